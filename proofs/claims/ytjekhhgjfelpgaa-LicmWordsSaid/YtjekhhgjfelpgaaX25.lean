import Derived.Test.YtjekhhgjfelpgaaVT
import Derived.Test.YtjekhhgjfelpgaaS2
import Derived.Test.YtjekhhgjfelpgaaVM
import Derived.Test.YtjekhhgjfelpgaaDZ
import Derived.Test.YtjekhhgjfelpgaaXS
import Derived.Test.YtjekhhgjfelpgaaX1
import Derived.Test.YtjekhhgjfelpgaaX2
import Derived.Test.YtjekhhgjfelpgaaX3
import Derived.Test.YtjekhhgjfelpgaaX4
import Derived.Test.YtjekhhgjfelpgaaX5
import Derived.Test.YtjekhhgjfelpgaaX6
import Derived.Test.YtjekhhgjfelpgaaX7
import Derived.Test.YtjekhhgjfelpgaaX8
import Derived.Test.YtjekhhgjfelpgaaX9
import Derived.Test.YtjekhhgjfelpgaaX10
import Derived.Test.YtjekhhgjfelpgaaX12
import Derived.Test.YtjekhhgjfelpgaaX13
set_option linter.unusedVariables false
set_option linter.unusedSimpArgs false
namespace Go.Proofs.Ytjekhhgjfelpgaa.X25
open Go.VL Go.SM Go.Proofs.Ytjekhhgjfelpgaa Go.Proofs.Ytjekhhgjfelpgaa.XS Go.Proofs.Ytjekhhgjfelpgaa.X1 Go.Proofs.Ytjekhhgjfelpgaa.X2 Go.Proofs.Ytjekhhgjfelpgaa.X3 Go.Proofs.Ytjekhhgjfelpgaa.X4 Go.Proofs.Ytjekhhgjfelpgaa.X5 Go.Proofs.Ytjekhhgjfelpgaa.X6 Go.Proofs.Ytjekhhgjfelpgaa.X7 Go.Proofs.Ytjekhhgjfelpgaa.X8 Go.Proofs.Ytjekhhgjfelpgaa.X9 Go.Proofs.Ytjekhhgjfelpgaa.X10 Go.Proofs.Ytjekhhgjfelpgaa.X12 Go.Proofs.Ytjekhhgjfelpgaa.X13
def cpV (b : SBlock) (o : Option XRow) : V := .agg [intsX b.params, inssX b.ins, .int b.term.kind, .int b.term.arg, .int b.term.n, intsX b.term.cases, xLeaf o]
def cpL (bs : List SBlock) (rows : List (Option XRow)) : List V := List.zipWith cpV bs rows
abbrev eOwn (rows : List (Option XRow)) : Store := rows.flatMap (xOwn 61)
structure RowsOk (bs : List SBlock) (rows : List (Option XRow)) : Prop where
  len : rows.length = bs.length
  row : ∀ (k : Nat) (b : SBlock) (o : Option XRow), bs[k]? = some b → rows[k]? = some o → xl o = b.term.to.map edgeV ∧ xOk 2 o
theorem xLeaf_leaf (o : Option XRow) : (xLeaf o).leaf = true := by cases o <;> rfl
theorem cpV_fit (b : SBlock) (o : Option XRow) : ([cpV b o] : List V).all (V.fits 7) = true := by cases o <;> rfl
theorem cpL_snoc {bs : List SBlock} {rows : List (Option XRow)} {k : Nat} {b : SBlock} (o : Option XRow) (h : RowsOk (bs.take k) rows) (hb : bs[k]? = some b) : cpL (bs.take k) rows ++ [cpV b o] = cpL (bs.take (k + 1)) (rows ++ [o]) := by
  unfold cpL
  rw [take_snoc hb, List.zipWith_append h.len.symm]
  rfl
theorem cpL_len {bs : List SBlock} {rows : List (Option XRow)} (h : RowsOk bs rows) : (cpL bs rows).length = bs.length := by
  unfold cpL
  rw [List.length_zipWith, h.len, Nat.min_self]
theorem rows_nil : RowsOk [] [] := ⟨rfl, fun k b o hb => by simp at hb⟩
theorem rows_snoc {bs : List SBlock} {rows : List (Option XRow)} {k : Nat} {b : SBlock} {o : Option XRow} (h : RowsOk (bs.take k) rows) (hb : bs[k]? = some b) (h1 : xl o = b.term.to.map edgeV) (h2 : xOk 2 o) : RowsOk (bs.take (k + 1)) (rows ++ [o]) := by
  have hl := h.len
  have hkb := (List.getElem?_eq_some_iff.1 hb).1
  rw [List.length_take] at hl
  refine ⟨by rw [take_snoc hb, List.length_append, List.length_append, h.len]; rfl, fun j c p hc hp => ?_⟩
  rw [take_snoc hb] at hc
  by_cases hj : j < rows.length
  · rw [List.getElem?_append_left hj] at hp
    rw [List.getElem?_append_left (by rw [← h.len]; exact hj)] at hc
    exact h.row j c p hc hp
  · rw [List.getElem?_append_right (by omega)] at hp
    rw [List.getElem?_append_right (by rw [← h.len]; omega), ← h.len] at hc
    have hj0 : j - rows.length = 0 := by
      have := (List.getElem?_eq_some_iff.1 hp).1
      simp at this
      omega
    rw [hj0] at hc hp
    have hc : b = c := by simpa using hc
    have hp : o = p := by simpa using hp
    subst hc hp
    exact ⟨h1, h2⟩
theorem edges_2 {xs : List V} {l : List SEdge} (h : xs = l.map edgeV) : ∀ v ∈ xs, v.leaves.length = 2 := fun v hv => by
  rw [h] at hv
  obtain ⟨n, _, rfl⟩ := List.mem_map.1 hv
  rfl
theorem eflat_1 {x : V} (h : x.flat = true) : ∀ y ∈ [x], y.flat = true := fun y hy => by rw [List.mem_singleton.1 hy]; exact h
structure CpOk (f : SFunc) : Prop where
  many : f.blocks.length ≤ 1000
  block : ∀ b ∈ f.blocks, b.params.length ≤ 10000 ∧ b.ins.length ≤ 10000 ∧ b.term.cases.length ≤ 10000 ∧ b.term.to.length ≤ 10000 ∧ (∀ i ∈ b.ins, i.args.length ≤ 10000) ∧ ∀ e ∈ b.term.to, e.args.length ≤ 10000
theorem eown_snoc (rows : List (Option XRow)) (o : Option XRow) : (xOwn 61 o ++ eOwn rows).Perm (eOwn (rows ++ [o])) := by
  unfold eOwn
  rw [List.flatMap_append, List.flatMap_singleton]
  exact List.perm_append_comm
theorem cpL_7 {bs : List SBlock} {rows : List (Option XRow)} {xs : List V} (h : xs = cpL bs rows) : ∀ x ∈ xs, x.leaves.length = 7 := fun x hx => by
  rw [h] at hx
  obtain ⟨i, hi⟩ := List.getElem?_of_mem hx
  unfold cpL at hi
  rw [List.getElem?_zipWith] at hi
  split at hi
  · injection hi with hi
    rw [← hi]
    rfl
  · cases hi
theorem cpV_flat (b : SBlock) (o : Option XRow) : ∀ y ∈ [cpV b o], y.flat = true := fun y hy => by
  rw [List.mem_singleton.1 hy]
  cases o <;> rfl
end Go.Proofs.Ytjekhhgjfelpgaa.X25
