import Derived.Test.YtjekhhgjfelpgaaVT
import Derived.Test.YtjekhhgjfelpgaaS2
import Derived.Test.YtjekhhgjfelpgaaVM
import Derived.Test.YtjekhhgjfelpgaaDZ
import Derived.Test.YtjekhhgjfelpgaaXS
import Derived.Test.YtjekhhgjfelpgaaX1
import Derived.Test.YtjekhhgjfelpgaaX2
import Derived.Test.YtjekhhgjfelpgaaX3
import Derived.Test.YtjekhhgjfelpgaaX4
import Derived.Test.YtjekhhgjfelpgaaX5
import Derived.Test.YtjekhhgjfelpgaaX6
import Derived.Test.YtjekhhgjfelpgaaX7
import Derived.Test.YtjekhhgjfelpgaaX8
import Derived.Test.YtjekhhgjfelpgaaX9
import Derived.Test.YtjekhhgjfelpgaaX10
import Derived.Test.YtjekhhgjfelpgaaX12
import Derived.Test.YtjekhhgjfelpgaaX13
import Derived.Test.YtjekhhgjfelpgaaX20
import Derived.Test.YtjekhhgjfelpgaaX25
set_option linter.unusedVariables false
set_option linter.unusedSimpArgs false
namespace Go.Proofs.Ytjekhhgjfelpgaa.X26
open Go.VL Go.SM Go.Proofs.Ytjekhhgjfelpgaa Go.Proofs.Ytjekhhgjfelpgaa.XS Go.Proofs.Ytjekhhgjfelpgaa.X1 Go.Proofs.Ytjekhhgjfelpgaa.X2 Go.Proofs.Ytjekhhgjfelpgaa.X3 Go.Proofs.Ytjekhhgjfelpgaa.X4 Go.Proofs.Ytjekhhgjfelpgaa.X5 Go.Proofs.Ytjekhhgjfelpgaa.X6 Go.Proofs.Ytjekhhgjfelpgaa.X7 Go.Proofs.Ytjekhhgjfelpgaa.X8 Go.Proofs.Ytjekhhgjfelpgaa.X9 Go.Proofs.Ytjekhhgjfelpgaa.X10 Go.Proofs.Ytjekhhgjfelpgaa.X12 Go.Proofs.Ytjekhhgjfelpgaa.X13 Go.Proofs.Ytjekhhgjfelpgaa.X20 Go.Proofs.Ytjekhhgjfelpgaa.X25
def reE (at_ : List Int) (e : SEdge) : SEdge := ⟨gI at_ e.block, e.args⟩
def blk (f : SFunc) (v : Nat) : SBlock := f.blocks[v]?.getD default
structure PInv (f : SFunc) (rows rows2 : List (Option XRow)) (i : Nat) : Prop where
  len : rows2.length = rows.length
  row : ∀ (v : Nat) (b : SBlock) (o o2 : Option XRow), f.blocks[v]? = some b → rows[v]? = some o → rows2[v]? = some o2 → xLeaf o2 = xLeaf o ∧ xOk 2 o2 ∧ xl o2 = (if v ∈ (reachN f).take i then b.term.to.map (reE (atF f)) else b.term.to).map edgeV
theorem cp_ok {f : SFunc} (h0 : funcF f = 0) : CpOk f := by
  have hok := func_ok h0
  have fi := func_iff.1 h0
  have hl := nodup_wi fi.kok.nodup fi.kok.wi
  rw [keysL] at hl
  have h128 := hok.len
  have hp : ∀ b ∈ f.blocks, b.params.length ≤ 4096 ∧ b.ins.length ≤ 4096 := fun b hb => by
    obtain ⟨s, t, e⟩ := List.append_of_mem hb
    rw [e, List.flatMap_append, List.flatMap_cons, List.length_append, List.length_append, List.length_map, dB, List.length_append, keysI_len, List.length_map] at hl
    omega
  refine ⟨by omega, fun b hb => ?_⟩
  obtain ⟨b1, b2⟩ := fi.block b hb
  have he := endF_ok b2
  have h1 := hp b hb
  have h2 := term_edges hok hb
  have h3 := he.many
  refine ⟨by omega, by omega, by omega, by omega, fun i hi => ?_, fun e hem => ?_⟩
  · have := (form_of (b1 i hi)).many
    omega
  · obtain ⟨x1, x2, x3⟩ := he.edges e hem
    obtain ⟨c, hc⟩ : ∃ c, f.blocks[e.block.toNat]? = some c := ⟨_, List.getElem?_eq_getElem (by omega)⟩
    have h4 := (hp c (List.mem_of_getElem? hc)).1
    unfold paramsOf at x3
    rw [hc] at x3
    have x3 : e.args.length = c.params.length := x3
    omega
theorem fits_es (l : List SEdge) : ∀ x ∈ l.map edgeV, x.fits 2 = true ∧ ((∃ ls, x = .agg ls) ∨ x.leaf = true) := fun x hx => by
  obtain ⟨n, _, rfl⟩ := List.mem_map.1 hx
  exact ⟨rfl, .inl ⟨_, rfl⟩⟩
theorem freeze_blocks {nt : Nat} {Q : Exit → Fr → Store → Prop} {F : Fr} {c : Code} (go : Nat) (rest : List V) : ∀ (L : List (SBlock × Option XRow)) (pre : List V) (R : Store), (∀ x ∈ L, xl x.2 = x.1.term.to.map edgeV ∧ xOk 2 x.2) → VW Try.prog nt c Q F (.cells go 48 (pre ++ ((L.map fun x => blockV x.1).flatMap V.leaves ++ rest)) :: R) → VW Try.prog nt c Q F (.cells go 48 (pre ++ ((L.map fun x => cpV x.1 x.2).flatMap V.leaves ++ rest)) :: (eOwn (L.map (·.2)) ++ R))
  | [], pre, R, _, h => h
  | (b, o) :: L, pre, R, ho, h => by
    obtain ⟨hx, hk⟩ := ho _ (List.mem_cons_self ..)
    have e : ∀ (a : List V) (l : List V), pre ++ (a ++ l ++ rest) = (pre ++ a) ++ (l ++ rest) := fun a l => by simp
    have h2 := freeze_blocks go rest L (pre ++ (blockV b).leaves) R (fun x hx => ho x (List.mem_cons_of_mem _ hx)) (by rw [List.map_cons, List.flatMap_cons, e] at h; exact h)
    have hset : ∀ (x y : V), (pre ++ ([intsX b.params, inssX b.ins, .int b.term.kind, .int b.term.arg, .int b.term.n, intsX b.term.cases, x] ++ (L.map fun x => cpV x.1 x.2).flatMap V.leaves ++ rest)).set (pre.length + 6) y = (pre ++ [intsX b.params, inssX b.ins, .int b.term.kind, .int b.term.arg, .int b.term.n, intsX b.term.cases, y]) ++ ((L.map fun x => cpV x.1 x.2).flatMap V.leaves ++ rest) := fun x y => by
      rw [List.set_append_right _ _ (by omega), Nat.add_sub_cancel_left]
      simp
    have hget : ∀ (x : V), (pre ++ ([intsX b.params, inssX b.ins, .int b.term.kind, .int b.term.arg, .int b.term.n, intsX b.term.cases, x] ++ (L.map fun x => cpV x.1 x.2).flatMap V.leaves ++ rest))[pre.length + 6]? = some x := fun x => by
      rw [List.getElem?_append_right (by omega), Nat.add_sub_cancel_left]
      rfl
    rw [List.map_cons, List.flatMap_cons]
    cases o with
    | none =>
      have hto : b.term.to = [] := by
        have hx : ([] : List V) = b.term.to.map edgeV := hx
        exact List.map_eq_nil_iff.1 hx.symm
      refine VW_cellAt 0 (pre.length + 6) (v' := .sl 2 none []) rfl (hget V.nilSl) (V.le.nil 2) rfl ?_
      show VW Try.prog nt c Q F (.cells go 48 ((pre ++ ([intsX b.params, inssX b.ins, .int b.term.kind, .int b.term.arg, .int b.term.n, intsX b.term.cases, V.nilSl] ++ (L.map fun x => cpV x.1 x.2).flatMap V.leaves ++ rest)).set (pre.length + 6) (.sl 2 none [])) :: (eOwn (L.map (·.2)) ++ R))
      rw [hset]
      have e3 : (blockV b).leaves = [intsX b.params, inssX b.ins, .int b.term.kind, .int b.term.arg, .int b.term.n, intsX b.term.cases, .sl 2 none []] := by
        show [_, _, _, _, _, _, edgesX b.term.to] = _
        rw [hto]
        rfl
      rw [← e3]
      exact h2
    | some r =>
      obtain ⟨q2, q3, q4⟩ := hk
      have hx : r.xs = b.term.to.map edgeV := hx
      refine VW_freezeC 1 0 (pre.length + 6) (sz := 2) (rest := r.rest) (b.term.to.map edgeV) rfl rfl (hget _) (by rw [hx]) (by rw [hx]) q2 q3 (fits_es _) ?_
      show VW Try.prog nt c Q F (.cells go 48 ((pre ++ ([intsX b.params, inssX b.ins, .int b.term.kind, .int b.term.arg, .int b.term.n, intsX b.term.cases, xLeaf (some r)] ++ (L.map fun x => cpV x.1 x.2).flatMap V.leaves ++ rest)).set (pre.length + 6) (.sl 2 none (b.term.to.map edgeV))) :: (eOwn (L.map (·.2)) ++ R))
      rw [hset]
      exact h2
theorem fits_bs (l : List SBlock) : ∀ x ∈ l.map blockV, x.fits 7 = true ∧ ((∃ ls, x = .agg ls) ∨ x.leaf = true) := fun x hx => by
  obtain ⟨n, _, rfl⟩ := List.mem_map.1 hx
  exact ⟨rfl, .inl ⟨_, rfl⟩⟩
open Go.VL renaming VOps_nil → Za, VW_seq → Zb, VW_region → Zd, Then_n → Zi, V_assign → Zk, V_move → Zl, V_load_agg → Zv, VW_ret → Zf1, VRet_many → Zh1, V_callP → Zx1, V_box → Zc2, V_extract → Zg2, VOp_as → Zu2
end Go.Proofs.Ytjekhhgjfelpgaa.X26
