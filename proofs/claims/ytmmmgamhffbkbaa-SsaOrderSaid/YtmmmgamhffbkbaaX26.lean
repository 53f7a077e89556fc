import Derived.Test.YtmmmgamhffbkbaaVT
import Derived.Test.YtmmmgamhffbkbaaS2
import Derived.Test.YtmmmgamhffbkbaaVM
import Derived.Test.YtmmmgamhffbkbaaDZ
import Derived.Test.YtmmmgamhffbkbaaX1
import Derived.Test.YtmmmgamhffbkbaaX2
import Derived.Test.YtmmmgamhffbkbaaX3
import Derived.Test.YtmmmgamhffbkbaaX4
import Derived.Test.YtmmmgamhffbkbaaX5
import Derived.Test.YtmmmgamhffbkbaaX6
import Derived.Test.YtmmmgamhffbkbaaX7
import Derived.Test.YtmmmgamhffbkbaaX8
import Derived.Test.YtmmmgamhffbkbaaX9
import Derived.Test.YtmmmgamhffbkbaaX10
import Derived.Test.YtmmmgamhffbkbaaXW
import Derived.Test.YtmmmgamhffbkbaaX25
set_option linter.unusedVariables false
set_option linter.unusedSimpArgs false
namespace Go.Proofs.Ytmmmgamhffbkbaa.X26
open Go.VL Go.SM Go.Proofs.Ytmmmgamhffbkbaa Go.Proofs.Ytmmmgamhffbkbaa.X1 Go.Proofs.Ytmmmgamhffbkbaa.X2 Go.Proofs.Ytmmmgamhffbkbaa.X3 Go.Proofs.Ytmmmgamhffbkbaa.X4 Go.Proofs.Ytmmmgamhffbkbaa.X5 Go.Proofs.Ytmmmgamhffbkbaa.X6 Go.Proofs.Ytmmmgamhffbkbaa.X7 Go.Proofs.Ytmmmgamhffbkbaa.X8 Go.Proofs.Ytmmmgamhffbkbaa.X9 Go.Proofs.Ytmmmgamhffbkbaa.X10 Go.Proofs.Ytmmmgamhffbkbaa.XW Go.Proofs.Ytmmmgamhffbkbaa.X25
def reE (at_ : List Int) (e : SEdge) : SEdge := ⟨gI at_ e.block, e.args⟩
def setE (o : Option XRow) (es : List SEdge) : Option XRow := o.map fun r => ⟨r.g, r.cap, es.map edgeV, r.rest⟩
def blk (f : SFunc) (v : Nat) : SBlock := f.blocks[v]?.getD default
def ecells (es : List SEdge) : List V := es.flatMap fun e => [.int e.block, intsX e.args]
theorem ecells_eq (es : List SEdge) : (es.map edgeV).flatMap V.leaves = ecells es := by
  rw [List.flatMap_map]
  rfl
theorem ecells_get {es : List SEdge} {j : Nat} {e : SEdge} (h : es[j]? = some e) : (ecells es)[j * 2]? = some (.int e.block) := by
  induction es generalizing j with
  | nil => simp at h
  | cons a es ih =>
    have hl : ecells (a :: es) = [.int a.block, intsX a.args] ++ ecells es := rfl
    cases j with
    | zero =>
      have h : a = e := by simpa using h
      subst h
      rfl
    | succ j =>
      have h : es[j]? = some e := by simpa using h
      rw [hl, show (j + 1) * 2 = j * 2 + 2 by omega, List.getElem?_append_right (by simp)]
      exact ih h
theorem ecells_len (es : List SEdge) : (ecells es).length = es.length * 2 := by
  induction es with
  | nil => rfl
  | cons a es ih =>
    have hl : ecells (a :: es) = [.int a.block, intsX a.args] ++ ecells es := rfl
    rw [hl, List.length_append, ih]
    simp only [List.length_cons, List.length_nil]
    omega
theorem ecells_set {es : List SEdge} {j : Nat} {e : SEdge} (h : es[j]? = some e) (p : Int) : (ecells es).set (j * 2) (.int p) = ecells (es.set j ⟨p, e.args⟩) := by
  induction es generalizing j with
  | nil => simp at h
  | cons a es ih =>
    have hl : ∀ a : SEdge, ∀ es : List SEdge, ecells (a :: es) = [.int a.block, intsX a.args] ++ ecells es := fun _ _ => rfl
    cases j with
    | zero =>
      have h : a = e := by simpa using h
      subst h
      rfl
    | succ j =>
      have h : es[j]? = some e := by simpa using h
      rw [List.set_cons_succ, hl, hl, ← ih h, List.set_append]
      have e1 : ¬ ((j + 1) * 2 < ([V.int a.block, intsX a.args] : List V).length) := by simp only [List.length_cons, List.length_nil]; omega
      have e2 : (j + 1) * 2 - ([V.int a.block, intsX a.args] : List V).length = j * 2 := by simp only [List.length_cons, List.length_nil]; omega
      rw [if_neg e1, e2]
theorem setE_self {o : Option XRow} {es : List SEdge} (h : xl o = es.map edgeV) : setE o es = o := by
  cases o with
  | none => rfl
  | some r =>
    have h : r.xs = es.map edgeV := h
    show some (XRow.mk r.g r.cap (es.map edgeV) r.rest) = some r
    rw [← h]
theorem eown_set {rows : List (Option XRow)} {v : Nat} (hv : v < rows.length) (o : Option XRow) : (eOwn (rows.set v o)).Perm (xOwn 48 o ++ eOwn (rows.set v none)) := by
  have h2 : ∀ x, rows.set v x = rows.take v ++ x :: rows.drop (v + 1) := fun x => by rw [List.set_eq_take_append_cons_drop, if_pos hv]
  unfold eOwn
  rw [h2, h2, List.flatMap_append, List.flatMap_cons, List.flatMap_append, List.flatMap_cons]
  show (_ ++ (xOwn 48 o ++ _)).Perm (xOwn 48 o ++ (_ ++ ([] ++ _)))
  rw [List.nil_append, ← List.append_assoc, ← List.append_assoc]
  exact List.perm_append_comm.append_right _
structure PInv (f : SFunc) (rows rows2 : List (Option XRow)) (i : Nat) : Prop where
  len : rows2.length = rows.length
  row : ∀ (v : Nat) (b : SBlock) (o o2 : Option XRow), f.blocks[v]? = some b → rows[v]? = some o → rows2[v]? = some o2 → xLeaf o2 = xLeaf o ∧ xOk 2 o2 ∧ xl o2 = (if v ∈ (reachN f).take i then b.term.to.map (reE (atF f)) else b.term.to).map edgeV
theorem xLeaf_set {o : Option XRow} {es : List SEdge} (h : (xl o).length = es.length) : xLeaf (setE o es) = xLeaf o := by
  cases o with
  | none => rfl
  | some r =>
    have h : r.xs.length = es.length := h
    show V.raw (.slice (some ⟨r.g, 0, none⟩) (es.map edgeV).length r.cap) = .raw (.slice (some ⟨r.g, 0, none⟩) r.xs.length r.cap)
    rw [List.length_map, h]
theorem xOk_set {o : Option XRow} {es0 es : List SEdge} (h0 : xl o = es0.map edgeV) (h : es0.length = es.length) (hk : xOk 2 o) : xOk 2 (setE o es) := by
  cases o with
  | none => trivial
  | some r =>
    have h0 : r.xs = es0.map edgeV := h0
    obtain ⟨h1, h2, h3⟩ := hk
    rw [h0] at h1 h3
    rw [ecells_eq, List.length_append, ecells_len] at h3
    rw [List.length_map] at h1
    refine ⟨?_, h2, ?_⟩
    · show (es.map edgeV).length ≤ r.cap
      rw [List.length_map]; omega
    · show ((es.map edgeV).flatMap V.leaves ++ r.rest).length = r.cap * 2
      rw [ecells_eq, List.length_append, ecells_len]
      omega
theorem xl_set {o : Option XRow} {es : List SEdge} (h : (xl o).length = es.length) : xl (setE o es) = es.map edgeV := by
  cases o with
  | none =>
    have h : 0 = es.length := h
    rw [List.length_eq_zero_iff.1 h.symm]
    rfl
  | some r => rfl
theorem cpL_get {bs : List SBlock} {rows : List (Option XRow)} {v : Nat} {b : SBlock} {o : Option XRow} (hb : bs[v]? = some b) (ho : rows[v]? = some o) : (cpL bs rows)[v]? = some (cpV b o) := by
  unfold cpL
  rw [List.getElem?_zipWith, hb, ho]
theorem cp_ok {f : SFunc} (h0 : funcF f = 0) : CpOk f := by
  have hok := func_ok h0
  have fi := func_iff.1 h0
  have hl := nodup_wi fi.kok.nodup fi.kok.wi
  rw [keysL] at hl
  have h128 := hok.len
  have hp : ∀ b ∈ f.blocks, b.params.length ≤ 4096 ∧ b.ins.length ≤ 4096 := fun b hb => by
    obtain ⟨s, t, e⟩ := List.append_of_mem hb
    rw [e, List.flatMap_append, List.flatMap_cons, List.length_append, List.length_append, List.length_map, dB, List.length_append, keysI_len, List.length_map] at hl
    omega
  refine ⟨by omega, fun b hb => ?_⟩
  obtain ⟨b1, b2⟩ := fi.block b hb
  have he := endF_ok b2
  have h1 := hp b hb
  have h2 := term_edges hok hb
  have h3 := he.many
  refine ⟨by omega, by omega, by omega, by omega, fun i hi => ?_, fun e hem => ?_⟩
  · have := (form_of (b1 i hi)).many
    omega
  · obtain ⟨x1, x2, x3⟩ := he.edges e hem
    obtain ⟨c, hc⟩ : ∃ c, f.blocks[e.block.toNat]? = some c := ⟨_, List.getElem?_eq_getElem (by omega)⟩
    have h4 := (hp c (List.mem_of_getElem? hc)).1
    unfold paramsOf at x3
    rw [hc] at x3
    have x3 : e.args.length = c.params.length := x3
    omega
theorem fits_es (l : List SEdge) : ∀ x ∈ l.map edgeV, x.fits 2 = true ∧ ((∃ ls, x = .agg ls) ∨ x.leaf = true) := fun x hx => by
  obtain ⟨n, _, rfl⟩ := List.mem_map.1 hx
  exact ⟨rfl, .inl ⟨_, rfl⟩⟩
theorem row_get {es : List SEdge} {j : Nat} {e : SEdge} (h : es[j]? = some e) (rest : List V) : (ecells es ++ rest)[j * 2 + 0]? = some (.int e.block) := by
  have hj := (List.getElem?_eq_some_iff.1 h).1
  rw [Nat.add_zero, List.getElem?_append_left (by rw [ecells_len]; omega)]
  exact ecells_get h
theorem eown_some {rows : List (Option XRow)} {v : Nat} (hv : v < rows.length) (r : XRow) (es : List SEdge) : (eOwn (rows.set v (setE (some r) es))).Perm (.cells r.g 48 (ecells es ++ r.rest) :: eOwn (rows.set v none)) := by
  have h := eown_set hv (setE (some r) es)
  have e : xOwn 48 (setE (some r) es) = [.cells r.g 48 (ecells es ++ r.rest)] := by
    show [Own.cells r.g 48 ((es.map edgeV).flatMap V.leaves ++ r.rest)] = _
    rw [ecells_eq]
  rw [e] at h
  exact h
theorem cp_leaf {b : SBlock} {o o2 : Option XRow} (h : xLeaf o2 = xLeaf o) : cpV b o = cpV b o2 := by
  unfold cpV
  rw [h]
theorem row_some {o : Option XRow} {l : List SEdge} {j : Nat} {e : SEdge} (hx : xl o = l.map edgeV) (h : l[j]? = some e) : ∃ r, o = some r ∧ r.xs.length = l.length := by
  cases o with
  | none =>
    have hx : [] = l.map edgeV := hx
    have : l = [] := List.map_eq_nil_iff.1 hx.symm
    rw [this] at h
    cases h
  | some r =>
    have hx : r.xs = l.map edgeV := hx
    exact ⟨r, rfl, by rw [hx, List.length_map]⟩
end Go.Proofs.Ytmmmgamhffbkbaa.X26
