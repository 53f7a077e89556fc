import Derived.Test.YtnklonhioneeoaaD2
import Derived.Test.YtnklonhioneeoaaW1
set_option linter.unusedVariables false
set_option linter.unusedSimpArgs false
set_option linter.unusedSectionVars false
namespace Go.SM
open Go.VL
def isB (f : SFunc) (l : List Int) : Bool := !(l.any fun k => decide (k < 0) || decide (k ≥ (f.blocks.length : Int)))
def graphV (f : SFunc) : V := .agg [intsX (if funcF f = 0 then treeF f.blocks else []), intsX (if funcF f = 0 then placeZ f.blocks else [])]
theorem meet_same (ov pl : List Int) : ∀ (n : Nat) (a : Int), meetF ov pl n a a = a
  | 0, a => rfl
  | n + 1, a => by rw [meetF, if_pos rfl]
theorem isB_pair {f : SFunc} {a b : Int} : isB f [a, b] = true ↔ (0 ≤ a ∧ a < f.blocks.length) ∧ 0 ≤ b ∧ b < f.blocks.length := by
  unfold isB
  simp only [List.any_cons, List.any_nil, Bool.or_false, Bool.not_eq_true', Bool.or_eq_false_iff, decide_eq_false_iff_not]
  omega
section
variable {bs : List SBlock} (ho : OrderOk bs (orderF bs)) {ov : List Int}
include ho
theorem meet_walk (h : Tree bs ov) {n a b : Nat} (ha : InT bs ov a) (hb : InT bs ov b) (hn : pos bs a + pos bs b + 1 ≤ n) (hab : (a : Int) ≠ b) :
    ∃ (n' : Nat) (x y : Int), n = n' + 1 ∧ (placeZ bs)[a]? = some x ∧ (placeZ bs)[b]? = some y ∧
      (x > y → ∃ q : Nat, ov[a]? = some (q : Int) ∧ InT bs ov q ∧ pos bs q + pos bs b + 1 ≤ n' ∧ meetF ov (placeZ bs) n a b = meetF ov (placeZ bs) n' q b) ∧
      (¬ x > y → ∃ q : Nat, ov[b]? = some (q : Int) ∧ InT bs ov q ∧ pos bs a + pos bs q + 1 ≤ n' ∧ meetF ov (placeZ bs) n a b = meetF ov (placeZ bs) n' a q) := by
  obtain ⟨n', rfl⟩ : ∃ n', n = n' + 1 := ⟨n - 1, by omega⟩
  have hpa := (place_of ho ha.1).1
  have hpb := (place_of ho hb.1).1
  obtain ⟨x, hx⟩ : ∃ x, (placeZ bs)[a]? = some x := ⟨_, List.getElem?_eq_getElem (by rw [place_len]; exact ho.lt a ha.1)⟩
  obtain ⟨y, hy⟩ : ∃ y, (placeZ bs)[b]? = some y := ⟨_, List.getElem?_eq_getElem (by rw [place_len]; exact ho.lt b hb.1)⟩
  have hx2 := gI_get ho hx
  have hy2 := gI_get ho hy
  have hne : pos bs a ≠ pos bs b := fun e => hab (by rw [pos_inj ho ha.1 hb.1 e])
  refine ⟨n', x, y, rfl, hx, hy, fun hlt => ?_, fun hlt => ?_⟩
  · have h0 : a ≠ 0 := fun e => by subst e; rw [pos_zero ho] at hpa; omega
    obtain ⟨q, hq, hi, hp⟩ := h.parent ho ha h0
    exact ⟨q, hq, hi, by omega, by rw [meetF, if_neg hab, if_pos (by omega), gI_get ho hq]⟩
  · have h0 : b ≠ 0 := fun e => by subst e; rw [pos_zero ho] at hpb hne; omega
    obtain ⟨q, hq, hi, hp⟩ := h.parent ho hb h0
    exact ⟨q, hq, hi, by omega, by rw [meetF, if_neg hab, if_neg (by omega), gI_get ho hq]⟩
omit ho in
theorem skip_eq {ov pl : List Int} {k : Nat} {x y : Int} (hx : pl[k]? = some x) (hy : ov[k]? = some y) : skipP ov pl k = (decide (x < 0) || (decide ((k : Int) ≠ 0) && decide (y < 0))) := by
  unfold skipP gI
  rw [Int.toNat_natCast, hx, hy]
  rfl
theorem skip_inT (h : Tree bs ov) {k : Nat} (hk : k < bs.length) (hs : skipP ov (placeZ bs) k = false) : InT bs ov k := (skip_iff ho h hk).1 hs
theorem anc_eq (h : Tree bs ov) {a b : Nat} (ha : InT bs ov a) (h1 : Anc ov a b) (h2 : Anc ov b a) : a = b := by
  have hb := h.anc ho ha h1
  have ha2 := h.anc ho hb.1 h2
  exact pos_inj ho ha.1 hb.1.1 (by omega)
structure Up (bs : List SBlock) (ov : List Int) (a : Nat) (l : List Int) (k : Int) (n : Nat) : Prop where
  len : l.length = n
  at_ : k = -1 ∨ ∃ v : Nat, k = v ∧ InT bs ov v ∧ n + pos bs v ≤ pos bs a
  mem : ∀ y : Nat, Anc ov a y ↔ (y : Int) ∈ l ∨ ∃ v : Nat, k = v ∧ Anc ov v y
  le : n ≤ bs.length
omit ho in
structure Climb (bs : List SBlock) (ov : List Int) (a b : Nat) (v n : Nat) : Prop where
  at_ : Anc ov b v
  bound : n + pos bs v ≤ pos bs b
  none : ∀ y, Anc ov b y → pos bs v < pos bs y → ¬ Anc ov a y
omit ho in
end
theorem place_inT {f : SFunc} (ho : OrderOk f.blocks (orderF f.blocks)) (ht : TreeOk f.blocks (treeF f.blocks)) {v : Nat} (hv : v < f.blocks.length) (hn : ¬ gI (placeZ f.blocks) v < 0) : InT f.blocks (treeF f.blocks) v := by
  rcases place_get hv with ⟨h, _⟩ | ⟨i, _, h⟩
  · omega
  · exact ht.all v (List.mem_of_getElem? h)
end Go.SM
