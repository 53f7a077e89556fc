/- Package dom as functions: the closest common dominator; what DomClosest looks at. -/
import Derived.Test.YtaklonfdckgdbaaD2
import Derived.Test.YtaklonfdckgdbaaW1
set_option linter.unusedVariables false
set_option linter.unusedSimpArgs false
set_option linter.unusedSectionVars false
namespace Go.SM
open Go.VL
def isB (f : SFunc) (l : List Int) : Bool := !(l.any fun k => decide (k < 0) || decide (k ≥ (f.blocks.length : Int)))
def closestF (f : SFunc) (a b : Int) : Int × Int :=
  if funcF f ≠ 0 then (0, funcF f) else if isB f [a, b] = false then (0, 4) else if gI (placeZ f.blocks) a < 0 ∨ gI (placeZ f.blocks) b < 0 then (0, 12)
  else (meetF (treeF f.blocks) (placeZ f.blocks) (2 * f.blocks.length + 1) a b, 0)
def graphV (f : SFunc) : V := .agg [intsX (if funcF f = 0 then treeF f.blocks else []), intsX (if funcF f = 0 then placeZ f.blocks else [])]
theorem meet_same (ov pl : List Int) : ∀ (n : Nat) (a : Int), meetF ov pl n a a = a
  | 0, a => rfl
  | n + 1, a => by rw [meetF, if_pos rfl]
theorem isB_pair {f : SFunc} {a b : Int} : isB f [a, b] = true ↔ (0 ≤ a ∧ a < f.blocks.length) ∧ 0 ≤ b ∧ b < f.blocks.length := by
  unfold isB
  simp only [List.any_cons, List.any_nil, Bool.or_false, Bool.not_eq_true', Bool.or_eq_false_iff, decide_eq_false_iff_not]
  omega
section
variable {bs : List SBlock} (ho : OrderOk bs (orderF bs)) {ov : List Int}
include ho
/-- A step of the climb. -/
theorem meet_walk (h : Tree bs ov) {n a b : Nat} (ha : InT bs ov a) (hb : InT bs ov b) (hn : pos bs a + pos bs b + 1 ≤ n) (hab : (a : Int) ≠ b) :
    ∃ (n' : Nat) (x y : Int), n = n' + 1 ∧ (placeZ bs)[a]? = some x ∧ (placeZ bs)[b]? = some y ∧
      (x > y → ∃ q : Nat, ov[a]? = some (q : Int) ∧ InT bs ov q ∧ pos bs q + pos bs b + 1 ≤ n' ∧ meetF ov (placeZ bs) n a b = meetF ov (placeZ bs) n' q b) ∧
      (¬ x > y → ∃ q : Nat, ov[b]? = some (q : Int) ∧ InT bs ov q ∧ pos bs a + pos bs q + 1 ≤ n' ∧ meetF ov (placeZ bs) n a b = meetF ov (placeZ bs) n' a q) := by
  obtain ⟨n', rfl⟩ : ∃ n', n = n' + 1 := ⟨n - 1, by omega⟩
  have hpa := (place_of ho ha.1).1
  have hpb := (place_of ho hb.1).1
  obtain ⟨x, hx⟩ : ∃ x, (placeZ bs)[a]? = some x := ⟨_, List.getElem?_eq_getElem (by rw [place_len]; exact ho.lt a ha.1)⟩
  obtain ⟨y, hy⟩ : ∃ y, (placeZ bs)[b]? = some y := ⟨_, List.getElem?_eq_getElem (by rw [place_len]; exact ho.lt b hb.1)⟩
  have hx2 := gI_get ho hx
  have hy2 := gI_get ho hy
  have hne : pos bs a ≠ pos bs b := fun e => hab (by rw [pos_inj ho ha.1 hb.1 e])
  refine ⟨n', x, y, rfl, hx, hy, fun hlt => ?_, fun hlt => ?_⟩
  · have h0 : a ≠ 0 := fun e => by subst e; rw [pos_zero ho] at hpa; omega
    obtain ⟨q, hq, hi, hp⟩ := h.parent ho ha h0
    exact ⟨q, hq, hi, by omega, by rw [meetF, if_neg hab, if_pos (by omega), gI_get ho hq]⟩
  · have h0 : b ≠ 0 := fun e => by subst e; rw [pos_zero ho] at hpb hne; omega
    obtain ⟨q, hq, hi, hp⟩ := h.parent ho hb h0
    exact ⟨q, hq, hi, by omega, by rw [meetF, if_neg hab, if_neg (by omega), gI_get ho hq]⟩
omit ho in
theorem skip_eq {ov pl : List Int} {k : Nat} {x y : Int} (hx : pl[k]? = some x) (hy : ov[k]? = some y) : skipP ov pl k = (decide (x < 0) || (decide ((k : Int) ≠ 0) && decide (y < 0))) := by
  unfold skipP gI
  rw [Int.toNat_natCast, hx, hy]
  rfl
theorem skip_inT (h : Tree bs ov) {k : Nat} (hk : k < bs.length) (hs : skipP ov (placeZ bs) k = false) : InT bs ov k := (skip_iff ho h hk).1 hs
theorem anc_root (h : Tree bs ov) : ∀ (n v : Nat), pos bs v < n → InT bs ov v → Anc ov v 0
  | 0, v, hn, _ => by omega
  | n + 1, v, hn, hv => by
    by_cases h0 : v = 0
    · subst h0; exact .refl _
    · obtain ⟨q, hq, hi, hp⟩ := h.parent ho hv h0
      exact .step hq (anc_root h n q (by omega) hi)
theorem anc_eq (h : Tree bs ov) {a b : Nat} (ha : InT bs ov a) (h1 : Anc ov a b) (h2 : Anc ov b a) : a = b := by
  have hb := h.anc ho ha h1
  have ha2 := h.anc ho hb.1 h2
  exact pos_inj ho ha.1 hb.1.1 (by omega)
/-- It does not matter which of the two stands first. -/
theorem meet_comm (h : Tree bs ov) {a b : Nat} (ha : InT bs ov a) (hb : InT bs ov b) : meetF ov (placeZ bs) (2 * bs.length + 1) b a = meetF ov (placeZ bs) (2 * bs.length + 1) a b := by
  have h1 := InT.fuel ho ha
  have h2 := InT.fuel ho hb
  obtain ⟨c, e, hc, c1, c2, c3⟩ := meet_ok ho h (2 * bs.length + 1) a b ha hb (by omega)
  obtain ⟨d, e', hd, d1, d2, d3⟩ := meet_ok ho h (2 * bs.length + 1) b a hb ha (by omega)
  rw [e, e', anc_eq ho h hd (d3 c c2 c1) (c3 d d2 d1)]
/-! ### The climbs of the law -/
/-- What is in the list of the blocks above a. -/
structure Up (bs : List SBlock) (ov : List Int) (a : Nat) (l : List Int) (k : Int) (n : Nat) : Prop where
  len : l.length = n
  at_ : k = -1 ∨ ∃ v : Nat, k = v ∧ InT bs ov v ∧ n + pos bs v ≤ pos bs a
  mem : ∀ y : Nat, Anc ov a y ↔ (y : Int) ∈ l ∨ ∃ v : Nat, k = v ∧ Anc ov v y
  le : n ≤ bs.length
omit ho in
theorem up_start {a : Nat} (ha : InT bs ov a) : Up bs ov a [] a 0 := ⟨rfl, .inr ⟨a, rfl, ha, by omega⟩, fun y => ⟨fun h => .inr ⟨a, rfl, h⟩, fun h => by
  rcases h with h | ⟨v, hv, h⟩
  · cases h
  · have : a = v := by omega
    subst this
    exact h⟩, Nat.zero_le _⟩
theorem up_step (h : Tree bs ov) {a : Nat} (ha : InT bs ov a) {l : List Int} {k : Int} {n : Nat} (u : Up bs ov a l k n) (hk : 0 ≤ k) : ∃ (v : Nat) (x : Int), k = v ∧ ov[v]? = some x ∧ Up bs ov a (l ++ [k]) x (n + 1) := by
  have hfa := InT.fuel ho ha
  rcases u.at_ with h1 | ⟨v, rfl, hv, hp⟩
  · omega
  · obtain ⟨x, hx⟩ : ∃ x, ov[v]? = some x := ⟨_, List.getElem?_eq_getElem (by rw [h.len]; exact ho.lt v hv.1)⟩
    refine ⟨v, x, rfl, hx, ⟨by rw [List.length_append, u.len]; rfl, ?_, fun y => ?_, by omega⟩⟩
    · by_cases h0 : v = 0
      · subst h0
        rw [h.root] at hx
        injection hx with hx
        exact .inl hx.symm
      · obtain ⟨q, hq, hi, hlt⟩ := h.parent ho hv h0
        rw [hx] at hq
        injection hq with hq
        exact .inr ⟨q, hq, hi, by omega⟩
    · rw [u.mem, List.mem_append, List.mem_singleton]
      constructor
      · rintro (h1 | ⟨v', hv', h1⟩)
        · exact .inl (.inl h1)
        · have : v = v' := by omega
          subst this
          cases h1 with
          | refl => exact .inl (.inr rfl)
          | @step _ q _ hq h1 =>
            rw [hx] at hq
            injection hq with hq
            exact .inr ⟨q, hq, h1⟩
      · rintro ((h1 | h1) | ⟨q, rfl, h1⟩)
        · exact .inl h1
        · have : y = v := by omega
          subst this
          exact .inr ⟨y, rfl, .refl _⟩
        · exact .inr ⟨v, rfl, .step hx h1⟩
theorem up_end (h : Tree bs ov) {a : Nat} (ha : InT bs ov a) {l : List Int} {k : Int} {n : Nat} (u : Up bs ov a l k n) (hk : ¬ (0 ≤ k ∧ (n : Int) ≤ bs.length)) : ∀ y : Nat, Anc ov a y ↔ (y : Int) ∈ l := fun y => by
  have hfa := InT.fuel ho ha
  rw [u.mem]
  constructor
  · rintro (h1 | ⟨v, rfl, h1⟩)
    · exact h1
    · rcases u.at_ with h2 | ⟨v', _, _, h2⟩ <;> omega
  · exact .inl
/-- The climb from b, until a block above a. -/
structure Climb (bs : List SBlock) (ov : List Int) (a b : Nat) (v n : Nat) : Prop where
  at_ : Anc ov b v
  bound : n + pos bs v ≤ pos bs b
  none : ∀ y, Anc ov b y → pos bs v < pos bs y → ¬ Anc ov a y
omit ho in
theorem climb_start {a b : Nat} (hpos : ∀ y, Anc ov b y → pos bs y ≤ pos bs b) : Climb bs ov a b b 0 := ⟨.refl _, by omega, fun y hy hlt => by have := hpos y hy; omega⟩
theorem climb_step (h : Tree bs ov) {a b v n : Nat} (ha : InT bs ov a) (hb : InT bs ov b) (c : Climb bs ov a b v n) (hv : ¬ Anc ov a v) : ∃ q : Nat, ov[v]? = some (q : Int) ∧ Climb bs ov a b q (n + 1) := by
  have hvi := (h.anc ho hb c.at_).1
  have h0 : v ≠ 0 := fun e => by subst e; exact hv (anc_root ho h _ a (Nat.lt_succ_self _) ha)
  obtain ⟨q, hq, hi, hlt⟩ := h.parent ho hvi h0
  have hbq : Anc ov b q := c.at_.trans (.step hq (.refl _))
  refine ⟨q, hq, hbq, by have := c.bound; omega, fun y hy hlt2 hay => ?_⟩
  by_cases hyv : pos bs v < pos bs y
  · exact c.none y hy hyv hay
  · have hvy : Anc ov v y := h.chain ho hb hy c.at_ (by omega)
    rcases h.cases ho hq hvy with rfl | hqy
    · exact hv hay
    · have := (h.anc ho hi hqy).2.1
      omega
theorem climb_end (h : Tree bs ov) {a b v n : Nat} (ha : InT bs ov a) (hb : InT bs ov b) (c : Climb bs ov a b v n) (hv : Anc ov a v) : meetF ov (placeZ bs) (2 * bs.length + 1) a b = v := by
  have h1 := InT.fuel ho ha
  have h2 := InT.fuel ho hb
  obtain ⟨d, e, hd, d1, d2, d3⟩ := meet_ok ho h (2 * bs.length + 1) a b ha hb (by omega)
  have hdv := d3 v hv c.at_
  have hvi := (h.anc ho hb c.at_).1
  have hle := (h.anc ho hd hdv).2.1
  have hge : ¬ pos bs v < pos bs d := fun hlt => c.none d d2 hlt d1
  rw [e, pos_inj ho hd.1 hvi.1 (by omega)]
end
theorem place_inT {f : SFunc} (ho : OrderOk f.blocks (orderF f.blocks)) (ht : TreeOk f.blocks (treeF f.blocks)) {v : Nat} (hv : v < f.blocks.length) (hn : ¬ gI (placeZ f.blocks) v < 0) : InT f.blocks (treeF f.blocks) v := by
  rcases place_get hv with ⟨h, _⟩ | ⟨i, _, h⟩
  · omega
  · exact ht.all v (List.mem_of_getElem? h)
/-- What the law's first answer says of the two blocks. -/
theorem closest_ok {f : SFunc} {a b : Nat} (h0 : funcF f = 0) (ho : OrderOk f.blocks (orderF f.blocks)) (ht : TreeOk f.blocks (treeF f.blocks)) (ha : a < f.blocks.length) (hb : b < f.blocks.length) :
    (closestF f a b).2 = 12 ∨ (closestF f a b).2 = 0 ∧ InT f.blocks (treeF f.blocks) a ∧ InT f.blocks (treeF f.blocks) b ∧ (closestF f a b).1 = meetF (treeF f.blocks) (placeZ f.blocks) (2 * f.blocks.length + 1) a b ∧ closestF f b a = closestF f a b := by
  have hin : ∀ {v : Nat}, v < f.blocks.length → ¬ gI (placeZ f.blocks) v < 0 → InT f.blocks (treeF f.blocks) v := fun {v} hv hn => by
    rcases place_get hv with ⟨h, _⟩ | ⟨i, _, h⟩
    · omega
    · exact ht.all v (List.mem_of_getElem? h)
  have e : ∀ u v : Nat, u < f.blocks.length → v < f.blocks.length → closestF f u v = if gI (placeZ f.blocks) u < 0 ∨ gI (placeZ f.blocks) v < 0 then (0, 12) else (meetF (treeF f.blocks) (placeZ f.blocks) (2 * f.blocks.length + 1) u v, 0) := fun u v hu hv => by
    unfold closestF
    rw [if_neg (by rw [h0]; decide), if_neg (by rw [Bool.not_eq_false, isB_pair]; omega)]
  rw [e a b ha hb, e b a hb ha]
  by_cases hc : gI (placeZ f.blocks) a < 0 ∨ gI (placeZ f.blocks) b < 0
  · rw [if_pos hc]
    exact .inl rfl
  · have hA := hin ha fun h => hc (.inl h)
    have hB := hin hb fun h => hc (.inr h)
    rw [if_neg hc, if_neg (fun h => hc h.symm), meet_comm ho ht.inv.tree hA hB]
    exact .inr ⟨rfl, hA, hB, rfl, rfl⟩
end Go.SM
