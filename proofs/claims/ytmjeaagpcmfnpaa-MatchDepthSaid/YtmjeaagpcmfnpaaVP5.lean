/- Patterns, the plain law: PatternsTurned. -/
import Derived.Test.YtmjeaagpcmfnpaaVP4
set_option linter.unusedVariables false
namespace Go.PM
open Go.VL
theorem patsF_iff {t : Tab} : ∀ {l : List Pat}, patsF t l = 0 ↔ ∀ q ∈ l, patF t q = 0
  | [] => by simp [patsF]
  | p :: l => by
    have ih := patsF_iff (t := t) (l := l)
    rw [patsF]
    by_cases hp : patF t p = 0
    · rw [if_neg (by simpa using hp), ih]
      simp [hp]
    · rw [if_pos hp]
      simp [hp]
theorem errRows_iff {t : Tab} : ∀ {rows : List (List Pat)}, errRows t rows = 0 ↔ ∀ r ∈ rows, patsF t r = 0
  | [] => by simp [errRows]
  | r :: rs => by
    have ih := errRows_iff (t := t) (rows := rs)
    rw [errRows]
    by_cases hr : patsF t r = 0
    · rw [if_neg (by simpa using hr), ih]
      simp [hr]
    · rw [if_pos hr]
      simp [hr]
theorem colsLoop_of {t : Tab} {rows : List (List Pat)} : ∀ (k n : Nat), (∀ i, n ≤ i → i < n + k → agreeF t 401 (colF rows i) = true) → colsLoop t rows n k = true
  | 0, n, _ => rfl
  | k + 1, n, h => by
    rw [colsLoop, h n (Nat.le_refl _) (by omega), Bool.true_and]
    exact colsLoop_of k (n + 1) fun i h1 h2 => h i (by omega) (by omega)
theorem checkF_zero {ds : List DataSig} {rows : List (List Pat)} {t : Tab} (hs : small ds rows = true) (hb : buildF 0 ds [] = some t) (ha : rows.all (sameLen rows) = true) (he : errRows t rows = 0) (hc : colsLoop t rows 0 (width rows) = true) : checkF ds rows = 0 := by
  simp [checkF, hs, hb, checkT, ha, he, hc]
theorem small_true {ds : List DataSig} {rows : List (List Pat)} (h : checkF ds rows = 0) : small ds rows = true := by
  unfold checkF at h
  cases hs : small ds rows with
  | true => rfl
  | false => rw [hs] at h; simp at h
theorem check_turn {ds : List DataSig} {rows : List (List Pat)} {c : Int} (h : checkF ds rows = 0) (hnb : ¬ missBad rows c) (h2 : 2 ≤ c) : checkF ds (rows.map turn) = 0 ∧ ¬ missBad (rows.map turn) c := by
  obtain ⟨t, hb⟩ := check_build h
  obtain ⟨hsm, ha, he, hc⟩ := check_parts h hb
  have hlen := row_len h hnb
  have hw : rows ≠ [] → (width rows : Int) = c := fun hne => by
    rcases Decidable.em (c = width rows) with h1 | h1
    · exact h1.symm
    · exact absurd (.inr (.inr ⟨hne, h1⟩)) hnb
  have hwt : width (rows.map turn) = width rows := by
    cases rows with
    | nil => rfl
    | cons r rs => simp [width, turn_sw, sw_len]
  have h2r : ∀ r ∈ rows, 2 ≤ r.length := fun r hr => by have := hlen r hr; omega
  refine ⟨checkF_zero (t := t) ?_ hb ?_ ?_ ?_, ?_⟩
  · have h1 := small_iff.1 (small_true h)
    refine small_iff.2 ⟨⟨fun r hr => ?_, by rw [cR_turn h2r]; exact h1.1.2⟩, by rw [List.length_map]; exact h1.2.1, h1.2.2⟩
    obtain ⟨r', hr', rfl⟩ := List.mem_map.1 hr
    have h3 := h1.1.1 r' hr'
    refine ⟨by rw [turn_sw, sw_len]; exact h3.1, ?_⟩
    have h4 := h3.2
    rw [dL, List.all_eq_true] at h4 ⊢
    exact fun p hp => h4 p (sw_mem anyP rfl (h2r r' hr') (by rw [← turn_sw]; exact hp))
  · rw [List.all_eq_true]
    intro r hr
    obtain ⟨r', hr', rfl⟩ := List.mem_map.1 hr
    unfold sameLen
    rw [hwt, turn_sw, sw_len]
    exact List.all_eq_true.1 ha r' hr'
  · rw [errRows_iff]
    intro r hr
    obtain ⟨r', hr', rfl⟩ := List.mem_map.1 hr
    rw [patsF_iff]
    intro p hp
    exact patsF_iff.1 (errRows_iff.1 he r' hr') p (sw_mem anyP rfl (h2r r' hr') (by rw [← turn_sw]; exact hp))
  · rw [hwt]
    refine colsLoop_of _ _ fun i _ hi => ?_
    rw [Nat.zero_add] at hi
    by_cases hne : rows = []
    · rw [hne] at hi; cases hi
    have hwc := hw hne
    have hcol : colF (rows.map turn) i = colF rows (sg (width rows) i) := by
      unfold colF
      rw [List.map_map]
      refine List.map_congr_left fun r hr => ?_
      have hrl : r.length = width rows := by have := hlen r hr; omega
      have := sw_get anyP hrl (by omega) i hi
      simp only [Function.comp, turn_sw, List.getD_eq_getElem?_getD, this]
    rw [hcol]
    exact colsLoop_all _ _ hc _ (Nat.zero_le _) (by have := sg_lt (n := width rows) (i := i) (by omega) hi; omega)
  · rintro (h1 | h1 | ⟨h1, h3⟩)
    · omega
    · exact hnb (.inr (.inl h1))
    · rw [hwt] at h3
      exact hnb (.inr (.inr ⟨fun e => h1 (by rw [e]; rfl), h3⟩))
/-- What Missing answers, told by what it means. -/
theorem missOut_lacks {ds : List DataSig} {rows : List (List Pat)} {c : Int} {t : Tab} {τs : List Ty} (hok : TabOk t ds) (h : checkF ds rows = 0) (hnb : ¬ missBad rows c) (hb : buildF 0 ds [] = some t) (hc : (τs.length : Int) = c) (hT : Typed ds t rows τs) (h1 : 1 ≤ c) :
    (missOut ds rows c).2 = 0 ∧ (0 < (missOut ds rows c).1.length ↔ Lacks ds τs rows) := by
  rw [missOut_ok h hnb hb, show c.toNat = τs.length by omega]
  have h2 := miss_iff hok fuel0 rows τs hT.pre hT.good
  have h3 := missF_len t ds fuel0 rows τs.length
  refine ⟨rfl, ?_⟩
  cases hm : (missF t ds fuel0 rows τs.length).2 with
  | true =>
    rw [hm] at h2 h3
    have := h3.2 rfl
    simp only [cond_true]
    exact ⟨fun _ => h2.1 rfl, fun _ => by omega⟩
  | false =>
    rw [hm] at h2
    simp only [cond_false]
    constructor
    · intro h; simp at h
    · intro h; cases h2.2 h
theorem typed_turn {ds : List DataSig} {rows : List (List Pat)} {t : Tab} {τs : List Ty} {n : Nat} (h2 : 2 ≤ n) (hn : τs.length = n) (hl : ∀ r ∈ rows, r.length = n) (h : Typed ds t rows τs) : Typed ds t (rows.map turn) (sw .any τs) := by
  refine ⟨fun τ hτ => h.good τ (sw_mem .any hn h2 hτ), ⟨fun r hr => ?_, by rw [List.length_map]; exact h.pre.len, ?_⟩⟩
  · obtain ⟨r', hr', rfl⟩ := List.mem_map.1 hr
    exact rowT_sw h2 hn (h.pre.ty r' hr')
  · rw [sw_len, wR_turn fun r hr => by rw [hl r hr]; exact h2]
    exact h.pre.fuel
theorem turned_law (ds : List DataSig) (hz : Sized ds) (rows : List (List Pat)) (c : Int) : turnedF ds rows c = true := by
  unfold turnedF
  by_cases h0 : (missOut ds rows c).2 ≠ 0 ∨ c < 2
  · rw [if_pos h0]
    by_cases h1 : (missOut ds rows c).2 = 0
    · simp [h1]
    · have : (missOut ds rows c).1 = [] := by
        by_cases h2 : checkF ds rows = 0
        · by_cases h3 : missBad rows c
          · rw [missOut_bad h2 h3]
          · obtain ⟨t, hb⟩ := check_build h2
            rw [missOut_ok h2 h3 hb] at h1
            exact absurd rfl h1
        · rw [missOut_err h2]
      simp [this]
  · rw [if_neg h0]
    have h1 : (missOut ds rows c).2 = 0 := Decidable.not_not.1 fun h => h0 (.inl h)
    have h2 : 2 ≤ c := by
      rcases Decidable.em (c < 2) with h | h
      · exact absurd (.inr h) h0
      · omega
    obtain ⟨hck, hnb⟩ := miss_zero h1
    obtain ⟨t, hb⟩ := check_build hck
    obtain ⟨τs, hτ, hT⟩ := typed_of hck hb hnb
    have hok := tabOk_of hb (check_parts hck hb).1 hz
    obtain ⟨hck2, hnb2⟩ := check_turn hck hnb h2
    have hlen : ∀ r ∈ rows, r.length = τs.length := fun r hr => by have := row_len hck hnb r hr; omega
    have hT2 := typed_turn (by omega) rfl hlen hT
    have e1 := missOut_lacks hok hck hnb hb hτ hT (by omega)
    have e2 := missOut_lacks hok hck2 hnb2 hb (by rw [sw_len]; exact hτ) hT2 (by omega)
    have e3 := lacks_sw (ds := ds) (τs := τs) (rows := rows) (by omega) rfl hlen
    have e4 : 0 < (missOut ds rows c).1.length ↔ 0 < (missOut ds (rows.map turn) c).1.length := by rw [e1.2, e2.2, e3]
    rw [e2.1]
    have e5 : decide (((missOut ds rows c).1.length : Int) > 0) = decide (((missOut ds (rows.map turn) c).1.length : Int) > 0) := by
      rw [decide_eq_decide]
      constructor
      · intro h; have := e4.1 (by omega); omega
      · intro h; have := e4.2 (by omega); omega
    rw [e5]
    simp
end Go.PM
