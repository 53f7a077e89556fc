/- Patterns, the plain law: two columns exchanged. -/
import Derived.Test.YtmjeaagpcmfnpaaVP3
set_option linter.unusedVariables false
namespace Go.PM
open Go.VL
def sw {α : Type} (d : α) (l : List α) : List α := (l.set 0 (l.getD (l.length - 1) d)).set (l.length - 1) (l.getD 0 d)
theorem turn_sw (r : List Pat) : turn r = sw anyP r := rfl
def sg (n i : Nat) : Nat := if i = n - 1 then 0 else if i = 0 then n - 1 else i
theorem sw_len {α : Type} (d : α) (l : List α) : (sw d l).length = l.length := by simp [sw]
theorem sw_get {α : Type} (d : α) {l : List α} {n : Nat} (hn : l.length = n) (h2 : 2 ≤ n) (i : Nat) (hi : i < n) : (sw d l)[i]? = l[sg n i]? := by
  unfold sw sg
  subst hn
  rw [List.getElem?_set]
  by_cases h1 : l.length - 1 = i
  · rw [if_pos h1, if_pos h1.symm]
    have : l.length - 1 < (l.set 0 (l.getD (l.length - 1) d)).length := by rw [List.length_set]; omega
    rw [if_pos this]
    have h0 : 0 < l.length := by omega
    simp [h0]
  · rw [if_neg h1, if_neg (fun e => h1 e.symm), List.getElem?_set]
    by_cases h3 : 0 = i
    · rw [if_pos h3, if_pos h3.symm]
      have h0 : 0 < l.length := by omega
      have h4 : l.length - 1 < l.length := by omega
      simp [h0, h4]
    · rw [if_neg h3, if_neg (fun e => h3 e.symm)]
theorem sg_lt {n i : Nat} (h2 : 2 ≤ n) (hi : i < n) : sg n i < n := by unfold sg; split <;> (try split) <;> omega
theorem sg_sg {n i : Nat} (h2 : 2 ≤ n) (hi : i < n) : sg n (sg n i) = i := by
  unfold sg
  by_cases h1 : i = n - 1
  · simp only [h1, if_true]
    have : ¬ (0 = n - 1) := by omega
    simp [this]
  · by_cases h3 : i = 0
    · subst h3
      simp [h1]
    · simp [h1, h3]
theorem sw_sw {α : Type} (d : α) {l : List α} {n : Nat} (hn : l.length = n) (h2 : 2 ≤ n) : sw d (sw d l) = l := by
  apply List.ext_getElem?
  intro i
  by_cases hi : i < n
  · rw [sw_get d (by rw [sw_len, hn]) h2 i hi, sw_get d hn h2 _ (sg_lt h2 hi), sg_sg h2 hi]
  · rw [List.getElem?_eq_none (by rw [sw_len, sw_len]; omega), List.getElem?_eq_none (by omega)]
theorem sw_mem {α : Type} (d : α) {l : List α} {n : Nat} (hn : l.length = n) (h2 : 2 ≤ n) {x : α} : x ∈ sw d l → x ∈ l := fun h => by
  obtain ⟨i, hi⟩ := List.getElem?_of_mem h
  have hlt : i < n := by have := (List.getElem?_eq_some_iff.1 hi).1; rw [sw_len, hn] at this; exact this
  rw [sw_get d hn h2 i hlt] at hi
  exact List.mem_of_getElem? hi
theorem matL_get : ∀ {r : List Pat} {vs : List Val}, r.length = vs.length → (matL r vs ↔ ∀ (i : Nat) p v, r[i]? = some p → vs[i]? = some v → matP p v)
  | [], [], _ => by simp [matL]
  | p :: r, v :: vs, h => by
    rw [matL_cons, matL_get (by simpa using h)]
    constructor
    · rintro ⟨h1, h2⟩ i q u hi hu
      cases i with
      | zero => simp at hi hu; subst hi; subst hu; exact h1
      | succ i => exact h2 i q u (by simpa using hi) (by simpa using hu)
    · intro k
      exact ⟨k 0 p v rfl rfl, fun i q u hi hu => k (i + 1) q u (by simpa using hi) (by simpa using hu)⟩
  | [], _ :: _, h => by simp at h
  | _ :: _, [], h => by simp at h
theorem matL_sw {r : List Pat} {vs : List Val} {n : Nat} (h2 : 2 ≤ n) (hr : r.length = n) (hv : vs.length = n) : matL (turn r) (sw (.int 0) vs) ↔ matL r vs := by
  rw [turn_sw, matL_get (by rw [sw_len, sw_len, hr, hv]), matL_get (by rw [hr, hv])]
  constructor
  · intro k i p v hp hu
    have hi : i < n := by have := (List.getElem?_eq_some_iff.1 hp).1; omega
    refine k (sg n i) p v ?_ ?_
    · rw [sw_get anyP hr h2 _ (sg_lt h2 hi), sg_sg h2 hi]; exact hp
    · rw [sw_get (Val.int 0) hv h2 _ (sg_lt h2 hi), sg_sg h2 hi]; exact hu
  · intro k i p v hp hu
    have hi : i < n := by have := (List.getElem?_eq_some_iff.1 hp).1; rw [sw_len] at this; omega
    rw [sw_get anyP hr h2 i hi] at hp
    rw [sw_get (Val.int 0) hv h2 i hi] at hu
    exact k _ p v hp hu
theorem fitsL_sw {ds : List DataSig} {τs : List Ty} {vs : List Val} {n : Nat} (h2 : 2 ≤ n) (hr : τs.length = n) (h : fitsL ds τs vs) : fitsL ds (sw .any τs) (sw (.int 0) vs) := by
  have hv := h.len
  rw [fitsL_get (by rw [sw_len, sw_len, hv])]
  rw [fitsL_get hv] at h
  intro i τ v hτ hu
  have hi : i < n := by have := (List.getElem?_eq_some_iff.1 hτ).1; rw [sw_len] at this; omega
  rw [sw_get .any hr h2 i hi] at hτ
  rw [sw_get (Val.int 0) (by rw [hv, hr]) h2 i hi] at hu
  exact h _ τ v hτ hu
theorem lacks_sw {ds : List DataSig} {τs : List Ty} {rows : List (List Pat)} {n : Nat} (h2 : 2 ≤ n) (hr : τs.length = n) (hl : ∀ r ∈ rows, r.length = n) : Lacks ds (sw .any τs) (rows.map turn) ↔ Lacks ds τs rows := by
  constructor
  · rintro ⟨vs, hv, h⟩
    have hvl := hv.len
    rw [sw_len, hr] at hvl
    have hss := sw_sw (.int 0) hvl h2
    refine ⟨sw (.int 0) vs, ?_, fun r hrm hm => ?_⟩
    · have := fitsL_sw h2 (by rw [sw_len, hr]) hv
      rwa [sw_sw .any hr h2] at this
    · refine h (turn r) (List.mem_map.2 ⟨r, hrm, rfl⟩) ?_
      rw [← hss, matL_sw h2 (hl r hrm) (by rw [sw_len, hvl])]
      exact hm
  · rintro ⟨vs, hv, h⟩
    have hvl := hv.len
    rw [hr] at hvl
    refine ⟨sw (.int 0) vs, fitsL_sw h2 hr hv, fun r hrm hm => ?_⟩
    obtain ⟨r', hr', rfl⟩ := List.mem_map.1 hrm
    rw [matL_sw h2 (hl r' hr') hvl] at hm
    exact h r' hr' hm
theorem rowT.get {t : Tab} : ∀ {τs : List Ty} {r : List Pat}, rowT t τs r → ∀ (i : Nat) τ p, τs[i]? = some τ → r[i]? = some p → wt t τ p
  | [], [], _, i, τ, p, h, _ => by simp at h
  | τ :: τs, q :: r, h, i, σ, p, h1, h2 => by
    cases i with
    | zero => simp at h1 h2; subst h1; subst h2; exact h.1
    | succ i => exact rowT.get h.2 i σ p (by simpa using h1) (by simpa using h2)
  | [], _ :: _, h, _, _, _, _, _ => h.elim
  | _ :: _, [], h, _, _, _, _, _ => h.elim
theorem rowT_sw {t : Tab} {τs : List Ty} {r : List Pat} {n : Nat} (h2 : 2 ≤ n) (hn : τs.length = n) (h : rowT t τs r) : rowT t (sw .any τs) (turn r) := by
  have hl := h.len
  rw [turn_sw]
  refine rowT.of_get (by rw [sw_len, sw_len, hl]) fun i τ p h1 h3 => ?_
  have hi : i < n := by have := (List.getElem?_eq_some_iff.1 h1).1; rw [sw_len] at this; omega
  rw [sw_get .any hn h2 i hi] at h1
  rw [sw_get anyP (by rw [hl, hn]) h2 i hi] at h3
  exact h.get _ τ p h1 h3
theorem cL_set : ∀ {l : List Pat} {i : Nat} {x y : Pat}, l[i]? = some y → cL (l.set i x) + cP y = cL l + cP x
  | [], i, x, y, h => by simp at h
  | p :: l, 0, x, y, h => by simp at h; subst h; simp only [List.set_cons_zero, cL]; omega
  | p :: l, i + 1, x, y, h => by
    have := cL_set (l := l) (i := i) (x := x) (y := y) (by simpa using h)
    simp only [List.set_cons_succ, cL]
    omega
theorem wL_set : ∀ {l : List Pat} {i : Nat} {x y : Pat}, l[i]? = some y → wL (l.set i x) + wP y = wL l + wP x
  | [], i, x, y, h => by simp at h
  | p :: l, 0, x, y, h => by simp at h; subst h; simp only [List.set_cons_zero, wL]; omega
  | p :: l, i + 1, x, y, h => by
    have := wL_set (l := l) (i := i) (x := x) (y := y) (by simpa using h)
    simp only [List.set_cons_succ, wL]
    omega
theorem turn_ends {r : List Pat} (h2 : 2 ≤ r.length) : ∃ a b, r[0]? = some a ∧ r[r.length - 1]? = some b ∧ (r.set 0 b)[r.length - 1]? = some b ∧ turn r = (r.set 0 b).set (r.length - 1) a := by
  obtain ⟨a, ha⟩ := get_of_lt r 0 (by omega)
  obtain ⟨b, hb⟩ := get_of_lt r (r.length - 1) (by omega)
  refine ⟨a, b, ha, hb, ?_, by unfold turn; simp [ha, hb]⟩
  rw [List.getElem?_set, if_neg (by omega), hb]
theorem cL_turn {r : List Pat} (h2 : 2 ≤ r.length) : cL (turn r) = cL r := by
  obtain ⟨a, b, ha, hb, hc, e⟩ := turn_ends h2
  have h1 := cL_set (x := b) ha
  have h3 := cL_set (x := a) hc
  rw [e]
  omega
theorem wL_turn {r : List Pat} (h2 : 2 ≤ r.length) : wL (turn r) = wL r := by
  obtain ⟨a, b, ha, hb, hc, e⟩ := turn_ends h2
  have h1 := wL_set (x := b) ha
  have h3 := wL_set (x := a) hc
  rw [e]
  omega
theorem cR_turn : ∀ {rows : List (List Pat)}, (∀ r ∈ rows, 2 ≤ r.length) → cR (rows.map turn) = cR rows
  | [], _ => rfl
  | r :: rows, h => by
    have ih := cR_turn (rows := rows) fun r hr => h r (List.mem_cons_of_mem _ hr)
    simp only [List.map_cons, cR, ih, cL_turn (h r (List.mem_cons_self ..))]
theorem wR_turn : ∀ {rows : List (List Pat)}, (∀ r ∈ rows, 2 ≤ r.length) → wR (rows.map turn) = wR rows
  | [], _ => rfl
  | r :: rows, h => by
    have ih := wR_turn (rows := rows) fun r hr => h r (List.mem_cons_of_mem _ hr)
    simp only [List.map_cons, wR, ih, wL_turn (h r (List.mem_cons_self ..))]

/-! ### The limits, told without an order -/
def dL : Nat → List Pat → Bool
  | 0, l => l.length == 0
  | n + 1, l => l.all fun p => dL n p.args
theorem sizeLoop_iff {n : Nat} (h : ∀ (l : List Pat) (m : Int), 0 ≤ m → m ≤ 400 → ((sizeF n l m).1 = true ↔ dL n l = true ∧ m + cL l ≤ 400)) : ∀ (l : List Pat) (m : Int), 0 ≤ m → m ≤ 400 → ((sizeLoop (sizeF n) l m).1 = true ↔ (l.all fun p => dL n p.args) = true ∧ m + cL l ≤ 400)
  | [], m, h0, h4 => by simp [sizeLoop, cL, h4]
  | p :: l, m, h0, h4 => by
    have hc := cP_eq p
    simp only [sizeLoop, List.all_cons, cL]
    by_cases hm : m + 1 > 400
    · rw [if_pos hm]
      constructor
      · intro h; cases h
      · rintro ⟨_, h⟩; omega
    · rw [if_neg hm]
      have h1 := h p.args (m + 1) (by omega) (by omega)
      have h2 := sizeF_le n p.args (m + 1) (by omega) (by omega)
      cases hb : (sizeF n p.args (m + 1)).1 with
      | false =>
        rw [cond_false]
        constructor
        · intro h; cases h
        · rintro ⟨h3, h5⟩
          rw [Bool.and_eq_true] at h3
          have := h1.2 ⟨h3.1, by omega⟩
          rw [hb] at this; cases this
      | true =>
        have h3 := h1.1 hb
        have h5 := sizeF_cL n p.args (m + 1) hb
        have ih := sizeLoop_iff h l (sizeF n p.args (m + 1)).2 (by omega) (h2.2 hb)
        rw [cond_true, ih, h5, Bool.and_eq_true]
        constructor
        · rintro ⟨h6, h7⟩; exact ⟨⟨h3.1, h6⟩, by omega⟩
        · rintro ⟨⟨_, h6⟩, h7⟩; exact ⟨h6, by omega⟩
theorem sizeF_iff : ∀ (n : Nat) (l : List Pat) (m : Int), 0 ≤ m → m ≤ 400 → ((sizeF n l m).1 = true ↔ dL n l = true ∧ m + cL l ≤ 400)
  | 0, l, m, h0, h4 => by
    cases l with
    | nil => simp [sizeF, dL, cL, h4]
    | cons p l => simp [sizeF, dL]
  | n + 1, l, m, h0, h4 => sizeLoop_iff (sizeF_iff n) l m h0 h4
theorem smallRows_iff : ∀ (rows : List (List Pat)) (m : Int), 0 ≤ m → m ≤ 400 → (small.smallRows rows m = true ↔ (∀ r ∈ rows, r.length ≤ 16 ∧ dL 20 r = true) ∧ m + cR rows ≤ 400)
  | [], m, h0, h4 => by simp [small.smallRows, cR, h4]
  | r :: rows, m, h0, h4 => by
    simp only [small.smallRows, cR]
    by_cases hl : r.length > 16
    · rw [if_pos hl]
      constructor
      · intro h; cases h
      · rintro ⟨h, _⟩
        have := (h r (List.mem_cons_self ..)).1
        omega
    · rw [if_neg hl]
      have h1 := sizeF_iff 20 r m h0 h4
      have h2 := sizeF_le 20 r m h0 h4
      cases hb : (sizeF 20 r m).1 with
      | false =>
        rw [cond_false]
        constructor
        · intro h; cases h
        · rintro ⟨h3, h5⟩
          have := h1.2 ⟨(h3 r (List.mem_cons_self ..)).2, by omega⟩
          rw [hb] at this; cases this
      | true =>
        have h3 := h1.1 hb
        have h5 := sizeF_cL 20 r m hb
        have ih := smallRows_iff rows (sizeF 20 r m).2 (by omega) (h2.2 hb)
        rw [cond_true, ih, h5]
        constructor
        · rintro ⟨h6, h7⟩
          refine ⟨fun x hx => ?_, by omega⟩
          rcases List.mem_cons.1 hx with rfl | hx
          · exact ⟨by omega, h3.1⟩
          · exact h6 x hx
        · rintro ⟨h6, h7⟩; exact ⟨fun x hx => h6 x (List.mem_cons_of_mem _ hx), by omega⟩
theorem small_iff {ds : List DataSig} {rows : List (List Pat)} : small ds rows = true ↔ ((∀ r ∈ rows, r.length ≤ 16 ∧ dL 20 r = true) ∧ cR rows ≤ 400) ∧ rows.length ≤ 64 ∧ (ds.any fun d => decide ((d.cons.length : Int) > 256)) = false := by
  unfold small
  rw [Bool.and_eq_true, Bool.and_eq_true, smallRows_iff rows 0 (Int.le_refl _) (by omega), decide_eq_true_eq, Bool.not_eq_true']
  constructor
  · rintro ⟨⟨⟨a, b⟩, c⟩, d⟩; exact ⟨⟨a, by omega⟩, c, d⟩
  · rintro ⟨⟨a, b⟩, c, d⟩; exact ⟨⟨⟨a, by omega⟩, c⟩, d⟩
end Go.PM
