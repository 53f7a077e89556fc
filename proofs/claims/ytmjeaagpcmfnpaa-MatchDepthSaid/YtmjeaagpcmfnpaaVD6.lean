/- Patterns: the check of the rows. -/
import Derived.Test.YtmjeaagpcmfnpaaVD5
set_option linter.unusedVariables false
namespace Go.PM
open Go.VL
def errRows (t : Tab) : List (List Pat) → Int
  | [] => 0
  | r :: rs => if patsF t r ≠ 0 then patsF t r else errRows t rs
def colF (rows : List (List Pat)) (n : Nat) : List Pat := rows.map fun r => r.getD n anyP
def colsLoop (t : Tab) (rows : List (List Pat)) : Nat → Nat → Bool
  | _, 0 => true
  | n, k + 1 => agreeF t 401 (colF rows n) && colsLoop t rows (n + 1) k
def width (rows : List (List Pat)) : Nat := (rows.headD []).length
def sameLen (rows : List (List Pat)) (r : List Pat) : Bool := decide (r.length = width rows)
def checkT (t : Tab) (rows : List (List Pat)) : Int := if rows.all (sameLen rows) = false then 3 else if errRows t rows ≠ 0 then errRows t rows else if colsLoop t rows 0 (width rows) = false then 10 else 0
def checkF (ds : List DataSig) (rows : List (List Pat)) : Int := if small ds rows = false then 2 else match buildF 0 ds [] with
  | none => 7
  | some t => checkT t rows
def cR : List (List Pat) → Nat
  | [] => 0
  | r :: rs => cL r + cR rs
theorem sizeLoop_cL {rc : List Pat → Int → Bool × Int} (h : ∀ l m, (rc l m).1 = true → (rc l m).2 = m + cL l) : ∀ (l : List Pat) (m : Int), (sizeLoop rc l m).1 = true → (sizeLoop rc l m).2 = m + cL l
  | [], m, _ => by simp [sizeLoop, cL]
  | p :: l, m, h1 => by
    simp only [sizeLoop] at h1 ⊢
    by_cases hm : m + 1 > 400
    · rw [if_pos hm] at h1; cases h1
    rw [if_neg hm] at h1 ⊢
    cases hb : (rc p.args (m + 1)).1 with
    | false => rw [hb] at h1; cases h1
    | true =>
      rw [hb, cond_true] at h1
      have h2 := h p.args (m + 1) hb
      have h3 := sizeLoop_cL h l _ h1
      have h4 := cP_eq p
      rw [cond_true, h3, h2]
      simp only [cL]
      omega
theorem sizeF_cL : ∀ (n : Nat) (l : List Pat) (m : Int), (sizeF n l m).1 = true → (sizeF n l m).2 = m + cL l
  | 0, l, m, h => by
    have : l = [] := by simpa [sizeF] using h
    subst this
    simp [sizeF, cL]
  | n + 1, l, m, h => sizeLoop_cL (sizeF_cL n) l m h
theorem smallRows_cR : ∀ (rows : List (List Pat)) (m : Int), 0 ≤ m → m ≤ 400 → small.smallRows rows m = true → m + cR rows ≤ 400 ∧ ∀ r ∈ rows, r.length ≤ 16
  | [], m, _, h4, _ => ⟨by simpa [cR] using h4, fun r h => by cases h⟩
  | r :: rs, m, h0, h4, h => by
    simp only [small.smallRows] at h
    by_cases hl : r.length > 16
    · rw [if_pos hl] at h; cases h
    rw [if_neg hl] at h
    cases hb : (sizeF 20 r m).1 with
    | false => rw [hb] at h; cases h
    | true =>
      rw [hb, cond_true] at h
      have h1 := sizeF_cL 20 r m hb
      have h2 := sizeF_le 20 r m h0 h4
      have h3 := smallRows_cR rs _ (by omega) (h2.2 hb) h
      refine ⟨by simp only [cR]; omega, fun x hx => ?_⟩
      rcases List.mem_cons.1 hx with rfl | hx
      · omega
      · exact h3.2 x hx
structure Small (ds : List DataSig) (rows : List (List Pat)) : Prop where
  nodes : cR rows ≤ 400
  cols : ∀ r ∈ rows, r.length ≤ 16
  rows : rows.length ≤ 64
  cons : ∀ d ∈ ds, d.cons.length ≤ 256
theorem small_of {ds : List DataSig} {rows : List (List Pat)} (h : small ds rows = true) : Small ds rows := by
  unfold small at h
  simp only [Bool.and_eq_true, decide_eq_true_eq, Bool.not_eq_true', List.any_eq_false] at h
  obtain ⟨⟨h1, h2⟩, h3⟩ := h
  have h4 := smallRows_cR rows 0 (Int.le_refl _) (by omega) h1
  exact ⟨by omega, h4.2, h2, fun d hd => by have := h3 d hd; omega⟩
theorem col_c : ∀ (rows : List (List Pat)) (n : Nat), (∀ r ∈ rows, n < r.length) → cL (colF rows n) ≤ cR rows
  | [], n, _ => Nat.le_refl _
  | r :: rs, n, h => by
    have ih := col_c rs n fun r hr => h r (List.mem_cons_of_mem _ hr)
    have hlt := h r (List.mem_cons_self ..)
    have h2 : r[n]? = some (r.getD n anyP) := by simp [hlt]
    have := cL_get h2
    simp only [colF, List.map_cons, cL, cR] at ih ⊢
    omega
theorem errRows_all {t : Tab} : ∀ {rows : List (List Pat)}, errRows t rows = 0 → ∀ r ∈ rows, patsF t r = 0
  | [], _, r, h => by cases h
  | r :: rs, h, x, hx => by
    rw [errRows] at h
    by_cases hr : patsF t r = 0
    · rw [if_neg (by simpa using hr)] at h
      rcases List.mem_cons.1 hx with rfl | hx
      · exact hr
      · exact errRows_all h x hx
    · rw [if_pos hr] at h
      exact absurd h hr
theorem same_all {rows : List (List Pat)} (h : rows.all (sameLen rows) = true) : ∀ r ∈ rows, r.length = width rows := fun r hr => by
  have := List.all_eq_true.1 h r hr
  simpa [sameLen] using this
theorem agreePre_col {ds : List DataSig} {t : Tab} {rows : List (List Pat)} {n : Nat} (hs : Small ds rows) (ha : rows.all (sameLen rows) = true) (he : errRows t rows = 0) (hr : rows ≠ []) (hn : n < width rows) : AgreePre t 401 (colF rows n) := by
  have hlen : ∀ r ∈ rows, n < r.length := fun r h => by rw [same_all ha r h]; exact hn
  have h1 := col_c rows n hlen
  have h2 := hs.nodes
  have h3 := hs.rows
  refine ⟨by simpa [colF] using hr, by simp only [colF, List.length_map]; omega, fun p hp => ?_, by omega⟩
  obtain ⟨r, hrm, rfl⟩ := List.mem_map.1 hp
  have hlt := hlen r hrm
  have h4 : r[n]? = some (r.getD n anyP) := by simp [hlt]
  exact patsF_all (errRows_all he r hrm) _ (List.mem_of_getElem? h4)
theorem col_snoc (l : List (List Pat)) (r : List Pat) (n : Nat) : colF (l ++ [r]) n = colF l n ++ [r.getD n anyP] := by simp [colF]
end Go.PM
