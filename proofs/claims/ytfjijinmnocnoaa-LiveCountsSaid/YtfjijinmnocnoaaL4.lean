/- All values of a function; a number greater than all of them. -/
import Derived.Test.YtfjijinmnocnoaaL3
set_option linter.unusedVariables false
namespace Go.SM
open Go.VL
def valuesL (bs : List SBlock) : List Int := bs.flatMap fun b => b.params ++ b.ins.map (·.to)
def freshF (bs : List SBlock) : Int := (valuesL bs).foldl (fun n v => max n (v + 1)) 0
theorem fold_fresh : ∀ (l : List Int) (n : Int), n ≤ l.foldl (fun n v => max n (v + 1)) n ∧ ∀ v ∈ l, v < l.foldl (fun n v => max n (v + 1)) n
  | [], n => ⟨Int.le_refl _, fun v hv => by cases hv⟩
  | a :: l, n => by
    obtain ⟨h1, h2⟩ := fold_fresh l (max n (a + 1))
    rw [List.foldl_cons]
    refine ⟨by omega, fun v hv => ?_⟩
    rcases List.mem_cons.1 hv with rfl | hv
    · omega
    · exact h2 v hv
theorem fold_le {m : Int} : ∀ (l : List Int) (n : Int), n ≤ m → (∀ v ∈ l, v < m) → l.foldl (fun n v => max n (v + 1)) n ≤ m
  | [], n, hn, _ => hn
  | a :: l, n, hn, h => by
    have := h a (List.mem_cons_self ..)
    exact fold_le l _ (by show max n (a + 1) ≤ m; omega) fun v hv => h v (List.mem_cons_of_mem _ hv)
theorem values_keys {f : SFunc} (h : FuncOk f) : ∀ v ∈ valuesL f.blocks, 0 ≤ v ∧ v ≤ 4095 := fun v hv => h.keys.range v (by rw [dkeys_defsL]; exact hv)
theorem fresh_ok {f : SFunc} (h : FuncOk f) : 0 ≤ freshF f.blocks ∧ freshF f.blocks ≤ 4096 ∧ ∀ v ∈ valuesL f.blocks, v < freshF f.blocks := by
  obtain ⟨h1, h2⟩ := fold_fresh (valuesL f.blocks) 0
  exact ⟨h1, fold_le _ 0 (by decide) fun v hv => by have := values_keys h v hv; omega, h2⟩
def listF : Nat → List Bool → List Int
  | _, [] => []
  | v, b :: l => if b = true then (v : Int) :: listF (v + 1) l else listF (v + 1) l
theorem mem_list {v : Nat} : ∀ {l : List Bool} {w : Nat}, (v : Int) ∈ listF w l ↔ w ≤ v ∧ Mem1 l (v - w)
  | [], w => by simp [listF, Mem1]
  | b :: l, w => by
    have step : Mem1 (b :: l) (v - w) ↔ (v - w = 0 ∧ b = true) ∨ (1 ≤ v - w ∧ Mem1 l (v - w - 1)) := by
      unfold Mem1
      cases h : v - w with
      | zero => simp
      | succ u => simp
    rw [listF, step]
    split
    · rename_i hb
      rw [List.mem_cons, mem_list]
      constructor
      · rintro (h | ⟨h1, h2⟩)
        · exact ⟨by omega, .inl ⟨by omega, hb⟩⟩
        · exact ⟨by omega, .inr ⟨by omega, by rwa [show v - w - 1 = v - (w + 1) by omega]⟩⟩
      · rintro ⟨h1, ⟨h2, _⟩ | ⟨h2, h3⟩⟩
        · exact .inl (by omega)
        · exact .inr ⟨by omega, by rwa [show v - (w + 1) = v - w - 1 by omega]⟩
    · rename_i hb
      rw [mem_list]
      constructor
      · rintro ⟨h1, h2⟩
        exact ⟨by omega, .inr ⟨by omega, by rwa [show v - w - 1 = v - (w + 1) by omega]⟩⟩
      · rintro ⟨h1, ⟨_, h3⟩ | ⟨h2, h3⟩⟩
        · exact absurd h3 hb
        · exact ⟨by omega, by rwa [show v - (w + 1) = v - w - 1 by omega]⟩
theorem list_nat : ∀ {l : List Bool} {w : Nat} {x : Int}, x ∈ listF w l → ∃ v : Nat, x = v
  | b :: l, w, x, h => by
    rw [listF] at h
    split at h
    · rcases List.mem_cons.1 h with rfl | h
      · exact ⟨w, rfl⟩
      · exact list_nat h
    · exact list_nat h
theorem list_len : ∀ (l : List Bool) (w : Nat), (listF w l).length ≤ l.length
  | [], w => Nat.le_refl _
  | b :: l, w => by
    rw [listF]
    have := list_len l (w + 1)
    split <;> simp <;> omega
end Go.SM
