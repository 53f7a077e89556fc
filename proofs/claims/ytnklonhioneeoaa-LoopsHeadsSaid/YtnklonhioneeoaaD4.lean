import Derived.Test.YtnklonhioneeoaaD3
set_option linter.unusedVariables false
set_option linter.unusedSimpArgs false
namespace Go.SM
open Go.VL
def climbB (ov : List Int) : Nat → Int → Int → Bool
  | 0, a, b => decide (b = a)
  | n + 1, a, b => if 0 ≤ b ∧ b ≠ a then climbB ov n a (gI ov b) else decide (b = a)
def domsF (f : SFunc) (a b : Int) : Bool := if gI (placeZ f.blocks) b < 0 then true else climbB (treeF f.blocks) (f.blocks.length + 1) a b
def reachL (f : SFunc) : List Int := (ordZ f.blocks).mergeSort fun x y => decide (x ≤ y)
theorem reach_mem {f : SFunc} {v : Nat} : (v : Int) ∈ reachL f ↔ v ∈ orderF f.blocks := by
  unfold reachL
  rw [List.mem_mergeSort, ordZ, List.mem_map]
  constructor
  · rintro ⟨k, hk, e⟩
    have : k = v := by omega
    rwa [← this]
  · intro h
    exact ⟨v, h, rfl⟩
theorem reach_len (f : SFunc) : (reachL f).length = (orderF f.blocks).length := by rw [reachL, List.length_mergeSort, ordZ, List.length_map]
section
variable {bs : List SBlock} (ho : OrderOk bs (orderF bs)) {ov : List Int}
include ho
theorem climb_anc (h : Tree bs ov) {a : Nat} : ∀ (n v : Nat), pos bs v < n → InT bs ov v → (climbB ov n a v = true ↔ Anc ov v a)
  | 0, v, hn, _ => by omega
  | n + 1, v, hn, hv => by
    rw [climbB]
    by_cases he : v = a
    · subst he
      rw [if_neg (by omega)]
      exact ⟨fun _ => .refl _, fun _ => decide_eq_true rfl⟩
    · rw [if_pos ⟨by omega, by omega⟩]
      by_cases h0 : v = 0
      · subst h0
        have hg : gI ov ((0 : Nat) : Int) = -1 := gI_get ho h.root
        rw [hg]
        have hf : climbB ov n a (-1) = false := by
          cases n with
          | zero => rw [climbB]; exact decide_eq_false (by omega)
          | succ n => rw [climbB, if_neg (by omega)]; exact decide_eq_false (by omega)
        rw [hf]
        constructor
        · intro h; cases h
        · intro ha; exact absurd (h.zero ho ha).symm he
      · obtain ⟨q, hq, hi, hp⟩ := h.parent ho hv h0
        rw [gI_get ho hq, climb_anc h n q (by omega) hi]
        constructor
        · exact fun ha => .step hq ha
        · intro ha
          rcases h.cases ho hq ha with e | ha
          · exact absurd e.symm he
          · exact ha
end
theorem doms_anc {f : SFunc} (ho : OrderOk f.blocks (orderF f.blocks)) (ht : TreeOk f.blocks (treeF f.blocks)) {a b : Nat} (hb : b ∈ orderF f.blocks) : domsF f a b = true ↔ Anc (treeF f.blocks) b a := by
  have hi := ht.all b hb
  have hpl := place_of ho hb
  unfold domsF
  rw [if_neg (by rw [hpl.1]; omega)]
  exact climb_anc ho ht.inv.tree _ b (by have := pos_lt ho hb; omega) hi
end Go.SM
