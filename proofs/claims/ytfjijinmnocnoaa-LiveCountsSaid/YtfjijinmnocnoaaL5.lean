/- The values that a checked function uses are numbers of defined values. -/
import Derived.Test.YtfjijinmnocnoaaL4
set_option linter.unusedVariables false
set_option linter.unusedSimpArgs false
namespace Go.SM
open Go.VL
structure RangeOk (bs : List SBlock) (many : Nat) : Prop where
  to : ∀ b ∈ bs, ∀ i ∈ b.ins, 0 ≤ i.to ∧ i.to < many
  args : ∀ b ∈ bs, ∀ i ∈ b.ins, ∀ a ∈ i.args, 0 ≤ a ∧ a < many
  arg : ∀ b ∈ bs, b.term.kind ≠ 1 ∧ b.term.kind ≠ 4 → 0 ≤ b.term.arg ∧ b.term.arg < many
  eargs : ∀ b ∈ bs, ∀ e ∈ b.term.to, ∀ a ∈ e.args, 0 ≤ a ∧ a < many
  edge : ∀ b ∈ bs, ∀ e ∈ b.term.to, 1 ≤ e.block ∧ e.block < bs.length
theorem fine_key {f : SFunc} (h : FuncOk f) {k : Nat} {at_ a : Int} (hf : fineF (blocksF f.blocks 0 f.blocks []).2 (domF f.blocks) k at_ a = true) : a ∈ valuesL f.blocks := by
  rw [h.defs.1] at hf
  unfold fineF at hf
  cases hd : dget (defsL 0 f.blocks) a with
  | none => rw [hd] at hf; cases hf
  | some p =>
    have hmem := dget_mem hd
    have : a ∈ dkeys (defsL 0 f.blocks) := List.mem_map.2 ⟨_, hmem, rfl⟩
    rwa [dkeys_defsL] at this
theorem used_all {t : STerm} {use : Int → Bool} (h : usedF t use = true) : (t.kind ≠ 1 ∧ t.kind ≠ 4 → use t.arg = true) ∧ ∀ e ∈ t.to, ∀ a ∈ e.args, use a = true := by
  unfold usedF at h
  split at h
  · cases h
  · rename_i hc
    refine ⟨fun hk => ?_, fun e he a ha => ?_⟩
    · cases hu : use t.arg with
      | true => rfl
      | false => exact absurd ⟨hk, hu⟩ hc
    · rw [List.all_eq_true] at h
      have := h e he
      rw [List.all_eq_true] at this
      exact this a ha
theorem range_ok {f : SFunc} (h : FuncOk f) {many : Nat} (hm : freshF f.blocks ≤ many) : RangeOk f.blocks many := by
  have key : ∀ a ∈ valuesL f.blocks, 0 ≤ a ∧ a < many := fun a ha => by
    have h1 := values_keys h a ha
    have h2 := (fresh_ok h).2.2 a ha
    exact ⟨h1.1, by omega⟩
  have hu := usesF_all h.uses
  refine ⟨fun b hb i hi => key _ (List.mem_flatMap.2 ⟨b, hb, List.mem_append_right _ (List.mem_map.2 ⟨i, hi, rfl⟩)⟩), fun b hb i hi a ha => ?_, fun b hb hk => ?_, fun b hb e he a ha => ?_, h.edges⟩
  · obtain ⟨k, hk⟩ := List.getElem?_of_mem hb
    obtain ⟨j, hj⟩ := List.getElem?_of_mem hi
    exact key a (fine_key h (usesIns_all (hu k b hk).1 j i hj a ha))
  · obtain ⟨k, hkb⟩ := List.getElem?_of_mem hb
    exact key _ (fine_key h ((used_all (hu k b hkb).2).1 hk))
  · obtain ⟨k, hk⟩ := List.getElem?_of_mem hb
    exact key a (fine_key h ((used_all (hu k b hk).2).2 e he a ha))
end Go.SM
