import Derived.Test.YtnklonhioneeoaaD4
set_option linter.unusedVariables false
set_option linter.unusedSimpArgs false
namespace Go.SM
open Go.VL
section
variable {bs : List SBlock} (ho : OrderOk bs (orderF bs)) {ov : List Int}
include ho
end
theorem idom_anc {f : SFunc} (h : FuncOk f) {k b : Nat} (hk : k ∈ orderF f.blocks) (he : Edge f.blocks k b) : b ≠ 0 ∧ b ∈ orderF f.blocks ∧ ∃ q : Nat, (treeF f.blocks)[b]? = some (q : Int) ∧ InT f.blocks (treeF f.blocks) q ∧ Anc (treeF f.blocks) k q := by
  have ho := order_ok h.pos h.edges
  have ht := tree_ok ho h.edges
  have hb := edge_mem ho hk he
  have hb0 : b ≠ 0 := by
    obtain ⟨e, hem, hb2⟩ := he
    have hkl := ho.lt k hk
    obtain ⟨bl, hbl⟩ := get_of_lt f.blocks k (by omega)
    rw [toAt_get hbl] at hem
    have := h.edges bl (List.mem_of_getElem? hbl) e hem
    omega
  refine ⟨hb0, hb, ?_⟩
  have hpn : ∀ p ∈ ((predsF f.blocks)[b]?.getD []), ∃ k : Nat, p = k ∧ k < f.blocks.length := preds_nat ho h.edges
  obtain ⟨Q', hQ, hor⟩ := next_ok ho ht.inv.tree ((predsF f.blocks)[b]?.getD []) (-1) [] hpn (.inl ⟨rfl, rfl⟩)
  have hkQ : k ∈ Q' := (hQ k).2 (.inr ⟨(preds_mem h.edges).2 ⟨k, rfl, he⟩, ht.all k hk⟩)
  rcases hor with ⟨_, e⟩ | ⟨c, hc, hi, _, hall, _⟩
  · rw [e] at hkQ; cases hkQ
  · refine ⟨c, ?_, hi, hall k hkQ⟩
    have hfix := ht.fix b hb hb0
    rw [hc] at hfix
    obtain ⟨y, hy⟩ := get_of_lt (treeF f.blocks) b (by rw [ht.inv.tree.len]; have := ho.lt b hb; omega)
    rw [gI_get ho hy] at hfix
    rw [hy, hfix]
end Go.SM
