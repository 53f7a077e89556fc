/- Dominance frontiers as functions; the law of DomEdges. -/
import Derived.Test.YtaklonfdckgdbaaD4
set_option linter.unusedVariables false
set_option linter.unusedSimpArgs false
namespace Go.SM
open Go.VL
abbrev IL := List (List Int)
def addR (ps : IL) (a : Nat) (x : Int) : IL := if ((ps[a]?.getD []).any fun y => decide (x = y)) = true then ps else ps.set a ((ps[a]?.getD []) ++ [x])
def climbR (ov : List Int) (x : Int) : Nat → Int → IL → IL
  | 0, a, ps => ps
  | n + 1, a, ps => if 0 ≤ a ∧ a ≠ gI ov x then climbR ov x n (gI ov a) (addR ps a.toNat x) else ps
def edgesK (ov : List Int) (n : Nat) (k : Int) (to : List SEdge) (ps : IL) : IL := to.foldl (fun ps e => climbR ov e.block n k ps) ps
def blocksK (ov pl : List Int) (n : Nat) : Nat → List SBlock → IL → IL
  | k, [], ps => ps
  | k, b :: l, ps => blocksK ov pl n (k + 1) l (if gI pl (k : Nat) < 0 then ps else edgesK ov n k b.term.to ps)
def frontR (f : SFunc) : IL := blocksK (treeF f.blocks) (placeZ f.blocks) (f.blocks.length + 1) 0 f.blocks (List.replicate f.blocks.length [])
def frontF (f : SFunc) : IL := (frontR f).map fun l => l.mergeSort fun x y => decide (x ≤ y)
theorem addR_len (ps : IL) (a : Nat) (x : Int) : (addR ps a x).length = ps.length := by
  unfold addR
  split
  · rfl
  · rw [List.length_set]
theorem addR_mem {ps : IL} {a c : Nat} {x y : Int} (ha : a < ps.length) : y ∈ (addR ps a x)[c]?.getD [] ↔ y ∈ ps[c]?.getD [] ∨ c = a ∧ y = x := by
  unfold addR
  split
  · rename_i h
    obtain ⟨z, hz, e⟩ := List.any_eq_true.1 h
    have e := of_decide_eq_true e
    constructor
    · exact .inl
    · rintro (h | ⟨rfl, rfl⟩)
      · exact h
      · rw [e]; exact hz
  · rw [List.getElem?_set]
    by_cases h : a = c
    · subst h
      rw [if_pos rfl, if_pos ha]
      simp
    · rw [if_neg h]
      constructor
      · exact .inl
      · rintro (h1 | ⟨h1, _⟩)
        · exact h1
        · exact absurd h1.symm h
theorem climbR_len (ov : List Int) (x : Int) : ∀ (n : Nat) (a : Int) (ps : IL), (climbR ov x n a ps).length = ps.length
  | 0, a, ps => rfl
  | n + 1, a, ps => by
    rw [climbR]
    split
    · rw [climbR_len, addR_len]
    · rfl
theorem edgesK_len (ov : List Int) (n : Nat) (k : Int) : ∀ (to : List SEdge) (ps : IL), (edgesK ov n k to ps).length = ps.length
  | [], ps => rfl
  | e :: to, ps => by
    show (edgesK ov n k to (climbR ov e.block n k ps)).length = _
    rw [edgesK_len, climbR_len]
section
variable {bs : List SBlock} (ho : OrderOk bs (orderF bs)) {ov : List Int}
include ho
theorem climbR_mem (h : Tree bs ov) {x : Int} {q : Nat} (hq : gI ov x = q) : ∀ (n k : Nat) (ps : IL), pos bs k < n → InT bs ov k → Anc ov k q → ps.length = bs.length → ∀ (c : Nat) (y : Int),
    (y ∈ (climbR ov x n k ps)[c]?.getD [] ↔ y ∈ ps[c]?.getD [] ∨ y = x ∧ Anc ov k c ∧ ¬ Anc ov q c)
  | 0, k, ps, hn, _, _, _, c, y => by omega
  | n + 1, k, ps, hn, hk, ha, hl, c, y => by
    rw [climbR, hq]
    by_cases he : k = q
    · subst he
      rw [if_neg (by omega)]
      exact ⟨.inl, fun h => h.elim id fun h2 => absurd h2.2.1 h2.2.2⟩
    · rw [if_pos ⟨by omega, by omega⟩]
      have h0 : k ≠ 0 := fun e => by
        subst e
        exact he (h.zero ho ha).symm
      obtain ⟨p, hp, hi, hpp⟩ := h.parent ho hk h0
      have hpq : Anc ov p q := (h.cases ho hp ha).resolve_left fun e => he e.symm
      have hkl : k < ps.length := by rw [hl]; exact ho.lt k hk.1
      rw [gI_get ho hp, Int.toNat_natCast, climbR_mem h hq n p _ (by omega) hi hpq (by rw [addR_len]; exact hl), addR_mem hkl]
      constructor
      · rintro ((h1 | ⟨rfl, rfl⟩) | ⟨h1, h2, h3⟩)
        · exact .inl h1
        · exact .inr ⟨rfl, .refl _, fun h4 => he (anc_eq ho h hk ha h4)⟩
        · exact .inr ⟨h1, .step hp h2, h3⟩
      · rintro (h1 | ⟨h1, h2, h3⟩)
        · exact .inl (.inl h1)
        · rcases h.cases ho hp h2 with e | h2
          · exact .inl (.inr ⟨e, h1⟩)
          · exact .inr ⟨h1, h2, h3⟩
end
/-- The closest dominator of a block lies above all blocks with an edge to it. -/
theorem idom_anc {f : SFunc} (h : FuncOk f) {k b : Nat} (hk : k ∈ orderF f.blocks) (he : Edge f.blocks k b) : b ≠ 0 ∧ b ∈ orderF f.blocks ∧ ∃ q : Nat, (treeF f.blocks)[b]? = some (q : Int) ∧ InT f.blocks (treeF f.blocks) q ∧ Anc (treeF f.blocks) k q := by
  have ho := order_ok h.pos h.edges
  have ht := tree_ok ho h.edges
  have hb := edge_mem ho hk he
  have hb0 : b ≠ 0 := by
    obtain ⟨e, hem, hb2⟩ := he
    have hkl := ho.lt k hk
    obtain ⟨bl, hbl⟩ := get_of_lt f.blocks k (by omega)
    rw [toAt_get hbl] at hem
    have := h.edges bl (List.mem_of_getElem? hbl) e hem
    omega
  refine ⟨hb0, hb, ?_⟩
  have hpn : ∀ p ∈ ((predsF f.blocks)[b]?.getD []), ∃ k : Nat, p = k ∧ k < f.blocks.length := preds_nat ho h.edges
  obtain ⟨Q', hQ, hor⟩ := next_ok ho ht.inv.tree ((predsF f.blocks)[b]?.getD []) (-1) [] hpn (.inl ⟨rfl, rfl⟩)
  have hkQ : k ∈ Q' := (hQ k).2 (.inr ⟨(preds_mem h.edges).2 ⟨k, rfl, he⟩, ht.all k hk⟩)
  rcases hor with ⟨_, e⟩ | ⟨c, hc, hi, _, hall, _⟩
  · rw [e] at hkQ; cases hkQ
  · refine ⟨c, ?_, hi, hall k hkQ⟩
    have hfix := ht.fix b hb hb0
    rw [hc] at hfix
    obtain ⟨y, hy⟩ := get_of_lt (treeF f.blocks) b (by rw [ht.inv.tree.len]; have := ho.lt b hb; omega)
    rw [gI_get ho hy] at hfix
    rw [hy, hfix]
theorem edgesK_mem {f : SFunc} (h : FuncOk f) {k : Nat} (hk : k ∈ orderF f.blocks) {b : SBlock} (hb : f.blocks[k]? = some b) : ∀ (to : List SEdge) (ps : IL), (∀ e ∈ to, e ∈ b.term.to) → ps.length = f.blocks.length → ∀ (c : Nat) (y : Int),
    (y ∈ (edgesK (treeF f.blocks) (f.blocks.length + 1) k to ps)[c]?.getD [] ↔ y ∈ ps[c]?.getD [] ∨ ∃ e ∈ to, y = e.block ∧ Anc (treeF f.blocks) k c ∧ ¬ Anc (treeF f.blocks) (gI (treeF f.blocks) e.block).toNat c)
  | [], ps, _, _, c, y => by simp [edgesK]
  | e :: to, ps, ht, hl, c, y => by
    have ho := order_ok h.pos h.edges
    have hT := tree_ok ho h.edges
    have hem := ht e (List.mem_cons_self ..)
    have he1 := (h.edges b (List.mem_of_getElem? hb) e hem).1
    obtain ⟨_, _, q, hq, hi, ha⟩ := idom_anc h hk (b := e.block.toNat) ⟨e, by rw [toAt_get hb]; exact hem, rfl⟩
    have hgq : gI (treeF f.blocks) e.block = q := by rw [gI, hq]; rfl
    have hpk := pos_lt ho hk
    show y ∈ (edgesK (treeF f.blocks) (f.blocks.length + 1) k to (climbR (treeF f.blocks) e.block (f.blocks.length + 1) k ps))[c]?.getD [] ↔ _
    rw [edgesK_mem h hk hb to _ (fun x hx => ht x (List.mem_cons_of_mem _ hx)) (by rw [climbR_len]; exact hl), climbR_mem ho hT.inv.tree hgq _ k ps (by omega) (hT.all k hk) ha hl]
    constructor
    · rintro ((h1 | ⟨h1, h2, h3⟩) | ⟨x, hx, h1⟩)
      · exact .inl h1
      · exact .inr ⟨e, List.mem_cons_self .., h1, h2, by rw [hgq]; exact h3⟩
      · exact .inr ⟨x, List.mem_cons_of_mem _ hx, h1⟩
    · rintro (h1 | ⟨x, hx, h1, h2, h3⟩)
      · exact .inl (.inl h1)
      · rcases List.mem_cons.1 hx with rfl | hx
        · rw [hgq] at h3; exact .inl (.inr ⟨h1, h2, h3⟩)
        · exact .inr ⟨x, hx, h1, h2, h3⟩
theorem blocksK_mem {f : SFunc} (h : FuncOk f) : ∀ (l : List SBlock) (k : Nat) (ps : IL), f.blocks.drop k = l → ps.length = f.blocks.length → ∀ (c : Nat) (y : Int),
    (y ∈ (blocksK (treeF f.blocks) (placeZ f.blocks) (f.blocks.length + 1) k l ps)[c]?.getD [] ↔ y ∈ ps[c]?.getD [] ∨ ∃ (j : Nat) (b : SBlock), k ≤ j ∧ f.blocks[j]? = some b ∧ j ∈ orderF f.blocks ∧ ∃ e ∈ b.term.to, y = e.block ∧ Anc (treeF f.blocks) j c ∧ ¬ Anc (treeF f.blocks) (gI (treeF f.blocks) e.block).toNat c)
  | [], k, ps, hd, hl, c, y => by
    rw [blocksK]
    constructor
    · exact .inl
    · rintro (h1 | ⟨j, b, hj, hb, _⟩)
      · exact h1
      · have := (List.getElem?_eq_some_iff.1 hb).1
        have h2 := List.drop_eq_nil_iff.1 hd
        omega
  | b :: l, k, ps, hd, hl, c, y => by
    have ho := order_ok h.pos h.edges
    have hb : f.blocks[k]? = some b := by
      have h9 : (f.blocks.drop k)[0]? = some b := by rw [hd]; rfl
      rwa [List.getElem?_drop, Nat.add_zero] at h9
    have hd2 : f.blocks.drop (k + 1) = l := by
      have h9 : (f.blocks.drop k).drop 1 = l := by rw [hd]; rfl
      rwa [List.drop_drop] at h9
    have hkl := (List.getElem?_eq_some_iff.1 hb).1
    have hreach : gI (placeZ f.blocks) (k : Nat) < 0 ↔ k ∉ orderF f.blocks := by
      constructor
      · intro hn hm
        have := (place_of ho hm).1
        omega
      · intro hm
        rcases place_get hkl with ⟨h1, _⟩ | ⟨i, _, h2⟩
        · omega
        · exact absurd (List.mem_of_getElem? h2) hm
    have hnx : (∃ (j : Nat) (b' : SBlock), k ≤ j ∧ f.blocks[j]? = some b' ∧ j ∈ orderF f.blocks ∧ ∃ e ∈ b'.term.to, y = e.block ∧ Anc (treeF f.blocks) j c ∧ ¬ Anc (treeF f.blocks) (gI (treeF f.blocks) e.block).toNat c) ↔
        (k ∈ orderF f.blocks ∧ ∃ e ∈ b.term.to, y = e.block ∧ Anc (treeF f.blocks) k c ∧ ¬ Anc (treeF f.blocks) (gI (treeF f.blocks) e.block).toNat c) ∨ ∃ (j : Nat) (b' : SBlock), k + 1 ≤ j ∧ f.blocks[j]? = some b' ∧ j ∈ orderF f.blocks ∧ ∃ e ∈ b'.term.to, y = e.block ∧ Anc (treeF f.blocks) j c ∧ ¬ Anc (treeF f.blocks) (gI (treeF f.blocks) e.block).toNat c := by
      constructor
      · rintro ⟨j, b', hj, hb', hm, h1⟩
        by_cases hjk : j = k
        · subst hjk
          rw [hb] at hb'
          injection hb' with hb'
          subst hb'
          exact .inl ⟨hm, h1⟩
        · exact .inr ⟨j, b', by omega, hb', hm, h1⟩
      · rintro (⟨hm, h1⟩ | ⟨j, b', hj, h1⟩)
        · exact ⟨k, b, Nat.le_refl _, hb, hm, h1⟩
        · exact ⟨j, b', by omega, h1⟩
    rw [blocksK, hnx]
    by_cases hm : k ∈ orderF f.blocks
    · rw [if_neg (fun hn => hreach.1 hn hm), blocksK_mem h l (k + 1) _ hd2 (by rw [edgesK_len]; exact hl), edgesK_mem h hm hb _ ps (fun e he => he) hl]
      constructor
      · rintro ((h1 | h1) | h1)
        · exact .inl h1
        · exact .inr (.inl ⟨hm, h1⟩)
        · exact .inr (.inr h1)
      · rintro (h1 | ⟨_, h1⟩ | h1)
        · exact .inl (.inl h1)
        · exact .inl (.inr h1)
        · exact .inr h1
    · rw [if_pos (hreach.2 hm), blocksK_mem h l (k + 1) ps hd2 hl]
      constructor
      · rintro (h1 | h1)
        · exact .inl h1
        · exact .inr (.inr h1)
      · rintro (h1 | ⟨h2, _⟩ | h1)
        · exact .inl h1
        · exact absurd h2 hm
        · exact .inr h1
theorem blocksK_len (ov pl : List Int) (n : Nat) : ∀ (l : List SBlock) (k : Nat) (ps : IL), (blocksK ov pl n k l ps).length = ps.length
  | [], k, ps => rfl
  | b :: l, k, ps => by
    rw [blocksK, blocksK_len]
    split
    · rfl
    · rw [edgesK_len]
theorem front_len (f : SFunc) : (frontF f).length = f.blocks.length := by rw [frontF, List.length_map, frontR, blocksK_len, List.length_replicate]
/-- What DomEdges asks. -/
theorem edges_law {f : SFunc} (h : FuncOk f) {a b : Nat} (hb : b ∈ orderF f.blocks) : (b : Int) ∈ (frontF f)[a]?.getD [] ↔ (∃ p, Edge f.blocks p b ∧ p ∈ orderF f.blocks ∧ domsF f a p = true) ∧ (a = b ∨ ¬ domsF f a b = true) := by
  have ho := order_ok h.pos h.edges
  have ht := tree_ok ho h.edges
  have h1 : (b : Int) ∈ (frontF f)[a]?.getD [] ↔ (b : Int) ∈ (frontR f)[a]?.getD [] := by
    rw [frontF, List.getElem?_map]
    cases (frontR f)[a]? with
    | none => rfl
    | some l => exact List.mem_mergeSort
  rw [h1, frontR, blocksK_mem h f.blocks 0 _ rfl List.length_replicate, doms_anc ho ht hb]
  have h0 : ¬ (b : Int) ∈ (List.replicate f.blocks.length ([] : List Int))[a]?.getD [] := by
    rw [List.getElem?_replicate]
    split <;> simp
  have key : ∀ {k : Nat}, k ∈ orderF f.blocks → Edge f.blocks k b → (¬ Anc (treeF f.blocks) (gI (treeF f.blocks) b).toNat a ↔ (a = b ∨ ¬ Anc (treeF f.blocks) b a)) := fun {k} hk he => by
    obtain ⟨_, _, q, hq, hi, ha⟩ := idom_anc h hk he
    have hb0 := (idom_anc h hk he).1
    rw [gI_get ho hq, Int.toNat_natCast]
    constructor
    · intro hn
      by_cases hab : a = b
      · exact .inl hab
      · exact .inr fun hba => (ht.inv.tree.cases ho hq hba).elim hab hn
    · rintro (hab | hn) hqa
      · rw [hab] at hqa
        have hbq : b = q := anc_eq ho ht.inv.tree (ht.all b hb) (.step hq (.refl _)) hqa
        obtain ⟨q2, hq2, _, hlt⟩ := ht.inv.tree.parent ho (ht.all b hb) hb0
        rw [hq] at hq2
        injection hq2 with hq2
        have hqq : q = q2 := by omega
        rw [← hqq, ← hbq] at hlt
        omega
      · exact hn (.step hq hqa)
  constructor
  · rintro (h2 | ⟨j, bl, _, hbl, hm, e, he, hbe, ha, hn⟩)
    · exact absurd h2 h0
    · have hed : Edge f.blocks j b := ⟨e, by rw [toAt_get hbl]; exact he, by omega⟩
      rw [← hbe] at hn
      exact ⟨⟨j, hed, hm, (doms_anc ho ht hm).2 ha⟩, (key hm hed).1 hn⟩
  · rintro ⟨⟨p, hed, hm, hp⟩, hor⟩
    rw [doms_anc ho ht hm] at hp
    have hpl := ho.lt p hm
    obtain ⟨bl, hbl⟩ := get_of_lt f.blocks p (by omega)
    obtain ⟨e, he, hbe⟩ := hed
    rw [toAt_get hbl] at he
    have he1 := (h.edges bl (List.mem_of_getElem? hbl) e he).1
    have hbe2 : (b : Int) = e.block := by omega
    refine .inr ⟨p, bl, Nat.zero_le _, hbl, hm, e, he, hbe2, hp, ?_⟩
    rw [← hbe2]
    exact (key hm ⟨e, by rw [toAt_get hbl]; exact he, hbe⟩).2 hor
end Go.SM
