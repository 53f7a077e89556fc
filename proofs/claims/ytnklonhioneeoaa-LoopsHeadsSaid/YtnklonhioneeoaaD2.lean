import Derived.Test.YtnklonhioneeoaaD1
set_option linter.unusedVariables false
set_option linter.unusedSimpArgs false
set_option linter.unusedSectionVars false
namespace Go.SM
open Go.VL
structure TInv (bs : List SBlock) (ov : List Int) (i : Nat) : Prop where
  tree : Tree bs ov
  done : ∀ (j v : Nat), j < i → (orderF bs)[j]? = some v → InT bs ov v
  down : ∀ (v w : Nat), InT bs ov v → w ∈ orderF bs → pos bs w < pos bs v → InT bs ov w
  anc : ∀ (v x : Nat), InT bs ov v → Anc ov v x → AncP bs v x
  most : ∀ (v q : Nat), InT bs ov v → v ≠ 0 → ov[v]? = some (q : Int) → ∀ y, (∀ p, Edge bs p v → InT bs ov p → Anc ov p y) → pos bs y ≤ pos bs q
  past : ∀ (v : Nat), v ∈ orderF bs → pos bs v < i → ∀ q x, AncP bs v q → Anc ov v x → pos bs x ≤ pos bs q → Anc ov q x
theorem AncP.ne {bs : List SBlock} {v x : Nat} (h : AncP bs v x) (hx : x ≠ v) : v ≠ 0 ∧ AncP bs (pi bs v) x := by
  cases h with
  | refl => exact absurd rfl hx
  | step h0 k => exact ⟨h0, k⟩
def hW (bs : List SBlock) (x : Int) : Nat := if x < 0 then bs.length else pos bs x.toNat
def treeW (bs : List SBlock) (ov : List Int) : Nat := (ov.map (hW bs)).sum
section
variable {bs : List SBlock} (ho : OrderOk bs (orderF bs)) (hE : ∀ b ∈ bs, ∀ e ∈ b.term.to, 1 ≤ e.block ∧ e.block < bs.length) {ov : List Int}
include ho
theorem edge_mem {p v : Nat} (hp : p ∈ orderF bs) (he : Edge bs p v) : v ∈ orderF bs := ho.closed p hp v he
theorem set_get {k v : Nat} {c : Int} (h : v ≠ k) : (ov.set k c)[v]? = ov[v]? := List.getElem?_set_ne (Ne.symm h)
theorem anc_before (h : Tree bs ov) {k c v x : Nat} (hv : InT bs ov v) (hp : pos bs v < pos bs k) : Anc (ov.set k (c : Int)) v x ↔ Anc ov v x := by
  constructor
  · intro ha
    generalize ho' : ov.set k (c : Int) = ov' at ha
    induction ha with
    | refl a => exact .refl _
    | @step a q x hq _ ih =>
      subst ho'
      have hak : a ≠ k := fun e => by subst e; omega
      rw [set_get ho hak] at hq
      by_cases h0 : a = 0
      · subst h0
        rw [h.root] at hq
        injection hq with hq
        omega
      · obtain ⟨q', hq', hi, hlt⟩ := h.parent ho hv h0
        have e : (q : Int) = q' := by rw [hq] at hq'; injection hq'
        have : q = q' := by omega
        subst this
        exact .step hq (ih hi (by omega))
  · intro ha
    induction ha with
    | refl a => exact .refl _
    | @step a q x hq _ ih =>
      have hak : a ≠ k := fun e => by subst e; omega
      by_cases h0 : a = 0
      · subst h0
        rw [h.root] at hq
        injection hq with hq
        omega
      · obtain ⟨q', hq', hi, hlt⟩ := h.parent ho hv h0
        have e : (q : Int) = q' := by rw [hq] at hq'; injection hq'
        have : q = q' := by omega
        subst this
        exact .step (by rw [set_get ho hak]; exact hq) (ih hi (by omega))
theorem anc_shrink (h : Tree bs ov) {k c v x : Nat} (hkl : k < ov.length) (hk : InT bs ov k → ∃ q : Nat, ov[k]? = some (q : Int) ∧ Anc ov q c) (hv : InT bs ov v) (ha : Anc (ov.set k (c : Int)) v x) : Anc ov v x := by
  generalize ho' : ov.set k (c : Int) = ov' at ha
  induction ha with
  | refl a => exact .refl _
  | @step a q x hq _ ih =>
    subst ho'
    by_cases hak : a = k
    · subst hak
      rw [List.getElem?_set, if_pos rfl, if_pos hkl] at hq
      injection hq with hq
      have : c = q := by omega
      subst this
      obtain ⟨q', hq', hc⟩ := hk hv
      have hkc : Anc ov a c := .step hq' hc
      exact hkc.trans (ih (h.anc ho hv hkc).1)
    · rw [set_get ho hak] at hq
      by_cases h0 : a = 0
      · subst h0
        rw [h.root] at hq
        injection hq with hq
        omega
      · obtain ⟨q', hq', hi, hlt⟩ := h.parent ho hv h0
        have e : (q : Int) = q' := by rw [hq] at hq'; injection hq'
        have : q = q' := by omega
        subst this
        exact .step hq (ih hi)
theorem anc_self (h : Tree bs ov) {k c x : Nat} (hkl : k < ov.length) (hc : InT bs ov c) (hp : pos bs c < pos bs k) : Anc (ov.set k (c : Int)) k x ↔ x = k ∨ Anc ov c x := by
  have hck : (ov.set k (c : Int))[k]? = some (c : Int) := by rw [List.getElem?_set, if_pos rfl, if_pos hkl]
  constructor
  · intro ha
    cases ha with
    | refl => exact .inl rfl
    | @step _ q _ hq ha =>
      rw [hck] at hq
      injection hq with hq
      have : c = q := by omega
      subst this
      exact .inr ((anc_before ho h hc hp).1 ha)
  · rintro (rfl | ha)
    · exact .refl _
    · exact .step hck ((anc_before ho h hc hp).2 ha)
theorem inT_set {k c v : Nat} (hkl : k < ov.length) (hkm : k ∈ orderF bs) : InT bs (ov.set k (c : Int)) v ↔ InT bs ov v ∨ v = k := by
  unfold InT
  by_cases hvk : v = k
  · subst hvk
    have hck : (ov.set v (c : Int))[v]? = some (c : Int) := by rw [List.getElem?_set, if_pos rfl, if_pos hkl]
    exact ⟨fun _ => .inr rfl, fun _ => ⟨hkm, .inr ⟨c, hck, by omega⟩⟩⟩
  · rw [set_get ho hvk]
    simp [hvk]
include hE
theorem preds_nat {v : Nat} : ∀ p ∈ ((predsF bs)[v]?.getD []), ∃ k : Nat, p = k ∧ k < bs.length := fun p hp => by
  obtain ⟨k, rfl, he⟩ := (preds_mem hE).1 hp
  refine ⟨k, rfl, ?_⟩
  obtain ⟨x, hx, _⟩ := he
  unfold toAt at hx
  cases hb : bs[k]? with
  | none => rw [hb] at hx; cases hx
  | some b => exact (List.getElem?_eq_some_iff.1 hb).1
theorem next_of {i k : Nat} (h : TInv bs ov i) (h1 : 1 ≤ i) (hk : (orderF bs)[i]? = some k) :
    ∃ c : Nat, nextL ov (placeZ bs) (2 * bs.length + 1) (-1) ((predsF bs)[k]?.getD []) = c ∧ InT bs ov c ∧ pos bs c < pos bs k ∧ k ≠ 0 ∧ (∀ p, Edge bs p k → InT bs ov p → Anc ov p c) ∧ (∀ x, (∀ p, Edge bs p k → InT bs ov p → Anc ov p x) → Anc ov c x) ∧ InT bs ov (pi bs k) ∧ Anc ov (pi bs k) c := by
  have hkm := List.mem_of_getElem? hk
  have hpk := pos_of_get ho hk
  have hk0 : k ≠ 0 := fun e => by
    subst e
    rw [pos_zero ho] at hpk
    omega
  obtain ⟨hp1, hp2, hp3⟩ := pi_spec ho hkm hk0
  have hpi : InT bs ov (pi bs k) := h.done _ _ (by omega) (place_of ho hp1).2
  obtain ⟨Q, hQ, hc⟩ := next_ok ho h.tree _ (-1) [] (preds_nat ho hE) (.inl ⟨rfl, rfl⟩)
  have hmem : ∀ p : Nat, p ∈ Q ↔ Edge bs p k ∧ InT bs ov p := fun p => by
    rw [hQ p]
    constructor
    · rintro (h3 | ⟨h3, h4⟩)
      · cases h3
      · obtain ⟨q, hq, he⟩ := (preds_mem hE).1 h3
        have : p = q := by omega
        subst this
        exact ⟨he, h4⟩
    · rintro ⟨h3, h4⟩
      exact .inr ⟨(preds_mem hE).2 ⟨p, rfl, h3⟩, h4⟩
  have hpQ : pi bs k ∈ Q := (hmem _).2 ⟨hp3, hpi⟩
  rcases hc with ⟨_, rfl⟩ | ⟨c, e, hci, _, h2, h3⟩
  · cases hpQ
  · have hpc := h2 _ hpQ
    have := h.tree.anc ho hpi hpc
    exact ⟨c, e, hci, by omega, hk0, fun p hp hi => h2 p ((hmem p).2 ⟨hp, hi⟩), fun x hx => h3 x fun p hp => hx p ((hmem p).1 hp).1 ((hmem p).1 hp).2, hpi, hpc⟩
theorem node_step {i k : Nat} {a : Bool} (h : TInv bs ov i) (h1 : 1 ≤ i) (hk : (orderF bs)[i]? = some k) :
    TInv bs (treeNode bs (placeZ bs) ⟨ov, a⟩ k).ov (i + 1) ∧ (treeNode bs (placeZ bs) ⟨ov, a⟩ k = ⟨ov, a⟩ ∧ gI ov k = nextL ov (placeZ bs) (2 * bs.length + 1) (-1) ((predsF bs)[k]?.getD []) ∨ (treeNode bs (placeZ bs) ⟨ov, a⟩ k).again = true ∧ treeW bs (treeNode bs (placeZ bs) ⟨ov, a⟩ k).ov < treeW bs ov) := by
  obtain ⟨c, ec, hci, hcp, hk0, hA, hB, hpi, hpc⟩ := next_of ho hE h h1 hk
  have hkm := List.mem_of_getElem? hk
  have hpk := pos_of_get ho hk
  have hkl : k < ov.length := by rw [h.tree.len]; exact ho.lt k hkm
  obtain ⟨x, hx⟩ : ∃ x, ov[k]? = some x := ⟨_, List.getElem?_eq_getElem hkl⟩
  have hgx := gI_get ho hx
  have hpik := (pi_spec ho hkm hk0).2.1
  -- what 'past' says of the block itself, once its ancestor is c
  have pastk : ∀ q y, AncP bs k q → (y = k ∨ Anc ov c y) → pos bs y ≤ pos bs q → q ≠ k → Anc ov q y := fun q y hq hy hle hqk => by
    have hq2 := (hq.ne hqk).2
    have hqm := ancP_mem ho (pi_spec ho hkm hk0).1 hq2
    rcases hy with rfl | hy
    · omega
    · exact h.past (pi bs k) (pi_spec ho hkm hk0).1 (by omega) q y hq2 (hpc.trans hy) hle
  unfold treeNode
  simp only [Int.toNat_natCast]
  rw [ec, hgx]
  by_cases hcx : (c : Int) = x
  · -- nothing changes
    rw [if_neg (fun hne => hne hcx)]
    refine ⟨⟨h.tree, fun j v hj hv => ?_, h.down, h.anc, h.most, fun v hv hlt q y hq hy hle => ?_⟩, .inl ⟨rfl, hcx.symm⟩⟩
    · by_cases hji : j < i
      · exact h.done j v hji hv
      · have : j = i := by omega
        subst this
        rw [hk] at hv
        injection hv with hv
        subst hv
        exact ⟨hkm, .inr ⟨x, hx, by omega⟩⟩
    · by_cases hlt2 : pos bs v < i
      · exact h.past v hv hlt2 q y hq hy hle
      · have hvk : v = k := pos_inj ho hv hkm (by omega)
        subst hvk
        by_cases hqk : q = v
        · subst hqk; exact hy
        · subst hcx
          exact pastk q y hq (h.tree.cases ho hx hy) hle hqk
  · rw [if_pos hcx]
    -- how the block's ancestor moves up
    have hup : InT bs ov k → ∃ q : Nat, ov[k]? = some (q : Int) ∧ Anc ov q c ∧ pos bs c < pos bs q := fun hi => by
      obtain ⟨q, hq, hqi, hqp⟩ := h.tree.parent ho hi hk0
      have hle := h.most k q hi hk0 hq c hA
      have hqk : q ≠ k := fun e => by subst e; omega
      have hq2 := ((h.anc k q hi (.step hq (.refl _))).ne hqk).2
      have hac := h.past (pi bs k) (pi_spec ho hkm hk0).1 (by omega) q c hq2 hpc hle
      have hcq : c ≠ q := fun e => by
        subst e
        rw [hx] at hq
        injection hq with hq
        exact hcx hq.symm
      exact ⟨q, hq, hac, (h.tree.anc ho hqi hac).2.2 hcq⟩
    have hup2 : InT bs ov k → ∃ q : Nat, ov[k]? = some (q : Int) ∧ Anc ov q c := fun hi => by
      obtain ⟨q, h1, h2, _⟩ := hup hi
      exact ⟨q, h1, h2⟩
    have hIn := fun v => inT_set ho (c := c) (v := v) hkl hkm
    have hck : (ov.set k (c : Int))[k]? = some (c : Int) := by rw [List.getElem?_set, if_pos rfl, if_pos hkl]
    have tree' : Tree bs (ov.set k (c : Int)) := by
      refine ⟨by rw [List.length_set]; exact h.tree.len, by rw [set_get ho (Ne.symm hk0)]; exact h.tree.root, fun v hv hm => ?_, fun v y hm h0 hy hy0 => ?_, fun v y hy hy0 => ?_⟩
      · rw [set_get ho (fun e => by subst e; exact hm hkm)]; exact h.tree.out v hv hm
      · have known : ∀ q, InT bs ov q → q = 0 ∨ ∃ y : Int, (ov.set k (c : Int))[q]? = some y ∧ 0 ≤ y := fun q hq => by
          by_cases hqk : q = k
          · subst hqk; exact .inr ⟨c, hck, by omega⟩
          · rw [set_get ho hqk]; exact hq.2
        by_cases hvk : v = k
        · subst hvk
          rw [hck] at hy
          injection hy with hy
          exact ⟨c, hy.symm, hci.1, hcp, known c hci⟩
        · rw [set_get ho hvk] at hy
          obtain ⟨q, e, hq1, hq2, hq3⟩ := h.tree.up v y hm h0 hy hy0
          exact ⟨q, e, hq1, hq2, known q ⟨hq1, hq3⟩⟩
      · by_cases hvk : v = k
        · subst hvk
          rw [hck] at hy
          injection hy with hy
          omega
        · rw [set_get ho hvk] at hy
          exact h.tree.low v y hy hy0
    have shr : ∀ v y, InT bs ov v → Anc (ov.set k (c : Int)) v y → Anc ov v y := fun v y hv ha => anc_shrink ho h.tree hkl hup2 hv ha
    have selfk := fun y => anc_self ho h.tree (x := y) hkl hci hcp
    refine ⟨⟨tree', fun j v hj hv => ?_, fun v w hv hw hlt => ?_, fun v y hv ha => ?_, fun v q hv h0 hq y hy => ?_, fun v hv hlt q y hq hy hle => ?_⟩, .inr ⟨rfl, ?_⟩⟩
    · rw [hIn]
      by_cases hji : j < i
      · exact .inl (h.done j v hji hv)
      · have : j = i := by omega
        subst this
        rw [hk] at hv
        injection hv with hv
        exact .inr hv.symm
    · rw [hIn] at hv ⊢
      rcases hv with hv | rfl
      · exact .inl (h.down v w hv hw hlt)
      · exact .inl (h.done _ _ (by omega) (place_of ho hw).2)
    · rw [hIn] at hv
      rcases hv with hv | rfl
      · exact h.anc v y hv (shr v y hv ha)
      · rcases (selfk y).1 ha with rfl | ha
        · exact .refl _
        · exact .step hk0 (h.anc _ y hpi (hpc.trans ha))
    · by_cases hvk : v = k
      · subst hvk
        rw [hck] at hq
        injection hq with hq
        have : c = q := by omega
        subst this
        have hcy : Anc ov c y := hB y fun p hp hi => shr p y hi (hy p hp ((hIn p).2 (.inl hi)))
        exact (h.tree.anc ho hci hcy).2.1
      · rw [set_get ho hvk] at hq
        rw [hIn] at hv
        exact h.most v q (hv.resolve_right hvk) h0 hq y fun p hp hi => shr p y hi (hy p hp ((hIn p).2 (.inl hi)))
    · by_cases hlt2 : pos bs v < i
      · have hvi : InT bs ov v := h.done _ _ hlt2 (place_of ho hv).2
        have hqm := ancP_mem ho hv hq
        have hqi : InT bs ov q := h.done _ _ (by omega) (place_of ho hqm.1).2
        rw [anc_before ho h.tree hvi (by omega)] at hy
        rw [anc_before ho h.tree hqi (by omega)]
        exact h.past v hv hlt2 q y hq hy hle
      · have hvk : v = k := pos_inj ho hv hkm (by omega)
        subst hvk
        by_cases hqk : q = v
        · subst hqk; exact hy
        · have hqm := ancP_mem ho (pi_spec ho hkm hk0).1 (hq.ne hqk).2
          have hqi : InT bs ov q := h.done _ _ (by omega) (place_of ho hqm.1).2
          rw [anc_before ho h.tree hqi (by omega)]
          exact pastk q y hq ((selfk y).1 hy) hle hqk
    · have hs := sum_set (l := ov.map (hW bs)) (k := k) (x := hW bs x) (y := hW bs (c : Int)) (by rw [List.getElem?_map, hx]; rfl)
      unfold treeW
      rw [List.map_set]
      have hlt : hW bs (c : Int) < hW bs x := by
        unfold hW
        rw [if_neg (by omega), Int.toNat_natCast]
        split
        · exact pos_lt ho hci.1
        · rename_i hx0
          obtain ⟨q, hq, _, hlt⟩ := hup ⟨hkm, .inr ⟨x, hx, by omega⟩⟩
          rw [hx] at hq
          injection hq with hq
          rw [hq, Int.toNat_natCast]
          exact hlt
      omega
theorem pass_step : ∀ (l : List Int) (i : Nat) (s : TState), TInv bs s.ov i → 1 ≤ i → (ordZ bs).drop i = l →
    TInv bs (treePass bs (placeZ bs) l s).ov (i + l.length) ∧ (treePass bs (placeZ bs) l s = s ∧ (∀ k ∈ l, gI s.ov k = nextL s.ov (placeZ bs) (2 * bs.length + 1) (-1) ((predsF bs)[k.toNat]?.getD [])) ∨ (treePass bs (placeZ bs) l s).again = true ∧ treeW bs (treePass bs (placeZ bs) l s).ov < treeW bs s.ov)
  | [], i, s, h, _, _ => ⟨h, .inl ⟨rfl, fun k hk => by cases hk⟩⟩
  | z :: l, i, s, h, h1, hl => by
    have hz : (ordZ bs)[i]? = some z := by
      have : ((ordZ bs).drop i)[0]? = some z := by rw [hl]; rfl
      rwa [List.getElem?_drop, Nat.add_zero] at this
    have hz2 := hz
    unfold ordZ at hz
    rw [List.getElem?_map] at hz
    obtain ⟨k, hk, rfl⟩ := Option.map_eq_some_iff.1 hz
    have hl2 : (ordZ bs).drop (i + 1) = l := by
      have := drop_cons hz2
      rw [hl] at this
      injection this with _ this
      exact this.symm
    obtain ⟨ov, a⟩ := s
    obtain ⟨g1, g2⟩ := node_step ho hE (a := a) h h1 hk
    rw [treePass]
    obtain ⟨p1, p2⟩ := pass_step l (i + 1) (treeNode bs (placeZ bs) ⟨ov, a⟩ k) g1 (by omega) hl2
    refine ⟨by rw [List.length_cons, show i + (l.length + 1) = i + 1 + l.length by omega]; exact p1, ?_⟩
    rcases g2 with ⟨g2, g3⟩ | ⟨g2, g3⟩
    · rw [g2] at p2 ⊢
      rcases p2 with ⟨p2, p3⟩ | p2
      · refine .inl ⟨p2, fun q hq => ?_⟩
        rcases List.mem_cons.1 hq with rfl | hq
        · rw [Int.toNat_natCast]; exact g3
        · exact p3 q hq
      · exact .inr p2
    · rcases p2 with ⟨p2, _⟩ | ⟨p2, p3⟩
      · rw [p2]; exact .inr ⟨g2, g3⟩
      · exact .inr ⟨p2, by dsimp only at g3 ⊢; omega⟩
omit hE in
theorem TInv.begin {n : Nat} (h : TInv bs ov n) (hn : 1 ≤ n) : TInv bs ov 1 := by
  refine ⟨h.tree, fun j v hj hv => h.done j v (by omega) hv, h.down, h.anc, h.most, fun v hv hlt q x hq hx hle => ?_⟩
  have hv0 : v = 0 := pos_inj ho hv (zero_mem ho) (by rw [pos_zero ho]; omega)
  subst hv0
  cases hq with
  | refl => exact hx
  | step h0 _ => exact absurd rfl h0
omit hE in
theorem tree_start : TInv bs (List.replicate bs.length (-1)) 1 := by
  have h0 := ho.lt 0 (zero_mem ho)
  have neg : ∀ (v : Nat) (x : Int), (List.replicate bs.length (-1 : Int))[v]? = some x → x = -1 := fun v x hx => by
    rw [List.getElem?_replicate] at hx
    split at hx
    · injection hx with hx; exact hx.symm
    · cases hx
  have inz : ∀ v, InT bs (List.replicate bs.length (-1)) v → v = 0 := fun v hv => by
    rcases hv.2 with h | ⟨x, hx, hx0⟩
    · exact h
    · have := neg v x hx; omega
  have tr : Tree bs (List.replicate bs.length (-1)) := by
    refine ⟨List.length_replicate, by rw [List.getElem?_replicate, if_pos h0], fun v hv _ => by rw [List.getElem?_replicate, if_pos hv], fun v x _ _ hx hx0 => ?_, fun v x hx _ => neg v x hx⟩
    have := neg v x hx
    omega
  refine ⟨tr, fun j v hj hv => ?_, fun v w hv hw hlt => ?_, fun v x hv ha => ?_, fun v q hv hv0 => absurd (inz v hv) hv0, fun v hv hlt q x hq hx hle => ?_⟩
  · have : j = 0 := by omega
    subst this
    rw [ho.zero] at hv
    injection hv with hv
    subst hv
    exact ⟨zero_mem ho, .inl rfl⟩
  · have := inz v hv
    subst this
    rw [pos_zero ho] at hlt
    omega
  · have := inz v hv
    subst this
    rw [tr.zero ho ha]
    exact .refl _
  · have hv0 : v = 0 := pos_inj ho hv (zero_mem ho) (by rw [pos_zero ho]; omega)
    subst hv0
    cases hq with
    | refl => exact hx
    | step h0 _ => exact absurd rfl h0
omit hE in
theorem treeW_start : treeW bs (List.replicate bs.length (-1)) = bs.length * bs.length := by
  have key : ∀ n x : Nat, (List.replicate n x).sum = n * x := fun n x => by
    induction n with
    | zero => simp
    | succ n ih => rw [List.replicate_succ, List.sum_cons, ih, Nat.succ_mul]; omega
  unfold treeW
  rw [List.map_replicate, key]
  simp [hW]
theorem tree_round {n : Nat} {s : TState} (h : TInv bs s.ov 1) (ha : s.again = true) (hw : treeW bs s.ov + 1 ≤ n) :
    ∃ n', n = n' + 1 ∧ treeIter bs (placeZ bs) (ordZ bs) n s = treeIter bs (placeZ bs) (ordZ bs) n' (treePass bs (placeZ bs) ((ordZ bs).drop 1) ⟨s.ov, false⟩) ∧ TInv bs (treePass bs (placeZ bs) ((ordZ bs).drop 1) ⟨s.ov, false⟩).ov 1 ∧
      treeW bs (treePass bs (placeZ bs) ((ordZ bs).drop 1) ⟨s.ov, false⟩).ov + (if (treePass bs (placeZ bs) ((ordZ bs).drop 1) ⟨s.ov, false⟩).again then 1 else 0) ≤ n' := by
  obtain ⟨n', rfl⟩ : ∃ n', n = n' + 1 := ⟨n - 1, by omega⟩
  obtain ⟨h1, h2⟩ := pass_step ho hE ((ordZ bs).drop 1) 1 ⟨s.ov, false⟩ h (Nat.le_refl _) rfl
  refine ⟨n', rfl, by rw [treeIter, if_pos ha], h1.begin ho (by omega), ?_⟩
  rcases h2 with ⟨h2, _⟩ | ⟨h2, h3⟩
  · rw [h2]
    dsimp only
    rw [if_neg (by decide)]
    omega
  · rw [h2, if_pos rfl]
    dsimp only at h3
    omega
structure TreeOk (bs : List SBlock) (ov : List Int) : Prop where
  inv : TInv bs ov 1
  all : ∀ v, v ∈ orderF bs → InT bs ov v
  fix : ∀ v, v ∈ orderF bs → v ≠ 0 → gI ov v = nextL ov (placeZ bs) (2 * bs.length + 1) (-1) ((predsF bs)[v]?.getD [])
theorem iter_ok : ∀ (n : Nat) (s : TState), TInv bs s.ov 1 → treeW bs s.ov + (if s.again then 1 else 0) ≤ n → (s.again = false → TreeOk bs s.ov) → TreeOk bs (treeIter bs (placeZ bs) (ordZ bs) n s).ov
  | 0, s, h, hw, hf => by
    cases ha : s.again with
    | false => exact hf ha
    | true => rw [ha, if_pos rfl] at hw; omega
  | n + 1, s, h, hw, hf => by
    cases ha : s.again with
    | false => rw [treeIter, if_neg (by rw [ha]; decide)]; exact hf ha
    | true =>
      rw [ha, if_pos rfl] at hw
      obtain ⟨n', e, h1, h2, h3⟩ := tree_round ho hE h ha hw
      have : n = n' := by omega
      subst this
      rw [h1]
      refine iter_ok n _ h2 h3 fun ha2 => ?_
      obtain ⟨g1, g2⟩ := pass_step ho hE ((ordZ bs).drop 1) 1 ⟨s.ov, false⟩ h (Nat.le_refl _) rfl
      rcases g2 with ⟨g2, g3⟩ | ⟨g2, _⟩
      · rw [g2] at g1 ⊢
        have hl : 1 + ((ordZ bs).drop 1).length = (orderF bs).length := by
          have := (List.getElem?_eq_some_iff.1 ho.zero).1
          simp [ordZ]
          omega
        refine ⟨h, fun v hv => g1.done _ _ (by rw [hl]; exact (List.getElem?_eq_some_iff.1 (place_of ho hv).2).1) (place_of ho hv).2, fun v hv h0 => ?_⟩
        have hvp : 1 ≤ pos bs v := by
          apply Classical.byContradiction
          intro hn
          exact h0 (pos_inj ho hv (zero_mem ho) (by rw [pos_zero ho]; omega))
        have := g3 (v : Int) (by
          have hg : (ordZ bs)[pos bs v]? = some (v : Int) := by
            unfold ordZ
            rw [List.getElem?_map, (place_of ho hv).2]
            rfl
          have : ((ordZ bs).drop 1)[pos bs v - 1]? = some (v : Int) := by
            rw [List.getElem?_drop, show 1 + (pos bs v - 1) = pos bs v by omega]
            exact hg
          exact List.mem_of_getElem? this)
        rw [Int.toNat_natCast] at this
        exact this
      · rw [g2] at ha2; cases ha2
theorem tree_ok : TreeOk bs (treeF bs) := by
  refine iter_ok ho hE _ _ (tree_start ho) ?_ fun h => by cases h
  dsimp only
  rw [treeW_start ho, if_pos rfl]
  omega
end
end Go.SM
