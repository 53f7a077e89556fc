import Derived.Test.YtnklonhioneeoaaC2
set_option linter.unusedVariables false
set_option linter.unusedSimpArgs false
set_option linter.unusedSectionVars false
namespace Go.SM
open Go.VL
def gI (l : List Int) (i : Int) : Int := l[i.toNat]?.getD 0
def meetF (ov pl : List Int) : Nat → Int → Int → Int
  | 0, a, _ => a
  | n + 1, a, b => if a = b then a else if gI pl a > gI pl b then meetF ov pl n (gI ov a) b else meetF ov pl n a (gI ov b)
def skipP (ov pl : List Int) (p : Int) : Bool := decide (gI pl p < 0) || (decide (p ≠ 0) && decide (gI ov p < 0))
def nextL (ov pl : List Int) (m : Nat) : Int → List Int → Int
  | cur, [] => cur
  | cur, p :: ps => nextL ov pl m (if skipP ov pl p then cur else if cur < 0 then p else meetF ov pl m cur p) ps
def placeF (ord : List Int) (n : Nat) : List Int := (List.range n).map fun k : Nat => idxOf (fun x => decide ((k : Int) = x)) ord
structure TState where
  ov : List Int
  again : Bool
def treeNode (bs : List SBlock) (pl : List Int) (s : TState) (k : Int) : TState :=
  let nx := nextL s.ov pl (2 * bs.length + 1) (-1) ((predsF bs)[k.toNat]?.getD [])
  if nx ≠ gI s.ov k then ⟨s.ov.set k.toNat nx, true⟩ else s
def treePass (bs : List SBlock) (pl : List Int) : List Int → TState → TState
  | [], s => s
  | k :: l, s => treePass bs pl l (treeNode bs pl s k)
def treeIter (bs : List SBlock) (pl : List Int) (ord : List Int) : Nat → TState → TState
  | 0, s => s
  | n + 1, s => if s.again then treeIter bs pl ord n (treePass bs pl (ord.drop 1) ⟨s.ov, false⟩) else s
def ordZ (bs : List SBlock) : List Int := (orderF bs).map fun k : Nat => (k : Int)
def placeZ (bs : List SBlock) : List Int := placeF (ordZ bs) bs.length
def treeF (bs : List SBlock) : List Int := (treeIter bs (placeZ bs) (ordZ bs) (bs.length * bs.length + 2) ⟨List.replicate bs.length (-1), true⟩).ov
theorem place_len (bs : List SBlock) : (placeZ bs).length = bs.length := by simp [placeZ, placeF]
theorem idx_nat {l : List Nat} {v : Nat} : idxOf (fun x => decide ((v : Int) = x)) (l.map fun k : Nat => (k : Int)) = -1 ∧ v ∉ l ∨ ∃ i, idxOf (fun x => decide ((v : Int) = x)) (l.map fun k : Nat => (k : Int)) = (i : Nat) ∧ l[i]? = some v := by
  rcases idxOf_range (fun x => decide ((v : Int) = x)) (l.map fun k : Nat => (k : Int)) with ⟨h1, h2⟩ | ⟨i, x, h1, h2, h3, _⟩
  · refine .inl ⟨h1, fun hm => ?_⟩
    rw [List.any_eq_false] at h2
    exact h2 (v : Int) (List.mem_map.2 ⟨v, hm, rfl⟩) (by simp)
  · refine .inr ⟨i, h1, ?_⟩
    rw [List.getElem?_map] at h2
    obtain ⟨w, hw, rfl⟩ := Option.map_eq_some_iff.1 h2
    rw [hw]
    have : (v : Int) = (w : Int) := by simpa using h3
    congr 1
    omega
theorem place_get {bs : List SBlock} {v : Nat} (hv : v < bs.length) : gI (placeZ bs) v = -1 ∧ v ∉ orderF bs ∨ ∃ i, gI (placeZ bs) v = (i : Nat) ∧ (orderF bs)[i]? = some v := by
  have : gI (placeZ bs) v = idxOf (fun x => decide ((v : Int) = x)) (ordZ bs) := by
    unfold gI placeZ placeF
    rw [Int.toNat_natCast, List.getElem?_map, List.getElem?_range hv]
    rfl
  rw [this]
  exact idx_nat
def pos (bs : List SBlock) (v : Nat) : Nat := (gI (placeZ bs) v).toNat
section
variable {bs : List SBlock} (ho : OrderOk bs (orderF bs))
include ho
theorem place_of {v : Nat} (hv : v ∈ orderF bs) : gI (placeZ bs) v = (pos bs v : Nat) ∧ (orderF bs)[pos bs v]? = some v := by
  rcases place_get (ho.lt v hv) with ⟨_, h⟩ | ⟨i, h1, h2⟩
  · exact absurd hv h
  · unfold pos
    rw [h1, Int.toNat_natCast]
    exact ⟨rfl, h2⟩
theorem pos_of_get {v i : Nat} (h : (orderF bs)[i]? = some v) : pos bs v = i := by
  have := (place_of ho (List.mem_of_getElem? h)).2
  exact (List.getElem?_inj (List.getElem?_eq_some_iff.1 this).1 ho.nodup).1 (this.trans h.symm)
theorem pos_inj {v w : Nat} (hv : v ∈ orderF bs) (hw : w ∈ orderF bs) (h : pos bs v = pos bs w) : v = w := by
  have h1 := (place_of ho hv).2
  have h2 := (place_of ho hw).2
  rw [h, h2] at h1
  injection h1 with h1
  exact h1.symm
theorem pos_zero : pos bs 0 = 0 := pos_of_get ho ho.zero
theorem pos_lt {v : Nat} (hv : v ∈ orderF bs) : pos bs v < bs.length := by
  have := (List.getElem?_eq_some_iff.1 (place_of ho hv).2).1
  have := nodup_lt ho.nodup ho.lt
  omega
theorem zero_mem : 0 ∈ orderF bs := List.mem_of_getElem? ho.zero
theorem par_of {v : Nat} (hv : v ∈ orderF bs) (h0 : v ≠ 0) : ∃ p, p ∈ orderF bs ∧ pos bs p < pos bs v ∧ Edge bs p v := by
  obtain ⟨i, p, hi, hp, he⟩ := ho.par _ v (place_of ho hv).2 h0
  exact ⟨p, List.mem_of_getElem? hp, by rw [pos_of_get ho hp]; exact hi, he⟩
open Classical in
omit ho in
noncomputable def pi (bs : List SBlock) (v : Nat) : Nat := if h : ∃ p, p ∈ orderF bs ∧ pos bs p < pos bs v ∧ Edge bs p v then Classical.choose h else 0
theorem pi_spec {v : Nat} (hv : v ∈ orderF bs) (h0 : v ≠ 0) : pi bs v ∈ orderF bs ∧ pos bs (pi bs v) < pos bs v ∧ Edge bs (pi bs v) v := by
  have h := par_of ho hv h0
  unfold pi
  rw [dif_pos h]
  exact Classical.choose_spec h
end
inductive Anc (ov : List Int) : Nat → Nat → Prop where
  | refl (a : Nat) : Anc ov a a
  | step {a q x : Nat} : ov[a]? = some (q : Int) → Anc ov q x → Anc ov a x
inductive AncP (bs : List SBlock) : Nat → Nat → Prop where
  | refl (a : Nat) : AncP bs a a
  | step {a x : Nat} : a ≠ 0 → AncP bs (pi bs a) x → AncP bs a x
theorem Anc.trans {ov : List Int} {a b c : Nat} (h : Anc ov a b) (k : Anc ov b c) : Anc ov a c := by
  induction h with
  | refl => exact k
  | step h _ ih => exact .step h (ih k)
structure Tree (bs : List SBlock) (ov : List Int) : Prop where
  len : ov.length = bs.length
  root : ov[0]? = some (-1)
  out : ∀ v, v < bs.length → v ∉ orderF bs → ov[v]? = some (-1)
  up : ∀ (v : Nat) (x : Int), v ∈ orderF bs → v ≠ 0 → ov[v]? = some x → 0 ≤ x → ∃ q : Nat, x = q ∧ q ∈ orderF bs ∧ pos bs q < pos bs v ∧ (q = 0 ∨ ∃ y : Int, ov[q]? = some y ∧ 0 ≤ y)
  low : ∀ (v : Nat) (x : Int), ov[v]? = some x → x < 0 → x = -1
def InT (bs : List SBlock) (ov : List Int) (v : Nat) : Prop := v ∈ orderF bs ∧ (v = 0 ∨ ∃ x : Int, ov[v]? = some x ∧ 0 ≤ x)
section
variable {bs : List SBlock} (ho : OrderOk bs (orderF bs)) {ov : List Int}
include ho
theorem Tree.parent (h : Tree bs ov) {v : Nat} (hv : InT bs ov v) (h0 : v ≠ 0) : ∃ q : Nat, ov[v]? = some (q : Int) ∧ InT bs ov q ∧ pos bs q < pos bs v := by
  obtain ⟨hm, hv⟩ := hv
  rcases hv with hv | ⟨x, hx, hx0⟩
  · exact absurd hv h0
  · obtain ⟨q, rfl, h1, h2, h3⟩ := h.up v x hm h0 hx hx0
    exact ⟨q, hx, ⟨h1, h3⟩, h2⟩
theorem Tree.anc (h : Tree bs ov) {v x : Nat} (hv : InT bs ov v) (ha : Anc ov v x) : InT bs ov x ∧ pos bs x ≤ pos bs v ∧ (x ≠ v → pos bs x < pos bs v) := by
  induction ha with
  | refl a => exact ⟨hv, Nat.le_refl _, fun h => absurd rfl h⟩
  | @step a q x hq _ ih =>
    by_cases h0 : a = 0
    · subst h0
      rw [h.root] at hq
      injection hq with hq
      omega
    · obtain ⟨q', hq', hi, hp⟩ := h.parent ho hv h0
      rw [hq] at hq'
      injection hq' with hq'
      have : q = q' := by omega
      subst this
      have := ih hi
      exact ⟨this.1, by omega, fun _ => by omega⟩
theorem Tree.zero (h : Tree bs ov) {x : Nat} (ha : Anc ov 0 x) : x = 0 := by
  cases ha with
  | refl => rfl
  | step hq _ =>
    rw [h.root] at hq
    injection hq with hq
    omega
theorem Tree.cases (h : Tree bs ov) {v q x : Nat} (hq : ov[v]? = some (q : Int)) (ha : Anc ov v x) : x = v ∨ Anc ov q x := by
  cases ha with
  | refl => exact .inl rfl
  | @step _ q' _ hq' k =>
    rw [hq] at hq'
    injection hq' with hq'
    have : q = q' := by omega
    subst this
    exact .inr k
theorem Tree.chain (h : Tree bs ov) {v x y : Nat} (hv : InT bs ov v) (hx : Anc ov v x) (hy : Anc ov v y) (hp : pos bs x ≤ pos bs y) : Anc ov y x := by
  induction hx with
  | refl a =>
    have := h.anc ho hv hy
    have : pos bs y = pos bs a := by omega
    rw [pos_inj ho (h.anc ho hv hy).1.1 hv.1 this]
    exact .refl _
  | @step a q x hq ha ih =>
    by_cases h0 : a = 0
    · subst h0
      rw [h.root] at hq
      injection hq with hq
      omega
    · obtain ⟨q', hq', hi, _⟩ := h.parent ho hv h0
      rw [hq] at hq'
      injection hq' with hq'
      have : q = q' := by omega
      subst this
      rcases h.cases ho hq hy with rfl | hy
      · exact .step hq ha
      · exact ih hi hy hp
theorem ancP_mem {v x : Nat} (hv : v ∈ orderF bs) (ha : AncP bs v x) : x ∈ orderF bs ∧ pos bs x ≤ pos bs v := by
  induction ha with
  | refl a => exact ⟨hv, Nat.le_refl _⟩
  | step h0 _ ih =>
    have hp := pi_spec ho hv h0
    have := ih hp.1
    exact ⟨this.1, by omega⟩
theorem gI_get {l : List Int} {v : Nat} {x : Int} (h : l[v]? = some x) : gI l v = x := by rw [gI, Int.toNat_natCast, h]; rfl
theorem meet_ok (h : Tree bs ov) : ∀ (n : Nat) (a b : Nat), InT bs ov a → InT bs ov b → pos bs a + pos bs b + 1 ≤ n →
    ∃ c : Nat, meetF ov (placeZ bs) n a b = c ∧ InT bs ov c ∧ Anc ov a c ∧ Anc ov b c ∧ ∀ x, Anc ov a x → Anc ov b x → Anc ov c x
  | 0, a, b, _, _, hn => by omega
  | n + 1, a, b, ha, hb, hn => by
    rw [meetF]
    by_cases hab : a = b
    · subst hab
      rw [if_pos rfl]
      exact ⟨a, rfl, ha, .refl _, .refl _, fun x hx _ => hx⟩
    · rw [if_neg (by omega)]
      have hpa := (place_of ho ha.1).1
      have hpb := (place_of ho hb.1).1
      rw [hpa, hpb]
      have hne : pos bs a ≠ pos bs b := fun e => hab (pos_inj ho ha.1 hb.1 e)
      by_cases hlt : (pos bs a : Int) > (pos bs b : Int)
      · rw [if_pos hlt]
        have h0 : a ≠ 0 := fun e => by subst e; rw [pos_zero ho] at hlt; omega
        obtain ⟨q, hq, hi, hp⟩ := h.parent ho ha h0
        rw [gI_get ho hq]
        obtain ⟨c, e, hc, h1, h2, h3⟩ := meet_ok h n q b hi hb (by omega)
        refine ⟨c, e, hc, .step hq h1, h2, fun x hx hy => ?_⟩
        rcases h.cases ho hq hx with rfl | hx
        · have := (h.anc ho hb hy).2.1
          omega
        · exact h3 x hx hy
      · rw [if_neg hlt]
        have h0 : b ≠ 0 := fun e => by subst e; rw [pos_zero ho] at hlt hne; omega
        obtain ⟨q, hq, hi, hp⟩ := h.parent ho hb h0
        rw [gI_get ho hq]
        obtain ⟨c, e, hc, h1, h2, h3⟩ := meet_ok h n a q ha hi (by omega)
        refine ⟨c, e, hc, h1, .step hq h2, fun x hx hy => ?_⟩
        rcases h.cases ho hq hy with rfl | hy
        · have := (h.anc ho ha hx).2.1
          omega
        · exact h3 x hx hy
theorem InT.fuel {v : Nat} (h : InT bs ov v) : pos bs v < bs.length := pos_lt ho h.1
theorem skip_iff {p : Nat} (h : Tree bs ov) (hp : p < bs.length) : skipP ov (placeZ bs) p = false ↔ InT bs ov p := by
  unfold skipP
  rw [Bool.or_eq_false_iff, decide_eq_false_iff_not, Bool.and_eq_false_iff, decide_eq_false_iff_not, decide_eq_false_iff_not]
  obtain ⟨x, hx⟩ : ∃ x, ov[p]? = some x := ⟨_, List.getElem?_eq_getElem (by rw [h.len]; exact hp)⟩
  rw [gI_get ho hx]
  rcases place_get hp with ⟨h1, h2⟩ | ⟨i, h1, h2⟩
  · rw [h1]
    constructor
    · intro h3; omega
    · intro h3; exact absurd h3.1 h2
  · rw [h1]
    constructor
    · rintro ⟨_, h3⟩
      refine ⟨List.mem_of_getElem? h2, ?_⟩
      rcases h3 with h3 | h3
      · left; omega
      · exact .inr ⟨x, hx, by omega⟩
    · rintro ⟨_, h3⟩
      refine ⟨by omega, ?_⟩
      rcases h3 with h3 | ⟨y, hy, h4⟩
      · left; omega
      · rw [hx] at hy
        injection hy with hy
        right; omega
theorem next_ok (h : Tree bs ov) : ∀ (ps : List Int) (cur : Int) (Q : List Nat), (∀ p ∈ ps, ∃ k : Nat, p = k ∧ k < bs.length) →
    (cur = -1 ∧ Q = [] ∨ ∃ c : Nat, cur = c ∧ InT bs ov c ∧ Q ≠ [] ∧ (∀ p ∈ Q, Anc ov p c) ∧ ∀ x, (∀ p ∈ Q, Anc ov p x) → Anc ov c x) →
    ∃ Q' : List Nat, (∀ p : Nat, p ∈ Q' ↔ p ∈ Q ∨ ((p : Int) ∈ ps ∧ InT bs ov p)) ∧ (nextL ov (placeZ bs) (2 * bs.length + 1) cur ps = -1 ∧ Q' = [] ∨ ∃ c : Nat, nextL ov (placeZ bs) (2 * bs.length + 1) cur ps = c ∧ InT bs ov c ∧ Q' ≠ [] ∧ (∀ p ∈ Q', Anc ov p c) ∧ ∀ x, (∀ p ∈ Q', Anc ov p x) → Anc ov c x)
  | [], cur, Q, _, hc => ⟨Q, fun p => by simp, hc⟩
  | p :: ps, cur, Q, hps, hc => by
    obtain ⟨k, rfl, hk⟩ := hps p (List.mem_cons_self ..)
    have hps' := fun q hq => hps q (List.mem_cons_of_mem _ hq)
    rw [nextL]
    cases hs : skipP ov (placeZ bs) (k : Int) with
    | true =>
      rw [if_pos rfl]
      obtain ⟨Q', h1, h2⟩ := next_ok h ps cur Q hps' hc
      refine ⟨Q', fun q => ?_, h2⟩
      rw [h1 q]
      constructor
      · rintro (h3 | ⟨h3, h4⟩)
        · exact .inl h3
        · exact .inr ⟨List.mem_cons_of_mem _ h3, h4⟩
      · rintro (h3 | ⟨h3, h4⟩)
        · exact .inl h3
        · rcases List.mem_cons.1 h3 with h3 | h3
          · have : q = k := by omega
            subst this
            rw [(skip_iff ho h hk).2 h4] at hs
            cases hs
          · exact .inr ⟨h3, h4⟩
    | false =>
      rw [if_neg (by decide)]
      have hi := (skip_iff ho h hk).1 hs
      have key : ∀ cur' : Int, (∃ c : Nat, cur' = c ∧ InT bs ov c ∧ (∀ p ∈ k :: Q, Anc ov p c) ∧ ∀ x, (∀ p ∈ k :: Q, Anc ov p x) → Anc ov c x) → ∃ Q' : List Nat, (∀ p : Nat, p ∈ Q' ↔ p ∈ Q ∨ ((p : Int) ∈ (k : Int) :: ps ∧ InT bs ov p)) ∧ (nextL ov (placeZ bs) (2 * bs.length + 1) cur' ps = -1 ∧ Q' = [] ∨ ∃ c : Nat, nextL ov (placeZ bs) (2 * bs.length + 1) cur' ps = c ∧ InT bs ov c ∧ Q' ≠ [] ∧ (∀ p ∈ Q', Anc ov p c) ∧ ∀ x, (∀ p ∈ Q', Anc ov p x) → Anc ov c x) := fun cur' ⟨c, e, h1, h2, h3⟩ => by
        obtain ⟨Q', g1, g2⟩ := next_ok h ps cur' (k :: Q) hps' (.inr ⟨c, e, h1, by simp, h2, h3⟩)
        refine ⟨Q', fun q => ?_, g2⟩
        rw [g1 q]
        constructor
        · rintro (h4 | ⟨h4, h5⟩)
          · rcases List.mem_cons.1 h4 with rfl | h4
            · exact .inr ⟨List.mem_cons_self .., hi⟩
            · exact .inl h4
          · exact .inr ⟨List.mem_cons_of_mem _ h4, h5⟩
        · rintro (h4 | ⟨h4, h5⟩)
          · exact .inl (List.mem_cons_of_mem _ h4)
          · rcases List.mem_cons.1 h4 with h4 | h4
            · have : q = k := by omega
              subst this
              exact .inl (List.mem_cons_self ..)
            · exact .inr ⟨h4, h5⟩
      rcases hc with ⟨rfl, rfl⟩ | ⟨c, rfl, hci, hQ, h1, h2⟩
      · rw [if_pos (by decide)]
        refine key _ ⟨k, rfl, hi, fun p hp => ?_, fun x hx => hx k (List.mem_cons_self ..)⟩
        rw [List.mem_singleton.1 hp]
        exact .refl _
      · rw [if_neg (by omega)]
        have hf1 := InT.fuel ho hci
        have hf2 := InT.fuel ho hi
        obtain ⟨d, e, hd, g1, g2, g3⟩ := meet_ok ho h (2 * bs.length + 1) c k hci hi (by omega)
        refine key _ ⟨d, e, hd, fun p hp => ?_, fun x hx => ?_⟩
        · rcases List.mem_cons.1 hp with rfl | hp
          · exact g2
          · exact (h1 p hp).trans g1
        · exact g3 x (h2 x fun p hp => hx p (List.mem_cons_of_mem _ hp)) (hx k (List.mem_cons_self ..))
end
end Go.SM
