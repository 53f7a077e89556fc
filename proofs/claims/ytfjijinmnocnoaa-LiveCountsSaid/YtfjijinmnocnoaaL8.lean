/- The pressure and what interferes, against the ranges; which blocks are reached. -/
import Derived.Test.YtfjijinmnocnoaaL7
set_option linter.unusedVariables false
set_option linter.unusedSimpArgs false
namespace Go.SM
open Go.VL
def pressG (m p : Nat) (live : List Bool) : Nat := max m (listF 0 live).length
def bothG (v w : Nat) (x : Bool) (p : Nat) (live : List Bool) : Bool := x || (live[v]?.getD false && live[w]?.getD false)
def overB {σ : Type} (f : SFunc) (many : Nat) (g : σ → Nat → List Bool → σ) (x0 : σ) (n : Nat) : σ := (List.range n).foldl (fun x k => visitN (f.blocks[k]?.getD default) (behindAt f many k) g (f.blocks[k]?.getD default).ins.length x) x0
theorem overB_succ {σ : Type} {f : SFunc} {many : Nat} (g : σ → Nat → List Bool → σ) (x0 : σ) {k : Nat} {b : SBlock} {s : List Bool} (hb : f.blocks[k]? = some b) (hs : behindAt f many k = s) : overB f many g x0 (k + 1) = visitN b s g b.ins.length (overB f many g x0 k) := by
  unfold overB
  rw [List.range_succ, List.foldl_append, List.foldl_cons, List.foldl_nil, hb, hs]
  rfl
def cntAt (f : SFunc) (many j p : Nat) : Nat := (listF 0 (liveAt (f.blocks[j]?.getD default) (behindAt f many j) p)).length
theorem press_visit {b : SBlock} {s : List Bool} : ∀ (n m : Nat), m ≤ visitN b s pressG n m ∧ (∀ p, p ≤ n → (listF 0 (liveAt b s p)).length ≤ visitN b s pressG n m) ∧ (visitN b s pressG n m = m ∨ ∃ p, p ≤ n ∧ visitN b s pressG n m = (listF 0 (liveAt b s p)).length)
  | 0, m => by
    show m ≤ max m _ ∧ (∀ p, p ≤ 0 → _ ≤ max m _) ∧ (max m _ = m ∨ _)
    refine ⟨Nat.le_max_left .., fun p hp => ?_, ?_⟩
    · rw [show p = 0 by omega]; exact Nat.le_max_right ..
    · rcases Nat.le_total m (listF 0 (liveAt b s 0)).length with h | h
      · exact .inr ⟨0, Nat.le_refl _, Nat.max_eq_right h⟩
      · exact .inl (Nat.max_eq_left h)
  | n + 1, m => by
    obtain ⟨h1, h2, h3⟩ := press_visit (b := b) (s := s) n (pressG m (n + 1) (liveAt b s (n + 1)))
    have e : visitN b s pressG (n + 1) m = visitN b s pressG n (pressG m (n + 1) (liveAt b s (n + 1))) := rfl
    rw [e]
    have l1 : m ≤ pressG m (n + 1) (liveAt b s (n + 1)) := Nat.le_max_left ..
    have l2 : (listF 0 (liveAt b s (n + 1))).length ≤ pressG m (n + 1) (liveAt b s (n + 1)) := Nat.le_max_right ..
    refine ⟨Nat.le_trans l1 h1, fun p hp => ?_, ?_⟩
    · by_cases hpn : p = n + 1
      · rw [hpn]; exact Nat.le_trans l2 h1
      · exact h2 p (by omega)
    · rcases h3 with h3 | ⟨p, hp, h3⟩
      · rw [h3]
        rcases Nat.le_total m (listF 0 (liveAt b s (n + 1))).length with h | h
        · exact .inr ⟨n + 1, Nat.le_refl _, Nat.max_eq_right h⟩
        · exact .inl (Nat.max_eq_left h)
      · exact .inr ⟨p, by omega, h3⟩
theorem press_all {f : SFunc} {many : Nat} : ∀ n, (∀ j p, j < n → p ≤ (f.blocks[j]?.getD default).ins.length → cntAt f many j p ≤ overB f many pressG 0 n) ∧ (overB f many pressG 0 n = 0 ∨ ∃ j p, j < n ∧ p ≤ (f.blocks[j]?.getD default).ins.length ∧ overB f many pressG 0 n = cntAt f many j p)
  | 0 => ⟨fun j p hj => by omega, .inl rfl⟩
  | n + 1 => by
    obtain ⟨h1, h2⟩ := press_all (f := f) (many := many) n
    have e : overB f many pressG 0 (n + 1) = visitN (f.blocks[n]?.getD default) (behindAt f many n) pressG (f.blocks[n]?.getD default).ins.length (overB f many pressG 0 n) := by
      unfold overB
      rw [List.range_succ, List.foldl_append, List.foldl_cons, List.foldl_nil]
    obtain ⟨g1, g2, g3⟩ := press_visit (b := f.blocks[n]?.getD default) (s := behindAt f many n) (f.blocks[n]?.getD default).ins.length (overB f many pressG 0 n)
    rw [← e] at g1 g2 g3
    refine ⟨fun j p hj hp => ?_, ?_⟩
    · by_cases hjn : j = n
      · subst hjn; exact g2 p hp
      · exact Nat.le_trans (h1 j p (by omega) hp) g1
    · rcases g3 with g3 | ⟨p, hp, g3⟩
      · rcases h2 with h2 | ⟨j, p, hj, hp, h2⟩
        · exact .inl (by rw [g3, h2])
        · exact .inr ⟨j, p, by omega, hp, by rw [g3, h2]⟩
      · exact .inr ⟨n, p, by omega, hp, g3⟩
def highF (l r : List Rg) (m : Nat) : Nat := r.foldl (fun m x => max m (l.countP (holdsR x.k x.a))) m
theorem high_all (l : List Rg) : ∀ (r : List Rg) (m : Nat), m ≤ highF l r m ∧ (∀ x ∈ r, l.countP (holdsR x.k x.a) ≤ highF l r m) ∧ (highF l r m = m ∨ ∃ x ∈ r, highF l r m = l.countP (holdsR x.k x.a))
  | [], m => ⟨Nat.le_refl _, (fun x hx => by cases hx), .inl rfl⟩
  | x :: r, m => by
    obtain ⟨h1, h2, h3⟩ := high_all l r (max m (l.countP (holdsR x.k x.a)))
    have e : highF l (x :: r) m = highF l r (max m (l.countP (holdsR x.k x.a))) := rfl
    rw [e]
    refine ⟨Nat.le_trans (Nat.le_max_left ..) h1, fun y hy => ?_, ?_⟩
    · rcases List.mem_cons.1 hy with rfl | hy
      · exact Nat.le_trans (Nat.le_max_right ..) h1
      · exact h2 y hy
    · rcases h3 with h3 | ⟨y, hy, h3⟩
      · rw [h3]
        rcases Nat.le_total m (l.countP (holdsR x.k x.a)) with h | h
        · exact .inr ⟨x, List.mem_cons_self .., Nat.max_eq_right h⟩
        · exact .inl (Nat.max_eq_left h)
      · exact .inr ⟨y, List.mem_cons_of_mem _ hy, h3⟩
theorem max_start : ∀ (l : List Rg) (q : Rg → Bool), (∃ x ∈ l, q x = true) → ∃ x ∈ l, q x = true ∧ ∀ y ∈ l, q y = true → y.a ≤ x.a
  | [], q, ⟨x, hx, _⟩ => by cases hx
  | z :: l, q, h => by
    by_cases hl : ∃ x ∈ l, q x = true
    · obtain ⟨x, hx, hq, hm⟩ := max_start l q hl
      by_cases hz : q z = true ∧ x.a ≤ z.a
      · refine ⟨z, List.mem_cons_self .., hz.1, fun y hy hqy => ?_⟩
        rcases List.mem_cons.1 hy with rfl | hy
        · exact Nat.le_refl _
        · exact Nat.le_trans (hm y hy hqy) hz.2
      · refine ⟨x, List.mem_cons_of_mem _ hx, hq, fun y hy hqy => ?_⟩
        rcases List.mem_cons.1 hy with rfl | hy
        · exact Classical.byContradiction fun hn => hz ⟨hqy, by omega⟩
        · exact hm y hy hqy
    · obtain ⟨x, hx, hq⟩ := h
      rcases List.mem_cons.1 hx with rfl | hx
      · refine ⟨x, List.mem_cons_self .., hq, fun y hy hqy => ?_⟩
        rcases List.mem_cons.1 hy with rfl | hy
        · exact Nat.le_refl _
        · exact absurd ⟨y, hy, hqy⟩ hl
      · exact absurd ⟨x, hx, hq⟩ hl
/-- The pressure is the greatest number of ranges at the beginning of one. -/
theorem high_press {f : SFunc} (h : FuncOk f) {many : Nat} (hs : AllSeen f) : highF (rangesZ f many) (rangesZ f many) 0 = overB f many pressG 0 f.blocks.length := by
  obtain ⟨p1, p2⟩ := press_all (f := f) (many := many) f.blocks.length
  obtain ⟨_, g2, g3⟩ := high_all (rangesZ f many) (rangesZ f many) 0
  have hc : ∀ {j p : Nat}, j < f.blocks.length → p ≤ (f.blocks[j]?.getD default).ins.length → (rangesZ f many).countP (holdsR j p) = cntAt f many j p := fun hj hp => ranges_count h hs hj hp
  refine Nat.le_antisymm ?_ ?_
  · rcases g3 with g3 | ⟨x, hx, g3⟩
    · rw [g3]; exact Nat.zero_le _
    · obtain ⟨_, h2, h3, h4, _⟩ := ranges_mem hx
      rw [g3, hc h3 (by omega)]
      exact p1 _ _ h3 (by omega)
  · rcases p2 with p2 | ⟨j, p, hj, hp, p2⟩
    · rw [p2]; exact Nat.zero_le _
    · rw [p2, ← hc hj hp]
      by_cases h0 : (rangesZ f many).countP (holdsR j p) = 0
      · rw [h0]; exact Nat.zero_le _
      · obtain ⟨x, hx, hq, hm⟩ := max_start (rangesZ f many) (holdsR j p) (by
          have := List.countP_pos_iff.1 (Nat.pos_of_ne_zero h0)
          exact this)
        have hq2 := hq
        unfold holdsR at hq2
        simp only [Bool.and_eq_true, decide_eq_true_eq] at hq2
        refine Nat.le_trans ?_ (g2 x hx)
        refine List.countP_mono_left fun y hy hqy => ?_
        have hya := hm y hy hqy
        unfold holdsR at hqy ⊢
        simp only [Bool.and_eq_true, decide_eq_true_eq] at hqy ⊢
        omega
/-! ### Interference -/
def laps (v w : Nat) (x y : Rg) : Bool := decide (x.v = v) && decide (y.v = w) && decide (x.k = y.k) && decide (x.a ≤ y.b) && decide (y.a ≤ x.b)
theorem both_visit {b : SBlock} {s : List Bool} {v w : Nat} : ∀ (n : Nat) (x : Bool), visitN b s (bothG v w) n x = true ↔ x = true ∨ ∃ p, p ≤ n ∧ (liveAt b s p)[v]? = some true ∧ (liveAt b s p)[w]? = some true := by
  have key : ∀ (l : List Bool), (l[v]?.getD false && l[w]?.getD false) = true ↔ l[v]? = some true ∧ l[w]? = some true := fun l => by
    rw [Bool.and_eq_true]
    cases l[v]? <;> cases l[w]? <;> simp
  intro n
  induction n with
  | zero =>
    intro x
    show (x || _) = true ↔ _
    rw [Bool.or_eq_true, key]
    constructor
    · rintro (h | h)
      · exact .inl h
      · exact .inr ⟨0, Nat.le_refl _, h⟩
    · rintro (h | ⟨p, hp, h⟩)
      · exact .inl h
      · rw [show p = 0 by omega] at h; exact .inr h
  | succ n ih =>
    intro x
    show visitN b s (bothG v w) n (bothG v w x (n + 1) (liveAt b s (n + 1))) = true ↔ _
    rw [ih, bothG, Bool.or_eq_true, key]
    constructor
    · rintro ((h | h) | ⟨p, hp, h⟩)
      · exact .inl h
      · exact .inr ⟨n + 1, Nat.le_refl _, h⟩
      · exact .inr ⟨p, by omega, h⟩
    · rintro (h | ⟨p, hp, h⟩)
      · exact .inl (.inl h)
      · by_cases hpn : p = n + 1
        · rw [hpn] at h; exact .inl (.inr h)
        · exact .inr ⟨p, by omega, h⟩
theorem both_all {f : SFunc} {many v w : Nat} : ∀ n, overB f many (bothG v w) false n = true ↔ ∃ j p, j < n ∧ p ≤ (f.blocks[j]?.getD default).ins.length ∧ lvAt f many v j p ∧ lvAt f many w j p
  | 0 => by
    constructor
    · intro h; cases h
    · rintro ⟨j, p, hj, _⟩; omega
  | n + 1 => by
    have e : overB f many (bothG v w) false (n + 1) = visitN (f.blocks[n]?.getD default) (behindAt f many n) (bothG v w) (f.blocks[n]?.getD default).ins.length (overB f many (bothG v w) false n) := by
      unfold overB
      rw [List.range_succ, List.foldl_append, List.foldl_cons, List.foldl_nil]
    rw [e, both_visit, both_all n]
    constructor
    · rintro (⟨j, p, hj, h⟩ | ⟨p, hp, h⟩)
      · exact ⟨j, p, by omega, h⟩
      · exact ⟨n, p, by omega, hp, h⟩
    · rintro ⟨j, p, hj, hp, h⟩
      by_cases hjn : j = n
      · subst hjn; exact .inr ⟨p, hp, h⟩
      · exact .inl ⟨j, p, by omega, hp, h⟩
theorem both_laps {f : SFunc} (h : FuncOk f) {many v w : Nat} (hs : AllSeen f) : overB f many (bothG v w) false f.blocks.length = (rangesZ f many).any fun x => (rangesZ f many).any (laps v w x) := by
  rw [Bool.eq_iff_iff, both_all, List.any_eq_true]
  constructor
  · rintro ⟨j, p, hj, hp, hv, hw⟩
    obtain ⟨x, hx, x1, x2, x3, x4⟩ := ranges_cov h hj hp hv
    obtain ⟨y, hy, y1, y2, y3, y4⟩ := ranges_cov h hj hp hw
    refine ⟨x, hx, List.any_eq_true.2 ⟨y, hy, ?_⟩⟩
    unfold laps
    simp only [Bool.and_eq_true, decide_eq_true_eq]
    omega
  · rintro ⟨x, hx, hy⟩
    obtain ⟨y, hy, hl⟩ := List.any_eq_true.1 hy
    unfold laps at hl
    simp only [Bool.and_eq_true, decide_eq_true_eq] at hl
    obtain ⟨⟨⟨⟨l1, l2⟩, l3⟩, l4⟩, l5⟩ := hl
    obtain ⟨_, a2, a3, a4, a5, a6⟩ := ranges_mem hx
    obtain ⟨_, c2, c3, c4, c5, c6⟩ := ranges_mem hy
    obtain ⟨b, hb⟩ := get_of_lt f.blocks x.k (by omega)
    have hbd : f.blocks[x.k]?.getD default = b := by rw [hb]; rfl
    rw [← l3] at c3 c4 c5 c6
    unfold lvAt at a5 a6 c5 c6
    rw [hbd] at a4 a5 a6 c4 c5 c6
    rw [l1] at a5 a6
    rw [l2] at c5 c6
    refine ⟨x.k, max x.a y.a, a3, by rw [hbd]; omega, ?_, ?_⟩
    · unfold lvAt
      rw [hbd]
      exact no_gap h hb (hs _ a3) (Nat.le_max_left ..) (by omega) a4 a5 a6
    · unfold lvAt
      rw [hbd]
      exact no_gap h hb (hs _ a3) (Nat.le_max_right ..) (by omega) c4 c5 c6
/-! ### Which blocks are reached -/
def edgesR (k : Nat) (to : List SEdge) (s : List Bool) : List Bool := to.foldl (fun s e => if s[k]?.getD false = true then s.set e.block.toNat true else s) s
def blocksR : Nat → List SBlock → List Bool → List Bool
  | _, [], s => s
  | k, b :: l, s => blocksR (k + 1) l (edgesR k b.term.to s)
def roundsR (bs : List SBlock) : Nat → List Bool → List Bool
  | 0, s => s
  | n + 1, s => roundsR bs n (blocksR 0 bs s)
def reachF (bs : List SBlock) : List Bool := roundsR bs bs.length ((List.replicate bs.length false).set 0 true)
def ReachOk (bs : List SBlock) (s : List Bool) : Prop := s.length = bs.length ∧ ∀ k, s[k]? = some true → ∃ l, Way bs l k
theorem edgesR_ok {bs : List SBlock} {k : Nat} {b : SBlock} (hb : bs[k]? = some b) : ∀ (to : List SEdge) (s : List Bool), (∀ e ∈ to, e ∈ b.term.to) → ReachOk bs s → ReachOk bs (edgesR k to s)
  | [], s, _, h => h
  | e :: to, s, ht, h => by
    refine edgesR_ok hb to _ (fun x hx => ht x (List.mem_cons_of_mem _ hx)) ?_
    show ReachOk bs (if s[k]?.getD false = true then s.set e.block.toNat true else s)
    split
    · rename_i hk
      refine ⟨by rw [List.length_set]; exact h.1, fun j hj => ?_⟩
      rw [List.getElem?_set] at hj
      by_cases hej : e.block.toNat = j
      · have hsk : s[k]? = some true := by cases hg : s[k]? with
          | none => rw [hg] at hk; cases hk
          | some x => rw [hg] at hk; rw [show x = true from hk]
        obtain ⟨l, hl⟩ := h.2 k hsk
        exact ⟨k :: l, Way.step hl ⟨e, by rw [toAt_get hb]; exact ht e (List.mem_cons_self ..), hej⟩⟩
      · rw [if_neg hej] at hj
        exact h.2 j hj
    · exact h
theorem blocksR_ok {bs : List SBlock} : ∀ (l : List SBlock) (k : Nat) (s : List Bool), bs.drop k = l → ReachOk bs s → ReachOk bs (blocksR k l s)
  | [], k, s, _, h => h
  | b :: l, k, s, hd, h => by
    have hb : bs[k]? = some b := by
      have h9 : (bs.drop k)[0]? = some b := by rw [hd]; rfl
      rwa [List.getElem?_drop, Nat.add_zero] at h9
    have hd2 : bs.drop (k + 1) = l := by
      have h9 : (bs.drop k).drop 1 = l := by rw [hd]; rfl
      rwa [List.drop_drop] at h9
    exact blocksR_ok l (k + 1) _ hd2 (edgesR_ok hb _ s (fun e he => he) h)
theorem roundsR_ok {bs : List SBlock} : ∀ (n : Nat) (s : List Bool), ReachOk bs s → ReachOk bs (roundsR bs n s)
  | 0, s, h => h
  | n + 1, s, h => roundsR_ok n _ (blocksR_ok bs 0 s rfl h)
theorem reach_ok (bs : List SBlock) : ReachOk bs (reachF bs) := by
  refine roundsR_ok _ _ ⟨by rw [List.length_set, List.length_replicate], fun k hk => ?_⟩
  rw [List.getElem?_set, List.getElem?_replicate] at hk
  by_cases h0 : 0 = k
  · subst h0; exact ⟨[], .start⟩
  · rw [if_neg h0] at hk
    split at hk
    · cases hk
    · cases hk
theorem allSeen_ok {f : SFunc} (h : FuncOk f) (hr : ∀ k, k < f.blocks.length → (reachF f.blocks)[k]? = some true) : AllSeen f := fun k hk => by
  obtain ⟨l, hl⟩ := (reach_ok f.blocks).2 k (hr k hk)
  exact (dom_way (dom_fix h.pos h.len h.edges) h.edges hl).1
/-! ### Defined values -/
def definedF (bs : List SBlock) (v : Int) : Bool := bs.any fun b => (b.params.any fun x => decide (v = x)) || b.ins.any fun i => i.to == v
theorem defined_ok {f : SFunc} (h : FuncOk f) {v : Int} (hd : definedF f.blocks v = true) : 0 ≤ v ∧ v < freshF f.blocks := by
  obtain ⟨b, hb, hor⟩ := List.any_eq_true.1 hd
  have hm : v ∈ valuesL f.blocks := by
    rw [Bool.or_eq_true, List.any_eq_true, List.any_eq_true] at hor
    refine List.mem_flatMap.2 ⟨b, hb, ?_⟩
    rcases hor with ⟨x, hx, e⟩ | ⟨i, hi, e⟩
    · rw [of_decide_eq_true e]; exact List.mem_append_left _ hx
    · rw [← eq_of_beq e]; exact List.mem_append_right _ (List.mem_map.2 ⟨i, hi, rfl⟩)
  exact ⟨(values_keys h v hm).1, (fresh_ok h).2.2 v hm⟩
end Go.SM
