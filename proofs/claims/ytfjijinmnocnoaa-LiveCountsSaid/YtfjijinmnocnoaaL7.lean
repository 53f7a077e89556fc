/- Ranges without gaps; as many ranges hold a place as values are live there. -/
import Derived.Test.YtfjijinmnocnoaaL6
set_option linter.unusedVariables false
set_option linter.unusedSimpArgs false
namespace Go.SM
open Go.VL
/-! ### A use stands behind its definition -/
theorem defsI_mem {k : Int} : ∀ {l : List SIns} {n : Int} {j : Nat} {i : SIns}, l[j]? = some i → (i.to, (k, n + j + 1)) ∈ defsI k n l
  | [], n, j, i, h => by simp at h
  | x :: l, n, 0, i, h => by
    simp at h
    subst h
    rw [defsI]
    simp
  | x :: l, n, j + 1, i, h => by
    have := defsI_mem (k := k) (n := n + 1) (l := l) (j := j) (i := i) (by simpa using h)
    rw [defsI]
    refine List.mem_cons_of_mem _ ?_
    rwa [show n + 1 + (j : Int) + 1 = n + ((j + 1 : Nat) : Int) + 1 by omega] at this
theorem defsL_mem : ∀ {bs : List SBlock} {k : Int} {j n : Nat} {b : SBlock} {i : SIns}, bs[j]? = some b → b.ins[n]? = some i → (i.to, (k + j, (n : Int) + 1)) ∈ defsL k bs
  | [], k, j, n, b, i, h, _ => by simp at h
  | x :: bs, k, 0, n, b, i, h, hi => by
    simp at h
    subst h
    rw [defsL]
    have := defsI_mem (k := k) (n := 0) hi
    rw [Int.zero_add] at this
    refine List.mem_append_left _ ?_
    rw [show k + ((0 : Nat) : Int) = k by simp]
    exact List.mem_append_right _ this
  | x :: bs, k, j + 1, n, b, i, h, hi => by
    have := defsL_mem (k := k + 1) (bs := bs) (by simpa using h) hi
    rw [defsL]
    rw [show k + 1 + (j : Int) = k + ((j + 1 : Nat) : Int) by omega] at this
    exact List.mem_append_right _ this
theorem key_one {d : Defs} (hn : (dkeys d).Nodup) {v : Int} {p q : Int × Int} (hp : (v, p) ∈ d) (hq : (v, q) ∈ d) : p = q := by
  induction d with
  | nil => cases hp
  | cons x d ih =>
    obtain ⟨h1, h2⟩ := List.nodup_cons.1 (show (x.1 :: dkeys d).Nodup from hn)
    rcases List.mem_cons.1 hp with rfl | hp2
    · rcases List.mem_cons.1 hq with hq2 | hq2
      · injection hq2 with _ hq2; exact hq2.symm
      · exact absurd (show v ∈ dkeys d from List.mem_map.2 ⟨(v, q), hq2, rfl⟩) h1
    · rcases List.mem_cons.1 hq with hq2 | hq2
      · subst hq2; exact absurd (show v ∈ dkeys d from List.mem_map.2 ⟨(v, p), hp2, rfl⟩) h1
      · exact ih h2 hp2 hq2
theorem use_behind {f : SFunc} (h : FuncOk f) {k u d : Nat} {b : SBlock} {i i2 : SIns} {a : Int} (hb : f.blocks[k]? = some b) (hi : b.ins[u]? = some i) (ha : a ∈ i.args) (hs : (domF f.blocks).seen.has k = true) (hd : b.ins[d]? = some i2) (ht : i2.to = a) : d < u := by
  have hu := (usesF_all h.uses k b hb).1
  rw [Nat.zero_add] at hu
  have hf := usesIns_all hu u i hi a ha
  rw [h.defs.1] at hf
  have hmem := defsL_mem (k := 0) hb hd
  rw [ht] at hmem
  unfold fineF at hf
  cases hg : dget (defsL 0 f.blocks) a with
  | none => rw [hg] at hf; cases hf
  | some p =>
    rw [hg] at hf
    have hkn := h.keys.nodup
    rw [← h.defs.1, h.defs.1] at hkn
    have e := key_one hkn (dget_mem hg) hmem
    subst e
    dsimp only at hf
    rw [hs] at hf
    simp only [Bool.or_eq_true, Bool.and_eq_true, decide_eq_true_eq, Bool.not_true, Bool.false_eq_true, or_false] at hf
    rcases hf with ⟨_, h2⟩ | ⟨h1, _⟩ <;> omega
/-! ### No gaps -/
theorem live_lose {b : SBlock} {s : List Bool} {v : Nat} : ∀ {n p : Nat}, p + n ≤ b.ins.length → Mem1 (liveAt b s (p + n)) v → ¬ Mem1 (liveAt b s p) v → ∃ (d : Nat) (i : SIns), p ≤ d ∧ b.ins[d]? = some i ∧ i.to.toNat = v
  | 0, p, _, h, hn => absurd h hn
  | n + 1, p, hl, h, hn => by
    by_cases hm : Mem1 (liveAt b s (p + n)) v
    · exact live_lose (by omega) hm hn
    · obtain ⟨i, hi⟩ := get_of_lt b.ins (p + n) (by omega)
      refine ⟨p + n, i, by omega, hi, ?_⟩
      rw [liveAt_step hi, mem_sets, not_or, mem_set_false] at hm
      exact Classical.byContradiction fun hne => hm.1 ⟨h, fun e => hne e.symm⟩
theorem live_gain {b : SBlock} {s : List Bool} {v : Nat} : ∀ {n p : Nat}, p + n ≤ b.ins.length → ¬ Mem1 (liveAt b s (p + n)) v → Mem1 (liveAt b s p) v → ∃ (u : Nat) (i : SIns) (a : Int), u < p + n ∧ b.ins[u]? = some i ∧ a ∈ i.args ∧ a.toNat = v
  | 0, p, _, h, hn => absurd hn h
  | n + 1, p, hl, h, hn => by
    by_cases hm : Mem1 (liveAt b s (p + n)) v
    · obtain ⟨i, hi⟩ := get_of_lt b.ins (p + n) (by omega)
      rw [liveAt_step hi, mem_sets, mem_set_false] at hm
      rcases hm with ⟨h1, _⟩ | ⟨_, a, ha, e⟩
      · exact absurd h1 h
      · exact ⟨p + n, i, a, by omega, hi, ha, e⟩
    · obtain ⟨u, i, a, h1, h2⟩ := live_gain (by omega) hm hn
      exact ⟨u, i, a, by omega, h2⟩
theorem no_gap {f : SFunc} (h : FuncOk f) {k v : Nat} {b : SBlock} {s : List Bool} (hb : f.blocks[k]? = some b) (hs : (domF f.blocks).seen.has k = true) {p q r : Nat} (hpq : p ≤ q) (hqr : q ≤ r) (hr : r ≤ b.ins.length) (h1 : Mem1 (liveAt b s p) v) (h2 : Mem1 (liveAt b s r) v) : Mem1 (liveAt b s q) v := by
  refine Classical.byContradiction fun hn => ?_
  obtain ⟨d, i2, hd, hi2, ht⟩ := live_lose (n := r - q) (p := q) (by omega) (by rw [show q + (r - q) = r by omega]; exact h2) hn
  obtain ⟨u, i, a, hu, hi, ha, e⟩ := live_gain (n := q - p) (p := p) (by omega) (by rw [show p + (q - p) = q by omega]; exact hn) h1
  have hro := range_ok h (many := (freshF f.blocks).toNat) (by have := (fresh_ok h).1; omega)
  have hbm := List.mem_of_getElem? hb
  have t1 := (hro.to b hbm i2 (List.mem_of_getElem? hi2)).1
  have t2 := (hro.args b hbm i (List.mem_of_getElem? hi) a ha).1
  have := use_behind h hb hi ha hs hi2 (by omega)
  omega
/-! ### Counting -/
theorem count_part {v k : Nat} {vis lv : Nat → Nat → Prop} {l : List Rg} (h : PartOk v k vis lv l) {j p : Nat} (hv : vis j p) (hg : ∀ r ∈ l, r.k = j → r.a ≤ p → p ≤ r.b → lv j p) : l.countP (fun r => decide (r.k = j) && decide (r.a ≤ p) && decide (p ≤ r.b)) ≤ 1 ∧ (lv j p ↔ 1 ≤ l.countP fun r => decide (r.k = j) && decide (r.a ≤ p) && decide (p ≤ r.b)) := by
  constructor
  · have key : ∀ l : List Rg, l.Pairwise (fun r s => r.k < s.k) → l.countP (fun r => decide (r.k = j) && decide (r.a ≤ p) && decide (p ≤ r.b)) ≤ 1 := by
      intro l
      induction l with
      | nil => intro _; simp
      | cons r l ih =>
        intro ho
        obtain ⟨h1, h2⟩ := List.pairwise_cons.1 ho
        rw [List.countP_cons]
        split
        · rename_i hr
          simp only [Bool.and_eq_true, decide_eq_true_eq] at hr
          have : l.countP (fun r => decide (r.k = j) && decide (r.a ≤ p) && decide (p ≤ r.b)) = 0 := by
            rw [List.countP_eq_zero]
            intro s hs
            have := h1 s hs
            simp only [Bool.and_eq_true, decide_eq_true_eq]
            omega
          omega
        · have := ih h2
          omega
    exact key l h.ord
  · constructor
    · intro hl
      obtain ⟨r, hr, h1, h2, h3⟩ := h.cov j p hv hl
      rw [← Nat.succ_le_iff.symm.trans Iff.rfl]
      exact List.countP_pos_iff.2 ⟨r, hr, by simp [h1, h2, h3]⟩
    · intro hc
      obtain ⟨r, hr, h1⟩ := List.countP_pos_iff.1 hc
      simp only [Bool.and_eq_true, decide_eq_true_eq] at h1
      exact hg r hr h1.1.1 h1.1.2 h1.2
theorem list_count : ∀ (l : List Bool) (w : Nat), (listF w l).length = l.countP id
  | [], w => rfl
  | b :: l, w => by
    rw [listF, List.countP_cons]
    cases b with
    | true => simp [list_count l (w + 1)]
    | false => simp [list_count l (w + 1)]
theorem count_flatten {α : Type} (q : α → Bool) : ∀ (ps : List (List α)) (live : List Bool), ps.length = live.length → (∀ v, v < ps.length → (ps[v]?.getD []).countP q = if live[v]? = some true then 1 else 0) → ps.flatten.countP q = live.countP id
  | [], [], _, _ => rfl
  | l :: ps, b :: live, hl, h => by
    rw [List.flatten_cons, List.countP_append, List.countP_cons]
    have h0 := h 0 (by simp)
    have ih := count_flatten q ps live (by simpa using hl) (fun v hv => by have := h (v + 1) (by simpa using hv); simpa using this)
    rw [ih]
    have h0 : l.countP q = if b = true then 1 else 0 := by simpa using h0
    rw [h0]
    cases b <;> simp <;> omega
def holdsR (j p : Nat) (r : Rg) : Bool := decide (r.k = j) && decide (r.a ≤ p) && decide (p ≤ r.b)
def rangesZ (f : SFunc) (many : Nat) : List Rg := (rangesP f many f.blocks.length).flatten
def AllSeen (f : SFunc) : Prop := ∀ k, k < f.blocks.length → (domF f.blocks).seen.has k = true
theorem behind_len {f : SFunc} (h : FuncOk f) {many : Nat} (k : Nat) : (behindAt f many k).length = many ∨ behindAt f many k = [] := by
  have ok := live_ok f.blocks many
  unfold behindAt setAt
  cases hb : (liveF f.blocks many).behind[k]? with
  | none => exact .inr rfl
  | some o =>
    cases o with
    | none => exact .inr rfl
    | some l => exact .inl (ok.full k l hb).1
theorem live_small {f : SFunc} {many v j p : Nat} (h : FuncOk f) (hl : lvAt f many v j p) : v < many := by
  have h1 : v < (liveAt (f.blocks[j]?.getD default) (behindAt f many j) p).length := (List.getElem?_eq_some_iff.1 hl).1
  rw [liveAt_len] at h1
  rcases behind_len (many := many) h j with e | e
  · rwa [e] at h1
  · rw [e] at h1; simp at h1
theorem vis_all {f : SFunc} {j p : Nat} : visAt f f.blocks.length ((f.blocks[f.blocks.length]?.getD default).ins.length + 1) j p ↔ j < f.blocks.length ∧ p ≤ (f.blocks[j]?.getD default).ins.length := by
  unfold visAt
  constructor
  · rintro (h | ⟨_, h1, h2⟩)
    · exact h
    · omega
  · exact .inl
theorem ranges_count {f : SFunc} (h : FuncOk f) {many : Nat} (hs : AllSeen f) {j p : Nat} (hj : j < f.blocks.length) (hp : p ≤ (f.blocks[j]?.getD default).ins.length) :
    (rangesZ f many).countP (holdsR j p) = (listF 0 (liveAt (f.blocks[j]?.getD default) (behindAt f many j) p)).length := by
  obtain ⟨hl, hok⟩ := parts_ok f many f.blocks.length
  obtain ⟨b, hb⟩ := get_of_lt f.blocks j (by omega)
  have hbd : f.blocks[j]?.getD default = b := by rw [hb]; rfl
  rw [list_count]
  have hone : ∀ v, v < many → ((rangesP f many f.blocks.length)[v]?.getD []).countP (holdsR j p) = if (liveAt (f.blocks[j]?.getD default) (behindAt f many j) p)[v]? = some true then 1 else 0 := fun v hv => by
    have hpk := hok v hv
    obtain ⟨c1, c2⟩ := count_part hpk (vis_all.2 ⟨hj, hp⟩) fun r hr h1 h2 h3 => by
      obtain ⟨_, _, g3, g4, g5, g6⟩ := hpk.ran r hr
      rw [h1] at g3 g4 g5 g6
      have hr2 := (vis_all.1 g5).2
      unfold lvAt at g4 g6 ⊢
      rw [hbd] at g4 g6 hr2 ⊢
      exact no_gap h hb (hs j hj) h2 h3 hr2 g4 g6
    change ((rangesP f many f.blocks.length)[v]?.getD []).countP (holdsR j p) ≤ 1 at c1
    change lvAt f many v j p ↔ 1 ≤ ((rangesP f many f.blocks.length)[v]?.getD []).countP (holdsR j p) at c2
    by_cases hlv : lvAt f many v j p
    · rw [if_pos (show (liveAt (f.blocks[j]?.getD default) (behindAt f many j) p)[v]? = some true from hlv)]
      have := c2.1 hlv
      omega
    · rw [if_neg (show ¬ (liveAt (f.blocks[j]?.getD default) (behindAt f many j) p)[v]? = some true from hlv)]
      have : ¬ 1 ≤ ((rangesP f many f.blocks.length)[v]?.getD []).countP (holdsR j p) := fun h => hlv (c2.2 h)
      omega
  rcases behind_len (many := many) h j with e | e
  · exact count_flatten _ _ _ (by rw [liveAt_len, e, hl]) (fun v hv => hone v (by rw [← hl]; exact hv))
  · have hz : ∀ v, ¬ (liveAt (f.blocks[j]?.getD default) (behindAt f many j) p)[v]? = some true := fun v hv => by
      have h1 := (List.getElem?_eq_some_iff.1 hv).1
      rw [liveAt_len, e] at h1
      simp at h1
    have h0 : (liveAt (f.blocks[j]?.getD default) (behindAt f many j) p).countP id = 0 := by
      have : liveAt (f.blocks[j]?.getD default) (behindAt f many j) p = [] := List.length_eq_zero_iff.1 (by rw [liveAt_len, e]; rfl)
      rw [this]
      rfl
    rw [h0, rangesZ]
    rw [List.countP_eq_zero]
    intro r hr hh
    obtain ⟨l, hlm, hrl⟩ := List.mem_flatten.1 hr
    obtain ⟨v, hv⟩ := List.getElem?_of_mem hlm
    have hvl : v < many := by rw [← hl]; exact (List.getElem?_eq_some_iff.1 hv).1
    have h1 := hone v hvl
    rw [if_neg (hz v), hv] at h1
    exact absurd hh (by have := List.countP_eq_zero.1 h1 r hrl; simpa using this)
/-- What a range says: its value is live at its ends. -/
theorem ranges_mem {f : SFunc} {many : Nat} {r : Rg} (hr : r ∈ rangesZ f many) : r.v < many ∧ r.a ≤ r.b ∧ r.k < f.blocks.length ∧ r.b ≤ (f.blocks[r.k]?.getD default).ins.length ∧ lvAt f many r.v r.k r.a ∧ lvAt f many r.v r.k r.b := by
  obtain ⟨hl, hok⟩ := parts_ok f many f.blocks.length
  obtain ⟨l, hlm, hrl⟩ := List.mem_flatten.1 hr
  obtain ⟨v, hv⟩ := List.getElem?_of_mem hlm
  have hvl : v < many := by rw [← hl]; exact (List.getElem?_eq_some_iff.1 hv).1
  have hp := (hok v hvl).ran r (by rw [hv]; exact hrl)
  obtain ⟨rfl, h2, h3, h4, h5, h6⟩ := hp
  exact ⟨hvl, h2, (vis_all.1 h3).1, (vis_all.1 h5).2, h4, h6⟩
/-- A live value has a range that holds the place. -/
theorem ranges_cov {f : SFunc} (h : FuncOk f) {many v j p : Nat} (hj : j < f.blocks.length) (hp : p ≤ (f.blocks[j]?.getD default).ins.length) (hl : lvAt f many v j p) : ∃ r ∈ rangesZ f many, r.v = v ∧ r.k = j ∧ r.a ≤ p ∧ p ≤ r.b := by
  have hvm := live_small h hl
  obtain ⟨hlen, hok⟩ := parts_ok f many f.blocks.length
  obtain ⟨r, hr, h1, h2, h3⟩ := (hok v hvm).cov j p (vis_all.2 ⟨hj, hp⟩) hl
  have hrv := ((hok v hvm).ran r hr).1
  refine ⟨r, List.mem_flatten.2 ?_, hrv, h1, h2, h3⟩
  cases hg : (rangesP f many f.blocks.length)[v]? with
  | none => rw [hg] at hr; cases hr
  | some l => rw [hg] at hr; exact ⟨l, List.mem_of_getElem? hg, hr⟩
/-- What an instruction uses is live before it. -/
theorem uses_live {f : SFunc} (h : FuncOk f) {many k n : Nat} {b : SBlock} {i : SIns} {a : Int} (hro : RangeOk f.blocks many) (hbl : (behindAt f many k).length = many) (hb : f.blocks[k]? = some b) (hi : b.ins[n]? = some i) (ha : a ∈ i.args) : lvAt f many a.toNat k n := by
  obtain ⟨h1, h2⟩ := hro.args b (List.mem_of_getElem? hb) i (List.mem_of_getElem? hi) a ha
  show Mem1 (liveAt (f.blocks[k]?.getD default) (behindAt f many k) n) a.toNat
  rw [hb]
  show Mem1 (liveAt b (behindAt f many k) n) a.toNat
  rw [liveAt_step hi, mem_sets]
  refine .inr ⟨?_, a, ha, rfl⟩
  rw [List.length_set, liveAt_len, hbl]
  omega
end Go.SM
