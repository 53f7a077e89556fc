import Derived.Test.YtnklonhioneeoaaS1
set_option linter.unusedVariables false
set_option linter.unusedSimpArgs false
namespace Go.SM
open Go.VL
theorem bit_eq (w : BitVec 64) (j : Nat) : ((w >>> j) &&& 1#64 == 1#64) = w.getLsbD j := by
  rw [BitVec.and_one_eq_setWidth_ofBool_getLsbD, BitVec.getLsbD_ushiftRight, Nat.add_zero]
  cases w.getLsbD j <;> rfl
theorem has_eq (s : BSet) (k : Nat) : s.has k = (s.word k).getLsbD (k % 64) := bit_eq _ _
theorem two_cases {k : Nat} (h : k < 128) : k / 64 = 0 ∧ k % 64 = k ∧ k < 64 ∨ k / 64 = 1 ∧ k % 64 = k - 64 ∧ 64 ≤ k := by omega
theorem one_bit (i j : Nat) (hj : j < 64) (hi : i < 64) : (1#64 <<< i).getLsbD j = decide (j = i) := by
  rw [BitVec.getLsbD_shiftLeft]
  by_cases h : j = i
  · subst h
    simp [hj]
  · by_cases h2 : j < i
    · simp [h2, h]
    · have : j - i ≠ 0 := by omega
      simp [h, BitVec.getLsbD_one, this]
theorem has_with (s : BSet) {k j : Nat} (hk : k < 128) (hj : j < 128) : (s.with k).has j = (s.has j || decide (j = k)) := by
  rw [has_eq, has_eq]
  unfold BSet.with BSet.word
  rcases two_cases hk with ⟨a1, a2, a3⟩ | ⟨a1, a2, a3⟩ <;> rcases two_cases hj with ⟨b1, b2, b3⟩ | ⟨b1, b2, b3⟩
  · rw [if_pos a1, if_pos b1, if_pos b1, BitVec.getLsbD_or, one_bit _ _ (by omega) (by omega), a2, b2]
  · rw [if_pos a1, if_neg (by omega), if_neg (by omega), decide_eq_false (by omega : ¬ j = k), Bool.or_false]
  · rw [if_neg (by omega : ¬ k / 64 = 0), if_pos b1, if_pos b1, decide_eq_false (by omega : ¬ j = k), Bool.or_false]
  · rw [if_neg (by omega : ¬ k / 64 = 0), if_neg (by omega), if_neg (by omega), BitVec.getLsbD_or, one_bit _ _ (by omega) (by omega), a2, b2]
    congr 1
    rw [Bool.eq_iff_iff]
    simp
    omega
theorem has_both (s t : BSet) (j : Nat) : (s.both t).has j = (s.has j && t.has j) := by
  rw [has_eq, has_eq, has_eq]
  unfold BSet.both BSet.word
  split <;> rw [BitVec.getLsbD_and]
theorem has_ext {s t : BSet} (h : ∀ j, j < 128 → s.has j = t.has j) : s = t := by
  apply Prod.ext
  · apply BitVec.eq_of_getLsbD_eq
    intro i hi
    have := h i (by omega)
    rw [has_eq, has_eq] at this
    unfold BSet.word at this
    rwa [if_pos (by omega), if_pos (by omega), Nat.mod_eq_of_lt hi] at this
  · apply BitVec.eq_of_getLsbD_eq
    intro i hi
    have := h (64 + i) (by omega)
    rw [has_eq, has_eq] at this
    unfold BSet.word at this
    rwa [if_neg (by omega), if_neg (by omega), show (64 + i) % 64 = i by omega] at this
theorem has_no (j : Nat) : noSet.has j = false := by
  rw [has_eq]
  unfold BSet.word noSet
  split <;> simp
theorem has_all : ∀ (n : Nat), n ≤ 128 → ∀ j, j < 128 → (allSet n).has j = decide (j < n)
  | 0, _, j, _ => by rw [allSet, has_no]; simp
  | n + 1, h, j, hj => by
    rw [allSet, has_with _ (by omega) hj, has_all n (by omega) j hj, Bool.eq_iff_iff]
    simp
    omega
theorem countP_le {α : Type} {p q : α → Bool} : ∀ {l : List α}, (∀ x ∈ l, p x = true → q x = true) → l.countP p ≤ l.countP q := fun h => List.countP_mono_left h
theorem countP_lt {α : Type} {p q : α → Bool} : ∀ {l : List α}, (∀ x ∈ l, p x = true → q x = true) → (∃ x ∈ l, q x = true ∧ p x = false) → l.countP p < l.countP q
  | [], _, h => by obtain ⟨x, hx, _⟩ := h; cases hx
  | y :: l, h, ⟨x, hx, h1, h2⟩ => by
    have hl := countP_le (p := p) (q := q) (l := l) fun z hz => h z (List.mem_cons_of_mem _ hz)
    rcases List.mem_cons.1 hx with rfl | hx
    · rw [List.countP_cons, List.countP_cons, h1, h2]
      simp
      omega
    · have := countP_lt (p := p) (q := q) (l := l) (fun z hz => h z (List.mem_cons_of_mem _ hz)) ⟨x, hx, h1, h2⟩
      have hy := h y (List.mem_cons_self ..)
      rw [List.countP_cons, List.countP_cons]
      cases hp : p y
      · simp
        split <;> omega
      · rw [hy hp]
        simp
        exact this
def cnt (s : BSet) : Nat := (List.range 128).countP s.has
def unseen (n : Nat) (s : BSet) : Nat := (List.range n).countP fun k => !s.has k
def weight (n : Nat) (d : Dom) : Nat := (d.over.map cnt).sum + unseen n d.seen
theorem sum_set {l : List Nat} {k x y : Nat} (h : l[k]? = some x) : (l.set k y).sum + x = l.sum + y := by
  induction l generalizing k with
  | nil => simp at h
  | cons a l ih =>
    cases k with
    | zero => simp at h; subst h; simp; omega
    | succ k => simp at h; have := ih h; simp; omega
structure DomOk (n : Nat) (d : Dom) : Prop where
  len : d.over.length = n
  le : n ≤ 128
  self : ∀ k, k < n → (d.at k).has k = true
theorem at_set {d : Dom} {t k : Nat} {s : BSet} {u : BSet} {a : Bool} (h : t < d.over.length) : (Dom.mk (d.over.set t s) u a).at k = if t = k then s else d.at k := by
  unfold Dom.at
  rw [List.getElem?_set]
  split
  · rename_i e; subst e; simp [h]
  · rfl
def StepW (n : Nat) (d d' : Dom) : Prop := DomOk n d' ∧ (d' = d ∨ d'.again = true ∧ weight n d' < weight n d)
theorem StepW.trans {n : Nat} {a b c : Dom} (h : StepW n a b) (k : StepW n b c) : StepW n a c := by
  refine ⟨k.1, ?_⟩
  rcases h.2 with rfl | ⟨h1, h2⟩
  · exact k.2
  · rcases k.2 with rfl | ⟨k1, k2⟩
    · exact .inr ⟨h1, h2⟩
    · exact .inr ⟨k1, by omega⟩
theorem domEdge_w {n k : Nat} {d : Dom} {e : SEdge} (ok : DomOk n d) (hk : k < n) (h1 : 1 ≤ e.block) (h2 : e.block < n) : StepW n d (domEdge k d e) := by
  have hn := ok.le
  have ht : e.block.toNat < n := by omega
  unfold domEdge
  dsimp only
  split
  · rename_i hc
    have hself := ok.self _ ht
    have hsub : ∀ j, j < 128 → (((d.at e.block.toNat).both (d.at k)).with e.block.toNat).has j = true → (d.at e.block.toNat).has j = true := fun j hj hh => by
      rw [has_with _ (by omega) hj, has_both, Bool.or_eq_true, Bool.and_eq_true, decide_eq_true_eq] at hh
      rcases hh with hh | rfl
      · exact hh.1
      · exact hself
    have hget : (d.over.map cnt)[e.block.toNat]? = some (cnt (d.at e.block.toNat)) := by
      unfold Dom.at
      rw [List.getElem?_map, List.getElem?_eq_getElem (by rw [ok.len]; exact ht)]
      rfl
    have hle : cnt (((d.at e.block.toNat).both (d.at k)).with e.block.toNat) ≤ cnt (d.at e.block.toNat) := countP_le fun j hj => hsub j (by simpa using hj)
    have hsum := sum_set (y := cnt (((d.at e.block.toNat).both (d.at k)).with e.block.toNat)) hget
    have hseen : unseen n (d.seen.with e.block.toNat) ≤ unseen n d.seen := countP_le fun j hj => by
      have hj' : j < n := by simpa using hj
      rw [has_with _ (by omega) (by omega)]
      cases d.seen.has j <;> simp
    refine ⟨⟨by simp [ok.len], hn, fun j hj => ?_⟩, .inr ⟨rfl, ?_⟩⟩
    · rw [at_set (by rw [ok.len]; exact ht)]
      split
      · rename_i e'; subst e'; rw [has_with _ (by omega) (by omega)]; simp
      · exact ok.self j hj
    · unfold weight
      dsimp only
      rw [List.map_set]
      rcases hc with hc | hc
      · have : cnt (((d.at e.block.toNat).both (d.at k)).with e.block.toNat) < cnt (d.at e.block.toNat) := by
          refine countP_lt (fun j hj => hsub j (by simpa using hj)) ?_
          apply Classical.byContradiction
          intro hno
          refine hc (has_ext fun j hj => ?_)
          rw [Bool.eq_iff_iff]
          refine ⟨hsub j hj, fun hh => ?_⟩
          apply Classical.byContradiction
          intro hf
          exact hno ⟨j, by simpa using hj, hh, by simpa using hf⟩
        omega
      · have : unseen n (d.seen.with e.block.toNat) < unseen n d.seen := by
          refine countP_lt (fun j hj => ?_) ⟨e.block.toNat, by simpa using ht, by rw [hc]; rfl, by rw [has_with _ (by omega) (by omega)]; simp⟩
          have hj' : j < n := by simpa using hj
          rw [has_with _ (by omega) (by omega)]
          cases d.seen.has j <;> simp
        omega
  · exact ⟨ok, .inl rfl⟩
theorem edges_w {n k : Nat} (hk : k < n) : ∀ {l : List SEdge} {d : Dom}, DomOk n d → (∀ e ∈ l, 1 ≤ e.block ∧ e.block < n) → StepW n d (l.foldl (domEdge k) d)
  | [], d, ok, _ => ⟨ok, .inl rfl⟩
  | e :: l, d, ok, h => by
    have h1 := domEdge_w ok hk (h e (List.mem_cons_self ..)).1 (h e (List.mem_cons_self ..)).2
    exact h1.trans (edges_w hk h1.1 fun x hx => h x (List.mem_cons_of_mem _ hx))
theorem block_w {n k : Nat} {b : SBlock} {d : Dom} (hk : k < n) (ok : DomOk n d) (h : ∀ e ∈ b.term.to, 1 ≤ e.block ∧ e.block < n) : StepW n d (domBlock d k b) := by
  unfold domBlock
  split
  · exact edges_w hk ok h
  · exact ⟨ok, .inl rfl⟩
theorem pass_w {n : Nat} : ∀ {l : List SBlock} {k : Nat} {d : Dom}, k + l.length = n → DomOk n d → (∀ b ∈ l, ∀ e ∈ b.term.to, 1 ≤ e.block ∧ e.block < n) → StepW n d (domPass k l d)
  | [], k, d, _, ok, _ => ⟨ok, .inl rfl⟩
  | b :: l, k, d, hl, ok, h => by
    have hl' : k + (l.length + 1) = n := hl
    have h1 := block_w (k := k) (by omega) ok (h b (List.mem_cons_self ..))
    exact h1.trans (pass_w (by omega) h1.1 fun x hx => h x (List.mem_cons_of_mem _ hx))
theorem cnt_le (s : BSet) : cnt s ≤ 128 := by
  have := List.countP_le_length (p := s.has) (l := List.range 128)
  rw [List.length_range] at this
  exact this
theorem sum_le : ∀ (l : List BSet), (l.map cnt).sum ≤ 128 * l.length
  | [] => by simp
  | s :: l => by
    have := sum_le l
    have := cnt_le s
    simp
    omega
theorem start_ok {n : Nat} (h0 : 0 < n) (hn : n ≤ 128) : DomOk n (domStart n) := by
  refine ⟨by simp [domStart], hn, fun k hk => ?_⟩
  unfold domStart Dom.at
  rw [List.getElem?_set]
  split
  · rename_i e; subst e
    simp [h0]
    rw [has_with _ (by omega) (by omega)]
    simp
  · rw [List.getElem?_replicate, if_pos hk]
    rw [Option.getD_some, has_all n hn k (by omega), decide_eq_true hk]
theorem start_w (n : Nat) : weight n (domStart n) ≤ 129 * n := by
  unfold weight
  have h1 := sum_le (domStart n).over
  have h2 := List.countP_le_length (p := fun k => !(domStart n).seen.has k) (l := List.range n)
  have h3 : (domStart n).over.length = n := by simp [domStart]
  rw [h3] at h1
  rw [List.length_range] at h2
  unfold unseen
  omega
theorem round {bs : List SBlock} {n : Nat} {d : Dom} (ok : DomOk bs.length d) (h : ∀ b ∈ bs, ∀ e ∈ b.term.to, 1 ≤ e.block ∧ e.block < bs.length) (hw : weight bs.length d + (if d.again then 1 else 0) ≤ n) (ha : d.again = true) :
    ∃ n', n = n' + 1 ∧ domIter bs n d = domIter bs n' (domPass 0 bs { d with again := false }) ∧ DomOk bs.length (domPass 0 bs { d with again := false }) ∧
      weight bs.length (domPass 0 bs { d with again := false }) + (if (domPass 0 bs { d with again := false }).again then 1 else 0) ≤ n' := by
  rw [ha, if_pos rfl] at hw
  obtain ⟨n', rfl⟩ : ∃ n', n = n' + 1 := ⟨n - 1, by omega⟩
  have hp := pass_w (l := bs) (k := 0) (d := { d with again := false }) (by omega) ⟨ok.len, ok.le, ok.self⟩ h
  refine ⟨n', rfl, by rw [domIter, if_pos ha], hp.1, ?_⟩
  have hwe : weight bs.length { d with again := false } = weight bs.length d := rfl
  rcases hp.2 with e | ⟨h1, h2⟩
  · rw [e]
    simp only [Bool.false_eq_true, if_false]
    omega
  · rw [h1, if_pos rfl]
    omega
end Go.SM
