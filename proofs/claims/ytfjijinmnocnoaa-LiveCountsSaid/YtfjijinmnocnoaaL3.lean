/- Package live as functions: the rounds come to an end; the law. -/
import Derived.Test.YtfjijinmnocnoaaL2
set_option linter.unusedVariables false
set_option linter.unusedSimpArgs false
namespace Go.SM
open Go.VL
def Sub1 (s t : List Bool) : Prop := ∀ v, Mem1 s v → Mem1 t v
def fals (s : List Bool) : Nat := s.countP fun b => !b
theorem fals_le {s t : List Bool} (hl : s.length = t.length) (h : Sub1 s t) : fals t ≤ fals s ∧ (s ≠ t → fals t < fals s) := by
  unfold fals
  induction s generalizing t with
  | nil =>
    cases t with
    | nil => exact ⟨Nat.le_refl _, fun h => absurd rfl h⟩
    | cons b t => simp at hl
  | cons a s ih =>
    cases t with
    | nil => simp at hl
    | cons b t =>
      have hl' : s.length = t.length := by simpa using hl
      have hs : Sub1 s t := fun v hv => by
        have := h (v + 1) (by unfold Mem1 at hv ⊢; simpa using hv)
        unfold Mem1 at this ⊢
        simpa using this
      obtain ⟨h1, h2⟩ := ih hl' hs
      have h0 : a = true → b = true := fun e => by
        have := h 0 (by unfold Mem1; simp [e])
        unfold Mem1 at this
        simpa using this
      rw [List.countP_cons, List.countP_cons]
      cases a <;> cases b
      · refine ⟨by simpa using h1, fun hne => ?_⟩
        have := h2 (fun e => hne (by rw [e]))
        simpa using this
      · refine ⟨by simp; omega, fun hne => by simp; omega⟩
      · exact absurd (h0 rfl) (by decide)
      · refine ⟨by simpa using h1, fun hne => ?_⟩
        have := h2 (fun e => hne (by rw [e]))
        simpa using this
def liveW1 (many : Nat) : Option (List Bool) → Nat
  | none => many + 1
  | some l => fals l
def liveW (many : Nat) (s : LState) : Nat := (s.behind.map (liveW1 many)).sum
structure LiveOk (bs : List SBlock) (many : Nat) (s : LState) : Prop where
  blen : s.behind.length = bs.length
  flen : s.first.length = bs.length
  emp : ∀ (k : Nat), s.behind[k]? = some none → s.first[k]? = some none
  full : ∀ (k : Nat) (l : List Bool), s.behind[k]? = some (some l) → l.length = many ∧ ∃ b, bs[k]? = some b ∧ s.first[k]? = some (some (backF b l)) ∧ Sub1 l (lastF bs many b.term s.first)
  live : ∀ (k v : Nat), Mem1 (setAt s.first k) v → LiveIn bs v k
theorem last_mono {bs : List SBlock} {many : Nat} {t : STerm} {f g : Sets} (h : ∀ k, Sub1 (setAt f k) (setAt g k)) : Sub1 (lastF bs many t f) (lastF bs many t g) := fun v hv => by
  rw [mem_last] at hv ⊢
  obtain ⟨h1, h2⟩ := hv
  refine ⟨h1, h2.imp id ?_⟩
  rintro ⟨e, he, h3, h4⟩
  exact ⟨e, he, h _ v h3, h4⟩
theorem live_node {bs : List SBlock} {many k : Nat} {s : LState} (ok : LiveOk bs many s) (hk : k < bs.length) : LiveOk bs many (liveNode bs many s k) ∧ (liveNode bs many s k = s ∨ (liveNode bs many s k).again = true ∧ liveW many (liveNode bs many s k) < liveW many s) := by
  obtain ⟨b, hb⟩ := get_of_lt bs k (by omega)
  obtain ⟨o, ho⟩ : ∃ o, s.behind[k]? = some o := ⟨_, List.getElem?_eq_getElem (by rw [ok.blen]; exact hk)⟩
  have hbl := ok.blen
  have hfl := ok.flen
  unfold liveNode
  dsimp only
  rw [hb, ho, Option.getD_some, Option.getD_some]
  by_cases hc : o = some (lastF bs many b.term s.first)
  · rw [if_pos hc]
    exact ⟨ok, .inl rfl⟩
  · rw [if_neg hc]
    -- the new set is greater
    have hgrow : ∀ l, o = some l → l.length = many ∧ Sub1 l (lastF bs many b.term s.first) ∧ s.first[k]? = some (some (backF b l)) := fun l e => by
      subst e
      obtain ⟨h1, b', hb', h2, h3⟩ := ok.full k l ho
      rw [hb] at hb'
      injection hb' with hb'
      subst hb'
      exact ⟨h1, h3, h2⟩
    have hfst : ∀ j, Sub1 (setAt s.first j) (setAt (s.first.set k (some (backF b (lastF bs many b.term s.first)))) j) := fun j v hv => by
      rw [setAt_set (by omega)]
      split
      · rename_i e
        subst e
        cases o with
        | none =>
          have := ok.emp k ho
          unfold setAt at hv
          rw [this] at hv
          simp [Mem1] at hv
        | some l =>
          obtain ⟨h1, h2, h3⟩ := hgrow l rfl
          unfold setAt at hv
          rw [h3] at hv
          exact back_mono (by rw [h1, last_len]) _ h2 v hv
      · exact hv
    refine ⟨⟨by simpa using hbl, by simpa using hfl, fun j hj => ?_, fun j l hj => ?_, fun j v hv => ?_⟩, .inr ⟨rfl, ?_⟩⟩
    · dsimp only at hj ⊢
      rw [List.getElem?_set] at hj ⊢
      by_cases hkj : k = j
      · rw [if_pos hkj, if_pos (by omega)] at hj
        injection hj with hj
        cases hj
      · rw [if_neg hkj] at hj ⊢
        exact ok.emp j hj
    · dsimp only at hj ⊢
      rw [List.getElem?_set] at hj ⊢
      by_cases hkj : k = j
      · subst hkj
        rw [if_pos rfl, if_pos (by omega)] at hj
        injection hj with hj
        injection hj with hj
        subst hj
        exact ⟨last_len .., b, hb, by rw [if_pos rfl, if_pos (by omega)], last_mono hfst⟩
      · rw [if_neg hkj] at hj ⊢
        obtain ⟨h1, b', hb', h2, h3⟩ := ok.full j l hj
        exact ⟨h1, b', hb', h2, fun v hv => last_mono hfst v (h3 v hv)⟩
    · dsimp only at hv
      rw [setAt_set (by omega)] at hv
      split at hv
      · rename_i e
        subst e
        exact live_back (fun k => ok.live k v) hb hv
      · exact ok.live j v hv
    · have hs := sum_set (l := s.behind.map (liveW1 many)) (k := k) (x := liveW1 many o) (y := liveW1 many (some (lastF bs many b.term s.first))) (by rw [List.getElem?_map, ho]; rfl)
      unfold liveW
      dsimp only
      rw [List.map_set]
      have hlt : liveW1 many (some (lastF bs many b.term s.first)) < liveW1 many o := by
        cases o with
        | none =>
          have := List.countP_le_length (p := fun b => !b) (l := lastF bs many b.term s.first)
          rw [last_len] at this
          show fals _ < many + 1
          unfold fals
          omega
        | some l =>
          obtain ⟨h1, h2, h3⟩ := hgrow l rfl
          exact (fals_le (by rw [h1, last_len]) h2).2 (fun e => hc (by rw [e]))
      omega
theorem live_pass {bs : List SBlock} {many : Nat} : ∀ (k : Nat) (s : LState), k ≤ bs.length → LiveOk bs many s → LiveOk bs many (livePass bs many k s) ∧ (livePass bs many k s = s ∨ (livePass bs many k s).again = true ∧ liveW many (livePass bs many k s) < liveW many s)
  | 0, s, _, ok => ⟨ok, .inl rfl⟩
  | k + 1, s, hk, ok => by
    obtain ⟨h1, h2⟩ := live_node ok (k := k) (by omega)
    obtain ⟨g1, g2⟩ := live_pass k (liveNode bs many s k) (by omega) h1
    rw [livePass]
    refine ⟨g1, ?_⟩
    rcases h2 with h2 | ⟨h2, h3⟩
    · rw [h2] at g2 ⊢
      exact g2
    · rcases g2 with g2 | ⟨g2, g3⟩
      · rw [g2]; exact .inr ⟨h2, h3⟩
      · exact .inr ⟨g2, by omega⟩
theorem live_round {bs : List SBlock} {many n : Nat} {s : LState} (ok : LiveOk bs many s) (ha : s.again = true) (hw : liveW many s + 1 ≤ n) :
    ∃ n', n = n' + 1 ∧ liveIter bs many n s = liveIter bs many n' (livePass bs many bs.length { s with again := false }) ∧ LiveOk bs many (livePass bs many bs.length { s with again := false }) ∧
      liveW many (livePass bs many bs.length { s with again := false }) + (if (livePass bs many bs.length { s with again := false }).again = true then 1 else 0) ≤ n' := by
  obtain ⟨n', rfl⟩ : ∃ n', n = n' + 1 := ⟨n - 1, by omega⟩
  have ok0 : LiveOk bs many { s with again := false } := ⟨ok.blen, ok.flen, ok.emp, ok.full, ok.live⟩
  obtain ⟨h1, h2⟩ := live_pass bs.length _ (Nat.le_refl _) ok0
  have hwe : liveW many { s with again := false } = liveW many s := rfl
  refine ⟨n', rfl, by rw [liveIter, if_pos ha], h1, ?_⟩
  rcases h2 with h2 | ⟨h2, h3⟩
  · rw [h2]
    dsimp only
    rw [if_neg (by decide)]
    omega
  · rw [h2, if_pos rfl]
    omega
theorem live_start (bs : List SBlock) (many : Nat) : LiveOk bs many (liveStart bs.length) := by
  refine ⟨by simp [liveStart], by simp [liveStart], fun k hk => ?_, fun k l hk => ?_, fun k v hv => ?_⟩
  · exact hk
  · simp only [liveStart, List.getElem?_replicate] at hk
    split at hk
    · injection hk with hk; cases hk
    · cases hk
  · unfold setAt liveStart at hv
    dsimp only at hv
    rw [List.getElem?_replicate] at hv
    split at hv <;> simp [Mem1] at hv
theorem live_w (n many : Nat) : liveW many (liveStart n) = n * (many + 1) := by
  have key : ∀ n x : Nat, (List.replicate n x).sum = n * x := fun n x => by
    induction n with
    | zero => simp
    | succ n ih => rw [List.replicate_succ, List.sum_cons, ih, Nat.succ_mul]; omega
  unfold liveW liveStart
  rw [List.map_replicate, key]
  rfl
theorem live_iter {bs : List SBlock} {many : Nat} : ∀ (n : Nat) (s : LState), LiveOk bs many s → liveW many s + (if s.again = true then 1 else 0) ≤ n → LiveOk bs many (liveIter bs many n s)
  | 0, s, ok, hw => ok
  | n + 1, s, ok, hw => by
    cases ha : s.again with
    | false => rw [liveIter, if_neg (by rw [ha]; decide)]; exact ok
    | true =>
      rw [ha, if_pos rfl] at hw
      obtain ⟨n', e, h1, h2, h3⟩ := live_round ok ha hw
      have : n = n' := by omega
      subst this
      rw [h1]
      exact live_iter n _ h2 h3
theorem live_ok (bs : List SBlock) (many : Nat) : LiveOk bs many (liveF bs many) := by
  refine live_iter _ _ (live_start bs many) ?_
  rw [live_w]
  have : (liveStart bs.length).again = true := rfl
  rw [this, if_pos rfl]
  omega
/-! ### The law -/
theorem dget_mem {v : Int} {p : Int × Int} : ∀ {d : Defs}, dget d v = some p → (v, p) ∈ d
  | [], h => by cases h
  | (k, q) :: d, h => by
    rw [dget] at h
    split at h
    · rename_i e
      subst e
      injection h with h
      subst h
      exact List.mem_cons_self ..
    · exact List.mem_cons_of_mem _ (dget_mem h)
theorem mem_defsI {k v : Int} {p : Int × Int} : ∀ {l : List SIns} {n : Int}, (v, p) ∈ defsI k n l → p.1 = k ∧ ∃ (j : Nat) (i : SIns), l[j]? = some i ∧ i.to = v ∧ p.2 = n + j + 1
  | [], n, h => by cases h
  | i :: l, n, h => by
    rw [defsI] at h
    rcases List.mem_cons.1 h with h | h
    · injection h with h1 h2
      subst h1 h2
      exact ⟨rfl, 0, i, rfl, rfl, by simp⟩
    · obtain ⟨h1, j, x, h2, h3, h4⟩ := mem_defsI h
      exact ⟨h1, j + 1, x, by simpa using h2, h3, by omega⟩
theorem mem_defsL {v : Int} {p : Int × Int} : ∀ {bs : List SBlock} {k : Int}, (v, p) ∈ defsL k bs → ∃ (j : Nat) (b : SBlock), bs[j]? = some b ∧ p.1 = k + j ∧ (v ∈ b.params ∧ p.2 = 0 ∨ ∃ (n : Nat) (i : SIns), b.ins[n]? = some i ∧ i.to = v ∧ p.2 = n + 1)
  | [], k, h => by cases h
  | b :: bs, k, h => by
    rw [defsL, List.mem_append, defsB, List.mem_append] at h
    rcases h with (h | h) | h
    · obtain ⟨x, hx, e⟩ := List.mem_map.1 h
      injection e with e1 e2
      subst e1 e2
      exact ⟨0, b, rfl, by simp, .inl ⟨hx, rfl⟩⟩
    · obtain ⟨h1, j, i, h2, h3, h4⟩ := mem_defsI h
      exact ⟨0, b, rfl, by simpa using h1, .inr ⟨j, i, h2, h3, by omega⟩⟩
    · obtain ⟨j, c, h1, h2, h3⟩ := mem_defsL h
      exact ⟨j + 1, c, by simpa using h1, by omega, h3⟩
theorem usesIns_all {d : Defs} {o : Dom} {k : Nat} : ∀ {l : List SIns} {n : Int}, usesIns d o k n l = true → ∀ (j : Nat) (i : SIns), l[j]? = some i → ∀ a ∈ i.args, fineF d o k (n + j) a = true
  | [], n, h, j, i, hi => by simp at hi
  | x :: l, n, h, j, i, hi => by
    rw [usesIns, Bool.and_eq_true, List.all_eq_true] at h
    cases j with
    | zero =>
      simp at hi
      subst hi
      intro a ha
      have := h.1 a ha
      simpa using this
    | succ j =>
      simp at hi
      intro a ha
      have := usesIns_all h.2 j i hi a ha
      rwa [show n + 1 + (j : Int) = n + ((j + 1 : Nat) : Int) by omega] at this
theorem usesF_all {d : Defs} {o : Dom} : ∀ {l : List SBlock} {k : Nat}, usesF d o k l = 0 → ∀ (j : Nat) (b : SBlock), l[j]? = some b → usesIns d o (k + j) 0 b.ins = true ∧ usedF b.term (fineF d o (k + j) b.ins.length) = true
  | [], k, h, j, b, hb => by simp at hb
  | c :: l, k, h, j, b, hb => by
    rw [usesF] at h
    split at h
    · cases h
    · split at h
      · cases h
      · rename_i h1 h2
        cases j with
        | zero =>
          simp at hb
          subst hb
          exact ⟨by simpa using h1, by simpa using h2⟩
        | succ j =>
          simp at hb
          have := usesF_all h j b hb
          rwa [show k + 1 + j = k + (j + 1) by omega] at this
theorem used_use {t : STerm} {use : Int → Bool} (h : usedF t use = true) {v : Nat} (hu : TermUse t v) : ∃ a : Int, a.toNat = v ∧ use a = true := by
  unfold usedF at h
  split at h
  · cases h
  · rename_i hc
    rcases hu with ⟨hk, ha⟩ | ⟨e, he, a, ha, hv⟩
    · refine ⟨t.arg, ha, ?_⟩
      cases hu : use t.arg with
      | true => rfl
      | false => exact absurd ⟨hk, hu⟩ hc
    · rw [List.all_eq_true] at h
      have := h e he
      rw [List.all_eq_true] at this
      exact ⟨a, hv, this a ha⟩
/-- Where a value is defined. -/
def DefAt (bs : List SBlock) (v : Nat) (p : Nat) : Prop := ∃ b, bs[p]? = some b ∧ ((v : Int) ∈ b.params ∨ ∃ x ∈ b.ins, x.to.toNat = v)
theorem fine_def {f : SFunc} (h : FuncOk f) {k : Nat} {at_ a : Int} (hf : fineF (blocksF f.blocks 0 f.blocks []).2 (domF f.blocks) k at_ a = true) {l : List Nat} (hw : Way f.blocks l k) :
    0 ≤ a ∧ ((∃ p ∈ l, DefAt f.blocks a.toNat p) ∨ ∃ b, f.blocks[k]? = some b ∧ (a ∈ b.params ∨ ∃ (n : Nat) (i : SIns), b.ins[n]? = some i ∧ i.to = a ∧ (n : Int) < at_)) := by
  rw [h.defs.1] at hf
  have hE := h.edges
  obtain ⟨hs, hk128, hdom⟩ := dom_way (dom_fix h.pos h.len hE) hE hw
  unfold fineF at hf
  cases hd : dget (defsL 0 f.blocks) a with
  | none => rw [hd] at hf; cases hf
  | some p =>
    rw [hd] at hf
    dsimp only at hf
    have hmem := dget_mem hd
    have hkey : 0 ≤ a := (h.keys.range a (List.mem_map.2 ⟨_, hmem, rfl⟩)).1
    obtain ⟨j, b, hb, hp, hor⟩ := mem_defsL hmem
    refine ⟨hkey, ?_⟩
    rw [hs] at hf
    simp only [Bool.or_eq_true, Bool.and_eq_true, decide_eq_true_eq, Bool.not_true, Bool.false_eq_true, or_false] at hf
    have hjl : j < f.blocks.length := (List.getElem?_eq_some_iff.1 hb).1
    have hlen := h.len
    rcases hf with ⟨h1, h2⟩ | ⟨h1, h2⟩
    · have hjk : j = k := by omega
      subst hjk
      refine .inr ⟨b, hb, ?_⟩
      rcases hor with ⟨hpar, _⟩ | ⟨n, i, hi, hto, hn⟩
      · exact .inl hpar
      · exact .inr ⟨n, i, hi, hto, by omega⟩
    · have e : p.1.toNat = j := by omega
      rw [e] at h2
      rcases hdom j (by omega) h2 with h3 | h3
      · omega
      · refine .inl ⟨j, h3, b, hb, ?_⟩
        rcases hor with ⟨hpar, _⟩ | ⟨n, i, hi, hto, hn⟩
        · exact .inl (by rwa [Int.toNat_of_nonneg hkey])
        · exact .inr ⟨i, List.mem_of_getElem? hi, by rw [hto]⟩
/-- What is live on a way that does not define it is a parameter where the way ends. -/
theorem live_def {f : SFunc} (h : FuncOk f) {v k : Nat} (hl : LiveIn f.blocks v k) : ∀ {l : List Nat}, Way f.blocks l k → (∀ p ∈ l, ¬ DefAt f.blocks v p) → (v : Int) ∈ paramsOf f.blocks k := by
  have hu := usesF_all h.uses
  have fin : ∀ {k : Nat} {b : SBlock} {l : List Nat} {at_ a : Int}, f.blocks[k]? = some b → Way f.blocks l k → (∀ p ∈ l, ¬ DefAt f.blocks v p) → a.toNat = v → fineF (blocksF f.blocks 0 f.blocks []).2 (domF f.blocks) k at_ a = true →
      (∀ (n : Nat) (i : SIns), b.ins[n]? = some i → (n : Int) < at_ → i.to.toNat ≠ v) → (v : Int) ∈ paramsOf f.blocks k := fun {k b l at_ a} hb hw hno ha hf hn => by
    obtain ⟨h0, hor⟩ := fine_def h hf hw
    have hpar : paramsOf f.blocks k = b.params := paramsOf_get (by rw [Int.toNat_natCast]; exact hb)
    rcases hor with ⟨p, hp, hd⟩ | ⟨b', hb', hor⟩
    · rw [ha] at hd
      exact absurd hd (hno p hp)
    · rw [hb] at hb'
      injection hb' with hb'
      subst hb'
      rcases hor with hm | ⟨n, i, hi, hto, hlt⟩
      · rw [hpar, ← ha, Int.toNat_of_nonneg h0]; exact hm
      · exact absurd (by rw [hto, ha]) (hn n i hi hlt)
  induction hl with
  | @use k b hb he =>
    intro l hw hno
    obtain ⟨j, i, hi, ⟨a, ha, hav⟩, hnd⟩ := he
    have hf := usesIns_all (hu k b hb).1 j i hi a ha
    rw [Nat.zero_add, Int.zero_add] at hf
    exact fin hb hw hno hav hf fun n x hx hlt => hnd n x (by omega) hx
  | @term k b hb hn ht =>
    intro l hw hno
    obtain ⟨a, hav, hf⟩ := used_use (hu k b hb).2 ht
    rw [Nat.zero_add] at hf
    exact fin hb hw hno hav hf fun n x hx hlt => hn x (List.mem_of_getElem? hx)
  | @pass k b e hb hn he hpar _ ih =>
    intro l hw hno
    apply Classical.byContradiction
    intro hnp
    have hE := h.edges b (List.mem_of_getElem? hb) e he
    have hp0 : paramsOf f.blocks k = b.params := paramsOf_get (by rw [Int.toNat_natCast]; exact hb)
    refine hpar ?_
    have h2 := ih (l := k :: l) (.step hw ⟨e, by rw [toAt_get hb]; exact he, rfl⟩) fun p hp => ?_
    · have e2 : ((e.block.toNat : Nat) : Int) = e.block := Int.toNat_of_nonneg (by omega)
      rwa [e2] at h2
    · rcases List.mem_cons.1 hp with rfl | hp
      · rintro ⟨b', hb', hd⟩
        rw [hb] at hb'
        injection hb' with hb'
        subst hb'
        rcases hd with hd | ⟨x, hx, hxv⟩
        · exact hnp (by rw [hp0]; exact hd)
        · exact hn x hx hxv
      · exact hno p hp
/-- At the first place of block 0 only its parameters are live. -/
theorem begin_law {f : SFunc} (h : FuncOk f) (many : Nat) {v : Nat} (hv : Mem1 (setAt (liveF f.blocks many).first 0) v) : (v : Int) ∈ paramsOf f.blocks 0 :=
  live_def h ((live_ok f.blocks many).live 0 v hv) .start (fun p hp => by cases hp)
end Go.SM
