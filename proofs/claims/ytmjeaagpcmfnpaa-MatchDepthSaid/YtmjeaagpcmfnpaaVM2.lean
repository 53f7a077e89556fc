/- Matching, the plain law: what a step of the builder keeps; how deep a tree is. -/
import Derived.Test.YtmjeaagpcmfnpaaVM1
set_option linter.unusedVariables false
namespace Go.PM
open Go.VL
section
variable {rc : BSt → List MRow → List (List Int) → BSt × Nat} {rows : List MRow} {paths : List (List Int)} {k : Nat}
theorem consL_ind {R : BSt → BSt → Prop} {I : BSt → Prop} {Q : ConSig → BSt → Nat → Prop} (hrefl : ∀ s, R s s) (htrans : ∀ a b c, R a b → R b c → R a c) (hmono : ∀ c s s' y, R s s' → Q c s y → Q c s' y) :
    ∀ (cs : List ConSig) (s : BSt) (names : List Str) (kids : List Int), I s → (∀ c ∈ cs, ∀ s, I s → hasCon rows k c.name = true → I (rc s (narrowM k (isCon c.name) c.args.length rows) (belowM paths k c.args.length)).1 ∧ R s (rc s (narrowM k (isCon c.name) c.args.length rows) (belowM paths k c.args.length)).1 ∧ Q c (rc s (narrowM k (isCon c.name) c.args.length rows) (belowM paths k c.args.length)).1 (rc s (narrowM k (isCon c.name) c.args.length rows) (belowM paths k c.args.length)).2) →
      I (consL rc rows paths k cs s names kids).1 ∧ R s (consL rc rows paths k cs s names kids).1 ∧ ∃ ys : List (ConSig × Nat), ys.map (·.1) = cs.filter (fun c => hasCon rows k c.name) ∧ (consL rc rows paths k cs s names kids).2.1 = names ++ ys.map (fun z => z.1.name) ∧
        (consL rc rows paths k cs s names kids).2.2 = kids ++ ys.map (fun z => (z.2 : Int)) ∧ ∀ z ∈ ys, Q z.1 (consL rc rows paths k cs s names kids).1 z.2
  | [], s, names, kids, hI, _ => ⟨hI, hrefl s, [], rfl, by simp [consL], by simp [consL], fun z hz => by cases hz⟩
  | c :: cs, s, names, kids, hI, hs => by
    rw [consL]
    by_cases hc : hasCon rows k c.name = true
    · rw [if_pos hc]
      obtain ⟨h1, h2, h3⟩ := hs c (List.mem_cons_self ..) s hI hc
      generalize rc s (narrowM k (isCon c.name) c.args.length rows) (belowM paths k c.args.length) = r at h1 h2 h3 ⊢
      obtain ⟨i1, i2, ys, i3, i4, i5, i6⟩ := consL_ind hrefl htrans hmono cs r.1 (names ++ [c.name]) (kids ++ [(r.2 : Int)]) h1 fun c' hc' => hs c' (List.mem_cons_of_mem _ hc')
      refine ⟨i1, htrans _ _ _ h2 i2, (c, r.2) :: ys, ?_, ?_, ?_, fun z hz => ?_⟩
      · rw [List.filter_cons, if_pos hc, List.map_cons, i3]
      · rw [i4]; simp
      · rw [i5]; simp
      · rcases List.mem_cons.1 hz with rfl | hz
        · exact hmono _ _ _ _ i2 h3
        · exact i6 z hz
    · rw [if_neg hc]
      obtain ⟨i1, i2, ys, i3, i4, i5, i6⟩ := consL_ind hrefl htrans hmono cs s names kids hI fun c' hc' => hs c' (List.mem_cons_of_mem _ hc')
      exact ⟨i1, i2, ys, by rw [List.filter_cons, if_neg hc, i3], i4, i5, i6⟩
/-- The word of a row at the column. -/
def wordAt (k : Nat) (r : MRow) : Int := (r.2.getD k anyP).n
theorem wordsL_ind {R : BSt → BSt → Prop} {I : BSt → Prop} {Q : Int → BSt → Nat → Prop} (hrefl : ∀ s, R s s) (htrans : ∀ a b c, R a b → R b c → R a c) (hmono : ∀ c s s' y, R s s' → Q c s y → Q c s' y) :
    ∀ (rs : List MRow) (s : BSt) (ws : List Int) (kids : List Int), I s → (∀ r ∈ rs, ∀ s, I s → free (r.2.getD k anyP) = false → I (rc s (narrowM k (isInt (wordAt k r)) 0 rows) (belowM paths k 0)).1 ∧ R s (rc s (narrowM k (isInt (wordAt k r)) 0 rows) (belowM paths k 0)).1 ∧ Q (wordAt k r) (rc s (narrowM k (isInt (wordAt k r)) 0 rows) (belowM paths k 0)).1 (rc s (narrowM k (isInt (wordAt k r)) 0 rows) (belowM paths k 0)).2) →
      I (wordsL rc rows paths k rs s ws kids).1 ∧ R s (wordsL rc rows paths k rs s ws kids).1 ∧ (∀ r ∈ rs, free (r.2.getD k anyP) = true ∨ wordAt k r ∈ (wordsL rc rows paths k rs s ws kids).2.1) ∧ (ws.Nodup → (wordsL rc rows paths k rs s ws kids).2.1.Nodup) ∧
      ∃ ys : List (Int × Nat), (wordsL rc rows paths k rs s ws kids).2.1 = ws ++ ys.map (·.1) ∧ (wordsL rc rows paths k rs s ws kids).2.2 = kids ++ ys.map (fun z => (z.2 : Int)) ∧ ys.length ≤ rs.length ∧ ∀ z ∈ ys, Q z.1 (wordsL rc rows paths k rs s ws kids).1 z.2 ∧ ∃ r ∈ rs, free (r.2.getD k anyP) = false ∧ wordAt k r = z.1
  | [], s, ws, kids, hI, _ => ⟨hI, hrefl s, (fun r hr => by cases hr), id, [], by simp [wordsL], by simp [wordsL], Nat.le_refl _, fun z hz => by cases hz⟩
  | r :: rs, s, ws, kids, hI, hs => by
    rw [wordsL]
    by_cases hc : (free (r.2.getD k anyP) || ws.any (fun x => decide ((r.2.getD k anyP).n = x))) = true
    · rw [if_pos hc]
      obtain ⟨i1, i2, i3, i4, ys, i5, i6, i7, i8⟩ := wordsL_ind hrefl htrans hmono rs s ws kids hI fun r' hr' => hs r' (List.mem_cons_of_mem _ hr')
      refine ⟨i1, i2, fun r' hr' => ?_, i4, ys, i5, i6, by rw [List.length_cons]; omega, fun z hz => ⟨(i8 z hz).1, ?_⟩⟩
      · rcases List.mem_cons.1 hr' with rfl | hr'
        · rw [Bool.or_eq_true, List.any_eq_true] at hc
          rcases hc with hc | ⟨x, hx, he⟩
          · exact .inl hc
          · refine .inr ?_
            rw [i5, wordAt, of_decide_eq_true he]
            exact List.mem_append_left _ hx
        · exact i3 r' hr'
      · obtain ⟨r', hr', h1, h2⟩ := (i8 z hz).2
        exact ⟨r', List.mem_cons_of_mem _ hr', h1, h2⟩
    · rw [if_neg hc]
      rw [Bool.or_eq_true, not_or, Bool.not_eq_true] at hc
      obtain ⟨hf, hw⟩ := hc
      have hnew : wordAt k r ∉ ws := fun hm => hw (List.any_eq_true.2 ⟨_, hm, decide_eq_true rfl⟩)
      obtain ⟨h1, h2, h3⟩ := hs r (List.mem_cons_self ..) s hI hf
      show _ ∧ _ ∧ _ ∧ _ ∧ _
      have e : (r.2.getD k anyP).n = wordAt k r := rfl
      rw [e]
      generalize rc s (narrowM k (isInt (wordAt k r)) 0 rows) (belowM paths k 0) = q at h1 h2 h3 ⊢
      obtain ⟨i1, i2, i3, i4, ys, i5, i6, i7, i8⟩ := wordsL_ind hrefl htrans hmono rs q.1 (ws ++ [wordAt k r]) (kids ++ [(q.2 : Int)]) h1 fun r' hr' => hs r' (List.mem_cons_of_mem _ hr')
      refine ⟨i1, htrans _ _ _ h2 i2, fun r' hr' => ?_, fun hn => i4 ?_, (wordAt k r, q.2) :: ys, ?_, ?_, by rw [List.length_cons, List.length_cons]; omega, fun z hz => ?_⟩
      · rcases List.mem_cons.1 hr' with rfl | hr'
        · refine .inr ?_
          rw [i5]
          simp
        · exact i3 r' hr'
      · rw [List.nodup_append]
        exact ⟨hn, by simp, fun x hx y hy => by rw [List.mem_singleton] at hy; subst hy; rintro rfl; exact hnew hx⟩
      · rw [i5]; simp
      · rw [i6]; simp
      · rcases List.mem_cons.1 hz with rfl | hz
        · exact ⟨hmono _ _ _ _ i2 h3, r, List.mem_cons_self .., hf, rfl⟩
        · obtain ⟨j1, r', hr', j2, j3⟩ := i8 z hz
          exact ⟨j1, r', List.mem_cons_of_mem _ hr', j2, j3⟩
end
/-! ### The counters -/
structure LoopK (f n : Nat) (s s' : BSt) : Prop where
  out : s'.out.length + s.many ≤ s'.many + s.out.length
  mono : s.many ≤ s'.many
  full : s'.full = decide (4096 < s'.many)
  slow : s.many ≤ 4097 + f * 1100 → s'.many ≤ 4097 + f * 1100 + n
theorem Keeps.loop {f i : Nat} {s1 s' : BSt} (h : Keeps f s1 s') (hs : s1.many ≤ 4097 + f * 1100 + i) : s'.many ≤ 4097 + f * 1100 + (i + 1) := by
  cases hf : s1.full with
  | true => have := h.fast hf; omega
  | false => have := h.slow hf; omega
section
variable {rc : BSt → List MRow → List (List Int) → BSt × Nat} {rows : List MRow} {paths : List (List Int)} {k f : Nat}
theorem consL_keeps : ∀ (cs : List ConSig) (s : BSt) (names : List Str) (kids : List Int) (i : Nat), s.full = decide (4096 < s.many) → s.many ≤ 4097 + f * 1100 + i →
    (∀ c ∈ cs, ∀ s : BSt, s.full = decide (4096 < s.many) → hasCon rows k c.name = true → Keeps f s (rc s (narrowM k (isCon c.name) c.args.length rows) (belowM paths k c.args.length)).1) →
    (consL rc rows paths k cs s names kids).1.out.length + s.many ≤ (consL rc rows paths k cs s names kids).1.many + s.out.length ∧ s.many ≤ (consL rc rows paths k cs s names kids).1.many ∧
      (consL rc rows paths k cs s names kids).1.full = decide (4096 < (consL rc rows paths k cs s names kids).1.many) ∧ (consL rc rows paths k cs s names kids).1.many ≤ 4097 + f * 1100 + (i + cs.length)
  | [], s, names, kids, i, hf, hm, _ => by
    rw [consL]
    exact ⟨by show s.out.length + s.many ≤ s.many + s.out.length; omega, Nat.le_refl _, hf, hm⟩
  | c :: cs, s, names, kids, i, hf, hm, hs => by
    rw [consL]
    by_cases hc : hasCon rows k c.name = true
    · rw [if_pos hc]
      have h1 := hs c (List.mem_cons_self ..) s hf hc
      generalize rc s (narrowM k (isCon c.name) c.args.length rows) (belowM paths k c.args.length) = r at h1 ⊢
      obtain ⟨i1, i2, i3, i4⟩ := consL_keeps cs r.1 (names ++ [c.name]) (kids ++ [(r.2 : Int)]) (i + 1) h1.full (h1.loop hm) fun c' hc' => hs c' (List.mem_cons_of_mem _ hc')
      have := h1.out
      have := h1.mono
      exact ⟨by omega, by omega, i3, by rw [List.length_cons]; omega⟩
    · rw [if_neg hc]
      obtain ⟨i1, i2, i3, i4⟩ := consL_keeps cs s names kids i hf hm fun c' hc' => hs c' (List.mem_cons_of_mem _ hc')
      exact ⟨i1, i2, i3, by rw [List.length_cons]; omega⟩
theorem wordsL_keeps : ∀ (rs : List MRow) (s : BSt) (ws : List Int) (kids : List Int) (i : Nat), s.full = decide (4096 < s.many) → s.many ≤ 4097 + f * 1100 + i →
    (∀ (n : Int) (s : BSt), s.full = decide (4096 < s.many) → Keeps f s (rc s (narrowM k (isInt n) 0 rows) (belowM paths k 0)).1) →
    (wordsL rc rows paths k rs s ws kids).1.out.length + s.many ≤ (wordsL rc rows paths k rs s ws kids).1.many + s.out.length ∧ s.many ≤ (wordsL rc rows paths k rs s ws kids).1.many ∧
      (wordsL rc rows paths k rs s ws kids).1.full = decide (4096 < (wordsL rc rows paths k rs s ws kids).1.many) ∧ (wordsL rc rows paths k rs s ws kids).1.many ≤ 4097 + f * 1100 + (i + rs.length)
  | [], s, ws, kids, i, hf, hm, _ => by
    rw [wordsL]
    exact ⟨by show s.out.length + s.many ≤ s.many + s.out.length; omega, Nat.le_refl _, hf, hm⟩
  | r :: rs, s, ws, kids, i, hf, hm, hs => by
    rw [wordsL]
    split
    · obtain ⟨i1, i2, i3, i4⟩ := wordsL_keeps rs s ws kids i hf hm hs
      exact ⟨i1, i2, i3, by rw [List.length_cons]; omega⟩
    · have h1 := hs (r.2.getD k anyP).n s hf
      generalize rc s (narrowM k (isInt (r.2.getD k anyP).n) 0 rows) (belowM paths k 0) = q at h1 ⊢
      obtain ⟨i1, i2, i3, i4⟩ := wordsL_keeps rs q.1 (ws ++ [(r.2.getD k anyP).n]) (kids ++ [(q.2 : Int)]) (i + 1) h1.full (h1.loop hm) hs
      have := h1.out
      have := h1.mono
      exact ⟨by omega, by omega, i3, by rw [List.length_cons]; omega⟩
end
theorem addF_keeps {f : Nat} {s s1 : BSt} (n : MNode) (h1 : s1.out.length + s.many + 1 ≤ s1.many + s.out.length) (h2 : s.many + 1 ≤ s1.many) (h3 : s1.full = decide (4096 < s1.many)) (h4 : s.full = true → s1.many = s.many + 1) (h5 : s.full = false → s1.many ≤ 4097 + f * 1100) : Keeps f s (addF s1 n).1 := by
  obtain ⟨x, e1, e2, _⟩ := addF_spec s1 n
  obtain ⟨e3, e4⟩ := addF_many s1 n
  refine ⟨?_, by rw [e3]; exact h2, by rw [e3, e4]; exact h3, by rw [e3]; exact h4, by rw [e3]; exact h5⟩
  rw [e1, e3, List.length_append]
  omega
theorem con_head {t : Tab} {ds : List DataSig} {rows : List MRow} {τs : List Ty} {k : Nat} {p : Pat} {τ : Ty} (hok : TabOk t ds) (ha : AtHead t rows τs k p τ) (hk : p.kind ≠ 2) :
    ∃ d g a D, τ = .dat d g ∧ p.kind = 3 ∧ tget t p.name = some (d, a, p.args.length) ∧ ds[d]? = some D ∧ consAt t ds p.name = D.cons ∧ D.cons.length ≤ 1000 ∧ ∀ c ∈ D.cons, ∃ a, tget t c.name = some (d, a, c.args.length) := by
  have hw := ha.wt
  have hf := ha.free
  cases τ with
  | any => rw [show Go.PM.wt t .any p = (free p = true) from rfl, hf] at hw; cases hw
  | int =>
    rcases hw with h | h
    · rw [hf] at h; cases h
    · exact absurd h hk
  | dat d g =>
    rcases hw with h | ⟨h1, ⟨a, h2⟩, _⟩
    · rw [hf] at h; cases h
    · obtain ⟨D, hD⟩ := hok.get _ _ h2
      exact ⟨d, g, a, D, rfl, h1, h2, hD, by simp only [consAt, h2, hD], (hok.small d D hD).1, fun c hc => hok.put d D c hD hc⟩
theorem head_get {t : Tab} {rows : List MRow} {τs : List Ty} {k : Nat} {p : Pat} {τ : Ty} (ha : AtHead t rows τs k p τ) : (headPats rows).getD (idxOf nf (headPats rows)).toNat anyP = p ∧ (idxOf nf (headPats rows)).toNat = k := by
  obtain ⟨⟨r0, rs, rfl, hp⟩, hi, _⟩ := ha
  rw [hi, Int.toNat_natCast]
  exact ⟨by show r0.2.getD k anyP = p; simp [hp], rfl⟩
/-- A step of the builder, case by case. -/
theorem buildM_cases {t : Tab} {ds : List DataSig} (hok : TabOk t ds) {f : Nat} {s : BSt} {rows : List MRow} {paths : List (List Int)} {τs : List Ty} (h : MPre t (f + 1) rows paths τs) :
    (buildM t ds (f + 1) s rows paths = addF (tick s) failN ∧ (rows.length = 0 ∨ (tick s).full = true)) ∨ ((tick s).full = false ∧ ∃ r0 rs, rows = r0 :: rs ∧
      ((buildM t ds (f + 1) s rows paths = addF (tick s) (rowN r0.1) ∧ r0.2.any nf = false) ∨ ∃ k p τ, AtHead t rows τs k p τ ∧
        ((p.kind = 2 ∧ buildM t ds (f + 1) s rows paths = wordsF (buildM t ds f) (tick s) rows paths k) ∨
          ∃ d g a D, τ = .dat d g ∧ p.kind = 3 ∧ tget t p.name = some (d, a, p.args.length) ∧ ds[d]? = some D ∧ D.cons.length ≤ 1000 ∧ (∀ c ∈ D.cons, ∃ a, tget t c.name = some (d, a, c.args.length)) ∧ buildM t ds (f + 1) s rows paths = consF (buildM t ds f) D.cons (tick s) rows paths k))) := by
  rw [buildM]
  by_cases h0 : rows.length = 0 ∨ (tick s).full = true
  · rw [if_pos h0]
    exact .inl ⟨rfl, h0⟩
  rw [if_neg h0]
  have hr : rows.length ≠ 0 := fun e => h0 (.inl e)
  have hf : (tick s).full = false := by
    cases hb : (tick s).full with
    | false => rfl
    | true => exact absurd (.inr hb) h0
  refine .inr ⟨hf, ?_⟩
  by_cases hi : idxOf nf (headPats rows) < 0
  · rw [if_pos hi]
    cases rows with
    | nil => exact absurd rfl hr
    | cons r0 rs =>
      refine ⟨r0, rs, rfl, .inl ⟨rfl, ?_⟩⟩
      rcases idxOf_range nf (headPats (r0 :: rs)) with ⟨_, h1⟩ | ⟨k, x, h1, _⟩
      · exact h1
      · omega
  · rw [if_neg hi]
    obtain ⟨k, p, τ, ha⟩ := atHead_of h hr hi
    obtain ⟨r0, rs, e, hp⟩ := ha.ne
    refine ⟨r0, rs, e, .inr ⟨k, p, τ, ha, ?_⟩⟩
    obtain ⟨e1, e2⟩ := head_get ha
    rw [e1, e2]
    by_cases hk : p.kind = 2
    · rw [if_pos hk]
      exact .inl ⟨hk, rfl⟩
    · rw [if_neg hk]
      obtain ⟨d, g, a, D, h1, h2, h3, h4, h5, h6, h7⟩ := con_head hok ha hk
      exact .inr ⟨d, g, a, D, h1, h2, h3, h4, h6, h7, by rw [h5]⟩
theorem tick_not {s : BSt} (h : (tick s).full = false) : s.full = false ∧ s.many ≤ 4095 := by
  have h1 : (s.full || decide (4096 < s.many + 1)) = false := h
  rw [Bool.or_eq_false_iff, decide_eq_false_iff_not] at h1
  exact ⟨h1.1, by omega⟩
theorem tick_full {s : BSt} (h : s.full = decide (4096 < s.many)) : (tick s).full = decide (4096 < (tick s).many) := by
  show (s.full || decide (4096 < s.many + 1)) = decide (4096 < s.many + 1)
  rw [h]
  by_cases h1 : 4096 < s.many
  · rw [decide_eq_true h1, decide_eq_true (by omega)]; rfl
  · rw [decide_eq_false h1, Bool.false_or]
theorem buildM_keeps {t : Tab} {ds : List DataSig} (hok : TabOk t ds) : ∀ (f : Nat) (s : BSt) (rows : List MRow) (paths : List (List Int)) (τs : List Ty), MPre t f rows paths τs → s.full = decide (4096 < s.many) → Keeps f s (buildM t ds f s rows paths).1
  | 0, s, rows, paths, τs, h, _ => absurd h.fuel (Nat.not_lt_zero _)
  | f + 1, s, rows, paths, τs, h, hs => by
    have ht := tick_full hs
    have hmt : (tick s).many = s.many + 1 := rfl
    have hot : (tick s).out = s.out := rfl
    have hleaf : ∀ n, Keeps (f + 1) s (addF (tick s) n).1 := fun n => by
      refine addF_keeps n (by rw [hmt, hot]; omega) (by rw [hmt]; omega) ht (fun _ => hmt) fun hf => ?_
      rw [hf] at hs
      have := of_decide_eq_false hs.symm
      rw [hmt]
      omega
    rcases buildM_cases (s := s) hok h with ⟨e, _⟩ | ⟨hft, r0, rs, er, ⟨e, _⟩ | ⟨k, p, τ, ha, ⟨hk, e⟩ | ⟨d, g, a, D, hτ, hk, hta, hD, hcl, hcs, e⟩⟩⟩
    · rw [e]; exact hleaf _
    · rw [e]; exact hleaf _
    · obtain ⟨hsf, hsm⟩ := tick_not hft
      rw [e, wordsF]
      have hl := h.len
      obtain ⟨j1, j2, j3, j4⟩ := wordsL_keeps (rc := buildM t ds f) (rows := rows) (paths := paths) (k := k) (f := f) rows (tick s) [] [] 0 ht (by omega) fun n s' hs' => buildM_keeps hok f s' _ _ _ (word_child (isInt n) h ha hk) hs'
      generalize wordsL (buildM t ds f) rows paths k rows (tick s) [] [] = w at j1 j2 j3 j4 ⊢
      have ho := buildM_keeps hok f w.1 _ _ _ (other_child h ha) j3
      have ho2 := ho.loop j4
      have := ho.out
      have := ho.mono
      simp only [otherF]
      exact addF_keeps _ (by rw [hmt, hot] at j1; omega) (by omega) ho.full (fun hf => by rw [hsf] at hf; cases hf) fun _ => by omega
    · obtain ⟨hsf, hsm⟩ := tick_not hft
      subst hτ
      rw [e, consF]
      obtain ⟨j1, j2, j3, j4⟩ := consL_keeps (rc := buildM t ds f) (rows := rows) (paths := paths) (k := k) (f := f) D.cons (tick s) [] [] 0 ht (by omega) fun c hc s' hs' hh => by
        obtain ⟨a', hta'⟩ := hcs c hc
        exact buildM_keeps hok f s' _ _ _ (con_child h ha hta' hh) hs'
      generalize consL (buildM t ds f) rows paths k D.cons (tick s) [] [] = w at j1 j2 j3 j4 ⊢
      have ho := buildM_keeps hok f w.1 _ _ _ (other_child h ha) j3
      have ho2 := ho.loop j4
      have := ho.out
      have := ho.mono
      simp only [otherF]
      by_cases hlt : w.2.1.length < D.cons.length
      · rw [if_pos hlt]
        exact addF_keeps _ (by rw [hmt, hot] at j1; simp only; omega) (by simp only; omega) ho.full (fun hf => by rw [hsf] at hf; cases hf) fun _ => by simp only; omega
      · rw [if_neg hlt]
        exact addF_keeps _ (by rw [hmt, hot] at j1; simp only; omega) (by simp only; omega) j3 (fun hf => by rw [hsf] at hf; cases hf) fun _ => by simp only; omega
end Go.PM
