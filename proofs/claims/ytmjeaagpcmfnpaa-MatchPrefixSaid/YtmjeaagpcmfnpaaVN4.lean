/- Matching, the plain law: a compiled tree answers the first row that matches. -/
import Derived.Test.YtmjeaagpcmfnpaaVN3
set_option linter.unusedVariables false
namespace Go.PM
open Go.VL
theorem newVals_map (k : Nat) (as vs : List Pat) : (newVals k as vs).map toVal = (vs.map toVal).take k ++ ((vs.map toVal).drop (k + 1) ++ as.map toVal) := by
  unfold newVals
  rw [List.map_append, List.map_append, List.map_take, List.map_drop]
theorem newVals_known {k : Nat} {as vs : List Pat} (h : knownL vs = true) (ha : knownL as = true) : knownL (newVals k as vs) = true := by
  rw [knownL_mem] at h ha ⊢
  intro p hp
  rcases List.mem_append.1 hp with hp | hp
  · exact h p (List.mem_of_mem_take hp)
  rcases List.mem_append.1 hp with hp | hp
  · exact h p (List.mem_of_mem_drop hp)
  · exact ha p hp
theorem newVals_ty {t : Tab} {k : Nat} {as vs : List Pat} {σs τs : List Ty} (h : rowT t τs vs) (ha : rowT t σs as) : rowT t (newTys k σs τs) (newVals k as vs) := (h.take k).append ((h.drop (k + 1)).append ha)
/-- What is asked of a step: the values lead where they should. -/
def Runs (t : Tab) (vals : List Pat) (τs : List Ty) (rows : List MRow) (paths : List (List Int)) (s : BSt) (i : Nat) : Prop := s.many ≤ 4096 → ∀ vs, rowT t τs vs → knownL vs = true → AtL vals paths vs → ∀ o, Sem rows (vs.map toVal) o → RunP s.out vals i (oInt o)
theorem Runs.mono {t : Tab} {vals : List Pat} {τs : List Ty} {rows : List MRow} {paths : List (List Int)} {s s' : BSt} {i : Nat} (hg : Grows s s') (h : Runs t vals τs rows paths s i) : Runs t vals τs rows paths s' i := fun hm vs h1 h2 h3 o ho => (h (by have := hg.many; omega) vs h1 h2 h3 o ho).mono hg.out
theorem buildM_run {t : Tab} {ds : List DataSig} (hok : TabOk t ds) (hlaw : TabLaw t ds) (vals : List Pat) : ∀ (f : Nat) (s : BSt) (rows : List MRow) (paths : List (List Int)) (τs : List Ty), MPre t f rows paths τs → (∀ τ ∈ τs, Good ds τ) → BOk s →
    Runs t vals τs rows paths (buildM t ds f s rows paths).1 (buildM t ds f s rows paths).2
  | 0, s, rows, paths, τs, h, _, _ => absurd h.fuel (Nat.not_lt_zero _)
  | f + 1, s, rows, paths, τs, h, hg, hs => by
    have hts := tick_ok hs
    have htg := tick_grows s
    have hbok := (buildM_leaves hok (f + 1) s rows paths τs h hg hs).1
    intro hm vs hvT hvk hvA o ho
    rcases buildM_cases (s := s) hok h with ⟨e, hE⟩ | ⟨hft, r0, rs, er, ⟨e, hno⟩ | ⟨k, p0, τ, ha, ⟨hk, e⟩ | ⟨d, g, a, D, hτ, hk, hta, hD, hcl, hcs, e⟩⟩⟩
    · rw [e] at hm ⊢
      rw [(addF_many (tick s) failN).1] at hm
      have hr : rows.length = 0 := by
        rcases hE with hE | hE
        · exact hE
        · rw [hts.full] at hE
          have := of_decide_eq_true hE
          omega
      obtain rfl := List.eq_nil_of_length_eq_zero hr
      have : o = none := ho
      subst this
      exact .fail (addF_at _ _) rfl
    · rw [e]
      rw [er] at ho
      have hT := h.ty r0 (by rw [er]; exact List.mem_cons_self ..)
      have hml := matL_free (vs := vs.map toVal) hno (by rw [hT.len, List.length_map, hvT.len])
      rcases ho with ⟨_, rfl⟩ | ⟨h1, _⟩
      · exact .row (addF_at _ _) rfl
      · exact absurd hml h1
    · have hkl : k < vs.length := by rw [hvT.len]; exact (List.getElem?_eq_some_iff.1 ha.ty).1
      obtain ⟨p, hp⟩ := get_of_lt vs k (by omega)
      obtain ⟨path, hpath⟩ := get_of_lt paths k (by rw [h.plen, ← hvT.len]; omega)
      have hpg : paths.getD k [] = path := by simp [hpath]
      have hne := (h.deep path (List.mem_of_getElem? hpath)).1
      obtain ⟨hpf, _, _⟩ := known_nf (knownL_mem.1 hvk p (List.mem_of_getElem? hp))
      have hpk : p.kind = 2 := int_ty ha.wt hk (rowT.get hvT k τ p ha.ty hp) hpf
      have hpv : (vs.map toVal)[k]? = some (.int p.n) := by rw [List.getElem?_map, hp, ← toVal_int hpk]; rfl
      have hgn : ∀ τ ∈ newTys k [] τs, Good ds τ := newTys_good hg fun σ hσ => by cases hσ
      rw [e, wordsF, hpg] at hm hbok ⊢
      obtain ⟨i1, i2, i3, _, ys, i5, i6, i7, i8⟩ := wordsL_ind (rc := buildM t ds f) (rows := rows) (paths := paths) (k := k) (R := Grows) (I := BOk) (Q := fun n s y => Runs t vals (newTys k [] τs) (narrowM k (isInt n) 0 rows) (belowM paths k 0) s y)
        (fun s => ⟨List.prefix_rfl, Nat.le_refl _⟩) (fun a b c h1 h2 => h1.trans h2) (fun c s s' y h1 h2 => h2.mono h1) rows (tick s) [] [] hts fun r hr s' hs' hf => by
          have hb := buildM_leaves hok f s' _ _ _ (word_child (isInt (wordAt k r)) h ha hk) hgn hs'
          exact ⟨hb.1, hb.2.1, buildM_run hok hlaw vals f s' _ _ _ (word_child (isInt (wordAt k r)) h ha hk) hgn hs'⟩
      generalize wordsL (buildM t ds f) rows paths k rows (tick s) [] [] = w at i1 i2 i3 i5 i6 i8 hm hbok ⊢
      have hob := buildM_leaves hok f w.1 _ _ _ (other_child h ha) hgn i1
      have hor := buildM_run hok hlaw vals f w.1 _ _ _ (other_child h ha) hgn i1
      simp only [otherF] at hm hbok ⊢
      generalize buildM t ds f w.1 (narrowM k (fun _ => false) 0 rows) (belowM paths k 0) = q at hob hor hm hbok ⊢
      rw [List.nil_append] at i5 i6
      have hm2 : q.1.many ≤ 4096 := by rw [(addF_many q.1 _).1] at hm; exact hm
      have hpre := addF_prefix q.1 ⟨3, 0, path, [], w.2.1, w.2.2 ++ [(q.2 : Int)]⟩
      have hat := addF_at q.1 ⟨3, 0, path, [], w.2.1, w.2.2 ++ [(q.2 : Int)]⟩
      have hkd := hbok.kids _ _ hat
      have hvl : (vs.map toVal).length = τs.length := by rw [List.length_map, hvT.len]
      have hnT : rowT t (newTys k [] τs) (newVals k [] vs) := newVals_ty hvT trivial
      have hnK : knownL (newVals k [] vs) = true := newVals_known hvk rfl
      have hnA : AtL vals (belowM paths k 0) (newVals k [] vs) := hvA.child hpath hp hne (.inr rfl) rfl
      have hpick := pick_kid (ys := ys) (f := fun x : Int => x) (q := fun x => decide (p.n = x)) (z := (q.2 : Int))
      have hkl2 : (w.2.2 ++ [(q.2 : Int)]).length = ys.length + 1 := by rw [i6]; simp
      rw [← i6, ← i5, ← hkl2] at hpick
      rcases hpick with ⟨z, hz, hzn, hzk⟩ | ⟨hall, hlast⟩
      · have hzn : p.n = z.1 := of_decide_eq_true hzn
        have hrun := ((i8 z hz).1.mono hob.2.1) hm2 _ hnT hnK hnA o (by
          rw [newVals_map, ← hzn]
          exact (sem_int h.ty ha hk hvl hpv o).2 ho)
        exact .word hat rfl (hvA.get hpath hp) hpk hzk (by have := hkd _ (List.mem_of_getElem? hzk); omega) (hrun.mono hpre)
      · have hrun := hor hm2 _ hnT hnK hnA o (by
          rw [newVals_map]
          refine (sem_word_no h.ty ha hk hvl hpv i3 (fun hmem => ?_) o).2 ho
          rw [i5] at hmem
          obtain ⟨z, hz, hzn⟩ := List.mem_map.1 hmem
          have := of_decide_eq_false (hall z hz)
          exact this hzn.symm)
        exact .word hat rfl (hvA.get hpath hp) hpk hlast (by have := hkd _ (List.mem_of_getElem? hlast); omega) (hrun.mono hpre)
    · subst hτ
      have hkl : k < vs.length := by rw [hvT.len]; exact (List.getElem?_eq_some_iff.1 ha.ty).1
      obtain ⟨p, hp⟩ := get_of_lt vs k (by omega)
      obtain ⟨path, hpath⟩ := get_of_lt paths k (by rw [h.plen, ← hvT.len]; omega)
      have hpg : paths.getD k [] = path := by simp [hpath]
      have hne := (h.deep path (List.mem_of_getElem? hpath)).1
      obtain ⟨hpf, _, hpka⟩ := known_nf (knownL_mem.1 hvk p (List.mem_of_getElem? hp))
      have hpw : wt t (.dat d g) p := rowT.get hvT k _ p ha.ty hp
      obtain ⟨hpk, ap, hpt⟩ : p.kind = 3 ∧ ∃ a, tget t p.name = some (d, a, p.args.length) := by
        rcases hpw with h1 | ⟨h1, h2, _⟩
        · rw [hpf] at h1; cases h1
        · exact ⟨h1, h2⟩
      have hpv : (vs.map toVal)[k]? = some (.con p.name (p.args.map toVal)) := by rw [List.getElem?_map, hp, ← toVal_con hpk]; rfl
      have hgd : Good ds (.dat d g) := hg _ (List.mem_of_getElem? ha.ty)
      have hga : ∀ c : ConSig, ∀ τ ∈ newTys k (argT (g c.name) c.args.length) τs, Good ds τ := fun c => newTys_good hg fun σ hσ => by
        obtain ⟨i, _, rfl⟩ := List.mem_map.1 hσ
        exact hgd.2 _ _
      rw [e, consF, hpg] at hm hbok ⊢
      obtain ⟨i1, i2, ys, i3, i5, i6, i8⟩ := consL_ind (rc := buildM t ds f) (rows := rows) (paths := paths) (k := k) (R := Grows) (I := BOk) (Q := fun c s y => Runs t vals (newTys k (argT (g c.name) c.args.length) τs) (narrowM k (isCon c.name) c.args.length rows) (belowM paths k c.args.length) s y)
        (fun s => ⟨List.prefix_rfl, Nat.le_refl _⟩) (fun a b c h1 h2 => h1.trans h2) (fun c s s' y h1 h2 => h2.mono h1) D.cons (tick s) [] [] hts fun c hc s' hs' hh => by
          obtain ⟨a', hta'⟩ := hcs c hc
          have hb := buildM_leaves hok f s' _ _ _ (con_child h ha hta' hh) (hga c) hs'
          exact ⟨hb.1, hb.2.1, buildM_run hok hlaw vals f s' _ _ _ (con_child h ha hta' hh) (hga c) hs'⟩
      generalize consL (buildM t ds f) rows paths k D.cons (tick s) [] [] = w at i1 i2 i5 i6 i8 hm hbok ⊢
      rw [List.nil_append] at i5 i6
      have hvl : (vs.map toVal).length = τs.length := by rw [List.length_map, hvT.len]
      have hmem : ∀ z ∈ ys, z.1 ∈ D.cons ∧ hasCon rows k z.1.name = true := fun z hz => by
        have h : z.1 ∈ ys.map (·.1) := List.mem_map.2 ⟨z, hz, rfl⟩
        rw [i3] at h
        exact List.mem_filter.1 h
      have hfl := filter_less (fun c : ConSig => hasCon rows k c.name) D.cons
      have hnl : w.2.1.length = (D.cons.filter fun c => hasCon rows k c.name).length := by rw [i5, ← i3, List.length_map, List.length_map]
      obtain ⟨D', hD', kc, hkc, hkn, _⟩ := hlaw.get _ _ hpt
      simp only [hD] at hD'
      injection hD' with hD'
      subst hD'
      -- a kid that was listed
      have hlisted : ∀ {s2 : BSt} {n : MNode}, Grows w.1 s2 → s2.many ≤ 4096 → ∀ z ∈ ys, p.name = z.1.name → RunP s2.out vals z.2 (oInt o) := fun {s2 n} hgr hm2 z hz hzn => by
        obtain ⟨hzc, _⟩ := hmem z hz
        obtain ⟨a', hta'⟩ := hcs z.1 hzc
        have hlen : p.args.length = z.1.args.length := by
          rw [hzn, hta'] at hpt
          injection hpt with hpt
          injection hpt with _ hpt
          injection hpt with _ hpt
          exact hpt.symm
        have hargs := rowT.args hpw hpf
        rw [hzn, hlen] at hargs
        refine ((i8 z hz).mono hgr) hm2 (newVals k p.args vs) (newVals_ty hvT hargs) (newVals_known hvk hpka) (hvA.child hpath hp hne (.inl rfl) hlen) o ?_
        rw [newVals_map, ← hzn]
        exact (sem_con h.ty ha hvl (by rw [List.length_map, hlen]) hpv o).2 ho
      by_cases hlt : w.2.1.length < D.cons.length
      · rw [if_pos hlt] at hm hbok ⊢
        have hgn : ∀ τ ∈ newTys k [] τs, Good ds τ := newTys_good hg fun σ hσ => by cases hσ
        have hob := buildM_leaves hok f w.1 _ _ _ (other_child h ha) hgn i1
        have hor := buildM_run hok hlaw vals f w.1 _ _ _ (other_child h ha) hgn i1
        simp only [otherF] at hm hbok ⊢
        generalize buildM t ds f w.1 (narrowM k (fun _ => false) 0 rows) (belowM paths k 0) = q at hob hor hm hbok ⊢
        have hm2 : q.1.many ≤ 4096 := by rw [(addF_many q.1 _).1] at hm; exact hm
        have hpre := addF_prefix q.1 ⟨2, 0, path, w.2.1, [], w.2.2 ++ [(q.2 : Int)]⟩
        have hat := addF_at q.1 ⟨2, 0, path, w.2.1, [], w.2.2 ++ [(q.2 : Int)]⟩
        have hkd := hbok.kids _ _ hat
        have hpick := pick_kid (ys := ys) (f := ConSig.name) (q := fun x => decide (p.name = x)) (z := (q.2 : Int))
        have hkl2 : (w.2.2 ++ [(q.2 : Int)]).length = ys.length + 1 := by rw [i6]; simp
        rw [← i6, ← i5, ← hkl2] at hpick
        rcases hpick with ⟨z, hz, hzn, hzk⟩ | ⟨hall, hlast⟩
        · have hrun := hlisted (n := failN) hob.2.1 hm2 z hz (of_decide_eq_true hzn)
          exact .con hat rfl (hvA.get hpath hp) hpk hzk (by have := hkd _ (List.mem_of_getElem? hzk); omega) (hrun.mono hpre)
        · have hno : hasCon rows k p.name = false := by
            cases hh : hasCon rows k p.name with
            | false => rfl
            | true =>
              have h1 : kc ∈ ys.map (·.1) := by rw [i3]; exact List.mem_filter.2 ⟨hkc, by simp only [hkn]; exact hh⟩
              obtain ⟨z, hz, rfl⟩ := List.mem_map.1 h1
              have := of_decide_eq_false (hall z hz)
              exact absurd hkn.symm this
          have hrun := hor hm2 (newVals k [] vs) (newVals_ty hvT trivial) (newVals_known hvk rfl) (hvA.child hpath hp hne (.inr rfl) rfl) o (by
            rw [newVals_map]
            exact (sem_con_no h.ty ha hvl hno hpv o).2 ho)
          exact .con hat rfl (hvA.get hpath hp) hpk hlast (by have := hkd _ (List.mem_of_getElem? hlast); omega) (hrun.mono hpre)
      · rw [if_neg hlt] at hm hbok ⊢
        simp only at hm hbok ⊢
        have hallc : ∀ c ∈ D.cons, hasCon rows k c.name = true := Classical.byContradiction fun hh => hlt (by rw [hnl]; exact hfl.2 hh)
        have hm2 : w.1.many ≤ 4096 := by rw [(addF_many w.1 _).1] at hm; exact hm
        have hpre := addF_prefix w.1 ⟨2, 0, path, w.2.1, [], w.2.2 ++ [-1]⟩
        have hat := addF_at w.1 ⟨2, 0, path, w.2.1, [], w.2.2 ++ [-1]⟩
        have hkd := hbok.kids _ _ hat
        have hpick := pick_kid (ys := ys) (f := ConSig.name) (q := fun x => decide (p.name = x)) (z := -1)
        have hkl2 : (w.2.2 ++ [-1]).length = ys.length + 1 := by rw [i6]; simp
        rw [← i6, ← i5, ← hkl2] at hpick
        rcases hpick with ⟨z, hz, hzn, hzk⟩ | ⟨hall, _⟩
        · have hrun := hlisted (n := failN) ⟨List.prefix_rfl, Nat.le_refl _⟩ hm2 z hz (of_decide_eq_true hzn)
          exact .con hat rfl (hvA.get hpath hp) hpk hzk (by have := hkd _ (List.mem_of_getElem? hzk); omega) (hrun.mono hpre)
        · exfalso
          have h1 : kc ∈ ys.map (·.1) := by rw [i3]; exact List.mem_filter.2 ⟨hkc, hallc kc hkc⟩
          obtain ⟨z, hz, rfl⟩ := List.mem_map.1 h1
          have := of_decide_eq_false (hall z hz)
          exact this hkn.symm
end Go.PM
