/- Patterns, the plain law: PatternsDrop and PatternsMore. -/
import Derived.Test.YtmjeaagpcmfnpaaVP6
set_option linter.unusedVariables false
namespace Go.PM
open Go.VL
theorem missOut_none {ds : List DataSig} {rows : List (List Pat)} {c : Int} (h : (missOut ds rows c).2 ≠ 0) : (missOut ds rows c).1 = [] := by
  by_cases h2 : checkF ds rows = 0
  · by_cases h3 : missBad rows c
    · rw [missOut_bad h2 h3]
    · obtain ⟨t, hb⟩ := check_build h2
      rw [missOut_ok h2 h3 hb] at h
      exact absurd rfl h
  · rw [missOut_err h2]
theorem missOut_zero {ds : List DataSig} {rows : List (List Pat)} : (missOut ds rows 0).1 = [] := by
  by_cases h2 : checkF ds rows = 0
  · by_cases h3 : missBad rows 0
    · rw [missOut_bad h2 h3]
    · obtain ⟨t, hb⟩ := check_build h2
      rw [missOut_ok h2 h3 hb]
      have h1 : fuel0 = 399999 + 1 := by rw [fuel0_eq]
      rw [h1]
      show (bif (missF t ds (399999 + 1) rows 0).2 then (missF t ds (399999 + 1) rows 0).1 else []) = []
      rw [missF]
      cases decide ((rows.length : Int) = 0) <;> rfl
  · rw [missOut_err h2]
theorem redOut_none {ds : List DataSig} {rows : List (List Pat)} (h : (redOut ds rows).2 ≠ 0) : (redOut ds rows).1 = [] := by
  by_cases h2 : checkF ds rows = 0
  · obtain ⟨t, hb⟩ := check_build h2
    rw [redOut_ok h2 hb] at h
    exact absurd rfl h
  · rw [redOut_err h2]
theorem redOut_zero {ds : List DataSig} {rows : List (List Pat)} (h : (redOut ds rows).2 = 0) : checkF ds rows = 0 := by
  by_cases h2 : checkF ds rows = 0
  · exact h2
  · rw [redOut_err h2] at h; exact h

/-! ### PatternsDrop -/
def lastR (ds : List DataSig) (rows : List (List Pat)) : Nat := (redOut ds rows).1.getD ((redOut ds rows).1.length - 1) 0
def lessR (rows : List (List Pat)) (k : Nat) : List (List Pat) := rows.take k ++ rows.drop (k + 1)
def dropF (ds : List DataSig) (rows : List (List Pat)) : Bool :=
  if (redOut ds rows).2 ≠ 0 ∨ (redOut ds rows).1.length = 0 then decide ((redOut ds rows).1.length = 0)
  else if ¬ lastR ds rows < rows.length then false
  else decide ((missOut ds rows (width rows)).2 = 0) && decide ((missOut ds (lessR rows (lastR ds rows)) (width rows)).2 = 0)
    && (decide (0 < (missOut ds rows (width rows)).1.length) == decide (0 < (missOut ds (lessR rows (lastR ds rows)) (width rows)).1.length))
theorem less_sub (rows : List (List Pat)) (k : Nat) : (lessR rows k).Sublist rows := by
  unfold lessR
  have h : (rows.take k ++ rows.drop (k + 1)).Sublist (rows.take k ++ rows.drop k) := by
    refine List.Sublist.append (List.Sublist.refl _) ?_
    rw [show k + 1 = 1 + k by omega, ← List.drop_drop]
    first | exact List.drop_sublist _ _ | (rw [List.drop_drop]; exact List.drop_sublist_drop_left _ (by omega))
  rwa [List.take_append_drop] at h
theorem last_mem {l : List Nat} (h : l.length ≠ 0) : l.getD (l.length - 1) 0 ∈ l := by
  have h1 : l.length - 1 < l.length := by omega
  rw [List.getD_eq_getElem?_getD, List.getElem?_eq_getElem h1]
  exact List.getElem_mem _
theorem nbad_width {ds : List DataSig} {rows : List (List Pat)} (h : checkF ds rows = 0) (hne : rows ≠ []) : ¬ missBad rows (width rows) := by
  obtain ⟨t, hb⟩ := check_build h
  have hsm := (check_parts h hb).1
  obtain ⟨r, rs, rfl⟩ := List.exists_cons_of_ne_nil hne
  have : (width (r :: rs)) ≤ 16 := hsm.cols r (List.mem_cons_self ..)
  rintro (h1 | h1 | ⟨_, h1⟩)
  · omega
  · omega
  · exact h1 rfl
theorem drop_law (ds : List DataSig) (hz : Sized ds) (rows : List (List Pat)) : dropF ds rows = true := by
  unfold dropF
  by_cases h0 : (redOut ds rows).2 ≠ 0 ∨ (redOut ds rows).1.length = 0
  · rw [if_pos h0, decide_eq_true_eq]
    rcases h0 with h | h
    · rw [redOut_none h]; rfl
    · exact h
  rw [if_neg h0]
  have h1 : (redOut ds rows).2 = 0 := Decidable.not_not.1 fun h => h0 (.inl h)
  have h2 : (redOut ds rows).1.length ≠ 0 := fun h => h0 (.inr h)
  have hck := redOut_zero h1
  obtain ⟨t, hb⟩ := check_build hck
  have hmem : lastR ds rows ∈ redTo t ds rows rows.length := by
    have := last_mem h2
    have e := redOut_ok hck hb
    unfold lastR
    rw [e] at this ⊢
    exact this
  have hlt : lastR ds rows < rows.length := List.mem_range.1 (List.mem_filter.1 hmem).1
  rw [if_neg (not_not_intro hlt)]
  have hne : rows ≠ [] := fun e => by rw [e] at hlt; cases hlt
  have hnb := nbad_width hck hne
  obtain ⟨τs, hτ, hT⟩ := typed_of hck hb hnb
  have hok := tabOk_of hb (check_parts hck hb).1 hz
  have hsub := less_sub rows (lastR ds rows)
  obtain ⟨hck2, hnb2⟩ := check_sub hsub hck hnb
  have hT2 := typed_sub hsub hT
  have hl := lacks_drop hok hT hmem
  by_cases hw : width rows = 0
  · have e1 : (missOut ds rows (width rows)).2 = 0 := by rw [missOut_ok hck hnb hb]
    have e2 : (missOut ds (lessR rows (lastR ds rows)) (width rows)).2 = 0 := by rw [missOut_ok hck2 hnb2 hb]
    rw [e1, e2, hw]
    show (decide True && decide True && (decide (0 < (missOut ds rows 0).1.length) == decide (0 < (missOut ds (lessR rows (lastR ds rows)) 0).1.length))) = true
    rw [missOut_zero, missOut_zero]
    rfl
  · have e1 := missOut_lacks hok hck hnb hb hτ hT (by omega)
    have e2 := missOut_lacks hok hck2 hnb2 hb hτ hT2 (by omega)
    rw [e1.1, e2.1]
    have : decide (0 < (missOut ds rows (width rows)).1.length) = decide (0 < (missOut ds (lessR rows (lastR ds rows)) (width rows)).1.length) := by
      rw [decide_eq_decide, e1.2, e2.2]
      exact hl
    rw [this]
    simp

/-! ### PatternsMore -/
theorem absent_wit {t : Tab} {ds : List DataSig} {τ : Ty} {τs : List Ty} {rows : List (List Pat)} {q : Pat} (hok : TabOk t ds) (hT : rowsT t (τ :: τs) rows) (hg : Good ds τ) (h : absentF t ds (first rows) = some q) : ∃ v, fits ds τ v ∧ matP q v ∧ ∀ p ∈ first rows, ¬ matP p v := by
  cases hl : first rows with
  | nil =>
    rw [hl] at h
    injection h with h
    subst h
    obtain ⟨v, hv⟩ := good_inh τ hg
    exact ⟨v, hv, matP_free rfl _, fun p hp => by cases hp⟩
  | cons p l =>
    have hfr : ∀ p' ∈ p :: l, free p' = false := fun p' hp' => by
      obtain ⟨tl, _, h2⟩ := first_mem (rows := rows) (p := p') (by rw [hl]; exact hp')
      exact h2
    rw [hl] at h
    by_cases hk : p.kind = 2
    · rw [absentF, if_pos hk] at h
      injection h with h
      subst h
      refine ⟨.int (fresh (p :: l) 0), ?_, (matP_eq _ _).2 (.inr (.inl ⟨rfl, rfl⟩)), fun p' hp' hm => ?_⟩
      · cases τ with
        | any => trivial
        | int => trivial
        | dat d f =>
          obtain ⟨tl, h1, h2⟩ := first_mem (rows := rows) (p := p) (by rw [hl]; exact List.mem_cons_self ..)
          rcases (hT _ h1).1 with h3 | ⟨h3, _⟩
          · rw [h2] at h3; cases h3
          · rw [hk] at h3; cases h3
      · have hs := fresh_spec (p :: l) _ 0 (Nat.lt_succ_self _)
        have h3 := List.any_eq_false.1 hs p' hp'
        rcases (matP_eq _ _).1 hm with h4 | ⟨_, h4⟩ | ⟨_, vs, h4, _⟩
        · rw [hfr p' hp'] at h4; cases h4
        · injection h4 with h4
          simp [h4] at h3
        · cases h4
    · obtain ⟨d, f, a, D, rfl, h3, ht, hD⟩ := first_head hok hT hl hk
      rw [absentF, if_neg hk] at h
      have hc : consAt t ds p.name = D.cons := by simp only [consAt, ht, hD]
      rw [hc] at h
      cases hfd : D.cons.find? (lacks (p :: l)) with
      | none => rw [hfd] at h; cases h
      | some k =>
        rw [hfd] at h
        injection h with h
        subst h
        have hkm := List.mem_of_find?_eq_some hfd
        have hkl := List.find?_some hfd
        obtain ⟨vs, h1, h2⟩ := good_con (g := f k.name) (fun i => good_inh (f k.name i) (hg.2 k.name i)) k.args.length
        refine ⟨.con k.name vs, ⟨D, k, vs, hD, hkm, rfl, h1, h2⟩, (matP_eq _ _).2 (.inr (.inr ⟨rfl, vs, rfl, by show matL (anysL k.args.length) vs; rw [← h1]; exact matL_anys vs⟩)), fun p' hp' hm => ?_⟩
        rcases (matP_eq _ _).1 hm with h4 | ⟨_, h4⟩ | ⟨_, vs', h4, _⟩
        · rw [hfr p' hp'] at h4; cases h4
        · cases h4
        · injection h4 with h4 h5
          simp only [lacks, Bool.not_eq_true', List.any_eq_false, decide_eq_true_eq] at hkl
          exact hkl p' hp' h4.symm
theorem missLoop_wit {rc : List (List Pat) → Nat → List Pat × Bool} {rows : List (List Pat)} {c : Nat} : ∀ ks, (missLoop rc rows c ks).2 = true → ∃ k ∈ ks, (rc (narrow k.name k.args.length rows) (k.args.length + c)).2 = true ∧
    (missLoop rc rows c ks).1 = .mk 3 k.name 0 ((rc (narrow k.name k.args.length rows) (k.args.length + c)).1.take k.args.length) :: (rc (narrow k.name k.args.length rows) (k.args.length + c)).1.drop k.args.length
  | [], h => by cases h
  | k :: ks, h => by
    simp only [missLoop] at h ⊢
    cases hb : (rc (narrow k.name k.args.length rows) (k.args.length + c)).2 with
    | false =>
      rw [hb] at h
      obtain ⟨k', h1, h2, h3⟩ := missLoop_wit ks h
      exact ⟨k', List.mem_cons_of_mem _ h1, h2, h3⟩
    | true => exact ⟨k, List.mem_cons_self .., hb, rfl⟩
/-- What is told as missing matches values that no row matches. -/
theorem miss_wit {t : Tab} {ds : List DataSig} (hok : TabOk t ds) : ∀ (f : Nat) (rows : List (List Pat)) (τs : List Ty), MissPre t f rows τs → (∀ τ ∈ τs, Good ds τ) → (missF t ds f rows τs.length).2 = true → New ds τs rows (missF t ds f rows τs.length).1
  | 0, rows, τs, h, _, _ => absurd h.fuel (Nat.not_lt_zero _)
  | f + 1, rows, [], h, _, hm => by
    have h0 : decide ((rows.length : Int) = 0) = true := hm
    rw [decide_eq_true_eq] at h0
    have : rows = [] := List.eq_nil_of_length_eq_zero (by omega)
    subst this
    exact ⟨[], trivial, rfl, fun r hr => by cases hr⟩
  | f + 1, rows, τ :: τs, h, hg, hm => by
    obtain ⟨hT, hl, hf⟩ := h
    rw [List.length_cons] at hf
    have hgτ := hg τ (List.mem_cons_self ..)
    have hgs : ∀ σ ∈ τs, Good ds σ := fun σ hσ => hg σ (List.mem_cons_of_mem _ hσ)
    rw [List.length_cons, missF] at hm ⊢
    cases hab : absentF t ds (first rows) with
    | some q =>
      rw [hab] at hm
      have hrw := rest_w rows
      have hrl : (rest rows).length ≤ rows.length := List.length_filterMap_le _ _
      obtain ⟨vs, hv, hv1, hr⟩ := miss_wit hok f (rest rows) τs ⟨hT.rest, by omega, by omega⟩ hgs hm
      obtain ⟨v, hv2, hv3, hv4⟩ := absent_wit hok hT hgτ hab
      exact ⟨v :: vs, ⟨hv2, hv⟩, matL_cons.2 ⟨hv3, hv1⟩, (rest_mat hT).1 ⟨hr, fun p tl hp hfp => .inl (hv4 p (List.mem_filterMap.2 ⟨_, hp, by simp [hfp]⟩))⟩⟩
    | none =>
      rw [hab] at hm
      obtain ⟨d, g, D, hF⟩ := absent_none hok hT hab
      obtain ⟨hτ, hD, hcons, hall⟩ := hF
      subst hτ
      simp only [hcons] at hm ⊢
      obtain ⟨k, hk, h1, h2⟩ := missLoop_wit _ hm
      rw [h2]
      obtain ⟨q1, tl1, hq1, hqf, hqn, hea, a1, hta⟩ := hall k hk
      have hw1 := narrow_w1 k.name k.args.length hqf hqn rows hq1
      have hln : (narrow k.name k.args.length rows).length ≤ rows.length := List.length_filterMap_le _ _
      have hal := argT_len (g k.name) k.args.length
      have ih := miss_wit hok f (narrow k.name k.args.length rows) (argT (g k.name) k.args.length ++ τs) ⟨hT.narrow hta, by omega, by rw [List.length_append, hal]; omega⟩ fun σ hσ => by
          rcases List.mem_append.1 hσ with hσ | hσ
          · obtain ⟨i, _, rfl⟩ := List.mem_map.1 hσ
            exact hgτ.2 _ _
          · exact hgs σ hσ
      rw [List.length_append, hal] at ih
      obtain ⟨ws, hw, hmw, hr⟩ := ih h1
      have hwl := hw.len
      rw [List.length_append, hal] at hwl
      have hsplit : ws = ws.take k.args.length ++ ws.drop k.args.length := (List.take_append_drop _ _).symm
      have htl : (ws.take k.args.length).length = k.args.length := by rw [List.length_take]; omega
      have hol := (missF_len t ds f (narrow k.name k.args.length rows) (k.args.length + τs.length)).2 h1
      generalize hout : (missF t ds f (narrow k.name k.args.length rows) (k.args.length + τs.length)).1 = out at *
      have hosplit : out = out.take k.args.length ++ out.drop k.args.length := (List.take_append_drop _ _).symm
      rw [hsplit] at hw hr hmw
      rw [hosplit] at hmw
      rw [matL_append (by rw [List.length_take, htl]; omega)] at hmw
      rw [fitsL_append (by rw [argT_len, htl])] at hw
      rw [narrow_mat hT hta htl] at hr
      exact ⟨.con k.name (ws.take k.args.length) :: ws.drop k.args.length, ⟨⟨D, k, _, hD, hk, rfl, htl, (fitsL_args htl).1 hw.1⟩, hw.2⟩, matL_cons.2 ⟨(matP_eq _ _).2 (.inr (.inr ⟨rfl, _, rfl, hmw.1⟩)), hmw.2⟩, hr⟩
def allR (rows : List (List Pat)) (c : Int) : List (List Pat) := rows ++ [anysL c.toNat]
def lateR (ds : List DataSig) (rows : List (List Pat)) (c : Int) : List (List Pat) := rows ++ [(missOut ds rows c).1]
def moreF (ds : List DataSig) (rows : List (List Pat)) (c : Int) : Bool :=
  if (missOut ds rows c).2 ≠ 0 ∨ c = 0 then decide ((missOut ds rows c).1.length = 0)
  else if 60 ≤ rows.length then true
  else if (missOut ds (allR rows c) c).2 = 2 then true
  else if (0 < (missOut ds rows c).1.length ∧ 0 < rows.length) ∧ (redOut ds (lateR ds rows c)).2 = 0 ∧ rows.length ∈ (redOut ds (lateR ds rows c)).1 then false
  else decide ((missOut ds (allR rows c) c).2 = 0) && decide ((missOut ds (allR rows c) c).1.length = 0)
theorem nf_any (l : List Pat) : (l ++ [anyP]).filter nf = l.filter nf := by
  rw [List.filter_append]
  simp [nf, free, anyP, Pat.kind]
theorem agreeF_any (t : Tab) : ∀ (f : Nat) (l : List Pat), agreeF t f (l ++ [anyP]) = agreeF t f l
  | 0, l => rfl
  | f + 1, l => by rw [agreeF, agreeF, nf_any]
theorem patsF_anys (t : Tab) (n : Nat) : patsF t (anysL n) = 0 := patsF_iff.2 fun q hq => by
  rw [List.eq_of_mem_replicate hq, anyP, patF]
  simp
theorem check_all {ds : List DataSig} {rows : List (List Pat)} {c : Int} (h : checkF ds rows = 0) (hnb : ¬ missBad rows c) (hs : small ds (allR rows c) = true) : checkF ds (allR rows c) = 0 ∧ ¬ missBad (allR rows c) c := by
  obtain ⟨t, hb⟩ := check_build h
  obtain ⟨hsm, ha, he, hc⟩ := check_parts h hb
  have hlen := row_len h hnb
  have h0 : 0 ≤ c := by
    rcases Decidable.em (c < 0) with h1 | h1
    · exact absurd (.inl h1) hnb
    · omega
  have hall : ∀ r ∈ allR rows c, (r.length : Int) = c := fun r hr => by
    rcases List.mem_append.1 hr with hr | hr
    · exact hlen r hr
    · rw [List.mem_singleton] at hr
      subst hr
      simp
      omega
  have hw : (width (allR rows c) : Int) = c := by
    unfold width allR
    cases hrows : rows with
    | nil => simp; omega
    | cons r rs => simpa using hlen r (by rw [hrows]; exact List.mem_cons_self ..)
  refine ⟨checkF_zero (t := t) hs hb ?_ ?_ ?_, ?_⟩
  · rw [List.all_eq_true]
    intro r hr
    unfold sameLen
    rw [decide_eq_true_eq]
    have := hall r hr
    omega
  · rw [errRows_iff]
    intro r hr
    rcases List.mem_append.1 hr with hr | hr
    · exact errRows_iff.1 he r hr
    · rw [List.mem_singleton] at hr
      subst hr
      exact patsF_anys t _
  · refine colsLoop_of _ _ fun i _ hi => ?_
    rw [Nat.zero_add] at hi
    have hcol : colF (allR rows c) i = colF rows i ++ [anyP] := by
      unfold colF allR
      rw [List.map_append, List.map_singleton, List.getD_eq_getElem?_getD]
      have : (anysL c.toNat)[i]? = some anyP := by rw [List.getElem?_replicate, if_pos (by omega)]
      rw [this]
      rfl
    rw [hcol, agreeF_any]
    cases hrows : rows with
    | nil => rfl
    | cons r rs =>
      rw [← hrows]
      refine colsLoop_all _ _ hc i (Nat.zero_le _) ?_
      have : (width rows : Int) = c := by rw [hrows]; exact hlen r (by rw [hrows]; exact List.mem_cons_self ..)
      omega
  · rintro (h1 | h1 | ⟨h1, h3⟩)
    · omega
    · exact hnb (.inr (.inl h1))
    · exact h3 hw.symm
theorem small_err {ds : List DataSig} {rows : List (List Pat)} {c : Int} (h : (missOut ds rows c).2 ≠ 2) : small ds rows = true := by
  cases hs : small ds rows with
  | true => rfl
  | false =>
    have : checkF ds rows = 2 := by rw [checkF, hs]; rfl
    rw [missOut_err (by rw [this]; decide), this] at h
    exact absurd rfl h
theorem more_law (ds : List DataSig) (hz : Sized ds) (rows : List (List Pat)) (c : Int) : moreF ds rows c = true := by
  unfold moreF
  by_cases h0 : (missOut ds rows c).2 ≠ 0 ∨ c = 0
  · rw [if_pos h0, decide_eq_true_eq]
    rcases h0 with h | h
    · rw [missOut_none h]; rfl
    · rw [h, missOut_zero]; rfl
  rw [if_neg h0]
  have h1 : (missOut ds rows c).2 = 0 := Decidable.not_not.1 fun h => h0 (.inl h)
  have hc0 : c ≠ 0 := fun h => h0 (.inr h)
  by_cases h60 : 60 ≤ rows.length
  · rw [if_pos h60]
  rw [if_neg h60]
  by_cases h2 : (missOut ds (allR rows c) c).2 = 2
  · rw [if_pos h2]
  rw [if_neg h2]
  obtain ⟨hck, hnb⟩ := miss_zero h1
  obtain ⟨t, hb⟩ := check_build hck
  have hok := tabOk_of hb (check_parts hck hb).1 hz
  have hcp : 1 ≤ c := by
    rcases Decidable.em (c < 0) with h | h
    · exact absurd (.inl h) hnb
    · omega
  have hno : ¬ ((0 < (missOut ds rows c).1.length ∧ 0 < rows.length) ∧ (redOut ds (lateR ds rows c)).2 = 0 ∧ rows.length ∈ (redOut ds (lateR ds rows c)).1) := by
    rintro ⟨⟨hl, hr⟩, h3, h4⟩
    have hck3 := redOut_zero h3
    rw [redOut_ok hck3 hb] at h4
    have h5 := (List.mem_filter.1 h4).2
    have hne : lateR ds rows c ≠ [] := by simp [lateR]
    have hnb3 := nbad_width hck3 hne
    have hw : (width (lateR ds rows c) : Int) = c := by
      cases hrows : rows with
      | nil => rw [hrows] at hr; cases hr
      | cons r rs =>
        have := row_len hck hnb r (by rw [hrows]; exact List.mem_cons_self ..)
        simpa [lateR, width] using this
    rw [hw] at hnb3
    obtain ⟨τs, hτ, hT⟩ := typed_of hck3 hb hnb3
    have hsub : rows.Sublist (lateR ds rows c) := List.sublist_append_left ..
    have hT2 := typed_sub hsub hT
    have hout : (missOut ds rows c).1 = (missF t ds fuel0 rows τs.length).1 ∧ (missF t ds fuel0 rows τs.length).2 = true := by
      rw [missOut_ok hck hnb hb, show c.toNat = τs.length by omega] at hl ⊢
      cases hm : (missF t ds fuel0 rows τs.length).2 with
      | true => exact ⟨rfl, rfl⟩
      | false => rw [hm] at hl; simp at hl
    have hnew := miss_wit hok fuel0 rows τs hT2.pre hT2.good hout.2
    rw [← hout.1] at hnew
    have hget : (lateR ds rows c)[rows.length]? = some (missOut ds rows c).1 := by simp [lateR]
    have htake : (lateR ds rows c).take rows.length = rows := by simp [lateR]
    have hu := useful_of hok fuel0 _ _ _ (usePre_of hT hget) (by rw [htake]; exact hnew)
    rw [List.getD_eq_getElem?_getD, hget, Option.getD_some, hu] at h5
    cases h5
  rw [if_neg hno]
  obtain ⟨hck2, hnb2⟩ := check_all hck hnb (small_err h2)
  obtain ⟨τs, hτ, hT⟩ := typed_of hck2 hb hnb2
  have hok2 := tabOk_of hb (check_parts hck2 hb).1 hz
  have e := missOut_lacks hok2 hck2 hnb2 hb hτ hT hcp
  rw [e.1]
  have hz : ¬ 0 < (missOut ds (allR rows c) c).1.length := fun h => by
    obtain ⟨vs, hv, hr⟩ := e.2.1 h
    refine hr (anysL c.toNat) (List.mem_append_right _ (List.mem_singleton.2 rfl)) ?_
    rw [show c.toNat = vs.length by have := hv.len; omega]
    exact matL_anys vs
  have : (missOut ds (allR rows c) c).1.length = 0 := by omega
  rw [this]
  rfl
end Go.PM
