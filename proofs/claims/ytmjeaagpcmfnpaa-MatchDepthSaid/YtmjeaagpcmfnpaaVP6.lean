/- Patterns, the plain law: what it means that a row is useful. -/
import Derived.Test.YtmjeaagpcmfnpaaVP5
set_option linter.unusedVariables false
namespace Go.PM
open Go.VL
structure UsePre (t : Tab) (f : Nat) (rows : List (List Pat)) (row : List Pat) (τs : List Ty) : Prop where
  ty : rowsT t τs rows
  rowTy : rowT t τs row
  len : rows.length ≤ 1000
  fuel : τs.length + 401 * (wR rows + wL row) < f
theorem left_len (n : Int) (rows : List (List Pat)) : (leftF n rows).length ≤ rows.length := List.length_filterMap_le _ _
theorem con_ty {t : Tab} {τ : Ty} {p : Pat} (h : wt t τ p) (hk : p.kind = 3) : ∃ d f a, τ = .dat d f ∧ tget t p.name = some (d, a, p.args.length) ∧ p.args.length ≤ 400 ∧ free p = false := by
  have hf : free p = false := by simp [free, hk]
  cases τ with
  | any => rw [show wt t .any p = (free p = true) from rfl, hf] at h; cases h
  | int =>
    rcases h with h | h
    · rw [hf] at h; cases h
    · rw [hk] at h; cases h
  | dat d f =>
    rcases h with h | ⟨_, ⟨a, h1⟩, h2, _⟩
    · rw [hf] at h; cases h
    · exact ⟨d, f, a, rfl, h1, h2, hf⟩
theorem int_ty {t : Tab} {τ : Ty} {p q : Pat} (h : wt t τ p) (hk : p.kind = 2) (hq : wt t τ q) (hf : free q = false) : q.kind = 2 := by
  have hfp : free p = false := by simp [free, hk]
  cases τ with
  | any => rw [show wt t .any p = (free p = true) from rfl, hfp] at h; cases h
  | int =>
    rcases hq with h | h
    · rw [hf] at h; cases h
    · exact h
  | dat d f =>
    rcases h with h | ⟨h, _⟩
    · rw [hfp] at h; cases h
    · rw [hk] at h; cases h
theorem wt_kind {t : Tab} {τ : Ty} {p : Pat} (h : wt t τ p) (h3 : p.kind ≠ 3) (h2 : p.kind ≠ 2) : free p = true := by
  cases τ with
  | any => exact h
  | int => exact h.elim id fun h => absurd h h2
  | dat d f => exact h.elim id fun h => absurd h.1 h3
/-- Some values that fit are matched by the row, and by no row ahead of it. -/
def New (ds : List DataSig) (τs : List Ty) (rows : List (List Pat)) (row : List Pat) : Prop := ∃ vs, fitsL ds τs vs ∧ matL row vs ∧ ∀ r ∈ rows, ¬ matL r vs
theorem usefulLoop_mem {rc : List (List Pat) → List Pat → Bool} {rows : List (List Pat)} {row : List Pat} : ∀ {ks : List ConSig} {k : ConSig}, k ∈ ks → rc (narrow k.name k.args.length rows) (anysL k.args.length ++ row) = true → usefulLoop rc rows row ks = true
  | k' :: ks, k, hk, h => by
    rw [usefulLoop]
    rcases List.mem_cons.1 hk with rfl | hk
    · rw [h, Bool.true_or]
    · rw [usefulLoop_mem hk h, Bool.or_true]
theorem useful_of {t : Tab} {ds : List DataSig} (hok : TabOk t ds) : ∀ (f : Nat) (rows : List (List Pat)) (row : List Pat) (τs : List Ty), UsePre t f rows row τs → New ds τs rows row → usefulF t ds f rows row = true
  | 0, rows, row, τs, h, _ => absurd h.fuel (Nat.not_lt_zero _)
  | f + 1, rows, [], τs, h, hn => by
    obtain ⟨vs, hv, hm, hr⟩ := hn
    show decide ((rows.length : Int) = 0) = true
    rw [decide_eq_true_eq]
    have hτ := h.rowTy.len
    cases rows with
    | nil => rfl
    | cons r rs =>
      have hrl := (h.ty r (List.mem_cons_self ..)).len
      rw [← hτ] at hrl
      obtain rfl := List.eq_nil_of_length_eq_zero hrl
      exact absurd hm (hr [] (List.mem_cons_self ..))
  | f + 1, rows, p :: row, [], h, hn => h.rowTy.elim
  | f + 1, rows, p :: row, τ :: σs, h, hn => by
    obtain ⟨hT, ⟨hp, hrow⟩, hl, hf⟩ := h
    obtain ⟨vs, hv, hm, hr⟩ := hn
    simp only [List.length_cons, wL] at hf
    cases vs with
    | nil => exact hv.elim
    | cons v ws =>
      obtain ⟨hv1, hv2⟩ := hv
      obtain ⟨hm1, hm2⟩ := matL_cons.1 hm
      by_cases h3 : p.kind = 3
      · obtain ⟨d, fT, a, rfl, hta, hpa, hfp⟩ := con_ty hp h3
        have hwp := wP_con hfp
        have hnw := narrow_w p.name p.args.length rows
        have hnl : (narrow p.name p.args.length rows).length ≤ rows.length := List.length_filterMap_le _ _
        have hal := argT_len (fT p.name) p.args.length
        rw [usefulF, if_pos h3]
        rcases (matP_eq _ _).1 hm1 with h4 | ⟨h4, _⟩ | ⟨_, as, rfl, h5⟩
        · rw [hfp] at h4; cases h4
        · rw [h3] at h4; cases h4
        · have hlen := matL_len h5
          obtain ⟨D, k, as', hD, hk, he, hlk, hfit⟩ := hv1
          injection he with he1 he2
          subst he2
          refine useful_of hok f _ _ _ ⟨hT.narrow hta, (rowT.args hp hfp).append hrow, by omega, by rw [List.length_append, hal, wL_append]; omega⟩ ⟨as ++ ws, ?_, ?_, ?_⟩
          · rw [fitsL_append (by rw [hal, hlen])]
            rw [← he1] at hfit
            exact ⟨(fitsL_args hlen.symm).2 hfit, hv2⟩
          · rw [matL_append hlen]
            exact ⟨h5, hm2⟩
          · rw [narrow_mat hT hta hlen.symm]
            exact hr
      by_cases h2 : p.kind = 2
      · rw [usefulF, if_neg h3, if_pos h2]
        have hfp : free p = false := by simp [free, h2]
        have hlw := left_w p.n rows
        have hll := left_len p.n rows
        refine useful_of hok f _ _ _ ⟨hT.left (n := p.n), hrow, by omega, by omega⟩ ⟨ws, hv2, hm2, fun r hrm hmat => ?_⟩
        obtain ⟨z, hz, hzr⟩ := List.mem_filterMap.1 hrm
        cases z with
        | nil => cases hzr
        | cons q tl =>
          simp only at hzr
          by_cases hq : (free q || decide (q.n = p.n)) = true
          · rw [if_pos hq] at hzr
            injection hzr with hzr
            subst hzr
            refine hr _ hz (matL_cons.2 ⟨?_, hmat⟩)
            cases hfq : free q with
            | true => exact matP_free hfq _
            | false =>
              rw [hfq, Bool.false_or, decide_eq_true_eq] at hq
              rcases (matP_eq _ _).1 hm1 with h4 | ⟨_, h4⟩ | ⟨h4, _⟩
              · rw [hfp] at h4; cases h4
              · exact (matP_eq _ _).2 (.inr (.inl ⟨int_ty hp h2 (hT _ hz).1 hfq, by rw [h4, hq]⟩))
              · exact absurd h4 h3
          · rw [if_neg hq] at hzr
            cases hzr
      · rw [usefulF, if_neg h3, if_neg h2]
        have hfp := wt_kind hp h3 h2
        cases hab : absentF t ds (first rows) with
        | some q =>
          have hrw := rest_w rows
          have hrl : (rest rows).length ≤ rows.length := List.length_filterMap_le _ _
          exact useful_of hok f _ _ _ ⟨hT.rest, hrow, by omega, by omega⟩ ⟨ws, hv2, hm2, ((rest_mat hT).2 hr).1⟩
        | none =>
          obtain ⟨d, g, D, hF⟩ := absent_none hok hT hab
          obtain ⟨hτ, hD, hcons, hall⟩ := hF
          subst hτ
          show usefulLoop (usefulF t ds f) rows row (consAt t ds ((first rows).headD anyP).name) = true
          rw [hcons]
          obtain ⟨D', k, as, hD', hk, rfl, hlen, hfit⟩ := hv1
          rw [hD] at hD'
          injection hD' with hD'
          subst hD'
          obtain ⟨q1, tl1, hq1, hqf, hqn, hea, a1, hta⟩ := hall k hk
          have hw1 := narrow_w1 k.name k.args.length hqf hqn rows hq1
          have hln : (narrow k.name k.args.length rows).length ≤ rows.length := List.length_filterMap_le _ _
          have hal := argT_len (g k.name) k.args.length
          have hany := rowT.anys (t := t) (argT (g k.name) k.args.length)
          rw [hal] at hany
          refine usefulLoop_mem hk (useful_of hok f _ _ _ ⟨hT.narrow hta, hany.append hrow, by omega, by rw [List.length_append, hal, wL_append, wL_anys]; omega⟩ ⟨as ++ ws, ?_, ?_, ?_⟩)
          · rw [fitsL_append (by rw [hal, hlen])]
            exact ⟨(fitsL_args hlen).2 hfit, hv2⟩
          · rw [matL_append (by simp [hlen])]
            exact ⟨by rw [← hlen]; exact matL_anys as, hm2⟩
          · rw [narrow_mat hT hta hlen]
            exact hr

/-! ### Fewer rows pass the check too -/
theorem agreeArgs_of {rc : List Pat → Bool} {m : List Pat} {name : Str} : ∀ (k n : Nat), (∀ i, n ≤ i → i < n + k → rc (belowF m name i) = true) → agreeArgs rc m name n k = true
  | 0, n, _ => rfl
  | k + 1, n, h => by
    rw [agreeArgs, h n (Nat.le_refl _) (by omega), Bool.true_and]
    exact agreeArgs_of k (n + 1) fun i h1 h2 => h i (by omega) (by omega)
theorem agreeLoop_of {rc : List Pat → Bool} {m : List Pat} : ∀ (ps seen : List Pat), (∀ p ∈ ps, p.kind = 3 → ∀ n, n < p.args.length → rc (belowF m p.name n) = true) → agreeLoop rc m seen ps = true
  | [], seen, _ => rfl
  | p :: ps, seen, h => by
    rw [agreeLoop, agreeLoop_of ps (seen ++ [p]) fun q hq => h q (List.mem_cons_of_mem _ hq), Bool.and_true]
    by_cases hk : p.kind = 3
    · rw [agreeArgs_of _ 0 fun i _ hi => h p (List.mem_cons_self ..) hk i (by omega), Bool.or_true]
    · simp [hk]
theorem agree_sub {t : Tab} : ∀ (f : Nat) (l l' : List Pat), AgreePre t f l → agreeF t f l = true → (∀ x ∈ l', x ∈ l) → agreeF t f l' = true
  | 0, l, l', h, _, _ => absurd h.fuel (Nat.not_lt_zero _)
  | f + 1, l, l', hp, h, hs => by
    rw [agreeF, Bool.and_eq_true] at h
    obtain ⟨hk, ha⟩ := h
    have hok : ∀ p ∈ l.filter nf, patF t p = 0 := fun p hp' => hp.ok p (nf_mem hp').1
    have hnf : ∀ p ∈ l.filter nf, free p = false := fun p hp' => (nf_mem hp').2
    have hm : ∀ x ∈ l'.filter nf, x ∈ l.filter nf := fun x hx => by
      obtain ⟨h1, h2⟩ := List.mem_filter.1 hx
      exact List.mem_filter.2 ⟨hs x h1, h2⟩
    have hkind : ∀ p ∈ l.filter nf, kindF t p = kindF t ((l.filter nf).headD anyP) := fun p hpm => by
      have := List.all_eq_true.1 hk p hpm
      simpa using this
    have hargs : ∀ p ∈ l.filter nf, ∀ q ∈ l.filter nf, p.kind = 3 → q.name = p.name → q.kind = 3 ∧ q.args.length = p.args.length := fun p hpm q hqm hk3 hn => by
      have := same_args hk hok hnf hpm hqm hk3 hn
      exact ⟨this.1, this.2.1⟩
    have hall := agreeLoop_all hargs _ [] rfl ha fun p hp => by cases hp
    rw [agreeF, Bool.and_eq_true]
    refine ⟨List.all_eq_true.2 fun p hpm => ?_, agreeLoop_of _ _ fun p hpm hk3 n hn => ?_⟩
    · rw [decide_eq_true_eq, hkind p (hm p hpm)]
      cases hl : l'.filter nf with
      | nil => rw [hl] at hpm; cases hpm
      | cons q qs => exact (hkind q (hm q (by rw [hl]; exact List.mem_cons_self ..))).symm
    · refine agree_sub f _ _ (hp.below rfl hk (hm p hpm) hk3 hn) (hall p (hm p hpm) hk3 n hn) fun x hx => ?_
      obtain ⟨q, hq, hqx⟩ := List.mem_filterMap.1 hx
      exact List.mem_filterMap.2 ⟨q, hm q hq, hqx⟩
theorem cR_sub : ∀ {a b : List (List Pat)}, a.Sublist b → cR a ≤ cR b
  | _, _, .slnil => Nat.le_refl _
  | _, _, .cons r h => by
    have := cR_sub h
    rw [cR]
    omega
  | _, _, @List.Sublist.cons_cons _ _ _ r h => by
    have := cR_sub h
    rw [cR, cR]
    omega
theorem wR_sub : ∀ {a b : List (List Pat)}, a.Sublist b → wR a ≤ wR b
  | _, _, .slnil => Nat.le_refl _
  | _, _, .cons r h => by
    have := wR_sub h
    rw [wR]
    omega
  | _, _, @List.Sublist.cons_cons _ _ _ r h => by
    have := wR_sub h
    rw [wR, wR]
    omega
theorem check_sub {ds : List DataSig} {rows less : List (List Pat)} {c : Int} (hs : less.Sublist rows) (h : checkF ds rows = 0) (hnb : ¬ missBad rows c) : checkF ds less = 0 ∧ ¬ missBad less c := by
  obtain ⟨t, hb⟩ := check_build h
  obtain ⟨hsm, ha, he, hc⟩ := check_parts h hb
  have hlen := row_len h hnb
  have hmem : ∀ r ∈ less, r ∈ rows := fun r hr => hs.subset hr
  have hwl : less ≠ [] → (width less : Int) = c ∧ width less = width rows := fun hne => by
    cases hl : less with
    | nil => exact absurd hl hne
    | cons r rs =>
      have hr : r ∈ rows := hmem r (by rw [hl]; exact List.mem_cons_self ..)
      exact ⟨hlen r hr, same_all ha r hr⟩
  have hwc : ∀ r ∈ less, r.length = width less := fun r hr => by
    have h1 := hlen r (hmem r hr)
    have h2 := (hwl fun e => by rw [e] at hr; cases hr).1
    omega
  refine ⟨checkF_zero (t := t) ?_ hb ?_ ?_ ?_, ?_⟩
  · have h1 := small_iff.1 (small_true h)
    have h2 := cR_sub hs
    have h3 := hs.length_le
    exact small_iff.2 ⟨⟨fun r hr => h1.1.1 r (hmem r hr), by omega⟩, by omega, h1.2.2⟩
  · rw [List.all_eq_true]
    intro r hr
    unfold sameLen
    rw [decide_eq_true_eq]
    exact hwc r hr
  · rw [errRows_iff]
    exact fun r hr => errRows_iff.1 he r (hmem r hr)
  · refine colsLoop_of _ _ fun i _ hi => ?_
    rw [Nat.zero_add] at hi
    have hne : less ≠ [] := fun e => by rw [e] at hi; cases hi
    have hner : rows ≠ [] := fun e => by
      rw [e] at hs
      exact hne (List.sublist_nil.1 hs)
    have hw := (hwl hne).2
    refine agree_sub 401 (colF rows i) (colF less i) (agreePre_col hsm ha he hner (by omega)) (colsLoop_all _ _ hc i (Nat.zero_le _) (by omega)) fun x hx => ?_
    obtain ⟨r, hr, hrx⟩ := List.mem_map.1 hx
    exact List.mem_map.2 ⟨r, hmem r hr, hrx⟩
  · rintro (h1 | h1 | ⟨h1, h3⟩)
    · exact hnb (.inl h1)
    · exact hnb (.inr (.inl h1))
    · exact h3 (hwl h1).1.symm
theorem typed_sub {ds : List DataSig} {rows less : List (List Pat)} {t : Tab} {τs : List Ty} (hs : less.Sublist rows) (h : Typed ds t rows τs) : Typed ds t less τs := by
  refine ⟨h.good, ⟨fun r hr => h.pre.ty r (hs.subset hr), ?_, ?_⟩⟩
  · have := hs.length_le
    have := h.pre.len
    omega
  · have := wR_sub hs
    have := h.pre.fuel
    omega

/-! ### Redundant rows -/
def redTo (t : Tab) (ds : List DataSig) (rows : List (List Pat)) (k : Nat) : List Nat := (List.range k).filter fun i => !usefulF t ds fuel0 (rows.take i) (rows.getD i [])
def redOut (ds : List DataSig) (rows : List (List Pat)) : List Nat × Int :=
  if checkF ds rows = 0 then (match buildF 0 ds [] with | some t => (redTo t ds rows rows.length, 0) | none => ([], 0)) else ([], checkF ds rows)
theorem redTo_snoc (t : Tab) (ds : List DataSig) (rows : List (List Pat)) (k : Nat) : redTo t ds rows (k + 1) = redTo t ds rows k ++ (bif usefulF t ds fuel0 (rows.take k) (rows.getD k []) then [] else [k]) := by
  unfold redTo
  rw [List.range_succ, List.filter_append]
  rw [List.filter_cons, List.filter_nil]
  cases usefulF t ds fuel0 (rows.take k) (rows.getD k []) <;> rfl
theorem redTo_len (t : Tab) (ds : List DataSig) (rows : List (List Pat)) (k : Nat) : (redTo t ds rows k).length ≤ k := by
  have h : (redTo t ds rows k).length ≤ (List.range k).length := List.length_filter_le _ _
  rwa [List.length_range] at h
theorem redOut_err {ds : List DataSig} {rows : List (List Pat)} (h : checkF ds rows ≠ 0) : redOut ds rows = ([], checkF ds rows) := by rw [redOut, if_neg h]
theorem redOut_ok {ds : List DataSig} {rows : List (List Pat)} {t : Tab} (h : checkF ds rows = 0) (ht : buildF 0 ds [] = some t) : redOut ds rows = (redTo t ds rows rows.length, 0) := by rw [redOut, if_pos h, ht]
theorem usePre_of {ds : List DataSig} {t : Tab} {rows : List (List Pat)} {τs : List Ty} {k : Nat} {r : List Pat} (h : Typed ds t rows τs) (hr : rows[k]? = some r) : UsePre t fuel0 (rows.take k) r τs := by
  refine ⟨fun r' hr' => h.pre.ty r' (List.mem_of_mem_take hr'), h.pre.ty r (List.mem_of_getElem? hr), ?_, ?_⟩
  · have := h.pre.len
    rw [List.length_take]
    omega
  · have h1 := h.pre.fuel
    have h2 : wR (rows.take k) + wL r ≤ wR rows := by
      clear h h1
      induction rows generalizing k with
      | nil => simp at hr
      | cons x xs ih =>
        cases k with
        | zero =>
          simp at hr
          subst hr
          simp [wR]
        | succ k =>
          have := ih (k := k) (by simpa using hr)
          simp only [List.take_succ_cons, wR]
          omega
    omega
/-- Without a redundant row, the same is missing. -/
theorem lacks_drop {ds : List DataSig} {t : Tab} {rows : List (List Pat)} {τs : List Ty} {k : Nat} (hok : TabOk t ds) (h : Typed ds t rows τs) (hk : k ∈ redTo t ds rows rows.length) : Lacks ds τs rows ↔ Lacks ds τs (rows.take k ++ rows.drop (k + 1)) := by
  obtain ⟨h1, h2⟩ := List.mem_filter.1 hk
  have hlt : k < rows.length := List.mem_range.1 h1
  have hr : rows[k]? = some rows[k] := List.getElem?_eq_getElem hlt
  have hsplit : rows = rows.take k ++ rows[k] :: rows.drop (k + 1) := by
    rw [← List.drop_eq_getElem_cons hlt, List.take_append_drop]
  have hu : usefulF t ds fuel0 (rows.take k) rows[k] = false := by
    rw [List.getD_eq_getElem?_getD, hr] at h2
    simpa using h2
  constructor
  · rintro ⟨vs, hv, hm⟩
    refine ⟨vs, hv, fun r hrm => hm r ?_⟩
    rw [hsplit]
    rcases List.mem_append.1 hrm with h3 | h3
    · exact List.mem_append_left _ h3
    · exact List.mem_append_right _ (List.mem_cons_of_mem _ h3)
  · rintro ⟨vs, hv, hm⟩
    refine ⟨vs, hv, fun r hrm => ?_⟩
    rw [hsplit] at hrm
    rcases List.mem_append.1 hrm with h3 | h3
    · exact hm r (List.mem_append_left _ h3)
    rcases List.mem_cons.1 h3 with rfl | h3
    · intro hmat
      have := useful_of hok fuel0 _ _ _ (usePre_of h hr) ⟨vs, hv, hmat, fun r hr' => hm r (List.mem_append_left _ hr')⟩
      rw [hu] at this
      cases this
    · exact hm r (List.mem_append_right _ h3)
end Go.PM
