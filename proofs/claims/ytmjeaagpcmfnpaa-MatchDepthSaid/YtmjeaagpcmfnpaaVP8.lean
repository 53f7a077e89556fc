/- Patterns, the plain law: PatternsNames. -/
import Derived.Test.YtmjeaagpcmfnpaaVP7
set_option linter.unusedVariables false
namespace Go.PM
open Go.VL
mutual
/-- A pattern with PatAny in place of PatVar. -/
def plainP : Pat → Pat
  | .mk k s n as => if k = 1 then .mk 0 [] 0 [] else .mk k s n (plainL as)
def plainL : List Pat → List Pat
  | [] => []
  | p :: l => plainP p :: plainL l
end
theorem plainL_map : ∀ l : List Pat, plainL l = l.map plainP
  | [] => rfl
  | p :: l => by rw [plainL, plainL_map l]; rfl
theorem plainP_eq (p : Pat) : plainP p = if p.kind = 1 then .mk 0 [] 0 [] else .mk p.kind p.name p.n (plainL p.args) := by
  obtain ⟨k, s, n, as⟩ := p
  rw [plainP]
  rfl
theorem plain_free (p : Pat) : free (plainP p) = free p := by
  rw [plainP_eq]
  by_cases h : p.kind = 1
  · rw [if_pos h]
    have e : free p = true := by simp [free, h]
    rw [e]
    rfl
  · rw [if_neg h]; rfl
theorem nf_kind {p : Pat} (h : free p = false) : p.kind ≠ 1 ∧ p.kind ≠ 0 := by
  constructor <;> (intro e; simp [free, e] at h)
theorem plain_nf {p : Pat} (h : free p = false) : plainP p = .mk p.kind p.name p.n (plainL p.args) := by
  rw [plainP_eq, if_neg (nf_kind h).1]
theorem plain_len (l : List Pat) : (plainL l).length = l.length := by rw [plainL_map, List.length_map]
theorem plain_append (a b : List Pat) : plainL (a ++ b) = plainL a ++ plainL b := by simp [plainL_map]
theorem plain_anys (n : Nat) : plainL (anysL n) = anysL n := by
  rw [plainL_map, List.map_replicate]
  rfl
abbrev bare (rows : List (List Pat)) : List (List Pat) := rows.map plainL
theorem bare_first : ∀ rows, first (bare rows) = (first rows).map plainP
  | [] => rfl
  | [] :: rows => by
    have ih := bare_first rows
    simpa [first, bare, plainL] using ih
  | (p :: tl) :: rows => by
    have ih := bare_first rows
    unfold first bare at ih ⊢
    simp only [List.map_cons, List.filterMap_cons, plainL, plain_free]
    cases hf : free p with
    | true => simpa using ih
    | false => simpa using ih
theorem bare_rest : ∀ rows, rest (bare rows) = bare (rest rows)
  | [] => rfl
  | [] :: rows => by
    have ih := bare_rest rows
    simpa [rest, bare, plainL] using ih
  | (p :: tl) :: rows => by
    have ih := bare_rest rows
    unfold rest bare at ih ⊢
    simp only [List.map_cons, List.filterMap_cons, plainL, plain_free]
    cases hf : free p with
    | true => simpa using ih
    | false => simpa using ih
theorem bare_narrow (name : Str) (n : Nat) : ∀ rows, narrow name n (bare rows) = bare (narrow name n rows)
  | [] => rfl
  | [] :: rows => by
    have ih := bare_narrow name n rows
    simpa [narrow, bare, plainL] using ih
  | (p :: tl) :: rows => by
    have ih := bare_narrow name n rows
    cases hf : free p with
    | true =>
      rw [show bare ((p :: tl) :: rows) = (plainP p :: plainL tl) :: bare rows from rfl, narrow_any (by rw [plain_free, hf]), narrow_any hf, ih]
      simp only [bare, List.map_cons, plain_append, plain_anys]
    | false =>
      rw [show bare ((p :: tl) :: rows) = (plainP p :: plainL tl) :: bare rows from rfl]
      have hf2 : free (plainP p) = false := by rw [plain_free, hf]
      have hn : (plainP p).name = p.name := by rw [plain_nf hf]; rfl
      have ha : (plainP p).args = plainL p.args := by rw [plain_nf hf]; rfl
      by_cases h : p.name = name
      · rw [narrow_hit hf2 (by rw [hn, h]), narrow_hit hf h, ih, ha]
        simp only [bare, List.map_cons, plain_append]
      · rw [narrow_off hf2 (by rw [hn]; exact h), narrow_off hf h, ih]
theorem bare_left (n : Int) : ∀ rows, leftF n (bare rows) = bare (leftF n rows)
  | [] => rfl
  | [] :: rows => by
    have ih := bare_left n rows
    simpa [leftF, bare, plainL] using ih
  | (p :: tl) :: rows => by
    have ih := bare_left n rows
    rw [show bare ((p :: tl) :: rows) = (plainP p :: plainL tl) :: bare rows from rfl]
    have he : (free (plainP p) || decide ((plainP p).n = n)) = (free p || decide (p.n = n)) := by
      rw [plain_free]
      cases hf : free p with
      | true => rfl
      | false => rw [plain_nf hf]; rfl
    by_cases h : (free p || decide (p.n = n)) = true
    · rw [left_t (by rw [he]; exact h), left_t h, ih]; rfl
    · rw [left_f (by rw [he]; simpa using h), left_f (by simpa using h), ih]
theorem first_nf {rows : List (List Pat)} {p : Pat} (h : p ∈ first rows) : free p = false := by
  obtain ⟨_, _, h⟩ := first_mem h
  exact h
theorem any_plain {l : List Pat} (h : ∀ p ∈ l, free p = false) (f : Str → Int → Bool) : ((l.map plainP).any fun p => f p.name p.n) = l.any fun p => f p.name p.n := by
  induction l with
  | nil => rfl
  | cons p l ih =>
    rw [List.map_cons, List.any_cons, List.any_cons, ih fun q hq => h q (List.mem_cons_of_mem _ hq), plain_nf (h p (List.mem_cons_self ..))]
    rfl
theorem fresh_plain {l : List Pat} (h : ∀ p ∈ l, free p = false) : ∀ (k : Nat) (n : Int), countGE l n < k → fresh (l.map plainP) n = fresh l n
  | 0, n, hk => absurd hk (Nat.not_lt_zero _)
  | k + 1, n, hk => by
    have e := any_plain h fun _ m => decide (m = n)
    cases ha : (l.any fun p => decide (p.n = n)) with
    | false =>
      rw [ha] at e
      rw [fresh_no ha, fresh_no e]
    | true =>
      rw [ha] at e
      rw [fresh_yes ha, fresh_yes e]
      have := countGE_lt ha
      exact fresh_plain h k (n + 1) (by omega)
theorem absent_plain {t : Tab} {ds : List DataSig} {l : List Pat} (h : ∀ p ∈ l, free p = false) : absentF t ds (l.map plainP) = absentF t ds l := by
  cases l with
  | nil => rfl
  | cons p l =>
    have hp := plain_nf (h p (List.mem_cons_self ..))
    rw [List.map_cons, absentF, absentF]
    have hk : (plainP p).kind = p.kind := by rw [hp]; rfl
    have hn : (plainP p).name = p.name := by rw [hp]; rfl
    rw [hk, hn]
    have h1 := fresh_plain h _ 0 (Nat.lt_succ_self _)
    rw [List.map_cons] at h1
    rw [h1]
    have h2 : lacks (plainP p :: l.map plainP) = lacks (p :: l) := by
      funext c
      unfold lacks
      have := any_plain h fun s _ => decide (s = c.name)
      rw [List.map_cons] at this
      rw [this]
    rw [h2]
theorem head_plain {l : List Pat} (h : ∀ p ∈ l, free p = false) : ((l.map plainP).headD anyP).name = (l.headD anyP).name := by
  cases l with
  | nil => rfl
  | cons p l => show (plainP p).name = p.name; rw [plain_nf (h p (List.mem_cons_self ..))]; rfl
theorem missLoop_plain {rc rc' : List (List Pat) → Nat → List Pat × Bool} (h : ∀ rows c, rc (bare rows) c = rc rows c) {rows : List (List Pat)} {c : Nat} : ∀ ks, missLoop rc (bare rows) c ks = missLoop rc rows c ks
  | [] => rfl
  | k :: ks => by rw [missLoop, missLoop, bare_narrow, h, missLoop_plain (rc' := rc') h ks]
theorem miss_plain (t : Tab) (ds : List DataSig) : ∀ (f : Nat) (rows : List (List Pat)) (c : Nat), missF t ds f (bare rows) c = missF t ds f rows c
  | 0, rows, c => rfl
  | f + 1, rows, 0 => by rw [missF, missF, List.length_map]
  | f + 1, rows, c + 1 => by
    rw [missF, missF, bare_first, absent_plain fun p hp => first_nf hp, bare_rest, miss_plain t ds f, head_plain fun p hp => first_nf hp, missLoop_plain (rc' := missF t ds f) (miss_plain t ds f)]
theorem usefulLoop_plain {rc : List (List Pat) → List Pat → Bool} (h : ∀ rows row, rc (bare rows) (plainL row) = rc rows row) {rows : List (List Pat)} {row : List Pat} : ∀ ks, usefulLoop rc (bare rows) (plainL row) ks = usefulLoop rc rows row ks
  | [] => rfl
  | k :: ks => by
    have e : anysL k.args.length ++ plainL row = plainL (anysL k.args.length ++ row) := by rw [plain_append, plain_anys]
    rw [usefulLoop, usefulLoop, bare_narrow, e, h, usefulLoop_plain h ks]
theorem useful_plain (t : Tab) (ds : List DataSig) : ∀ (f : Nat) (rows : List (List Pat)) (row : List Pat), usefulF t ds f (bare rows) (plainL row) = usefulF t ds f rows row
  | 0, rows, row => rfl
  | f + 1, rows, [] => by rw [plainL, usefulF, usefulF, List.length_map]
  | f + 1, rows, p :: row => by
    rw [plainL, usefulF, usefulF]
    by_cases h3 : p.kind = 3
    · have hf : free p = false := by simp [free, h3]
      rw [if_pos h3, plain_nf hf, if_pos (show (Pat.mk p.kind p.name p.n (plainL p.args)).kind = 3 from h3)]
      show usefulF t ds f (narrow p.name (plainL p.args).length (bare rows)) (plainL p.args ++ plainL row) = _
      rw [plain_len, bare_narrow, ← plain_append, useful_plain t ds f]
    · by_cases h2 : p.kind = 2
      · have hf : free p = false := by simp [free, h2]
        rw [if_neg h3, if_pos h2, plain_nf hf, if_neg (show ¬ (Pat.mk p.kind p.name p.n (plainL p.args)).kind = 3 from h3), if_pos (show (Pat.mk p.kind p.name p.n (plainL p.args)).kind = 2 from h2)]
        show usefulF t ds f (leftF p.n (bare rows)) (plainL row) = _
        rw [bare_left, useful_plain t ds f]
      · have h3' : ¬ (plainP p).kind = 3 := by
          rw [plainP_eq]
          by_cases h : p.kind = 1
          · rw [if_pos h]; decide
          · rw [if_neg h]; exact h3
        have h2' : ¬ (plainP p).kind = 2 := by
          rw [plainP_eq]
          by_cases h : p.kind = 1
          · rw [if_pos h]; decide
          · rw [if_neg h]; exact h2
        rw [if_neg h3, if_neg h2, if_neg h3', if_neg h2', bare_first, absent_plain fun p hp => first_nf hp, bare_rest, useful_plain t ds f, head_plain fun p hp => first_nf hp, usefulLoop_plain (useful_plain t ds f)]

/-! ### The check -/
mutual
theorem cP_plain : ∀ p : Pat, cP (plainP p) ≤ cP p
  | .mk k s n as => by
    rw [plainP]
    have := cL_plain as
    by_cases h : k = 1
    · rw [if_pos h, cP, cP, cL]; omega
    · rw [if_neg h, cP, cP]; omega
theorem cL_plain : ∀ l : List Pat, cL (plainL l) ≤ cL l
  | [] => Nat.le_refl _
  | p :: l => by
    have := cP_plain p
    have := cL_plain l
    rw [plainL, cL, cL]
    omega
end
theorem cR_plain : ∀ rows, cR (bare rows) ≤ cR rows
  | [] => Nat.le_refl _
  | r :: rows => by
    have := cL_plain r
    have := cR_plain rows
    show cR (plainL r :: bare rows) ≤ _
    rw [cR, cR]
    omega
theorem dL_nil : ∀ n, dL n [] = true
  | 0 => rfl
  | n + 1 => rfl
theorem dL_plain : ∀ (n : Nat) (l : List Pat), dL n l = true → dL n (plainL l) = true
  | 0, l, h => by
    rw [dL] at h ⊢
    rw [plain_len]
    exact h
  | n + 1, l, h => by
    rw [dL, List.all_eq_true] at h ⊢
    intro q hq
    rw [plainL_map] at hq
    obtain ⟨p, hp, rfl⟩ := List.mem_map.1 hq
    rw [plainP_eq]
    by_cases hk : p.kind = 1
    · rw [if_pos hk]; exact dL_nil n
    · rw [if_neg hk]; exact dL_plain n _ (h p hp)
mutual
theorem patF_plain {t : Tab} : ∀ p : Pat, patF t p = 0 → patF t (plainP p) = 0
  | .mk k s n as, h => by
    rw [plainP]
    by_cases h1 : k = 1
    · rw [if_pos h1, patF]; simp
    · rw [if_neg h1]
      rw [patF] at h ⊢
      by_cases h0 : k = 0 ∨ k = 1
      · rw [if_pos h0]
      rw [if_neg h0] at h ⊢
      by_cases h2 : k = 2
      · rw [if_pos h2] at h ⊢; exact h
      rw [if_neg h2] at h ⊢
      by_cases h3 : k = 3
      · rw [if_pos h3] at h ⊢
        cases hg : tget t s with
        | none => rw [hg] at h; exact h
        | some c =>
          rw [hg] at h
          simp only [plain_len] at h ⊢
          by_cases hl : as.length ≠ c.2.2
          · rw [if_pos hl] at h; exact absurd h (by decide)
          · rw [if_neg hl] at h ⊢
            exact patsF_plain as h
      · rw [if_neg h3] at h; exact absurd h (by decide)
theorem patsF_plain {t : Tab} : ∀ l : List Pat, patsF t l = 0 → patsF t (plainL l) = 0
  | [], _ => rfl
  | p :: l, h => by
    rw [patsF] at h
    rw [plainL, patsF]
    by_cases hp : patF t p = 0
    · rw [if_neg (by simpa using hp)] at h
      rw [if_neg (by simpa using patF_plain p hp)]
      exact patsF_plain l h
    · rw [if_pos hp] at h
      exact absurd h hp
end
theorem nf_plain (l : List Pat) : (plainL l).filter nf = (l.filter nf).map plainP := by
  rw [plainL_map, List.filter_map]
  congr 1
  refine List.filter_congr fun p _ => ?_
  show nf (plainP p) = nf p
  unfold nf
  rw [plain_free]
theorem below_plain {m : List Pat} (h : ∀ p ∈ m, free p = false) (name : Str) (n : Nat) : belowF (m.map plainP) name n = plainL (belowF m name n) := by
  induction m with
  | nil => rfl
  | cons p m ih =>
    have ih := ih fun q hq => h q (List.mem_cons_of_mem _ hq)
    have hp := plain_nf (h p (List.mem_cons_self ..))
    have hn : (plainP p).name = p.name := by rw [hp]; rfl
    have ha : (plainP p).args = plainL p.args := by rw [hp]; rfl
    have hg : (plainL p.args).getD n anyP = plainP (p.args.getD n anyP) := by
      rw [plainL_map]
      simp only [List.getD_eq_getElem?_getD, List.getElem?_map]
      cases p.args[n]? with
      | none => rfl
      | some q => rfl
    unfold belowF at ih ⊢
    rw [List.map_cons]
    simp only [List.filterMap_cons, hn, ha, hg]
    by_cases hnm : p.name = name
    · simp only [if_pos hnm, ih, plainL]
    · simp only [if_neg hnm, ih]
theorem kind_plain {t : Tab} {p : Pat} (h : free p = false) : kindF t (plainP p) = kindF t p := by
  rw [plain_nf h]
  rfl
theorem agreeArgs_plain {rc : List Pat → Bool} (hrc : ∀ l, rc (plainL l) = rc l) {m : List Pat} (h : ∀ p ∈ m, free p = false) (name : Str) : ∀ k n, agreeArgs rc (m.map plainP) name n k = agreeArgs rc m name n k
  | 0, n => rfl
  | k + 1, n => by rw [agreeArgs, agreeArgs, below_plain h, hrc, agreeArgs_plain hrc h name k (n + 1)]
theorem agreeLoop_plain {rc : List Pat → Bool} (hrc : ∀ l, rc (plainL l) = rc l) {m : List Pat} (h : ∀ p ∈ m, free p = false) : ∀ (ps seen : List Pat), (∀ p ∈ ps, free p = false) → (∀ p ∈ seen, free p = false) → agreeLoop rc (m.map plainP) (seen.map plainP) (ps.map plainP) = agreeLoop rc m seen ps
  | [], seen, _, _ => rfl
  | p :: ps, seen, hp, hs => by
    have hpf := hp p (List.mem_cons_self ..)
    have hpp := plain_nf hpf
    have hn : (plainP p).name = p.name := by rw [hpp]; rfl
    have hk : (plainP p).kind = p.kind := by rw [hpp]; rfl
    have ha : (plainP p).args = plainL p.args := by rw [hpp]; rfl
    have e1 := any_plain hs fun s _ => decide (s = p.name)
    have e2 := agreeLoop_plain hrc h ps (seen ++ [p]) (fun q hq => hp q (List.mem_cons_of_mem _ hq)) fun q hq => by
      rcases List.mem_append.1 hq with hq | hq
      · exact hs q hq
      · rw [List.mem_singleton] at hq; subst hq; exact hpf
    rw [List.map_append, List.map_singleton] at e2
    rw [List.map_cons, agreeLoop, agreeLoop, hn, hk, ha, e1, plain_len, agreeArgs_plain hrc h, e2]
theorem agree_plain (t : Tab) : ∀ (f : Nat) (l : List Pat), agreeF t f (plainL l) = agreeF t f l
  | 0, l => rfl
  | f + 1, l => by
    have hm : ∀ p ∈ l.filter nf, free p = false := fun p hp => (nf_mem hp).2
    have h1 : sameKind t ((l.filter nf).map plainP) = sameKind t (l.filter nf) := by
      have hd : kindF t (((l.filter nf).map plainP).headD anyP) = kindF t ((l.filter nf).headD anyP) := by
        cases hl : l.filter nf with
        | nil => rfl
        | cons p m => exact kind_plain (hm p (by rw [hl]; exact List.mem_cons_self ..))
      unfold sameKind
      rw [hd, List.all_map]
      rw [Bool.eq_iff_iff, List.all_eq_true, List.all_eq_true]
      constructor
      · intro h p hp
        have := h p hp
        simp only [Function.comp] at this
        rwa [kind_plain (hm p hp)] at this
      · intro h p hp
        simp only [Function.comp]
        rw [kind_plain (hm p hp)]
        exact h p hp
    have h2 := agreeLoop_plain (agree_plain t f) hm (l.filter nf) [] hm fun p hp => by cases hp
    rw [agreeF, agreeF, nf_plain, h1]
    congr 1
theorem bare_width (rows : List (List Pat)) : width (bare rows) = width rows := by
  cases rows with
  | nil => rfl
  | cons r rs => show (plainL r).length = r.length; exact plain_len r
theorem check_plain {ds : List DataSig} {rows : List (List Pat)} (h : checkF ds rows = 0) : checkF ds (bare rows) = 0 := by
  obtain ⟨t, hb⟩ := check_build h
  obtain ⟨hsm, ha, he, hc⟩ := check_parts h hb
  refine checkF_zero (t := t) ?_ hb ?_ ?_ ?_
  · have h1 := small_iff.1 (small_true h)
    have h2 := cR_plain rows
    refine small_iff.2 ⟨⟨fun r hr => ?_, by omega⟩, by rw [List.length_map]; exact h1.2.1, h1.2.2⟩
    obtain ⟨r', hr', rfl⟩ := List.mem_map.1 hr
    exact ⟨by rw [plain_len]; exact (h1.1.1 r' hr').1, dL_plain 20 _ (h1.1.1 r' hr').2⟩
  · rw [List.all_eq_true]
    intro r hr
    obtain ⟨r', hr', rfl⟩ := List.mem_map.1 hr
    unfold sameLen
    rw [bare_width, plain_len]
    exact List.all_eq_true.1 ha r' hr'
  · rw [errRows_iff]
    intro r hr
    obtain ⟨r', hr', rfl⟩ := List.mem_map.1 hr
    exact patsF_plain _ (errRows_iff.1 he r' hr')
  · rw [bare_width]
    refine colsLoop_of _ _ fun i _ hi => ?_
    have hcol : colF (bare rows) i = plainL (colF rows i) := by
      unfold colF bare
      rw [plainL_map, List.map_map, List.map_map]
      refine List.map_congr_left fun r _ => ?_
      simp only [Function.comp, plainL_map, List.getD_eq_getElem?_getD, List.getElem?_map]
      cases r[i]? with
      | none => rfl
      | some q => rfl
    rw [hcol, agree_plain]
    exact colsLoop_all _ _ hc _ (Nat.zero_le _) hi
theorem bad_plain (rows : List (List Pat)) (c : Int) : missBad (bare rows) c ↔ missBad rows c := by
  unfold missBad
  rw [bare_width]
  simp
theorem missOut_plain {ds : List DataSig} {rows : List (List Pat)} {c : Int} (h : (missOut ds rows c).2 = 0) : missOut ds (bare rows) c = missOut ds rows c := by
  obtain ⟨hck, hnb⟩ := miss_zero h
  obtain ⟨t, hb⟩ := check_build hck
  rw [missOut_ok hck hnb hb, missOut_ok (check_plain hck) (fun h => hnb ((bad_plain rows c).1 h)) hb, miss_plain]
theorem redOut_plain {ds : List DataSig} {rows : List (List Pat)} (h : checkF ds rows = 0) : redOut ds (bare rows) = redOut ds rows := by
  obtain ⟨t, hb⟩ := check_build h
  rw [redOut_ok h hb, redOut_ok (check_plain h) hb, List.length_map]
  congr 1
  unfold redTo
  refine List.filter_congr fun k hk => ?_
  have hk := List.mem_range.1 hk
  have e : (bare rows).getD k [] = plainL (rows.getD k []) := by
    simp only [bare, List.getD_eq_getElem?_getD, List.getElem?_map]
    cases rows[k]? with
    | none => rfl
    | some q => rfl
  rw [e, ← List.map_take, useful_plain]
mutual
def sameP : Pat → Pat → Bool
  | .mk k s n as, .mk k' s' n' as' => decide (k = k') && decide (s = s') && decide (n = n') && sameL as as'
def sameL : List Pat → List Pat → Bool
  | [], [] => true
  | p :: a, q :: b => sameP p q && sameL a b
  | _, _ => false
end
mutual
theorem sameP_refl : ∀ p, sameP p p = true
  | .mk k s n as => by rw [sameP, sameL_refl as]; simp
theorem sameL_refl : ∀ l, sameL l l = true
  | [] => by rw [sameL]
  | p :: l => by rw [sameL, sameP_refl p, sameL_refl l]; rfl
end
def namesF (ds : List DataSig) (rows : List (List Pat)) (c : Int) : Bool :=
  if (missOut ds rows c).2 ≠ 0 then decide ((missOut ds rows c).1.length = 0)
  else decide ((missOut ds (bare rows) c).2 = 0) && decide ((redOut ds rows).2 = 0) && decide ((redOut ds (bare rows)).2 = 0) && sameL (missOut ds rows c).1 (missOut ds (bare rows) c).1 && decide ((redOut ds rows).1 = (redOut ds (bare rows)).1)
theorem names_law (ds : List DataSig) (rows : List (List Pat)) (c : Int) : namesF ds rows c = true := by
  unfold namesF
  by_cases h0 : (missOut ds rows c).2 ≠ 0
  · rw [if_pos h0, missOut_none h0]; rfl
  rw [if_neg h0]
  have h1 : (missOut ds rows c).2 = 0 := Decidable.not_not.1 h0
  obtain ⟨hck, hnb⟩ := miss_zero h1
  obtain ⟨t, hb⟩ := check_build hck
  have h2 : (redOut ds rows).2 = 0 := by rw [redOut_ok hck hb]
  rw [missOut_plain h1, redOut_plain hck, h1, h2, sameL_refl]
  simp
end Go.PM
