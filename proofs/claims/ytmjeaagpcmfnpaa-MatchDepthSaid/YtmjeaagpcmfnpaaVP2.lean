/- Patterns, the plain law: what it means that something is missing. -/
import Derived.Test.YtmjeaagpcmfnpaaVP1
set_option linter.unusedVariables false
namespace Go.PM
open Go.VL
theorem check_parts {ds : List DataSig} {rows : List (List Pat)} {t : Tab} (h : checkF ds rows = 0) (hb : buildF 0 ds [] = some t) : Small ds rows ∧ rows.all (sameLen rows) = true ∧ errRows t rows = 0 ∧ colsLoop t rows 0 (width rows) = true := by
  unfold checkF at h
  cases hs : small ds rows with
  | false => rw [hs] at h; simp at h
  | true =>
    rw [hs, hb] at h
    simp only [Bool.true_eq_false, if_false] at h
    unfold checkT at h
    cases ha : rows.all (sameLen rows) with
    | false => rw [ha] at h; simp at h
    | true =>
      rw [ha] at h
      simp only [Bool.true_eq_false, if_false] at h
      by_cases he : errRows t rows = 0
      · rw [if_neg (by simpa using he)] at h
        cases hc : colsLoop t rows 0 (width rows) with
        | false => rw [hc] at h; simp at h
        | true => exact ⟨small_of hs, rfl, he, rfl⟩
      · rw [if_pos he] at h
        exact absurd h he
theorem colsLoop_all {t : Tab} {rows : List (List Pat)} : ∀ (k n : Nat), colsLoop t rows n k = true → ∀ i, n ≤ i → i < n + k → agreeF t 401 (colF rows i) = true
  | 0, n, _, i, h1, h2 => by omega
  | k + 1, n, h, i, h1, h2 => by
    rw [colsLoop, Bool.and_eq_true] at h
    rcases Nat.eq_or_lt_of_le h1 with rfl | h3
    · exact h.1
    · exact colsLoop_all k (n + 1) h.2 i h3 (by omega)
mutual
theorem wP_le : ∀ p : Pat, wP p ≤ cP p
  | .mk k s n as => by
    have := wL_le as
    rw [wP, cP]
    split <;> omega
theorem wL_le : ∀ l : List Pat, wL l ≤ cL l
  | [] => Nat.le_refl _
  | p :: l => by
    have := wP_le p
    have := wL_le l
    rw [wL, cL]
    omega
end
theorem wR_le : ∀ rows, wR rows ≤ cR rows
  | [] => Nat.le_refl _
  | r :: rows => by
    have := wL_le r
    have := wR_le rows
    rw [wR, cR]
    omega
structure Typed (ds : List DataSig) (t : Tab) (rows : List (List Pat)) (τs : List Ty) : Prop where
  good : ∀ τ ∈ τs, Good ds τ
  pre : MissPre t fuel0 rows τs
theorem typed_of {ds : List DataSig} {rows : List (List Pat)} {t : Tab} {c : Int} (h : checkF ds rows = 0) (hb : buildF 0 ds [] = some t) (hnb : ¬ missBad rows c) : ∃ τs : List Ty, (τs.length : Int) = c ∧ Typed ds t rows τs := by
  obtain ⟨hs, ha, he, hc⟩ := check_parts h hb
  have hl := tabLaw_of hb
  have h0 : 0 ≤ c := by
    rcases Decidable.em (c < 0) with h1 | h1
    · exact absurd (.inl h1) hnb
    · omega
  have h16 : c ≤ 16 := by
    rcases Decidable.em (16 < c) with h1 | h1
    · exact absurd (.inr (.inl h1)) hnb
    · omega
  have hw := wR_le rows
  have hn := hs.nodes
  have hr := hs.rows
  cases hrows : rows with
  | nil =>
    refine ⟨List.replicate c.toNat .any, by simp; omega, fun τ hτ => (by rw [List.eq_of_mem_replicate hτ]; trivial), ⟨fun r hr => (by cases hr), by simp, by rw [fuel0_eq]; simp [wR]; omega⟩⟩
  | cons r0 rs =>
    rw [← hrows]
    have hne : rows ≠ [] := by rw [hrows]; simp
    have hwd : c = width rows := by
      rcases Decidable.em (c = width rows) with h1 | h1
      · exact h1
      · exact absurd (.inr (.inr ⟨hne, h1⟩)) hnb
    have hex : ∀ n, ∃ τ, Good ds τ ∧ (n < width rows → ∀ p ∈ colF rows n, wt t τ p) := fun n => by
      by_cases hn : n < width rows
      · obtain ⟨τ, h1, h2⟩ := agree_ty hl 401 (Nat.le_refl _) _ (agreePre_col hs ha he hne hn) (colsLoop_all _ _ hc n (Nat.zero_le _) (by omega))
        exact ⟨τ, h1, fun _ => h2⟩
      · exact ⟨.any, trivial, fun h => absurd h hn⟩
    refine ⟨(List.range (width rows)).map fun n => Classical.choose (hex n), by simp; omega, fun τ hτ => ?_, ⟨fun r hrm => ?_, by omega, by rw [fuel0_eq]; simp; omega⟩⟩
    · obtain ⟨n, _, rfl⟩ := List.mem_map.1 hτ
      exact (Classical.choose_spec (hex n)).1
    · refine rowT.of_get (by simp [same_all ha r hrm]) fun i τ p h1 h2 => ?_
      have hi : i < width rows := by have := (List.getElem?_eq_some_iff.1 h2).1; rw [same_all ha r hrm] at this; exact this
      simp only [List.getElem?_map, List.getElem?_range hi, Option.map_some, Option.some.injEq] at h1
      subst h1
      refine (Classical.choose_spec (hex i)).2 hi p (List.mem_map.2 ⟨r, hrm, ?_⟩)
      simp [h2]
theorem checkTy {ds : List DataSig} (hz : Sized ds) : CheckTy ds := fun rows c t h hb hnb => by
  obtain ⟨τs, h1, h2⟩ := typed_of h hb hnb
  exact ⟨tabOk_of hb (check_parts h hb).1 hz, τs, h1, h2.pre⟩

/-! ### Values -/
inductive Val where
  | int (n : Int)
  | con (name : Str) (args : List Val)
mutual
def matP : Pat → Val → Prop
  | .mk k s n as, v => (k = 0 ∨ k = 1) ∨ (k = 2 ∧ v = .int n) ∨ (k = 3 ∧ ∃ vs, v = .con s vs ∧ matL as vs)
def matL : List Pat → List Val → Prop
  | [], vs => vs = []
  | p :: ps, vs => ∃ v vs', vs = v :: vs' ∧ matP p v ∧ matL ps vs'
end
theorem matP_eq (p : Pat) (v : Val) : matP p v ↔ free p = true ∨ (p.kind = 2 ∧ v = .int p.n) ∨ (p.kind = 3 ∧ ∃ vs, v = .con p.name vs ∧ matL p.args vs) := by
  obtain ⟨k, s, n, as⟩ := p
  rw [matP]
  simp [free, Pat.kind, Pat.name, Pat.n, Pat.args]
theorem matP_free {p : Pat} (h : free p = true) (v : Val) : matP p v := (matP_eq p v).2 (.inl h)
theorem matL_cons {p : Pat} {ps : List Pat} {v : Val} {vs : List Val} : matL (p :: ps) (v :: vs) ↔ matP p v ∧ matL ps vs := by
  rw [matL]
  constructor
  · rintro ⟨v', vs', h, h1, h2⟩
    injection h with h3 h4
    subst h3
    subst h4
    exact ⟨h1, h2⟩
  · rintro ⟨h1, h2⟩
    exact ⟨v, vs, rfl, h1, h2⟩
theorem matL_len : ∀ {ps : List Pat} {vs : List Val}, matL ps vs → ps.length = vs.length
  | [], vs, h => by rw [matL] at h; rw [h]; rfl
  | p :: ps, vs, h => by
    rw [matL] at h
    obtain ⟨v, vs', rfl, _, h2⟩ := h
    simp [matL_len h2]
theorem matL_append : ∀ {a b : List Pat} {x y : List Val}, a.length = x.length → (matL (a ++ b) (x ++ y) ↔ matL a x ∧ matL b y)
  | [], b, [], y, _ => by simp [matL]
  | p :: a, b, v :: x, y, h => by
    rw [List.cons_append, List.cons_append, matL_cons, matL_cons, matL_append (by simpa using h), and_assoc]
  | [], b, _ :: _, y, h => by simp at h
  | _ :: _, b, [], y, h => by simp at h
theorem matL_anys : ∀ (x : List Val), matL (anysL x.length) x
  | [] => by simp [anysL, matL]
  | v :: x => by
    have := matL_anys x
    simp only [anysL, List.length_cons, List.replicate_succ] at this ⊢
    exact matL_cons.2 ⟨matP_free rfl v, this⟩
def fits (ds : List DataSig) : Ty → Val → Prop
  | .any, _ => True
  | .int, _ => True
  | .dat d f, v => ∃ D k vs, ds[d]? = some D ∧ k ∈ D.cons ∧ v = .con k.name vs ∧ vs.length = k.args.length ∧ ∀ (i : Nat) x, vs[i]? = some x → fits ds (f k.name i) x
def fitsL (ds : List DataSig) : List Ty → List Val → Prop
  | [], [] => True
  | τ :: τs, v :: vs => fits ds τ v ∧ fitsL ds τs vs
  | _, _ => False
theorem fitsL.len {ds : List DataSig} : ∀ {τs : List Ty} {vs : List Val}, fitsL ds τs vs → vs.length = τs.length
  | [], [], _ => rfl
  | τ :: τs, v :: vs, h => by simp [fitsL.len h.2]
  | [], _ :: _, h => h.elim
  | _ :: _, [], h => h.elim
theorem fitsL_append {ds : List DataSig} : ∀ {τs σs : List Ty} {x y : List Val}, τs.length = x.length → (fitsL ds (τs ++ σs) (x ++ y) ↔ fitsL ds τs x ∧ fitsL ds σs y)
  | [], σs, [], y, _ => by simp [fitsL]
  | τ :: τs, σs, v :: x, y, h => by
    simp only [List.cons_append, fitsL, fitsL_append (ds := ds) (τs := τs) (σs := σs) (x := x) (y := y) (by simpa using h), and_assoc]
  | [], _, _ :: _, _, h => by simp at h
  | _ :: _, _, [], _, h => by simp at h
theorem fitsL_get {ds : List DataSig} : ∀ {τs : List Ty} {vs : List Val}, vs.length = τs.length → (fitsL ds τs vs ↔ ∀ (i : Nat) τ v, τs[i]? = some τ → vs[i]? = some v → fits ds τ v)
  | [], [], _ => by simp [fitsL]
  | τ :: τs, v :: vs, h => by
    rw [fitsL, fitsL_get (by simpa using h)]
    constructor
    · rintro ⟨h1, h2⟩ i σ u hi hu
      cases i with
      | zero => simp at hi hu; subst hi; subst hu; exact h1
      | succ i => exact h2 i σ u (by simpa using hi) (by simpa using hu)
    · intro k
      exact ⟨k 0 τ v rfl rfl, fun i σ u hi hu => k (i + 1) σ u (by simpa using hi) (by simpa using hu)⟩
  | [], _ :: _, h => by simp at h
  | _ :: _, [], h => by simp at h
theorem fitsL_args {ds : List DataSig} {g : Nat → Ty} {n : Nat} {vs : List Val} (h : vs.length = n) : fitsL ds (argT g n) vs ↔ ∀ (i : Nat) x, vs[i]? = some x → fits ds (g i) x := by
  rw [fitsL_get (by rw [argT_len, h])]
  constructor
  · intro k i x hx
    have hi : i < n := by have := (List.getElem?_eq_some_iff.1 hx).1; omega
    exact k i (g i) x (by simp [argT, hi]) hx
  · intro k i τ x hτ hx
    have hi : i < n := by have := (List.getElem?_eq_some_iff.1 hx).1; omega
    simp only [argT, List.getElem?_map, List.getElem?_range hi, Option.map_some, Option.some.injEq] at hτ
    subst hτ
    exact k i x hx
theorem good_con {ds : List DataSig} {g : Nat → Ty} (h : ∀ i, ∃ v, fits ds (g i) v) (n : Nat) : ∃ vs : List Val, vs.length = n ∧ ∀ (i : Nat) x, vs[i]? = some x → fits ds (g i) x := by
  refine ⟨(List.range n).map fun i => Classical.choose (h i), by simp, fun i x hx => ?_⟩
  have hi : i < n := by have := (List.getElem?_eq_some_iff.1 hx).1; simpa using this
  simp only [List.getElem?_map, List.getElem?_range hi, Option.map_some, Option.some.injEq] at hx
  subst hx
  exact Classical.choose_spec (h i)
theorem good_inh {ds : List DataSig} : ∀ τ : Ty, Good ds τ → ∃ v, fits ds τ v
  | .any, _ => ⟨.int 0, trivial⟩
  | .int, _ => ⟨.int 0, trivial⟩
  | .dat d f, ⟨⟨D, hD, hne⟩, hg⟩ => by
    obtain ⟨k, ks, hk⟩ := List.exists_cons_of_ne_nil hne
    obtain ⟨vs, h1, h2⟩ := good_con (g := f k.name) (fun i => good_inh (f k.name i) (hg k.name i)) k.args.length
    exact ⟨.con k.name vs, D, k, vs, hD, by rw [hk]; exact List.mem_cons_self .., rfl, h1, h2⟩
theorem fresh_spec (l : List Pat) : ∀ (n : Nat) (i : Int), countGE l i < n → (l.any fun p => decide (p.n = fresh l i)) = false
  | 0, i, h => absurd h (Nat.not_lt_zero _)
  | n + 1, i, h => by
    cases ha : (l.any fun p => decide (p.n = i)) with
    | false => rw [fresh_no ha]; exact ha
    | true =>
      rw [fresh_yes ha]
      have := countGE_lt ha
      exact fresh_spec l n (i + 1) (by omega)
/-- What 'absent' finds is a value that no pattern ahead matches. -/
theorem absent_val {t : Tab} {ds : List DataSig} {τ : Ty} {τs : List Ty} {rows : List (List Pat)} {q : Pat} (hok : TabOk t ds) (hT : rowsT t (τ :: τs) rows) (hg : Good ds τ) (h : absentF t ds (first rows) = some q) : ∃ v, fits ds τ v ∧ ∀ p ∈ first rows, ¬ matP p v := by
  cases hl : first rows with
  | nil =>
    obtain ⟨v, hv⟩ := good_inh τ hg
    exact ⟨v, hv, fun p hp => by cases hp⟩
  | cons p l =>
    have hfr : ∀ p' ∈ p :: l, free p' = false := fun p' hp' => by
      obtain ⟨tl, _, h2⟩ := first_mem (rows := rows) (p := p') (by rw [hl]; exact hp')
      exact h2
    rw [hl] at h
    by_cases hk : p.kind = 2
    · refine ⟨.int (fresh (p :: l) 0), ?_, fun p' hp' hm => ?_⟩
      · cases τ with
        | any => trivial
        | int => trivial
        | dat d f =>
          obtain ⟨tl, h1, h2⟩ := first_mem (rows := rows) (p := p) (by rw [hl]; exact List.mem_cons_self ..)
          rcases (hT _ h1).1 with h3 | ⟨h3, _⟩
          · rw [h2] at h3; cases h3
          · rw [hk] at h3; cases h3
      · have hs := fresh_spec (p :: l) _ 0 (Nat.lt_succ_self _)
        have h3 := List.any_eq_false.1 hs p' hp'
        rcases (matP_eq _ _).1 hm with h4 | ⟨_, h4⟩ | ⟨_, vs, h4, _⟩
        · rw [hfr p' hp'] at h4; cases h4
        · injection h4 with h4
          simp [h4] at h3
        · cases h4
    · obtain ⟨d, f, a, D, rfl, h3, ht, hD⟩ := first_head hok hT hl hk
      rw [absentF, if_neg hk] at h
      have hc : consAt t ds p.name = D.cons := by simp only [consAt, ht, hD]
      rw [hc] at h
      cases hfd : D.cons.find? (lacks (p :: l)) with
      | none => rw [hfd] at h; cases h
      | some k =>
        have hkm := List.mem_of_find?_eq_some hfd
        have hkl := List.find?_some hfd
        obtain ⟨vs, h1, h2⟩ := good_con (g := f k.name) (fun i => good_inh (f k.name i) (hg.2 k.name i)) k.args.length
        refine ⟨.con k.name vs, ⟨D, k, vs, hD, hkm, rfl, h1, h2⟩, fun p' hp' hm => ?_⟩
        rcases (matP_eq _ _).1 hm with h4 | ⟨_, h4⟩ | ⟨_, vs', h4, _⟩
        · rw [hfr p' hp'] at h4; cases h4
        · cases h4
        · injection h4 with h4 h5
          simp only [lacks, Bool.not_eq_true', List.any_eq_false, decide_eq_true_eq] at hkl
          exact hkl p' hp' h4.symm
theorem missLoop_iff {rc : List (List Pat) → Nat → List Pat × Bool} {rows : List (List Pat)} {c : Nat} : ∀ ks, (missLoop rc rows c ks).2 = true ↔ ∃ k ∈ ks, (rc (narrow k.name k.args.length rows) (k.args.length + c)).2 = true
  | [] => by simp [missLoop]
  | k :: ks => by
    simp only [missLoop]
    cases hb : (rc (narrow k.name k.args.length rows) (k.args.length + c)).2 with
    | false => simp [missLoop_iff ks, hb]
    | true => simp [hb]
def Lacks (ds : List DataSig) (τs : List Ty) (rows : List (List Pat)) : Prop := ∃ vs, fitsL ds τs vs ∧ ∀ r ∈ rows, ¬ matL r vs
theorem narrow_mat {t : Tab} {d a : Nat} {f : Str → Nat → Ty} {τs : List Ty} {rows : List (List Pat)} {name : Str} {n : Nat} (hT : rowsT t (.dat d f :: τs) rows) (hn : tget t name = some (d, a, n)) {x y : List Val} (hx : x.length = n) :
    (∀ r ∈ narrow name n rows, ¬ matL r (x ++ y)) ↔ ∀ r ∈ rows, ¬ matL r (.con name x :: y) := by
  constructor
  · intro h r hr hm
    have hTr := hT r hr
    cases r with
    | nil => rw [matL] at hm; cases hm
    | cons p tl =>
      obtain ⟨hp, htl⟩ := matL_cons.1 hm
      cases hf : free p with
      | true =>
        refine h (anysL n ++ tl) (List.mem_filterMap.2 ⟨_, hr, by simp [hf]⟩) ?_
        rw [matL_append (by simp [hx])]
        exact ⟨by rw [← hx]; exact matL_anys x, htl⟩
      | false =>
        rcases (matP_eq _ _).1 hp with h4 | ⟨_, h4⟩ | ⟨_, vs, h4, h5⟩
        · rw [hf] at h4; cases h4
        · cases h4
        · injection h4 with h6 h7
          subst h7
          refine h (p.args ++ tl) (List.mem_filterMap.2 ⟨_, hr, by simp [hf, h6]⟩) ?_
          rw [matL_append (matL_len h5)]
          exact ⟨h5, htl⟩
  · intro h r hr hm
    obtain ⟨z, hz, hzr⟩ := List.mem_filterMap.1 hr
    have hTz := hT z hz
    cases z with
    | nil => cases hzr
    | cons p tl =>
      simp only at hzr
      cases hf : free p with
      | true =>
        rw [hf, if_pos rfl] at hzr
        injection hzr with hzr
        subst hzr
        rw [matL_append (by simp [hx])] at hm
        exact h _ hz (matL_cons.2 ⟨matP_free hf _, hm.2⟩)
      | false =>
        rw [hf] at hzr
        simp only [Bool.false_eq_true, if_false] at hzr
        by_cases hname : p.name = name
        · rw [if_pos hname] at hzr
          injection hzr with hzr
          subst hzr
          rcases hTz.1 with h2 | ⟨h3, ⟨a', h2⟩, _⟩
          · rw [hf] at h2; cases h2
          · rw [hname, hn] at h2
            injection h2 with h2
            injection h2 with _ h2
            injection h2 with _ h2
            rw [matL_append (by omega)] at hm
            exact h _ hz (matL_cons.2 ⟨(matP_eq _ _).2 (.inr (.inr ⟨h3, x, by rw [hname], hm.1⟩)), hm.2⟩)
        · rw [if_neg hname] at hzr
          cases hzr
theorem rest_mat {t : Tab} {τ : Ty} {τs : List Ty} {rows : List (List Pat)} (hT : rowsT t (τ :: τs) rows) {v : Val} {vs : List Val} :
    (∀ r ∈ rest rows, ¬ matL r vs) ∧ (∀ p tl, p :: tl ∈ rows → free p = false → ¬ matP p v ∨ ¬ matL tl vs) ↔ ∀ r ∈ rows, ¬ matL r (v :: vs) := by
  constructor
  · rintro ⟨h1, h2⟩ r hr hm
    cases r with
    | nil => rw [matL] at hm; cases hm
    | cons p tl =>
      obtain ⟨hp, htl⟩ := matL_cons.1 hm
      cases hf : free p with
      | true => exact h1 tl (List.mem_filterMap.2 ⟨_, hr, by simp [hf]⟩) htl
      | false => exact (h2 p tl hr hf).elim (fun h => h hp) (fun h => h htl)
  · intro h
    refine ⟨fun r hr hm => ?_, fun p tl hr hf => ?_⟩
    · obtain ⟨z, hz, hzr⟩ := List.mem_filterMap.1 hr
      cases z with
      | nil => cases hzr
      | cons p tl =>
        simp only at hzr
        cases hf : free p with
        | true =>
          rw [hf, if_pos rfl] at hzr
          injection hzr with hzr
          subst hzr
          exact h _ hz (matL_cons.2 ⟨matP_free hf _, hm⟩)
        | false =>
          rw [hf] at hzr
          simp at hzr
    · have := h _ hr
      rw [matL_cons] at this
      rcases Classical.em (matP p v) with h1 | h1
      · exact .inr fun h2 => this ⟨h1, h2⟩
      · exact .inl h1
theorem miss_iff {t : Tab} {ds : List DataSig} (hok : TabOk t ds) : ∀ (f : Nat) (rows : List (List Pat)) (τs : List Ty), MissPre t f rows τs → (∀ τ ∈ τs, Good ds τ) → ((missF t ds f rows τs.length).2 = true ↔ Lacks ds τs rows)
  | 0, rows, τs, h, _ => absurd h.fuel (Nat.not_lt_zero _)
  | f + 1, rows, [], h, _ => by
    show decide ((rows.length : Int) = 0) = true ↔ _
    rw [decide_eq_true_eq]
    constructor
    · intro h0
      have : rows = [] := List.eq_nil_of_length_eq_zero (by omega)
      subst this
      exact ⟨[], trivial, fun r hr => by cases hr⟩
    · rintro ⟨vs, hv, hr⟩
      cases vs with
      | cons v vs => exact hv.elim
      | nil =>
        cases rows with
        | nil => rfl
        | cons r rs =>
          have hT := h.ty r (List.mem_cons_self ..)
          cases r with
          | cons p tl => exact hT.elim
          | nil => exact absurd (by simp [matL]) (hr [] (List.mem_cons_self ..))
  | f + 1, rows, τ :: τs, h, hg => by
    obtain ⟨hT, hl, hf⟩ := h
    rw [List.length_cons] at hf
    have hgτ := hg τ (List.mem_cons_self ..)
    have hgs : ∀ σ ∈ τs, Good ds σ := fun σ hσ => hg σ (List.mem_cons_of_mem _ hσ)
    show (missF t ds (f + 1) rows (τs.length + 1)).2 = true ↔ _
    rw [missF]
    cases hab : absentF t ds (first rows) with
    | some q =>
      have hrw := rest_w rows
      have hrl : (rest rows).length ≤ rows.length := List.length_filterMap_le _ _
      have ih := miss_iff hok f (rest rows) τs ⟨hT.rest, by omega, by omega⟩ hgs
      show (missF t ds f (rest rows) τs.length).2 = true ↔ _
      rw [ih]
      constructor
      · rintro ⟨vs, hv, hr⟩
        obtain ⟨v, hv1, hv2⟩ := absent_val hok hT hgτ hab
        refine ⟨v :: vs, ⟨hv1, hv⟩, (rest_mat hT).1 ⟨hr, fun p tl hp hfp => .inl (hv2 p (List.mem_filterMap.2 ⟨_, hp, by simp [hfp]⟩))⟩⟩
      · rintro ⟨vs, hv, hr⟩
        cases vs with
        | nil => exact hv.elim
        | cons v vs => exact ⟨vs, hv.2, ((rest_mat hT).2 hr).1⟩
    | none =>
      obtain ⟨d, g, D, hF⟩ := absent_none hok hT hab
      obtain ⟨hτ, hD, hcons, hall⟩ := hF
      subst hτ
      show (missLoop (missF t ds f) rows τs.length (consAt t ds ((first rows).headD anyP).name)).2 = true ↔ _
      rw [hcons, missLoop_iff]
      have step : ∀ k ∈ D.cons, ((missF t ds f (narrow k.name k.args.length rows) (k.args.length + τs.length)).2 = true ↔ Lacks ds (argT (g k.name) k.args.length ++ τs) (narrow k.name k.args.length rows)) := fun k hk => by
        obtain ⟨q1, tl1, hq1, hqf, hqn, hea, a1, hta⟩ := hall k hk
        have hw1 := narrow_w1 k.name k.args.length hqf hqn rows hq1
        have hln : (narrow k.name k.args.length rows).length ≤ rows.length := List.length_filterMap_le _ _
        have hal := argT_len (g k.name) k.args.length
        have ih := miss_iff hok f (narrow k.name k.args.length rows) (argT (g k.name) k.args.length ++ τs) ⟨hT.narrow hta, by omega, by rw [List.length_append, hal]; omega⟩ fun σ hσ => by
          rcases List.mem_append.1 hσ with hσ | hσ
          · obtain ⟨i, _, rfl⟩ := List.mem_map.1 hσ
            exact hgτ.2 _ _
          · exact hgs σ hσ
        rw [List.length_append, hal] at ih
        exact ih
      constructor
      · rintro ⟨k, hk, hm⟩
        obtain ⟨ws, hw, hr⟩ := (step k hk).1 hm
        obtain ⟨_, _, _, _, _, hea, a1, hta⟩ := hall k hk
        have hwl := hw.len
        rw [List.length_append, argT_len] at hwl
        have hsplit : ws = ws.take k.args.length ++ ws.drop k.args.length := (List.take_append_drop _ _).symm
        have htl : (ws.take k.args.length).length = k.args.length := by rw [List.length_take]; omega
        rw [hsplit] at hw hr
        rw [fitsL_append (by rw [argT_len, htl])] at hw
        rw [narrow_mat hT hta htl] at hr
        refine ⟨.con k.name (ws.take k.args.length) :: ws.drop k.args.length, ?_, hr⟩
        exact ⟨⟨D, k, _, hD, hk, rfl, htl, (fitsL_args htl).1 hw.1⟩, hw.2⟩
      · rintro ⟨vs, hv, hr⟩
        cases vs with
        | nil => exact hv.elim
        | cons v vs =>
          obtain ⟨⟨D', k, as, hD', hk, rfl, hlen, hfit⟩, hv2⟩ := hv
          rw [hD] at hD'
          injection hD' with hD'
          subst hD'
          obtain ⟨_, _, _, _, _, hea, a1, hta⟩ := hall k hk
          refine ⟨k, hk, (step k hk).2 ⟨as ++ vs, ?_, ?_⟩⟩
          · rw [fitsL_append (by rw [argT_len, hlen])]
            exact ⟨(fitsL_args hlen).2 hfit, hv2⟩
          · rw [narrow_mat hT hta hlen]
            exact hr
end Go.PM
