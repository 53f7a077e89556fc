/- Patterns, the plain law: the table, the types of columns. -/
import Derived.Test.YtmjeaagpcmfnpaaVDA
set_option linter.unusedVariables false
namespace Go.PM
open Go.VL
theorem tget_snoc : ∀ (t : Tab) (a : Str) (v : Nat × Nat × Nat) (s : Str), tget (t ++ [(a, v)]) s = match tget t s with | some c => some c | none => if a = s then some v else none
  | [], a, v, s => by simp [tget]
  | (b, u) :: t, a, v, s => by
    rw [List.cons_append]
    simp only [tget]
    by_cases h : b = s
    · rw [if_pos h, if_pos h]
    · rw [if_neg h, if_neg h, tget_snoc t a v s]
structure Adds (t0 t1 : Tab) (k : Nat) (cs : List ConSig) : Prop where
  mono : ∀ s c, tget t0 s = some c → tget t1 s = some c
  put : ∀ kk ∈ cs, ∃ a, tget t1 kk.name = some (k, a, kk.args.length)
  get : ∀ s c, tget t1 s = some c → tget t0 s = some c ∨ (c.1 = k ∧ ∃ kk ∈ cs, kk.name = s ∧ kk.args.length = c.2.2)
theorem addCons_adds {k : Nat} : ∀ {cs : List ConSig} {n : Nat} {t0 t1 : Tab}, addCons k n cs t0 = some t1 → Adds t0 t1 k cs
  | [], n, t0, t1, h => by
    injection h with h
    subst h
    exact ⟨fun _ _ h => h, fun kk h => (by cases h), fun _ _ h => .inl h⟩
  | c :: cs, n, t0, t1, h => by
    rw [addCons] at h
    cases hc : tget t0 c.name with
    | some x => rw [hc] at h; cases h
    | none =>
      rw [hc] at h
      have ih := addCons_adds h
      have hself : tget (t0 ++ [(c.name, k, n, c.args.length)]) c.name = some (k, n, c.args.length) := by rw [tget_snoc, hc]; simp
      refine ⟨fun s x hx => ih.mono s x (by rw [tget_snoc, hx]), fun kk hk => ?_, fun s x hx => ?_⟩
      · rcases List.mem_cons.1 hk with rfl | hk
        · exact ⟨n, ih.mono _ _ hself⟩
        · exact ih.put kk hk
      · rcases ih.get s x hx with h1 | ⟨h1, kk, h2, h3, h4⟩
        · rw [tget_snoc] at h1
          cases hs : tget t0 s with
          | some y => rw [hs] at h1; exact .inl h1
          | none =>
            rw [hs] at h1
            simp only at h1
            by_cases hn : c.name = s
            · rw [if_pos hn] at h1
              injection h1 with h1
              subst h1
              exact .inr ⟨rfl, c, List.mem_cons_self .., hn, rfl⟩
            · rw [if_neg hn] at h1; cases h1
        · exact .inr ⟨h1, kk, List.mem_cons_of_mem _ h2, h3, h4⟩
structure Builds (t0 t1 : Tab) (k : Nat) (ds : List DataSig) : Prop where
  mono : ∀ s c, tget t0 s = some c → tget t1 s = some c
  put : ∀ i D kk, ds[i]? = some D → kk ∈ D.cons → ∃ a, tget t1 kk.name = some (k + i, a, kk.args.length)
  get : ∀ s c, tget t1 s = some c → tget t0 s = some c ∨ ∃ i D, c.1 = k + i ∧ ds[i]? = some D ∧ ∃ kk ∈ D.cons, kk.name = s ∧ kk.args.length = c.2.2
theorem buildF_builds : ∀ {ds : List DataSig} {k : Nat} {t0 t1 : Tab}, buildF k ds t0 = some t1 → Builds t0 t1 k ds
  | [], k, t0, t1, h => by
    injection h with h
    subst h
    exact ⟨fun _ _ h => h, fun i D kk h => by simp at h, fun _ _ h => .inl h⟩
  | d :: ds, k, t0, t1, h => by
    rw [buildF] at h
    cases hc : addCons k 0 d.cons t0 with
    | none => rw [hc] at h; cases h
    | some t' =>
      rw [hc] at h
      have ih := buildF_builds h
      have ha := addCons_adds hc
      refine ⟨fun s x hx => ih.mono s x (ha.mono s x hx), fun i D kk hi hk => ?_, fun s x hx => ?_⟩
      · cases i with
        | zero =>
          simp at hi
          subst hi
          obtain ⟨a, h1⟩ := ha.put kk hk
          exact ⟨a, ih.mono _ _ h1⟩
        | succ i =>
          obtain ⟨a, h1⟩ := ih.put i D kk (by simpa using hi) hk
          exact ⟨a, by rw [h1, show k + 1 + i = k + (i + 1) by omega]⟩
      · rcases ih.get s x hx with h1 | ⟨i, D, h1, h2, h3⟩
        · rcases ha.get s x h1 with h4 | ⟨h4, kk, h5, h6⟩
          · exact .inl h4
          · exact .inr ⟨0, d, by omega, by simp, kk, h5, h6⟩
        · exact .inr ⟨i + 1, D, by omega, by simpa using h2, h3⟩
structure TabLaw (t : Tab) (ds : List DataSig) : Prop where
  put : ∀ (d : Nat) D k, ds[d]? = some D → k ∈ D.cons → ∃ a, tget t k.name = some (d, a, k.args.length)
  get : ∀ s c, tget t s = some c → ∃ D, ds[c.1]? = some D ∧ ∃ k ∈ D.cons, k.name = s ∧ k.args.length = c.2.2
theorem tabLaw_of {ds : List DataSig} {t : Tab} (h : buildF 0 ds [] = some t) : TabLaw t ds := by
  have hb := buildF_builds h
  refine ⟨fun d D k hd hk => ?_, fun s c hs => ?_⟩
  · obtain ⟨a, h1⟩ := hb.put d D k hd hk
    exact ⟨a, by rw [h1, Nat.zero_add]⟩
  · rcases hb.get s c hs with h1 | ⟨i, D, h1, h2, h3⟩
    · cases h1
    · exact ⟨D, by rw [h1, Nat.zero_add]; exact h2, h3⟩
/-- No data are larger than memory. -/
def Sized (ds : List DataSig) : Prop := ∀ d ∈ ds, ∀ k ∈ d.cons, k.args.length * 56 ≤ 140737488355328
theorem tabOk_of {ds : List DataSig} {t : Tab} {rows : List (List Pat)} (h : buildF 0 ds [] = some t) (hs : Small ds rows) (hz : Sized ds) : TabOk t ds := by
  have hl := tabLaw_of h
  refine ⟨fun s c hc => ?_, hl.put, fun d D hD => ⟨?_, hz D (List.mem_of_getElem? hD)⟩⟩
  · obtain ⟨D, h1, _⟩ := hl.get s c hc
    exact ⟨D, h1⟩
  · have := hs.cons D (List.mem_of_getElem? hD)
    omega

/-! ### Types of columns -/
/-- A type all of whose parts have values. -/
def Good (ds : List DataSig) : Ty → Prop
  | .any => True
  | .int => True
  | .dat d f => (∃ D, ds[d]? = some D ∧ D.cons ≠ []) ∧ ∀ s i, Good ds (f s i)
theorem agreeArgs_all {rc : List Pat → Bool} {m : List Pat} {name : Str} : ∀ (k n : Nat), agreeArgs rc m name n k = true → ∀ i, n ≤ i → i < n + k → rc (belowF m name i) = true
  | 0, n, _, i, h1, h2 => by omega
  | k + 1, n, h, i, h1, h2 => by
    rw [agreeArgs, Bool.and_eq_true] at h
    rcases Nat.eq_or_lt_of_le h1 with rfl | h3
    · exact h.1
    · exact agreeArgs_all k (n + 1) h.2 i h3 (by omega)
theorem agreeLoop_all {rc : List Pat → Bool} {m : List Pat} (hargs : ∀ p ∈ m, ∀ q ∈ m, p.kind = 3 → q.name = p.name → q.kind = 3 ∧ q.args.length = p.args.length) : ∀ (ps seen : List Pat), seen ++ ps = m → agreeLoop rc m seen ps = true →
    (∀ p ∈ seen, p.kind = 3 → ∀ n, n < p.args.length → rc (belowF m p.name n) = true) → ∀ p ∈ m, p.kind = 3 → ∀ n, n < p.args.length → rc (belowF m p.name n) = true
  | [], seen, hm, _, hs => by
    rw [List.append_nil] at hm
    subst hm
    exact hs
  | p :: ps, seen, hm, h, hs => by
    rw [agreeLoop, Bool.and_eq_true] at h
    refine agreeLoop_all hargs ps (seen ++ [p]) (by rw [← hm]; simp) h.2 fun q hq hk n hn => ?_
    rcases List.mem_append.1 hq with hq | hq
    · exact hs q hq hk n hn
    · rw [List.mem_singleton] at hq
      subst hq
      have h1 := h.1
      simp only [Bool.or_eq_true, List.any_eq_true, decide_eq_true_eq] at h1
      rcases h1 with (⟨x, hx, hxn⟩ | h1) | h1
      · have hqm : q ∈ m := by rw [← hm]; simp
        have hxm : x ∈ m := by rw [← hm]; exact List.mem_append_left _ hx
        have h2 := hargs q hqm x hxm hk hxn
        have := hs x hx h2.1 n (by omega)
        rw [hxn] at this
        exact this
      · exact absurd hk h1
      · exact agreeArgs_all _ 0 h1 n (Nat.zero_le _) (by omega)
theorem len_le_cL : ∀ l : List Pat, l.length ≤ cL l
  | [] => Nat.le_refl _
  | p :: l => by
    have := len_le_cL l
    have := cP_eq p
    simp only [List.length_cons, cL]
    omega
theorem cP_mem {l : List Pat} {p : Pat} (h : p ∈ l) : cP p ≤ cL l := by
  obtain ⟨i, hi⟩ := List.getElem?_of_mem h
  exact cL_get hi
theorem agree_ty {t : Tab} {ds : List DataSig} (hl : TabLaw t ds) : ∀ (f : Nat), f ≤ 401 → ∀ l, AgreePre t f l → agreeF t f l = true → ∃ τ, Good ds τ ∧ ∀ p ∈ l, wt t τ p
  | 0, _, l, hp, _ => absurd hp.fuel (Nat.not_lt_zero _)
  | f + 1, hf, l, hp, h => by
    rw [agreeF, Bool.and_eq_true] at h
    obtain ⟨hs, ha⟩ := h
    have hok : ∀ p ∈ l.filter nf, patF t p = 0 := fun p hp' => hp.ok p (nf_mem hp').1
    have hnf : ∀ p ∈ l.filter nf, free p = false := fun p hp' => (nf_mem hp').2
    have hsplit : ∀ p ∈ l, free p = true ∨ p ∈ l.filter nf := fun p hpl => by
      cases hfp : free p with
      | true => exact .inl rfl
      | false => exact .inr (List.mem_filter.2 ⟨hpl, by simp [nf, hfp]⟩)
    cases hm : l.filter nf with
    | nil =>
      refine ⟨.any, trivial, fun p hpl => ?_⟩
      rcases hsplit p hpl with h1 | h1
      · exact h1
      · rw [hm] at h1; cases h1
    | cons p0 l0 =>
      have hp0 : p0 ∈ l.filter nf := by rw [hm]; exact List.mem_cons_self ..
      have hkind : ∀ p ∈ l.filter nf, kindF t p = kindF t p0 := fun p hpm => by
        have := List.all_eq_true.1 hs p hpm
        rw [hm] at this
        simpa using this
      rcases patF_con (hok p0 hp0) (hnf p0 hp0) with h2 | ⟨h3, c, hc, _, _⟩
      · refine ⟨.int, trivial, fun p hpl => ?_⟩
        rcases hsplit p hpl with h1 | h1
        · exact .inl h1
        · have e := hkind p h1
          rcases patF_con (hok p h1) (hnf p h1) with h5 | ⟨h5, c', hc', _, _⟩
          · exact .inr h5
          · have e0 : kindF t p0 = -1 := by simp [kindF, h2]
            have e1 : kindF t p = c'.1 := by simp [kindF, h5, hc']
            omega
      · have hk3 : ∀ p ∈ l.filter nf, p.kind = 3 ∧ ∃ a, tget t p.name = some (c.1, a, p.args.length) := fun p hpm => by
          have e := hkind p hpm
          have e0 : kindF t p0 = c.1 := by simp [kindF, h3, hc]
          rcases patF_con (hok p hpm) (hnf p hpm) with h5 | ⟨h5, c', hc', hl', _⟩
          · have e1 : kindF t p = -1 := by simp [kindF, h5]
            omega
          · have e1 : kindF t p = c'.1 := by simp [kindF, h5, hc']
            refine ⟨h5, c'.2.1, ?_⟩
            rw [hc', hl']
            have : c'.1 = c.1 := by omega
            rw [← this]
        have hargs : ∀ p ∈ l.filter nf, ∀ q ∈ l.filter nf, p.kind = 3 → q.name = p.name → q.kind = 3 ∧ q.args.length = p.args.length := fun p hpm q hqm hk hn => by
          have := same_args hs hok hnf hpm hqm hk hn
          exact ⟨this.1, this.2.1⟩
        have hall := agreeLoop_all hargs _ [] rfl ha fun p hp => by cases hp
        obtain ⟨D, hD, k, hk, _⟩ := hl.get _ _ hc
        have hex : ∀ p ∈ l.filter nf, ∀ i, i < p.args.length → ∃ τ, Good ds τ ∧ ∀ q ∈ belowF (l.filter nf) p.name i, wt t τ q := fun p hpm i hi =>
          agree_ty hl f (by omega) _ (hp.below rfl hs hpm (hk3 p hpm).1 hi) (hall p hpm (hk3 p hpm).1 i hi)
        let g : Str → Nat → Ty := fun s i => open Classical in if h : ∃ τ, Good ds τ ∧ ∀ q ∈ belowF (l.filter nf) s i, wt t τ q then Classical.choose h else .any
        have hg1 : ∀ s i, Good ds (g s i) := fun s i => by
          by_cases h : ∃ τ, Good ds τ ∧ ∀ q ∈ belowF (l.filter nf) s i, wt t τ q
          · have e : g s i = Classical.choose h := dif_pos h
            rw [e]
            exact (Classical.choose_spec h).1
          · have e : g s i = .any := dif_neg h
            rw [e]
            trivial
        refine ⟨.dat c.1 g, ⟨⟨D, hD, fun e => by rw [e] at hk; cases hk⟩, hg1⟩, fun p hpl => ?_⟩
        rcases hsplit p hpl with h1 | h1
        · exact .inl h1
        · obtain ⟨h5, a, h6⟩ := hk3 p h1
          have h7 : cP p ≤ cL l := cP_mem hpl
          have h8 := len_le_cL p.args
          have h9 := cP_eq p
          have h10 := hp.fuel
          refine .inr ⟨h5, ⟨a, h6⟩, by omega, fun i q hi => ?_⟩
          have hilt := (List.getElem?_eq_some_iff.1 hi).1
          have hexi := hex p h1 i hilt
          have : g p.name i = Classical.choose hexi := dif_pos hexi
          rw [this]
          refine (Classical.choose_spec hexi).2 q (List.mem_filterMap.2 ⟨p, h1, ?_⟩)
          rw [if_pos rfl]
          simp [hi]
end Go.PM
namespace Go.PM
open Go.VL
theorem check_parts {ds : List DataSig} {rows : List (List Pat)} {t : Tab} (h : checkF ds rows = 0) (hb : buildF 0 ds [] = some t) : Small ds rows ∧ rows.all (sameLen rows) = true ∧ errRows t rows = 0 ∧ colsLoop t rows 0 (width rows) = true := by
  unfold checkF at h
  cases hs : small ds rows with
  | false => rw [hs] at h; simp at h
  | true =>
    rw [hs, hb] at h
    simp only [Bool.true_eq_false, if_false] at h
    unfold checkT at h
    cases ha : rows.all (sameLen rows) with
    | false => rw [ha] at h; simp at h
    | true =>
      rw [ha] at h
      simp only [Bool.true_eq_false, if_false] at h
      by_cases he : errRows t rows = 0
      · rw [if_neg (by simpa using he)] at h
        cases hc : colsLoop t rows 0 (width rows) with
        | false => rw [hc] at h; simp at h
        | true => exact ⟨small_of hs, rfl, he, rfl⟩
      · rw [if_pos he] at h
        exact absurd h he
theorem colsLoop_all {t : Tab} {rows : List (List Pat)} : ∀ (k n : Nat), colsLoop t rows n k = true → ∀ i, n ≤ i → i < n + k → agreeF t 401 (colF rows i) = true
  | 0, n, _, i, h1, h2 => by omega
  | k + 1, n, h, i, h1, h2 => by
    rw [colsLoop, Bool.and_eq_true] at h
    rcases Nat.eq_or_lt_of_le h1 with rfl | h3
    · exact h.1
    · exact colsLoop_all k (n + 1) h.2 i h3 (by omega)
mutual
theorem wP_le : ∀ p : Pat, wP p ≤ cP p
  | .mk k s n as => by
    have := wL_le as
    rw [wP, cP]
    split <;> omega
theorem wL_le : ∀ l : List Pat, wL l ≤ cL l
  | [] => Nat.le_refl _
  | p :: l => by
    have := wP_le p
    have := wL_le l
    rw [wL, cL]
    omega
end
theorem wR_le : ∀ rows, wR rows ≤ cR rows
  | [] => Nat.le_refl _
  | r :: rows => by
    have := wL_le r
    have := wR_le rows
    rw [wR, cR]
    omega
structure Typed (ds : List DataSig) (t : Tab) (rows : List (List Pat)) (τs : List Ty) : Prop where
  good : ∀ τ ∈ τs, Good ds τ
  pre : MissPre t fuel0 rows τs
theorem typed_of {ds : List DataSig} {rows : List (List Pat)} {t : Tab} {c : Int} (h : checkF ds rows = 0) (hb : buildF 0 ds [] = some t) (hnb : ¬ missBad rows c) : ∃ τs : List Ty, (τs.length : Int) = c ∧ Typed ds t rows τs := by
  obtain ⟨hs, ha, he, hc⟩ := check_parts h hb
  have hl := tabLaw_of hb
  have h0 : 0 ≤ c := by
    rcases Decidable.em (c < 0) with h1 | h1
    · exact absurd (.inl h1) hnb
    · omega
  have h16 : c ≤ 16 := by
    rcases Decidable.em (16 < c) with h1 | h1
    · exact absurd (.inr (.inl h1)) hnb
    · omega
  have hw := wR_le rows
  have hn := hs.nodes
  have hr := hs.rows
  cases hrows : rows with
  | nil =>
    refine ⟨List.replicate c.toNat .any, by simp; omega, fun τ hτ => (by rw [List.eq_of_mem_replicate hτ]; trivial), ⟨fun r hr => (by cases hr), by simp, by rw [fuel0_eq]; simp [wR]; omega⟩⟩
  | cons r0 rs =>
    rw [← hrows]
    have hne : rows ≠ [] := by rw [hrows]; simp
    have hwd : c = width rows := by
      rcases Decidable.em (c = width rows) with h1 | h1
      · exact h1
      · exact absurd (.inr (.inr ⟨hne, h1⟩)) hnb
    have hex : ∀ n, ∃ τ, Good ds τ ∧ (n < width rows → ∀ p ∈ colF rows n, wt t τ p) := fun n => by
      by_cases hn : n < width rows
      · obtain ⟨τ, h1, h2⟩ := agree_ty hl 401 (Nat.le_refl _) _ (agreePre_col hs ha he hne hn) (colsLoop_all _ _ hc n (Nat.zero_le _) (by omega))
        exact ⟨τ, h1, fun _ => h2⟩
      · exact ⟨.any, trivial, fun h => absurd h hn⟩
    refine ⟨(List.range (width rows)).map fun n => Classical.choose (hex n), by simp; omega, fun τ hτ => ?_, ⟨fun r hrm => ?_, by omega, by rw [fuel0_eq]; simp; omega⟩⟩
    · obtain ⟨n, _, rfl⟩ := List.mem_map.1 hτ
      exact (Classical.choose_spec (hex n)).1
    · refine rowT.of_get (by simp [same_all ha r hrm]) fun i τ p h1 h2 => ?_
      have hi : i < width rows := by have := (List.getElem?_eq_some_iff.1 h2).1; rw [same_all ha r hrm] at this; exact this
      simp only [List.getElem?_map, List.getElem?_range hi, Option.map_some, Option.some.injEq] at h1
      subst h1
      refine (Classical.choose_spec (hex i)).2 hi p (List.mem_map.2 ⟨r, hrm, ?_⟩)
      simp [h2]
theorem checkTy {ds : List DataSig} (hz : Sized ds) : CheckTy ds := fun rows c t h hb hnb => by
  obtain ⟨τs, h1, h2⟩ := typed_of h hb hnb
  exact ⟨tabOk_of hb (check_parts h hb).1 hz, τs, h1, h2.pre⟩

/-! ### Values -/
inductive Val where
  | int (n : Int)
  | con (name : Str) (args : List Val)
mutual
def matP : Pat → Val → Prop
  | .mk k s n as, v => (k = 0 ∨ k = 1) ∨ (k = 2 ∧ v = .int n) ∨ (k = 3 ∧ ∃ vs, v = .con s vs ∧ matL as vs)
def matL : List Pat → List Val → Prop
  | [], vs => vs = []
  | p :: ps, vs => ∃ v vs', vs = v :: vs' ∧ matP p v ∧ matL ps vs'
end
theorem matP_eq (p : Pat) (v : Val) : matP p v ↔ free p = true ∨ (p.kind = 2 ∧ v = .int p.n) ∨ (p.kind = 3 ∧ ∃ vs, v = .con p.name vs ∧ matL p.args vs) := by
  obtain ⟨k, s, n, as⟩ := p
  rw [matP]
  simp [free, Pat.kind, Pat.name, Pat.n, Pat.args]
theorem matP_free {p : Pat} (h : free p = true) (v : Val) : matP p v := (matP_eq p v).2 (.inl h)
theorem matL_cons {p : Pat} {ps : List Pat} {v : Val} {vs : List Val} : matL (p :: ps) (v :: vs) ↔ matP p v ∧ matL ps vs := by
  rw [matL]
  constructor
  · rintro ⟨v', vs', h, h1, h2⟩
    injection h with h3 h4
    subst h3
    subst h4
    exact ⟨h1, h2⟩
  · rintro ⟨h1, h2⟩
    exact ⟨v, vs, rfl, h1, h2⟩
theorem matL_len : ∀ {ps : List Pat} {vs : List Val}, matL ps vs → ps.length = vs.length
  | [], vs, h => by rw [matL] at h; rw [h]; rfl
  | p :: ps, vs, h => by
    rw [matL] at h
    obtain ⟨v, vs', rfl, _, h2⟩ := h
    simp [matL_len h2]
theorem matL_append : ∀ {a b : List Pat} {x y : List Val}, a.length = x.length → (matL (a ++ b) (x ++ y) ↔ matL a x ∧ matL b y)
  | [], b, [], y, _ => by simp [matL]
  | p :: a, b, v :: x, y, h => by
    rw [List.cons_append, List.cons_append, matL_cons, matL_cons, matL_append (by simpa using h), and_assoc]
  | [], b, _ :: _, y, h => by simp at h
  | _ :: _, b, [], y, h => by simp at h
theorem matL_anys : ∀ (x : List Val), matL (anysL x.length) x
  | [] => by simp [anysL, matL]
  | v :: x => by
    have := matL_anys x
    simp only [anysL, List.length_cons, List.replicate_succ] at this ⊢
    exact matL_cons.2 ⟨matP_free rfl v, this⟩
def fits (ds : List DataSig) : Ty → Val → Prop
  | .any, _ => True
  | .int, _ => True
  | .dat d f, v => ∃ D k vs, ds[d]? = some D ∧ k ∈ D.cons ∧ v = .con k.name vs ∧ vs.length = k.args.length ∧ ∀ (i : Nat) x, vs[i]? = some x → fits ds (f k.name i) x
def fitsL (ds : List DataSig) : List Ty → List Val → Prop
  | [], [] => True
  | τ :: τs, v :: vs => fits ds τ v ∧ fitsL ds τs vs
  | _, _ => False
theorem fitsL.len {ds : List DataSig} : ∀ {τs : List Ty} {vs : List Val}, fitsL ds τs vs → vs.length = τs.length
  | [], [], _ => rfl
  | τ :: τs, v :: vs, h => by simp [fitsL.len h.2]
  | [], _ :: _, h => h.elim
  | _ :: _, [], h => h.elim
theorem fitsL_append {ds : List DataSig} : ∀ {τs σs : List Ty} {x y : List Val}, τs.length = x.length → (fitsL ds (τs ++ σs) (x ++ y) ↔ fitsL ds τs x ∧ fitsL ds σs y)
  | [], σs, [], y, _ => by simp [fitsL]
  | τ :: τs, σs, v :: x, y, h => by
    simp only [List.cons_append, fitsL, fitsL_append (ds := ds) (τs := τs) (σs := σs) (x := x) (y := y) (by simpa using h), and_assoc]
  | [], _, _ :: _, _, h => by simp at h
  | _ :: _, _, [], _, h => by simp at h
theorem fitsL_get {ds : List DataSig} : ∀ {τs : List Ty} {vs : List Val}, vs.length = τs.length → (fitsL ds τs vs ↔ ∀ (i : Nat) τ v, τs[i]? = some τ → vs[i]? = some v → fits ds τ v)
  | [], [], _ => by simp [fitsL]
  | τ :: τs, v :: vs, h => by
    rw [fitsL, fitsL_get (by simpa using h)]
    constructor
    · rintro ⟨h1, h2⟩ i σ u hi hu
      cases i with
      | zero => simp at hi hu; subst hi; subst hu; exact h1
      | succ i => exact h2 i σ u (by simpa using hi) (by simpa using hu)
    · intro k
      exact ⟨k 0 τ v rfl rfl, fun i σ u hi hu => k (i + 1) σ u (by simpa using hi) (by simpa using hu)⟩
  | [], _ :: _, h => by simp at h
  | _ :: _, [], h => by simp at h
theorem fitsL_args {ds : List DataSig} {g : Nat → Ty} {n : Nat} {vs : List Val} (h : vs.length = n) : fitsL ds (argT g n) vs ↔ ∀ (i : Nat) x, vs[i]? = some x → fits ds (g i) x := by
  rw [fitsL_get (by rw [argT_len, h])]
  constructor
  · intro k i x hx
    have hi : i < n := by have := (List.getElem?_eq_some_iff.1 hx).1; omega
    exact k i (g i) x (by simp [argT, hi]) hx
  · intro k i τ x hτ hx
    have hi : i < n := by have := (List.getElem?_eq_some_iff.1 hx).1; omega
    simp only [argT, List.getElem?_map, List.getElem?_range hi, Option.map_some, Option.some.injEq] at hτ
    subst hτ
    exact k i x hx
theorem good_con {ds : List DataSig} {g : Nat → Ty} (h : ∀ i, ∃ v, fits ds (g i) v) (n : Nat) : ∃ vs : List Val, vs.length = n ∧ ∀ (i : Nat) x, vs[i]? = some x → fits ds (g i) x := by
  refine ⟨(List.range n).map fun i => Classical.choose (h i), by simp, fun i x hx => ?_⟩
  have hi : i < n := by have := (List.getElem?_eq_some_iff.1 hx).1; simpa using this
  simp only [List.getElem?_map, List.getElem?_range hi, Option.map_some, Option.some.injEq] at hx
  subst hx
  exact Classical.choose_spec (h i)
theorem good_inh {ds : List DataSig} : ∀ τ : Ty, Good ds τ → ∃ v, fits ds τ v
  | .any, _ => ⟨.int 0, trivial⟩
  | .int, _ => ⟨.int 0, trivial⟩
  | .dat d f, ⟨⟨D, hD, hne⟩, hg⟩ => by
    obtain ⟨k, ks, hk⟩ := List.exists_cons_of_ne_nil hne
    obtain ⟨vs, h1, h2⟩ := good_con (g := f k.name) (fun i => good_inh (f k.name i) (hg k.name i)) k.args.length
    exact ⟨.con k.name vs, D, k, vs, hD, by rw [hk]; exact List.mem_cons_self .., rfl, h1, h2⟩
theorem fresh_spec (l : List Pat) : ∀ (n : Nat) (i : Int), countGE l i < n → (l.any fun p => decide (p.n = fresh l i)) = false
  | 0, i, h => absurd h (Nat.not_lt_zero _)
  | n + 1, i, h => by
    cases ha : (l.any fun p => decide (p.n = i)) with
    | false => rw [fresh_no ha]; exact ha
    | true =>
      rw [fresh_yes ha]
      have := countGE_lt ha
      exact fresh_spec l n (i + 1) (by omega)
/-- What 'absent' finds is a value that no pattern ahead matches. -/
theorem absent_val {t : Tab} {ds : List DataSig} {τ : Ty} {τs : List Ty} {rows : List (List Pat)} {q : Pat} (hok : TabOk t ds) (hT : rowsT t (τ :: τs) rows) (hg : Good ds τ) (h : absentF t ds (first rows) = some q) : ∃ v, fits ds τ v ∧ ∀ p ∈ first rows, ¬ matP p v := by
  cases hl : first rows with
  | nil =>
    obtain ⟨v, hv⟩ := good_inh τ hg
    exact ⟨v, hv, fun p hp => by cases hp⟩
  | cons p l =>
    have hfr : ∀ p' ∈ p :: l, free p' = false := fun p' hp' => by
      obtain ⟨tl, _, h2⟩ := first_mem (rows := rows) (p := p') (by rw [hl]; exact hp')
      exact h2
    rw [hl] at h
    by_cases hk : p.kind = 2
    · refine ⟨.int (fresh (p :: l) 0), ?_, fun p' hp' hm => ?_⟩
      · cases τ with
        | any => trivial
        | int => trivial
        | dat d f =>
          obtain ⟨tl, h1, h2⟩ := first_mem (rows := rows) (p := p) (by rw [hl]; exact List.mem_cons_self ..)
          rcases (hT _ h1).1 with h3 | ⟨h3, _⟩
          · rw [h2] at h3; cases h3
          · rw [hk] at h3; cases h3
      · have hs := fresh_spec (p :: l) _ 0 (Nat.lt_succ_self _)
        have h3 := List.any_eq_false.1 hs p' hp'
        rcases (matP_eq _ _).1 hm with h4 | ⟨_, h4⟩ | ⟨_, vs, h4, _⟩
        · rw [hfr p' hp'] at h4; cases h4
        · injection h4 with h4
          simp [h4] at h3
        · cases h4
    · obtain ⟨d, f, a, D, rfl, h3, ht, hD⟩ := first_head hok hT hl hk
      rw [absentF, if_neg hk] at h
      have hc : consAt t ds p.name = D.cons := by simp only [consAt, ht, hD]
      rw [hc] at h
      cases hfd : D.cons.find? (lacks (p :: l)) with
      | none => rw [hfd] at h; cases h
      | some k =>
        have hkm := List.mem_of_find?_eq_some hfd
        have hkl := List.find?_some hfd
        obtain ⟨vs, h1, h2⟩ := good_con (g := f k.name) (fun i => good_inh (f k.name i) (hg.2 k.name i)) k.args.length
        refine ⟨.con k.name vs, ⟨D, k, vs, hD, hkm, rfl, h1, h2⟩, fun p' hp' hm => ?_⟩
        rcases (matP_eq _ _).1 hm with h4 | ⟨_, h4⟩ | ⟨_, vs', h4, _⟩
        · rw [hfr p' hp'] at h4; cases h4
        · cases h4
        · injection h4 with h4 h5
          simp only [lacks, Bool.not_eq_true', List.any_eq_false, decide_eq_true_eq] at hkl
          exact hkl p' hp' h4.symm
theorem missLoop_iff {rc : List (List Pat) → Nat → List Pat × Bool} {rows : List (List Pat)} {c : Nat} : ∀ ks, (missLoop rc rows c ks).2 = true ↔ ∃ k ∈ ks, (rc (narrow k.name k.args.length rows) (k.args.length + c)).2 = true
  | [] => by simp [missLoop]
  | k :: ks => by
    simp only [missLoop]
    cases hb : (rc (narrow k.name k.args.length rows) (k.args.length + c)).2 with
    | false => simp [missLoop_iff ks, hb]
    | true => simp [hb]
def Lacks (ds : List DataSig) (τs : List Ty) (rows : List (List Pat)) : Prop := ∃ vs, fitsL ds τs vs ∧ ∀ r ∈ rows, ¬ matL r vs
theorem narrow_mat {t : Tab} {d a : Nat} {f : Str → Nat → Ty} {τs : List Ty} {rows : List (List Pat)} {name : Str} {n : Nat} (hT : rowsT t (.dat d f :: τs) rows) (hn : tget t name = some (d, a, n)) {x y : List Val} (hx : x.length = n) :
    (∀ r ∈ narrow name n rows, ¬ matL r (x ++ y)) ↔ ∀ r ∈ rows, ¬ matL r (.con name x :: y) := by
  constructor
  · intro h r hr hm
    have hTr := hT r hr
    cases r with
    | nil => rw [matL] at hm; cases hm
    | cons p tl =>
      obtain ⟨hp, htl⟩ := matL_cons.1 hm
      cases hf : free p with
      | true =>
        refine h (anysL n ++ tl) (List.mem_filterMap.2 ⟨_, hr, by simp [hf]⟩) ?_
        rw [matL_append (by simp [hx])]
        exact ⟨by rw [← hx]; exact matL_anys x, htl⟩
      | false =>
        rcases (matP_eq _ _).1 hp with h4 | ⟨_, h4⟩ | ⟨_, vs, h4, h5⟩
        · rw [hf] at h4; cases h4
        · cases h4
        · injection h4 with h6 h7
          subst h7
          refine h (p.args ++ tl) (List.mem_filterMap.2 ⟨_, hr, by simp [hf, h6]⟩) ?_
          rw [matL_append (matL_len h5)]
          exact ⟨h5, htl⟩
  · intro h r hr hm
    obtain ⟨z, hz, hzr⟩ := List.mem_filterMap.1 hr
    have hTz := hT z hz
    cases z with
    | nil => cases hzr
    | cons p tl =>
      simp only at hzr
      cases hf : free p with
      | true =>
        rw [hf, if_pos rfl] at hzr
        injection hzr with hzr
        subst hzr
        rw [matL_append (by simp [hx])] at hm
        exact h _ hz (matL_cons.2 ⟨matP_free hf _, hm.2⟩)
      | false =>
        rw [hf] at hzr
        simp only [Bool.false_eq_true, if_false] at hzr
        by_cases hname : p.name = name
        · rw [if_pos hname] at hzr
          injection hzr with hzr
          subst hzr
          rcases hTz.1 with h2 | ⟨h3, ⟨a', h2⟩, _⟩
          · rw [hf] at h2; cases h2
          · rw [hname, hn] at h2
            injection h2 with h2
            injection h2 with _ h2
            injection h2 with _ h2
            rw [matL_append (by omega)] at hm
            exact h _ hz (matL_cons.2 ⟨(matP_eq _ _).2 (.inr (.inr ⟨h3, x, by rw [hname], hm.1⟩)), hm.2⟩)
        · rw [if_neg hname] at hzr
          cases hzr
theorem rest_mat {t : Tab} {τ : Ty} {τs : List Ty} {rows : List (List Pat)} (hT : rowsT t (τ :: τs) rows) {v : Val} {vs : List Val} :
    (∀ r ∈ rest rows, ¬ matL r vs) ∧ (∀ p tl, p :: tl ∈ rows → free p = false → ¬ matP p v ∨ ¬ matL tl vs) ↔ ∀ r ∈ rows, ¬ matL r (v :: vs) := by
  constructor
  · rintro ⟨h1, h2⟩ r hr hm
    cases r with
    | nil => rw [matL] at hm; cases hm
    | cons p tl =>
      obtain ⟨hp, htl⟩ := matL_cons.1 hm
      cases hf : free p with
      | true => exact h1 tl (List.mem_filterMap.2 ⟨_, hr, by simp [hf]⟩) htl
      | false => exact (h2 p tl hr hf).elim (fun h => h hp) (fun h => h htl)
  · intro h
    refine ⟨fun r hr hm => ?_, fun p tl hr hf => ?_⟩
    · obtain ⟨z, hz, hzr⟩ := List.mem_filterMap.1 hr
      cases z with
      | nil => cases hzr
      | cons p tl =>
        simp only at hzr
        cases hf : free p with
        | true =>
          rw [hf, if_pos rfl] at hzr
          injection hzr with hzr
          subst hzr
          exact h _ hz (matL_cons.2 ⟨matP_free hf _, hm⟩)
        | false =>
          rw [hf] at hzr
          simp at hzr
    · have := h _ hr
      rw [matL_cons] at this
      rcases Classical.em (matP p v) with h1 | h1
      · exact .inr fun h2 => this ⟨h1, h2⟩
      · exact .inl h1
theorem miss_iff {t : Tab} {ds : List DataSig} (hok : TabOk t ds) : ∀ (f : Nat) (rows : List (List Pat)) (τs : List Ty), MissPre t f rows τs → (∀ τ ∈ τs, Good ds τ) → ((missF t ds f rows τs.length).2 = true ↔ Lacks ds τs rows)
  | 0, rows, τs, h, _ => absurd h.fuel (Nat.not_lt_zero _)
  | f + 1, rows, [], h, _ => by
    show decide ((rows.length : Int) = 0) = true ↔ _
    rw [decide_eq_true_eq]
    constructor
    · intro h0
      have : rows = [] := List.eq_nil_of_length_eq_zero (by omega)
      subst this
      exact ⟨[], trivial, fun r hr => by cases hr⟩
    · rintro ⟨vs, hv, hr⟩
      cases vs with
      | cons v vs => exact hv.elim
      | nil =>
        cases rows with
        | nil => rfl
        | cons r rs =>
          have hT := h.ty r (List.mem_cons_self ..)
          cases r with
          | cons p tl => exact hT.elim
          | nil => exact absurd (by simp [matL]) (hr [] (List.mem_cons_self ..))
  | f + 1, rows, τ :: τs, h, hg => by
    obtain ⟨hT, hl, hf⟩ := h
    rw [List.length_cons] at hf
    have hgτ := hg τ (List.mem_cons_self ..)
    have hgs : ∀ σ ∈ τs, Good ds σ := fun σ hσ => hg σ (List.mem_cons_of_mem _ hσ)
    show (missF t ds (f + 1) rows (τs.length + 1)).2 = true ↔ _
    rw [missF]
    cases hab : absentF t ds (first rows) with
    | some q =>
      have hrw := rest_w rows
      have hrl : (rest rows).length ≤ rows.length := List.length_filterMap_le _ _
      have ih := miss_iff hok f (rest rows) τs ⟨hT.rest, by omega, by omega⟩ hgs
      show (missF t ds f (rest rows) τs.length).2 = true ↔ _
      rw [ih]
      constructor
      · rintro ⟨vs, hv, hr⟩
        obtain ⟨v, hv1, hv2⟩ := absent_val hok hT hgτ hab
        refine ⟨v :: vs, ⟨hv1, hv⟩, (rest_mat hT).1 ⟨hr, fun p tl hp hfp => .inl (hv2 p (List.mem_filterMap.2 ⟨_, hp, by simp [hfp]⟩))⟩⟩
      · rintro ⟨vs, hv, hr⟩
        cases vs with
        | nil => exact hv.elim
        | cons v vs => exact ⟨vs, hv.2, ((rest_mat hT).2 hr).1⟩
    | none =>
      obtain ⟨d, g, D, hF⟩ := absent_none hok hT hab
      obtain ⟨hτ, hD, hcons, hall⟩ := hF
      subst hτ
      show (missLoop (missF t ds f) rows τs.length (consAt t ds ((first rows).headD anyP).name)).2 = true ↔ _
      rw [hcons, missLoop_iff]
      have step : ∀ k ∈ D.cons, ((missF t ds f (narrow k.name k.args.length rows) (k.args.length + τs.length)).2 = true ↔ Lacks ds (argT (g k.name) k.args.length ++ τs) (narrow k.name k.args.length rows)) := fun k hk => by
        obtain ⟨q1, tl1, hq1, hqf, hqn, hea, a1, hta⟩ := hall k hk
        have hw1 := narrow_w1 k.name k.args.length hqf hqn rows hq1
        have hln : (narrow k.name k.args.length rows).length ≤ rows.length := List.length_filterMap_le _ _
        have hal := argT_len (g k.name) k.args.length
        have ih := miss_iff hok f (narrow k.name k.args.length rows) (argT (g k.name) k.args.length ++ τs) ⟨hT.narrow hta, by omega, by rw [List.length_append, hal]; omega⟩ fun σ hσ => by
          rcases List.mem_append.1 hσ with hσ | hσ
          · obtain ⟨i, _, rfl⟩ := List.mem_map.1 hσ
            exact hgτ.2 _ _
          · exact hgs σ hσ
        rw [List.length_append, hal] at ih
        exact ih
      constructor
      · rintro ⟨k, hk, hm⟩
        obtain ⟨ws, hw, hr⟩ := (step k hk).1 hm
        obtain ⟨_, _, _, _, _, hea, a1, hta⟩ := hall k hk
        have hwl := hw.len
        rw [List.length_append, argT_len] at hwl
        have hsplit : ws = ws.take k.args.length ++ ws.drop k.args.length := (List.take_append_drop _ _).symm
        have htl : (ws.take k.args.length).length = k.args.length := by rw [List.length_take]; omega
        rw [hsplit] at hw hr
        rw [fitsL_append (by rw [argT_len, htl])] at hw
        rw [narrow_mat hT hta htl] at hr
        refine ⟨.con k.name (ws.take k.args.length) :: ws.drop k.args.length, ?_, hr⟩
        exact ⟨⟨D, k, _, hD, hk, rfl, htl, (fitsL_args htl).1 hw.1⟩, hw.2⟩
      · rintro ⟨vs, hv, hr⟩
        cases vs with
        | nil => exact hv.elim
        | cons v vs =>
          obtain ⟨⟨D', k, as, hD', hk, rfl, hlen, hfit⟩, hv2⟩ := hv
          rw [hD] at hD'
          injection hD' with hD'
          subst hD'
          obtain ⟨_, _, _, _, _, hea, a1, hta⟩ := hall k hk
          refine ⟨k, hk, (step k hk).2 ⟨as ++ vs, ?_, ?_⟩⟩
          · rw [fitsL_append (by rw [argT_len, hlen])]
            exact ⟨(fitsL_args hlen).2 hfit, hv2⟩
          · rw [narrow_mat hT hta hlen]
            exact hr
end Go.PM
namespace Go.PM
open Go.VL
def sNil : Str := [78, 105, 108]
def sCons : Str := [67, 111, 110, 115]
def sList : Str := [76, 105, 115, 116]
def workDs (z : V) : List DataSig := [⟨sList, 0, [⟨sNil, []⟩, ⟨sCons, [z, z]⟩]⟩]
def nilP : Pat := .mk 3 sNil 0 []
def nineP : Pat := .mk 9 [] 0 []
def workTab : Tab := [(sNil, 0, 0, 0), (sCons, 0, 1, 2)]
theorem work_build (z : V) : buildF 0 (workDs z) [] = some workTab := by
  simp [workDs, buildF, addCons, tget, sNil, sCons, workTab]
theorem work_agree (f : Nat) : agreeF workTab (f + 1) [nilP] = true := by
  simp [agreeF, sameKind, agreeLoop, agreeArgs, nf, free, nilP, Pat.kind, Pat.args]
theorem work_check (z : V) : checkF (workDs z) [[nilP]] = 0 := by
  rw [checkF, work_build]
  have h1 : small (workDs z) [[nilP]] = true := by simp [small, small.smallRows, sizeF, sizeLoop, nilP, Pat.args, workDs]
  have h3 : colsLoop workTab [[nilP]] 0 1 = true := by
    rw [colsLoop, colsLoop, show colF [[nilP]] 0 = [nilP] from rfl, work_agree 400]
    rfl
  have h4 : errRows workTab [[nilP]] = 0 := by simp [errRows, patsF, nilP, patF, workTab, tget]
  have h2 : checkT workTab [[nilP]] = 0 := by
    rw [checkT, show width [[nilP]] = 1 from rfl, h3, h4]
    simp [sameLen, width]
  rw [h1]
  simpa using h2
theorem work_nine (z : V) : checkF (workDs z) [[nineP]] = 3 := by
  rw [checkF, work_build]
  have h1 : small (workDs z) [[nineP]] = true := by simp [small, small.smallRows, sizeF, sizeLoop, nineP, Pat.args, workDs]
  have h2 : checkT workTab [[nineP]] = 3 := by
    simp [checkT, sameLen, width, errRows, patsF, nineP, patF]
  rw [h1]
  simpa using h2
theorem work_miss (z : V) (f : Nat) : missF workTab (workDs z) (f + 4) [[nilP]] 1 = ([.mk 3 sCons 0 [anyP, anyP]], true) := by
  simp [missF, first, rest, free, nilP, Pat.kind, Pat.name, absentF, consAt, workTab, tget, workDs, lacks, sNil, sCons, List.find?, List.replicate]
theorem work_out (z : V) : missOut (workDs z) [[nilP]] 1 = ([.mk 3 sCons 0 [anyP, anyP]], 0) := by
  have hb : ¬ missBad [[nilP]] 1 := by
    rintro (h | h | ⟨_, h⟩)
    · omega
    · omega
    · exact h rfl
  rw [missOut_ok (work_check z) hb (work_build z)]
  have h1 : fuel0 = 399996 + 4 := by rw [fuel0_eq]
  have := work_miss z 399996
  rw [← h1] at this
  rw [show (1 : Int).toNat = 1 from rfl, this]
  rfl
theorem work_sized (z : V) : Sized (workDs z) := fun d hd k hk => by
  simp only [workDs, List.mem_singleton] at hd
  subst hd
  simp at hk
  rcases hk with rfl | rfl <;> simp
end Go.PM
namespace Go.PM
open Go.VL
/-- A row with its first and its last pattern exchanged. -/
def turn (r : List Pat) : List Pat := (r.set 0 (r.getD (r.length - 1) anyP)).set (r.length - 1) (r.getD 0 anyP)
def turnedF (ds : List DataSig) (rows : List (List Pat)) (c : Int) : Bool :=
  if (missOut ds rows c).2 ≠ 0 ∨ c < 2 then (decide ((missOut ds rows c).2 = 0) || decide (((missOut ds rows c).1.length : Int) = 0))
  else decide ((missOut ds (rows.map turn) c).2 = 0) && (decide (((missOut ds rows c).1.length : Int) > 0) == decide (((missOut ds (rows.map turn) c).1.length : Int) > 0))
theorem turn_map (r : List Pat) (a b : Pat) (ha : r.getD 0 anyP = a) (hb : r.getD (r.length - 1) anyP = b) : (turn r).map patV = ((r.map patV).set 0 (patX b)).set (r.length - 1) (patX a) := by
  unfold turn
  rw [ha, hb, List.map_set, List.map_set, patV_eq, patV_eq]
theorem set_fit {l : List V} {n i : Nat} {v : V} (h : ∀ y ∈ l, y.leaves.length = n) (hv : v.leaves.length = n) : ∀ y ∈ l.set i v, y.leaves.length = n := fun y hy => by
  rcases List.mem_or_eq_of_mem_set hy with h1 | h1
  · exact h y h1
  · rw [h1]; exact hv
theorem check_build {ds : List DataSig} {rows : List (List Pat)} (h : checkF ds rows = 0) : ∃ t, buildF 0 ds [] = some t := by
  cases hb : buildF 0 ds [] with
  | some t => exact ⟨t, rfl⟩
  | none =>
    rw [checkF, hb] at h
    by_cases hs : small ds rows = false
    · rw [if_pos hs] at h; cases h
    · rw [if_neg hs] at h; cases h
theorem row_len {ds : List DataSig} {rows : List (List Pat)} {c : Int} (h : checkF ds rows = 0) (hnb : ¬ missBad rows c) : ∀ r ∈ rows, (r.length : Int) = c := fun r hr => by
  obtain ⟨t, hb⟩ := check_build h
  rw [same_all (check_parts h hb).2.1 r hr]
  rcases Decidable.em (c = width rows) with h1 | h1
  · exact h1.symm
  · exact absurd (.inr (.inr ⟨fun e => (by rw [e] at hr; cases hr), h1⟩)) hnb
theorem miss_zero {ds : List DataSig} {rows : List (List Pat)} {c : Int} (h : (missOut ds rows c).2 = 0) : checkF ds rows = 0 ∧ ¬ missBad rows c := by
  by_cases h1 : checkF ds rows = 0
  · refine ⟨h1, fun h2 => ?_⟩
    rw [missOut_bad h1 h2] at h
    cases h
  · rw [missOut_err h1] at h
    exact absurd h h1
end Go.PM
namespace Go.PM
open Go.VL
def sw {α : Type} (d : α) (l : List α) : List α := (l.set 0 (l.getD (l.length - 1) d)).set (l.length - 1) (l.getD 0 d)
theorem turn_sw (r : List Pat) : turn r = sw anyP r := rfl
def sg (n i : Nat) : Nat := if i = n - 1 then 0 else if i = 0 then n - 1 else i
theorem sw_len {α : Type} (d : α) (l : List α) : (sw d l).length = l.length := by simp [sw]
theorem sw_get {α : Type} (d : α) {l : List α} {n : Nat} (hn : l.length = n) (h2 : 2 ≤ n) (i : Nat) (hi : i < n) : (sw d l)[i]? = l[sg n i]? := by
  unfold sw sg
  subst hn
  rw [List.getElem?_set]
  by_cases h1 : l.length - 1 = i
  · rw [if_pos h1, if_pos h1.symm]
    have : l.length - 1 < (l.set 0 (l.getD (l.length - 1) d)).length := by rw [List.length_set]; omega
    rw [if_pos this]
    have h0 : 0 < l.length := by omega
    simp [h0]
  · rw [if_neg h1, if_neg (fun e => h1 e.symm), List.getElem?_set]
    by_cases h3 : 0 = i
    · rw [if_pos h3, if_pos h3.symm]
      have h0 : 0 < l.length := by omega
      have h4 : l.length - 1 < l.length := by omega
      simp [h0, h4]
    · rw [if_neg h3, if_neg (fun e => h3 e.symm)]
theorem sg_lt {n i : Nat} (h2 : 2 ≤ n) (hi : i < n) : sg n i < n := by unfold sg; split <;> (try split) <;> omega
theorem sg_sg {n i : Nat} (h2 : 2 ≤ n) (hi : i < n) : sg n (sg n i) = i := by
  unfold sg
  by_cases h1 : i = n - 1
  · simp only [h1, if_true]
    have : ¬ (0 = n - 1) := by omega
    simp [this]
  · by_cases h3 : i = 0
    · subst h3
      simp [h1]
    · simp [h1, h3]
theorem sw_sw {α : Type} (d : α) {l : List α} {n : Nat} (hn : l.length = n) (h2 : 2 ≤ n) : sw d (sw d l) = l := by
  apply List.ext_getElem?
  intro i
  by_cases hi : i < n
  · rw [sw_get d (by rw [sw_len, hn]) h2 i hi, sw_get d hn h2 _ (sg_lt h2 hi), sg_sg h2 hi]
  · rw [List.getElem?_eq_none (by rw [sw_len, sw_len]; omega), List.getElem?_eq_none (by omega)]
theorem sw_mem {α : Type} (d : α) {l : List α} {n : Nat} (hn : l.length = n) (h2 : 2 ≤ n) {x : α} : x ∈ sw d l → x ∈ l := fun h => by
  obtain ⟨i, hi⟩ := List.getElem?_of_mem h
  have hlt : i < n := by have := (List.getElem?_eq_some_iff.1 hi).1; rw [sw_len, hn] at this; exact this
  rw [sw_get d hn h2 i hlt] at hi
  exact List.mem_of_getElem? hi
theorem matL_get : ∀ {r : List Pat} {vs : List Val}, r.length = vs.length → (matL r vs ↔ ∀ (i : Nat) p v, r[i]? = some p → vs[i]? = some v → matP p v)
  | [], [], _ => by simp [matL]
  | p :: r, v :: vs, h => by
    rw [matL_cons, matL_get (by simpa using h)]
    constructor
    · rintro ⟨h1, h2⟩ i q u hi hu
      cases i with
      | zero => simp at hi hu; subst hi; subst hu; exact h1
      | succ i => exact h2 i q u (by simpa using hi) (by simpa using hu)
    · intro k
      exact ⟨k 0 p v rfl rfl, fun i q u hi hu => k (i + 1) q u (by simpa using hi) (by simpa using hu)⟩
  | [], _ :: _, h => by simp at h
  | _ :: _, [], h => by simp at h
theorem matL_sw {r : List Pat} {vs : List Val} {n : Nat} (h2 : 2 ≤ n) (hr : r.length = n) (hv : vs.length = n) : matL (turn r) (sw (.int 0) vs) ↔ matL r vs := by
  rw [turn_sw, matL_get (by rw [sw_len, sw_len, hr, hv]), matL_get (by rw [hr, hv])]
  constructor
  · intro k i p v hp hu
    have hi : i < n := by have := (List.getElem?_eq_some_iff.1 hp).1; omega
    refine k (sg n i) p v ?_ ?_
    · rw [sw_get anyP hr h2 _ (sg_lt h2 hi), sg_sg h2 hi]; exact hp
    · rw [sw_get (Val.int 0) hv h2 _ (sg_lt h2 hi), sg_sg h2 hi]; exact hu
  · intro k i p v hp hu
    have hi : i < n := by have := (List.getElem?_eq_some_iff.1 hp).1; rw [sw_len] at this; omega
    rw [sw_get anyP hr h2 i hi] at hp
    rw [sw_get (Val.int 0) hv h2 i hi] at hu
    exact k _ p v hp hu
theorem fitsL_sw {ds : List DataSig} {τs : List Ty} {vs : List Val} {n : Nat} (h2 : 2 ≤ n) (hr : τs.length = n) (h : fitsL ds τs vs) : fitsL ds (sw .any τs) (sw (.int 0) vs) := by
  have hv := h.len
  rw [fitsL_get (by rw [sw_len, sw_len, hv])]
  rw [fitsL_get hv] at h
  intro i τ v hτ hu
  have hi : i < n := by have := (List.getElem?_eq_some_iff.1 hτ).1; rw [sw_len] at this; omega
  rw [sw_get .any hr h2 i hi] at hτ
  rw [sw_get (Val.int 0) (by rw [hv, hr]) h2 i hi] at hu
  exact h _ τ v hτ hu
theorem lacks_sw {ds : List DataSig} {τs : List Ty} {rows : List (List Pat)} {n : Nat} (h2 : 2 ≤ n) (hr : τs.length = n) (hl : ∀ r ∈ rows, r.length = n) : Lacks ds (sw .any τs) (rows.map turn) ↔ Lacks ds τs rows := by
  constructor
  · rintro ⟨vs, hv, h⟩
    have hvl := hv.len
    rw [sw_len, hr] at hvl
    have hss := sw_sw (.int 0) hvl h2
    refine ⟨sw (.int 0) vs, ?_, fun r hrm hm => ?_⟩
    · have := fitsL_sw h2 (by rw [sw_len, hr]) hv
      rwa [sw_sw .any hr h2] at this
    · refine h (turn r) (List.mem_map.2 ⟨r, hrm, rfl⟩) ?_
      rw [← hss, matL_sw h2 (hl r hrm) (by rw [sw_len, hvl])]
      exact hm
  · rintro ⟨vs, hv, h⟩
    have hvl := hv.len
    rw [hr] at hvl
    refine ⟨sw (.int 0) vs, fitsL_sw h2 hr hv, fun r hrm hm => ?_⟩
    obtain ⟨r', hr', rfl⟩ := List.mem_map.1 hrm
    rw [matL_sw h2 (hl r' hr') hvl] at hm
    exact h r' hr' hm
theorem rowT.get {t : Tab} : ∀ {τs : List Ty} {r : List Pat}, rowT t τs r → ∀ (i : Nat) τ p, τs[i]? = some τ → r[i]? = some p → wt t τ p
  | [], [], _, i, τ, p, h, _ => by simp at h
  | τ :: τs, q :: r, h, i, σ, p, h1, h2 => by
    cases i with
    | zero => simp at h1 h2; subst h1; subst h2; exact h.1
    | succ i => exact rowT.get h.2 i σ p (by simpa using h1) (by simpa using h2)
  | [], _ :: _, h, _, _, _, _, _ => h.elim
  | _ :: _, [], h, _, _, _, _, _ => h.elim
theorem rowT_sw {t : Tab} {τs : List Ty} {r : List Pat} {n : Nat} (h2 : 2 ≤ n) (hn : τs.length = n) (h : rowT t τs r) : rowT t (sw .any τs) (turn r) := by
  have hl := h.len
  rw [turn_sw]
  refine rowT.of_get (by rw [sw_len, sw_len, hl]) fun i τ p h1 h3 => ?_
  have hi : i < n := by have := (List.getElem?_eq_some_iff.1 h1).1; rw [sw_len] at this; omega
  rw [sw_get .any hn h2 i hi] at h1
  rw [sw_get anyP (by rw [hl, hn]) h2 i hi] at h3
  exact h.get _ τ p h1 h3
theorem cL_set : ∀ {l : List Pat} {i : Nat} {x y : Pat}, l[i]? = some y → cL (l.set i x) + cP y = cL l + cP x
  | [], i, x, y, h => by simp at h
  | p :: l, 0, x, y, h => by simp at h; subst h; simp only [List.set_cons_zero, cL]; omega
  | p :: l, i + 1, x, y, h => by
    have := cL_set (l := l) (i := i) (x := x) (y := y) (by simpa using h)
    simp only [List.set_cons_succ, cL]
    omega
theorem wL_set : ∀ {l : List Pat} {i : Nat} {x y : Pat}, l[i]? = some y → wL (l.set i x) + wP y = wL l + wP x
  | [], i, x, y, h => by simp at h
  | p :: l, 0, x, y, h => by simp at h; subst h; simp only [List.set_cons_zero, wL]; omega
  | p :: l, i + 1, x, y, h => by
    have := wL_set (l := l) (i := i) (x := x) (y := y) (by simpa using h)
    simp only [List.set_cons_succ, wL]
    omega
theorem turn_ends {r : List Pat} (h2 : 2 ≤ r.length) : ∃ a b, r[0]? = some a ∧ r[r.length - 1]? = some b ∧ (r.set 0 b)[r.length - 1]? = some b ∧ turn r = (r.set 0 b).set (r.length - 1) a := by
  obtain ⟨a, ha⟩ := get_of_lt r 0 (by omega)
  obtain ⟨b, hb⟩ := get_of_lt r (r.length - 1) (by omega)
  refine ⟨a, b, ha, hb, ?_, by unfold turn; simp [ha, hb]⟩
  rw [List.getElem?_set, if_neg (by omega), hb]
theorem cL_turn {r : List Pat} (h2 : 2 ≤ r.length) : cL (turn r) = cL r := by
  obtain ⟨a, b, ha, hb, hc, e⟩ := turn_ends h2
  have h1 := cL_set (x := b) ha
  have h3 := cL_set (x := a) hc
  rw [e]
  omega
theorem wL_turn {r : List Pat} (h2 : 2 ≤ r.length) : wL (turn r) = wL r := by
  obtain ⟨a, b, ha, hb, hc, e⟩ := turn_ends h2
  have h1 := wL_set (x := b) ha
  have h3 := wL_set (x := a) hc
  rw [e]
  omega
theorem cR_turn : ∀ {rows : List (List Pat)}, (∀ r ∈ rows, 2 ≤ r.length) → cR (rows.map turn) = cR rows
  | [], _ => rfl
  | r :: rows, h => by
    have ih := cR_turn (rows := rows) fun r hr => h r (List.mem_cons_of_mem _ hr)
    simp only [List.map_cons, cR, ih, cL_turn (h r (List.mem_cons_self ..))]
theorem wR_turn : ∀ {rows : List (List Pat)}, (∀ r ∈ rows, 2 ≤ r.length) → wR (rows.map turn) = wR rows
  | [], _ => rfl
  | r :: rows, h => by
    have ih := wR_turn (rows := rows) fun r hr => h r (List.mem_cons_of_mem _ hr)
    simp only [List.map_cons, wR, ih, wL_turn (h r (List.mem_cons_self ..))]

/-! ### The limits, told without an order -/
def dL : Nat → List Pat → Bool
  | 0, l => l.length == 0
  | n + 1, l => l.all fun p => dL n p.args
theorem sizeLoop_iff {n : Nat} (h : ∀ (l : List Pat) (m : Int), 0 ≤ m → m ≤ 400 → ((sizeF n l m).1 = true ↔ dL n l = true ∧ m + cL l ≤ 400)) : ∀ (l : List Pat) (m : Int), 0 ≤ m → m ≤ 400 → ((sizeLoop (sizeF n) l m).1 = true ↔ (l.all fun p => dL n p.args) = true ∧ m + cL l ≤ 400)
  | [], m, h0, h4 => by simp [sizeLoop, cL, h4]
  | p :: l, m, h0, h4 => by
    have hc := cP_eq p
    simp only [sizeLoop, List.all_cons, cL]
    by_cases hm : m + 1 > 400
    · rw [if_pos hm]
      constructor
      · intro h; cases h
      · rintro ⟨_, h⟩; omega
    · rw [if_neg hm]
      have h1 := h p.args (m + 1) (by omega) (by omega)
      have h2 := sizeF_le n p.args (m + 1) (by omega) (by omega)
      cases hb : (sizeF n p.args (m + 1)).1 with
      | false =>
        rw [cond_false]
        constructor
        · intro h; cases h
        · rintro ⟨h3, h5⟩
          rw [Bool.and_eq_true] at h3
          have := h1.2 ⟨h3.1, by omega⟩
          rw [hb] at this; cases this
      | true =>
        have h3 := h1.1 hb
        have h5 := sizeF_cL n p.args (m + 1) hb
        have ih := sizeLoop_iff h l (sizeF n p.args (m + 1)).2 (by omega) (h2.2 hb)
        rw [cond_true, ih, h5, Bool.and_eq_true]
        constructor
        · rintro ⟨h6, h7⟩; exact ⟨⟨h3.1, h6⟩, by omega⟩
        · rintro ⟨⟨_, h6⟩, h7⟩; exact ⟨h6, by omega⟩
theorem sizeF_iff : ∀ (n : Nat) (l : List Pat) (m : Int), 0 ≤ m → m ≤ 400 → ((sizeF n l m).1 = true ↔ dL n l = true ∧ m + cL l ≤ 400)
  | 0, l, m, h0, h4 => by
    cases l with
    | nil => simp [sizeF, dL, cL, h4]
    | cons p l => simp [sizeF, dL]
  | n + 1, l, m, h0, h4 => sizeLoop_iff (sizeF_iff n) l m h0 h4
theorem smallRows_iff : ∀ (rows : List (List Pat)) (m : Int), 0 ≤ m → m ≤ 400 → (small.smallRows rows m = true ↔ (∀ r ∈ rows, r.length ≤ 16 ∧ dL 20 r = true) ∧ m + cR rows ≤ 400)
  | [], m, h0, h4 => by simp [small.smallRows, cR, h4]
  | r :: rows, m, h0, h4 => by
    simp only [small.smallRows, cR]
    by_cases hl : r.length > 16
    · rw [if_pos hl]
      constructor
      · intro h; cases h
      · rintro ⟨h, _⟩
        have := (h r (List.mem_cons_self ..)).1
        omega
    · rw [if_neg hl]
      have h1 := sizeF_iff 20 r m h0 h4
      have h2 := sizeF_le 20 r m h0 h4
      cases hb : (sizeF 20 r m).1 with
      | false =>
        rw [cond_false]
        constructor
        · intro h; cases h
        · rintro ⟨h3, h5⟩
          have := h1.2 ⟨(h3 r (List.mem_cons_self ..)).2, by omega⟩
          rw [hb] at this; cases this
      | true =>
        have h3 := h1.1 hb
        have h5 := sizeF_cL 20 r m hb
        have ih := smallRows_iff rows (sizeF 20 r m).2 (by omega) (h2.2 hb)
        rw [cond_true, ih, h5]
        constructor
        · rintro ⟨h6, h7⟩
          refine ⟨fun x hx => ?_, by omega⟩
          rcases List.mem_cons.1 hx with rfl | hx
          · exact ⟨by omega, h3.1⟩
          · exact h6 x hx
        · rintro ⟨h6, h7⟩; exact ⟨fun x hx => h6 x (List.mem_cons_of_mem _ hx), by omega⟩
theorem small_iff {ds : List DataSig} {rows : List (List Pat)} : small ds rows = true ↔ ((∀ r ∈ rows, r.length ≤ 16 ∧ dL 20 r = true) ∧ cR rows ≤ 400) ∧ rows.length ≤ 64 ∧ (ds.any fun d => decide ((d.cons.length : Int) > 256)) = false := by
  unfold small
  rw [Bool.and_eq_true, Bool.and_eq_true, smallRows_iff rows 0 (Int.le_refl _) (by omega), decide_eq_true_eq, Bool.not_eq_true']
  constructor
  · rintro ⟨⟨⟨a, b⟩, c⟩, d⟩; exact ⟨⟨a, by omega⟩, c, d⟩
  · rintro ⟨⟨a, b⟩, c, d⟩; exact ⟨⟨⟨a, by omega⟩, c⟩, d⟩
end Go.PM
namespace Go.PM
open Go.VL
theorem patsF_iff {t : Tab} : ∀ {l : List Pat}, patsF t l = 0 ↔ ∀ q ∈ l, patF t q = 0
  | [] => by simp [patsF]
  | p :: l => by
    have ih := patsF_iff (t := t) (l := l)
    rw [patsF]
    by_cases hp : patF t p = 0
    · rw [if_neg (by simpa using hp), ih]
      simp [hp]
    · rw [if_pos hp]
      simp [hp]
theorem errRows_iff {t : Tab} : ∀ {rows : List (List Pat)}, errRows t rows = 0 ↔ ∀ r ∈ rows, patsF t r = 0
  | [] => by simp [errRows]
  | r :: rs => by
    have ih := errRows_iff (t := t) (rows := rs)
    rw [errRows]
    by_cases hr : patsF t r = 0
    · rw [if_neg (by simpa using hr), ih]
      simp [hr]
    · rw [if_pos hr]
      simp [hr]
theorem colsLoop_of {t : Tab} {rows : List (List Pat)} : ∀ (k n : Nat), (∀ i, n ≤ i → i < n + k → agreeF t 401 (colF rows i) = true) → colsLoop t rows n k = true
  | 0, n, _ => rfl
  | k + 1, n, h => by
    rw [colsLoop, h n (Nat.le_refl _) (by omega), Bool.true_and]
    exact colsLoop_of k (n + 1) fun i h1 h2 => h i (by omega) (by omega)
theorem checkF_zero {ds : List DataSig} {rows : List (List Pat)} {t : Tab} (hs : small ds rows = true) (hb : buildF 0 ds [] = some t) (ha : rows.all (sameLen rows) = true) (he : errRows t rows = 0) (hc : colsLoop t rows 0 (width rows) = true) : checkF ds rows = 0 := by
  simp [checkF, hs, hb, checkT, ha, he, hc]
theorem small_true {ds : List DataSig} {rows : List (List Pat)} (h : checkF ds rows = 0) : small ds rows = true := by
  unfold checkF at h
  cases hs : small ds rows with
  | true => rfl
  | false => rw [hs] at h; simp at h
theorem check_turn {ds : List DataSig} {rows : List (List Pat)} {c : Int} (h : checkF ds rows = 0) (hnb : ¬ missBad rows c) (h2 : 2 ≤ c) : checkF ds (rows.map turn) = 0 ∧ ¬ missBad (rows.map turn) c := by
  obtain ⟨t, hb⟩ := check_build h
  obtain ⟨hsm, ha, he, hc⟩ := check_parts h hb
  have hlen := row_len h hnb
  have hw : rows ≠ [] → (width rows : Int) = c := fun hne => by
    rcases Decidable.em (c = width rows) with h1 | h1
    · exact h1.symm
    · exact absurd (.inr (.inr ⟨hne, h1⟩)) hnb
  have hwt : width (rows.map turn) = width rows := by
    cases rows with
    | nil => rfl
    | cons r rs => simp [width, turn_sw, sw_len]
  have h2r : ∀ r ∈ rows, 2 ≤ r.length := fun r hr => by have := hlen r hr; omega
  refine ⟨checkF_zero (t := t) ?_ hb ?_ ?_ ?_, ?_⟩
  · have h1 := small_iff.1 (small_true h)
    refine small_iff.2 ⟨⟨fun r hr => ?_, by rw [cR_turn h2r]; exact h1.1.2⟩, by rw [List.length_map]; exact h1.2.1, h1.2.2⟩
    obtain ⟨r', hr', rfl⟩ := List.mem_map.1 hr
    have h3 := h1.1.1 r' hr'
    refine ⟨by rw [turn_sw, sw_len]; exact h3.1, ?_⟩
    have h4 := h3.2
    rw [dL, List.all_eq_true] at h4 ⊢
    exact fun p hp => h4 p (sw_mem anyP rfl (h2r r' hr') (by rw [← turn_sw]; exact hp))
  · rw [List.all_eq_true]
    intro r hr
    obtain ⟨r', hr', rfl⟩ := List.mem_map.1 hr
    unfold sameLen
    rw [hwt, turn_sw, sw_len]
    exact List.all_eq_true.1 ha r' hr'
  · rw [errRows_iff]
    intro r hr
    obtain ⟨r', hr', rfl⟩ := List.mem_map.1 hr
    rw [patsF_iff]
    intro p hp
    exact patsF_iff.1 (errRows_iff.1 he r' hr') p (sw_mem anyP rfl (h2r r' hr') (by rw [← turn_sw]; exact hp))
  · rw [hwt]
    refine colsLoop_of _ _ fun i _ hi => ?_
    rw [Nat.zero_add] at hi
    by_cases hne : rows = []
    · rw [hne] at hi; cases hi
    have hwc := hw hne
    have hcol : colF (rows.map turn) i = colF rows (sg (width rows) i) := by
      unfold colF
      rw [List.map_map]
      refine List.map_congr_left fun r hr => ?_
      have hrl : r.length = width rows := by have := hlen r hr; omega
      have := sw_get anyP hrl (by omega) i hi
      simp only [Function.comp, turn_sw, List.getD_eq_getElem?_getD, this]
    rw [hcol]
    exact colsLoop_all _ _ hc _ (Nat.zero_le _) (by have := sg_lt (n := width rows) (i := i) (by omega) hi; omega)
  · rintro (h1 | h1 | ⟨h1, h3⟩)
    · omega
    · exact hnb (.inr (.inl h1))
    · rw [hwt] at h3
      exact hnb (.inr (.inr ⟨fun e => h1 (by rw [e]; rfl), h3⟩))
/-- What Missing answers, told by what it means. -/
theorem missOut_lacks {ds : List DataSig} {rows : List (List Pat)} {c : Int} {t : Tab} {τs : List Ty} (hok : TabOk t ds) (h : checkF ds rows = 0) (hnb : ¬ missBad rows c) (hb : buildF 0 ds [] = some t) (hc : (τs.length : Int) = c) (hT : Typed ds t rows τs) (h1 : 1 ≤ c) :
    (missOut ds rows c).2 = 0 ∧ (0 < (missOut ds rows c).1.length ↔ Lacks ds τs rows) := by
  rw [missOut_ok h hnb hb, show c.toNat = τs.length by omega]
  have h2 := miss_iff hok fuel0 rows τs hT.pre hT.good
  have h3 := missF_len t ds fuel0 rows τs.length
  refine ⟨rfl, ?_⟩
  cases hm : (missF t ds fuel0 rows τs.length).2 with
  | true =>
    rw [hm] at h2 h3
    have := h3.2 rfl
    simp only [cond_true]
    exact ⟨fun _ => h2.1 rfl, fun _ => by omega⟩
  | false =>
    rw [hm] at h2
    simp only [cond_false]
    constructor
    · intro h; simp at h
    · intro h; cases h2.2 h
theorem typed_turn {ds : List DataSig} {rows : List (List Pat)} {t : Tab} {τs : List Ty} {n : Nat} (h2 : 2 ≤ n) (hn : τs.length = n) (hl : ∀ r ∈ rows, r.length = n) (h : Typed ds t rows τs) : Typed ds t (rows.map turn) (sw .any τs) := by
  refine ⟨fun τ hτ => h.good τ (sw_mem .any hn h2 hτ), ⟨fun r hr => ?_, by rw [List.length_map]; exact h.pre.len, ?_⟩⟩
  · obtain ⟨r', hr', rfl⟩ := List.mem_map.1 hr
    exact rowT_sw h2 hn (h.pre.ty r' hr')
  · rw [sw_len, wR_turn fun r hr => by rw [hl r hr]; exact h2]
    exact h.pre.fuel
theorem turned_law (ds : List DataSig) (hz : Sized ds) (rows : List (List Pat)) (c : Int) : turnedF ds rows c = true := by
  unfold turnedF
  by_cases h0 : (missOut ds rows c).2 ≠ 0 ∨ c < 2
  · rw [if_pos h0]
    by_cases h1 : (missOut ds rows c).2 = 0
    · simp [h1]
    · have : (missOut ds rows c).1 = [] := by
        by_cases h2 : checkF ds rows = 0
        · by_cases h3 : missBad rows c
          · rw [missOut_bad h2 h3]
          · obtain ⟨t, hb⟩ := check_build h2
            rw [missOut_ok h2 h3 hb] at h1
            exact absurd rfl h1
        · rw [missOut_err h2]
      simp [this]
  · rw [if_neg h0]
    have h1 : (missOut ds rows c).2 = 0 := Decidable.not_not.1 fun h => h0 (.inl h)
    have h2 : 2 ≤ c := by
      rcases Decidable.em (c < 2) with h | h
      · exact absurd (.inr h) h0
      · omega
    obtain ⟨hck, hnb⟩ := miss_zero h1
    obtain ⟨t, hb⟩ := check_build hck
    obtain ⟨τs, hτ, hT⟩ := typed_of hck hb hnb
    have hok := tabOk_of hb (check_parts hck hb).1 hz
    obtain ⟨hck2, hnb2⟩ := check_turn hck hnb h2
    have hlen : ∀ r ∈ rows, r.length = τs.length := fun r hr => by have := row_len hck hnb r hr; omega
    have hT2 := typed_turn (by omega) rfl hlen hT
    have e1 := missOut_lacks hok hck hnb hb hτ hT (by omega)
    have e2 := missOut_lacks hok hck2 hnb2 hb (by rw [sw_len]; exact hτ) hT2 (by omega)
    have e3 := lacks_sw (ds := ds) (τs := τs) (rows := rows) (by omega) rfl hlen
    have e4 : 0 < (missOut ds rows c).1.length ↔ 0 < (missOut ds (rows.map turn) c).1.length := by rw [e1.2, e2.2, e3]
    rw [e2.1]
    have e5 : decide (((missOut ds rows c).1.length : Int) > 0) = decide (((missOut ds (rows.map turn) c).1.length : Int) > 0) := by
      rw [decide_eq_decide]
      constructor
      · intro h; have := e4.1 (by omega); omega
      · intro h; have := e4.2 (by omega); omega
    rw [e5]
    simp
end Go.PM
namespace Go.PM
open Go.VL
structure UsePre (t : Tab) (f : Nat) (rows : List (List Pat)) (row : List Pat) (τs : List Ty) : Prop where
  ty : rowsT t τs rows
  rowTy : rowT t τs row
  len : rows.length ≤ 1000
  fuel : τs.length + 401 * (wR rows + wL row) < f
theorem left_len (n : Int) (rows : List (List Pat)) : (leftF n rows).length ≤ rows.length := List.length_filterMap_le _ _
theorem con_ty {t : Tab} {τ : Ty} {p : Pat} (h : wt t τ p) (hk : p.kind = 3) : ∃ d f a, τ = .dat d f ∧ tget t p.name = some (d, a, p.args.length) ∧ p.args.length ≤ 400 ∧ free p = false := by
  have hf : free p = false := by simp [free, hk]
  cases τ with
  | any => rw [show wt t .any p = (free p = true) from rfl, hf] at h; cases h
  | int =>
    rcases h with h | h
    · rw [hf] at h; cases h
    · rw [hk] at h; cases h
  | dat d f =>
    rcases h with h | ⟨_, ⟨a, h1⟩, h2, _⟩
    · rw [hf] at h; cases h
    · exact ⟨d, f, a, rfl, h1, h2, hf⟩
theorem int_ty {t : Tab} {τ : Ty} {p q : Pat} (h : wt t τ p) (hk : p.kind = 2) (hq : wt t τ q) (hf : free q = false) : q.kind = 2 := by
  have hfp : free p = false := by simp [free, hk]
  cases τ with
  | any => rw [show wt t .any p = (free p = true) from rfl, hfp] at h; cases h
  | int =>
    rcases hq with h | h
    · rw [hf] at h; cases h
    · exact h
  | dat d f =>
    rcases h with h | ⟨h, _⟩
    · rw [hfp] at h; cases h
    · rw [hk] at h; cases h
theorem wt_kind {t : Tab} {τ : Ty} {p : Pat} (h : wt t τ p) (h3 : p.kind ≠ 3) (h2 : p.kind ≠ 2) : free p = true := by
  cases τ with
  | any => exact h
  | int => exact h.elim id fun h => absurd h h2
  | dat d f => exact h.elim id fun h => absurd h.1 h3
/-- Some values that fit are matched by the row, and by no row ahead of it. -/
def New (ds : List DataSig) (τs : List Ty) (rows : List (List Pat)) (row : List Pat) : Prop := ∃ vs, fitsL ds τs vs ∧ matL row vs ∧ ∀ r ∈ rows, ¬ matL r vs
theorem usefulLoop_mem {rc : List (List Pat) → List Pat → Bool} {rows : List (List Pat)} {row : List Pat} : ∀ {ks : List ConSig} {k : ConSig}, k ∈ ks → rc (narrow k.name k.args.length rows) (anysL k.args.length ++ row) = true → usefulLoop rc rows row ks = true
  | k' :: ks, k, hk, h => by
    rw [usefulLoop]
    rcases List.mem_cons.1 hk with rfl | hk
    · rw [h, Bool.true_or]
    · rw [usefulLoop_mem hk h, Bool.or_true]
theorem useful_of {t : Tab} {ds : List DataSig} (hok : TabOk t ds) : ∀ (f : Nat) (rows : List (List Pat)) (row : List Pat) (τs : List Ty), UsePre t f rows row τs → New ds τs rows row → usefulF t ds f rows row = true
  | 0, rows, row, τs, h, _ => absurd h.fuel (Nat.not_lt_zero _)
  | f + 1, rows, [], τs, h, hn => by
    obtain ⟨vs, hv, hm, hr⟩ := hn
    show decide ((rows.length : Int) = 0) = true
    rw [decide_eq_true_eq]
    have hτ := h.rowTy.len
    cases rows with
    | nil => rfl
    | cons r rs =>
      have hrl := (h.ty r (List.mem_cons_self ..)).len
      rw [← hτ] at hrl
      obtain rfl := List.eq_nil_of_length_eq_zero hrl
      exact absurd hm (hr [] (List.mem_cons_self ..))
  | f + 1, rows, p :: row, [], h, hn => h.rowTy.elim
  | f + 1, rows, p :: row, τ :: σs, h, hn => by
    obtain ⟨hT, ⟨hp, hrow⟩, hl, hf⟩ := h
    obtain ⟨vs, hv, hm, hr⟩ := hn
    simp only [List.length_cons, wL] at hf
    cases vs with
    | nil => exact hv.elim
    | cons v ws =>
      obtain ⟨hv1, hv2⟩ := hv
      obtain ⟨hm1, hm2⟩ := matL_cons.1 hm
      by_cases h3 : p.kind = 3
      · obtain ⟨d, fT, a, rfl, hta, hpa, hfp⟩ := con_ty hp h3
        have hwp := wP_con hfp
        have hnw := narrow_w p.name p.args.length rows
        have hnl : (narrow p.name p.args.length rows).length ≤ rows.length := List.length_filterMap_le _ _
        have hal := argT_len (fT p.name) p.args.length
        rw [usefulF, if_pos h3]
        rcases (matP_eq _ _).1 hm1 with h4 | ⟨h4, _⟩ | ⟨_, as, rfl, h5⟩
        · rw [hfp] at h4; cases h4
        · rw [h3] at h4; cases h4
        · have hlen := matL_len h5
          obtain ⟨D, k, as', hD, hk, he, hlk, hfit⟩ := hv1
          injection he with he1 he2
          subst he2
          refine useful_of hok f _ _ _ ⟨hT.narrow hta, (rowT.args hp hfp).append hrow, by omega, by rw [List.length_append, hal, wL_append]; omega⟩ ⟨as ++ ws, ?_, ?_, ?_⟩
          · rw [fitsL_append (by rw [hal, hlen])]
            rw [← he1] at hfit
            exact ⟨(fitsL_args hlen.symm).2 hfit, hv2⟩
          · rw [matL_append hlen]
            exact ⟨h5, hm2⟩
          · rw [narrow_mat hT hta hlen.symm]
            exact hr
      by_cases h2 : p.kind = 2
      · rw [usefulF, if_neg h3, if_pos h2]
        have hfp : free p = false := by simp [free, h2]
        have hlw := left_w p.n rows
        have hll := left_len p.n rows
        refine useful_of hok f _ _ _ ⟨hT.left (n := p.n), hrow, by omega, by omega⟩ ⟨ws, hv2, hm2, fun r hrm hmat => ?_⟩
        obtain ⟨z, hz, hzr⟩ := List.mem_filterMap.1 hrm
        cases z with
        | nil => cases hzr
        | cons q tl =>
          simp only at hzr
          by_cases hq : (free q || decide (q.n = p.n)) = true
          · rw [if_pos hq] at hzr
            injection hzr with hzr
            subst hzr
            refine hr _ hz (matL_cons.2 ⟨?_, hmat⟩)
            cases hfq : free q with
            | true => exact matP_free hfq _
            | false =>
              rw [hfq, Bool.false_or, decide_eq_true_eq] at hq
              rcases (matP_eq _ _).1 hm1 with h4 | ⟨_, h4⟩ | ⟨h4, _⟩
              · rw [hfp] at h4; cases h4
              · exact (matP_eq _ _).2 (.inr (.inl ⟨int_ty hp h2 (hT _ hz).1 hfq, by rw [h4, hq]⟩))
              · exact absurd h4 h3
          · rw [if_neg hq] at hzr
            cases hzr
      · rw [usefulF, if_neg h3, if_neg h2]
        have hfp := wt_kind hp h3 h2
        cases hab : absentF t ds (first rows) with
        | some q =>
          have hrw := rest_w rows
          have hrl : (rest rows).length ≤ rows.length := List.length_filterMap_le _ _
          exact useful_of hok f _ _ _ ⟨hT.rest, hrow, by omega, by omega⟩ ⟨ws, hv2, hm2, ((rest_mat hT).2 hr).1⟩
        | none =>
          obtain ⟨d, g, D, hF⟩ := absent_none hok hT hab
          obtain ⟨hτ, hD, hcons, hall⟩ := hF
          subst hτ
          show usefulLoop (usefulF t ds f) rows row (consAt t ds ((first rows).headD anyP).name) = true
          rw [hcons]
          obtain ⟨D', k, as, hD', hk, rfl, hlen, hfit⟩ := hv1
          rw [hD] at hD'
          injection hD' with hD'
          subst hD'
          obtain ⟨q1, tl1, hq1, hqf, hqn, hea, a1, hta⟩ := hall k hk
          have hw1 := narrow_w1 k.name k.args.length hqf hqn rows hq1
          have hln : (narrow k.name k.args.length rows).length ≤ rows.length := List.length_filterMap_le _ _
          have hal := argT_len (g k.name) k.args.length
          have hany := rowT.anys (t := t) (argT (g k.name) k.args.length)
          rw [hal] at hany
          refine usefulLoop_mem hk (useful_of hok f _ _ _ ⟨hT.narrow hta, hany.append hrow, by omega, by rw [List.length_append, hal, wL_append, wL_anys]; omega⟩ ⟨as ++ ws, ?_, ?_, ?_⟩)
          · rw [fitsL_append (by rw [hal, hlen])]
            exact ⟨(fitsL_args hlen).2 hfit, hv2⟩
          · rw [matL_append (by simp [hlen])]
            exact ⟨by rw [← hlen]; exact matL_anys as, hm2⟩
          · rw [narrow_mat hT hta hlen]
            exact hr

/-! ### Fewer rows pass the check too -/
theorem agreeArgs_of {rc : List Pat → Bool} {m : List Pat} {name : Str} : ∀ (k n : Nat), (∀ i, n ≤ i → i < n + k → rc (belowF m name i) = true) → agreeArgs rc m name n k = true
  | 0, n, _ => rfl
  | k + 1, n, h => by
    rw [agreeArgs, h n (Nat.le_refl _) (by omega), Bool.true_and]
    exact agreeArgs_of k (n + 1) fun i h1 h2 => h i (by omega) (by omega)
theorem agreeLoop_of {rc : List Pat → Bool} {m : List Pat} : ∀ (ps seen : List Pat), (∀ p ∈ ps, p.kind = 3 → ∀ n, n < p.args.length → rc (belowF m p.name n) = true) → agreeLoop rc m seen ps = true
  | [], seen, _ => rfl
  | p :: ps, seen, h => by
    rw [agreeLoop, agreeLoop_of ps (seen ++ [p]) fun q hq => h q (List.mem_cons_of_mem _ hq), Bool.and_true]
    by_cases hk : p.kind = 3
    · rw [agreeArgs_of _ 0 fun i _ hi => h p (List.mem_cons_self ..) hk i (by omega), Bool.or_true]
    · simp [hk]
theorem agree_sub {t : Tab} : ∀ (f : Nat) (l l' : List Pat), AgreePre t f l → agreeF t f l = true → (∀ x ∈ l', x ∈ l) → agreeF t f l' = true
  | 0, l, l', h, _, _ => absurd h.fuel (Nat.not_lt_zero _)
  | f + 1, l, l', hp, h, hs => by
    rw [agreeF, Bool.and_eq_true] at h
    obtain ⟨hk, ha⟩ := h
    have hok : ∀ p ∈ l.filter nf, patF t p = 0 := fun p hp' => hp.ok p (nf_mem hp').1
    have hnf : ∀ p ∈ l.filter nf, free p = false := fun p hp' => (nf_mem hp').2
    have hm : ∀ x ∈ l'.filter nf, x ∈ l.filter nf := fun x hx => by
      obtain ⟨h1, h2⟩ := List.mem_filter.1 hx
      exact List.mem_filter.2 ⟨hs x h1, h2⟩
    have hkind : ∀ p ∈ l.filter nf, kindF t p = kindF t ((l.filter nf).headD anyP) := fun p hpm => by
      have := List.all_eq_true.1 hk p hpm
      simpa using this
    have hargs : ∀ p ∈ l.filter nf, ∀ q ∈ l.filter nf, p.kind = 3 → q.name = p.name → q.kind = 3 ∧ q.args.length = p.args.length := fun p hpm q hqm hk3 hn => by
      have := same_args hk hok hnf hpm hqm hk3 hn
      exact ⟨this.1, this.2.1⟩
    have hall := agreeLoop_all hargs _ [] rfl ha fun p hp => by cases hp
    rw [agreeF, Bool.and_eq_true]
    refine ⟨List.all_eq_true.2 fun p hpm => ?_, agreeLoop_of _ _ fun p hpm hk3 n hn => ?_⟩
    · rw [decide_eq_true_eq, hkind p (hm p hpm)]
      cases hl : l'.filter nf with
      | nil => rw [hl] at hpm; cases hpm
      | cons q qs => exact (hkind q (hm q (by rw [hl]; exact List.mem_cons_self ..))).symm
    · refine agree_sub f _ _ (hp.below rfl hk (hm p hpm) hk3 hn) (hall p (hm p hpm) hk3 n hn) fun x hx => ?_
      obtain ⟨q, hq, hqx⟩ := List.mem_filterMap.1 hx
      exact List.mem_filterMap.2 ⟨q, hm q hq, hqx⟩
theorem cR_sub : ∀ {a b : List (List Pat)}, a.Sublist b → cR a ≤ cR b
  | _, _, .slnil => Nat.le_refl _
  | _, _, .cons r h => by
    have := cR_sub h
    rw [cR]
    omega
  | _, _, @List.Sublist.cons_cons _ _ _ r h => by
    have := cR_sub h
    rw [cR, cR]
    omega
theorem wR_sub : ∀ {a b : List (List Pat)}, a.Sublist b → wR a ≤ wR b
  | _, _, .slnil => Nat.le_refl _
  | _, _, .cons r h => by
    have := wR_sub h
    rw [wR]
    omega
  | _, _, @List.Sublist.cons_cons _ _ _ r h => by
    have := wR_sub h
    rw [wR, wR]
    omega
theorem check_sub {ds : List DataSig} {rows less : List (List Pat)} {c : Int} (hs : less.Sublist rows) (h : checkF ds rows = 0) (hnb : ¬ missBad rows c) : checkF ds less = 0 ∧ ¬ missBad less c := by
  obtain ⟨t, hb⟩ := check_build h
  obtain ⟨hsm, ha, he, hc⟩ := check_parts h hb
  have hlen := row_len h hnb
  have hmem : ∀ r ∈ less, r ∈ rows := fun r hr => hs.subset hr
  have hwl : less ≠ [] → (width less : Int) = c ∧ width less = width rows := fun hne => by
    cases hl : less with
    | nil => exact absurd hl hne
    | cons r rs =>
      have hr : r ∈ rows := hmem r (by rw [hl]; exact List.mem_cons_self ..)
      exact ⟨hlen r hr, same_all ha r hr⟩
  have hwc : ∀ r ∈ less, r.length = width less := fun r hr => by
    have h1 := hlen r (hmem r hr)
    have h2 := (hwl fun e => by rw [e] at hr; cases hr).1
    omega
  refine ⟨checkF_zero (t := t) ?_ hb ?_ ?_ ?_, ?_⟩
  · have h1 := small_iff.1 (small_true h)
    have h2 := cR_sub hs
    have h3 := hs.length_le
    exact small_iff.2 ⟨⟨fun r hr => h1.1.1 r (hmem r hr), by omega⟩, by omega, h1.2.2⟩
  · rw [List.all_eq_true]
    intro r hr
    unfold sameLen
    rw [decide_eq_true_eq]
    exact hwc r hr
  · rw [errRows_iff]
    exact fun r hr => errRows_iff.1 he r (hmem r hr)
  · refine colsLoop_of _ _ fun i _ hi => ?_
    rw [Nat.zero_add] at hi
    have hne : less ≠ [] := fun e => by rw [e] at hi; cases hi
    have hner : rows ≠ [] := fun e => by
      rw [e] at hs
      exact hne (List.sublist_nil.1 hs)
    have hw := (hwl hne).2
    refine agree_sub 401 (colF rows i) (colF less i) (agreePre_col hsm ha he hner (by omega)) (colsLoop_all _ _ hc i (Nat.zero_le _) (by omega)) fun x hx => ?_
    obtain ⟨r, hr, hrx⟩ := List.mem_map.1 hx
    exact List.mem_map.2 ⟨r, hmem r hr, hrx⟩
  · rintro (h1 | h1 | ⟨h1, h3⟩)
    · exact hnb (.inl h1)
    · exact hnb (.inr (.inl h1))
    · exact h3 (hwl h1).1.symm
theorem typed_sub {ds : List DataSig} {rows less : List (List Pat)} {t : Tab} {τs : List Ty} (hs : less.Sublist rows) (h : Typed ds t rows τs) : Typed ds t less τs := by
  refine ⟨h.good, ⟨fun r hr => h.pre.ty r (hs.subset hr), ?_, ?_⟩⟩
  · have := hs.length_le
    have := h.pre.len
    omega
  · have := wR_sub hs
    have := h.pre.fuel
    omega

/-! ### Redundant rows -/
def redTo (t : Tab) (ds : List DataSig) (rows : List (List Pat)) (k : Nat) : List Nat := (List.range k).filter fun i => !usefulF t ds fuel0 (rows.take i) (rows.getD i [])
def redOut (ds : List DataSig) (rows : List (List Pat)) : List Nat × Int :=
  if checkF ds rows = 0 then (match buildF 0 ds [] with | some t => (redTo t ds rows rows.length, 0) | none => ([], 0)) else ([], checkF ds rows)
theorem redTo_snoc (t : Tab) (ds : List DataSig) (rows : List (List Pat)) (k : Nat) : redTo t ds rows (k + 1) = redTo t ds rows k ++ (bif usefulF t ds fuel0 (rows.take k) (rows.getD k []) then [] else [k]) := by
  unfold redTo
  rw [List.range_succ, List.filter_append]
  rw [List.filter_cons, List.filter_nil]
  cases usefulF t ds fuel0 (rows.take k) (rows.getD k []) <;> rfl
theorem redTo_len (t : Tab) (ds : List DataSig) (rows : List (List Pat)) (k : Nat) : (redTo t ds rows k).length ≤ k := by
  have h : (redTo t ds rows k).length ≤ (List.range k).length := List.length_filter_le _ _
  rwa [List.length_range] at h
theorem redOut_err {ds : List DataSig} {rows : List (List Pat)} (h : checkF ds rows ≠ 0) : redOut ds rows = ([], checkF ds rows) := by rw [redOut, if_neg h]
theorem redOut_ok {ds : List DataSig} {rows : List (List Pat)} {t : Tab} (h : checkF ds rows = 0) (ht : buildF 0 ds [] = some t) : redOut ds rows = (redTo t ds rows rows.length, 0) := by rw [redOut, if_pos h, ht]
theorem usePre_of {ds : List DataSig} {t : Tab} {rows : List (List Pat)} {τs : List Ty} {k : Nat} {r : List Pat} (h : Typed ds t rows τs) (hr : rows[k]? = some r) : UsePre t fuel0 (rows.take k) r τs := by
  refine ⟨fun r' hr' => h.pre.ty r' (List.mem_of_mem_take hr'), h.pre.ty r (List.mem_of_getElem? hr), ?_, ?_⟩
  · have := h.pre.len
    rw [List.length_take]
    omega
  · have h1 := h.pre.fuel
    have h2 : wR (rows.take k) + wL r ≤ wR rows := by
      clear h h1
      induction rows generalizing k with
      | nil => simp at hr
      | cons x xs ih =>
        cases k with
        | zero =>
          simp at hr
          subst hr
          simp [wR]
        | succ k =>
          have := ih (k := k) (by simpa using hr)
          simp only [List.take_succ_cons, wR]
          omega
    omega
/-- Without a redundant row, the same is missing. -/
theorem lacks_drop {ds : List DataSig} {t : Tab} {rows : List (List Pat)} {τs : List Ty} {k : Nat} (hok : TabOk t ds) (h : Typed ds t rows τs) (hk : k ∈ redTo t ds rows rows.length) : Lacks ds τs rows ↔ Lacks ds τs (rows.take k ++ rows.drop (k + 1)) := by
  obtain ⟨h1, h2⟩ := List.mem_filter.1 hk
  have hlt : k < rows.length := List.mem_range.1 h1
  have hr : rows[k]? = some rows[k] := List.getElem?_eq_getElem hlt
  have hsplit : rows = rows.take k ++ rows[k] :: rows.drop (k + 1) := by
    rw [← List.drop_eq_getElem_cons hlt, List.take_append_drop]
  have hu : usefulF t ds fuel0 (rows.take k) rows[k] = false := by
    rw [List.getD_eq_getElem?_getD, hr] at h2
    simpa using h2
  constructor
  · rintro ⟨vs, hv, hm⟩
    refine ⟨vs, hv, fun r hrm => hm r ?_⟩
    rw [hsplit]
    rcases List.mem_append.1 hrm with h3 | h3
    · exact List.mem_append_left _ h3
    · exact List.mem_append_right _ (List.mem_cons_of_mem _ h3)
  · rintro ⟨vs, hv, hm⟩
    refine ⟨vs, hv, fun r hrm => ?_⟩
    rw [hsplit] at hrm
    rcases List.mem_append.1 hrm with h3 | h3
    · exact hm r (List.mem_append_left _ h3)
    rcases List.mem_cons.1 h3 with rfl | h3
    · intro hmat
      have := useful_of hok fuel0 _ _ _ (usePre_of h hr) ⟨vs, hv, hmat, fun r hr' => hm r (List.mem_append_left _ hr')⟩
      rw [hu] at this
      cases this
    · exact hm r (List.mem_append_right _ h3)
end Go.PM
namespace Go.PM
open Go.VL
theorem missOut_none {ds : List DataSig} {rows : List (List Pat)} {c : Int} (h : (missOut ds rows c).2 ≠ 0) : (missOut ds rows c).1 = [] := by
  by_cases h2 : checkF ds rows = 0
  · by_cases h3 : missBad rows c
    · rw [missOut_bad h2 h3]
    · obtain ⟨t, hb⟩ := check_build h2
      rw [missOut_ok h2 h3 hb] at h
      exact absurd rfl h
  · rw [missOut_err h2]
theorem missOut_zero {ds : List DataSig} {rows : List (List Pat)} : (missOut ds rows 0).1 = [] := by
  by_cases h2 : checkF ds rows = 0
  · by_cases h3 : missBad rows 0
    · rw [missOut_bad h2 h3]
    · obtain ⟨t, hb⟩ := check_build h2
      rw [missOut_ok h2 h3 hb]
      have h1 : fuel0 = 399999 + 1 := by rw [fuel0_eq]
      rw [h1]
      show (bif (missF t ds (399999 + 1) rows 0).2 then (missF t ds (399999 + 1) rows 0).1 else []) = []
      rw [missF]
      cases decide ((rows.length : Int) = 0) <;> rfl
  · rw [missOut_err h2]
theorem redOut_none {ds : List DataSig} {rows : List (List Pat)} (h : (redOut ds rows).2 ≠ 0) : (redOut ds rows).1 = [] := by
  by_cases h2 : checkF ds rows = 0
  · obtain ⟨t, hb⟩ := check_build h2
    rw [redOut_ok h2 hb] at h
    exact absurd rfl h
  · rw [redOut_err h2]
theorem redOut_zero {ds : List DataSig} {rows : List (List Pat)} (h : (redOut ds rows).2 = 0) : checkF ds rows = 0 := by
  by_cases h2 : checkF ds rows = 0
  · exact h2
  · rw [redOut_err h2] at h; exact h

/-! ### PatternsDrop -/
def lastR (ds : List DataSig) (rows : List (List Pat)) : Nat := (redOut ds rows).1.getD ((redOut ds rows).1.length - 1) 0
def lessR (rows : List (List Pat)) (k : Nat) : List (List Pat) := rows.take k ++ rows.drop (k + 1)
def dropF (ds : List DataSig) (rows : List (List Pat)) : Bool :=
  if (redOut ds rows).2 ≠ 0 ∨ (redOut ds rows).1.length = 0 then decide ((redOut ds rows).1.length = 0)
  else if ¬ lastR ds rows < rows.length then false
  else decide ((missOut ds rows (width rows)).2 = 0) && decide ((missOut ds (lessR rows (lastR ds rows)) (width rows)).2 = 0)
    && (decide (0 < (missOut ds rows (width rows)).1.length) == decide (0 < (missOut ds (lessR rows (lastR ds rows)) (width rows)).1.length))
theorem less_sub (rows : List (List Pat)) (k : Nat) : (lessR rows k).Sublist rows := by
  unfold lessR
  have h : (rows.take k ++ rows.drop (k + 1)).Sublist (rows.take k ++ rows.drop k) := by
    refine List.Sublist.append (List.Sublist.refl _) ?_
    rw [show k + 1 = 1 + k by omega, ← List.drop_drop]
    first | exact List.drop_sublist _ _ | (rw [List.drop_drop]; exact List.drop_sublist_drop_left _ (by omega))
  rwa [List.take_append_drop] at h
theorem last_mem {l : List Nat} (h : l.length ≠ 0) : l.getD (l.length - 1) 0 ∈ l := by
  have h1 : l.length - 1 < l.length := by omega
  rw [List.getD_eq_getElem?_getD, List.getElem?_eq_getElem h1]
  exact List.getElem_mem _
theorem nbad_width {ds : List DataSig} {rows : List (List Pat)} (h : checkF ds rows = 0) (hne : rows ≠ []) : ¬ missBad rows (width rows) := by
  obtain ⟨t, hb⟩ := check_build h
  have hsm := (check_parts h hb).1
  obtain ⟨r, rs, rfl⟩ := List.exists_cons_of_ne_nil hne
  have : (width (r :: rs)) ≤ 16 := hsm.cols r (List.mem_cons_self ..)
  rintro (h1 | h1 | ⟨_, h1⟩)
  · omega
  · omega
  · exact h1 rfl
theorem drop_law (ds : List DataSig) (hz : Sized ds) (rows : List (List Pat)) : dropF ds rows = true := by
  unfold dropF
  by_cases h0 : (redOut ds rows).2 ≠ 0 ∨ (redOut ds rows).1.length = 0
  · rw [if_pos h0, decide_eq_true_eq]
    rcases h0 with h | h
    · rw [redOut_none h]; rfl
    · exact h
  rw [if_neg h0]
  have h1 : (redOut ds rows).2 = 0 := Decidable.not_not.1 fun h => h0 (.inl h)
  have h2 : (redOut ds rows).1.length ≠ 0 := fun h => h0 (.inr h)
  have hck := redOut_zero h1
  obtain ⟨t, hb⟩ := check_build hck
  have hmem : lastR ds rows ∈ redTo t ds rows rows.length := by
    have := last_mem h2
    have e := redOut_ok hck hb
    unfold lastR
    rw [e] at this ⊢
    exact this
  have hlt : lastR ds rows < rows.length := List.mem_range.1 (List.mem_filter.1 hmem).1
  rw [if_neg (not_not_intro hlt)]
  have hne : rows ≠ [] := fun e => by rw [e] at hlt; cases hlt
  have hnb := nbad_width hck hne
  obtain ⟨τs, hτ, hT⟩ := typed_of hck hb hnb
  have hok := tabOk_of hb (check_parts hck hb).1 hz
  have hsub := less_sub rows (lastR ds rows)
  obtain ⟨hck2, hnb2⟩ := check_sub hsub hck hnb
  have hT2 := typed_sub hsub hT
  have hl := lacks_drop hok hT hmem
  by_cases hw : width rows = 0
  · have e1 : (missOut ds rows (width rows)).2 = 0 := by rw [missOut_ok hck hnb hb]
    have e2 : (missOut ds (lessR rows (lastR ds rows)) (width rows)).2 = 0 := by rw [missOut_ok hck2 hnb2 hb]
    rw [e1, e2, hw]
    show (decide True && decide True && (decide (0 < (missOut ds rows 0).1.length) == decide (0 < (missOut ds (lessR rows (lastR ds rows)) 0).1.length))) = true
    rw [missOut_zero, missOut_zero]
    rfl
  · have e1 := missOut_lacks hok hck hnb hb hτ hT (by omega)
    have e2 := missOut_lacks hok hck2 hnb2 hb hτ hT2 (by omega)
    rw [e1.1, e2.1]
    have : decide (0 < (missOut ds rows (width rows)).1.length) = decide (0 < (missOut ds (lessR rows (lastR ds rows)) (width rows)).1.length) := by
      rw [decide_eq_decide, e1.2, e2.2]
      exact hl
    rw [this]
    simp

/-! ### PatternsMore -/
theorem absent_wit {t : Tab} {ds : List DataSig} {τ : Ty} {τs : List Ty} {rows : List (List Pat)} {q : Pat} (hok : TabOk t ds) (hT : rowsT t (τ :: τs) rows) (hg : Good ds τ) (h : absentF t ds (first rows) = some q) : ∃ v, fits ds τ v ∧ matP q v ∧ ∀ p ∈ first rows, ¬ matP p v := by
  cases hl : first rows with
  | nil =>
    rw [hl] at h
    injection h with h
    subst h
    obtain ⟨v, hv⟩ := good_inh τ hg
    exact ⟨v, hv, matP_free rfl _, fun p hp => by cases hp⟩
  | cons p l =>
    have hfr : ∀ p' ∈ p :: l, free p' = false := fun p' hp' => by
      obtain ⟨tl, _, h2⟩ := first_mem (rows := rows) (p := p') (by rw [hl]; exact hp')
      exact h2
    rw [hl] at h
    by_cases hk : p.kind = 2
    · rw [absentF, if_pos hk] at h
      injection h with h
      subst h
      refine ⟨.int (fresh (p :: l) 0), ?_, (matP_eq _ _).2 (.inr (.inl ⟨rfl, rfl⟩)), fun p' hp' hm => ?_⟩
      · cases τ with
        | any => trivial
        | int => trivial
        | dat d f =>
          obtain ⟨tl, h1, h2⟩ := first_mem (rows := rows) (p := p) (by rw [hl]; exact List.mem_cons_self ..)
          rcases (hT _ h1).1 with h3 | ⟨h3, _⟩
          · rw [h2] at h3; cases h3
          · rw [hk] at h3; cases h3
      · have hs := fresh_spec (p :: l) _ 0 (Nat.lt_succ_self _)
        have h3 := List.any_eq_false.1 hs p' hp'
        rcases (matP_eq _ _).1 hm with h4 | ⟨_, h4⟩ | ⟨_, vs, h4, _⟩
        · rw [hfr p' hp'] at h4; cases h4
        · injection h4 with h4
          simp [h4] at h3
        · cases h4
    · obtain ⟨d, f, a, D, rfl, h3, ht, hD⟩ := first_head hok hT hl hk
      rw [absentF, if_neg hk] at h
      have hc : consAt t ds p.name = D.cons := by simp only [consAt, ht, hD]
      rw [hc] at h
      cases hfd : D.cons.find? (lacks (p :: l)) with
      | none => rw [hfd] at h; cases h
      | some k =>
        rw [hfd] at h
        injection h with h
        subst h
        have hkm := List.mem_of_find?_eq_some hfd
        have hkl := List.find?_some hfd
        obtain ⟨vs, h1, h2⟩ := good_con (g := f k.name) (fun i => good_inh (f k.name i) (hg.2 k.name i)) k.args.length
        refine ⟨.con k.name vs, ⟨D, k, vs, hD, hkm, rfl, h1, h2⟩, (matP_eq _ _).2 (.inr (.inr ⟨rfl, vs, rfl, by show matL (anysL k.args.length) vs; rw [← h1]; exact matL_anys vs⟩)), fun p' hp' hm => ?_⟩
        rcases (matP_eq _ _).1 hm with h4 | ⟨_, h4⟩ | ⟨_, vs', h4, _⟩
        · rw [hfr p' hp'] at h4; cases h4
        · cases h4
        · injection h4 with h4 h5
          simp only [lacks, Bool.not_eq_true', List.any_eq_false, decide_eq_true_eq] at hkl
          exact hkl p' hp' h4.symm
theorem missLoop_wit {rc : List (List Pat) → Nat → List Pat × Bool} {rows : List (List Pat)} {c : Nat} : ∀ ks, (missLoop rc rows c ks).2 = true → ∃ k ∈ ks, (rc (narrow k.name k.args.length rows) (k.args.length + c)).2 = true ∧
    (missLoop rc rows c ks).1 = .mk 3 k.name 0 ((rc (narrow k.name k.args.length rows) (k.args.length + c)).1.take k.args.length) :: (rc (narrow k.name k.args.length rows) (k.args.length + c)).1.drop k.args.length
  | [], h => by cases h
  | k :: ks, h => by
    simp only [missLoop] at h ⊢
    cases hb : (rc (narrow k.name k.args.length rows) (k.args.length + c)).2 with
    | false =>
      rw [hb] at h
      obtain ⟨k', h1, h2, h3⟩ := missLoop_wit ks h
      exact ⟨k', List.mem_cons_of_mem _ h1, h2, h3⟩
    | true => exact ⟨k, List.mem_cons_self .., hb, rfl⟩
/-- What is told as missing matches values that no row matches. -/
theorem miss_wit {t : Tab} {ds : List DataSig} (hok : TabOk t ds) : ∀ (f : Nat) (rows : List (List Pat)) (τs : List Ty), MissPre t f rows τs → (∀ τ ∈ τs, Good ds τ) → (missF t ds f rows τs.length).2 = true → New ds τs rows (missF t ds f rows τs.length).1
  | 0, rows, τs, h, _, _ => absurd h.fuel (Nat.not_lt_zero _)
  | f + 1, rows, [], h, _, hm => by
    have h0 : decide ((rows.length : Int) = 0) = true := hm
    rw [decide_eq_true_eq] at h0
    have : rows = [] := List.eq_nil_of_length_eq_zero (by omega)
    subst this
    exact ⟨[], trivial, rfl, fun r hr => by cases hr⟩
  | f + 1, rows, τ :: τs, h, hg, hm => by
    obtain ⟨hT, hl, hf⟩ := h
    rw [List.length_cons] at hf
    have hgτ := hg τ (List.mem_cons_self ..)
    have hgs : ∀ σ ∈ τs, Good ds σ := fun σ hσ => hg σ (List.mem_cons_of_mem _ hσ)
    rw [List.length_cons, missF] at hm ⊢
    cases hab : absentF t ds (first rows) with
    | some q =>
      rw [hab] at hm
      have hrw := rest_w rows
      have hrl : (rest rows).length ≤ rows.length := List.length_filterMap_le _ _
      obtain ⟨vs, hv, hv1, hr⟩ := miss_wit hok f (rest rows) τs ⟨hT.rest, by omega, by omega⟩ hgs hm
      obtain ⟨v, hv2, hv3, hv4⟩ := absent_wit hok hT hgτ hab
      exact ⟨v :: vs, ⟨hv2, hv⟩, matL_cons.2 ⟨hv3, hv1⟩, (rest_mat hT).1 ⟨hr, fun p tl hp hfp => .inl (hv4 p (List.mem_filterMap.2 ⟨_, hp, by simp [hfp]⟩))⟩⟩
    | none =>
      rw [hab] at hm
      obtain ⟨d, g, D, hF⟩ := absent_none hok hT hab
      obtain ⟨hτ, hD, hcons, hall⟩ := hF
      subst hτ
      simp only [hcons] at hm ⊢
      obtain ⟨k, hk, h1, h2⟩ := missLoop_wit _ hm
      rw [h2]
      obtain ⟨q1, tl1, hq1, hqf, hqn, hea, a1, hta⟩ := hall k hk
      have hw1 := narrow_w1 k.name k.args.length hqf hqn rows hq1
      have hln : (narrow k.name k.args.length rows).length ≤ rows.length := List.length_filterMap_le _ _
      have hal := argT_len (g k.name) k.args.length
      have ih := miss_wit hok f (narrow k.name k.args.length rows) (argT (g k.name) k.args.length ++ τs) ⟨hT.narrow hta, by omega, by rw [List.length_append, hal]; omega⟩ fun σ hσ => by
          rcases List.mem_append.1 hσ with hσ | hσ
          · obtain ⟨i, _, rfl⟩ := List.mem_map.1 hσ
            exact hgτ.2 _ _
          · exact hgs σ hσ
      rw [List.length_append, hal] at ih
      obtain ⟨ws, hw, hmw, hr⟩ := ih h1
      have hwl := hw.len
      rw [List.length_append, hal] at hwl
      have hsplit : ws = ws.take k.args.length ++ ws.drop k.args.length := (List.take_append_drop _ _).symm
      have htl : (ws.take k.args.length).length = k.args.length := by rw [List.length_take]; omega
      have hol := (missF_len t ds f (narrow k.name k.args.length rows) (k.args.length + τs.length)).2 h1
      generalize hout : (missF t ds f (narrow k.name k.args.length rows) (k.args.length + τs.length)).1 = out at *
      have hosplit : out = out.take k.args.length ++ out.drop k.args.length := (List.take_append_drop _ _).symm
      rw [hsplit] at hw hr hmw
      rw [hosplit] at hmw
      rw [matL_append (by rw [List.length_take, htl]; omega)] at hmw
      rw [fitsL_append (by rw [argT_len, htl])] at hw
      rw [narrow_mat hT hta htl] at hr
      exact ⟨.con k.name (ws.take k.args.length) :: ws.drop k.args.length, ⟨⟨D, k, _, hD, hk, rfl, htl, (fitsL_args htl).1 hw.1⟩, hw.2⟩, matL_cons.2 ⟨(matP_eq _ _).2 (.inr (.inr ⟨rfl, _, rfl, hmw.1⟩)), hmw.2⟩, hr⟩
def allR (rows : List (List Pat)) (c : Int) : List (List Pat) := rows ++ [anysL c.toNat]
def lateR (ds : List DataSig) (rows : List (List Pat)) (c : Int) : List (List Pat) := rows ++ [(missOut ds rows c).1]
def moreF (ds : List DataSig) (rows : List (List Pat)) (c : Int) : Bool :=
  if (missOut ds rows c).2 ≠ 0 ∨ c = 0 then decide ((missOut ds rows c).1.length = 0)
  else if 60 ≤ rows.length then true
  else if (missOut ds (allR rows c) c).2 = 2 then true
  else if (0 < (missOut ds rows c).1.length ∧ 0 < rows.length) ∧ (redOut ds (lateR ds rows c)).2 = 0 ∧ rows.length ∈ (redOut ds (lateR ds rows c)).1 then false
  else decide ((missOut ds (allR rows c) c).2 = 0) && decide ((missOut ds (allR rows c) c).1.length = 0)
theorem nf_any (l : List Pat) : (l ++ [anyP]).filter nf = l.filter nf := by
  rw [List.filter_append]
  simp [nf, free, anyP, Pat.kind]
theorem agreeF_any (t : Tab) : ∀ (f : Nat) (l : List Pat), agreeF t f (l ++ [anyP]) = agreeF t f l
  | 0, l => rfl
  | f + 1, l => by rw [agreeF, agreeF, nf_any]
theorem patsF_anys (t : Tab) (n : Nat) : patsF t (anysL n) = 0 := patsF_iff.2 fun q hq => by
  rw [List.eq_of_mem_replicate hq, anyP, patF]
  simp
theorem check_all {ds : List DataSig} {rows : List (List Pat)} {c : Int} (h : checkF ds rows = 0) (hnb : ¬ missBad rows c) (hs : small ds (allR rows c) = true) : checkF ds (allR rows c) = 0 ∧ ¬ missBad (allR rows c) c := by
  obtain ⟨t, hb⟩ := check_build h
  obtain ⟨hsm, ha, he, hc⟩ := check_parts h hb
  have hlen := row_len h hnb
  have h0 : 0 ≤ c := by
    rcases Decidable.em (c < 0) with h1 | h1
    · exact absurd (.inl h1) hnb
    · omega
  have hall : ∀ r ∈ allR rows c, (r.length : Int) = c := fun r hr => by
    rcases List.mem_append.1 hr with hr | hr
    · exact hlen r hr
    · rw [List.mem_singleton] at hr
      subst hr
      simp
      omega
  have hw : (width (allR rows c) : Int) = c := by
    unfold width allR
    cases hrows : rows with
    | nil => simp; omega
    | cons r rs => simpa using hlen r (by rw [hrows]; exact List.mem_cons_self ..)
  refine ⟨checkF_zero (t := t) hs hb ?_ ?_ ?_, ?_⟩
  · rw [List.all_eq_true]
    intro r hr
    unfold sameLen
    rw [decide_eq_true_eq]
    have := hall r hr
    omega
  · rw [errRows_iff]
    intro r hr
    rcases List.mem_append.1 hr with hr | hr
    · exact errRows_iff.1 he r hr
    · rw [List.mem_singleton] at hr
      subst hr
      exact patsF_anys t _
  · refine colsLoop_of _ _ fun i _ hi => ?_
    rw [Nat.zero_add] at hi
    have hcol : colF (allR rows c) i = colF rows i ++ [anyP] := by
      unfold colF allR
      rw [List.map_append, List.map_singleton, List.getD_eq_getElem?_getD]
      have : (anysL c.toNat)[i]? = some anyP := by rw [List.getElem?_replicate, if_pos (by omega)]
      rw [this]
      rfl
    rw [hcol, agreeF_any]
    cases hrows : rows with
    | nil => rfl
    | cons r rs =>
      rw [← hrows]
      refine colsLoop_all _ _ hc i (Nat.zero_le _) ?_
      have : (width rows : Int) = c := by rw [hrows]; exact hlen r (by rw [hrows]; exact List.mem_cons_self ..)
      omega
  · rintro (h1 | h1 | ⟨h1, h3⟩)
    · omega
    · exact hnb (.inr (.inl h1))
    · exact h3 hw.symm
theorem small_err {ds : List DataSig} {rows : List (List Pat)} {c : Int} (h : (missOut ds rows c).2 ≠ 2) : small ds rows = true := by
  cases hs : small ds rows with
  | true => rfl
  | false =>
    have : checkF ds rows = 2 := by rw [checkF, hs]; rfl
    rw [missOut_err (by rw [this]; decide), this] at h
    exact absurd rfl h
theorem more_law (ds : List DataSig) (hz : Sized ds) (rows : List (List Pat)) (c : Int) : moreF ds rows c = true := by
  unfold moreF
  by_cases h0 : (missOut ds rows c).2 ≠ 0 ∨ c = 0
  · rw [if_pos h0, decide_eq_true_eq]
    rcases h0 with h | h
    · rw [missOut_none h]; rfl
    · rw [h, missOut_zero]; rfl
  rw [if_neg h0]
  have h1 : (missOut ds rows c).2 = 0 := Decidable.not_not.1 fun h => h0 (.inl h)
  have hc0 : c ≠ 0 := fun h => h0 (.inr h)
  by_cases h60 : 60 ≤ rows.length
  · rw [if_pos h60]
  rw [if_neg h60]
  by_cases h2 : (missOut ds (allR rows c) c).2 = 2
  · rw [if_pos h2]
  rw [if_neg h2]
  obtain ⟨hck, hnb⟩ := miss_zero h1
  obtain ⟨t, hb⟩ := check_build hck
  have hok := tabOk_of hb (check_parts hck hb).1 hz
  have hcp : 1 ≤ c := by
    rcases Decidable.em (c < 0) with h | h
    · exact absurd (.inl h) hnb
    · omega
  have hno : ¬ ((0 < (missOut ds rows c).1.length ∧ 0 < rows.length) ∧ (redOut ds (lateR ds rows c)).2 = 0 ∧ rows.length ∈ (redOut ds (lateR ds rows c)).1) := by
    rintro ⟨⟨hl, hr⟩, h3, h4⟩
    have hck3 := redOut_zero h3
    rw [redOut_ok hck3 hb] at h4
    have h5 := (List.mem_filter.1 h4).2
    have hne : lateR ds rows c ≠ [] := by simp [lateR]
    have hnb3 := nbad_width hck3 hne
    have hw : (width (lateR ds rows c) : Int) = c := by
      cases hrows : rows with
      | nil => rw [hrows] at hr; cases hr
      | cons r rs =>
        have := row_len hck hnb r (by rw [hrows]; exact List.mem_cons_self ..)
        simpa [lateR, width] using this
    rw [hw] at hnb3
    obtain ⟨τs, hτ, hT⟩ := typed_of hck3 hb hnb3
    have hsub : rows.Sublist (lateR ds rows c) := List.sublist_append_left ..
    have hT2 := typed_sub hsub hT
    have hout : (missOut ds rows c).1 = (missF t ds fuel0 rows τs.length).1 ∧ (missF t ds fuel0 rows τs.length).2 = true := by
      rw [missOut_ok hck hnb hb, show c.toNat = τs.length by omega] at hl ⊢
      cases hm : (missF t ds fuel0 rows τs.length).2 with
      | true => exact ⟨rfl, rfl⟩
      | false => rw [hm] at hl; simp at hl
    have hnew := miss_wit hok fuel0 rows τs hT2.pre hT2.good hout.2
    rw [← hout.1] at hnew
    have hget : (lateR ds rows c)[rows.length]? = some (missOut ds rows c).1 := by simp [lateR]
    have htake : (lateR ds rows c).take rows.length = rows := by simp [lateR]
    have hu := useful_of hok fuel0 _ _ _ (usePre_of hT hget) (by rw [htake]; exact hnew)
    rw [List.getD_eq_getElem?_getD, hget, Option.getD_some, hu] at h5
    cases h5
  rw [if_neg hno]
  obtain ⟨hck2, hnb2⟩ := check_all hck hnb (small_err h2)
  obtain ⟨τs, hτ, hT⟩ := typed_of hck2 hb hnb2
  have hok2 := tabOk_of hb (check_parts hck2 hb).1 hz
  have e := missOut_lacks hok2 hck2 hnb2 hb hτ hT hcp
  rw [e.1]
  have hz : ¬ 0 < (missOut ds (allR rows c) c).1.length := fun h => by
    obtain ⟨vs, hv, hr⟩ := e.2.1 h
    refine hr (anysL c.toNat) (List.mem_append_right _ (List.mem_singleton.2 rfl)) ?_
    rw [show c.toNat = vs.length by have := hv.len; omega]
    exact matL_anys vs
  have : (missOut ds (allR rows c) c).1.length = 0 := by omega
  rw [this]
  rfl
end Go.PM
namespace Go.PM
open Go.VL
mutual
/-- A pattern with PatAny in place of PatVar. -/
def plainP : Pat → Pat
  | .mk k s n as => if k = 1 then .mk 0 [] 0 [] else .mk k s n (plainL as)
def plainL : List Pat → List Pat
  | [] => []
  | p :: l => plainP p :: plainL l
end
theorem plainL_map : ∀ l : List Pat, plainL l = l.map plainP
  | [] => rfl
  | p :: l => by rw [plainL, plainL_map l]; rfl
theorem plainP_eq (p : Pat) : plainP p = if p.kind = 1 then .mk 0 [] 0 [] else .mk p.kind p.name p.n (plainL p.args) := by
  obtain ⟨k, s, n, as⟩ := p
  rw [plainP]
  rfl
theorem plain_free (p : Pat) : free (plainP p) = free p := by
  rw [plainP_eq]
  by_cases h : p.kind = 1
  · rw [if_pos h]
    have e : free p = true := by simp [free, h]
    rw [e]
    rfl
  · rw [if_neg h]; rfl
theorem nf_kind {p : Pat} (h : free p = false) : p.kind ≠ 1 ∧ p.kind ≠ 0 := by
  constructor <;> (intro e; simp [free, e] at h)
theorem plain_nf {p : Pat} (h : free p = false) : plainP p = .mk p.kind p.name p.n (plainL p.args) := by
  rw [plainP_eq, if_neg (nf_kind h).1]
theorem plain_len (l : List Pat) : (plainL l).length = l.length := by rw [plainL_map, List.length_map]
theorem plain_append (a b : List Pat) : plainL (a ++ b) = plainL a ++ plainL b := by simp [plainL_map]
theorem plain_anys (n : Nat) : plainL (anysL n) = anysL n := by
  rw [plainL_map, List.map_replicate]
  rfl
abbrev bare (rows : List (List Pat)) : List (List Pat) := rows.map plainL
theorem bare_first : ∀ rows, first (bare rows) = (first rows).map plainP
  | [] => rfl
  | [] :: rows => by
    have ih := bare_first rows
    simpa [first, bare, plainL] using ih
  | (p :: tl) :: rows => by
    have ih := bare_first rows
    unfold first bare at ih ⊢
    simp only [List.map_cons, List.filterMap_cons, plainL, plain_free]
    cases hf : free p with
    | true => simpa using ih
    | false => simpa using ih
theorem bare_rest : ∀ rows, rest (bare rows) = bare (rest rows)
  | [] => rfl
  | [] :: rows => by
    have ih := bare_rest rows
    simpa [rest, bare, plainL] using ih
  | (p :: tl) :: rows => by
    have ih := bare_rest rows
    unfold rest bare at ih ⊢
    simp only [List.map_cons, List.filterMap_cons, plainL, plain_free]
    cases hf : free p with
    | true => simpa using ih
    | false => simpa using ih
theorem bare_narrow (name : Str) (n : Nat) : ∀ rows, narrow name n (bare rows) = bare (narrow name n rows)
  | [] => rfl
  | [] :: rows => by
    have ih := bare_narrow name n rows
    simpa [narrow, bare, plainL] using ih
  | (p :: tl) :: rows => by
    have ih := bare_narrow name n rows
    cases hf : free p with
    | true =>
      rw [show bare ((p :: tl) :: rows) = (plainP p :: plainL tl) :: bare rows from rfl, narrow_any (by rw [plain_free, hf]), narrow_any hf, ih]
      simp only [bare, List.map_cons, plain_append, plain_anys]
    | false =>
      rw [show bare ((p :: tl) :: rows) = (plainP p :: plainL tl) :: bare rows from rfl]
      have hf2 : free (plainP p) = false := by rw [plain_free, hf]
      have hn : (plainP p).name = p.name := by rw [plain_nf hf]; rfl
      have ha : (plainP p).args = plainL p.args := by rw [plain_nf hf]; rfl
      by_cases h : p.name = name
      · rw [narrow_hit hf2 (by rw [hn, h]), narrow_hit hf h, ih, ha]
        simp only [bare, List.map_cons, plain_append]
      · rw [narrow_off hf2 (by rw [hn]; exact h), narrow_off hf h, ih]
theorem bare_left (n : Int) : ∀ rows, leftF n (bare rows) = bare (leftF n rows)
  | [] => rfl
  | [] :: rows => by
    have ih := bare_left n rows
    simpa [leftF, bare, plainL] using ih
  | (p :: tl) :: rows => by
    have ih := bare_left n rows
    rw [show bare ((p :: tl) :: rows) = (plainP p :: plainL tl) :: bare rows from rfl]
    have he : (free (plainP p) || decide ((plainP p).n = n)) = (free p || decide (p.n = n)) := by
      rw [plain_free]
      cases hf : free p with
      | true => rfl
      | false => rw [plain_nf hf]; rfl
    by_cases h : (free p || decide (p.n = n)) = true
    · rw [left_t (by rw [he]; exact h), left_t h, ih]; rfl
    · rw [left_f (by rw [he]; simpa using h), left_f (by simpa using h), ih]
theorem first_nf {rows : List (List Pat)} {p : Pat} (h : p ∈ first rows) : free p = false := by
  obtain ⟨_, _, h⟩ := first_mem h
  exact h
theorem any_plain {l : List Pat} (h : ∀ p ∈ l, free p = false) (f : Str → Int → Bool) : ((l.map plainP).any fun p => f p.name p.n) = l.any fun p => f p.name p.n := by
  induction l with
  | nil => rfl
  | cons p l ih =>
    rw [List.map_cons, List.any_cons, List.any_cons, ih fun q hq => h q (List.mem_cons_of_mem _ hq), plain_nf (h p (List.mem_cons_self ..))]
    rfl
theorem fresh_plain {l : List Pat} (h : ∀ p ∈ l, free p = false) : ∀ (k : Nat) (n : Int), countGE l n < k → fresh (l.map plainP) n = fresh l n
  | 0, n, hk => absurd hk (Nat.not_lt_zero _)
  | k + 1, n, hk => by
    have e := any_plain h fun _ m => decide (m = n)
    cases ha : (l.any fun p => decide (p.n = n)) with
    | false =>
      rw [ha] at e
      rw [fresh_no ha, fresh_no e]
    | true =>
      rw [ha] at e
      rw [fresh_yes ha, fresh_yes e]
      have := countGE_lt ha
      exact fresh_plain h k (n + 1) (by omega)
theorem absent_plain {t : Tab} {ds : List DataSig} {l : List Pat} (h : ∀ p ∈ l, free p = false) : absentF t ds (l.map plainP) = absentF t ds l := by
  cases l with
  | nil => rfl
  | cons p l =>
    have hp := plain_nf (h p (List.mem_cons_self ..))
    rw [List.map_cons, absentF, absentF]
    have hk : (plainP p).kind = p.kind := by rw [hp]; rfl
    have hn : (plainP p).name = p.name := by rw [hp]; rfl
    rw [hk, hn]
    have h1 := fresh_plain h _ 0 (Nat.lt_succ_self _)
    rw [List.map_cons] at h1
    rw [h1]
    have h2 : lacks (plainP p :: l.map plainP) = lacks (p :: l) := by
      funext c
      unfold lacks
      have := any_plain h fun s _ => decide (s = c.name)
      rw [List.map_cons] at this
      rw [this]
    rw [h2]
theorem head_plain {l : List Pat} (h : ∀ p ∈ l, free p = false) : ((l.map plainP).headD anyP).name = (l.headD anyP).name := by
  cases l with
  | nil => rfl
  | cons p l => show (plainP p).name = p.name; rw [plain_nf (h p (List.mem_cons_self ..))]; rfl
theorem missLoop_plain {rc rc' : List (List Pat) → Nat → List Pat × Bool} (h : ∀ rows c, rc (bare rows) c = rc rows c) {rows : List (List Pat)} {c : Nat} : ∀ ks, missLoop rc (bare rows) c ks = missLoop rc rows c ks
  | [] => rfl
  | k :: ks => by rw [missLoop, missLoop, bare_narrow, h, missLoop_plain (rc' := rc') h ks]
theorem miss_plain (t : Tab) (ds : List DataSig) : ∀ (f : Nat) (rows : List (List Pat)) (c : Nat), missF t ds f (bare rows) c = missF t ds f rows c
  | 0, rows, c => rfl
  | f + 1, rows, 0 => by rw [missF, missF, List.length_map]
  | f + 1, rows, c + 1 => by
    rw [missF, missF, bare_first, absent_plain fun p hp => first_nf hp, bare_rest, miss_plain t ds f, head_plain fun p hp => first_nf hp, missLoop_plain (rc' := missF t ds f) (miss_plain t ds f)]
theorem usefulLoop_plain {rc : List (List Pat) → List Pat → Bool} (h : ∀ rows row, rc (bare rows) (plainL row) = rc rows row) {rows : List (List Pat)} {row : List Pat} : ∀ ks, usefulLoop rc (bare rows) (plainL row) ks = usefulLoop rc rows row ks
  | [] => rfl
  | k :: ks => by
    have e : anysL k.args.length ++ plainL row = plainL (anysL k.args.length ++ row) := by rw [plain_append, plain_anys]
    rw [usefulLoop, usefulLoop, bare_narrow, e, h, usefulLoop_plain h ks]
theorem useful_plain (t : Tab) (ds : List DataSig) : ∀ (f : Nat) (rows : List (List Pat)) (row : List Pat), usefulF t ds f (bare rows) (plainL row) = usefulF t ds f rows row
  | 0, rows, row => rfl
  | f + 1, rows, [] => by rw [plainL, usefulF, usefulF, List.length_map]
  | f + 1, rows, p :: row => by
    rw [plainL, usefulF, usefulF]
    by_cases h3 : p.kind = 3
    · have hf : free p = false := by simp [free, h3]
      rw [if_pos h3, plain_nf hf, if_pos (show (Pat.mk p.kind p.name p.n (plainL p.args)).kind = 3 from h3)]
      show usefulF t ds f (narrow p.name (plainL p.args).length (bare rows)) (plainL p.args ++ plainL row) = _
      rw [plain_len, bare_narrow, ← plain_append, useful_plain t ds f]
    · by_cases h2 : p.kind = 2
      · have hf : free p = false := by simp [free, h2]
        rw [if_neg h3, if_pos h2, plain_nf hf, if_neg (show ¬ (Pat.mk p.kind p.name p.n (plainL p.args)).kind = 3 from h3), if_pos (show (Pat.mk p.kind p.name p.n (plainL p.args)).kind = 2 from h2)]
        show usefulF t ds f (leftF p.n (bare rows)) (plainL row) = _
        rw [bare_left, useful_plain t ds f]
      · have h3' : ¬ (plainP p).kind = 3 := by
          rw [plainP_eq]
          by_cases h : p.kind = 1
          · rw [if_pos h]; decide
          · rw [if_neg h]; exact h3
        have h2' : ¬ (plainP p).kind = 2 := by
          rw [plainP_eq]
          by_cases h : p.kind = 1
          · rw [if_pos h]; decide
          · rw [if_neg h]; exact h2
        rw [if_neg h3, if_neg h2, if_neg h3', if_neg h2', bare_first, absent_plain fun p hp => first_nf hp, bare_rest, useful_plain t ds f, head_plain fun p hp => first_nf hp, usefulLoop_plain (useful_plain t ds f)]

/-! ### The check -/
mutual
theorem cP_plain : ∀ p : Pat, cP (plainP p) ≤ cP p
  | .mk k s n as => by
    rw [plainP]
    have := cL_plain as
    by_cases h : k = 1
    · rw [if_pos h, cP, cP, cL]; omega
    · rw [if_neg h, cP, cP]; omega
theorem cL_plain : ∀ l : List Pat, cL (plainL l) ≤ cL l
  | [] => Nat.le_refl _
  | p :: l => by
    have := cP_plain p
    have := cL_plain l
    rw [plainL, cL, cL]
    omega
end
theorem cR_plain : ∀ rows, cR (bare rows) ≤ cR rows
  | [] => Nat.le_refl _
  | r :: rows => by
    have := cL_plain r
    have := cR_plain rows
    show cR (plainL r :: bare rows) ≤ _
    rw [cR, cR]
    omega
theorem dL_nil : ∀ n, dL n [] = true
  | 0 => rfl
  | n + 1 => rfl
theorem dL_plain : ∀ (n : Nat) (l : List Pat), dL n l = true → dL n (plainL l) = true
  | 0, l, h => by
    rw [dL] at h ⊢
    rw [plain_len]
    exact h
  | n + 1, l, h => by
    rw [dL, List.all_eq_true] at h ⊢
    intro q hq
    rw [plainL_map] at hq
    obtain ⟨p, hp, rfl⟩ := List.mem_map.1 hq
    rw [plainP_eq]
    by_cases hk : p.kind = 1
    · rw [if_pos hk]; exact dL_nil n
    · rw [if_neg hk]; exact dL_plain n _ (h p hp)
mutual
theorem patF_plain {t : Tab} : ∀ p : Pat, patF t p = 0 → patF t (plainP p) = 0
  | .mk k s n as, h => by
    rw [plainP]
    by_cases h1 : k = 1
    · rw [if_pos h1, patF]; simp
    · rw [if_neg h1]
      rw [patF] at h ⊢
      by_cases h0 : k = 0 ∨ k = 1
      · rw [if_pos h0]
      rw [if_neg h0] at h ⊢
      by_cases h2 : k = 2
      · rw [if_pos h2] at h ⊢; exact h
      rw [if_neg h2] at h ⊢
      by_cases h3 : k = 3
      · rw [if_pos h3] at h ⊢
        cases hg : tget t s with
        | none => rw [hg] at h; exact h
        | some c =>
          rw [hg] at h
          simp only [plain_len] at h ⊢
          by_cases hl : as.length ≠ c.2.2
          · rw [if_pos hl] at h; exact absurd h (by decide)
          · rw [if_neg hl] at h ⊢
            exact patsF_plain as h
      · rw [if_neg h3] at h; exact absurd h (by decide)
theorem patsF_plain {t : Tab} : ∀ l : List Pat, patsF t l = 0 → patsF t (plainL l) = 0
  | [], _ => rfl
  | p :: l, h => by
    rw [patsF] at h
    rw [plainL, patsF]
    by_cases hp : patF t p = 0
    · rw [if_neg (by simpa using hp)] at h
      rw [if_neg (by simpa using patF_plain p hp)]
      exact patsF_plain l h
    · rw [if_pos hp] at h
      exact absurd h hp
end
theorem nf_plain (l : List Pat) : (plainL l).filter nf = (l.filter nf).map plainP := by
  rw [plainL_map, List.filter_map]
  congr 1
  refine List.filter_congr fun p _ => ?_
  show nf (plainP p) = nf p
  unfold nf
  rw [plain_free]
theorem below_plain {m : List Pat} (h : ∀ p ∈ m, free p = false) (name : Str) (n : Nat) : belowF (m.map plainP) name n = plainL (belowF m name n) := by
  induction m with
  | nil => rfl
  | cons p m ih =>
    have ih := ih fun q hq => h q (List.mem_cons_of_mem _ hq)
    have hp := plain_nf (h p (List.mem_cons_self ..))
    have hn : (plainP p).name = p.name := by rw [hp]; rfl
    have ha : (plainP p).args = plainL p.args := by rw [hp]; rfl
    have hg : (plainL p.args).getD n anyP = plainP (p.args.getD n anyP) := by
      rw [plainL_map]
      simp only [List.getD_eq_getElem?_getD, List.getElem?_map]
      cases p.args[n]? with
      | none => rfl
      | some q => rfl
    unfold belowF at ih ⊢
    rw [List.map_cons]
    simp only [List.filterMap_cons, hn, ha, hg]
    by_cases hnm : p.name = name
    · simp only [if_pos hnm, ih, plainL]
    · simp only [if_neg hnm, ih]
theorem kind_plain {t : Tab} {p : Pat} (h : free p = false) : kindF t (plainP p) = kindF t p := by
  rw [plain_nf h]
  rfl
theorem agreeArgs_plain {rc : List Pat → Bool} (hrc : ∀ l, rc (plainL l) = rc l) {m : List Pat} (h : ∀ p ∈ m, free p = false) (name : Str) : ∀ k n, agreeArgs rc (m.map plainP) name n k = agreeArgs rc m name n k
  | 0, n => rfl
  | k + 1, n => by rw [agreeArgs, agreeArgs, below_plain h, hrc, agreeArgs_plain hrc h name k (n + 1)]
theorem agreeLoop_plain {rc : List Pat → Bool} (hrc : ∀ l, rc (plainL l) = rc l) {m : List Pat} (h : ∀ p ∈ m, free p = false) : ∀ (ps seen : List Pat), (∀ p ∈ ps, free p = false) → (∀ p ∈ seen, free p = false) → agreeLoop rc (m.map plainP) (seen.map plainP) (ps.map plainP) = agreeLoop rc m seen ps
  | [], seen, _, _ => rfl
  | p :: ps, seen, hp, hs => by
    have hpf := hp p (List.mem_cons_self ..)
    have hpp := plain_nf hpf
    have hn : (plainP p).name = p.name := by rw [hpp]; rfl
    have hk : (plainP p).kind = p.kind := by rw [hpp]; rfl
    have ha : (plainP p).args = plainL p.args := by rw [hpp]; rfl
    have e1 := any_plain hs fun s _ => decide (s = p.name)
    have e2 := agreeLoop_plain hrc h ps (seen ++ [p]) (fun q hq => hp q (List.mem_cons_of_mem _ hq)) fun q hq => by
      rcases List.mem_append.1 hq with hq | hq
      · exact hs q hq
      · rw [List.mem_singleton] at hq; subst hq; exact hpf
    rw [List.map_append, List.map_singleton] at e2
    rw [List.map_cons, agreeLoop, agreeLoop, hn, hk, ha, e1, plain_len, agreeArgs_plain hrc h, e2]
theorem agree_plain (t : Tab) : ∀ (f : Nat) (l : List Pat), agreeF t f (plainL l) = agreeF t f l
  | 0, l => rfl
  | f + 1, l => by
    have hm : ∀ p ∈ l.filter nf, free p = false := fun p hp => (nf_mem hp).2
    have h1 : sameKind t ((l.filter nf).map plainP) = sameKind t (l.filter nf) := by
      have hd : kindF t (((l.filter nf).map plainP).headD anyP) = kindF t ((l.filter nf).headD anyP) := by
        cases hl : l.filter nf with
        | nil => rfl
        | cons p m => exact kind_plain (hm p (by rw [hl]; exact List.mem_cons_self ..))
      unfold sameKind
      rw [hd, List.all_map]
      rw [Bool.eq_iff_iff, List.all_eq_true, List.all_eq_true]
      constructor
      · intro h p hp
        have := h p hp
        simp only [Function.comp] at this
        rwa [kind_plain (hm p hp)] at this
      · intro h p hp
        simp only [Function.comp]
        rw [kind_plain (hm p hp)]
        exact h p hp
    have h2 := agreeLoop_plain (agree_plain t f) hm (l.filter nf) [] hm fun p hp => by cases hp
    rw [agreeF, agreeF, nf_plain, h1]
    congr 1
theorem bare_width (rows : List (List Pat)) : width (bare rows) = width rows := by
  cases rows with
  | nil => rfl
  | cons r rs => show (plainL r).length = r.length; exact plain_len r
theorem check_plain {ds : List DataSig} {rows : List (List Pat)} (h : checkF ds rows = 0) : checkF ds (bare rows) = 0 := by
  obtain ⟨t, hb⟩ := check_build h
  obtain ⟨hsm, ha, he, hc⟩ := check_parts h hb
  refine checkF_zero (t := t) ?_ hb ?_ ?_ ?_
  · have h1 := small_iff.1 (small_true h)
    have h2 := cR_plain rows
    refine small_iff.2 ⟨⟨fun r hr => ?_, by omega⟩, by rw [List.length_map]; exact h1.2.1, h1.2.2⟩
    obtain ⟨r', hr', rfl⟩ := List.mem_map.1 hr
    exact ⟨by rw [plain_len]; exact (h1.1.1 r' hr').1, dL_plain 20 _ (h1.1.1 r' hr').2⟩
  · rw [List.all_eq_true]
    intro r hr
    obtain ⟨r', hr', rfl⟩ := List.mem_map.1 hr
    unfold sameLen
    rw [bare_width, plain_len]
    exact List.all_eq_true.1 ha r' hr'
  · rw [errRows_iff]
    intro r hr
    obtain ⟨r', hr', rfl⟩ := List.mem_map.1 hr
    exact patsF_plain _ (errRows_iff.1 he r' hr')
  · rw [bare_width]
    refine colsLoop_of _ _ fun i _ hi => ?_
    have hcol : colF (bare rows) i = plainL (colF rows i) := by
      unfold colF bare
      rw [plainL_map, List.map_map, List.map_map]
      refine List.map_congr_left fun r _ => ?_
      simp only [Function.comp, plainL_map, List.getD_eq_getElem?_getD, List.getElem?_map]
      cases r[i]? with
      | none => rfl
      | some q => rfl
    rw [hcol, agree_plain]
    exact colsLoop_all _ _ hc _ (Nat.zero_le _) hi
theorem bad_plain (rows : List (List Pat)) (c : Int) : missBad (bare rows) c ↔ missBad rows c := by
  unfold missBad
  rw [bare_width]
  simp
theorem missOut_plain {ds : List DataSig} {rows : List (List Pat)} {c : Int} (h : (missOut ds rows c).2 = 0) : missOut ds (bare rows) c = missOut ds rows c := by
  obtain ⟨hck, hnb⟩ := miss_zero h
  obtain ⟨t, hb⟩ := check_build hck
  rw [missOut_ok hck hnb hb, missOut_ok (check_plain hck) (fun h => hnb ((bad_plain rows c).1 h)) hb, miss_plain]
theorem redOut_plain {ds : List DataSig} {rows : List (List Pat)} (h : checkF ds rows = 0) : redOut ds (bare rows) = redOut ds rows := by
  obtain ⟨t, hb⟩ := check_build h
  rw [redOut_ok h hb, redOut_ok (check_plain h) hb, List.length_map]
  congr 1
  unfold redTo
  refine List.filter_congr fun k hk => ?_
  have hk := List.mem_range.1 hk
  have e : (bare rows).getD k [] = plainL (rows.getD k []) := by
    simp only [bare, List.getD_eq_getElem?_getD, List.getElem?_map]
    cases rows[k]? with
    | none => rfl
    | some q => rfl
  rw [e, ← List.map_take, useful_plain]
mutual
def sameP : Pat → Pat → Bool
  | .mk k s n as, .mk k' s' n' as' => decide (k = k') && decide (s = s') && decide (n = n') && sameL as as'
def sameL : List Pat → List Pat → Bool
  | [], [] => true
  | p :: a, q :: b => sameP p q && sameL a b
  | _, _ => false
end
mutual
theorem sameP_refl : ∀ p, sameP p p = true
  | .mk k s n as => by rw [sameP, sameL_refl as]; simp
theorem sameL_refl : ∀ l, sameL l l = true
  | [] => by rw [sameL]
  | p :: l => by rw [sameL, sameP_refl p, sameL_refl l]; rfl
end
def namesF (ds : List DataSig) (rows : List (List Pat)) (c : Int) : Bool :=
  if (missOut ds rows c).2 ≠ 0 then decide ((missOut ds rows c).1.length = 0)
  else decide ((missOut ds (bare rows) c).2 = 0) && decide ((redOut ds rows).2 = 0) && decide ((redOut ds (bare rows)).2 = 0) && sameL (missOut ds rows c).1 (missOut ds (bare rows) c).1 && decide ((redOut ds rows).1 = (redOut ds (bare rows)).1)
theorem names_law (ds : List DataSig) (rows : List (List Pat)) (c : Int) : namesF ds rows c = true := by
  unfold namesF
  by_cases h0 : (missOut ds rows c).2 ≠ 0
  · rw [if_pos h0, missOut_none h0]; rfl
  rw [if_neg h0]
  have h1 : (missOut ds rows c).2 = 0 := Decidable.not_not.1 h0
  obtain ⟨hck, hnb⟩ := miss_zero h1
  obtain ⟨t, hb⟩ := check_build hck
  have h2 : (redOut ds rows).2 = 0 := by rw [redOut_ok hck hb]
  rw [missOut_plain h1, redOut_plain hck, h1, h2, sameL_refl]
  simp
end Go.PM
