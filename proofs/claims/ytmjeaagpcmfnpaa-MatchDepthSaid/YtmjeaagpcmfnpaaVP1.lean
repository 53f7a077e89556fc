/- Patterns, the plain law: the table, the types of columns. -/
import Derived.Test.YtmjeaagpcmfnpaaVD7
set_option linter.unusedVariables false
namespace Go.PM
open Go.VL
theorem tget_snoc : ∀ (t : Tab) (a : Str) (v : Nat × Nat × Nat) (s : Str), tget (t ++ [(a, v)]) s = match tget t s with | some c => some c | none => if a = s then some v else none
  | [], a, v, s => by simp [tget]
  | (b, u) :: t, a, v, s => by
    rw [List.cons_append]
    simp only [tget]
    by_cases h : b = s
    · rw [if_pos h, if_pos h]
    · rw [if_neg h, if_neg h, tget_snoc t a v s]
structure Adds (t0 t1 : Tab) (k : Nat) (cs : List ConSig) : Prop where
  mono : ∀ s c, tget t0 s = some c → tget t1 s = some c
  put : ∀ kk ∈ cs, ∃ a, tget t1 kk.name = some (k, a, kk.args.length)
  get : ∀ s c, tget t1 s = some c → tget t0 s = some c ∨ (c.1 = k ∧ ∃ kk ∈ cs, kk.name = s ∧ kk.args.length = c.2.2)
theorem addCons_adds {k : Nat} : ∀ {cs : List ConSig} {n : Nat} {t0 t1 : Tab}, addCons k n cs t0 = some t1 → Adds t0 t1 k cs
  | [], n, t0, t1, h => by
    injection h with h
    subst h
    exact ⟨fun _ _ h => h, fun kk h => (by cases h), fun _ _ h => .inl h⟩
  | c :: cs, n, t0, t1, h => by
    rw [addCons] at h
    cases hc : tget t0 c.name with
    | some x => rw [hc] at h; cases h
    | none =>
      rw [hc] at h
      have ih := addCons_adds h
      have hself : tget (t0 ++ [(c.name, k, n, c.args.length)]) c.name = some (k, n, c.args.length) := by rw [tget_snoc, hc]; simp
      refine ⟨fun s x hx => ih.mono s x (by rw [tget_snoc, hx]), fun kk hk => ?_, fun s x hx => ?_⟩
      · rcases List.mem_cons.1 hk with rfl | hk
        · exact ⟨n, ih.mono _ _ hself⟩
        · exact ih.put kk hk
      · rcases ih.get s x hx with h1 | ⟨h1, kk, h2, h3, h4⟩
        · rw [tget_snoc] at h1
          cases hs : tget t0 s with
          | some y => rw [hs] at h1; exact .inl h1
          | none =>
            rw [hs] at h1
            simp only at h1
            by_cases hn : c.name = s
            · rw [if_pos hn] at h1
              injection h1 with h1
              subst h1
              exact .inr ⟨rfl, c, List.mem_cons_self .., hn, rfl⟩
            · rw [if_neg hn] at h1; cases h1
        · exact .inr ⟨h1, kk, List.mem_cons_of_mem _ h2, h3, h4⟩
structure Builds (t0 t1 : Tab) (k : Nat) (ds : List DataSig) : Prop where
  mono : ∀ s c, tget t0 s = some c → tget t1 s = some c
  put : ∀ i D kk, ds[i]? = some D → kk ∈ D.cons → ∃ a, tget t1 kk.name = some (k + i, a, kk.args.length)
  get : ∀ s c, tget t1 s = some c → tget t0 s = some c ∨ ∃ i D, c.1 = k + i ∧ ds[i]? = some D ∧ ∃ kk ∈ D.cons, kk.name = s ∧ kk.args.length = c.2.2
theorem buildF_builds : ∀ {ds : List DataSig} {k : Nat} {t0 t1 : Tab}, buildF k ds t0 = some t1 → Builds t0 t1 k ds
  | [], k, t0, t1, h => by
    injection h with h
    subst h
    exact ⟨fun _ _ h => h, fun i D kk h => by simp at h, fun _ _ h => .inl h⟩
  | d :: ds, k, t0, t1, h => by
    rw [buildF] at h
    cases hc : addCons k 0 d.cons t0 with
    | none => rw [hc] at h; cases h
    | some t' =>
      rw [hc] at h
      have ih := buildF_builds h
      have ha := addCons_adds hc
      refine ⟨fun s x hx => ih.mono s x (ha.mono s x hx), fun i D kk hi hk => ?_, fun s x hx => ?_⟩
      · cases i with
        | zero =>
          simp at hi
          subst hi
          obtain ⟨a, h1⟩ := ha.put kk hk
          exact ⟨a, ih.mono _ _ h1⟩
        | succ i =>
          obtain ⟨a, h1⟩ := ih.put i D kk (by simpa using hi) hk
          exact ⟨a, by rw [h1, show k + 1 + i = k + (i + 1) by omega]⟩
      · rcases ih.get s x hx with h1 | ⟨i, D, h1, h2, h3⟩
        · rcases ha.get s x h1 with h4 | ⟨h4, kk, h5, h6⟩
          · exact .inl h4
          · exact .inr ⟨0, d, by omega, by simp, kk, h5, h6⟩
        · exact .inr ⟨i + 1, D, by omega, by simpa using h2, h3⟩
structure TabLaw (t : Tab) (ds : List DataSig) : Prop where
  put : ∀ (d : Nat) D k, ds[d]? = some D → k ∈ D.cons → ∃ a, tget t k.name = some (d, a, k.args.length)
  get : ∀ s c, tget t s = some c → ∃ D, ds[c.1]? = some D ∧ ∃ k ∈ D.cons, k.name = s ∧ k.args.length = c.2.2
theorem tabLaw_of {ds : List DataSig} {t : Tab} (h : buildF 0 ds [] = some t) : TabLaw t ds := by
  have hb := buildF_builds h
  refine ⟨fun d D k hd hk => ?_, fun s c hs => ?_⟩
  · obtain ⟨a, h1⟩ := hb.put d D k hd hk
    exact ⟨a, by rw [h1, Nat.zero_add]⟩
  · rcases hb.get s c hs with h1 | ⟨i, D, h1, h2, h3⟩
    · cases h1
    · exact ⟨D, by rw [h1, Nat.zero_add]; exact h2, h3⟩
/-- No data are larger than memory. -/
def Sized (ds : List DataSig) : Prop := ∀ d ∈ ds, ∀ k ∈ d.cons, k.args.length * 56 ≤ 140737488355328
theorem tabOk_of {ds : List DataSig} {t : Tab} {rows : List (List Pat)} (h : buildF 0 ds [] = some t) (hs : Small ds rows) (hz : Sized ds) : TabOk t ds := by
  have hl := tabLaw_of h
  refine ⟨fun s c hc => ?_, hl.put, fun d D hD => ⟨?_, hz D (List.mem_of_getElem? hD)⟩⟩
  · obtain ⟨D, h1, _⟩ := hl.get s c hc
    exact ⟨D, h1⟩
  · have := hs.cons D (List.mem_of_getElem? hD)
    omega

/-! ### Types of columns -/
/-- A type all of whose parts have values. -/
def Good (ds : List DataSig) : Ty → Prop
  | .any => True
  | .int => True
  | .dat d f => (∃ D, ds[d]? = some D ∧ D.cons ≠ []) ∧ ∀ s i, Good ds (f s i)
theorem agreeArgs_all {rc : List Pat → Bool} {m : List Pat} {name : Str} : ∀ (k n : Nat), agreeArgs rc m name n k = true → ∀ i, n ≤ i → i < n + k → rc (belowF m name i) = true
  | 0, n, _, i, h1, h2 => by omega
  | k + 1, n, h, i, h1, h2 => by
    rw [agreeArgs, Bool.and_eq_true] at h
    rcases Nat.eq_or_lt_of_le h1 with rfl | h3
    · exact h.1
    · exact agreeArgs_all k (n + 1) h.2 i h3 (by omega)
theorem agreeLoop_all {rc : List Pat → Bool} {m : List Pat} (hargs : ∀ p ∈ m, ∀ q ∈ m, p.kind = 3 → q.name = p.name → q.kind = 3 ∧ q.args.length = p.args.length) : ∀ (ps seen : List Pat), seen ++ ps = m → agreeLoop rc m seen ps = true →
    (∀ p ∈ seen, p.kind = 3 → ∀ n, n < p.args.length → rc (belowF m p.name n) = true) → ∀ p ∈ m, p.kind = 3 → ∀ n, n < p.args.length → rc (belowF m p.name n) = true
  | [], seen, hm, _, hs => by
    rw [List.append_nil] at hm
    subst hm
    exact hs
  | p :: ps, seen, hm, h, hs => by
    rw [agreeLoop, Bool.and_eq_true] at h
    refine agreeLoop_all hargs ps (seen ++ [p]) (by rw [← hm]; simp) h.2 fun q hq hk n hn => ?_
    rcases List.mem_append.1 hq with hq | hq
    · exact hs q hq hk n hn
    · rw [List.mem_singleton] at hq
      subst hq
      have h1 := h.1
      simp only [Bool.or_eq_true, List.any_eq_true, decide_eq_true_eq] at h1
      rcases h1 with (⟨x, hx, hxn⟩ | h1) | h1
      · have hqm : q ∈ m := by rw [← hm]; simp
        have hxm : x ∈ m := by rw [← hm]; exact List.mem_append_left _ hx
        have h2 := hargs q hqm x hxm hk hxn
        have := hs x hx h2.1 n (by omega)
        rw [hxn] at this
        exact this
      · exact absurd hk h1
      · exact agreeArgs_all _ 0 h1 n (Nat.zero_le _) (by omega)
theorem len_le_cL : ∀ l : List Pat, l.length ≤ cL l
  | [] => Nat.le_refl _
  | p :: l => by
    have := len_le_cL l
    have := cP_eq p
    simp only [List.length_cons, cL]
    omega
theorem cP_mem {l : List Pat} {p : Pat} (h : p ∈ l) : cP p ≤ cL l := by
  obtain ⟨i, hi⟩ := List.getElem?_of_mem h
  exact cL_get hi
theorem agree_ty {t : Tab} {ds : List DataSig} (hl : TabLaw t ds) : ∀ (f : Nat), f ≤ 401 → ∀ l, AgreePre t f l → agreeF t f l = true → ∃ τ, Good ds τ ∧ ∀ p ∈ l, wt t τ p
  | 0, _, l, hp, _ => absurd hp.fuel (Nat.not_lt_zero _)
  | f + 1, hf, l, hp, h => by
    rw [agreeF, Bool.and_eq_true] at h
    obtain ⟨hs, ha⟩ := h
    have hok : ∀ p ∈ l.filter nf, patF t p = 0 := fun p hp' => hp.ok p (nf_mem hp').1
    have hnf : ∀ p ∈ l.filter nf, free p = false := fun p hp' => (nf_mem hp').2
    have hsplit : ∀ p ∈ l, free p = true ∨ p ∈ l.filter nf := fun p hpl => by
      cases hfp : free p with
      | true => exact .inl rfl
      | false => exact .inr (List.mem_filter.2 ⟨hpl, by simp [nf, hfp]⟩)
    cases hm : l.filter nf with
    | nil =>
      refine ⟨.any, trivial, fun p hpl => ?_⟩
      rcases hsplit p hpl with h1 | h1
      · exact h1
      · rw [hm] at h1; cases h1
    | cons p0 l0 =>
      have hp0 : p0 ∈ l.filter nf := by rw [hm]; exact List.mem_cons_self ..
      have hkind : ∀ p ∈ l.filter nf, kindF t p = kindF t p0 := fun p hpm => by
        have := List.all_eq_true.1 hs p hpm
        rw [hm] at this
        simpa using this
      rcases patF_con (hok p0 hp0) (hnf p0 hp0) with h2 | ⟨h3, c, hc, _, _⟩
      · refine ⟨.int, trivial, fun p hpl => ?_⟩
        rcases hsplit p hpl with h1 | h1
        · exact .inl h1
        · have e := hkind p h1
          rcases patF_con (hok p h1) (hnf p h1) with h5 | ⟨h5, c', hc', _, _⟩
          · exact .inr h5
          · have e0 : kindF t p0 = -1 := by simp [kindF, h2]
            have e1 : kindF t p = c'.1 := by simp [kindF, h5, hc']
            omega
      · have hk3 : ∀ p ∈ l.filter nf, p.kind = 3 ∧ ∃ a, tget t p.name = some (c.1, a, p.args.length) := fun p hpm => by
          have e := hkind p hpm
          have e0 : kindF t p0 = c.1 := by simp [kindF, h3, hc]
          rcases patF_con (hok p hpm) (hnf p hpm) with h5 | ⟨h5, c', hc', hl', _⟩
          · have e1 : kindF t p = -1 := by simp [kindF, h5]
            omega
          · have e1 : kindF t p = c'.1 := by simp [kindF, h5, hc']
            refine ⟨h5, c'.2.1, ?_⟩
            rw [hc', hl']
            have : c'.1 = c.1 := by omega
            rw [← this]
        have hargs : ∀ p ∈ l.filter nf, ∀ q ∈ l.filter nf, p.kind = 3 → q.name = p.name → q.kind = 3 ∧ q.args.length = p.args.length := fun p hpm q hqm hk hn => by
          have := same_args hs hok hnf hpm hqm hk hn
          exact ⟨this.1, this.2.1⟩
        have hall := agreeLoop_all hargs _ [] rfl ha fun p hp => by cases hp
        obtain ⟨D, hD, k, hk, _⟩ := hl.get _ _ hc
        have hex : ∀ p ∈ l.filter nf, ∀ i, i < p.args.length → ∃ τ, Good ds τ ∧ ∀ q ∈ belowF (l.filter nf) p.name i, wt t τ q := fun p hpm i hi =>
          agree_ty hl f (by omega) _ (hp.below rfl hs hpm (hk3 p hpm).1 hi) (hall p hpm (hk3 p hpm).1 i hi)
        let g : Str → Nat → Ty := fun s i => open Classical in if h : ∃ τ, Good ds τ ∧ ∀ q ∈ belowF (l.filter nf) s i, wt t τ q then Classical.choose h else .any
        have hg1 : ∀ s i, Good ds (g s i) := fun s i => by
          by_cases h : ∃ τ, Good ds τ ∧ ∀ q ∈ belowF (l.filter nf) s i, wt t τ q
          · have e : g s i = Classical.choose h := dif_pos h
            rw [e]
            exact (Classical.choose_spec h).1
          · have e : g s i = .any := dif_neg h
            rw [e]
            trivial
        refine ⟨.dat c.1 g, ⟨⟨D, hD, fun e => by rw [e] at hk; cases hk⟩, hg1⟩, fun p hpl => ?_⟩
        rcases hsplit p hpl with h1 | h1
        · exact .inl h1
        · obtain ⟨h5, a, h6⟩ := hk3 p h1
          have h7 : cP p ≤ cL l := cP_mem hpl
          have h8 := len_le_cL p.args
          have h9 := cP_eq p
          have h10 := hp.fuel
          refine .inr ⟨h5, ⟨a, h6⟩, by omega, fun i q hi => ?_⟩
          have hilt := (List.getElem?_eq_some_iff.1 hi).1
          have hexi := hex p h1 i hilt
          have : g p.name i = Classical.choose hexi := dif_pos hexi
          rw [this]
          refine (Classical.choose_spec hexi).2 q (List.mem_filterMap.2 ⟨p, h1, ?_⟩)
          rw [if_pos rfl]
          simp [hi]
end Go.PM
