/- Matching, the plain law: a compiled tree is valid, and examines each place once. -/
import Derived.Test.YtmjeaagpcmfnpaaVMA
set_option linter.unusedVariables false
namespace Go.PM
open Go.VL
/-! ### Names of a data type's constructors -/
theorem addCons_nodup {k : Nat} : ∀ {cs : List ConSig} {n : Nat} {t t1 : Tab}, addCons k n cs t = some t1 → (cs.map ConSig.name).Nodup ∧ ∀ c ∈ cs, tget t c.name = none
  | [], n, t, t1, _ => ⟨List.nodup_nil, fun c hc => by cases hc⟩
  | c :: cs, n, t, t1, h => by
    rw [addCons] at h
    cases hc : tget t c.name with
    | some x => rw [hc] at h; cases h
    | none =>
      rw [hc] at h
      obtain ⟨h1, h2⟩ := addCons_nodup h
      refine ⟨List.nodup_cons.2 ⟨fun hm => ?_, h1⟩, fun c' hc' => ?_⟩
      · obtain ⟨c', hc', he⟩ := List.mem_map.1 hm
        have := h2 c' hc'
        rw [he, tget_snoc, hc] at this
        simp at this
      · rcases List.mem_cons.1 hc' with rfl | hc'
        · exact hc
        · have := h2 c' hc'
          rw [tget_snoc] at this
          cases hg : tget t c'.name with
          | some y => rw [hg] at this; cases this
          | none => rfl
theorem buildF_nodup : ∀ {ds : List DataSig} {k : Nat} {t t1 : Tab}, buildF k ds t = some t1 → ∀ d ∈ ds, (d.cons.map ConSig.name).Nodup
  | [], k, t, t1, _ => fun d hd => by cases hd
  | d :: ds, k, t, t1, h => fun d' hd' => by
    rw [buildF] at h
    cases hc : addCons k 0 d.cons t with
    | none => rw [hc] at h; cases h
    | some t' =>
      rw [hc] at h
      rcases List.mem_cons.1 hd' with rfl | hd'
      · exact (addCons_nodup hc).1
      · exact buildF_nodup h d' hd'
/-! ### Nodes -/
structure NodeP (t : Tab) (ds : List DataSig) (n : MNode) : Prop where
  form : (n.kind = 0 ∧ n.row = 0 ∧ n.path = [] ∧ n.names = [] ∧ n.words = [] ∧ n.kids = []) ∨ (n.kind = 1 ∧ n.path = [] ∧ n.names = [] ∧ n.words = [] ∧ n.kids = []) ∨
    (n.kind = 2 ∧ n.row = 0 ∧ n.words = [] ∧ n.path ≠ [] ∧ n.kids.length = n.names.length + 1) ∨ (n.kind = 3 ∧ n.row = 0 ∧ n.names = [] ∧ n.path ≠ [] ∧ n.kids.length = n.words.length + 1)
  row : 0 ≤ n.row
  path : ∀ x ∈ n.path, 0 ≤ x
  words : ∀ x ∈ n.words, -1073741824 ≤ x ∧ x ≤ 1073741823
  wnodup : n.words.Nodup
  nnodup : n.names.Nodup
  data : ∃ d D, (n.names ≠ [] → ds[d]? = some D) ∧ (∀ s ∈ n.names, ∃ c, tget t s = some c ∧ c.1 = d) ∧ ∀ (i : Nat) y, n.kids[i]? = some y → -1 ≤ y ∧ (y = -1 ↔ (i = n.names.length ∧ n.kind = 2 ∧ n.names ≠ [] ∧ n.names.length = D.cons.length))
theorem failP (t : Tab) (ds : List DataSig) : NodeP t ds failN := ⟨.inl ⟨rfl, rfl, rfl, rfl, rfl, rfl⟩, Int.le_refl _, fun x hx => (by cases hx), fun x hx => (by cases hx), List.nodup_nil, List.nodup_nil, 0, ⟨[], 0, []⟩, fun h => absurd rfl h, fun s hs => (by cases hs), fun i y h => by simp [failN] at h⟩
theorem rowP (t : Tab) (ds : List DataSig) (k : Nat) : NodeP t ds (rowN k) := ⟨.inr (.inl ⟨rfl, rfl, rfl, rfl, rfl⟩), (by show (0 : Int) ≤ (k : Int); omega), fun x hx => (by cases hx), fun x hx => (by cases hx), List.nodup_nil, List.nodup_nil, 0, ⟨[], 0, []⟩, fun h => absurd rfl h, fun s hs => (by cases hs), fun i y h => by simp [rowN] at h⟩
/-- Rows whose patterns have passed the check; places that are counted from zero. -/
structure Fine (t : Tab) (rows : List MRow) (paths : List (List Int)) : Prop where
  pats : ∀ r ∈ rows, ∀ p ∈ r.2, patF t p = 0
  paths : ∀ p ∈ paths, ∀ x ∈ p, 0 ≤ x
theorem Fine.child {t : Tab} {rows : List MRow} {pl : List (List Int)} {k many : Nat} {is : Pat → Bool} (h : Fine t rows pl) (hk : k < pl.length) : Fine t (narrowM k is many rows) (belowM pl k many) := by
  refine ⟨fun r hr p hp => ?_, fun q hq x hx => ?_⟩
  · obtain ⟨z, hz, hzr⟩ := List.mem_filterMap.1 hr
    simp only at hzr
    split at hzr
    · injection hzr with hzr
      subst hzr
      rcases List.mem_append.1 hp with hp | hp
      · exact h.pats z hz p (List.mem_of_mem_take hp)
      rcases List.mem_append.1 hp with hp | hp
      · exact h.pats z hz p (List.mem_of_mem_drop hp)
      split at hp
      · rename_i hc
        by_cases hkz : k < z.2.length
        · have hm : z.2.getD k anyP ∈ z.2 := by
            rw [List.getD_eq_getElem?_getD, List.getElem?_eq_getElem hkz]
            exact List.getElem_mem _
          rcases patF_con (h.pats z hz _ hm) hc.1 with h2 | ⟨_, _, _, _, h4⟩
          · omega
          · exact h4 p hp
        · rw [List.getD_eq_getElem?_getD, List.getElem?_eq_none (by omega)] at hp
          cases hp
      · rw [List.eq_of_mem_replicate hp, anyP, patF]
        simp
    · cases hzr
  · rcases belowM_mem hk hq with hq | ⟨q', hq', i, rfl⟩
    · exact h.paths q hq x hx
    · rcases List.mem_append.1 hx with hx | hx
      · exact h.paths q' hq' x hx
      · rw [List.mem_singleton] at hx; omega
theorem patF_int {t : Tab} {p : Pat} (h : patF t p = 0) (hk : p.kind = 2) : -1073741824 ≤ p.n ∧ p.n ≤ 1073741823 := by
  obtain ⟨k, s, n, as⟩ := p
  rw [patF] at h
  have hk2 : k = 2 := hk
  subst hk2
  simp at h
  show -1073741824 ≤ n ∧ n ≤ 1073741823
  omega
/-- Values that came, or are fine. -/
def New2 (t : Tab) (ds : List DataSig) (s s' : BSt) : Prop := ∀ n ∈ s'.out, n ∈ s.out ∨ NodeP t ds n
theorem New2.trans {t : Tab} {ds : List DataSig} {a b c : BSt} (h : New2 t ds a b) (k : New2 t ds b c) : New2 t ds a c := fun n hn => (k n hn).elim (h n) .inr
theorem addF_new2 {t : Tab} {ds : List DataSig} {s s1 : BSt} {n : MNode} (h : New2 t ds s s1) (hn : NodeP t ds n) : New2 t ds s (addF s1 n).1 := fun x hx => by
  unfold addF at hx
  split at hx
  · exact h x hx
  · rcases List.mem_append.1 hx with hx | hx
    · exact h x hx
    · rw [List.mem_singleton] at hx; exact .inr (hx ▸ hn)
theorem map_nat_get {α : Type} {ys : List (α × Nat)} {i : Nat} {y : Int} {z : Int} (h : (ys.map (fun w => (w.2 : Int)) ++ [z])[i]? = some y) : (i < ys.length ∧ 0 ≤ y) ∨ (i = ys.length ∧ y = z) := by
  rw [List.getElem?_append] at h
  split at h
  · rename_i hl
    rw [List.length_map] at hl
    rw [List.getElem?_map] at h
    cases hg : ys[i]? with
    | none => rw [hg] at h; cases h
    | some w => rw [hg] at h; injection h with h; exact .inl ⟨hl, by simp only at h; omega⟩
  · rename_i hl
    rw [List.length_map] at hl h
    by_cases hi : i - ys.length = 0
    · rw [hi] at h
      injection h with h
      exact .inr ⟨by omega, h.symm⟩
    · rw [List.getElem?_eq_none (by simp only [List.length_singleton]; omega)] at h
      cases h
theorem buildM_nodes {t : Tab} {ds : List DataSig} (hok : TabOk t ds) (hlaw : TabLaw t ds) (hnd : ∀ d ∈ ds, (d.cons.map ConSig.name).Nodup) : ∀ (f : Nat) (s : BSt) (rows : List MRow) (paths : List (List Int)) (τs : List Ty), MPre t f rows paths τs → Fine t rows paths → New2 t ds s (buildM t ds f s rows paths).1
  | 0, s, rows, paths, τs, h, _ => absurd h.fuel (Nat.not_lt_zero _)
  | f + 1, s, rows, paths, τs, h, hfi => by
    have ht : New2 t ds s (tick s) := fun n hn => .inl hn
    rcases buildM_cases (s := s) hok h with ⟨e, _⟩ | ⟨hft, r0, rs, er, ⟨e, _⟩ | ⟨k, p, τ, ha, ⟨hk, e⟩ | ⟨d, g, a, D, hτ, hk, hta, hD, hcl, hcs, e⟩⟩⟩
    · rw [e]; exact addF_new2 ht (failP t ds)
    · rw [e]; exact addF_new2 ht (rowP t ds _)
    · have hkp : k < paths.length := by rw [h.plen]; exact (List.getElem?_eq_some_iff.1 ha.ty).1
      obtain ⟨path, hpath⟩ := get_of_lt paths k (by omega)
      have hpg : paths.getD k [] = path := by simp [hpath]
      have hpm := List.mem_of_getElem? hpath
      rw [e, wordsF, hpg]
      obtain ⟨_, i2, _, i4, ys, i5, i6, _, i8⟩ := wordsL_ind (rc := buildM t ds f) (rows := rows) (paths := paths) (k := k) (R := New2 t ds) (I := fun _ => True) (Q := fun _ _ _ => True)
        (fun s n hn => .inl hn) (fun a b c h1 h2 => h1.trans h2) (fun _ _ _ _ _ _ => trivial) rows (tick s) [] [] trivial fun r hr s' _ hf => ⟨trivial, buildM_nodes hok hlaw hnd f s' _ _ _ (word_child (isInt (wordAt k r)) h ha hk) (hfi.child hkp), trivial⟩
      generalize wordsL (buildM t ds f) rows paths k rows (tick s) [] [] = w at i2 i4 i5 i6 i8 ⊢
      rw [List.nil_append] at i5 i6
      refine addF_new2 ((ht.trans i2).trans (buildM_nodes hok hlaw hnd f _ _ _ _ (other_child h ha) (hfi.child hkp))) ⟨.inr (.inr (.inr ⟨rfl, rfl, rfl, (h.deep path hpm).1, ?_⟩)), Int.le_refl _, hfi.paths path hpm, fun x hx => ?_, i4 List.nodup_nil, List.nodup_nil, 0, ⟨[], 0, []⟩, fun h => absurd rfl h, fun s hs => (by cases hs), fun i y hy => ?_⟩
      · simp only [i5, i6, List.length_append, List.length_map, List.length_singleton]
      · simp only [i5] at hx
        obtain ⟨z, hz, rfl⟩ := List.mem_map.1 hx
        obtain ⟨_, r, hr, hf, hw⟩ := i8 z hz
        have hkr := ha.all r hr
        have hg : r.2.getD k anyP ∈ r.2 := by
          rw [List.getD_eq_getElem?_getD, List.getElem?_eq_getElem hkr]
          exact List.getElem_mem _
        have hget : r.2[k]? = some (r.2.getD k anyP) := by rw [List.getD_eq_getElem?_getD, List.getElem?_eq_getElem hkr]; rfl
        rw [← hw]
        exact patF_int (hfi.pats r hr _ hg) (nf_words h.ty ha hk r hr _ hget hf)
      · simp only [i6] at hy
        have h2 : ¬ ((3 : Int) = 2) := by decide
        rcases map_nat_get hy with ⟨_, h1⟩ | ⟨_, h1⟩
        · exact ⟨by omega, ⟨fun h => by omega, fun h => absurd h.2.1 h2⟩⟩
        · exact ⟨by omega, ⟨fun h => by omega, fun h => absurd h.2.1 h2⟩⟩
    · subst hτ
      have hkp : k < paths.length := by rw [h.plen]; exact (List.getElem?_eq_some_iff.1 ha.ty).1
      obtain ⟨path, hpath⟩ := get_of_lt paths k (by omega)
      have hpg : paths.getD k [] = path := by simp [hpath]
      have hpm := List.mem_of_getElem? hpath
      rw [e, consF, hpg]
      obtain ⟨_, i2, ys, i3, i5, i6, _⟩ := consL_ind (rc := buildM t ds f) (rows := rows) (paths := paths) (k := k) (R := New2 t ds) (I := fun _ => True) (Q := fun _ _ _ => True)
        (fun s n hn => .inl hn) (fun a b c h1 h2 => h1.trans h2) (fun _ _ _ _ _ _ => trivial) D.cons (tick s) [] [] trivial fun c hc s' _ hh => by
          obtain ⟨a', hta'⟩ := hcs c hc
          exact ⟨trivial, buildM_nodes hok hlaw hnd f s' _ _ _ (con_child h ha hta' hh) (hfi.child hkp), trivial⟩
      generalize consL (buildM t ds f) rows paths k D.cons (tick s) [] [] = w at i2 i5 i6 ⊢
      rw [List.nil_append] at i5 i6
      have hnames : w.2.1 = (D.cons.filter fun c => hasCon rows k c.name).map ConSig.name := by rw [i5, ← i3, List.map_map]; rfl
      have hyl : ys.length = w.2.1.length := by rw [i5, List.length_map]
      have hnn : w.2.1.Nodup := by
        rw [hnames]
        exact (hnd D (List.mem_of_getElem? hD)).sublist (List.Sublist.map _ List.filter_sublist)
      have hdat : ∀ s ∈ w.2.1, ∃ c, tget t s = some c ∧ c.1 = d := fun s hs => by
        rw [hnames] at hs
        obtain ⟨c, hc, rfl⟩ := List.mem_map.1 hs
        obtain ⟨a', hc'⟩ := hcs c (List.mem_filter.1 hc).1
        exact ⟨_, hc', rfl⟩
      have hne : w.2.1 ≠ [] := by
        obtain ⟨r0', rs', er', hp0⟩ := ha.ne
        obtain ⟨D', hD', k', hk', hkn, _⟩ := hlaw.get _ _ hta
        simp only [hD] at hD'
        injection hD' with hD'
        subst hD'
        have hh : hasCon rows k k'.name = true := List.any_eq_true.2 ⟨r0', by rw [er']; exact List.mem_cons_self .., by
          have hg : r0'.2.getD k anyP = p := by simp [hp0]
          simp only [hg, ha.free, isCon, hkn]
          simp⟩
        rw [hnames]
        exact List.ne_nil_of_mem (List.mem_map.2 ⟨k', List.mem_filter.2 ⟨hk', hh⟩, rfl⟩)
      by_cases hlt : w.2.1.length < D.cons.length
      · rw [if_pos hlt]
        refine addF_new2 ((ht.trans i2).trans (buildM_nodes hok hlaw hnd f _ _ _ _ (other_child h ha) (hfi.child hkp))) ⟨.inr (.inr (.inl ⟨rfl, rfl, rfl, (h.deep path hpm).1, ?_⟩)), Int.le_refl _, hfi.paths path hpm, fun x hx => (by cases hx), List.nodup_nil, hnn, d, D, fun _ => hD, hdat, fun i y hy => ?_⟩
        · simp only [i6, List.length_append, List.length_map, List.length_singleton, hyl]
        · simp only [i6] at hy
          rcases map_nat_get hy with ⟨h0, h1⟩ | ⟨_, h1⟩
          · exact ⟨by omega, ⟨fun h => by omega, fun h => by have := h.1; simp only at this; omega⟩⟩
          · exact ⟨by omega, ⟨fun h => by omega, fun h => by have := h.2.2.2; simp only at this; omega⟩⟩
      · rw [if_neg hlt]
        have hall : ∀ c ∈ D.cons, hasCon rows k c.name = true := Classical.byContradiction fun hh => hlt (by rw [hnames, List.length_map]; exact (filter_less _ _).2 hh)
        have hleq : w.2.1.length = D.cons.length := by
          rw [hnames, List.length_map]
          have := List.length_filter_le (fun c : ConSig => hasCon rows k c.name) D.cons
          have h2 : ¬ (D.cons.filter fun c => hasCon rows k c.name).length < D.cons.length := fun hh => (filter_less _ _).1 hh hall
          omega
        refine addF_new2 (ht.trans i2) ⟨.inr (.inr (.inl ⟨rfl, rfl, rfl, (h.deep path hpm).1, ?_⟩)), Int.le_refl _, hfi.paths path hpm, fun x hx => (by cases hx), List.nodup_nil, hnn, d, D, fun _ => hD, hdat, fun i y hy => ?_⟩
        · simp only [i6, List.length_append, List.length_map, List.length_singleton, hyl]
        · simp only [i6] at hy
          rcases map_nat_get hy with ⟨h0, h1⟩ | ⟨h0, h1⟩
          · exact ⟨by omega, ⟨fun h => by omega, fun h => by have := h.1; simp only at this; omega⟩⟩
          · exact ⟨by omega, ⟨fun _ => ⟨by simp only; omega, rfl, hne, hleq⟩, fun _ => h1⟩⟩
end Go.PM
