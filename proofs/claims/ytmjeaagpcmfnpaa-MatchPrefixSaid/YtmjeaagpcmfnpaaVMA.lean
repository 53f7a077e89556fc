/- Matching, the plain law: what the builder keeps. -/
import Derived.Test.YtmjeaagpcmfnpaaVD9
set_option linter.unusedVariables false
namespace Go.PM
open Go.VL
def wM : List MRow → Nat
  | [] => 0
  | r :: rs => wL r.2 + wM rs
structure MPre (t : Tab) (f : Nat) (rows : List MRow) (paths : List (List Int)) (τs : List Ty) : Prop where
  ty : ∀ r ∈ rows, rowT t τs r.2
  plen : paths.length = τs.length
  len : rows.length ≤ 64
  fuel : wM rows < f
  wide : τs.length + 401 * wM rows ≤ 400000
  deep : ∀ p ∈ paths, p ≠ [] ∧ p.length + wM rows ≤ 1000
theorem split_at {α : Type} {l : List α} {k : Nat} {x : α} (h : l[k]? = some x) : l = l.take k ++ x :: l.drop (k + 1) := by
  rw [← drop_cons h, List.take_append_drop]
theorem wL_at {l : List Pat} {k : Nat} {p : Pat} (h : l[k]? = some p) : wL l = wL (l.take k) + (wP p + wL (l.drop (k + 1))) := by
  conv => lhs; rw [split_at h, wL_append, wL]
theorem wP_pos {p : Pat} (h : free p = false) : wP p = 1 + wL p.args := wP_con h
/-- What a kept row becomes. -/
def newPats (k many : Nat) (p : Pat) (l : List Pat) : List Pat := l.take k ++ (l.drop (k + 1) ++ (if free p = false ∧ p.kind = 3 then p.args else anysL many))
theorem newPats_w {l : List Pat} {k many : Nat} {p : Pat} (h : l[k]? = some p) : wL (newPats k many p l) ≤ wL l ∧ (free p = false → wL (newPats k many p l) + 1 ≤ wL l) := by
  have h1 := wL_at h
  unfold newPats
  rw [wL_append, wL_append]
  by_cases hc : free p = false ∧ p.kind = 3
  · rw [if_pos hc]
    have := wP_pos hc.1
    exact ⟨by omega, fun _ => by omega⟩
  · rw [if_neg hc, wL_anys]
    exact ⟨by omega, fun hf => by have := wP_pos hf; omega⟩
theorem narrowM_cons (k : Nat) (is : Pat → Bool) (many : Nat) (r : MRow) (rows : List MRow) {p : Pat} (h : r.2[k]? = some p) :
    narrowM k is many (r :: rows) = if (free p || is p) = true then (r.1, newPats k many p r.2) :: narrowM k is many rows else narrowM k is many rows := by
  have hg : r.2.getD k anyP = p := by simp [h]
  unfold narrowM newPats
  rw [List.filterMap_cons]
  simp only [hg]
  by_cases hc : (free p || is p) = true
  · rw [if_pos hc, if_pos hc]
  · rw [if_neg hc, if_neg hc]
theorem narrowM_w {k : Nat} {is : Pat → Bool} {many : Nat} : ∀ {rows : List MRow}, (∀ r ∈ rows, k < r.2.length) → wM (narrowM k is many rows) ≤ wM rows
  | [], _ => Nat.le_refl _
  | r :: rows, h => by
    obtain ⟨p, hp⟩ := get_of_lt r.2 k (by have := h r (List.mem_cons_self ..); omega)
    have ih := narrowM_w (is := is) (many := many) fun r' hr' => h r' (List.mem_cons_of_mem _ hr')
    have hn := newPats_w (many := many) hp
    rw [narrowM_cons k is many r rows hp]
    split
    · show wL (newPats k many p r.2) + wM (narrowM k is many rows) ≤ wL r.2 + wM rows
      omega
    · show wM (narrowM k is many rows) ≤ wL r.2 + wM rows
      omega
theorem narrowM_w1 {k : Nat} {is : Pat → Bool} {many : Nat} {r0 : MRow} {rs : List MRow} {p0 : Pat} (h : ∀ r ∈ r0 :: rs, k < r.2.length) (hp : r0.2[k]? = some p0) (hf : free p0 = false) : wM (narrowM k is many (r0 :: rs)) + 1 ≤ wM (r0 :: rs) := by
  have hw := narrowM_w (is := is) (many := many) fun r' hr' => h r' (List.mem_cons_of_mem _ hr')
  have hn := (newPats_w (many := many) hp).2 hf
  have h1 := wL_at hp
  have h2 := wP_pos hf
  rw [narrowM_cons k is many r0 rs hp]
  split
  · show wL (newPats k many p0 r0.2) + wM (narrowM k is many rs) + 1 ≤ wL r0.2 + wM rs
    omega
  · show wM (narrowM k is many rs) + 1 ≤ wL r0.2 + wM rs
    omega
theorem rowT.take {t : Tab} : ∀ {τs : List Ty} {l : List Pat} (k : Nat), rowT t τs l → rowT t (τs.take k) (l.take k)
  | _, _, 0, _ => by simp only [List.take_zero]; trivial
  | [], [], _ + 1, _ => trivial
  | τ :: τs, p :: l, k + 1, h => ⟨h.1, rowT.take k h.2⟩
  | [], _ :: _, _ + 1, h => h.elim
  | _ :: _, [], _ + 1, h => h.elim
theorem rowT.drop {t : Tab} : ∀ {τs : List Ty} {l : List Pat} (k : Nat), rowT t τs l → rowT t (τs.drop k) (l.drop k)
  | _, _, 0, h => h
  | [], [], _ + 1, _ => trivial
  | τ :: τs, p :: l, k + 1, h => rowT.drop k h.2
  | [], _ :: _, _ + 1, h => h.elim
  | _ :: _, [], _ + 1, h => h.elim
def newTys (k : Nat) (σs τs : List Ty) : List Ty := τs.take k ++ (τs.drop (k + 1) ++ σs)
theorem newTys_len {k : Nat} {σs τs : List Ty} (h : k < τs.length) : (newTys k σs τs).length = τs.length - 1 + σs.length := by
  unfold newTys
  rw [List.length_append, List.length_append, List.length_take, List.length_drop]
  omega
theorem narrowM_ty {t : Tab} {k : Nat} {is : Pat → Bool} {τ : Ty} {τs σs : List Ty} {rows : List MRow} (hk : τs[k]? = some τ) (hT : ∀ r ∈ rows, rowT t τs r.2)
    (h : ∀ p, wt t τ p → free p = false → is p = true → rowT t σs (if p.kind = 3 then p.args else anysL σs.length)) : ∀ r ∈ narrowM k is σs.length rows, rowT t (newTys k σs τs) r.2 := fun r hr => by
  obtain ⟨z, hz, hzr⟩ := List.mem_filterMap.1 hr
  have hTz := hT z hz
  have hlt : k < z.2.length := by rw [hTz.len]; exact (List.getElem?_eq_some_iff.1 hk).1
  obtain ⟨p, hp⟩ := get_of_lt z.2 k (by omega)
  have hg : z.2.getD k anyP = p := by simp [hp]
  simp only [hg] at hzr
  have hw : wt t τ p := rowT.get hTz k τ p hk hp
  by_cases hc : (free p || is p) = true
  · rw [if_pos hc] at hzr
    injection hzr with hzr
    subst hzr
    refine (hTz.take k).append ((hTz.drop (k + 1)).append ?_)
    cases hf : free p with
    | true =>
      rw [if_neg (by simp)]
      exact rowT.anys σs
    | false =>
      rw [hf, Bool.false_or] at hc
      have := h p hw hf hc
      by_cases hk3 : p.kind = 3
      · rw [if_pos ⟨rfl, hk3⟩]
        rwa [if_pos hk3] at this
      · rw [if_neg fun h => hk3 h.2]
        rwa [if_neg hk3] at this
  · rw [if_neg hc] at hzr
    cases hzr
theorem belowM_len {paths : List (List Int)} {k many : Nat} (h : k < paths.length) : (belowM paths k many).length = paths.length - 1 + many := by
  unfold belowM
  rw [List.length_append, List.length_append, List.length_take, List.length_drop, List.length_map, List.length_range]
  omega
theorem belowM_mem {paths : List (List Int)} {k many : Nat} {p : List Int} (hk : k < paths.length) (h : p ∈ belowM paths k many) : p ∈ paths ∨ ∃ q ∈ paths, ∃ i : Nat, p = q ++ [(i : Int)] := by
  unfold belowM at h
  rcases List.mem_append.1 h with h | h
  · exact .inl (List.mem_of_mem_take h)
  rcases List.mem_append.1 h with h | h
  · exact .inl (List.mem_of_mem_drop h)
  · obtain ⟨i, _, rfl⟩ := List.mem_map.1 h
    refine .inr ⟨paths.getD k [], ?_, i, rfl⟩
    rw [List.getD_eq_getElem?_getD, List.getElem?_eq_getElem hk]
    exact List.getElem_mem _
/-- What a builder's step finds at the head. -/
structure AtHead (t : Tab) (rows : List MRow) (τs : List Ty) (k : Nat) (p : Pat) (τ : Ty) : Prop where
  ne : ∃ r0 rs, rows = r0 :: rs ∧ r0.2[k]? = some p
  idx : idxOf nf (headPats rows) = k
  free : free p = false
  ty : τs[k]? = some τ
  wt : wt t τ p
  all : ∀ r ∈ rows, k < r.2.length
theorem atHead_of {t : Tab} {f : Nat} {rows : List MRow} {paths : List (List Int)} {τs : List Ty} (h : MPre t f rows paths τs) (hne : rows.length ≠ 0) (hi : ¬ idxOf nf (headPats rows) < 0) : ∃ k p τ, AtHead t rows τs k p τ := by
  cases rows with
  | nil => exact absurd rfl hne
  | cons r0 rs =>
    rcases idxOf_range nf (headPats (r0 :: rs)) with ⟨h1, _⟩ | ⟨k, p, h1, h2, h3, h4⟩
    · rw [h1] at hi; exact absurd (by decide) hi
    · have h2' : r0.2[k]? = some p := h2
      have hT := h.ty r0 (List.mem_cons_self ..)
      have hlt : k < τs.length := by rw [← hT.len]; exact (List.getElem?_eq_some_iff.1 h2').1
      refine ⟨k, p, τs[k], ⟨r0, rs, rfl, h2'⟩, h1, by simpa [nf] using h3, List.getElem?_eq_getElem hlt, rowT.get hT k _ p (List.getElem?_eq_getElem hlt) h2', fun r hr => ?_⟩
      rw [(h.ty r hr).len]
      exact hlt
theorem MPre.child {t : Tab} {f : Nat} {rows : List MRow} {paths : List (List Int)} {τs σs : List Ty} {k : Nat} {p : Pat} {τ : Ty} {is : Pat → Bool} (h : MPre t (f + 1) rows paths τs) (ha : AtHead t rows τs k p τ) (hσ : σs.length ≤ 400)
    (hty : ∀ p, wt t τ p → Go.PM.free p = false → is p = true → rowT t σs (if p.kind = 3 then p.args else anysL σs.length)) : MPre t f (narrowM k is σs.length rows) (belowM paths k σs.length) (newTys k σs τs) := by
  obtain ⟨⟨r0, rs, rfl, hp0⟩, _, hf, hτ, hw, hall⟩ := ha
  have hlt : k < τs.length := (List.getElem?_eq_some_iff.1 hτ).1
  have hw1 := narrowM_w1 (is := is) (many := σs.length) hall hp0 hf
  have hfu := h.fuel
  have hwi := h.wide
  have hpl := h.plen
  refine ⟨narrowM_ty hτ h.ty hty, ?_, ?_, by omega, ?_, fun q hq => ?_⟩
  · rw [belowM_len (by omega), newTys_len hlt]; omega
  · exact Nat.le_trans (List.length_filterMap_le _ _) h.len
  · rw [newTys_len hlt]; omega
  · rcases belowM_mem (by omega) hq with hq | ⟨q', hq', i, rfl⟩
    · exact ⟨(h.deep q hq).1, by have := (h.deep q hq).2; omega⟩
    · exact ⟨by simp, by have := (h.deep q' hq').2; rw [List.length_append, List.length_singleton]; omega⟩
/-- A constructor that occurs. -/
theorem hasCon_spec {t : Tab} {rows : List MRow} {k d : Nat} {g : Str → Nat → Ty} {τs : List Ty} {c : ConSig} {a : Nat} (hT : ∀ r ∈ rows, rowT t τs r.2) (hτ : τs[k]? = some (.dat d g)) (hc : tget t c.name = some (d, a, c.args.length)) (h : hasCon rows k c.name = true) : c.args.length ≤ 400 := by
  obtain ⟨r, hr, hb⟩ := List.any_eq_true.1 h
  have hTr := hT r hr
  obtain ⟨p, hp⟩ := get_of_lt r.2 k (by rw [hTr.len]; have := (List.getElem?_eq_some_iff.1 hτ).1; omega)
  have hg : r.2.getD k anyP = p := by simp [hp]
  simp only [hg, Bool.and_eq_true, Bool.not_eq_true', isCon, decide_eq_true_eq] at hb
  rcases rowT.get hTr k _ p hτ hp with h1 | ⟨_, ⟨a', h1⟩, h2, _⟩
  · rw [hb.1] at h1; cases h1
  · rw [hb.2, hc] at h1
    injection h1 with h1
    injection h1 with _ h1
    injection h1 with _ h1
    omega
theorem con_child {t : Tab} {f : Nat} {rows : List MRow} {paths : List (List Int)} {τs : List Ty} {k d a : Nat} {g : Str → Nat → Ty} {p : Pat} {c : ConSig} (h : MPre t (f + 1) rows paths τs) (ha : AtHead t rows τs k p (.dat d g)) (hc : tget t c.name = some (d, a, c.args.length)) (hh : hasCon rows k c.name = true) :
    MPre t f (narrowM k (isCon c.name) c.args.length rows) (belowM paths k c.args.length) (newTys k (argT (g c.name) c.args.length) τs) := by
  have hl := argT_len (g c.name) c.args.length
  have h4 := hasCon_spec h.ty ha.ty hc hh
  have := h.child (σs := argT (g c.name) c.args.length) (is := isCon c.name) ha (by omega) fun q hq hqf hqi => by
    have hn : q.name = c.name := by simpa [isCon] using hqi
    have hargs := rowT.args hq hqf
    rcases hq with h1 | ⟨h3, ⟨a', h1⟩, _, _⟩
    · rw [hqf] at h1; cases h1
    · rw [if_pos h3]
      rw [hn, hc] at h1
      injection h1 with h1
      injection h1 with _ h1
      injection h1 with _ h1
      rw [hn, ← h1] at hargs
      exact hargs
  rwa [hl] at this
theorem word_child {t : Tab} {f : Nat} {rows : List MRow} {paths : List (List Int)} {τs : List Ty} {k : Nat} {p : Pat} {τ : Ty} (is : Pat → Bool) (h : MPre t (f + 1) rows paths τs) (ha : AtHead t rows τs k p τ) (hk : p.kind = 2) : MPre t f (narrowM k is 0 rows) (belowM paths k 0) (newTys k [] τs) :=
  h.child (σs := []) (is := is) ha (Nat.zero_le _) fun q hq hqf _ => by
    have := int_ty ha.wt hk hq hqf
    rw [if_neg (by omega)]
    trivial
theorem other_child {t : Tab} {f : Nat} {rows : List MRow} {paths : List (List Int)} {τs : List Ty} {k : Nat} {p : Pat} {τ : Ty} (h : MPre t (f + 1) rows paths τs) (ha : AtHead t rows τs k p τ) : MPre t f (narrowM k (fun _ => false) 0 rows) (belowM paths k 0) (newTys k [] τs) :=
  h.child (σs := []) (is := fun _ => false) ha (Nat.zero_le _) fun q hq hqf hi => by cases hi

/-! ### The counters -/
structure BInv (s : BSt) : Prop where
  out : s.out.length ≤ s.many
  full : s.full = decide (4096 < s.many)
theorem tick_inv {s : BSt} (h : BInv s) : BInv (tick s) := by
  refine ⟨by have := h.out; show s.out.length ≤ s.many + 1; omega, ?_⟩
  show (s.full || decide (4096 < s.many + 1)) = decide (4096 < s.many + 1)
  rw [h.full]
  by_cases h1 : 4096 < s.many
  · rw [decide_eq_true h1, decide_eq_true (by omega)]; rfl
  · rw [decide_eq_false h1, Bool.false_or]
theorem addF_many (s : BSt) (n : MNode) : (addF s n).1.many = s.many ∧ (addF s n).1.full = s.full := by
  unfold addF
  split <;> exact ⟨rfl, rfl⟩
theorem addF_spec (s : BSt) (n : MNode) : ∃ x, (addF s n).1.out = s.out ++ x ∧ x.length ≤ 1 ∧ (addF s n).1.out[(addF s n).2]? = some n := by
  unfold addF
  rcases idxOf_range (fun x => sameN x n) s.out with ⟨h1, h2⟩ | ⟨k, y, h1, h2, h3, h4⟩
  · rw [if_neg (by omega)]
    exact ⟨[n], rfl, Nat.le_refl _, by simp⟩
  · rw [if_pos (by omega), h1]
    refine ⟨[], by simp, Nat.zero_le _, ?_⟩
    show s.out[(k : Int).toNat]? = some n
    rw [Int.toNat_natCast, h2, sameN_iff.1 h3]
theorem addF_tick {s : BSt} (n : MNode) (h : s.out.length + 1 ≤ s.many) (hf : s.full = decide (4096 < s.many)) : BInv (addF s n).1 := by
  obtain ⟨x, h1, h2, _⟩ := addF_spec s n
  obtain ⟨h3, h4⟩ := addF_many s n
  refine ⟨?_, by rw [h3, h4, hf]⟩
  rw [h1, h3, List.length_append]
  omega
/-- What a step of the builder keeps. -/
structure Keeps (f : Nat) (s s' : BSt) : Prop where
  out : s'.out.length + s.many ≤ s'.many + s.out.length
  mono : s.many + 1 ≤ s'.many
  full : s'.full = decide (4096 < s'.many)
  fast : s.full = true → s'.many = s.many + 1
  slow : s.full = false → s'.many ≤ 4097 + f * 1100
end Go.PM
namespace Go.PM
open Go.VL
section
variable {rc : BSt → List MRow → List (List Int) → BSt × Nat} {rows : List MRow} {paths : List (List Int)} {k : Nat}
theorem consL_ind {R : BSt → BSt → Prop} {I : BSt → Prop} {Q : ConSig → BSt → Nat → Prop} (hrefl : ∀ s, R s s) (htrans : ∀ a b c, R a b → R b c → R a c) (hmono : ∀ c s s' y, R s s' → Q c s y → Q c s' y) :
    ∀ (cs : List ConSig) (s : BSt) (names : List Str) (kids : List Int), I s → (∀ c ∈ cs, ∀ s, I s → hasCon rows k c.name = true → I (rc s (narrowM k (isCon c.name) c.args.length rows) (belowM paths k c.args.length)).1 ∧ R s (rc s (narrowM k (isCon c.name) c.args.length rows) (belowM paths k c.args.length)).1 ∧ Q c (rc s (narrowM k (isCon c.name) c.args.length rows) (belowM paths k c.args.length)).1 (rc s (narrowM k (isCon c.name) c.args.length rows) (belowM paths k c.args.length)).2) →
      I (consL rc rows paths k cs s names kids).1 ∧ R s (consL rc rows paths k cs s names kids).1 ∧ ∃ ys : List (ConSig × Nat), ys.map (·.1) = cs.filter (fun c => hasCon rows k c.name) ∧ (consL rc rows paths k cs s names kids).2.1 = names ++ ys.map (fun z => z.1.name) ∧
        (consL rc rows paths k cs s names kids).2.2 = kids ++ ys.map (fun z => (z.2 : Int)) ∧ ∀ z ∈ ys, Q z.1 (consL rc rows paths k cs s names kids).1 z.2
  | [], s, names, kids, hI, _ => ⟨hI, hrefl s, [], rfl, by simp [consL], by simp [consL], fun z hz => by cases hz⟩
  | c :: cs, s, names, kids, hI, hs => by
    rw [consL]
    by_cases hc : hasCon rows k c.name = true
    · rw [if_pos hc]
      obtain ⟨h1, h2, h3⟩ := hs c (List.mem_cons_self ..) s hI hc
      generalize rc s (narrowM k (isCon c.name) c.args.length rows) (belowM paths k c.args.length) = r at h1 h2 h3 ⊢
      obtain ⟨i1, i2, ys, i3, i4, i5, i6⟩ := consL_ind hrefl htrans hmono cs r.1 (names ++ [c.name]) (kids ++ [(r.2 : Int)]) h1 fun c' hc' => hs c' (List.mem_cons_of_mem _ hc')
      refine ⟨i1, htrans _ _ _ h2 i2, (c, r.2) :: ys, ?_, ?_, ?_, fun z hz => ?_⟩
      · rw [List.filter_cons, if_pos hc, List.map_cons, i3]
      · rw [i4]; simp
      · rw [i5]; simp
      · rcases List.mem_cons.1 hz with rfl | hz
        · exact hmono _ _ _ _ i2 h3
        · exact i6 z hz
    · rw [if_neg hc]
      obtain ⟨i1, i2, ys, i3, i4, i5, i6⟩ := consL_ind hrefl htrans hmono cs s names kids hI fun c' hc' => hs c' (List.mem_cons_of_mem _ hc')
      exact ⟨i1, i2, ys, by rw [List.filter_cons, if_neg hc, i3], i4, i5, i6⟩
/-- The word of a row at the column. -/
def wordAt (k : Nat) (r : MRow) : Int := (r.2.getD k anyP).n
theorem wordsL_ind {R : BSt → BSt → Prop} {I : BSt → Prop} {Q : Int → BSt → Nat → Prop} (hrefl : ∀ s, R s s) (htrans : ∀ a b c, R a b → R b c → R a c) (hmono : ∀ c s s' y, R s s' → Q c s y → Q c s' y) :
    ∀ (rs : List MRow) (s : BSt) (ws : List Int) (kids : List Int), I s → (∀ r ∈ rs, ∀ s, I s → free (r.2.getD k anyP) = false → I (rc s (narrowM k (isInt (wordAt k r)) 0 rows) (belowM paths k 0)).1 ∧ R s (rc s (narrowM k (isInt (wordAt k r)) 0 rows) (belowM paths k 0)).1 ∧ Q (wordAt k r) (rc s (narrowM k (isInt (wordAt k r)) 0 rows) (belowM paths k 0)).1 (rc s (narrowM k (isInt (wordAt k r)) 0 rows) (belowM paths k 0)).2) →
      I (wordsL rc rows paths k rs s ws kids).1 ∧ R s (wordsL rc rows paths k rs s ws kids).1 ∧ (∀ r ∈ rs, free (r.2.getD k anyP) = true ∨ wordAt k r ∈ (wordsL rc rows paths k rs s ws kids).2.1) ∧ (ws.Nodup → (wordsL rc rows paths k rs s ws kids).2.1.Nodup) ∧
      ∃ ys : List (Int × Nat), (wordsL rc rows paths k rs s ws kids).2.1 = ws ++ ys.map (·.1) ∧ (wordsL rc rows paths k rs s ws kids).2.2 = kids ++ ys.map (fun z => (z.2 : Int)) ∧ ys.length ≤ rs.length ∧ ∀ z ∈ ys, Q z.1 (wordsL rc rows paths k rs s ws kids).1 z.2 ∧ ∃ r ∈ rs, free (r.2.getD k anyP) = false ∧ wordAt k r = z.1
  | [], s, ws, kids, hI, _ => ⟨hI, hrefl s, (fun r hr => by cases hr), id, [], by simp [wordsL], by simp [wordsL], Nat.le_refl _, fun z hz => by cases hz⟩
  | r :: rs, s, ws, kids, hI, hs => by
    rw [wordsL]
    by_cases hc : (free (r.2.getD k anyP) || ws.any (fun x => decide ((r.2.getD k anyP).n = x))) = true
    · rw [if_pos hc]
      obtain ⟨i1, i2, i3, i4, ys, i5, i6, i7, i8⟩ := wordsL_ind hrefl htrans hmono rs s ws kids hI fun r' hr' => hs r' (List.mem_cons_of_mem _ hr')
      refine ⟨i1, i2, fun r' hr' => ?_, i4, ys, i5, i6, by rw [List.length_cons]; omega, fun z hz => ⟨(i8 z hz).1, ?_⟩⟩
      · rcases List.mem_cons.1 hr' with rfl | hr'
        · rw [Bool.or_eq_true, List.any_eq_true] at hc
          rcases hc with hc | ⟨x, hx, he⟩
          · exact .inl hc
          · refine .inr ?_
            rw [i5, wordAt, of_decide_eq_true he]
            exact List.mem_append_left _ hx
        · exact i3 r' hr'
      · obtain ⟨r', hr', h1, h2⟩ := (i8 z hz).2
        exact ⟨r', List.mem_cons_of_mem _ hr', h1, h2⟩
    · rw [if_neg hc]
      rw [Bool.or_eq_true, not_or, Bool.not_eq_true] at hc
      obtain ⟨hf, hw⟩ := hc
      have hnew : wordAt k r ∉ ws := fun hm => hw (List.any_eq_true.2 ⟨_, hm, decide_eq_true rfl⟩)
      obtain ⟨h1, h2, h3⟩ := hs r (List.mem_cons_self ..) s hI hf
      show _ ∧ _ ∧ _ ∧ _ ∧ _
      have e : (r.2.getD k anyP).n = wordAt k r := rfl
      rw [e]
      generalize rc s (narrowM k (isInt (wordAt k r)) 0 rows) (belowM paths k 0) = q at h1 h2 h3 ⊢
      obtain ⟨i1, i2, i3, i4, ys, i5, i6, i7, i8⟩ := wordsL_ind hrefl htrans hmono rs q.1 (ws ++ [wordAt k r]) (kids ++ [(q.2 : Int)]) h1 fun r' hr' => hs r' (List.mem_cons_of_mem _ hr')
      refine ⟨i1, htrans _ _ _ h2 i2, fun r' hr' => ?_, fun hn => i4 ?_, (wordAt k r, q.2) :: ys, ?_, ?_, by rw [List.length_cons, List.length_cons]; omega, fun z hz => ?_⟩
      · rcases List.mem_cons.1 hr' with rfl | hr'
        · refine .inr ?_
          rw [i5]
          simp
        · exact i3 r' hr'
      · rw [List.nodup_append]
        exact ⟨hn, by simp, fun x hx y hy => by rw [List.mem_singleton] at hy; subst hy; rintro rfl; exact hnew hx⟩
      · rw [i5]; simp
      · rw [i6]; simp
      · rcases List.mem_cons.1 hz with rfl | hz
        · exact ⟨hmono _ _ _ _ i2 h3, r, List.mem_cons_self .., hf, rfl⟩
        · obtain ⟨j1, r', hr', j2, j3⟩ := i8 z hz
          exact ⟨j1, r', List.mem_cons_of_mem _ hr', j2, j3⟩
end
/-! ### The counters -/
structure LoopK (f n : Nat) (s s' : BSt) : Prop where
  out : s'.out.length + s.many ≤ s'.many + s.out.length
  mono : s.many ≤ s'.many
  full : s'.full = decide (4096 < s'.many)
  slow : s.many ≤ 4097 + f * 1100 → s'.many ≤ 4097 + f * 1100 + n
theorem Keeps.loop {f i : Nat} {s1 s' : BSt} (h : Keeps f s1 s') (hs : s1.many ≤ 4097 + f * 1100 + i) : s'.many ≤ 4097 + f * 1100 + (i + 1) := by
  cases hf : s1.full with
  | true => have := h.fast hf; omega
  | false => have := h.slow hf; omega
section
variable {rc : BSt → List MRow → List (List Int) → BSt × Nat} {rows : List MRow} {paths : List (List Int)} {k f : Nat}
theorem consL_keeps : ∀ (cs : List ConSig) (s : BSt) (names : List Str) (kids : List Int) (i : Nat), s.full = decide (4096 < s.many) → s.many ≤ 4097 + f * 1100 + i →
    (∀ c ∈ cs, ∀ s : BSt, s.full = decide (4096 < s.many) → hasCon rows k c.name = true → Keeps f s (rc s (narrowM k (isCon c.name) c.args.length rows) (belowM paths k c.args.length)).1) →
    (consL rc rows paths k cs s names kids).1.out.length + s.many ≤ (consL rc rows paths k cs s names kids).1.many + s.out.length ∧ s.many ≤ (consL rc rows paths k cs s names kids).1.many ∧
      (consL rc rows paths k cs s names kids).1.full = decide (4096 < (consL rc rows paths k cs s names kids).1.many) ∧ (consL rc rows paths k cs s names kids).1.many ≤ 4097 + f * 1100 + (i + cs.length)
  | [], s, names, kids, i, hf, hm, _ => by
    rw [consL]
    exact ⟨by show s.out.length + s.many ≤ s.many + s.out.length; omega, Nat.le_refl _, hf, hm⟩
  | c :: cs, s, names, kids, i, hf, hm, hs => by
    rw [consL]
    by_cases hc : hasCon rows k c.name = true
    · rw [if_pos hc]
      have h1 := hs c (List.mem_cons_self ..) s hf hc
      generalize rc s (narrowM k (isCon c.name) c.args.length rows) (belowM paths k c.args.length) = r at h1 ⊢
      obtain ⟨i1, i2, i3, i4⟩ := consL_keeps cs r.1 (names ++ [c.name]) (kids ++ [(r.2 : Int)]) (i + 1) h1.full (h1.loop hm) fun c' hc' => hs c' (List.mem_cons_of_mem _ hc')
      have := h1.out
      have := h1.mono
      exact ⟨by omega, by omega, i3, by rw [List.length_cons]; omega⟩
    · rw [if_neg hc]
      obtain ⟨i1, i2, i3, i4⟩ := consL_keeps cs s names kids i hf hm fun c' hc' => hs c' (List.mem_cons_of_mem _ hc')
      exact ⟨i1, i2, i3, by rw [List.length_cons]; omega⟩
theorem wordsL_keeps : ∀ (rs : List MRow) (s : BSt) (ws : List Int) (kids : List Int) (i : Nat), s.full = decide (4096 < s.many) → s.many ≤ 4097 + f * 1100 + i →
    (∀ (n : Int) (s : BSt), s.full = decide (4096 < s.many) → Keeps f s (rc s (narrowM k (isInt n) 0 rows) (belowM paths k 0)).1) →
    (wordsL rc rows paths k rs s ws kids).1.out.length + s.many ≤ (wordsL rc rows paths k rs s ws kids).1.many + s.out.length ∧ s.many ≤ (wordsL rc rows paths k rs s ws kids).1.many ∧
      (wordsL rc rows paths k rs s ws kids).1.full = decide (4096 < (wordsL rc rows paths k rs s ws kids).1.many) ∧ (wordsL rc rows paths k rs s ws kids).1.many ≤ 4097 + f * 1100 + (i + rs.length)
  | [], s, ws, kids, i, hf, hm, _ => by
    rw [wordsL]
    exact ⟨by show s.out.length + s.many ≤ s.many + s.out.length; omega, Nat.le_refl _, hf, hm⟩
  | r :: rs, s, ws, kids, i, hf, hm, hs => by
    rw [wordsL]
    split
    · obtain ⟨i1, i2, i3, i4⟩ := wordsL_keeps rs s ws kids i hf hm hs
      exact ⟨i1, i2, i3, by rw [List.length_cons]; omega⟩
    · have h1 := hs (r.2.getD k anyP).n s hf
      generalize rc s (narrowM k (isInt (r.2.getD k anyP).n) 0 rows) (belowM paths k 0) = q at h1 ⊢
      obtain ⟨i1, i2, i3, i4⟩ := wordsL_keeps rs q.1 (ws ++ [(r.2.getD k anyP).n]) (kids ++ [(q.2 : Int)]) (i + 1) h1.full (h1.loop hm) hs
      have := h1.out
      have := h1.mono
      exact ⟨by omega, by omega, i3, by rw [List.length_cons]; omega⟩
end
theorem addF_keeps {f : Nat} {s s1 : BSt} (n : MNode) (h1 : s1.out.length + s.many + 1 ≤ s1.many + s.out.length) (h2 : s.many + 1 ≤ s1.many) (h3 : s1.full = decide (4096 < s1.many)) (h4 : s.full = true → s1.many = s.many + 1) (h5 : s.full = false → s1.many ≤ 4097 + f * 1100) : Keeps f s (addF s1 n).1 := by
  obtain ⟨x, e1, e2, _⟩ := addF_spec s1 n
  obtain ⟨e3, e4⟩ := addF_many s1 n
  refine ⟨?_, by rw [e3]; exact h2, by rw [e3, e4]; exact h3, by rw [e3]; exact h4, by rw [e3]; exact h5⟩
  rw [e1, e3, List.length_append]
  omega
theorem con_head {t : Tab} {ds : List DataSig} {rows : List MRow} {τs : List Ty} {k : Nat} {p : Pat} {τ : Ty} (hok : TabOk t ds) (ha : AtHead t rows τs k p τ) (hk : p.kind ≠ 2) :
    ∃ d g a D, τ = .dat d g ∧ p.kind = 3 ∧ tget t p.name = some (d, a, p.args.length) ∧ ds[d]? = some D ∧ consAt t ds p.name = D.cons ∧ D.cons.length ≤ 1000 ∧ ∀ c ∈ D.cons, ∃ a, tget t c.name = some (d, a, c.args.length) := by
  have hw := ha.wt
  have hf := ha.free
  cases τ with
  | any => rw [show Go.PM.wt t .any p = (free p = true) from rfl, hf] at hw; cases hw
  | int =>
    rcases hw with h | h
    · rw [hf] at h; cases h
    · exact absurd h hk
  | dat d g =>
    rcases hw with h | ⟨h1, ⟨a, h2⟩, _⟩
    · rw [hf] at h; cases h
    · obtain ⟨D, hD⟩ := hok.get _ _ h2
      exact ⟨d, g, a, D, rfl, h1, h2, hD, by simp only [consAt, h2, hD], (hok.small d D hD).1, fun c hc => hok.put d D c hD hc⟩
theorem head_get {t : Tab} {rows : List MRow} {τs : List Ty} {k : Nat} {p : Pat} {τ : Ty} (ha : AtHead t rows τs k p τ) : (headPats rows).getD (idxOf nf (headPats rows)).toNat anyP = p ∧ (idxOf nf (headPats rows)).toNat = k := by
  obtain ⟨⟨r0, rs, rfl, hp⟩, hi, _⟩ := ha
  rw [hi, Int.toNat_natCast]
  exact ⟨by show r0.2.getD k anyP = p; simp [hp], rfl⟩
/-- A step of the builder, case by case. -/
theorem buildM_cases {t : Tab} {ds : List DataSig} (hok : TabOk t ds) {f : Nat} {s : BSt} {rows : List MRow} {paths : List (List Int)} {τs : List Ty} (h : MPre t (f + 1) rows paths τs) :
    (buildM t ds (f + 1) s rows paths = addF (tick s) failN ∧ (rows.length = 0 ∨ (tick s).full = true)) ∨ ((tick s).full = false ∧ ∃ r0 rs, rows = r0 :: rs ∧
      ((buildM t ds (f + 1) s rows paths = addF (tick s) (rowN r0.1) ∧ r0.2.any nf = false) ∨ ∃ k p τ, AtHead t rows τs k p τ ∧
        ((p.kind = 2 ∧ buildM t ds (f + 1) s rows paths = wordsF (buildM t ds f) (tick s) rows paths k) ∨
          ∃ d g a D, τ = .dat d g ∧ p.kind = 3 ∧ tget t p.name = some (d, a, p.args.length) ∧ ds[d]? = some D ∧ D.cons.length ≤ 1000 ∧ (∀ c ∈ D.cons, ∃ a, tget t c.name = some (d, a, c.args.length)) ∧ buildM t ds (f + 1) s rows paths = consF (buildM t ds f) D.cons (tick s) rows paths k))) := by
  rw [buildM]
  by_cases h0 : rows.length = 0 ∨ (tick s).full = true
  · rw [if_pos h0]
    exact .inl ⟨rfl, h0⟩
  rw [if_neg h0]
  have hr : rows.length ≠ 0 := fun e => h0 (.inl e)
  have hf : (tick s).full = false := by
    cases hb : (tick s).full with
    | false => rfl
    | true => exact absurd (.inr hb) h0
  refine .inr ⟨hf, ?_⟩
  by_cases hi : idxOf nf (headPats rows) < 0
  · rw [if_pos hi]
    cases rows with
    | nil => exact absurd rfl hr
    | cons r0 rs =>
      refine ⟨r0, rs, rfl, .inl ⟨rfl, ?_⟩⟩
      rcases idxOf_range nf (headPats (r0 :: rs)) with ⟨_, h1⟩ | ⟨k, x, h1, _⟩
      · exact h1
      · omega
  · rw [if_neg hi]
    obtain ⟨k, p, τ, ha⟩ := atHead_of h hr hi
    obtain ⟨r0, rs, e, hp⟩ := ha.ne
    refine ⟨r0, rs, e, .inr ⟨k, p, τ, ha, ?_⟩⟩
    obtain ⟨e1, e2⟩ := head_get ha
    rw [e1, e2]
    by_cases hk : p.kind = 2
    · rw [if_pos hk]
      exact .inl ⟨hk, rfl⟩
    · rw [if_neg hk]
      obtain ⟨d, g, a, D, h1, h2, h3, h4, h5, h6, h7⟩ := con_head hok ha hk
      exact .inr ⟨d, g, a, D, h1, h2, h3, h4, h6, h7, by rw [h5]⟩
theorem tick_not {s : BSt} (h : (tick s).full = false) : s.full = false ∧ s.many ≤ 4095 := by
  have h1 : (s.full || decide (4096 < s.many + 1)) = false := h
  rw [Bool.or_eq_false_iff, decide_eq_false_iff_not] at h1
  exact ⟨h1.1, by omega⟩
theorem tick_full {s : BSt} (h : s.full = decide (4096 < s.many)) : (tick s).full = decide (4096 < (tick s).many) := by
  show (s.full || decide (4096 < s.many + 1)) = decide (4096 < s.many + 1)
  rw [h]
  by_cases h1 : 4096 < s.many
  · rw [decide_eq_true h1, decide_eq_true (by omega)]; rfl
  · rw [decide_eq_false h1, Bool.false_or]
theorem buildM_keeps {t : Tab} {ds : List DataSig} (hok : TabOk t ds) : ∀ (f : Nat) (s : BSt) (rows : List MRow) (paths : List (List Int)) (τs : List Ty), MPre t f rows paths τs → s.full = decide (4096 < s.many) → Keeps f s (buildM t ds f s rows paths).1
  | 0, s, rows, paths, τs, h, _ => absurd h.fuel (Nat.not_lt_zero _)
  | f + 1, s, rows, paths, τs, h, hs => by
    have ht := tick_full hs
    have hmt : (tick s).many = s.many + 1 := rfl
    have hot : (tick s).out = s.out := rfl
    have hleaf : ∀ n, Keeps (f + 1) s (addF (tick s) n).1 := fun n => by
      refine addF_keeps n (by rw [hmt, hot]; omega) (by rw [hmt]; omega) ht (fun _ => hmt) fun hf => ?_
      rw [hf] at hs
      have := of_decide_eq_false hs.symm
      rw [hmt]
      omega
    rcases buildM_cases (s := s) hok h with ⟨e, _⟩ | ⟨hft, r0, rs, er, ⟨e, _⟩ | ⟨k, p, τ, ha, ⟨hk, e⟩ | ⟨d, g, a, D, hτ, hk, hta, hD, hcl, hcs, e⟩⟩⟩
    · rw [e]; exact hleaf _
    · rw [e]; exact hleaf _
    · obtain ⟨hsf, hsm⟩ := tick_not hft
      rw [e, wordsF]
      have hl := h.len
      obtain ⟨j1, j2, j3, j4⟩ := wordsL_keeps (rc := buildM t ds f) (rows := rows) (paths := paths) (k := k) (f := f) rows (tick s) [] [] 0 ht (by omega) fun n s' hs' => buildM_keeps hok f s' _ _ _ (word_child (isInt n) h ha hk) hs'
      generalize wordsL (buildM t ds f) rows paths k rows (tick s) [] [] = w at j1 j2 j3 j4 ⊢
      have ho := buildM_keeps hok f w.1 _ _ _ (other_child h ha) j3
      have ho2 := ho.loop j4
      have := ho.out
      have := ho.mono
      simp only [otherF]
      exact addF_keeps _ (by rw [hmt, hot] at j1; omega) (by omega) ho.full (fun hf => by rw [hsf] at hf; cases hf) fun _ => by omega
    · obtain ⟨hsf, hsm⟩ := tick_not hft
      subst hτ
      rw [e, consF]
      obtain ⟨j1, j2, j3, j4⟩ := consL_keeps (rc := buildM t ds f) (rows := rows) (paths := paths) (k := k) (f := f) D.cons (tick s) [] [] 0 ht (by omega) fun c hc s' hs' hh => by
        obtain ⟨a', hta'⟩ := hcs c hc
        exact buildM_keeps hok f s' _ _ _ (con_child h ha hta' hh) hs'
      generalize consL (buildM t ds f) rows paths k D.cons (tick s) [] [] = w at j1 j2 j3 j4 ⊢
      have ho := buildM_keeps hok f w.1 _ _ _ (other_child h ha) j3
      have ho2 := ho.loop j4
      have := ho.out
      have := ho.mono
      simp only [otherF]
      by_cases hlt : w.2.1.length < D.cons.length
      · rw [if_pos hlt]
        exact addF_keeps _ (by rw [hmt, hot] at j1; simp only; omega) (by simp only; omega) ho.full (fun hf => by rw [hsf] at hf; cases hf) fun _ => by simp only; omega
      · rw [if_neg hlt]
        exact addF_keeps _ (by rw [hmt, hot] at j1; simp only; omega) (by simp only; omega) j3 (fun hf => by rw [hsf] at hf; cases hf) fun _ => by simp only; omega
end Go.PM
namespace Go.PM
open Go.VL
/-- How deep a node is, if one knows how deep those ahead are. -/
def ndStep (acc : List Nat) (m : Nat) (y : Int) : Nat := if 0 ≤ y ∧ y < acc.length then max m (acc.getD y.toNat 0 + 1) else m
def ndD (acc : List Nat) (n : MNode) : Nat := if n.kind = 2 ∨ n.kind = 3 then n.kids.foldl (ndStep acc) 1 else 0
def deepL : List MNode → List Nat → List Nat
  | [], acc => acc
  | n :: ns, acc => deepL ns (acc ++ [ndD acc n])
def depthF (out : List MNode) : Nat := if out.length = 0 then 0 else (deepL out []).getD (out.length - 1) 0
theorem deepL_append : ∀ (a b : List MNode) (acc : List Nat), deepL (a ++ b) acc = deepL b (deepL a acc)
  | [], b, acc => rfl
  | n :: a, b, acc => by rw [List.cons_append, deepL, deepL, deepL_append a b]
theorem deepL_prefix : ∀ (a : List MNode) (acc : List Nat), acc <+: deepL a acc
  | [], acc => List.prefix_rfl
  | n :: a, acc => (List.prefix_append acc [ndD acc n]).trans (deepL_prefix a _)
theorem deepL_len : ∀ (a : List MNode) (acc : List Nat), (deepL a acc).length = acc.length + a.length
  | [], acc => rfl
  | n :: a, acc => by rw [deepL, deepL_len a, List.length_append, List.length_singleton, List.length_cons]; omega
theorem prefix_getD {a b : List Nat} (h : a <+: b) {j : Nat} (hj : j < a.length) : b.getD j 0 = a.getD j 0 := by
  obtain ⟨c, rfl⟩ := h
  simp [List.getD_eq_getElem?_getD, List.getElem?_append_left hj]
theorem deep_get {out : List MNode} {j : Nat} {n : MNode} (h : out[j]? = some n) : (deepL out []).getD j 0 = ndD (deepL (out.take j) []) n := by
  have hj := (List.getElem?_eq_some_iff.1 h).1
  have hl := deepL_len (out.take j) []
  rw [List.length_take, List.length_nil] at hl
  conv => lhs; rw [split_at h, deepL_append, deepL]
  rw [prefix_getD (deepL_prefix _ _) (by rw [List.length_append, List.length_singleton]; omega)]
  rw [List.getD_eq_getElem?_getD, List.getElem?_append_right (by omega)]
  rw [show j - (deepL (out.take j) []).length = 0 by omega]
  rfl
/-- A node that is there, and not deeper than B. -/
def DB (B : Nat) (out : List MNode) (j : Nat) : Prop := j < out.length ∧ (deepL out []).getD j 0 ≤ B
theorem DB.mono {B : Nat} {a b : List MNode} {j : Nat} (hp : a <+: b) (h : DB B a j) : DB B b j := by
  obtain ⟨c, rfl⟩ := hp
  refine ⟨by rw [List.length_append]; have := h.1; omega, ?_⟩
  rw [deepL_append, prefix_getD (deepL_prefix _ _) (by rw [deepL_len]; simpa using h.1)]
  exact h.2
theorem DB.le {B C : Nat} {out : List MNode} {j : Nat} (h : DB B out j) (hb : B ≤ C) : DB C out j := ⟨h.1, Nat.le_trans h.2 hb⟩
theorem ndStep_le {acc : List Nat} {B : Nat} : ∀ (kids : List Int) (m : Nat), m ≤ B → (∀ y ∈ kids, ∀ i : Nat, y = i → i < acc.length → acc.getD i 0 + 1 ≤ B) → kids.foldl (ndStep acc) m ≤ B
  | [], m, hm, _ => hm
  | y :: kids, m, hm, h => by
    rw [List.foldl_cons]
    refine ndStep_le kids _ ?_ fun z hz => h z (List.mem_cons_of_mem _ hz)
    unfold ndStep
    by_cases hy : 0 ≤ y ∧ y < acc.length
    · rw [if_pos hy]
      have := h y (List.mem_cons_self ..) y.toNat (by omega) (by omega)
      omega
    · rw [if_neg hy]
      exact hm
theorem addF_prefix (s : BSt) (n : MNode) : s.out <+: (addF s n).1.out := by
  obtain ⟨x, h, _⟩ := addF_spec s n
  exact ⟨x, h.symm⟩
theorem addF_db {s : BSt} {n : MNode} {B : Nat} (h1 : n.kind = 2 ∨ n.kind = 3 → 1 ≤ B) (h : ∀ y ∈ n.kids, ∀ i : Nat, y = i → (deepL (addF s n).1.out []).getD i 0 + 1 ≤ B) : DB B (addF s n).1.out (addF s n).2 := by
  obtain ⟨x, _, _, hg⟩ := addF_spec s n
  refine ⟨(List.getElem?_eq_some_iff.1 hg).1, ?_⟩
  rw [deep_get hg]
  unfold ndD
  by_cases hk : n.kind = 2 ∨ n.kind = 3
  · rw [if_pos hk]
    refine ndStep_le _ _ (h1 hk) fun y hy i hi hlt => ?_
    have := h y hy i hi
    have hp : (addF s n).1.out.take (addF s n).2 <+: (addF s n).1.out := List.take_prefix _ _
    obtain ⟨c, hc⟩ := hp
    have e : (deepL (addF s n).1.out []).getD i 0 = (deepL ((addF s n).1.out.take (addF s n).2) []).getD i 0 := by
      conv => lhs; rw [← hc, deepL_append]
      exact prefix_getD (deepL_prefix _ _) hlt
    omega
  · rw [if_neg hk]; exact Nat.zero_le _
theorem leaf_db {s : BSt} {n : MNode} {B : Nat} (h1 : ¬ (n.kind = 2 ∨ n.kind = 3)) (h2 : n.kids = []) : DB B (addF s n).1.out (addF s n).2 :=
  addF_db (fun h => absurd h h1) fun y hy => by rw [h2] at hy; cases hy
theorem buildM_depth {t : Tab} {ds : List DataSig} (hok : TabOk t ds) : ∀ (f : Nat) (s : BSt) (rows : List MRow) (paths : List (List Int)) (τs : List Ty), MPre t f rows paths τs →
    s.out <+: (buildM t ds f s rows paths).1.out ∧ DB (wM rows) (buildM t ds f s rows paths).1.out (buildM t ds f s rows paths).2
  | 0, s, rows, paths, τs, h => absurd h.fuel (Nat.not_lt_zero _)
  | f + 1, s, rows, paths, τs, h => by
    have hot : (tick s).out = s.out := rfl
    rcases buildM_cases (s := s) hok h with ⟨e, _⟩ | ⟨hft, r0, rs, er, ⟨e, _⟩ | ⟨k, p, τ, ha, ⟨hk, e⟩ | ⟨d, g, a, D, hτ, hk, hta, hD, hcl, hcs, e⟩⟩⟩
    · rw [e]; exact ⟨addF_prefix (tick s) _, leaf_db (by decide) rfl⟩
    · rw [e]; exact ⟨addF_prefix (tick s) _, leaf_db (by simp [rowN]) rfl⟩
    · rw [e, wordsF]
      have hw1 : ∀ is many, wM (narrowM k is many rows) + 1 ≤ wM rows := fun is many => by
        obtain ⟨r0', rs', e', hp0⟩ := ha.ne
        have hall := ha.all
        rw [e'] at hall ⊢
        exact narrowM_w1 hall hp0 ha.free
      obtain ⟨_, i2, _, _, ys, _, i6, _, i8⟩ := wordsL_ind (rc := buildM t ds f) (rows := rows) (paths := paths) (k := k) (R := fun s s' => s.out <+: s'.out) (I := fun _ => True) (Q := fun _ s y => DB (wM rows - 1) s.out y)
        (fun s => List.prefix_rfl) (fun a b c h1 h2 => h1.trans h2) (fun c s s' y h1 h2 => h2.mono h1) rows (tick s) [] [] trivial fun r hr s' _ hf => by
          have ih := buildM_depth hok f s' _ _ _ (word_child (isInt (wordAt k r)) h ha hk)
          exact ⟨trivial, ih.1, ih.2.le (by have := hw1 (isInt (wordAt k r)) 0; omega)⟩
      generalize wordsL (buildM t ds f) rows paths k rows (tick s) [] [] = w at i2 i6 i8 ⊢
      have ho := buildM_depth hok f w.1 _ _ _ (other_child h ha)
      have hwo := hw1 (fun _ => false) 0
      simp only [otherF]
      have hpre := ho.1.trans (addF_prefix (buildM t ds f w.1 (narrowM k (fun _ => false) 0 rows) (belowM paths k 0)).1 ⟨3, 0, paths.getD k [], [], w.2.1, w.2.2 ++ [((buildM t ds f w.1 (narrowM k (fun _ => false) 0 rows) (belowM paths k 0)).2 : Int)]⟩)
      refine ⟨(hot ▸ i2).trans hpre, addF_db (fun _ => by omega) fun y hy i hi => ?_⟩
      rcases List.mem_append.1 hy with hy | hy
      · rw [i6, List.nil_append] at hy
        obtain ⟨z, hz, hzy⟩ := List.mem_map.1 hy
        have hzi : z.2 = i := by omega
        have := ((i8 z hz).1.mono hpre).2
        rw [hzi] at this
        omega
      · rw [List.mem_singleton] at hy
        have hzi : i = (buildM t ds f w.1 (narrowM k (fun _ => false) 0 rows) (belowM paths k 0)).2 := by omega
        have := (ho.2.mono (addF_prefix _ ⟨3, 0, paths.getD k [], [], w.2.1, w.2.2 ++ [((buildM t ds f w.1 (narrowM k (fun _ => false) 0 rows) (belowM paths k 0)).2 : Int)]⟩)).2
        rw [← hzi] at this
        rw [← hzi]
        omega
    · subst hτ
      rw [e, consF]
      have hw1 : ∀ is many, wM (narrowM k is many rows) + 1 ≤ wM rows := fun is many => by
        obtain ⟨r0', rs', e', hp0⟩ := ha.ne
        have hall := ha.all
        rw [e'] at hall ⊢
        exact narrowM_w1 hall hp0 ha.free
      have h1 : 1 ≤ wM rows := by have := hw1 (fun _ => false) 0; omega
      obtain ⟨_, i2, ys, _, _, i6, i8⟩ := consL_ind (rc := buildM t ds f) (rows := rows) (paths := paths) (k := k) (R := fun s s' => s.out <+: s'.out) (I := fun _ => True) (Q := fun _ s y => DB (wM rows - 1) s.out y)
        (fun s => List.prefix_rfl) (fun a b c h1 h2 => h1.trans h2) (fun c s s' y h1 h2 => h2.mono h1) D.cons (tick s) [] [] trivial fun c hc s' _ hh => by
          obtain ⟨a', hta'⟩ := hcs c hc
          have ih := buildM_depth hok f s' _ _ _ (con_child h ha hta' hh)
          exact ⟨trivial, ih.1, ih.2.le (by have := hw1 (isCon c.name) c.args.length; omega)⟩
      generalize consL (buildM t ds f) rows paths k D.cons (tick s) [] [] = w at i2 i6 i8 ⊢
      have ho := buildM_depth hok f w.1 _ _ _ (other_child h ha)
      have hwo := hw1 (fun _ => false) 0
      simp only [otherF]
      by_cases hlt : w.2.1.length < D.cons.length
      · rw [if_pos hlt]
        simp only
        have hpre := ho.1.trans (addF_prefix (buildM t ds f w.1 (narrowM k (fun _ => false) 0 rows) (belowM paths k 0)).1 ⟨2, 0, paths.getD k [], w.2.1, [], w.2.2 ++ [((buildM t ds f w.1 (narrowM k (fun _ => false) 0 rows) (belowM paths k 0)).2 : Int)]⟩)
        refine ⟨(hot ▸ i2).trans hpre, addF_db (fun _ => h1) fun y hy i hi => ?_⟩
        rcases List.mem_append.1 hy with hy | hy
        · rw [i6, List.nil_append] at hy
          obtain ⟨z, hz, hzy⟩ := List.mem_map.1 hy
          have hzi : z.2 = i := by omega
          have := ((i8 z hz).mono hpre).2
          rw [hzi] at this
          omega
        · rw [List.mem_singleton] at hy
          have hzi : i = (buildM t ds f w.1 (narrowM k (fun _ => false) 0 rows) (belowM paths k 0)).2 := by omega
          have := (ho.2.mono (addF_prefix _ ⟨2, 0, paths.getD k [], w.2.1, [], w.2.2 ++ [((buildM t ds f w.1 (narrowM k (fun _ => false) 0 rows) (belowM paths k 0)).2 : Int)]⟩)).2
          rw [← hzi] at this
          rw [← hzi]
          omega
      · rw [if_neg hlt]
        simp only
        have hpre := addF_prefix w.1 ⟨2, 0, paths.getD k [], w.2.1, [], w.2.2 ++ [-1]⟩
        refine ⟨(hot ▸ i2).trans hpre, addF_db (fun _ => h1) fun y hy i hi => ?_⟩
        rcases List.mem_append.1 hy with hy | hy
        · rw [i6, List.nil_append] at hy
          obtain ⟨z, hz, hzy⟩ := List.mem_map.1 hy
          have hzi : z.2 = i := by omega
          have := ((i8 z hz).mono hpre).2
          rw [hzi] at this
          omega
        · rw [List.mem_singleton] at hy
          omega
/-! ### Compile -/
def enumR : Nat → List (List Pat) → List MRow
  | _, [] => []
  | k, r :: rs => (k, r) :: enumR (k + 1) rs
theorem enumR_snoc : ∀ (k : Nat) (l : List (List Pat)) (r : List Pat), enumR k (l ++ [r]) = enumR k l ++ [(k + l.length, r)]
  | k, [], r => rfl
  | k, x :: l, r => by
    rw [List.cons_append, enumR, enumR, enumR_snoc (k + 1) l r, List.cons_append, List.length_cons]
    rw [show k + 1 + l.length = k + (l.length + 1) by omega]
theorem enumR_mem : ∀ {k : Nat} {l : List (List Pat)} {z : MRow}, z ∈ enumR k l → z.2 ∈ l
  | k, x :: l, z, h => by
    rcases List.mem_cons.1 h with rfl | h
    · exact List.mem_cons_self ..
    · exact List.mem_cons_of_mem _ (enumR_mem h)
theorem enumR_len : ∀ (k : Nat) (l : List (List Pat)), (enumR k l).length = l.length
  | k, [] => rfl
  | k, x :: l => by rw [enumR, List.length_cons, List.length_cons, enumR_len]
theorem enumR_w : ∀ (k : Nat) (l : List (List Pat)), wM (enumR k l) = wR l
  | k, [] => rfl
  | k, x :: l => by rw [enumR, wM, wR, enumR_w]
def pathsOf (rows : List (List Pat)) : List (List Int) := (List.range (width rows)).map fun n : Nat => [(n : Int)]
def compF (t : Tab) (ds : List DataSig) (rows : List (List Pat)) : BSt × Nat := buildM t ds 401 ⟨[], 0, false⟩ (enumR 0 rows) (pathsOf rows)
def compOut (ds : List DataSig) (rows : List (List Pat)) : List MNode × Int :=
  if checkF ds rows ≠ 0 then ([], checkF ds rows) else match buildF 0 ds [] with
    | some t => if (compF t ds rows).1.full = true then ([], 2) else ((compF t ds rows).1.out.take ((compF t ds rows).2 + 1), 0)
    | none => ([], 0)
theorem nbad_any {ds : List DataSig} {rows : List (List Pat)} (h : checkF ds rows = 0) : ¬ missBad rows (width rows) := by
  cases hr : rows with
  | nil => rintro (h | h | ⟨h, _⟩) <;> first | exact absurd h (by decide) | exact h rfl
  | cons r rs =>
    rw [← hr]
    exact nbad_width h (by rw [hr]; simp)
theorem comp_pre {ds : List DataSig} {rows : List (List Pat)} {t : Tab} {τs : List Ty} (h : checkF ds rows = 0) (hb : buildF 0 ds [] = some t) (hτ : (τs.length : Int) = width rows) (hT : Typed ds t rows τs) : MPre t 401 (enumR 0 rows) (pathsOf rows) τs := by
  have hsm := (check_parts h hb).1
  have hw := wR_le rows
  have hn := hsm.nodes
  have hnb := nbad_any h
  have h16 : width rows ≤ 16 := by
    rcases Decidable.em (16 < (width rows : Int)) with h1 | h1
    · exact absurd (.inr (.inl h1)) hnb
    · omega
  refine ⟨fun r hr => hT.pre.ty _ (enumR_mem hr), by simp [pathsOf]; omega, by rw [enumR_len]; exact hsm.rows, by rw [enumR_w]; omega, by rw [enumR_w]; omega, fun p hp => ?_⟩
  obtain ⟨n, _, rfl⟩ := List.mem_map.1 hp
  exact ⟨by simp, by rw [enumR_w, List.length_singleton]; omega⟩
/-- MatchDepth. -/
theorem depth_law (ds : List DataSig) (hz : Sized ds) (rows : List (List Pat)) (h : (compOut ds rows).2 = 0) : 0 < (compOut ds rows).1.length ∧ depthF (compOut ds rows).1 ≤ cR rows := by
  unfold compOut at h ⊢
  by_cases hc : checkF ds rows ≠ 0
  · rw [if_pos hc] at h; exact absurd h hc
  rw [if_neg hc] at h ⊢
  have hck : checkF ds rows = 0 := Decidable.not_not.1 hc
  obtain ⟨t, hb⟩ := check_build hck
  rw [hb] at h ⊢
  simp only at h ⊢
  by_cases hfull : (compF t ds rows).1.full = true
  · rw [if_pos hfull] at h; exact absurd h (by decide)
  rw [if_neg hfull]
  simp only
  have hok := tabOk_of hb (check_parts hck hb).1 hz
  obtain ⟨τs, hτ, hT⟩ := typed_of hck hb (nbad_any hck)
  obtain ⟨_, hd1, hd2⟩ := buildM_depth hok 401 ⟨[], 0, false⟩ _ _ _ (comp_pre hck hb hτ hT)
  change (compF t ds rows).2 < (compF t ds rows).1.out.length at hd1
  change (deepL (compF t ds rows).1.out []).getD (compF t ds rows).2 0 ≤ _ at hd2
  rw [enumR_w] at hd2
  have hw := wR_le rows
  generalize compF t ds rows = q at hd1 hd2 ⊢
  have hl : (q.1.out.take (q.2 + 1)).length = q.2 + 1 := by rw [List.length_take]; omega
  refine ⟨by omega, ?_⟩
  unfold depthF
  rw [if_neg (by omega), hl]
  have e : (deepL q.1.out []).getD q.2 0 = (deepL (q.1.out.take (q.2 + 1)) []).getD (q.2 + 1 - 1) 0 := by
    conv => lhs; rw [← List.take_append_drop (q.2 + 1) q.1.out, deepL_append]
    exact prefix_getD (deepL_prefix _ _) (by rw [deepL_len]; simp; omega)
  omega
end Go.PM
namespace Go.PM
open Go.VL
theorem compOut_zero {ds : List DataSig} {rows : List (List Pat)} (h : (compOut ds rows).2 = 0) : checkF ds rows = 0 := by
  unfold compOut at h
  by_cases hc : checkF ds rows ≠ 0
  · rw [if_pos hc] at h; exact absurd h hc
  · exact Decidable.not_not.1 hc
theorem compOut_none {ds : List DataSig} {rows : List (List Pat)} (h : (compOut ds rows).2 ≠ 0) : (compOut ds rows).1 = [] := by
  unfold compOut at h ⊢
  by_cases hc : checkF ds rows ≠ 0
  · rw [if_pos hc]
  rw [if_neg hc] at h ⊢
  obtain ⟨t, hb⟩ := check_build (Decidable.not_not.1 hc)
  rw [hb] at h ⊢
  simp only at h ⊢
  by_cases hf : (compF t ds rows).1.full = true
  · rw [if_pos hf]
  · rw [if_neg hf] at h; exact absurd rfl h
end Go.PM
namespace Go.PM
open Go.VL
/-- Only nodes with short places come. -/
def PathOk (s s' : BSt) : Prop := ∀ n ∈ s'.out, n ∈ s.out ∨ n.path.length ≤ 1000
theorem PathOk.trans {a b c : BSt} (h : PathOk a b) (k : PathOk b c) : PathOk a c := fun n hn => (k n hn).elim (h n) .inr
theorem addF_path {s s1 : BSt} {n : MNode} (h : PathOk s s1) (hn : n.path.length ≤ 1000) : PathOk s (addF s1 n).1 := fun x hx => by
  unfold addF at hx
  split at hx
  · exact h x hx
  · rcases List.mem_append.1 hx with hx | hx
    · exact h x hx
    · rw [List.mem_singleton] at hx
      exact .inr (hx ▸ hn)
theorem buildM_path {t : Tab} {ds : List DataSig} (hok : TabOk t ds) : ∀ (f : Nat) (s : BSt) (rows : List MRow) (paths : List (List Int)) (τs : List Ty), MPre t f rows paths τs → PathOk s (buildM t ds f s rows paths).1
  | 0, s, rows, paths, τs, h => absurd h.fuel (Nat.not_lt_zero _)
  | f + 1, s, rows, paths, τs, h => by
    have ht : PathOk s (tick s) := fun n hn => .inl hn
    have hpk : ∀ k, (paths.getD k []).length ≤ 1000 := fun k => by
      rw [List.getD_eq_getElem?_getD]
      cases hk : paths[k]? with
      | none => exact Nat.zero_le _
      | some p => have := (h.deep p (List.mem_of_getElem? hk)).2; simp only [Option.getD_some]; omega
    rcases buildM_cases (s := s) hok h with ⟨e, _⟩ | ⟨hft, r0, rs, er, ⟨e, _⟩ | ⟨k, p, τ, ha, ⟨hk, e⟩ | ⟨d, g, a, D, hτ, hk, hta, hD, hcl, hcs, e⟩⟩⟩
    · rw [e]; exact addF_path ht (Nat.zero_le _)
    · rw [e]; exact addF_path ht (Nat.zero_le _)
    · rw [e, wordsF]
      obtain ⟨_, i2, _⟩ := wordsL_ind (rc := buildM t ds f) (rows := rows) (paths := paths) (k := k) (R := PathOk) (I := fun _ => True) (Q := fun _ _ _ => True)
        (fun s n hn => .inl hn) (fun a b c h1 h2 => h1.trans h2) (fun _ _ _ _ _ _ => trivial) rows (tick s) [] [] trivial fun r hr s' _ hf => ⟨trivial, buildM_path hok f s' _ _ _ (word_child (isInt (wordAt k r)) h ha hk), trivial⟩
      exact addF_path ((ht.trans i2).trans (buildM_path hok f _ _ _ _ (other_child h ha))) (hpk k)
    · subst hτ
      rw [e, consF]
      obtain ⟨_, i2, _⟩ := consL_ind (rc := buildM t ds f) (rows := rows) (paths := paths) (k := k) (R := PathOk) (I := fun _ => True) (Q := fun _ _ _ => True)
        (fun s n hn => .inl hn) (fun a b c h1 h2 => h1.trans h2) (fun _ _ _ _ _ _ => trivial) D.cons (tick s) [] [] trivial fun c hc s' _ hh => by
          obtain ⟨a', hta'⟩ := hcs c hc
          exact ⟨trivial, buildM_path hok f s' _ _ _ (con_child h ha hta' hh), trivial⟩
      split
      · exact addF_path ((ht.trans i2).trans (buildM_path hok f _ _ _ _ (other_child h ha))) (hpk k)
      · exact addF_path (ht.trans i2) (hpk k)
end Go.PM
namespace Go.PM
open Go.VL
theorem compOut_len (ds : List DataSig) (hz : Sized ds) (rows : List (List Pat)) : (compOut ds rows).1.length ≤ 1000000 := by
  unfold compOut
  by_cases hc : checkF ds rows ≠ 0
  · rw [if_pos hc]; exact Nat.zero_le _
  rw [if_neg hc]
  have hck : checkF ds rows = 0 := Decidable.not_not.1 hc
  obtain ⟨t, hb⟩ := check_build hck
  rw [hb]
  simp only
  by_cases hfull : (compF t ds rows).1.full = true
  · rw [if_pos hfull]; exact Nat.zero_le _
  rw [if_neg hfull]
  have hok := tabOk_of hb (check_parts hck hb).1 hz
  obtain ⟨τs, hτ, hT⟩ := typed_of hck hb (nbad_any hck)
  have hk := buildM_keeps hok 401 ⟨[], 0, false⟩ _ _ _ (comp_pre hck hb hτ hT) rfl
  have h1 := hk.out
  have h2 := hk.slow rfl
  change (compF t ds rows).1.out.length + 0 ≤ (compF t ds rows).1.many + 0 at h1
  change (compF t ds rows).1.many ≤ _ at h2
  simp only [List.length_take]
  omega
end Go.PM
namespace Go.PM
open Go.VL
/-! ### A useful row matches something new -/
theorem usefulLoop_ex {rc : List (List Pat) → List Pat → Bool} {rows : List (List Pat)} {row : List Pat} : ∀ {ks : List ConSig}, usefulLoop rc rows row ks = true → ∃ k ∈ ks, rc (narrow k.name k.args.length rows) (anysL k.args.length ++ row) = true
  | [], h => by cases h
  | k :: ks, h => by
    rw [usefulLoop, Bool.or_eq_true] at h
    rcases h with h | h
    · exact ⟨k, List.mem_cons_self .., h⟩
    · obtain ⟨k', h1, h2⟩ := usefulLoop_ex h
      exact ⟨k', List.mem_cons_of_mem _ h1, h2⟩
theorem useful_new {t : Tab} {ds : List DataSig} (hok : TabOk t ds) (hlaw : TabLaw t ds) : ∀ (f : Nat) (rows : List (List Pat)) (row : List Pat) (τs : List Ty), UsePre t f rows row τs → (∀ τ ∈ τs, Good ds τ) → usefulF t ds f rows row = true → New ds τs rows row
  | 0, rows, row, τs, h, _, _ => absurd h.fuel (Nat.not_lt_zero _)
  | f + 1, rows, [], τs, h, _, hu => by
    have h0 : decide ((rows.length : Int) = 0) = true := hu
    rw [decide_eq_true_eq] at h0
    obtain rfl : rows = [] := List.eq_nil_of_length_eq_zero (by omega)
    have hτ := h.rowTy.len
    obtain rfl : τs = [] := List.eq_nil_of_length_eq_zero hτ.symm
    exact ⟨[], trivial, rfl, fun r hr => by cases hr⟩
  | f + 1, rows, p :: row, [], h, _, _ => h.rowTy.elim
  | f + 1, rows, p :: row, τ :: σs, h, hg, hu => by
    obtain ⟨hT, ⟨hp, hrow⟩, hl, hf⟩ := h
    simp only [List.length_cons, wL] at hf
    have hgτ := hg τ (List.mem_cons_self ..)
    have hgs : ∀ σ ∈ σs, Good ds σ := fun σ hσ => hg σ (List.mem_cons_of_mem _ hσ)
    by_cases h3 : p.kind = 3
    · obtain ⟨d, fT, a, rfl, hta, hpa, hfp⟩ := con_ty hp h3
      have hwp := wP_con hfp
      have hnw := narrow_w p.name p.args.length rows
      have hnl : (narrow p.name p.args.length rows).length ≤ rows.length := List.length_filterMap_le _ _
      have hal := argT_len (fT p.name) p.args.length
      rw [usefulF, if_pos h3] at hu
      obtain ⟨D, hD, kk, hkk, hkn, hkl⟩ := hlaw.get _ _ hta
      obtain ⟨ws, hw, hm, hr⟩ := useful_new hok hlaw f _ _ (argT (fT p.name) p.args.length ++ σs) ⟨hT.narrow hta, (rowT.args hp hfp).append hrow, by omega, by rw [List.length_append, hal, wL_append]; omega⟩ (fun σ hσ => by
        rcases List.mem_append.1 hσ with hσ | hσ
        · obtain ⟨i, _, rfl⟩ := List.mem_map.1 hσ
          exact hgτ.2 _ _
        · exact hgs σ hσ) hu
      have hwl := hw.len
      rw [List.length_append, hal] at hwl
      have hsplit : ws = ws.take p.args.length ++ ws.drop p.args.length := (List.take_append_drop _ _).symm
      have htl : (ws.take p.args.length).length = p.args.length := by rw [List.length_take]; omega
      rw [hsplit] at hw hr hm
      rw [fitsL_append (by rw [hal, htl])] at hw
      rw [matL_append htl.symm] at hm
      rw [narrow_mat hT hta htl] at hr
      refine ⟨.con p.name (ws.take p.args.length) :: ws.drop p.args.length, ⟨⟨D, kk, _, hD, hkk, by rw [hkn], by rw [htl, hkl], ?_⟩, hw.2⟩, matL_cons.2 ⟨(matP_eq _ _).2 (.inr (.inr ⟨h3, _, rfl, hm.1⟩)), hm.2⟩, hr⟩
      rw [hkn]
      exact (fitsL_args htl).1 hw.1
    by_cases h2 : p.kind = 2
    · rw [usefulF, if_neg h3, if_pos h2] at hu
      have hfp : free p = false := by simp [free, h2]
      have hlw := left_w p.n rows
      have hll := left_len p.n rows
      obtain ⟨ws, hw, hm, hr⟩ := useful_new hok hlaw f _ _ σs ⟨hT.left (n := p.n), hrow, by omega, by omega⟩ hgs hu
      refine ⟨.int p.n :: ws, ⟨?_, hw⟩, matL_cons.2 ⟨(matP_eq _ _).2 (.inr (.inl ⟨h2, rfl⟩)), hm⟩, fun r hrm hmat => ?_⟩
      · cases τ with
        | any => trivial
        | int => trivial
        | dat d g =>
          rcases hp with h | ⟨h, _⟩
          · rw [hfp] at h; cases h
          · exact absurd h h3
      · have hTr := hT r hrm
        cases r with
        | nil => rw [matL] at hmat; cases hmat
        | cons q tl =>
          obtain ⟨hq, htl⟩ := matL_cons.1 hmat
          by_cases hqq : (free q || decide (q.n = p.n)) = true
          · exact hr tl (List.mem_filterMap.2 ⟨_, hrm, by simp only [if_pos hqq]⟩) htl
          · rw [Bool.or_eq_true, not_or, decide_eq_true_eq] at hqq
            rcases (matP_eq _ _).1 hq with h | ⟨_, h⟩ | ⟨_, _, h, _⟩
            · exact hqq.1 h
            · injection h with h; exact hqq.2 h.symm
            · cases h
    · rw [usefulF, if_neg h3, if_neg h2] at hu
      have hfp := wt_kind hp h3 h2
      cases hab : absentF t ds (first rows) with
      | some q =>
        rw [hab] at hu
        have hrw := rest_w rows
        have hrl : (rest rows).length ≤ rows.length := List.length_filterMap_le _ _
        obtain ⟨ws, hw, hm, hr⟩ := useful_new hok hlaw f _ _ σs ⟨hT.rest, hrow, by omega, by omega⟩ hgs hu
        obtain ⟨v, hv1, hv2⟩ := absent_val hok hT hgτ hab
        exact ⟨v :: ws, ⟨hv1, hw⟩, matL_cons.2 ⟨matP_free hfp v, hm⟩, (rest_mat hT).1 ⟨hr, fun p' tl hp' hfp' => .inl (hv2 p' (List.mem_filterMap.2 ⟨_, hp', by simp [hfp']⟩))⟩⟩
      | none =>
        rw [hab] at hu
        obtain ⟨d, g, D, hF⟩ := absent_none hok hT hab
        obtain ⟨hτ, hD, hcons, hall⟩ := hF
        subst hτ
        simp only [hcons] at hu
        obtain ⟨k, hk, hu⟩ := usefulLoop_ex hu
        obtain ⟨q1, tl1, hq1, hqf, hqn, hea, a1, hta⟩ := hall k hk
        have hw1 := narrow_w1 k.name k.args.length hqf hqn rows hq1
        have hln : (narrow k.name k.args.length rows).length ≤ rows.length := List.length_filterMap_le _ _
        have hal := argT_len (g k.name) k.args.length
        have hany := rowT.anys (t := t) (argT (g k.name) k.args.length)
        rw [hal] at hany
        obtain ⟨ws, hw, hm, hr⟩ := useful_new hok hlaw f _ _ (argT (g k.name) k.args.length ++ σs) ⟨hT.narrow hta, hany.append hrow, by omega, by rw [List.length_append, hal, wL_append, wL_anys]; omega⟩ (fun σ hσ => by
          rcases List.mem_append.1 hσ with hσ | hσ
          · obtain ⟨i, _, rfl⟩ := List.mem_map.1 hσ
            exact hgτ.2 _ _
          · exact hgs σ hσ) hu
        have hwl := hw.len
        rw [List.length_append, hal] at hwl
        have hsplit : ws = ws.take k.args.length ++ ws.drop k.args.length := (List.take_append_drop _ _).symm
        have htl : (ws.take k.args.length).length = k.args.length := by rw [List.length_take]; omega
        rw [hsplit] at hw hr hm
        rw [fitsL_append (by rw [hal, htl])] at hw
        rw [matL_append (by simp [htl])] at hm
        rw [narrow_mat hT hta htl] at hr
        exact ⟨.con k.name (ws.take k.args.length) :: ws.drop k.args.length, ⟨⟨D, k, _, hD, hk, rfl, htl, (fitsL_args htl).1 hw.1⟩, hw.2⟩, matL_cons.2 ⟨matP_free hfp _, hm.2⟩, hr⟩

/-! ### The first row that matches -/
def Sem : List MRow → List Val → Option Nat → Prop
  | [], _, o => o = none
  | r :: rs, vs, o => (matL r.2 vs ∧ o = some r.1) ∨ (¬ matL r.2 vs ∧ Sem rs vs o)
theorem matL_at {r : List Pat} {vs : List Val} {k : Nat} {p : Pat} {v : Val} (hl : r.length = vs.length) (hp : r[k]? = some p) (hv : vs[k]? = some v) : matL r vs ↔ matL (r.take k) (vs.take k) ∧ matP p v ∧ matL (r.drop (k + 1)) (vs.drop (k + 1)) := by
  conv => lhs; rw [split_at hp, split_at hv]
  rw [matL_append (by rw [List.length_take, List.length_take, hl]), matL_cons]
theorem matL_new {r : List Pat} {vs as : List Val} {k many : Nat} {p : Pat} {v : Val} (hl : r.length = vs.length) : matL (newPats k many p r) (vs.take k ++ (vs.drop (k + 1) ++ as)) ↔ matL (r.take k) (vs.take k) ∧ matL (r.drop (k + 1)) (vs.drop (k + 1)) ∧ matL (if free p = false ∧ p.kind = 3 then p.args else anysL many) as := by
  unfold newPats
  rw [matL_append (by rw [List.length_take, List.length_take, hl]), matL_append (by rw [List.length_drop, List.length_drop, hl])]
theorem sem_narrow {k many : Nat} {is : Pat → Bool} {vs as : List Val} {v : Val} (hv : vs[k]? = some v) (ha : as.length = many) : ∀ {rows : List MRow}, (∀ r ∈ rows, r.2.length = vs.length) →
    (∀ r ∈ rows, ∀ p, r.2[k]? = some p → free p = false → (is p = true → (matP p v ↔ matL (if p.kind = 3 then p.args else anysL many) as)) ∧ (is p = false → ¬ matP p v)) →
    ∀ o, Sem (narrowM k is many rows) (vs.take k ++ (vs.drop (k + 1) ++ as)) o ↔ Sem rows vs o
  | [], _, _, o => Iff.rfl
  | r :: rows, hl, hc, o => by
    have hrl := hl r (List.mem_cons_self ..)
    have hkv := (List.getElem?_eq_some_iff.1 hv).1
    obtain ⟨p, hp⟩ := get_of_lt r.2 k (by omega)
    have ih := sem_narrow hv ha (fun r' hr' => hl r' (List.mem_cons_of_mem _ hr')) (fun r' hr' => hc r' (List.mem_cons_of_mem _ hr')) o
    have hr := hc r (List.mem_cons_self ..) p hp
    have hm := matL_at hrl hp hv
    rw [narrowM_cons k is many r rows hp]
    by_cases hk : (free p || is p) = true
    · rw [if_pos hk]
      have he : matL (newPats k many p r.2) (vs.take k ++ (vs.drop (k + 1) ++ as)) ↔ matL r.2 vs := by
        rw [matL_new (v := v) hrl, hm]
        cases hf : free p with
        | true =>
          rw [if_neg (by simp)]
          have h1 : matL (anysL many) as := by rw [← ha]; exact matL_anys as
          have h2 := matP_free hf v
          exact ⟨fun h => ⟨h.1, h2, h.2.1⟩, fun h => ⟨h.1, h.2.2, h1⟩⟩
        | false =>
          rw [hf, Bool.false_or] at hk
          have h1 := (hr hf).1 hk
          have h2 : (if false = false ∧ p.kind = 3 then p.args else anysL many) = if p.kind = 3 then p.args else anysL many := by simp
          rw [h2, ← h1]
          exact ⟨fun h => ⟨h.1, h.2.2, h.2.1⟩, fun h => ⟨h.1, h.2.2, h.2.1⟩⟩
      simp only [Sem, he, ih]
    · rw [if_neg hk]
      rw [Bool.not_eq_true, Bool.or_eq_false_iff] at hk
      have hno : ¬ matL r.2 vs := fun h => (hr hk.1).2 hk.2 (hm.1 h).2.1
      simp only [Sem, ih]
      constructor
      · exact fun h => .inr ⟨hno, h⟩
      · rintro (h | h)
        · exact absurd h.1 hno
        · exact h.2

/-! ### Leaves -/
inductive Lf (out : List MNode) : Nat → Option Nat → Prop where
  | fail {i : Nat} {n : MNode} : out[i]? = some n → n.kind = 0 → Lf out i none
  | row {i k : Nat} {n : MNode} : out[i]? = some n → n.kind = 1 → n.row = k → Lf out i (some k)
  | kid {i j : Nat} {n : MNode} {o : Option Nat} : out[i]? = some n → (j : Int) ∈ n.kids → j < i → Lf out j o → Lf out i o
theorem Lf.mono {a b : List MNode} (hp : a <+: b) {i : Nat} {o : Option Nat} (h : Lf a i o) : Lf b i o := by
  have hg : ∀ {i : Nat} {n : MNode}, a[i]? = some n → b[i]? = some n := fun hi => by
    obtain ⟨c, rfl⟩ := hp
    rw [List.getElem?_append_left (List.getElem?_eq_some_iff.1 hi).1]
    exact hi
  induction h with
  | fail h1 h2 => exact .fail (hg h1) h2
  | row h1 h2 h3 => exact .row (hg h1) h2 h3
  | kid h1 h2 h3 _ ih => exact .kid (hg h1) h2 h3 ih
theorem Lf.back {a b : List MNode} (hp : a <+: b) {i : Nat} {o : Option Nat} (h : Lf b i o) : i < a.length → Lf a i o := by
  have hg : ∀ {i : Nat} {n : MNode}, i < a.length → b[i]? = some n → a[i]? = some n := fun hi hb => by
    obtain ⟨c, rfl⟩ := hp
    rwa [List.getElem?_append_left hi] at hb
  induction h with
  | fail h1 h2 => exact fun hi => .fail (hg hi h1) h2
  | row h1 h2 h3 => exact fun hi => .row (hg hi h1) h2 h3
  | kid h1 h2 h3 _ ih => exact fun hi => .kid (hg hi h1) h2 h3 (ih (by omega))
/-- All kids stand ahead. -/
def KidsOk (out : List MNode) : Prop := ∀ (i : Nat) n, out[i]? = some n → ∀ y ∈ n.kids, y < i
theorem Lf.node {out : List MNode} {i : Nat} {n : MNode} {o : Option Nat} (hk : KidsOk out) (hn : out[i]? = some n) (h : n.kind = 2 ∨ n.kind = 3) : Lf out i o ↔ ∃ j : Nat, (j : Int) ∈ n.kids ∧ Lf out j o := by
  constructor
  · intro hl
    cases hl with
    | fail h1 h2 => rw [hn] at h1; injection h1 with h1; subst h1; omega
    | row h1 h2 h3 => rw [hn] at h1; injection h1 with h1; subst h1; omega
    | kid h1 h2 h3 h4 => rw [hn] at h1; injection h1 with h1; subst h1; exact ⟨_, h2, h4⟩
  · rintro ⟨j, h1, h2⟩
    exact .kid hn h1 (by have := hk i n hn _ h1; omega) h2
theorem addF_kids {s : BSt} {n : MNode} (hk : KidsOk s.out) (h : ∀ y ∈ n.kids, y < s.out.length) : KidsOk (addF s n).1.out := fun i m hm y hy => by
  unfold addF at hm
  split at hm
  · exact hk i m hm y hy
  · rw [List.getElem?_append] at hm
    split at hm
    · exact hk i m hm y hy
    · rename_i hlt
      have : i - s.out.length = 0 := by
        rcases Nat.eq_zero_or_pos (i - s.out.length) with h | h
        · exact h
        · rw [List.getElem?_eq_none (by simp only [List.length_singleton]; omega)] at hm; cases hm
      rw [this] at hm
      injection hm with hm
      subst hm
      have := h y hy
      omega
end Go.PM
namespace Go.PM
open Go.VL
theorem Lf_fail {out : List MNode} {i : Nat} {o : Option Nat} (h : out[i]? = some failN) : Lf out i o ↔ o = none := by
  constructor
  · intro hl
    cases hl with
    | fail _ _ => rfl
    | row h1 h2 _ => rw [h] at h1; injection h1 with h1; subst h1; cases h2
    | kid h1 h2 _ _ => rw [h] at h1; injection h1 with h1; subst h1; cases h2
  · rintro rfl
    exact .fail h rfl
theorem Lf_row {out : List MNode} {i k : Nat} {o : Option Nat} (h : out[i]? = some (rowN k)) : Lf out i o ↔ o = some k := by
  constructor
  · intro hl
    cases hl with
    | fail h1 h2 => rw [h] at h1; injection h1 with h1; subst h1; cases h2
    | row h1 _ h3 =>
      rw [h] at h1
      injection h1 with h1
      subst h1
      have : (k : Int) = _ := h3
      congr 1
      omega
    | kid h1 h2 _ _ => rw [h] at h1; injection h1 with h1; subst h1; cases h2
  · rintro rfl
    exact .row h rfl rfl
theorem fitsL_inh {ds : List DataSig} : ∀ {τs : List Ty}, (∀ τ ∈ τs, Good ds τ) → ∃ vs, fitsL ds τs vs
  | [], _ => ⟨[], trivial⟩
  | τ :: τs, h => by
    obtain ⟨v, hv⟩ := good_inh τ (h τ (List.mem_cons_self ..))
    obtain ⟨vs, hvs⟩ := fitsL_inh (τs := τs) fun σ hσ => h σ (List.mem_cons_of_mem _ hσ)
    exact ⟨v :: vs, hv, hvs⟩
theorem matL_free : ∀ {r : List Pat} {vs : List Val}, r.any nf = false → r.length = vs.length → matL r vs
  | [], [], _, _ => rfl
  | p :: r, v :: vs, h, hl => by
    rw [List.any_cons, Bool.or_eq_false_iff] at h
    exact matL_cons.2 ⟨matP_free (by simpa [nf] using h.1) v, matL_free h.2 (by simpa using hl)⟩
  | [], _ :: _, _, hl => by simp at hl
  | _ :: _, [], _, hl => by simp at hl
theorem fits_split {ds : List DataSig} {τs : List Ty} {vs : List Val} {k : Nat} {τ : Ty} (hk : τs[k]? = some τ) : fitsL ds τs vs ↔ ∃ v, vs[k]? = some v ∧ fits ds τ v ∧ fitsL ds (τs.take k) (vs.take k) ∧ fitsL ds (τs.drop (k + 1)) (vs.drop (k + 1)) := by
  have hlt := (List.getElem?_eq_some_iff.1 hk).1
  constructor
  · intro h
    have hl := h.len
    obtain ⟨v, hv⟩ : ∃ v, vs[k]? = some v := ⟨vs[k]'(by omega), List.getElem?_eq_getElem _⟩
    rw [split_at hk, split_at hv, fitsL_append (by rw [List.length_take, List.length_take, hl])] at h
    exact ⟨v, hv, h.2.1, h.1, h.2.2⟩
  · rintro ⟨v, hv, h1, h2, h3⟩
    rw [split_at hk, split_at hv, fitsL_append h2.len.symm]
    exact ⟨h2, h1, h3⟩
/-- Values for the columns behind a step, and a value for the column. -/
theorem fits_ins {ds : List DataSig} {τs σs : List Ty} {ws : List Val} {k : Nat} {τ : Ty} (hk : τs[k]? = some τ) (h : fitsL ds (newTys k σs τs) ws) : ∃ A B as, ws = A ++ (B ++ as) ∧ A.length = k ∧ fitsL ds σs as ∧ ∀ v, fits ds τ v → fitsL ds τs (A ++ v :: B) ∧ (A ++ v :: B)[k]? = some v ∧ (A ++ v :: B).take k = A ∧ (A ++ v :: B).drop (k + 1) = B := by
  have hlt := (List.getElem?_eq_some_iff.1 hk).1
  have hl := h.len
  rw [newTys_len hlt] at hl
  have hA : (ws.take k).length = k := by rw [List.length_take]; omega
  have hB : ((ws.drop k).take (τs.length - (k + 1))).length = τs.length - (k + 1) := by rw [List.length_take, List.length_drop]; omega
  have e : ws = ws.take k ++ ((ws.drop k).take (τs.length - (k + 1)) ++ (ws.drop k).drop (τs.length - (k + 1))) := by rw [List.take_append_drop, List.take_append_drop]
  generalize ws.take k = A at hA e
  generalize (ws.drop k).take (τs.length - (k + 1)) = B at hB e
  generalize (ws.drop k).drop (τs.length - (k + 1)) = as at e
  subst e
  unfold newTys at h
  rw [fitsL_append (by rw [List.length_take]; omega), fitsL_append (by rw [List.length_drop]; omega)] at h
  refine ⟨A, B, as, rfl, hA, h.2.2, fun v hv => ?_⟩
  have h1 : (A ++ v :: B)[k]? = some v := by rw [List.getElem?_append_right (by omega), hA]; simp
  have h2 : (A ++ v :: B).take k = A := by rw [List.take_append_of_le_length (by omega), List.take_of_length_le (by omega)]
  have h3 : (A ++ v :: B).drop (k + 1) = B := by
    rw [show k + 1 = A.length + 1 by omega, ← List.drop_drop, List.drop_left]
    rfl
  refine ⟨(fits_split hk).2 ⟨v, h1, hv, ?_, ?_⟩, h1, h2, h3⟩
  · rw [h2]; exact h.1
  · rw [h3]; exact h.2.1
theorem int_out (l : List Int) : ∃ n : Int, ∀ x ∈ l, x < n := by
  induction l with
  | nil => exact ⟨0, fun x hx => by cases hx⟩
  | cons a l ih =>
    obtain ⟨n, hn⟩ := ih
    refine ⟨max n (a + 1), fun x hx => ?_⟩
    rcases List.mem_cons.1 hx with rfl | hx
    · omega
    · have := hn x hx; omega
/-- What the leaves of a node are. -/
def Leaves (ds : List DataSig) (τs : List Ty) (rows : List MRow) (out : List MNode) (i : Nat) : Prop := ∀ o, Lf out i o ↔ ∃ vs, fitsL ds τs vs ∧ Sem rows vs o
theorem Leaves.mono {ds : List DataSig} {τs : List Ty} {rows : List MRow} {a b : List MNode} {i : Nat} (hp : a <+: b) (hi : i < a.length) (h : Leaves ds τs rows a i) : Leaves ds τs rows b i := fun o =>
  ⟨fun hl => (h o).1 (hl.back hp hi), fun hr => ((h o).2 hr).mono hp⟩
/-- What stands in the builder behind a step. -/
structure Built (ds : List DataSig) (τs : List Ty) (rows : List MRow) (s' : BSt) (i : Nat) : Prop where
  idx : i < s'.out.length
  leaves : s'.many ≤ 4096 → Leaves ds τs rows s'.out i
structure Grows (s s' : BSt) : Prop where
  out : s.out <+: s'.out
  many : s.many ≤ s'.many
theorem Built.mono {ds : List DataSig} {τs : List Ty} {rows : List MRow} {s s' : BSt} {i : Nat} (hg : Grows s s') (h : Built ds τs rows s i) : Built ds τs rows s' i :=
  ⟨by have := hg.out.length_le; have := h.idx; omega, fun hm => (h.leaves (by have := hg.many; omega)).mono hg.out h.idx⟩
theorem Grows.trans {a b c : BSt} (h : Grows a b) (k : Grows b c) : Grows a c := ⟨h.out.trans k.out, Nat.le_trans h.many k.many⟩
theorem addF_grows (s : BSt) (n : MNode) : Grows s (addF s n).1 := ⟨addF_prefix s n, by rw [(addF_many s n).1]; exact Nat.le_refl _⟩
theorem tick_grows (s : BSt) : Grows s (tick s) := ⟨List.prefix_rfl, Nat.le_succ _⟩
structure BOk (s : BSt) : Prop where
  full : s.full = decide (4096 < s.many)
  kids : KidsOk s.out
theorem addF_at (s : BSt) (n : MNode) : (addF s n).1.out[(addF s n).2]? = some n := by
  obtain ⟨_, _, _, h⟩ := addF_spec s n
  exact h
theorem nf_words {t : Tab} {rows : List MRow} {τs : List Ty} {k : Nat} {p0 : Pat} {τ : Ty} (hT : ∀ r ∈ rows, rowT t τs r.2) (ha : AtHead t rows τs k p0 τ) (hk : p0.kind = 2) : ∀ r ∈ rows, ∀ p, r.2[k]? = some p → free p = false → p.kind = 2 := fun r hr p hp hf => int_ty ha.wt hk (rowT.get (hT r hr) k τ p ha.ty hp) hf
/-- A node that examines a word. -/
theorem words_leaves {t : Tab} {ds : List DataSig} {rows : List MRow} {τs : List Ty} {k : Nat} {p0 : Pat} {τ : Ty} (hT : ∀ r ∈ rows, rowT t τs r.2) (ha : AtHead t rows τs k p0 τ) (hk : p0.kind = 2) {out : List MNode} {ws : List Int} {ys : List (Int × Nat)} {j0 : Nat}
    (hws : ws = ys.map (·.1)) (hall : ∀ r ∈ rows, free (r.2.getD k anyP) = true ∨ wordAt k r ∈ ws) (hy : ∀ z ∈ ys, Leaves ds (newTys k [] τs) (narrowM k (isInt z.1) 0 rows) out z.2) (ho : Leaves ds (newTys k [] τs) (narrowM k (fun _ => false) 0 rows) out j0) (o : Option Nat) :
    ((∃ z ∈ ys, Lf out z.2 o) ∨ Lf out j0 o) ↔ ∃ vs, fitsL ds τs vs ∧ Sem rows vs o := by
  have h2 := nf_words hT ha hk
  have hτ : ∀ n, fits ds τ (.int n) := fun n => by
    have hw := ha.wt
    cases τ with
    | any => trivial
    | int => trivial
    | dat d g =>
      rcases hw with h | ⟨h, _⟩
      · rw [ha.free] at h; cases h
      · omega
  have hlen : ∀ {vs : List Val}, fitsL ds τs vs → ∀ r ∈ rows, r.2.length = vs.length := fun hf r hr => by rw [(hT r hr).len, hf.len]
  have hint : ∀ {vs : List Val} {n : Int}, fitsL ds τs vs → vs[k]? = some (.int n) → ∀ o, Sem (narrowM k (isInt n) 0 rows) (vs.take k ++ (vs.drop (k + 1) ++ [])) o ↔ Sem rows vs o := fun hf hv =>
    sem_narrow (as := []) hv rfl (hlen hf) fun r hr p hp hpf => by
      have hk2 := h2 r hr p hp hpf
      rw [if_neg (by omega)]
      refine ⟨fun hi => ⟨fun _ => rfl, fun _ => (matP_eq _ _).2 (.inr (.inl ⟨hk2, ?_⟩))⟩, fun hi hm => ?_⟩
      · have e : p.n = _ := of_decide_eq_true hi
        rw [e]
      rcases (matP_eq _ _).1 hm with h | ⟨_, h⟩ | ⟨_, _, h, _⟩
      · rw [hpf] at h; cases h
      · injection h with h
        rw [isInt, decide_eq_false_iff_not] at hi
        exact hi h.symm
      · cases h
  have hnev : ∀ {vs : List Val} {v : Val}, fitsL ds τs vs → vs[k]? = some v → (∀ n ∈ ws, v ≠ .int n) → ∀ o, Sem (narrowM k (fun _ => false) 0 rows) (vs.take k ++ (vs.drop (k + 1) ++ [])) o ↔ Sem rows vs o := fun hf hv hn =>
    sem_narrow (as := []) hv rfl (hlen hf) fun r hr p hp hpf => by
      refine ⟨fun h => (by cases h), fun _ hm => ?_⟩
      have hg : r.2.getD k anyP = p := by simp [hp]
      rcases hall r hr with h | h
      · rw [hg, hpf] at h; cases h
      · rw [wordAt, hg] at h
        rcases (matP_eq _ _).1 hm with h' | ⟨_, h'⟩ | ⟨h', _⟩
        · rw [hpf] at h'; cases h'
        · exact hn _ h h'
        · have := h2 r hr p hp hpf; omega
  constructor
  · rintro (⟨z, hz, hl⟩ | hl)
    · obtain ⟨vs', hf, hs⟩ := (hy z hz o).1 hl
      obtain ⟨A, B, as, rfl, hA, has, hv⟩ := fits_ins ha.ty hf
      obtain ⟨h1, h3, h4, h5⟩ := hv (.int z.1) (hτ _)
      have := has.len
      obtain rfl := List.eq_nil_of_length_eq_zero this
      refine ⟨_, h1, (hint h1 h3 o).1 ?_⟩
      rw [h4, h5]
      exact hs
    · obtain ⟨vs', hf, hs⟩ := (ho o).1 hl
      obtain ⟨n, hn⟩ := int_out ws
      obtain ⟨A, B, as, rfl, hA, has, hv⟩ := fits_ins ha.ty hf
      obtain ⟨h1, h3, h4, h5⟩ := hv (.int n) (hτ _)
      have := has.len
      obtain rfl := List.eq_nil_of_length_eq_zero this
      refine ⟨_, h1, (hnev h1 h3 (fun m hm e => by injection e with e; have := hn m hm; omega) o).1 ?_⟩
      rw [h4, h5]
      exact hs
  · rintro ⟨vs, hf, hs⟩
    obtain ⟨v, hv, hfv, hf1, hf2⟩ := (fits_split ha.ty).1 hf
    have hnew : fitsL ds (newTys k [] τs) (vs.take k ++ (vs.drop (k + 1) ++ [])) := by
      unfold newTys
      rw [fitsL_append hf1.len.symm, fitsL_append hf2.len.symm]
      exact ⟨hf1, hf2, trivial⟩
    by_cases hin : ∃ n ∈ ws, v = .int n
    · obtain ⟨n, hn, rfl⟩ := hin
      rw [hws] at hn
      obtain ⟨z, hz, rfl⟩ := List.mem_map.1 hn
      exact .inl ⟨z, hz, (hy z hz o).2 ⟨_, hnew, (hint hf hv o).2 hs⟩⟩
    · exact .inr ((ho o).2 ⟨_, hnew, (hnev hf hv (fun n hn e => hin ⟨n, hn, e⟩) o).2 hs⟩)
/-- A node that examines a constructor. -/
theorem cons_leaves {t : Tab} {ds : List DataSig} {rows : List MRow} {τs : List Ty} {k d : Nat} {g : Str → Nat → Ty} {p0 : Pat} {D : DataSig} (hT : ∀ r ∈ rows, rowT t τs r.2) (ha : AtHead t rows τs k p0 (.dat d g)) (hD : ds[d]? = some D) (hcs : ∀ c ∈ D.cons, ∃ a, tget t c.name = some (d, a, c.args.length)) (hgood : Good ds (.dat d g))
    {out : List MNode} {ys : List (ConSig × Nat)} {j0 : Option Nat} (hys : ys.map (·.1) = D.cons.filter (fun c => hasCon rows k c.name)) (hy : ∀ z ∈ ys, Leaves ds (newTys k (argT (g z.1.name) z.1.args.length) τs) (narrowM k (isCon z.1.name) z.1.args.length rows) out z.2)
    (hj : j0 = none ↔ ∀ c ∈ D.cons, hasCon rows k c.name = true) (ho : ∀ j, j0 = some j → Leaves ds (newTys k [] τs) (narrowM k (fun _ => false) 0 rows) out j) (o : Option Nat) :
    ((∃ z ∈ ys, Lf out z.2 o) ∨ ∃ j, j0 = some j ∧ Lf out j o) ↔ ∃ vs, fitsL ds τs vs ∧ Sem rows vs o := by
  have hlen : ∀ {vs : List Val}, fitsL ds τs vs → ∀ r ∈ rows, r.2.length = vs.length := fun hf r hr => by rw [(hT r hr).len, hf.len]
  have h3 : ∀ r ∈ rows, ∀ p, r.2[k]? = some p → free p = false → p.kind = 3 ∧ ∃ a, tget t p.name = some (d, a, p.args.length) := fun r hr p hp hpf => by
    rcases rowT.get (hT r hr) k _ p ha.ty hp with h | ⟨h, h', _⟩
    · rw [hpf] at h; cases h
    · exact ⟨h, h'⟩
  have hcon : ∀ {vs as : List Val} {c : ConSig}, c ∈ D.cons → fitsL ds τs vs → as.length = c.args.length → vs[k]? = some (.con c.name as) → ∀ o, Sem (narrowM k (isCon c.name) c.args.length rows) (vs.take k ++ (vs.drop (k + 1) ++ as)) o ↔ Sem rows vs o := fun hc hf hal hv =>
    sem_narrow hv hal (hlen hf) fun r hr p hp hpf => by
      obtain ⟨hk3, a, ht⟩ := h3 r hr p hp hpf
      rw [if_pos hk3]
      refine ⟨fun hi => ?_, fun hi hm => ?_⟩
      · have hn : p.name = _ := of_decide_eq_true hi
        rw [matP_eq, hn]
        constructor
        · rintro (h | ⟨_, h⟩ | ⟨_, as', h, h'⟩)
          · rw [hpf] at h; cases h
          · cases h
          · injection h with _ h; subst h; exact h'
        · intro h; exact .inr (.inr ⟨hk3, _, rfl, h⟩)
      · rw [isCon, decide_eq_false_iff_not] at hi
        rcases (matP_eq _ _).1 hm with h | ⟨_, h⟩ | ⟨_, as', h, _⟩
        · rw [hpf] at h; cases h
        · cases h
        · injection h with h _; exact hi h.symm
  have hnev : ∀ {vs as : List Val} {c : ConSig}, hasCon rows k c.name = false → fitsL ds τs vs → vs[k]? = some (.con c.name as) → ∀ o, Sem (narrowM k (fun _ => false) 0 rows) (vs.take k ++ (vs.drop (k + 1) ++ [])) o ↔ Sem rows vs o := fun hc hf hv =>
    sem_narrow (as := []) hv rfl (hlen hf) fun r hr p hp hpf => by
      refine ⟨fun h => (by cases h), fun _ hm => ?_⟩
      have hg : r.2.getD k anyP = p := by simp [hp]
      rcases (matP_eq _ _).1 hm with h | ⟨_, h⟩ | ⟨_, as', h, _⟩
      · rw [hpf] at h; cases h
      · cases h
      · injection h with h _
        have := List.any_eq_false.1 hc r hr
        simp only [hg, hpf, isCon] at this
        simp [h] at this
  have hmem : ∀ z ∈ ys, z.1 ∈ D.cons ∧ hasCon rows k z.1.name = true := fun z hz => by
    have h : z.1 ∈ ys.map (·.1) := List.mem_map.2 ⟨z, hz, rfl⟩
    rw [hys] at h
    exact List.mem_filter.1 h
  constructor
  · rintro (⟨z, hz, hl⟩ | ⟨j, hj0, hl⟩)
    · obtain ⟨hzc, hzh⟩ := hmem z hz
      obtain ⟨vs', hf, hs⟩ := (hy z hz o).1 hl
      obtain ⟨A, B, as, rfl, hA, has, hv⟩ := fits_ins ha.ty hf
      have hal : as.length = z.1.args.length := by rw [has.len, argT_len]
      obtain ⟨h1, h4, h5, h6⟩ := hv (.con z.1.name as) ⟨D, z.1, as, hD, hzc, rfl, hal, (fitsL_args hal).1 has⟩
      refine ⟨_, h1, (hcon hzc h1 hal h4 o).1 ?_⟩
      rw [h5, h6]
      exact hs
    · obtain ⟨vs', hf, hs⟩ := (ho j hj0 o).1 hl
      obtain ⟨c, hc, hn⟩ : ∃ c ∈ D.cons, hasCon rows k c.name = false := by
        refine Classical.byContradiction fun h => ?_
        have : j0 = none := hj.2 fun c hc => by
          cases hh : hasCon rows k c.name with
          | true => rfl
          | false => exact absurd ⟨c, hc, hh⟩ h
        rw [hj0] at this
        cases this
      obtain ⟨as, hal, has⟩ := good_con (g := g c.name) (fun i => good_inh (g c.name i) (hgood.2 c.name i)) c.args.length
      obtain ⟨A, B, as', rfl, hA, has', hv⟩ := fits_ins ha.ty hf
      obtain ⟨h1, h4, h5, h6⟩ := hv (.con c.name as) ⟨D, c, as, hD, hc, rfl, hal, has⟩
      obtain rfl := List.eq_nil_of_length_eq_zero has'.len
      refine ⟨_, h1, (hnev hn h1 h4 o).1 ?_⟩
      rw [h5, h6]
      exact hs
  · rintro ⟨vs, hf, hs⟩
    obtain ⟨v, hv, ⟨D', c, as, hD', hc, rfl, hal, has⟩, hf1, hf2⟩ := (fits_split ha.ty).1 hf
    rw [hD] at hD'
    injection hD' with hD'
    subst hD'
    cases hh : hasCon rows k c.name with
    | true =>
      have h : c ∈ ys.map (·.1) := by rw [hys]; exact List.mem_filter.2 ⟨hc, hh⟩
      obtain ⟨z, hz, rfl⟩ := List.mem_map.1 h
      refine .inl ⟨z, hz, (hy z hz o).2 ⟨_, ?_, (hcon hc hf hal hv o).2 hs⟩⟩
      unfold newTys
      rw [fitsL_append hf1.len.symm, fitsL_append hf2.len.symm]
      exact ⟨hf1, hf2, (fitsL_args hal).2 has⟩
    | false =>
      obtain ⟨j, hj0⟩ : ∃ j, j0 = some j := by
        cases j0 with
        | some j => exact ⟨j, rfl⟩
        | none => have := hj.1 rfl c hc; rw [hh] at this; cases this
      refine .inr ⟨j, hj0, (ho j hj0 o).2 ⟨_, ?_, (hnev hh hf hv o).2 hs⟩⟩
      unfold newTys
      rw [fitsL_append hf1.len.symm, fitsL_append hf2.len.symm]
      exact ⟨hf1, hf2, trivial⟩
end Go.PM
namespace Go.PM
open Go.VL
theorem newTys_good {ds : List DataSig} {k : Nat} {σs τs : List Ty} (h : ∀ τ ∈ τs, Good ds τ) (hs : ∀ σ ∈ σs, Good ds σ) : ∀ τ ∈ newTys k σs τs, Good ds τ := fun τ hτ => by
  rcases List.mem_append.1 hτ with hτ | hτ
  · exact h τ (List.mem_of_mem_take hτ)
  rcases List.mem_append.1 hτ with hτ | hτ
  · exact h τ (List.mem_of_mem_drop hτ)
  · exact hs τ hτ
theorem filter_less {α : Type} (p : α → Bool) : ∀ l : List α, (l.filter p).length < l.length ↔ ¬ ∀ x ∈ l, p x = true
  | [] => by simp
  | a :: l => by
    have ih := filter_less p l
    have hle := List.length_filter_le p l
    rw [List.filter_cons]
    cases hp : p a with
    | true =>
      rw [if_pos rfl, List.length_cons, List.length_cons]
      constructor
      · intro h hall
        exact ih.1 (by omega) fun x hx => hall x (List.mem_cons_of_mem _ hx)
      · intro h
        have := ih.2 fun hall => h fun x hx => by
          rcases List.mem_cons.1 hx with rfl | hx
          · exact hp
          · exact hall x hx
        omega
    | false =>
      rw [if_neg (by simp), List.length_cons]
      constructor
      · intro _ hall
        have := hall a (List.mem_cons_self ..)
        rw [hp] at this
        cases this
      · intro _
        omega
theorem leaf_built {ds : List DataSig} {τs : List Ty} {rows : List MRow} {s : BSt} {n : MNode} (hk : n.kids = []) (hs : BOk s) (h : (addF s n).1.many ≤ 4096 → ∀ o, Lf (addF s n).1.out (addF s n).2 o ↔ ∃ vs, fitsL ds τs vs ∧ Sem rows vs o) : BOk (addF s n).1 ∧ Grows s (addF s n).1 ∧ Built ds τs rows (addF s n).1 (addF s n).2 := by
  obtain ⟨e1, e2⟩ := addF_many s n
  exact ⟨⟨by rw [e1, e2]; exact hs.full, addF_kids hs.kids fun y hy => by rw [hk] at hy; cases hy⟩, addF_grows s n, (List.getElem?_eq_some_iff.1 (addF_at s n)).1, h⟩
theorem tick_ok {s : BSt} (h : BOk s) : BOk (tick s) := ⟨tick_full h.full, h.kids⟩
/-- A step's last node. -/
theorem node_built {ds : List DataSig} {τs : List Ty} {rows : List MRow} {s s1 : BSt} {n : MNode} (hk : n.kind = 2 ∨ n.kind = 3) (hs : BOk s1) (hg : Grows s s1) (hkids : ∀ y ∈ n.kids, y < s1.out.length)
    (h : (addF s1 n).1.many ≤ 4096 → ∀ o, (∃ j : Nat, (j : Int) ∈ n.kids ∧ Lf (addF s1 n).1.out j o) ↔ ∃ vs, fitsL ds τs vs ∧ Sem rows vs o) : BOk (addF s1 n).1 ∧ Grows s (addF s1 n).1 ∧ Built ds τs rows (addF s1 n).1 (addF s1 n).2 := by
  obtain ⟨e1, e2⟩ := addF_many s1 n
  have hko := addF_kids hs.kids hkids
  exact ⟨⟨by rw [e1, e2]; exact hs.full, hko⟩, hg.trans (addF_grows s1 n), (List.getElem?_eq_some_iff.1 (addF_at s1 n)).1, fun hm o => (Lf.node hko (addF_at s1 n) hk).trans (h hm o)⟩
theorem buildM_leaves {t : Tab} {ds : List DataSig} (hok : TabOk t ds) : ∀ (f : Nat) (s : BSt) (rows : List MRow) (paths : List (List Int)) (τs : List Ty), MPre t f rows paths τs → (∀ τ ∈ τs, Good ds τ) → BOk s →
    BOk (buildM t ds f s rows paths).1 ∧ Grows s (buildM t ds f s rows paths).1 ∧ Built ds τs rows (buildM t ds f s rows paths).1 (buildM t ds f s rows paths).2
  | 0, s, rows, paths, τs, h, _, _ => absurd h.fuel (Nat.not_lt_zero _)
  | f + 1, s, rows, paths, τs, h, hg, hs => by
    have hts := tick_ok hs
    have htg := tick_grows s
    rcases buildM_cases (s := s) hok h with ⟨e, hE⟩ | ⟨hft, r0, rs, er, ⟨e, hno⟩ | ⟨k, p, τ, ha, ⟨hk, e⟩ | ⟨d, g, a, D, hτ, hk, hta, hD, hcl, hcs, e⟩⟩⟩
    · rw [e]
      obtain ⟨h1, h2, h3⟩ := leaf_built (ds := ds) (τs := τs) (rows := rows) (n := failN) rfl hts fun hm o => by
        rw [(addF_many (tick s) failN).1] at hm
        have hr : rows.length = 0 := by
          rcases hE with hE | hE
          · exact hE
          · rw [hts.full] at hE
            have := of_decide_eq_true hE
            omega
        obtain rfl := List.eq_nil_of_length_eq_zero hr
        rw [Lf_fail (addF_at _ _)]
        constructor
        · rintro rfl
          obtain ⟨vs, hv⟩ := fitsL_inh hg
          exact ⟨vs, hv, rfl⟩
        · rintro ⟨vs, _, h⟩
          exact h
      exact ⟨h1, htg.trans h2, h3⟩
    · rw [e]
      obtain ⟨h1, h2, h3⟩ := leaf_built (ds := ds) (τs := τs) (rows := rows) (n := rowN r0.1) rfl hts fun hm o => by
        rw [Lf_row (addF_at _ _), er]
        have hT := h.ty r0 (by rw [er]; exact List.mem_cons_self ..)
        constructor
        · rintro rfl
          obtain ⟨vs, hv⟩ := fitsL_inh hg
          exact ⟨vs, hv, .inl ⟨matL_free hno (by rw [hT.len, hv.len]), rfl⟩⟩
        · rintro ⟨vs, hv, ⟨_, h⟩ | ⟨h, _⟩⟩
          · exact h
          · exact absurd (matL_free hno (by rw [hT.len, hv.len])) h
      exact ⟨h1, htg.trans h2, h3⟩
    · rw [e, wordsF]
      have hgn : ∀ τ ∈ newTys k [] τs, Good ds τ := newTys_good hg fun σ hσ => by cases hσ
      obtain ⟨i1, i2, i3, _, ys, i5, i6, i7, i8⟩ := wordsL_ind (rc := buildM t ds f) (rows := rows) (paths := paths) (k := k) (R := Grows) (I := BOk) (Q := fun n s y => Built ds (newTys k [] τs) (narrowM k (isInt n) 0 rows) s y)
        (fun s => ⟨List.prefix_rfl, Nat.le_refl _⟩) (fun a b c h1 h2 => h1.trans h2) (fun c s s' y h1 h2 => h2.mono h1) rows (tick s) [] [] hts fun r hr s' hs' hf => buildM_leaves hok f s' _ _ _ (word_child (isInt (wordAt k r)) h ha hk) hgn hs'
      generalize wordsL (buildM t ds f) rows paths k rows (tick s) [] [] = w at i1 i2 i3 i5 i6 i8 ⊢
      obtain ⟨o1, o2, o3⟩ := buildM_leaves hok f w.1 _ _ _ (other_child h ha) hgn i1
      simp only [otherF]
      generalize buildM t ds f w.1 (narrowM k (fun _ => false) 0 rows) (belowM paths k 0) = q at o1 o2 o3 ⊢
      rw [List.nil_append] at i5 i6
      have hkid : ∀ j : Nat, (j : Int) ∈ w.2.2 ++ [(q.2 : Int)] ↔ (∃ z ∈ ys, z.2 = j) ∨ j = q.2 := fun j => by
        rw [List.mem_append, i6, List.mem_singleton, List.mem_map]
        constructor
        · rintro (⟨z, hz, h⟩ | h)
          · exact .inl ⟨z, hz, by omega⟩
          · exact .inr (by omega)
        · rintro (⟨z, hz, h⟩ | h)
          · exact .inl ⟨z, hz, by omega⟩
          · exact .inr (by omega)
      refine node_built (.inr rfl) o1 ((htg.trans i2).trans o2) (fun y hy => ?_) fun hm o => ?_
      · rcases List.mem_append.1 hy with hy | hy
        · rw [i6] at hy
          obtain ⟨z, hz, rfl⟩ := List.mem_map.1 hy
          have := (i8 z hz).1.idx
          have := o2.out.length_le
          omega
        · rw [List.mem_singleton] at hy
          have := o3.idx
          omega
      · have hm2 : q.1.many ≤ 4096 := by rw [(addF_many q.1 _).1] at hm; exact hm
        have hpre := addF_prefix q.1 ⟨3, 0, paths.getD k [], [], w.2.1, w.2.2 ++ [(q.2 : Int)]⟩
        have hw := words_leaves (ds := ds) (out := (addF q.1 ⟨3, 0, paths.getD k [], [], w.2.1, w.2.2 ++ [(q.2 : Int)]⟩).1.out) h.ty ha hk i5 i3 (fun z hz => ((((i8 z hz).1.mono o2).leaves hm2).mono hpre ((i8 z hz).1.mono o2).idx)) ((o3.leaves hm2).mono hpre o3.idx) o
        rw [← hw]
        constructor
        · rintro ⟨j, hj, hl⟩
          rcases (hkid j).1 hj with ⟨z, hz, rfl⟩ | rfl
          · exact .inl ⟨z, hz, hl⟩
          · exact .inr hl
        · rintro (⟨z, hz, hl⟩ | hl)
          · exact ⟨z.2, (hkid _).2 (.inl ⟨z, hz, rfl⟩), hl⟩
          · exact ⟨q.2, (hkid _).2 (.inr rfl), hl⟩
    · subst hτ
      have hgd : Good ds (.dat d g) := hg _ (List.mem_of_getElem? ha.ty)
      rw [e, consF]
      obtain ⟨i1, i2, ys, i3, i5, i6, i8⟩ := consL_ind (rc := buildM t ds f) (rows := rows) (paths := paths) (k := k) (R := Grows) (I := BOk) (Q := fun c s y => Built ds (newTys k (argT (g c.name) c.args.length) τs) (narrowM k (isCon c.name) c.args.length rows) s y)
        (fun s => ⟨List.prefix_rfl, Nat.le_refl _⟩) (fun a b c h1 h2 => h1.trans h2) (fun c s s' y h1 h2 => h2.mono h1) D.cons (tick s) [] [] hts fun c hc s' hs' hh => by
          obtain ⟨a', hta'⟩ := hcs c hc
          exact buildM_leaves hok f s' _ _ _ (con_child h ha hta' hh) (newTys_good hg fun σ hσ => by
            obtain ⟨i, _, rfl⟩ := List.mem_map.1 hσ
            exact hgd.2 _ _) hs'
      generalize consL (buildM t ds f) rows paths k D.cons (tick s) [] [] = w at i1 i2 i5 i6 i8 ⊢
      rw [List.nil_append] at i5 i6
      have hnl : w.2.1.length = (D.cons.filter fun c => hasCon rows k c.name).length := by rw [i5, ← i3, List.length_map, List.length_map]
      have hfl := filter_less (fun c : ConSig => hasCon rows k c.name) D.cons
      by_cases hlt : w.2.1.length < D.cons.length
      · rw [if_pos hlt]
        obtain ⟨o1, o2, o3⟩ := buildM_leaves hok f w.1 _ _ _ (other_child h ha) (newTys_good hg fun σ hσ => by cases hσ) i1
        simp only [otherF]
        generalize buildM t ds f w.1 (narrowM k (fun _ => false) 0 rows) (belowM paths k 0) = q at o1 o2 o3 ⊢
        have hkid : ∀ j : Nat, (j : Int) ∈ w.2.2 ++ [(q.2 : Int)] ↔ (∃ z ∈ ys, z.2 = j) ∨ j = q.2 := fun j => by
          rw [List.mem_append, i6, List.mem_singleton, List.mem_map]
          constructor
          · rintro (⟨z, hz, h⟩ | h)
            · exact .inl ⟨z, hz, by omega⟩
            · exact .inr (by omega)
          · rintro (⟨z, hz, h⟩ | h)
            · exact .inl ⟨z, hz, by omega⟩
            · exact .inr (by omega)
        refine node_built (.inl rfl) o1 ((htg.trans i2).trans o2) (fun y hy => ?_) fun hm o => ?_
        · rcases List.mem_append.1 hy with hy | hy
          · rw [i6] at hy
            obtain ⟨z, hz, rfl⟩ := List.mem_map.1 hy
            have := (i8 z hz).idx
            have := o2.out.length_le
            omega
          · rw [List.mem_singleton] at hy
            have := o3.idx
            omega
        · have hm2 : q.1.many ≤ 4096 := by rw [(addF_many q.1 _).1] at hm; exact hm
          have hpre := addF_prefix q.1 ⟨2, 0, paths.getD k [], w.2.1, [], w.2.2 ++ [(q.2 : Int)]⟩
          have hw := cons_leaves (ds := ds) (out := (addF q.1 ⟨2, 0, paths.getD k [], w.2.1, [], w.2.2 ++ [(q.2 : Int)]⟩).1.out) (j0 := some q.2) h.ty ha hD hcs hgd i3 (fun z hz => ((((i8 z hz).mono o2).leaves hm2).mono hpre ((i8 z hz).mono o2).idx))
            ⟨fun h => (by cases h), fun hall => absurd hall (hfl.1 (by omega))⟩ (fun j hj => by injection hj with hj; subst hj; exact (o3.leaves hm2).mono hpre o3.idx) o
          rw [← hw]
          constructor
          · rintro ⟨j, hj, hl⟩
            rcases (hkid j).1 hj with ⟨z, hz, rfl⟩ | rfl
            · exact .inl ⟨z, hz, hl⟩
            · exact .inr ⟨_, rfl, hl⟩
          · rintro (⟨z, hz, hl⟩ | ⟨j, hj, hl⟩)
            · exact ⟨z.2, (hkid _).2 (.inl ⟨z, hz, rfl⟩), hl⟩
            · injection hj with hj
              subst hj
              exact ⟨_, (hkid _).2 (.inr rfl), hl⟩
      · rw [if_neg hlt]
        simp only
        have hall : ∀ c ∈ D.cons, hasCon rows k c.name = true := Classical.byContradiction fun h => hlt (by rw [hnl]; exact hfl.2 h)
        have hkid : ∀ j : Nat, (j : Int) ∈ w.2.2 ++ [-1] ↔ ∃ z ∈ ys, z.2 = j := fun j => by
          rw [List.mem_append, i6, List.mem_singleton, List.mem_map]
          constructor
          · rintro (⟨z, hz, h⟩ | h)
            · exact ⟨z, hz, by omega⟩
            · omega
          · rintro ⟨z, hz, h⟩
            exact .inl ⟨z, hz, by omega⟩
        refine node_built (.inl rfl) i1 (htg.trans i2) (fun y hy => ?_) fun hm o => ?_
        · rcases List.mem_append.1 hy with hy | hy
          · rw [i6] at hy
            obtain ⟨z, hz, rfl⟩ := List.mem_map.1 hy
            have := (i8 z hz).idx
            omega
          · rw [List.mem_singleton] at hy
            omega
        · have hm2 : w.1.many ≤ 4096 := by rw [(addF_many w.1 _).1] at hm; exact hm
          have hpre := addF_prefix w.1 ⟨2, 0, paths.getD k [], w.2.1, [], w.2.2 ++ [-1]⟩
          have hw := cons_leaves (ds := ds) (out := (addF w.1 ⟨2, 0, paths.getD k [], w.2.1, [], w.2.2 ++ [-1]⟩).1.out) (j0 := none) h.ty ha hD hcs hgd i3 (fun z hz => (((i8 z hz).leaves hm2).mono hpre (i8 z hz).idx))
            ⟨fun _ => hall, fun _ => rfl⟩ (fun j hj => by cases hj) o
          rw [← hw]
          constructor
          · rintro ⟨j, hj, hl⟩
            obtain ⟨z, hz, rfl⟩ := (hkid j).1 hj
            exact .inl ⟨z, hz, hl⟩
          · rintro (⟨z, hz, hl⟩ | ⟨j, hj, _⟩)
            · exact ⟨z.2, (hkid _).2 ⟨z, hz, rfl⟩, hl⟩
            · cases hj
/-! ### What the leaves tell -/
theorem sem_none {vs : List Val} : ∀ {b : Nat} {rows : List (List Pat)}, Sem (enumR b rows) vs none ↔ ∀ r ∈ rows, ¬ matL r vs
  | b, [] => ⟨fun _ r hr => (by cases hr), fun _ => rfl⟩
  | b, r :: rows => by
    rw [enumR, Sem, sem_none (b := b + 1) (rows := rows)]
    constructor
    · rintro (⟨_, h⟩ | ⟨h1, h2⟩) r' hr'
      · cases h
      · rcases List.mem_cons.1 hr' with rfl | hr'
        · exact h1
        · exact h2 r' hr'
    · intro h
      exact .inr ⟨h r (List.mem_cons_self ..), fun r' hr' => h r' (List.mem_cons_of_mem _ hr')⟩
theorem sem_some {vs : List Val} {k : Nat} : ∀ {b : Nat} {rows : List (List Pat)}, Sem (enumR b rows) vs (some (b + k)) ↔ ∃ r, rows[k]? = some r ∧ matL r vs ∧ ∀ r' ∈ rows.take k, ¬ matL r' vs := by
  induction k with
  | zero =>
    intro b rows
    cases rows with
    | nil => exact ⟨fun h => (by cases h), fun ⟨r, h, _⟩ => by simp at h⟩
    | cons r rows =>
      rw [enumR, Sem]
      constructor
      · rintro (⟨h, _⟩ | ⟨_, h⟩)
        · exact ⟨r, rfl, h, fun r' hr' => by simp at hr'⟩
        · exfalso
          have key : ∀ {c : Nat} {l : List (List Pat)}, b < c → ¬ Sem (enumR c l) vs (some (b + 0)) := by
            intro c l hbc
            induction l generalizing c with
            | nil => intro h; cases h
            | cons x l ih =>
              rw [enumR, Sem]
              rintro (⟨_, h⟩ | ⟨_, h⟩)
              · injection h with h
                simp only at h
                omega
              · exact ih (Nat.lt_succ_of_lt hbc) h
          exact key (Nat.lt_succ_self b) h
      · rintro ⟨r', h, hm, _⟩
        simp at h
        subst h
        exact .inl ⟨hm, rfl⟩
  | succ k ih =>
    intro b rows
    cases rows with
    | nil => exact ⟨fun h => (by cases h), fun ⟨r, h, _⟩ => by simp at h⟩
    | cons r rows =>
      rw [enumR, Sem, show b + (k + 1) = b + 1 + k by omega, ih]
      constructor
      · rintro (⟨_, h⟩ | ⟨h1, r', h2, h3, h4⟩)
        · injection h with h
          simp only at h
          omega
        · refine ⟨r', by simpa using h2, h3, fun x hx => ?_⟩
          rw [List.take_succ_cons] at hx
          rcases List.mem_cons.1 hx with rfl | hx
          · exact h1
          · exact h4 x hx
      · rintro ⟨r', h2, h3, h4⟩
        refine .inr ⟨h4 r (by rw [List.take_succ_cons]; exact List.mem_cons_self ..), r', by simpa using h2, h3, fun x hx => h4 x (by rw [List.take_succ_cons]; exact List.mem_cons_of_mem _ hx)⟩
/-- The leaves of a compiled tree. -/
theorem comp_leaves {ds : List DataSig} (hz : Sized ds) {rows : List (List Pat)} (h : (compOut ds rows).2 = 0) : ∃ t τs, checkF ds rows = 0 ∧ buildF 0 ds [] = some t ∧ TabOk t ds ∧ (τs.length : Int) = width rows ∧ Typed ds t rows τs ∧ KidsOk (compOut ds rows).1 ∧ (compOut ds rows).1.length ≠ 0 ∧ (compOut ds rows).1.length ≤ 4096 ∧
    ∀ o, Lf (compOut ds rows).1 ((compOut ds rows).1.length - 1) o ↔ ∃ vs, fitsL ds τs vs ∧ Sem (enumR 0 rows) vs o := by
  have hck := compOut_zero h
  unfold compOut at h ⊢
  rw [if_neg (by simpa using hck)] at h ⊢
  obtain ⟨t, hb⟩ := check_build hck
  rw [hb] at h ⊢
  simp only at h ⊢
  by_cases hfull : (compF t ds rows).1.full = true
  · rw [if_pos hfull] at h; exact absurd h (by decide)
  rw [if_neg hfull]
  simp only
  have hok := tabOk_of hb (check_parts hck hb).1 hz
  obtain ⟨τs, hτ, hT⟩ := typed_of hck hb (nbad_any hck)
  have hpre := comp_pre hck hb hτ hT
  obtain ⟨h1, _, h3⟩ := buildM_leaves hok 401 ⟨[], 0, false⟩ _ _ _ hpre hT.good ⟨rfl, fun i n hn => by simp at hn⟩
  have hke := buildM_keeps hok 401 ⟨[], 0, false⟩ _ _ _ hpre rfl
  change BOk (compF t ds rows).1 at h1
  change Built ds τs (enumR 0 rows) (compF t ds rows).1 (compF t ds rows).2 at h3
  have hko : (compF t ds rows).1.out.length + 0 ≤ (compF t ds rows).1.many + 0 := hke.out
  have hm : (compF t ds rows).1.many ≤ 4096 := by
    rw [h1.full] at hfull
    simpa using hfull
  have hi := h3.idx
  have hl := h3.leaves hm
  refine ⟨t, τs, hck, rfl, hok, hτ, hT, ?_⟩
  generalize compF t ds rows = q at h1 hm hi hl hko ⊢
  have hlen : (q.1.out.take (q.2 + 1)).length = q.2 + 1 := by rw [List.length_take]; omega
  have hp : q.1.out.take (q.2 + 1) <+: q.1.out := List.take_prefix _ _
  refine ⟨fun i n hn => h1.kids i n ?_, by omega, by omega, fun o => ?_⟩
  · obtain ⟨c, hc⟩ := hp
    rw [← hc, List.getElem?_append_left (List.getElem?_eq_some_iff.1 hn).1]
    exact hn
  · rw [hlen, Nat.add_sub_cancel, ← hl o]
    exact ⟨fun h => h.mono hp, fun h => h.back hp (by omega)⟩
end Go.PM
namespace Go.PM
open Go.VL
def markB (k : Nat) (m : List Bool) (y : Int) : List Bool := if m.getD k false = true ∧ 0 ≤ y ∧ y < k then m.set y.toNat true else m
def kidsAt (t : List MNode) (k : Nat) : List Int := match t[k]? with | some n => n.kids | none => []
def reachDown (t : List MNode) : Nat → List Bool → List Bool
  | 0, m => m
  | k + 1, m => reachDown t k ((kidsAt t k).foldl (markB k) m)
def reachF (t : List MNode) : List Bool := if t.length = 0 then [] else reachDown t t.length ((List.replicate t.length false).set (t.length - 1) true)
inductive Rch (t : List MNode) (root : Nat) : Nat → Prop where
  | refl : Rch t root root
  | step {i j : Nat} : Rch t root i → (j : Int) ∈ kidsAt t i → j < i → Rch t root j
theorem getD_set_b {m : List Bool} {i j : Nat} {b : Bool} (hi : i < m.length) : (m.set i b).getD j false = if i = j then b else m.getD j false := by
  simp only [List.getD_eq_getElem?_getD, List.getElem?_set]
  by_cases h : i = j
  · subst h; simp [hi]
  · simp [h]
theorem mark_len (k : Nat) : ∀ (kids : List Int) (m : List Bool), (kids.foldl (markB k) m).length = m.length
  | [], m => rfl
  | y :: kids, m => by
    rw [List.foldl_cons, mark_len k kids]
    unfold markB
    split <;> simp
theorem mark_spec (k : Nat) : ∀ (kids : List Int) (m : List Bool), k < m.length →
    (kids.foldl (markB k) m).getD k false = m.getD k false ∧ (∀ j, m.getD j false = true → (kids.foldl (markB k) m).getD j false = true) ∧
    (∀ j, (kids.foldl (markB k) m).getD j false = true → m.getD j false = true ∨ (m.getD k false = true ∧ (j : Int) ∈ kids ∧ j < k)) ∧ (m.getD k false = true → ∀ j : Nat, (j : Int) ∈ kids → j < k → (kids.foldl (markB k) m).getD j false = true) ∧ ∀ j, k ≤ j → (kids.foldl (markB k) m).getD j false = m.getD j false
  | [], m, _ => ⟨rfl, fun _ h => h, fun _ h => .inl h, fun _ j h => by simp at h, fun _ _ => rfl⟩
  | y :: kids, m, hk => by
    have hl : (markB k m y).length = m.length := by unfold markB; split <;> simp
    obtain ⟨h1, h2, h3, h4, h5⟩ := mark_spec k kids (markB k m y) (by omega)
    have hm : ∀ j, (markB k m y).getD j false = if (m.getD k false = true ∧ 0 ≤ y ∧ y < k) ∧ y.toNat = j then true else m.getD j false := fun j => by
      unfold markB
      by_cases hc : m.getD k false = true ∧ 0 ≤ y ∧ y < k
      · rw [if_pos hc, getD_set_b (by omega)]
        by_cases hj : y.toNat = j
        · rw [if_pos hj, if_pos ⟨hc, hj⟩]
        · rw [if_neg hj, if_neg fun h => hj h.2]
      · rw [if_neg hc, if_neg fun h => hc h.1]
    have hkk : (markB k m y).getD k false = m.getD k false := by
      rw [hm, if_neg]
      rintro ⟨⟨_, h, h'⟩, h''⟩
      omega
    rw [List.foldl_cons]
    refine ⟨by rw [h1, hkk], fun j hj => h2 j ?_, fun j hj => ?_, fun hmk j hj hjk => ?_, fun j hj => ?_⟩
    · rw [hm]
      split
      · rfl
      · exact hj
    · rcases h3 j hj with h | ⟨h, h', h''⟩
      · rw [hm] at h
        split at h
        · rename_i hc
          exact .inr ⟨hc.1.1, by rw [show (j : Int) = y by omega]; exact List.mem_cons_self .., by omega⟩
        · exact .inl h
      · exact .inr ⟨by rwa [hkk] at h, List.mem_cons_of_mem _ h', h''⟩
    · rcases List.mem_cons.1 hj with hj | hj
      · refine h2 j ?_
        rw [hm, if_pos ⟨⟨hmk, by omega, by omega⟩, by omega⟩]
      · exact h4 (by rwa [hkk]) j hj hjk
    · rw [h5 j hj, hm, if_neg]
      rintro ⟨⟨_, h, h'⟩, h''⟩
      omega
theorem rep_false (n j : Nat) : (List.replicate n false).getD j false = false := by
  rw [List.getD_eq_getElem?_getD, List.getElem?_replicate]
  split <;> rfl
theorem kindAt_eq {t : List MNode} {i : Nat} {n : MNode} (h : t[i]? = some n) : (match t[i]? with | some n => n.kind | none => (-1 : Int)) = n.kind := by rw [h]
structure ReachInv (t : List MNode) (k : Nat) (m : List Bool) : Prop where
  len : m.length = t.length
  sound : ∀ j, m.getD j false = true → Rch t (t.length - 1) j
  root : m.getD (t.length - 1) false = true
  closed : ∀ i, k ≤ i → m.getD i false = true → ∀ j : Nat, (j : Int) ∈ kidsAt t i → j < i → m.getD j false = true
theorem reachDown_inv {t : List MNode} : ∀ (k : Nat) (m : List Bool), k ≤ t.length → ReachInv t k m → ReachInv t 0 (reachDown t k m)
  | 0, m, _, h => h
  | k + 1, m, hk, h => by
    have hkl : k < m.length := by rw [h.len]; omega
    obtain ⟨h1, h2, h3, h4, h5⟩ := mark_spec k (kidsAt t k) m hkl
    refine reachDown_inv k _ (by omega) ⟨by rw [mark_len, h.len], fun j hj => ?_, h2 _ h.root, fun i hi hm j hj hji => ?_⟩
    · rcases h3 j hj with h' | ⟨h', h'', h'''⟩
      · exact h.sound j h'
      · exact .step (h.sound k h') h'' h'''
    · rw [h5 i hi] at hm
      rcases Nat.eq_or_lt_of_le hi with rfl | hi
      · exact h4 hm j hj hji
      · exact h2 j (h.closed i hi hm j hj hji)
theorem reach_law {t : List MNode} (ht : t.length ≠ 0) : (reachF t).length = t.length ∧ ∀ j, (reachF t).getD j false = true ↔ Rch t (t.length - 1) j := by
  unfold reachF
  rw [if_neg ht]
  have h0 : ReachInv t t.length ((List.replicate t.length false).set (t.length - 1) true) := by
    refine ⟨by simp, fun j hj => ?_, ?_, fun i hi hm => ?_⟩
    · rw [getD_set_b (by simp; omega)] at hj
      split at hj
      · rename_i h; rw [← h]; exact .refl
      · rw [rep_false] at hj; cases hj
    · rw [getD_set_b (by simp; omega), if_pos rfl]
    · rw [getD_set_b (by simp; omega)] at hm
      split at hm
      · omega
      · rw [rep_false] at hm; cases hm
  have h := reachDown_inv t.length _ (Nat.le_refl _) h0
  refine ⟨h.len, fun j => ⟨h.sound j, fun hr => ?_⟩⟩
  induction hr with
  | refl => exact h.root
  | step _ hk hlt ih => exact h.closed _ (Nat.zero_le _) ih _ hk hlt
theorem Rch.head {t : List MNode} {i j l : Nat} (hk : (j : Int) ∈ kidsAt t i) (hlt : j < i) (h : Rch t j l) : Rch t i l := by
  induction h with
  | refl => exact .step .refl hk hlt
  | step _ h1 h2 ih => exact .step ih h1 h2
def LeafAt (t : List MNode) (j : Nat) (o : Option Nat) : Prop := ∃ n, t[j]? = some n ∧ ((o = none ∧ n.kind = 0) ∨ ∃ k : Nat, o = some k ∧ n.kind = 1 ∧ n.row = k)
theorem kidsAt_eq {t : List MNode} {i : Nat} {n : MNode} (h : t[i]? = some n) : kidsAt t i = n.kids := by rw [kidsAt, h]
theorem Lf_reach {t : List MNode} {i : Nat} {o : Option Nat} : Lf t i o ↔ ∃ j, Rch t i j ∧ LeafAt t j o := by
  constructor
  · intro h
    induction h with
    | fail h1 h2 => exact ⟨_, .refl, _, h1, .inl ⟨rfl, h2⟩⟩
    | row h1 h2 h3 => exact ⟨_, .refl, _, h1, .inr ⟨_, rfl, h2, h3⟩⟩
    | kid h1 h2 h3 _ ih =>
      obtain ⟨j, hr, hl⟩ := ih
      exact ⟨j, hr.head (by rw [kidsAt_eq h1]; exact h2) h3, hl⟩
  · rintro ⟨j, hr, n, hn, hl⟩
    have hj : Lf t j o := by
      rcases hl with ⟨rfl, hk⟩ | ⟨k, rfl, hk, hrow⟩
      · exact .fail hn hk
      · exact .row hn hk hrow
    clear hn hl
    induction hr with
    | refl => exact hj
    | step h1 h2 h3 ih =>
      refine ih ?_
      rename_i i' j'
      cases hi : t[i']? with
      | none => rw [kidsAt, hi] at h2; cases h2
      | some n' => rw [kidsAt_eq hi] at h2; exact .kid hi h2 h3 hj
/-- All nodes that come are of a kind. -/
theorem buildM_all {P : MNode → Prop} (p0 : P failN) (p1 : ∀ k, P (rowN k)) (p2 : ∀ path names kids, P ⟨2, 0, path, names, [], kids⟩) (p3 : ∀ path words kids, P ⟨3, 0, path, [], words, kids⟩) {t : Tab} {ds : List DataSig} (hok : TabOk t ds) :
    ∀ (f : Nat) (s : BSt) (rows : List MRow) (paths : List (List Int)) (τs : List Ty), MPre t f rows paths τs → ∀ n ∈ (buildM t ds f s rows paths).1.out, n ∈ s.out ∨ P n
  | 0, s, rows, paths, τs, h => absurd h.fuel (Nat.not_lt_zero _)
  | f + 1, s, rows, paths, τs, h => by
    have hadd : ∀ {s s1 : BSt} {n : MNode}, (∀ x ∈ s1.out, x ∈ s.out ∨ P x) → P n → ∀ x ∈ (addF s1 n).1.out, x ∈ s.out ∨ P x := fun hs hn x hx => by
      unfold addF at hx
      split at hx
      · exact hs x hx
      · rcases List.mem_append.1 hx with hx | hx
        · exact hs x hx
        · rw [List.mem_singleton] at hx; exact .inr (hx ▸ hn)
    have ht : ∀ x ∈ (tick s).out, x ∈ s.out ∨ P x := fun n hn => .inl hn
    have htr : ∀ {a b c : BSt}, (∀ x ∈ b.out, x ∈ a.out ∨ P x) → (∀ x ∈ c.out, x ∈ b.out ∨ P x) → ∀ x ∈ c.out, x ∈ a.out ∨ P x := fun h1 h2 x hx => (h2 x hx).elim (h1 x) .inr
    rcases buildM_cases (s := s) hok h with ⟨e, _⟩ | ⟨hft, r0, rs, er, ⟨e, _⟩ | ⟨k, p, τ, ha, ⟨hk, e⟩ | ⟨d, g, a, D, hτ, hk, hta, hD, hcl, hcs, e⟩⟩⟩
    · rw [e]; exact hadd ht p0
    · rw [e]; exact hadd ht (p1 _)
    · rw [e, wordsF]
      obtain ⟨_, i2, _⟩ := wordsL_ind (rc := buildM t ds f) (rows := rows) (paths := paths) (k := k) (R := fun a b => ∀ x ∈ b.out, x ∈ a.out ∨ P x) (I := fun _ => True) (Q := fun _ _ _ => True)
        (fun s n hn => .inl hn) (fun a b c h1 h2 => htr h1 h2) (fun _ _ _ _ _ _ => trivial) rows (tick s) [] [] trivial fun r hr s' _ hf => ⟨trivial, buildM_all p0 p1 p2 p3 hok f s' _ _ _ (word_child (isInt (wordAt k r)) h ha hk), trivial⟩
      exact hadd (htr (htr ht i2) (buildM_all p0 p1 p2 p3 hok f _ _ _ _ (other_child h ha))) (p3 _ _ _)
    · subst hτ
      rw [e, consF]
      obtain ⟨_, i2, _⟩ := consL_ind (rc := buildM t ds f) (rows := rows) (paths := paths) (k := k) (R := fun a b => ∀ x ∈ b.out, x ∈ a.out ∨ P x) (I := fun _ => True) (Q := fun _ _ _ => True)
        (fun s n hn => .inl hn) (fun a b c h1 h2 => htr h1 h2) (fun _ _ _ _ _ _ => trivial) D.cons (tick s) [] [] trivial fun c hc s' _ hh => by
          obtain ⟨a', hta'⟩ := hcs c hc
          exact ⟨trivial, buildM_all p0 p1 p2 p3 hok f s' _ _ _ (con_child h ha hta' hh), trivial⟩
      split
      · exact hadd (htr (htr ht i2) (buildM_all p0 p1 p2 p3 hok f _ _ _ _ (other_child h ha))) (p2 _ _ _)
      · exact hadd (htr ht i2) (p2 _ _ _)
/-! ### MatchRows -/
def kindAt (t : List MNode) (j : Nat) : Int := match t[j]? with | some n => n.kind | none => -1
def nrowAt (t : List MNode) (j : Nat) : Int := match t[j]? with | some n => n.row | none => -1
def failsTo (t : List MNode) (m : List Bool) (i : Nat) : Bool := (List.range i).any fun j => m.getD j false && decide (kindAt t j = 0)
def seenTo (t : List MNode) (m : List Bool) (n i : Nat) : List Bool := (List.range n).map fun r : Nat => (List.range i).any fun j => m.getD j false && decide (kindAt t j = 1) && decide (nrowAt t j = r)
theorem range_any_succ (p : Nat → Bool) (i : Nat) : (List.range (i + 1)).any p = ((List.range i).any p || p i) := by
  rw [List.range_succ, List.any_append]
  simp
theorem failsTo_succ (t : List MNode) (m : List Bool) (i : Nat) : failsTo t m (i + 1) = (failsTo t m i || (m.getD i false && decide (kindAt t i = 0))) := range_any_succ _ i
theorem seenTo_skip {t : List MNode} {m : List Bool} {n i : Nat} (h : (m.getD i false && decide (kindAt t i = 1)) = false) : seenTo t m n (i + 1) = seenTo t m n i := by
  unfold seenTo
  refine List.map_congr_left fun r _ => ?_
  rw [range_any_succ, h, Bool.false_and, Bool.or_false]
theorem seenTo_set {t : List MNode} {m : List Bool} {n i r : Nat} (h1 : m.getD i false = true) (h2 : kindAt t i = 1) (h3 : nrowAt t i = r) (hr : r < n) : seenTo t m n (i + 1) = (seenTo t m n i).set r true := by
  unfold seenTo
  refine List.ext_getElem? fun j => ?_
  rw [List.getElem?_set]
  by_cases hj : r = j
  · subst hj
    simp only [List.length_map, List.length_range, hr, if_true, List.getElem?_map, List.getElem?_range hr, Option.map_some, range_any_succ, h1, h2, h3]
    simp
  · rw [if_neg hj]
    simp only [List.getElem?_map]
    by_cases hjn : j < n
    · simp only [List.getElem?_range hjn, Option.map_some, range_any_succ, h1, h2, h3]
      rw [show decide ((r : Int) = (j : Int)) = false from decide_eq_false (by omega)]
      simp
    · rw [List.getElem?_eq_none (by simpa using hjn)]
      rfl
theorem seenTo_zero (t : List MNode) (m : List Bool) (n : Nat) : seenTo t m n 0 = List.replicate n false := by
  unfold seenTo
  rw [List.eq_replicate_iff]
  simp
theorem seenTo_len (t : List MNode) (m : List Bool) (n i : Nat) : (seenTo t m n i).length = n := by simp [seenTo]
theorem any_true {p : Nat → Bool} {n : Nat} : (List.range n).any p = true ↔ ∃ j, j < n ∧ p j = true := by
  rw [List.any_eq_true]
  constructor
  · rintro ⟨j, h1, h2⟩; exact ⟨j, List.mem_range.1 h1, h2⟩
  · rintro ⟨j, h1, h2⟩; exact ⟨j, List.mem_range.2 h1, h2⟩
theorem rows_law {ds : List DataSig} (hz : Sized ds) {rows : List (List Pat)} (h : (compOut ds rows).2 = 0) (hw : 1 ≤ width rows) :
    (redOut ds rows).2 = 0 ∧ (missOut ds rows (width rows)).2 = 0 ∧
    failsTo (compOut ds rows).1 (reachF (compOut ds rows).1) (compOut ds rows).1.length = decide (0 < (missOut ds rows (width rows)).1.length) ∧
    (∀ k, k < rows.length → (seenTo (compOut ds rows).1 (reachF (compOut ds rows).1) rows.length (compOut ds rows).1.length).getD k false = !decide (k ∈ (redOut ds rows).1)) ∧
    ∀ (j : Nat) n, (compOut ds rows).1[j]? = some n → (reachF (compOut ds rows).1).getD j false = true → n.kind = 1 → 0 ≤ n.row ∧ n.row < rows.length := by
  obtain ⟨t, τs, hck, hb, hok, hτ, hT, hkids, hne, _, hlf⟩ := comp_leaves hz h
  have hlaw := tabLaw_of hb
  have hrow0 : ∀ n ∈ (compOut ds rows).1, n.kind = 1 → 0 ≤ n.row := fun n hn => by
    have hsub : ∀ n ∈ (compOut ds rows).1, n ∈ (compF t ds rows).1.out := fun n hn => by
      unfold compOut at hn
      rw [if_neg (by simpa using hck), hb] at hn
      simp only at hn
      split at hn
      · cases hn
      · exact List.mem_of_mem_take hn
    have := buildM_all (P := fun n => n.kind = 1 → 0 ≤ n.row) (fun h => by cases h) (fun k _ => by show (0 : Int) ≤ (k : Int); omega) (fun _ _ _ h => by cases h) (fun _ _ _ h => by cases h) hok 401 ⟨[], 0, false⟩ _ _ _ (comp_pre hck hb hτ hT) n (hsub n hn)
    rcases this with h | h
    · cases h
    · exact h
  obtain ⟨hrl, hrch⟩ := reach_law hne
  have hnb := nbad_any hck
  have hm := missOut_lacks hok hck hnb hb hτ hT (by omega)
  have hred := redOut_ok hck hb
  generalize compOut ds rows = co at *
  refine ⟨by rw [hred], hm.1, ?_, fun k hk => ?_, fun j n hn hr hk1 => ?_⟩
  · rw [Bool.eq_iff_iff, decide_eq_true_eq, hm.2]
    unfold failsTo
    rw [any_true]
    constructor
    · rintro ⟨j, hj, hp⟩
      rw [Bool.and_eq_true, decide_eq_true_eq] at hp
      obtain ⟨n, hn⟩ := get_of_lt co.1 j (by omega)
      have hkn : n.kind = 0 := by have := hp.2; rwa [kindAt, hn] at this
      obtain ⟨vs, hv, hs⟩ := (hlf none).1 (Lf_reach.2 ⟨j, (hrch j).1 hp.1, n, hn, .inl ⟨rfl, hkn⟩⟩)
      exact ⟨vs, hv, sem_none.1 hs⟩
    · rintro ⟨vs, hv, hs⟩
      obtain ⟨j, hr, n, hn, hl⟩ := Lf_reach.1 ((hlf none).2 ⟨vs, hv, sem_none.2 hs⟩)
      rcases hl with ⟨_, hk⟩ | ⟨k, hk, _⟩
      · exact ⟨j, (List.getElem?_eq_some_iff.1 hn).1, by rw [(hrch j).2 hr, show kindAt co.1 j = 0 by rw [kindAt, hn]; exact hk]; rfl⟩
      · cases hk
  · have hget : (seenTo co.1 (reachF co.1) rows.length co.1.length).getD k false = (List.range co.1.length).any fun j => (reachF co.1).getD j false && decide (kindAt co.1 j = 1) && decide (nrowAt co.1 j = k) := by
      unfold seenTo
      rw [List.getD_eq_getElem?_getD, List.getElem?_map, List.getElem?_range hk]
      rfl
    obtain ⟨r, hr⟩ := get_of_lt rows k (by omega)
    have hpre := usePre_of hT hr
    have hnew : ((List.range co.1.length).any fun j => (reachF co.1).getD j false && decide (kindAt co.1 j = 1) && decide (nrowAt co.1 j = k)) = true ↔ New ds τs (rows.take k) r := by
      rw [any_true]
      constructor
      · rintro ⟨j, hj, hp⟩
        rw [Bool.and_eq_true, Bool.and_eq_true, decide_eq_true_eq, decide_eq_true_eq] at hp
        obtain ⟨n, hn⟩ := get_of_lt co.1 j (by omega)
        have hkn : n.kind = 1 := by have := hp.1.2; rwa [kindAt, hn] at this
        have hrn : n.row = k := by have := hp.2; rwa [nrowAt, hn] at this
        obtain ⟨vs, hv, hs⟩ := (hlf (some k)).1 (Lf_reach.2 ⟨j, (hrch j).1 hp.1.1, n, hn, .inr ⟨k, rfl, hkn, hrn⟩⟩)
        rw [show k = 0 + k by omega, sem_some] at hs
        obtain ⟨r', h1, h2, h3⟩ := hs
        rw [hr] at h1
        injection h1 with h1
        subst h1
        exact ⟨vs, hv, h2, h3⟩
      · rintro ⟨vs, hv, h2, h3⟩
        obtain ⟨j, hrj, n, hn, hl⟩ := Lf_reach.1 ((hlf (some k)).2 ⟨vs, hv, by rw [show k = 0 + k by omega, sem_some]; exact ⟨r, hr, h2, h3⟩⟩)
        rcases hl with ⟨h, _⟩ | ⟨k', hk', hkn, hrn⟩
        · cases h
        · injection hk' with hk'
          subst hk'
          exact ⟨j, (List.getElem?_eq_some_iff.1 hn).1, by rw [(hrch j).2 hrj, show kindAt co.1 j = 1 by rw [kindAt, hn]; exact hkn, show nrowAt co.1 j = k by rw [nrowAt, hn]; exact hrn]; simp⟩
    have hmem : k ∈ (redOut ds rows).1 ↔ usefulF t ds fuel0 (rows.take k) r = false := by
      rw [hred]
      show k ∈ redTo t ds rows rows.length ↔ _
      unfold redTo
      rw [List.mem_filter, List.mem_range, List.getD_eq_getElem?_getD, hr, Option.getD_some]
      constructor
      · rintro ⟨_, h⟩; simpa using h
      · intro h; exact ⟨hk, by rw [h]; rfl⟩
    rw [hget, Bool.eq_iff_iff, hnew]
    rw [Bool.not_eq_true', decide_eq_false_iff_not, hmem, Bool.not_eq_false]
    exact ⟨useful_of hok fuel0 _ _ _ hpre, useful_new hok hlaw fuel0 _ _ _ hpre hT.good⟩
  · have h0 := hrow0 n (List.mem_of_getElem? hn) hk1
    obtain ⟨vs, hv, hs⟩ := (hlf (some n.row.toNat)).1 (Lf_reach.2 ⟨j, (hrch j).1 hr, n, hn, .inr ⟨n.row.toNat, rfl, hk1, by omega⟩⟩)
    rw [show n.row.toNat = 0 + n.row.toNat by omega, sem_some] at hs
    obtain ⟨r', h1, _⟩ := hs
    have := (List.getElem?_eq_some_iff.1 h1).1
    omega
end Go.PM
