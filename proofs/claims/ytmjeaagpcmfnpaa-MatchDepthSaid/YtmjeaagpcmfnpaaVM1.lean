/- Matching, the plain law: what the builder keeps. -/
import Derived.Test.YtmjeaagpcmfnpaaVD9
set_option linter.unusedVariables false
namespace Go.PM
open Go.VL
def wM : List MRow → Nat
  | [] => 0
  | r :: rs => wL r.2 + wM rs
structure MPre (t : Tab) (f : Nat) (rows : List MRow) (paths : List (List Int)) (τs : List Ty) : Prop where
  ty : ∀ r ∈ rows, rowT t τs r.2
  plen : paths.length = τs.length
  len : rows.length ≤ 64
  fuel : wM rows < f
  wide : τs.length + 401 * wM rows ≤ 400000
  deep : ∀ p ∈ paths, p ≠ [] ∧ p.length + wM rows ≤ 1000
theorem split_at {α : Type} {l : List α} {k : Nat} {x : α} (h : l[k]? = some x) : l = l.take k ++ x :: l.drop (k + 1) := by
  rw [← drop_cons h, List.take_append_drop]
theorem wL_at {l : List Pat} {k : Nat} {p : Pat} (h : l[k]? = some p) : wL l = wL (l.take k) + (wP p + wL (l.drop (k + 1))) := by
  conv => lhs; rw [split_at h, wL_append, wL]
theorem wP_pos {p : Pat} (h : free p = false) : wP p = 1 + wL p.args := wP_con h
/-- What a kept row becomes. -/
def newPats (k many : Nat) (p : Pat) (l : List Pat) : List Pat := l.take k ++ (l.drop (k + 1) ++ (if free p = false ∧ p.kind = 3 then p.args else anysL many))
theorem newPats_w {l : List Pat} {k many : Nat} {p : Pat} (h : l[k]? = some p) : wL (newPats k many p l) ≤ wL l ∧ (free p = false → wL (newPats k many p l) + 1 ≤ wL l) := by
  have h1 := wL_at h
  unfold newPats
  rw [wL_append, wL_append]
  by_cases hc : free p = false ∧ p.kind = 3
  · rw [if_pos hc]
    have := wP_pos hc.1
    exact ⟨by omega, fun _ => by omega⟩
  · rw [if_neg hc, wL_anys]
    exact ⟨by omega, fun hf => by have := wP_pos hf; omega⟩
theorem narrowM_cons (k : Nat) (is : Pat → Bool) (many : Nat) (r : MRow) (rows : List MRow) {p : Pat} (h : r.2[k]? = some p) :
    narrowM k is many (r :: rows) = if (free p || is p) = true then (r.1, newPats k many p r.2) :: narrowM k is many rows else narrowM k is many rows := by
  have hg : r.2.getD k anyP = p := by simp [h]
  unfold narrowM newPats
  rw [List.filterMap_cons]
  simp only [hg]
  by_cases hc : (free p || is p) = true
  · rw [if_pos hc, if_pos hc]
  · rw [if_neg hc, if_neg hc]
theorem narrowM_w {k : Nat} {is : Pat → Bool} {many : Nat} : ∀ {rows : List MRow}, (∀ r ∈ rows, k < r.2.length) → wM (narrowM k is many rows) ≤ wM rows
  | [], _ => Nat.le_refl _
  | r :: rows, h => by
    obtain ⟨p, hp⟩ := get_of_lt r.2 k (by have := h r (List.mem_cons_self ..); omega)
    have ih := narrowM_w (is := is) (many := many) fun r' hr' => h r' (List.mem_cons_of_mem _ hr')
    have hn := newPats_w (many := many) hp
    rw [narrowM_cons k is many r rows hp]
    split
    · show wL (newPats k many p r.2) + wM (narrowM k is many rows) ≤ wL r.2 + wM rows
      omega
    · show wM (narrowM k is many rows) ≤ wL r.2 + wM rows
      omega
theorem narrowM_w1 {k : Nat} {is : Pat → Bool} {many : Nat} {r0 : MRow} {rs : List MRow} {p0 : Pat} (h : ∀ r ∈ r0 :: rs, k < r.2.length) (hp : r0.2[k]? = some p0) (hf : free p0 = false) : wM (narrowM k is many (r0 :: rs)) + 1 ≤ wM (r0 :: rs) := by
  have hw := narrowM_w (is := is) (many := many) fun r' hr' => h r' (List.mem_cons_of_mem _ hr')
  have hn := (newPats_w (many := many) hp).2 hf
  have h1 := wL_at hp
  have h2 := wP_pos hf
  rw [narrowM_cons k is many r0 rs hp]
  split
  · show wL (newPats k many p0 r0.2) + wM (narrowM k is many rs) + 1 ≤ wL r0.2 + wM rs
    omega
  · show wM (narrowM k is many rs) + 1 ≤ wL r0.2 + wM rs
    omega
theorem rowT.take {t : Tab} : ∀ {τs : List Ty} {l : List Pat} (k : Nat), rowT t τs l → rowT t (τs.take k) (l.take k)
  | _, _, 0, _ => by simp only [List.take_zero]; trivial
  | [], [], _ + 1, _ => trivial
  | τ :: τs, p :: l, k + 1, h => ⟨h.1, rowT.take k h.2⟩
  | [], _ :: _, _ + 1, h => h.elim
  | _ :: _, [], _ + 1, h => h.elim
theorem rowT.drop {t : Tab} : ∀ {τs : List Ty} {l : List Pat} (k : Nat), rowT t τs l → rowT t (τs.drop k) (l.drop k)
  | _, _, 0, h => h
  | [], [], _ + 1, _ => trivial
  | τ :: τs, p :: l, k + 1, h => rowT.drop k h.2
  | [], _ :: _, _ + 1, h => h.elim
  | _ :: _, [], _ + 1, h => h.elim
def newTys (k : Nat) (σs τs : List Ty) : List Ty := τs.take k ++ (τs.drop (k + 1) ++ σs)
theorem newTys_len {k : Nat} {σs τs : List Ty} (h : k < τs.length) : (newTys k σs τs).length = τs.length - 1 + σs.length := by
  unfold newTys
  rw [List.length_append, List.length_append, List.length_take, List.length_drop]
  omega
theorem narrowM_ty {t : Tab} {k : Nat} {is : Pat → Bool} {τ : Ty} {τs σs : List Ty} {rows : List MRow} (hk : τs[k]? = some τ) (hT : ∀ r ∈ rows, rowT t τs r.2)
    (h : ∀ p, wt t τ p → free p = false → is p = true → rowT t σs (if p.kind = 3 then p.args else anysL σs.length)) : ∀ r ∈ narrowM k is σs.length rows, rowT t (newTys k σs τs) r.2 := fun r hr => by
  obtain ⟨z, hz, hzr⟩ := List.mem_filterMap.1 hr
  have hTz := hT z hz
  have hlt : k < z.2.length := by rw [hTz.len]; exact (List.getElem?_eq_some_iff.1 hk).1
  obtain ⟨p, hp⟩ := get_of_lt z.2 k (by omega)
  have hg : z.2.getD k anyP = p := by simp [hp]
  simp only [hg] at hzr
  have hw : wt t τ p := rowT.get hTz k τ p hk hp
  by_cases hc : (free p || is p) = true
  · rw [if_pos hc] at hzr
    injection hzr with hzr
    subst hzr
    refine (hTz.take k).append ((hTz.drop (k + 1)).append ?_)
    cases hf : free p with
    | true =>
      rw [if_neg (by simp)]
      exact rowT.anys σs
    | false =>
      rw [hf, Bool.false_or] at hc
      have := h p hw hf hc
      by_cases hk3 : p.kind = 3
      · rw [if_pos ⟨rfl, hk3⟩]
        rwa [if_pos hk3] at this
      · rw [if_neg fun h => hk3 h.2]
        rwa [if_neg hk3] at this
  · rw [if_neg hc] at hzr
    cases hzr
theorem belowM_len {paths : List (List Int)} {k many : Nat} (h : k < paths.length) : (belowM paths k many).length = paths.length - 1 + many := by
  unfold belowM
  rw [List.length_append, List.length_append, List.length_take, List.length_drop, List.length_map, List.length_range]
  omega
theorem belowM_mem {paths : List (List Int)} {k many : Nat} {p : List Int} (hk : k < paths.length) (h : p ∈ belowM paths k many) : p ∈ paths ∨ ∃ q ∈ paths, ∃ i : Nat, p = q ++ [(i : Int)] := by
  unfold belowM at h
  rcases List.mem_append.1 h with h | h
  · exact .inl (List.mem_of_mem_take h)
  rcases List.mem_append.1 h with h | h
  · exact .inl (List.mem_of_mem_drop h)
  · obtain ⟨i, _, rfl⟩ := List.mem_map.1 h
    refine .inr ⟨paths.getD k [], ?_, i, rfl⟩
    rw [List.getD_eq_getElem?_getD, List.getElem?_eq_getElem hk]
    exact List.getElem_mem _
/-- What a builder's step finds at the head. -/
structure AtHead (t : Tab) (rows : List MRow) (τs : List Ty) (k : Nat) (p : Pat) (τ : Ty) : Prop where
  ne : ∃ r0 rs, rows = r0 :: rs ∧ r0.2[k]? = some p
  idx : idxOf nf (headPats rows) = k
  free : free p = false
  ty : τs[k]? = some τ
  wt : wt t τ p
  all : ∀ r ∈ rows, k < r.2.length
theorem atHead_of {t : Tab} {f : Nat} {rows : List MRow} {paths : List (List Int)} {τs : List Ty} (h : MPre t f rows paths τs) (hne : rows.length ≠ 0) (hi : ¬ idxOf nf (headPats rows) < 0) : ∃ k p τ, AtHead t rows τs k p τ := by
  cases rows with
  | nil => exact absurd rfl hne
  | cons r0 rs =>
    rcases idxOf_range nf (headPats (r0 :: rs)) with ⟨h1, _⟩ | ⟨k, p, h1, h2, h3, h4⟩
    · rw [h1] at hi; exact absurd (by decide) hi
    · have h2' : r0.2[k]? = some p := h2
      have hT := h.ty r0 (List.mem_cons_self ..)
      have hlt : k < τs.length := by rw [← hT.len]; exact (List.getElem?_eq_some_iff.1 h2').1
      refine ⟨k, p, τs[k], ⟨r0, rs, rfl, h2'⟩, h1, by simpa [nf] using h3, List.getElem?_eq_getElem hlt, rowT.get hT k _ p (List.getElem?_eq_getElem hlt) h2', fun r hr => ?_⟩
      rw [(h.ty r hr).len]
      exact hlt
theorem MPre.child {t : Tab} {f : Nat} {rows : List MRow} {paths : List (List Int)} {τs σs : List Ty} {k : Nat} {p : Pat} {τ : Ty} {is : Pat → Bool} (h : MPre t (f + 1) rows paths τs) (ha : AtHead t rows τs k p τ) (hσ : σs.length ≤ 400)
    (hty : ∀ p, wt t τ p → Go.PM.free p = false → is p = true → rowT t σs (if p.kind = 3 then p.args else anysL σs.length)) : MPre t f (narrowM k is σs.length rows) (belowM paths k σs.length) (newTys k σs τs) := by
  obtain ⟨⟨r0, rs, rfl, hp0⟩, _, hf, hτ, hw, hall⟩ := ha
  have hlt : k < τs.length := (List.getElem?_eq_some_iff.1 hτ).1
  have hw1 := narrowM_w1 (is := is) (many := σs.length) hall hp0 hf
  have hfu := h.fuel
  have hwi := h.wide
  have hpl := h.plen
  refine ⟨narrowM_ty hτ h.ty hty, ?_, ?_, by omega, ?_, fun q hq => ?_⟩
  · rw [belowM_len (by omega), newTys_len hlt]; omega
  · exact Nat.le_trans (List.length_filterMap_le _ _) h.len
  · rw [newTys_len hlt]; omega
  · rcases belowM_mem (by omega) hq with hq | ⟨q', hq', i, rfl⟩
    · exact ⟨(h.deep q hq).1, by have := (h.deep q hq).2; omega⟩
    · exact ⟨by simp, by have := (h.deep q' hq').2; rw [List.length_append, List.length_singleton]; omega⟩
/-- A constructor that occurs. -/
theorem hasCon_spec {t : Tab} {rows : List MRow} {k d : Nat} {g : Str → Nat → Ty} {τs : List Ty} {c : ConSig} {a : Nat} (hT : ∀ r ∈ rows, rowT t τs r.2) (hτ : τs[k]? = some (.dat d g)) (hc : tget t c.name = some (d, a, c.args.length)) (h : hasCon rows k c.name = true) : c.args.length ≤ 400 := by
  obtain ⟨r, hr, hb⟩ := List.any_eq_true.1 h
  have hTr := hT r hr
  obtain ⟨p, hp⟩ := get_of_lt r.2 k (by rw [hTr.len]; have := (List.getElem?_eq_some_iff.1 hτ).1; omega)
  have hg : r.2.getD k anyP = p := by simp [hp]
  simp only [hg, Bool.and_eq_true, Bool.not_eq_true', isCon, decide_eq_true_eq] at hb
  rcases rowT.get hTr k _ p hτ hp with h1 | ⟨_, ⟨a', h1⟩, h2, _⟩
  · rw [hb.1] at h1; cases h1
  · rw [hb.2, hc] at h1
    injection h1 with h1
    injection h1 with _ h1
    injection h1 with _ h1
    omega
theorem con_child {t : Tab} {f : Nat} {rows : List MRow} {paths : List (List Int)} {τs : List Ty} {k d a : Nat} {g : Str → Nat → Ty} {p : Pat} {c : ConSig} (h : MPre t (f + 1) rows paths τs) (ha : AtHead t rows τs k p (.dat d g)) (hc : tget t c.name = some (d, a, c.args.length)) (hh : hasCon rows k c.name = true) :
    MPre t f (narrowM k (isCon c.name) c.args.length rows) (belowM paths k c.args.length) (newTys k (argT (g c.name) c.args.length) τs) := by
  have hl := argT_len (g c.name) c.args.length
  have h4 := hasCon_spec h.ty ha.ty hc hh
  have := h.child (σs := argT (g c.name) c.args.length) (is := isCon c.name) ha (by omega) fun q hq hqf hqi => by
    have hn : q.name = c.name := by simpa [isCon] using hqi
    have hargs := rowT.args hq hqf
    rcases hq with h1 | ⟨h3, ⟨a', h1⟩, _, _⟩
    · rw [hqf] at h1; cases h1
    · rw [if_pos h3]
      rw [hn, hc] at h1
      injection h1 with h1
      injection h1 with _ h1
      injection h1 with _ h1
      rw [hn, ← h1] at hargs
      exact hargs
  rwa [hl] at this
theorem word_child {t : Tab} {f : Nat} {rows : List MRow} {paths : List (List Int)} {τs : List Ty} {k : Nat} {p : Pat} {τ : Ty} (is : Pat → Bool) (h : MPre t (f + 1) rows paths τs) (ha : AtHead t rows τs k p τ) (hk : p.kind = 2) : MPre t f (narrowM k is 0 rows) (belowM paths k 0) (newTys k [] τs) :=
  h.child (σs := []) (is := is) ha (Nat.zero_le _) fun q hq hqf _ => by
    have := int_ty ha.wt hk hq hqf
    rw [if_neg (by omega)]
    trivial
theorem other_child {t : Tab} {f : Nat} {rows : List MRow} {paths : List (List Int)} {τs : List Ty} {k : Nat} {p : Pat} {τ : Ty} (h : MPre t (f + 1) rows paths τs) (ha : AtHead t rows τs k p τ) : MPre t f (narrowM k (fun _ => false) 0 rows) (belowM paths k 0) (newTys k [] τs) :=
  h.child (σs := []) (is := fun _ => false) ha (Nat.zero_le _) fun q hq hqf hi => by cases hi

/-! ### The counters -/
structure BInv (s : BSt) : Prop where
  out : s.out.length ≤ s.many
  full : s.full = decide (4096 < s.many)
theorem tick_inv {s : BSt} (h : BInv s) : BInv (tick s) := by
  refine ⟨by have := h.out; show s.out.length ≤ s.many + 1; omega, ?_⟩
  show (s.full || decide (4096 < s.many + 1)) = decide (4096 < s.many + 1)
  rw [h.full]
  by_cases h1 : 4096 < s.many
  · rw [decide_eq_true h1, decide_eq_true (by omega)]; rfl
  · rw [decide_eq_false h1, Bool.false_or]
theorem addF_many (s : BSt) (n : MNode) : (addF s n).1.many = s.many ∧ (addF s n).1.full = s.full := by
  unfold addF
  split <;> exact ⟨rfl, rfl⟩
theorem addF_spec (s : BSt) (n : MNode) : ∃ x, (addF s n).1.out = s.out ++ x ∧ x.length ≤ 1 ∧ (addF s n).1.out[(addF s n).2]? = some n := by
  unfold addF
  rcases idxOf_range (fun x => sameN x n) s.out with ⟨h1, h2⟩ | ⟨k, y, h1, h2, h3, h4⟩
  · rw [if_neg (by omega)]
    exact ⟨[n], rfl, Nat.le_refl _, by simp⟩
  · rw [if_pos (by omega), h1]
    refine ⟨[], by simp, Nat.zero_le _, ?_⟩
    show s.out[(k : Int).toNat]? = some n
    rw [Int.toNat_natCast, h2, sameN_iff.1 h3]
theorem addF_tick {s : BSt} (n : MNode) (h : s.out.length + 1 ≤ s.many) (hf : s.full = decide (4096 < s.many)) : BInv (addF s n).1 := by
  obtain ⟨x, h1, h2, _⟩ := addF_spec s n
  obtain ⟨h3, h4⟩ := addF_many s n
  refine ⟨?_, by rw [h3, h4, hf]⟩
  rw [h1, h3, List.length_append]
  omega
/-- What a step of the builder keeps. -/
structure Keeps (f : Nat) (s s' : BSt) : Prop where
  out : s'.out.length + s.many ≤ s'.many + s.out.length
  mono : s.many + 1 ≤ s'.many
  full : s'.full = decide (4096 < s'.many)
  fast : s.full = true → s'.many = s.many + 1
  slow : s.full = false → s'.many ≤ 4097 + f * 1100
end Go.PM
