import Derived.Test.YtpkbgamoboojaaaGreatDZ
set_option linter.all false
open List renaming mem_map → Ya, mem_append → Yb, getElem?_eq_some_iff → Yc, mem_cons_of_mem → Yd, mem_singleton → Ye, mem_of_getElem? → Yf, mem_cons_self → Yg, length_take → Yh, length_map → Yi, length_cons → Yj, length_append → Yk, prefix_rfl → Yl, mem_cons → Ym, nil_append → Yn, length_singleton → Yo, getElem?_append_left → Yp, nodup_nil → Yq, length_drop → Yr, getD_eq_getElem?_getD → Ys, getElem?_map → Yt, getElem?_eq_getElem → Yu, mem_filter → Yv, mem_of_mem_take → Yw, mem_of_mem_drop → Yx, any_eq_true → Yy, eq_nil_of_length_eq_zero → Yz, any_eq_false → Yaa, cons_append → Yab, prefix_append → Yac, take_prefix → Yad, take_append_drop → Yae, getElem_mem → Yaf, filter_cons → Yag, getElem?_eq_none → Yah, take_succ_cons → Yai, pairwise_append → Yaj, sublist_append_left → Yak, getElem?_append_right → Yal
open Nat renaming le_refl → Yam, not_lt_zero → Yan, zero_le → Yao, lt_succ_self → Yap, add_sub_cancel → Yaq
open Int renaming toNat_natCast → Yar, le_refl → Yas
section
namespace Go.PM
open Go.VL
def wM : List MRow -> Nat
 | [] => 0
 | r :: rs => wL r.2 + wM rs
structure MPre (t : Tab) (f : Nat) (rows : List MRow) (paths : List (List Int)) (τs : List Ty) : Prop where
 ty : ∀ r ∈ rows, rowT t τs r.2
 plen : paths.length = τs.length
 len : rows.length <= 64
 fuel : wM rows < f
 wide : τs.length + 401 * wM rows <= 400000
 deep : ∀ p ∈ paths, p ≠ [] /\ p.length + wM rows <= 1000
theorem split_at {α : Type} {l : List α} {k : Nat} {x : α} (h : l[k]? = some x) : l = l.take k ++ x :: l.drop (k + 1) := by
 rw [<- drop_cons h, Yae]
theorem wL_at {l : List Pat} {k : Nat} {p : Pat} (h : l[k]? = some p) : wL l = wL (l.take k) + (wP p + wL (l.drop (k + 1))) := by
 conv => lhs; rw [split_at h, wL_append, wL]
theorem wP_pos {p : Pat} (h : free p = false) : wP p = 1 + wL p.args := wP_con h
def newPats (k many : Nat) (p : Pat) (l : List Pat) : List Pat := l.take k ++ (l.drop (k + 1) ++ (if free p = false /\ p.kind = 3 then p.args else anysL many))
theorem newPats_w {l : List Pat} {k many : Nat} {p : Pat} (h : l[k]? = some p) : wL (newPats k many p l) <= wL l /\ (free p = false -> wL (newPats k many p l) + 1 <= wL l) := by
 have h1 := wL_at h
 unfold newPats
 rw [wL_append, wL_append]
 by_cases hc : free p = false /\ p.kind = 3
 .rw [if_pos hc]
  have := wP_pos hc.1
  exact ⟨by omega, λ _ => by omega⟩
 rw [if_neg hc, wL_anys]
 exact ⟨by omega, λ hf => by have := wP_pos hf; omega⟩
theorem narrowM_cons (k : Nat) (is : Pat -> Bool) (many : Nat) (r : MRow) (rows : List MRow) {p : Pat} (h : r.2[k]? = some p) :
  narrowM k is many (r :: rows) = if (free p || is p) = true then (r.1, newPats k many p r.2) :: narrowM k is many rows else narrowM k is many rows := by
 have hg : r.2.getD k anyP = p := by simp [h]
 unfold narrowM newPats
 rw [List.filterMap_cons]
 simp only [hg]
 by_cases hc : (free p || is p) = true
 .rw [if_pos hc, if_pos hc]
 rw [if_neg hc, if_neg hc]
theorem narrowM_w {k : Nat} {is : Pat -> Bool} {many : Nat} : ∀ {rows : List MRow}, (∀ r ∈ rows, k < r.2.length) -> wM (narrowM k is many rows) <= wM rows
 | [], _ => Yam _
 | r :: rows, h => by
  obtain ⟨p, hp⟩ := get_of_lt r.2 k (by have := h r (Yg ..); omega)
  have ih := narrowM_w (is := is) (many := many) λ r' hr' => h r' (Yd _ hr')
  have hn := newPats_w (many := many) hp
  rw [narrowM_cons k is many r rows hp]
  split
  .show wL (newPats k many p r.2) + wM (narrowM k is many rows) <= wL r.2 + wM rows
   omega
  show wM (narrowM k is many rows) <= wL r.2 + wM rows
  omega
theorem narrowM_w1 {k : Nat} {is : Pat -> Bool} {many : Nat} {r0 : MRow} {rs : List MRow} {p0 : Pat} (h : ∀ r ∈ r0 :: rs, k < r.2.length) (hp : r0.2[k]? = some p0) (hf : free p0 = false) : wM (narrowM k is many (r0 :: rs)) + 1 <= wM (r0 :: rs) := by
 have hw := narrowM_w (is := is) (many := many) λ r' hr' => h r' (Yd _ hr')
 have hn := (newPats_w (many := many) hp).2 hf
 have h1 := wL_at hp
 have h2 := wP_pos hf
 rw [narrowM_cons k is many r0 rs hp]
 split
 .show wL (newPats k many p0 r0.2) + wM (narrowM k is many rs) + 1 <= wL r0.2 + wM rs
  omega
 show wM (narrowM k is many rs) + 1 <= wL r0.2 + wM rs
 omega
theorem rowT.take {t : Tab} : ∀ {τs : List Ty} {l : List Pat} (k : Nat), rowT t τs l -> rowT t (τs.take k) (l.take k)
 | _, _, 0, _ => by simp only [List.take_zero]; trivial
 | [], [], _ + 1, _ => trivial
 | τ :: τs, p :: l, k + 1, h => ⟨h.1, rowT.take k h.2⟩
 | [], _ :: _, _ + 1, h => h.elim
 | _ :: _, [], _ + 1, h => h.elim
theorem rowT.drop {t : Tab} : ∀ {τs : List Ty} {l : List Pat} (k : Nat), rowT t τs l -> rowT t (τs.drop k) (l.drop k)
 | _, _, 0, h => h
 | [], [], _ + 1, _ => trivial
 | τ :: τs, p :: l, k + 1, h => rowT.drop k h.2
 | [], _ :: _, _ + 1, h => h.elim
 | _ :: _, [], _ + 1, h => h.elim
def newTys (k : Nat) (σs τs : List Ty) : List Ty := τs.take k ++ (τs.drop (k + 1) ++ σs)
theorem newTys_len {k : Nat} {σs τs : List Ty} (h : k < τs.length) : (newTys k σs τs).length = τs.length - 1 + σs.length := by
 unfold newTys
 rw [Yk, Yk, Yh, Yr]
 omega
theorem narrowM_ty {t : Tab} {k : Nat} {is : Pat -> Bool} {τ : Ty} {τs σs : List Ty} {rows : List MRow} (hk : τs[k]? = some τ) (hT : ∀ r ∈ rows, rowT t τs r.2)
  (h : ∀ p, wt t τ p -> free p = false -> is p = true -> rowT t σs (if p.kind = 3 then p.args else anysL σs.length)) : ∀ r ∈ narrowM k is σs.length rows, rowT t (newTys k σs τs) r.2 := λ r hr => by
 obtain ⟨z, hz, hzr⟩ := List.mem_filterMap.1 hr
 have hTz := hT z hz
 have hlt : k < z.2.length := by rw [hTz.len]; exact (Yc.1 hk).1
 obtain ⟨p, hp⟩ := get_of_lt z.2 k (by omega)
 have hg : z.2.getD k anyP = p := by simp [hp]
 simp only [hg] at hzr
 have hw : wt t τ p := rowT.get hTz k τ p hk hp
 by_cases hc : (free p || is p) = true
 .rw [if_pos hc] at hzr
  injection hzr with hzr
  subst hzr
  refine (hTz.take k).append ((hTz.drop (k + 1)).append ?_)
  cases hf : free p with
  | true =>
   rw [if_neg (by simp)]
   exact rowT.anys σs
  | false =>
   rw [hf, Bool.false_or] at hc
   have := h p hw hf hc
   by_cases hk3 : p.kind = 3
   .rw [if_pos ⟨rfl, hk3⟩]
    rwa [if_pos hk3] at this
   rw [if_neg λ h => hk3 h.2]
   rwa [if_neg hk3] at this
 rw [if_neg hc] at hzr
 cases hzr
theorem belowM_len {paths : List (List Int)} {k many : Nat} (h : k < paths.length) : (belowM paths k many).length = paths.length - 1 + many := by
 unfold belowM
 rw [Yk, Yk, Yh, Yr, Yi, List.length_range]
 omega
theorem belowM_mem {paths : List (List Int)} {k many : Nat} {p : List Int} (hk : k < paths.length) (h : p ∈ belowM paths k many) : p ∈ paths \/ ∃ q ∈ paths, ∃ i : Nat, p = q ++ [(i : Int)] := by
 unfold belowM at h
 rcases Yb.1 h with h | h
 .exact .inl (Yw h)
 rcases Yb.1 h with h | h
 .exact .inl (Yx h)
 obtain ⟨i, _, rfl⟩ := Ya.1 h
 refine .inr ⟨paths.getD k [], ?_, i, rfl⟩
 rw [Ys, Yu hk]
 exact Yaf _
structure AtHead (t : Tab) (rows : List MRow) (τs : List Ty) (k : Nat) (p : Pat) (τ : Ty) : Prop where
 ne : ∃ r0 rs, rows = r0 :: rs /\ r0.2[k]? = some p
 idx : idxOf nf (headPats rows) = k
 free : free p = false
 ty : τs[k]? = some τ
 wt : wt t τ p
 all : ∀ r ∈ rows, k < r.2.length
theorem atHead_of {t : Tab} {f : Nat} {rows : List MRow} {paths : List (List Int)} {τs : List Ty} (h : MPre t f rows paths τs) (hne : rows.length ≠ 0) (hi : ¬ idxOf nf (headPats rows) < 0) : ∃ k p τ, AtHead t rows τs k p τ := by
 cases rows with
 | nil => exact absurd rfl hne
 | cons r0 rs =>
  rcases idxOf_range nf (headPats (r0 :: rs)) with ⟨h1, _⟩ | ⟨k, p, h1, h2, h3, h4⟩
  .rw [h1] at hi; exact absurd (by decide) hi
  have h2' : r0.2[k]? = some p := h2
  have hT := h.ty r0 (Yg ..)
  have hlt : k < τs.length := by rw [<- hT.len]; exact (Yc.1 h2').1
  refine ⟨k, p, τs[k], ⟨r0, rs, rfl, h2'⟩, h1, by simpa [nf] using h3, Yu hlt, rowT.get hT k _ p (Yu hlt) h2', λ r hr => ?_⟩
  rw [(h.ty r hr).len]
  exact hlt
theorem MPre.child {t : Tab} {f : Nat} {rows : List MRow} {paths : List (List Int)} {τs σs : List Ty} {k : Nat} {p : Pat} {τ : Ty} {is : Pat -> Bool} (h : MPre t (f + 1) rows paths τs) (ha : AtHead t rows τs k p τ) (hσ : σs.length <= 400)
  (hty : ∀ p, wt t τ p -> Go.PM.free p = false -> is p = true -> rowT t σs (if p.kind = 3 then p.args else anysL σs.length)) : MPre t f (narrowM k is σs.length rows) (belowM paths k σs.length) (newTys k σs τs) := by
 obtain ⟨⟨r0, rs, rfl, hp0⟩, _, hf, hτ, hw, hall⟩ := ha
 have hlt : k < τs.length := (Yc.1 hτ).1
 have hw1 := narrowM_w1 (is := is) (many := σs.length) hall hp0 hf
 have hfu := h.fuel
 have hwi := h.wide
 have hpl := h.plen
 refine ⟨narrowM_ty hτ h.ty hty, ?_, ?_, by omega, ?_, λ q hq => ?_⟩
 .rw [belowM_len (by omega), newTys_len hlt]; omega
 .exact Nat.le_trans (List.length_filterMap_le _ _) h.len
 .rw [newTys_len hlt]; omega
 rcases belowM_mem (by omega) hq with hq | ⟨q', hq', i, rfl⟩
 .exact ⟨(h.deep q hq).1, by have := (h.deep q hq).2; omega⟩
 exact ⟨by simp, by have := (h.deep q' hq').2; rw [Yk, Yo]; omega⟩
theorem hasCon_spec {t : Tab} {rows : List MRow} {k d : Nat} {g : Str -> Nat -> Ty} {τs : List Ty} {c : ConSig} {a : Nat} (hT : ∀ r ∈ rows, rowT t τs r.2) (hτ : τs[k]? = some (.dat d g)) (hc : tget t c.name = some (d, a, c.args.length)) (h : hasCon rows k c.name = true) : c.args.length <= 400 := by
 obtain ⟨r, hr, hb⟩ := Yy.1 h
 have hTr := hT r hr
 obtain ⟨p, hp⟩ := get_of_lt r.2 k (by rw [hTr.len]; have := (Yc.1 hτ).1; omega)
 have hg : r.2.getD k anyP = p := by simp [hp]
 simp only [hg, Bool.and_eq_true, Bool.not_eq_true', isCon, decide_eq_true_eq] at hb
 rcases rowT.get hTr k _ p hτ hp with h1 | ⟨_, ⟨a', h1⟩, h2, _⟩
 .rw [hb.1] at h1; cases h1
 rw [hb.2, hc] at h1
 injection h1 with h1
 injection h1 with _ h1
 injection h1 with _ h1
 omega
theorem con_child {t : Tab} {f : Nat} {rows : List MRow} {paths : List (List Int)} {τs : List Ty} {k d a : Nat} {g : Str -> Nat -> Ty} {p : Pat} {c : ConSig} (h : MPre t (f + 1) rows paths τs) (ha : AtHead t rows τs k p (.dat d g)) (hc : tget t c.name = some (d, a, c.args.length)) (hh : hasCon rows k c.name = true) :
  MPre t f (narrowM k (isCon c.name) c.args.length rows) (belowM paths k c.args.length) (newTys k (argT (g c.name) c.args.length) τs) := by
 have hl := argT_len (g c.name) c.args.length
 have h4 := hasCon_spec h.ty ha.ty hc hh
 have := h.child (σs := argT (g c.name) c.args.length) (is := isCon c.name) ha (by omega) λ q hq hqf hqi => by
  have hn : q.name = c.name := by simpa [isCon] using hqi
  have hargs := rowT.args hq hqf
  rcases hq with h1 | ⟨h3, ⟨a', h1⟩, _, _⟩
  .rw [hqf] at h1; cases h1
  rw [if_pos h3]
  rw [hn, hc] at h1
  injection h1 with h1
  injection h1 with _ h1
  injection h1 with _ h1
  rw [hn, <- h1] at hargs
  exact hargs
 rwa [hl] at this
theorem word_child {t : Tab} {f : Nat} {rows : List MRow} {paths : List (List Int)} {τs : List Ty} {k : Nat} {p : Pat} {τ : Ty} (is : Pat -> Bool) (h : MPre t (f + 1) rows paths τs) (ha : AtHead t rows τs k p τ) (hk : p.kind = 2) : MPre t f (narrowM k is 0 rows) (belowM paths k 0) (newTys k [] τs) :=
 h.child (σs := []) (is := is) ha (Yao _) λ q hq hqf _ => by
  have := int_ty ha.wt hk hq hqf
  rw [if_neg (by omega)]
  trivial
theorem other_child {t : Tab} {f : Nat} {rows : List MRow} {paths : List (List Int)} {τs : List Ty} {k : Nat} {p : Pat} {τ : Ty} (h : MPre t (f + 1) rows paths τs) (ha : AtHead t rows τs k p τ) : MPre t f (narrowM k (λ _ => false) 0 rows) (belowM paths k 0) (newTys k [] τs) :=
 h.child (σs := []) (is := λ _ => false) ha (Yao _) λ q hq hqf hi => by cases hi
structure BInv (s : BSt) : Prop where
 out : s.out.length <= s.many
 full : s.full = decide (4096 < s.many)
theorem addF_many (s : BSt) (n : MNode) : (addF s n).1.many = s.many /\ (addF s n).1.full = s.full := by
 unfold addF
 split <;> exact ⟨rfl, rfl⟩
theorem addF_spec (s : BSt) (n : MNode) : ∃ x, (addF s n).1.out = s.out ++ x /\ x.length <= 1 /\ (addF s n).1.out[(addF s n).2]? = some n := by
 unfold addF
 rcases idxOf_range (λ x => sameN x n) s.out with ⟨h1, h2⟩ | ⟨k, y, h1, h2, h3, h4⟩
 .rw [if_neg (by omega)]
  exact ⟨[n], rfl, Yam _, by simp⟩
 rw [if_pos (by omega), h1]
 refine ⟨[], by simp, Yao _, ?_⟩
 show s.out[(k : Int).toNat]? = some n
 rw [Yar, h2, sameN_iff.1 h3]
structure Keeps (f : Nat) (s s' : BSt) : Prop where
 out : s'.out.length + s.many <= s'.many + s.out.length
 mono : s.many + 1 <= s'.many
 full : s'.full = decide (4096 < s'.many)
 fast : s.full = true -> s'.many = s.many + 1
 slow : s.full = false -> s'.many <= 4097 + f * 1100
end Go.PM
namespace Go.PM
open Go.VL
section
variable {rc : BSt -> List MRow -> List (List Int) -> BSt × Nat} {rows : List MRow} {paths : List (List Int)} {k : Nat}
theorem consL_ind {R : BSt -> BSt -> Prop} {I : BSt -> Prop} {Q : ConSig -> BSt -> Nat -> Prop} (hrefl : ∀ s, R s s) (htrans : ∀ a b c, R a b -> R b c -> R a c) (hmono : ∀ c s s' y, R s s' -> Q c s y -> Q c s' y) :
  ∀ (cs : List ConSig) (s : BSt) (names : List Str) (kids : List Int), I s -> (∀ c ∈ cs, ∀ s, I s -> hasCon rows k c.name = true -> I (rc s (narrowM k (isCon c.name) c.args.length rows) (belowM paths k c.args.length)).1 /\ R s (rc s (narrowM k (isCon c.name) c.args.length rows) (belowM paths k c.args.length)).1 /\ Q c (rc s (narrowM k (isCon c.name) c.args.length rows) (belowM paths k c.args.length)).1 (rc s (narrowM k (isCon c.name) c.args.length rows) (belowM paths k c.args.length)).2) ->
   I (consL rc rows paths k cs s names kids).1 /\ R s (consL rc rows paths k cs s names kids).1 /\ ∃ ys : List (ConSig × Nat), ys.map (·.1) = cs.filter (λ c => hasCon rows k c.name) /\ (consL rc rows paths k cs s names kids).2.1 = names ++ ys.map (λ z => z.1.name) /\
    (consL rc rows paths k cs s names kids).2.2 = kids ++ ys.map (λ z => (z.2 : Int)) /\ ∀ z ∈ ys, Q z.1 (consL rc rows paths k cs s names kids).1 z.2
 | [], s, names, kids, hI, _ => ⟨hI, hrefl s, [], rfl, by simp [consL], by simp [consL], λ z hz => by cases hz⟩
 | c :: cs, s, names, kids, hI, hs => by
  rw [consL]
  by_cases hc : hasCon rows k c.name = true
  .rw [if_pos hc]
   obtain ⟨h1, h2, h3⟩ := hs c (Yg ..) s hI hc
   generalize rc s (narrowM k (isCon c.name) c.args.length rows) (belowM paths k c.args.length) = r at h1 h2 h3 ⊢
   obtain ⟨i1, i2, ys, i3, i4, i5, i6⟩ := consL_ind hrefl htrans hmono cs r.1 (names ++ [c.name]) (kids ++ [(r.2 : Int)]) h1 λ c' hc' => hs c' (Yd _ hc')
   refine ⟨i1, htrans _ _ _ h2 i2, (c, r.2) :: ys, ?_, ?_, ?_, λ z hz => ?_⟩
   .rw [Yag, if_pos hc, List.map_cons, i3]
   .rw [i4]; simp
   .rw [i5]; simp
   rcases Ym.1 hz with rfl | hz
   .exact hmono _ _ _ _ i2 h3
   exact i6 z hz
  rw [if_neg hc]
  obtain ⟨i1, i2, ys, i3, i4, i5, i6⟩ := consL_ind hrefl htrans hmono cs s names kids hI λ c' hc' => hs c' (Yd _ hc')
  exact ⟨i1, i2, ys, by rw [Yag, if_neg hc, i3], i4, i5, i6⟩
def wordAt (k : Nat) (r : MRow) : Int := (r.2.getD k anyP).n
theorem wordsL_ind {R : BSt -> BSt -> Prop} {I : BSt -> Prop} {Q : Int -> BSt -> Nat -> Prop} (hrefl : ∀ s, R s s) (htrans : ∀ a b c, R a b -> R b c -> R a c) (hmono : ∀ c s s' y, R s s' -> Q c s y -> Q c s' y) :
  ∀ (rs : List MRow) (s : BSt) (ws : List Int) (kids : List Int), I s -> (∀ r ∈ rs, ∀ s, I s -> free (r.2.getD k anyP) = false -> I (rc s (narrowM k (isInt (wordAt k r)) 0 rows) (belowM paths k 0)).1 /\ R s (rc s (narrowM k (isInt (wordAt k r)) 0 rows) (belowM paths k 0)).1 /\ Q (wordAt k r) (rc s (narrowM k (isInt (wordAt k r)) 0 rows) (belowM paths k 0)).1 (rc s (narrowM k (isInt (wordAt k r)) 0 rows) (belowM paths k 0)).2) ->
   I (wordsL rc rows paths k rs s ws kids).1 /\ R s (wordsL rc rows paths k rs s ws kids).1 /\ (∀ r ∈ rs, free (r.2.getD k anyP) = true \/ wordAt k r ∈ (wordsL rc rows paths k rs s ws kids).2.1) /\ (ws.Nodup -> (wordsL rc rows paths k rs s ws kids).2.1.Nodup) /\
   ∃ ys : List (Int × Nat), (wordsL rc rows paths k rs s ws kids).2.1 = ws ++ ys.map (·.1) /\ (wordsL rc rows paths k rs s ws kids).2.2 = kids ++ ys.map (λ z => (z.2 : Int)) /\ ys.length <= rs.length /\ ∀ z ∈ ys, Q z.1 (wordsL rc rows paths k rs s ws kids).1 z.2 /\ ∃ r ∈ rs, free (r.2.getD k anyP) = false /\ wordAt k r = z.1
 | [], s, ws, kids, hI, _ => ⟨hI, hrefl s, (λ r hr => by cases hr), id, [], by simp [wordsL], by simp [wordsL], Yam _, λ z hz => by cases hz⟩
 | r :: rs, s, ws, kids, hI, hs => by
  rw [wordsL]
  by_cases hc : (free (r.2.getD k anyP) || ws.any (λ x => decide ((r.2.getD k anyP).n = x))) = true
  .rw [if_pos hc]
   obtain ⟨i1, i2, i3, i4, ys, i5, i6, i7, i8⟩ := wordsL_ind hrefl htrans hmono rs s ws kids hI λ r' hr' => hs r' (Yd _ hr')
   refine ⟨i1, i2, λ r' hr' => ?_, i4, ys, i5, i6, by rw [Yj]; omega, λ z hz => ⟨(i8 z hz).1, ?_⟩⟩
   .rcases Ym.1 hr' with rfl | hr'
    .rw [Bool.or_eq_true, Yy] at hc
     rcases hc with hc | ⟨x, hx, he⟩
     .exact .inl hc
     refine .inr ?_
     rw [i5, wordAt, of_decide_eq_true he]
     exact List.mem_append_left _ hx
    exact i3 r' hr'
   obtain ⟨r', hr', h1, h2⟩ := (i8 z hz).2
   exact ⟨r', Yd _ hr', h1, h2⟩
  rw [if_neg hc]
  rw [Bool.or_eq_true, not_or, Bool.not_eq_true] at hc
  obtain ⟨hf, hw⟩ := hc
  have hnew : wordAt k r ∉ ws := λ hm => hw (Yy.2 ⟨_, hm, decide_eq_true rfl⟩)
  obtain ⟨h1, h2, h3⟩ := hs r (Yg ..) s hI hf
  show _ /\ _ /\ _ /\ _ /\ _
  have e : (r.2.getD k anyP).n = wordAt k r := rfl
  rw [e]
  generalize rc s (narrowM k (isInt (wordAt k r)) 0 rows) (belowM paths k 0) = q at h1 h2 h3 ⊢
  obtain ⟨i1, i2, i3, i4, ys, i5, i6, i7, i8⟩ := wordsL_ind hrefl htrans hmono rs q.1 (ws ++ [wordAt k r]) (kids ++ [(q.2 : Int)]) h1 λ r' hr' => hs r' (Yd _ hr')
  refine ⟨i1, htrans _ _ _ h2 i2, λ r' hr' => ?_, λ hn => i4 ?_, (wordAt k r, q.2) :: ys, ?_, ?_, by rw [Yj, Yj]; omega, λ z hz => ?_⟩
  .rcases Ym.1 hr' with rfl | hr'
   .refine .inr ?_
    rw [i5]
    simp
   exact i3 r' hr'
  .rw [List.nodup_append]
   exact ⟨hn, by simp, λ x hx y hy => by rw [Ye] at hy; subst hy; rintro rfl; exact hnew hx⟩
  .rw [i5]; simp
  .rw [i6]; simp
  rcases Ym.1 hz with rfl | hz
  .exact ⟨hmono _ _ _ _ i2 h3, r, Yg .., hf, rfl⟩
  obtain ⟨j1, r', hr', j2, j3⟩ := i8 z hz
  exact ⟨j1, r', Yd _ hr', j2, j3⟩
end
structure LoopK (f n : Nat) (s s' : BSt) : Prop where
 out : s'.out.length + s.many <= s'.many + s.out.length
 mono : s.many <= s'.many
 full : s'.full = decide (4096 < s'.many)
 slow : s.many <= 4097 + f * 1100 -> s'.many <= 4097 + f * 1100 + n
theorem Keeps.loop {f i : Nat} {s1 s' : BSt} (h : Keeps f s1 s') (hs : s1.many <= 4097 + f * 1100 + i) : s'.many <= 4097 + f * 1100 + (i + 1) := by
 cases hf : s1.full with
 | true => have := h.fast hf; omega
 | false => have := h.slow hf; omega
section
variable {rc : BSt -> List MRow -> List (List Int) -> BSt × Nat} {rows : List MRow} {paths : List (List Int)} {k f : Nat}
theorem consL_keeps : ∀ (cs : List ConSig) (s : BSt) (names : List Str) (kids : List Int) (i : Nat), s.full = decide (4096 < s.many) -> s.many <= 4097 + f * 1100 + i ->
  (∀ c ∈ cs, ∀ s : BSt, s.full = decide (4096 < s.many) -> hasCon rows k c.name = true -> Keeps f s (rc s (narrowM k (isCon c.name) c.args.length rows) (belowM paths k c.args.length)).1) ->
  (consL rc rows paths k cs s names kids).1.out.length + s.many <= (consL rc rows paths k cs s names kids).1.many + s.out.length /\ s.many <= (consL rc rows paths k cs s names kids).1.many /\
   (consL rc rows paths k cs s names kids).1.full = decide (4096 < (consL rc rows paths k cs s names kids).1.many) /\ (consL rc rows paths k cs s names kids).1.many <= 4097 + f * 1100 + (i + cs.length)
 | [], s, names, kids, i, hf, hm, _ => by
  rw [consL]
  exact ⟨by show s.out.length + s.many <= s.many + s.out.length; omega, Yam _, hf, hm⟩
 | c :: cs, s, names, kids, i, hf, hm, hs => by
  rw [consL]
  by_cases hc : hasCon rows k c.name = true
  .rw [if_pos hc]
   have h1 := hs c (Yg ..) s hf hc
   generalize rc s (narrowM k (isCon c.name) c.args.length rows) (belowM paths k c.args.length) = r at h1 ⊢
   obtain ⟨i1, i2, i3, i4⟩ := consL_keeps cs r.1 (names ++ [c.name]) (kids ++ [(r.2 : Int)]) (i + 1) h1.full (h1.loop hm) λ c' hc' => hs c' (Yd _ hc')
   have := h1.out
   have := h1.mono
   exact ⟨by omega, by omega, i3, by rw [Yj]; omega⟩
  rw [if_neg hc]
  obtain ⟨i1, i2, i3, i4⟩ := consL_keeps cs s names kids i hf hm λ c' hc' => hs c' (Yd _ hc')
  exact ⟨i1, i2, i3, by rw [Yj]; omega⟩
theorem wordsL_keeps : ∀ (rs : List MRow) (s : BSt) (ws : List Int) (kids : List Int) (i : Nat), s.full = decide (4096 < s.many) -> s.many <= 4097 + f * 1100 + i ->
  (∀ (n : Int) (s : BSt), s.full = decide (4096 < s.many) -> Keeps f s (rc s (narrowM k (isInt n) 0 rows) (belowM paths k 0)).1) ->
  (wordsL rc rows paths k rs s ws kids).1.out.length + s.many <= (wordsL rc rows paths k rs s ws kids).1.many + s.out.length /\ s.many <= (wordsL rc rows paths k rs s ws kids).1.many /\
   (wordsL rc rows paths k rs s ws kids).1.full = decide (4096 < (wordsL rc rows paths k rs s ws kids).1.many) /\ (wordsL rc rows paths k rs s ws kids).1.many <= 4097 + f * 1100 + (i + rs.length)
 | [], s, ws, kids, i, hf, hm, _ => by
  rw [wordsL]
  exact ⟨by show s.out.length + s.many <= s.many + s.out.length; omega, Yam _, hf, hm⟩
 | r :: rs, s, ws, kids, i, hf, hm, hs => by
  rw [wordsL]
  split
  .obtain ⟨i1, i2, i3, i4⟩ := wordsL_keeps rs s ws kids i hf hm hs
   exact ⟨i1, i2, i3, by rw [Yj]; omega⟩
  have h1 := hs (r.2.getD k anyP).n s hf
  generalize rc s (narrowM k (isInt (r.2.getD k anyP).n) 0 rows) (belowM paths k 0) = q at h1 ⊢
  obtain ⟨i1, i2, i3, i4⟩ := wordsL_keeps rs q.1 (ws ++ [(r.2.getD k anyP).n]) (kids ++ [(q.2 : Int)]) (i + 1) h1.full (h1.loop hm) hs
  have := h1.out
  have := h1.mono
  exact ⟨by omega, by omega, i3, by rw [Yj]; omega⟩
end
theorem addF_keeps {f : Nat} {s s1 : BSt} (n : MNode) (h1 : s1.out.length + s.many + 1 <= s1.many + s.out.length) (h2 : s.many + 1 <= s1.many) (h3 : s1.full = decide (4096 < s1.many)) (h4 : s.full = true -> s1.many = s.many + 1) (h5 : s.full = false -> s1.many <= 4097 + f * 1100) : Keeps f s (addF s1 n).1 := by
 obtain ⟨x, e1, e2, _⟩ := addF_spec s1 n
 obtain ⟨e3, e4⟩ := addF_many s1 n
 refine ⟨?_, by rw [e3]; exact h2, by rw [e3, e4]; exact h3, by rw [e3]; exact h4, by rw [e3]; exact h5⟩
 rw [e1, e3, Yk]
 omega
theorem con_head {t : Tab} {ds : List DataSig} {rows : List MRow} {τs : List Ty} {k : Nat} {p : Pat} {τ : Ty} (hok : TabOk t ds) (ha : AtHead t rows τs k p τ) (hk : p.kind ≠ 2) :
  ∃ d g a D, τ = .dat d g /\ p.kind = 3 /\ tget t p.name = some (d, a, p.args.length) /\ ds[d]? = some D /\ consAt t ds p.name = D.cons /\ D.cons.length <= 1000 /\ ∀ c ∈ D.cons, ∃ a, tget t c.name = some (d, a, c.args.length) := by
 have hw := ha.wt
 have hf := ha.free
 cases τ with
 | any => rw [show Go.PM.wt t .any p = (free p = true) from rfl, hf] at hw; cases hw
 | int =>
  rcases hw with h | h
  .rw [hf] at h; cases h
  exact absurd h hk
 | dat d g =>
  rcases hw with h | ⟨h1, ⟨a, h2⟩, _⟩
  .rw [hf] at h; cases h
  obtain ⟨D, hD⟩ := hok.get _ _ h2
  exact ⟨d, g, a, D, rfl, h1, h2, hD, by simp only [consAt, h2, hD], (hok.small d D hD).1, λ c hc => hok.put d D c hD hc⟩
theorem head_get {t : Tab} {rows : List MRow} {τs : List Ty} {k : Nat} {p : Pat} {τ : Ty} (ha : AtHead t rows τs k p τ) : (headPats rows).getD (idxOf nf (headPats rows)).toNat anyP = p /\ (idxOf nf (headPats rows)).toNat = k := by
 obtain ⟨⟨r0, rs, rfl, hp⟩, hi, _⟩ := ha
 rw [hi, Yar]
 exact ⟨by show r0.2.getD k anyP = p; simp [hp], rfl⟩
theorem buildM_cases {t : Tab} {ds : List DataSig} (hok : TabOk t ds) {f : Nat} {s : BSt} {rows : List MRow} {paths : List (List Int)} {τs : List Ty} (h : MPre t (f + 1) rows paths τs) :
  (buildM t ds (f + 1) s rows paths = addF (tick s) failN /\ (rows.length = 0 \/ (tick s).full = true)) \/ ((tick s).full = false /\ ∃ r0 rs, rows = r0 :: rs /\
   ((buildM t ds (f + 1) s rows paths = addF (tick s) (rowN r0.1) /\ r0.2.any nf = false) \/ ∃ k p τ, AtHead t rows τs k p τ /\
    ((p.kind = 2 /\ buildM t ds (f + 1) s rows paths = wordsF (buildM t ds f) (tick s) rows paths k) \/
     ∃ d g a D, τ = .dat d g /\ p.kind = 3 /\ tget t p.name = some (d, a, p.args.length) /\ ds[d]? = some D /\ D.cons.length <= 1000 /\ (∀ c ∈ D.cons, ∃ a, tget t c.name = some (d, a, c.args.length)) /\ buildM t ds (f + 1) s rows paths = consF (buildM t ds f) D.cons (tick s) rows paths k))) := by
 rw [buildM]
 by_cases h0 : rows.length = 0 \/ (tick s).full = true
 .rw [if_pos h0]
  exact .inl ⟨rfl, h0⟩
 rw [if_neg h0]
 have hr : rows.length ≠ 0 := λ e => h0 (.inl e)
 have hf : (tick s).full = false := by
  cases hb : (tick s).full with
  | false => rfl
  | true => exact absurd (.inr hb) h0
 refine .inr ⟨hf, ?_⟩
 by_cases hi : idxOf nf (headPats rows) < 0
 .rw [if_pos hi]
  cases rows with
  | nil => exact absurd rfl hr
  | cons r0 rs =>
   refine ⟨r0, rs, rfl, .inl ⟨rfl, ?_⟩⟩
   rcases idxOf_range nf (headPats (r0 :: rs)) with ⟨_, h1⟩ | ⟨k, x, h1, _⟩
   .exact h1
   omega
 rw [if_neg hi]
 obtain ⟨k, p, τ, ha⟩ := atHead_of h hr hi
 obtain ⟨r0, rs, e, hp⟩ := ha.ne
 refine ⟨r0, rs, e, .inr ⟨k, p, τ, ha, ?_⟩⟩
 obtain ⟨e1, e2⟩ := head_get ha
 rw [e1, e2]
 by_cases hk : p.kind = 2
 .rw [if_pos hk]
  exact .inl ⟨hk, rfl⟩
 rw [if_neg hk]
 obtain ⟨d, g, a, D, h1, h2, h3, h4, h5, h6, h7⟩ := con_head hok ha hk
 exact .inr ⟨d, g, a, D, h1, h2, h3, h4, h6, h7, by rw [h5]⟩
theorem tick_not {s : BSt} (h : (tick s).full = false) : s.full = false /\ s.many <= 4095 := by
 have h1 : (s.full || decide (4096 < s.many + 1)) = false := h
 rw [Bool.or_eq_false_iff, decide_eq_false_iff_not] at h1
 exact ⟨h1.1, by omega⟩
theorem tick_full {s : BSt} (h : s.full = decide (4096 < s.many)) : (tick s).full = decide (4096 < (tick s).many) := by
 show (s.full || decide (4096 < s.many + 1)) = decide (4096 < s.many + 1)
 rw [h]
 by_cases h1 : 4096 < s.many
 .rw [decide_eq_true h1, decide_eq_true (by omega)]; rfl
 rw [decide_eq_false h1, Bool.false_or]
theorem buildM_keeps {t : Tab} {ds : List DataSig} (hok : TabOk t ds) : ∀ (f : Nat) (s : BSt) (rows : List MRow) (paths : List (List Int)) (τs : List Ty), MPre t f rows paths τs -> s.full = decide (4096 < s.many) -> Keeps f s (buildM t ds f s rows paths).1
 | 0, s, rows, paths, τs, h, _ => absurd h.fuel (Yan _)
 | f + 1, s, rows, paths, τs, h, hs => by
  have ht := tick_full hs
  have hmt : (tick s).many = s.many + 1 := rfl
  have hot : (tick s).out = s.out := rfl
  have hleaf : ∀ n, Keeps (f + 1) s (addF (tick s) n).1 := λ n => by
   refine addF_keeps n (by rw [hmt, hot]; omega) (by rw [hmt]; omega) ht (λ _ => hmt) λ hf => ?_
   rw [hf] at hs
   have := of_decide_eq_false hs.symm
   rw [hmt]
   omega
  rcases buildM_cases (s := s) hok h with ⟨e, _⟩ | ⟨hft, r0, rs, er, ⟨e, _⟩ | ⟨k, p, τ, ha, ⟨hk, e⟩ | ⟨d, g, a, D, hτ, hk, hta, hD, hcl, hcs, e⟩⟩⟩
  .rw [e]; exact hleaf _
  .rw [e]; exact hleaf _
  .obtain ⟨hsf, hsm⟩ := tick_not hft
   rw [e, wordsF]
   have hl := h.len
   obtain ⟨j1, j2, j3, j4⟩ := wordsL_keeps (rc := buildM t ds f) (rows := rows) (paths := paths) (k := k) (f := f) rows (tick s) [] [] 0 ht (by omega) λ n s' hs' => buildM_keeps hok f s' _ _ _ (word_child (isInt n) h ha hk) hs'
   generalize wordsL (buildM t ds f) rows paths k rows (tick s) [] [] = w at j1 j2 j3 j4 ⊢
   have ho := buildM_keeps hok f w.1 _ _ _ (other_child h ha) j3
   have ho2 := ho.loop j4
   have := ho.out
   have := ho.mono
   simp only [otherF]
   exact addF_keeps _ (by rw [hmt, hot] at j1; omega) (by omega) ho.full (λ hf => by rw [hsf] at hf; cases hf) λ _ => by omega
  obtain ⟨hsf, hsm⟩ := tick_not hft
  subst hτ
  rw [e, consF]
  obtain ⟨j1, j2, j3, j4⟩ := consL_keeps (rc := buildM t ds f) (rows := rows) (paths := paths) (k := k) (f := f) D.cons (tick s) [] [] 0 ht (by omega) λ c hc s' hs' hh => by
   obtain ⟨a', hta'⟩ := hcs c hc
   exact buildM_keeps hok f s' _ _ _ (con_child h ha hta' hh) hs'
  generalize consL (buildM t ds f) rows paths k D.cons (tick s) [] [] = w at j1 j2 j3 j4 ⊢
  have ho := buildM_keeps hok f w.1 _ _ _ (other_child h ha) j3
  have ho2 := ho.loop j4
  have := ho.out
  have := ho.mono
  simp only [otherF]
  by_cases hlt : w.2.1.length < D.cons.length
  .rw [if_pos hlt]
   exact addF_keeps _ (by rw [hmt, hot] at j1; simp only; omega) (by simp only; omega) ho.full (λ hf => by rw [hsf] at hf; cases hf) λ _ => by simp only; omega
  rw [if_neg hlt]
  exact addF_keeps _ (by rw [hmt, hot] at j1; simp only; omega) (by simp only; omega) j3 (λ hf => by rw [hsf] at hf; cases hf) λ _ => by simp only; omega
end Go.PM
namespace Go.PM
open Go.VL
def ndStep (acc : List Nat) (m : Nat) (y : Int) : Nat := if 0 <= y /\ y < acc.length then max m (acc.getD y.toNat 0 + 1) else m
def ndD (acc : List Nat) (n : MNode) : Nat := if n.kind = 2 \/ n.kind = 3 then n.kids.foldl (ndStep acc) 1 else 0
def deepL : List MNode -> List Nat -> List Nat
 | [], acc => acc
 | n :: ns, acc => deepL ns (acc ++ [ndD acc n])
theorem deepL_append : ∀ (a b : List MNode) (acc : List Nat), deepL (a ++ b) acc = deepL b (deepL a acc)
 | [], b, acc => rfl
 | n :: a, b, acc => by rw [Yab, deepL, deepL, deepL_append a b]
theorem deepL_prefix : ∀ (a : List MNode) (acc : List Nat), acc <+: deepL a acc
 | [], acc => Yl
 | n :: a, acc => (Yac acc [ndD acc n]).trans (deepL_prefix a _)
theorem deepL_len : ∀ (a : List MNode) (acc : List Nat), (deepL a acc).length = acc.length + a.length
 | [], acc => rfl
 | n :: a, acc => by rw [deepL, deepL_len a, Yk, Yo, Yj]; omega
theorem prefix_getD {a b : List Nat} (h : a <+: b) {j : Nat} (hj : j < a.length) : b.getD j 0 = a.getD j 0 := by
 obtain ⟨c, rfl⟩ := h
 simp [Ys, Yp hj]
theorem deep_get {out : List MNode} {j : Nat} {n : MNode} (h : out[j]? = some n) : (deepL out []).getD j 0 = ndD (deepL (out.take j) []) n := by
 have hj := (Yc.1 h).1
 have hl := deepL_len (out.take j) []
 rw [Yh, List.length_nil] at hl
 conv => lhs; rw [split_at h, deepL_append, deepL]
 rw [prefix_getD (deepL_prefix _ _) (by rw [Yk, Yo]; omega)]
 rw [Ys, Yal (by omega)]
 rw [show j - (deepL (out.take j) []).length = 0 by omega]
 rfl
def DB (B : Nat) (out : List MNode) (j : Nat) : Prop := j < out.length /\ (deepL out []).getD j 0 <= B
theorem DB.mono {B : Nat} {a b : List MNode} {j : Nat} (hp : a <+: b) (h : DB B a j) : DB B b j := by
 obtain ⟨c, rfl⟩ := hp
 refine ⟨by rw [Yk]; have := h.1; omega, ?_⟩
 rw [deepL_append, prefix_getD (deepL_prefix _ _) (by rw [deepL_len]; simpa using h.1)]
 exact h.2
theorem DB.le {B C : Nat} {out : List MNode} {j : Nat} (h : DB B out j) (hb : B <= C) : DB C out j := ⟨h.1, Nat.le_trans h.2 hb⟩
theorem ndStep_le {acc : List Nat} {B : Nat} : ∀ (kids : List Int) (m : Nat), m <= B -> (∀ y ∈ kids, ∀ i : Nat, y = i -> i < acc.length -> acc.getD i 0 + 1 <= B) -> kids.foldl (ndStep acc) m <= B
 | [], m, hm, _ => hm
 | y :: kids, m, hm, h => by
  rw [List.foldl_cons]
  refine ndStep_le kids _ ?_ λ z hz => h z (Yd _ hz)
  unfold ndStep
  by_cases hy : 0 <= y /\ y < acc.length
  .rw [if_pos hy]
   have := h y (Yg ..) y.toNat (by omega) (by omega)
   omega
  rw [if_neg hy]
  exact hm
theorem addF_prefix (s : BSt) (n : MNode) : s.out <+: (addF s n).1.out := by
 obtain ⟨x, h, _⟩ := addF_spec s n
 exact ⟨x, h.symm⟩
theorem addF_db {s : BSt} {n : MNode} {B : Nat} (h1 : n.kind = 2 \/ n.kind = 3 -> 1 <= B) (h : ∀ y ∈ n.kids, ∀ i : Nat, y = i -> (deepL (addF s n).1.out []).getD i 0 + 1 <= B) : DB B (addF s n).1.out (addF s n).2 := by
 obtain ⟨x, _, _, hg⟩ := addF_spec s n
 refine ⟨(Yc.1 hg).1, ?_⟩
 rw [deep_get hg]
 unfold ndD
 by_cases hk : n.kind = 2 \/ n.kind = 3
 .rw [if_pos hk]
  refine ndStep_le _ _ (h1 hk) λ y hy i hi hlt => ?_
  have := h y hy i hi
  have hp : (addF s n).1.out.take (addF s n).2 <+: (addF s n).1.out := Yad _ _
  obtain ⟨c, hc⟩ := hp
  have e : (deepL (addF s n).1.out []).getD i 0 = (deepL ((addF s n).1.out.take (addF s n).2) []).getD i 0 := by
   conv => lhs; rw [<- hc, deepL_append]
   exact prefix_getD (deepL_prefix _ _) hlt
  omega
 rw [if_neg hk]; exact Yao _
theorem leaf_db {s : BSt} {n : MNode} {B : Nat} (h1 : ¬ (n.kind = 2 \/ n.kind = 3)) (h2 : n.kids = []) : DB B (addF s n).1.out (addF s n).2 :=
 addF_db (λ h => absurd h h1) λ y hy => by rw [h2] at hy; cases hy
theorem buildM_depth {t : Tab} {ds : List DataSig} (hok : TabOk t ds) : ∀ (f : Nat) (s : BSt) (rows : List MRow) (paths : List (List Int)) (τs : List Ty), MPre t f rows paths τs ->
  s.out <+: (buildM t ds f s rows paths).1.out /\ DB (wM rows) (buildM t ds f s rows paths).1.out (buildM t ds f s rows paths).2
 | 0, s, rows, paths, τs, h => absurd h.fuel (Yan _)
 | f + 1, s, rows, paths, τs, h => by
  have hot : (tick s).out = s.out := rfl
  rcases buildM_cases (s := s) hok h with ⟨e, _⟩ | ⟨hft, r0, rs, er, ⟨e, _⟩ | ⟨k, p, τ, ha, ⟨hk, e⟩ | ⟨d, g, a, D, hτ, hk, hta, hD, hcl, hcs, e⟩⟩⟩
  .rw [e]; exact ⟨addF_prefix (tick s) _, leaf_db (by decide) rfl⟩
  .rw [e]; exact ⟨addF_prefix (tick s) _, leaf_db (by simp [rowN]) rfl⟩
  .rw [e, wordsF]
   have hw1 : ∀ is many, wM (narrowM k is many rows) + 1 <= wM rows := λ is many => by
    obtain ⟨r0', rs', e', hp0⟩ := ha.ne
    have hall := ha.all
    rw [e'] at hall ⊢
    exact narrowM_w1 hall hp0 ha.free
   obtain ⟨_, i2, _, _, ys, _, i6, _, i8⟩ := wordsL_ind (rc := buildM t ds f) (rows := rows) (paths := paths) (k := k) (R := λ s s' => s.out <+: s'.out) (I := λ _ => True) (Q := λ _ s y => DB (wM rows - 1) s.out y)
    (λ s => Yl) (λ a b c h1 h2 => h1.trans h2) (λ c s s' y h1 h2 => h2.mono h1) rows (tick s) [] [] trivial λ r hr s' _ hf => by
     have ih := buildM_depth hok f s' _ _ _ (word_child (isInt (wordAt k r)) h ha hk)
     exact ⟨trivial, ih.1, ih.2.le (by have := hw1 (isInt (wordAt k r)) 0; omega)⟩
   generalize wordsL (buildM t ds f) rows paths k rows (tick s) [] [] = w at i2 i6 i8 ⊢
   have ho := buildM_depth hok f w.1 _ _ _ (other_child h ha)
   have hwo := hw1 (λ _ => false) 0
   simp only [otherF]
   have hpre := ho.1.trans (addF_prefix (buildM t ds f w.1 (narrowM k (λ _ => false) 0 rows) (belowM paths k 0)).1 ⟨3, 0, paths.getD k [], [], w.2.1, w.2.2 ++ [((buildM t ds f w.1 (narrowM k (λ _ => false) 0 rows) (belowM paths k 0)).2 : Int)]⟩)
   refine ⟨(hot ▸ i2).trans hpre, addF_db (λ _ => by omega) λ y hy i hi => ?_⟩
   rcases Yb.1 hy with hy | hy
   .rw [i6, Yn] at hy
    obtain ⟨z, hz, hzy⟩ := Ya.1 hy
    have hzi : z.2 = i := by omega
    have := ((i8 z hz).1.mono hpre).2
    rw [hzi] at this
    omega
   rw [Ye] at hy
   have hzi : i = (buildM t ds f w.1 (narrowM k (λ _ => false) 0 rows) (belowM paths k 0)).2 := by omega
   have := (ho.2.mono (addF_prefix _ ⟨3, 0, paths.getD k [], [], w.2.1, w.2.2 ++ [((buildM t ds f w.1 (narrowM k (λ _ => false) 0 rows) (belowM paths k 0)).2 : Int)]⟩)).2
   rw [<- hzi] at this
   rw [<- hzi]
   omega
  subst hτ
  rw [e, consF]
  have hw1 : ∀ is many, wM (narrowM k is many rows) + 1 <= wM rows := λ is many => by
   obtain ⟨r0', rs', e', hp0⟩ := ha.ne
   have hall := ha.all
   rw [e'] at hall ⊢
   exact narrowM_w1 hall hp0 ha.free
  have h1 : 1 <= wM rows := by have := hw1 (λ _ => false) 0; omega
  obtain ⟨_, i2, ys, _, _, i6, i8⟩ := consL_ind (rc := buildM t ds f) (rows := rows) (paths := paths) (k := k) (R := λ s s' => s.out <+: s'.out) (I := λ _ => True) (Q := λ _ s y => DB (wM rows - 1) s.out y)
   (λ s => Yl) (λ a b c h1 h2 => h1.trans h2) (λ c s s' y h1 h2 => h2.mono h1) D.cons (tick s) [] [] trivial λ c hc s' _ hh => by
    obtain ⟨a', hta'⟩ := hcs c hc
    have ih := buildM_depth hok f s' _ _ _ (con_child h ha hta' hh)
    exact ⟨trivial, ih.1, ih.2.le (by have := hw1 (isCon c.name) c.args.length; omega)⟩
  generalize consL (buildM t ds f) rows paths k D.cons (tick s) [] [] = w at i2 i6 i8 ⊢
  have ho := buildM_depth hok f w.1 _ _ _ (other_child h ha)
  have hwo := hw1 (λ _ => false) 0
  simp only [otherF]
  by_cases hlt : w.2.1.length < D.cons.length
  .rw [if_pos hlt]
   simp only
   have hpre := ho.1.trans (addF_prefix (buildM t ds f w.1 (narrowM k (λ _ => false) 0 rows) (belowM paths k 0)).1 ⟨2, 0, paths.getD k [], w.2.1, [], w.2.2 ++ [((buildM t ds f w.1 (narrowM k (λ _ => false) 0 rows) (belowM paths k 0)).2 : Int)]⟩)
   refine ⟨(hot ▸ i2).trans hpre, addF_db (λ _ => h1) λ y hy i hi => ?_⟩
   rcases Yb.1 hy with hy | hy
   .rw [i6, Yn] at hy
    obtain ⟨z, hz, hzy⟩ := Ya.1 hy
    have hzi : z.2 = i := by omega
    have := ((i8 z hz).mono hpre).2
    rw [hzi] at this
    omega
   rw [Ye] at hy
   have hzi : i = (buildM t ds f w.1 (narrowM k (λ _ => false) 0 rows) (belowM paths k 0)).2 := by omega
   have := (ho.2.mono (addF_prefix _ ⟨2, 0, paths.getD k [], w.2.1, [], w.2.2 ++ [((buildM t ds f w.1 (narrowM k (λ _ => false) 0 rows) (belowM paths k 0)).2 : Int)]⟩)).2
   rw [<- hzi] at this
   rw [<- hzi]
   omega
  rw [if_neg hlt]
  simp only
  have hpre := addF_prefix w.1 ⟨2, 0, paths.getD k [], w.2.1, [], w.2.2 ++ [-1]⟩
  refine ⟨(hot ▸ i2).trans hpre, addF_db (λ _ => h1) λ y hy i hi => ?_⟩
  rcases Yb.1 hy with hy | hy
  .rw [i6, Yn] at hy
   obtain ⟨z, hz, hzy⟩ := Ya.1 hy
   have hzi : z.2 = i := by omega
   have := ((i8 z hz).mono hpre).2
   rw [hzi] at this
   omega
  rw [Ye] at hy
  omega
def enumR : Nat -> List (List Pat) -> List MRow
 | _, [] => []
 | k, r :: rs => (k, r) :: enumR (k + 1) rs
theorem enumR_snoc : ∀ (k : Nat) (l : List (List Pat)) (r : List Pat), enumR k (l ++ [r]) = enumR k l ++ [(k + l.length, r)]
 | k, [], r => rfl
 | k, x :: l, r => by
  rw [Yab, enumR, enumR, enumR_snoc (k + 1) l r, Yab, Yj]
  rw [show k + 1 + l.length = k + (l.length + 1) by omega]
theorem enumR_mem : ∀ {k : Nat} {l : List (List Pat)} {z : MRow}, z ∈ enumR k l -> z.2 ∈ l
 | k, x :: l, z, h => by
  rcases Ym.1 h with rfl | h
  .exact Yg ..
  exact Yd _ (enumR_mem h)
theorem enumR_len : ∀ (k : Nat) (l : List (List Pat)), (enumR k l).length = l.length
 | k, [] => rfl
 | k, x :: l => by rw [enumR, Yj, Yj, enumR_len]
theorem enumR_w : ∀ (k : Nat) (l : List (List Pat)), wM (enumR k l) = wR l
 | k, [] => rfl
 | k, x :: l => by rw [enumR, wM, wR, enumR_w]
def pathsOf (rows : List (List Pat)) : List (List Int) := (List.range (width rows)).map λ n : Nat => [(n : Int)]
def compF (t : Tab) (ds : List DataSig) (rows : List (List Pat)) : BSt × Nat := buildM t ds 401 ⟨[], 0, false⟩ (enumR 0 rows) (pathsOf rows)
def compOut (ds : List DataSig) (rows : List (List Pat)) : List MNode × Int :=
 if checkF ds rows ≠ 0 then ([], checkF ds rows) else match buildF 0 ds [] with
  | some t => if (compF t ds rows).1.full = true then ([], 2) else ((compF t ds rows).1.out.take ((compF t ds rows).2 + 1), 0)
  | none => ([], 0)
theorem nbad_any {ds : List DataSig} {rows : List (List Pat)} (h : checkF ds rows = 0) : ¬ missBad rows (width rows) := by
 cases hr : rows with
 | nil => rintro (h | h | ⟨h, _⟩) <;> first | exact absurd h (by decide) | exact h rfl
 | cons r rs =>
  rw [<- hr]
  exact nbad_width h (by rw [hr]; simp)
theorem comp_pre {ds : List DataSig} {rows : List (List Pat)} {t : Tab} {τs : List Ty} (h : checkF ds rows = 0) (hb : buildF 0 ds [] = some t) (hτ : (τs.length : Int) = width rows) (hT : Typed ds t rows τs) : MPre t 401 (enumR 0 rows) (pathsOf rows) τs := by
 have hsm := (check_parts h hb).1
 have hw := wR_le rows
 have hn := hsm.nodes
 have hnb := nbad_any h
 have h16 : width rows <= 16 := by
  rcases Decidable.em (16 < (width rows : Int)) with h1 | h1
  .exact absurd (.inr (.inl h1)) hnb
  omega
 refine ⟨λ r hr => hT.pre.ty _ (enumR_mem hr), by simp [pathsOf]; omega, by rw [enumR_len]; exact hsm.rows, by rw [enumR_w]; omega, by rw [enumR_w]; omega, λ p hp => ?_⟩
 obtain ⟨n, _, rfl⟩ := Ya.1 hp
 exact ⟨by simp, by rw [enumR_w, Yo]; omega⟩
end Go.PM
namespace Go.PM
open Go.VL
theorem compOut_zero {ds : List DataSig} {rows : List (List Pat)} (h : (compOut ds rows).2 = 0) : checkF ds rows = 0 := by
 unfold compOut at h
 by_cases hc : checkF ds rows ≠ 0
 .rw [if_pos hc] at h; exact absurd h hc
 exact Decidable.not_not.1 hc
end Go.PM
namespace Go.PM
open Go.VL
def PathOk (s s' : BSt) : Prop := ∀ n ∈ s'.out, n ∈ s.out \/ n.path.length <= 1000
theorem PathOk.trans {a b c : BSt} (h : PathOk a b) (k : PathOk b c) : PathOk a c := λ n hn => (k n hn).elim (h n) .inr
theorem addF_path {s s1 : BSt} {n : MNode} (h : PathOk s s1) (hn : n.path.length <= 1000) : PathOk s (addF s1 n).1 := λ x hx => by
 unfold addF at hx
 split at hx
 .exact h x hx
 rcases Yb.1 hx with hx | hx
 .exact h x hx
 rw [Ye] at hx
 exact .inr (hx ▸ hn)
theorem buildM_path {t : Tab} {ds : List DataSig} (hok : TabOk t ds) : ∀ (f : Nat) (s : BSt) (rows : List MRow) (paths : List (List Int)) (τs : List Ty), MPre t f rows paths τs -> PathOk s (buildM t ds f s rows paths).1
 | 0, s, rows, paths, τs, h => absurd h.fuel (Yan _)
 | f + 1, s, rows, paths, τs, h => by
  have ht : PathOk s (tick s) := λ n hn => .inl hn
  have hpk : ∀ k, (paths.getD k []).length <= 1000 := λ k => by
   rw [Ys]
   cases hk : paths[k]? with
   | none => exact Yao _
   | some p => have := (h.deep p (Yf hk)).2; simp only [Option.getD_some]; omega
  rcases buildM_cases (s := s) hok h with ⟨e, _⟩ | ⟨hft, r0, rs, er, ⟨e, _⟩ | ⟨k, p, τ, ha, ⟨hk, e⟩ | ⟨d, g, a, D, hτ, hk, hta, hD, hcl, hcs, e⟩⟩⟩
  .rw [e]; exact addF_path ht (Yao _)
  .rw [e]; exact addF_path ht (Yao _)
  .rw [e, wordsF]
   obtain ⟨_, i2, _⟩ := wordsL_ind (rc := buildM t ds f) (rows := rows) (paths := paths) (k := k) (R := PathOk) (I := λ _ => True) (Q := λ _ _ _ => True)
    (λ s n hn => .inl hn) (λ a b c h1 h2 => h1.trans h2) (λ _ _ _ _ _ _ => trivial) rows (tick s) [] [] trivial λ r hr s' _ hf => ⟨trivial, buildM_path hok f s' _ _ _ (word_child (isInt (wordAt k r)) h ha hk), trivial⟩
   exact addF_path ((ht.trans i2).trans (buildM_path hok f _ _ _ _ (other_child h ha))) (hpk k)
  subst hτ
  rw [e, consF]
  obtain ⟨_, i2, _⟩ := consL_ind (rc := buildM t ds f) (rows := rows) (paths := paths) (k := k) (R := PathOk) (I := λ _ => True) (Q := λ _ _ _ => True)
   (λ s n hn => .inl hn) (λ a b c h1 h2 => h1.trans h2) (λ _ _ _ _ _ _ => trivial) D.cons (tick s) [] [] trivial λ c hc s' _ hh => by
    obtain ⟨a', hta'⟩ := hcs c hc
    exact ⟨trivial, buildM_path hok f s' _ _ _ (con_child h ha hta' hh), trivial⟩
  split
  .exact addF_path ((ht.trans i2).trans (buildM_path hok f _ _ _ _ (other_child h ha))) (hpk k)
  exact addF_path (ht.trans i2) (hpk k)
end Go.PM
namespace Go.PM
open Go.VL
end Go.PM
namespace Go.PM
open Go.VL
def Sem : List MRow -> List Val -> Option Nat -> Prop
 | [], _, o => o = none
 | r :: rs, vs, o => (matL r.2 vs /\ o = some r.1) \/ (¬ matL r.2 vs /\ Sem rs vs o)
theorem matL_at {r : List Pat} {vs : List Val} {k : Nat} {p : Pat} {v : Val} (hl : r.length = vs.length) (hp : r[k]? = some p) (hv : vs[k]? = some v) : matL r vs ↔ matL (r.take k) (vs.take k) /\ matP p v /\ matL (r.drop (k + 1)) (vs.drop (k + 1)) := by
 conv => lhs; rw [split_at hp, split_at hv]
 rw [matL_append (by rw [Yh, Yh, hl]), matL_cons]
theorem matL_new {r : List Pat} {vs as : List Val} {k many : Nat} {p : Pat} {v : Val} (hl : r.length = vs.length) : matL (newPats k many p r) (vs.take k ++ (vs.drop (k + 1) ++ as)) ↔ matL (r.take k) (vs.take k) /\ matL (r.drop (k + 1)) (vs.drop (k + 1)) /\ matL (if free p = false /\ p.kind = 3 then p.args else anysL many) as := by
 unfold newPats
 rw [matL_append (by rw [Yh, Yh, hl]), matL_append (by rw [Yr, Yr, hl])]
theorem sem_narrow {k many : Nat} {is : Pat -> Bool} {vs as : List Val} {v : Val} (hv : vs[k]? = some v) (ha : as.length = many) : ∀ {rows : List MRow}, (∀ r ∈ rows, r.2.length = vs.length) ->
  (∀ r ∈ rows, ∀ p, r.2[k]? = some p -> free p = false -> (is p = true -> (matP p v ↔ matL (if p.kind = 3 then p.args else anysL many) as)) /\ (is p = false -> ¬ matP p v)) ->
  ∀ o, Sem (narrowM k is many rows) (vs.take k ++ (vs.drop (k + 1) ++ as)) o ↔ Sem rows vs o
 | [], _, _, o => Iff.rfl
 | r :: rows, hl, hc, o => by
  have hrl := hl r (Yg ..)
  have hkv := (Yc.1 hv).1
  obtain ⟨p, hp⟩ := get_of_lt r.2 k (by omega)
  have ih := sem_narrow hv ha (λ r' hr' => hl r' (Yd _ hr')) (λ r' hr' => hc r' (Yd _ hr')) o
  have hr := hc r (Yg ..) p hp
  have hm := matL_at hrl hp hv
  rw [narrowM_cons k is many r rows hp]
  by_cases hk : (free p || is p) = true
  .rw [if_pos hk]
   have he : matL (newPats k many p r.2) (vs.take k ++ (vs.drop (k + 1) ++ as)) ↔ matL r.2 vs := by
    rw [matL_new (v := v) hrl, hm]
    cases hf : free p with
    | true =>
     rw [if_neg (by simp)]
     have h1 : matL (anysL many) as := by rw [<- ha]; exact matL_anys as
     have h2 := matP_free hf v
     exact ⟨λ h => ⟨h.1, h2, h.2.1⟩, λ h => ⟨h.1, h.2.2, h1⟩⟩
    | false =>
     rw [hf, Bool.false_or] at hk
     have h1 := (hr hf).1 hk
     have h2 : (if false = false /\ p.kind = 3 then p.args else anysL many) = if p.kind = 3 then p.args else anysL many := by simp
     rw [h2, <- h1]
     exact ⟨λ h => ⟨h.1, h.2.2, h.2.1⟩, λ h => ⟨h.1, h.2.2, h.2.1⟩⟩
   simp only [Sem, he, ih]
  rw [if_neg hk]
  rw [Bool.not_eq_true, Bool.or_eq_false_iff] at hk
  have hno : ¬ matL r.2 vs := λ h => (hr hk.1).2 hk.2 (hm.1 h).2.1
  simp only [Sem, ih]
  constructor
  .exact λ h => .inr ⟨hno, h⟩
  rintro (h | h)
  .exact absurd h.1 hno
  exact h.2
inductive Lf (out : List MNode) : Nat -> Option Nat -> Prop where
 | fail {i : Nat} {n : MNode} : out[i]? = some n -> n.kind = 0 -> Lf out i none
 | row {i k : Nat} {n : MNode} : out[i]? = some n -> n.kind = 1 -> n.row = k -> Lf out i (some k)
 | kid {i j : Nat} {n : MNode} {o : Option Nat} : out[i]? = some n -> (j : Int) ∈ n.kids -> j < i -> Lf out j o -> Lf out i o
theorem Lf.mono {a b : List MNode} (hp : a <+: b) {i : Nat} {o : Option Nat} (h : Lf a i o) : Lf b i o := by
 have hg : ∀ {i : Nat} {n : MNode}, a[i]? = some n -> b[i]? = some n := λ hi => by
  obtain ⟨c, rfl⟩ := hp
  rw [Yp (Yc.1 hi).1]
  exact hi
 induction h with
 | fail h1 h2 => exact .fail (hg h1) h2
 | row h1 h2 h3 => exact .row (hg h1) h2 h3
 | kid h1 h2 h3 _ ih => exact .kid (hg h1) h2 h3 ih
theorem Lf.back {a b : List MNode} (hp : a <+: b) {i : Nat} {o : Option Nat} (h : Lf b i o) : i < a.length -> Lf a i o := by
 have hg : ∀ {i : Nat} {n : MNode}, i < a.length -> b[i]? = some n -> a[i]? = some n := λ hi hb => by
  obtain ⟨c, rfl⟩ := hp
  rwa [Yp hi] at hb
 induction h with
 | fail h1 h2 => exact λ hi => .fail (hg hi h1) h2
 | row h1 h2 h3 => exact λ hi => .row (hg hi h1) h2 h3
 | kid h1 h2 h3 _ ih => exact λ hi => .kid (hg hi h1) h2 h3 (ih (by omega))
def KidsOk (out : List MNode) : Prop := ∀ (i : Nat) n, out[i]? = some n -> ∀ y ∈ n.kids, y < i
theorem Lf.node {out : List MNode} {i : Nat} {n : MNode} {o : Option Nat} (hk : KidsOk out) (hn : out[i]? = some n) (h : n.kind = 2 \/ n.kind = 3) : Lf out i o ↔ ∃ j : Nat, (j : Int) ∈ n.kids /\ Lf out j o := by
 constructor
 .intro hl
  cases hl with
  | fail h1 h2 => rw [hn] at h1; injection h1 with h1; subst h1; omega
  | row h1 h2 h3 => rw [hn] at h1; injection h1 with h1; subst h1; omega
  | kid h1 h2 h3 h4 => rw [hn] at h1; injection h1 with h1; subst h1; exact ⟨_, h2, h4⟩
 rintro ⟨j, h1, h2⟩
 exact .kid hn h1 (by have := hk i n hn _ h1; omega) h2
theorem addF_kids {s : BSt} {n : MNode} (hk : KidsOk s.out) (h : ∀ y ∈ n.kids, y < s.out.length) : KidsOk (addF s n).1.out := λ i m hm y hy => by
 unfold addF at hm
 split at hm
 .exact hk i m hm y hy
 rw [List.getElem?_append] at hm
 split at hm
 .exact hk i m hm y hy
 rename_i hlt
 have : i - s.out.length = 0 := by
  rcases Nat.eq_zero_or_pos (i - s.out.length) with h | h
  .exact h
  rw [Yah (by simp only [Yo]; omega)] at hm; cases hm
 rw [this] at hm
 injection hm with hm
 subst hm
 have := h y hy
 omega
end Go.PM
namespace Go.PM
open Go.VL
theorem Lf_fail {out : List MNode} {i : Nat} {o : Option Nat} (h : out[i]? = some failN) : Lf out i o ↔ o = none := by
 constructor
 .intro hl
  cases hl with
  | fail _ _ => rfl
  | row h1 h2 _ => rw [h] at h1; injection h1 with h1; subst h1; cases h2
  | kid h1 h2 _ _ => rw [h] at h1; injection h1 with h1; subst h1; cases h2
 rintro rfl
 exact .fail h rfl
theorem Lf_row {out : List MNode} {i k : Nat} {o : Option Nat} (h : out[i]? = some (rowN k)) : Lf out i o ↔ o = some k := by
 constructor
 .intro hl
  cases hl with
  | fail h1 h2 => rw [h] at h1; injection h1 with h1; subst h1; cases h2
  | row h1 _ h3 =>
   rw [h] at h1
   injection h1 with h1
   subst h1
   have : (k : Int) = _ := h3
   congr 1
   omega
  | kid h1 h2 _ _ => rw [h] at h1; injection h1 with h1; subst h1; cases h2
 rintro rfl
 exact .row h rfl rfl
theorem fitsL_inh {ds : List DataSig} : ∀ {τs : List Ty}, (∀ τ ∈ τs, Good ds τ) -> ∃ vs, fitsL ds τs vs
 | [], _ => ⟨[], trivial⟩
 | τ :: τs, h => by
  obtain ⟨v, hv⟩ := good_inh τ (h τ (Yg ..))
  obtain ⟨vs, hvs⟩ := fitsL_inh (τs := τs) λ σ hσ => h σ (Yd _ hσ)
  exact ⟨v :: vs, hv, hvs⟩
theorem matL_free : ∀ {r : List Pat} {vs : List Val}, r.any nf = false -> r.length = vs.length -> matL r vs
 | [], [], _, _ => rfl
 | p :: r, v :: vs, h, hl => by
  rw [List.any_cons, Bool.or_eq_false_iff] at h
  exact matL_cons.2 ⟨matP_free (by simpa [nf] using h.1) v, matL_free h.2 (by simpa using hl)⟩
 | [], _ :: _, _, hl => by simp at hl
 | _ :: _, [], _, hl => by simp at hl
theorem fits_split {ds : List DataSig} {τs : List Ty} {vs : List Val} {k : Nat} {τ : Ty} (hk : τs[k]? = some τ) : fitsL ds τs vs ↔ ∃ v, vs[k]? = some v /\ fits ds τ v /\ fitsL ds (τs.take k) (vs.take k) /\ fitsL ds (τs.drop (k + 1)) (vs.drop (k + 1)) := by
 have hlt := (Yc.1 hk).1
 constructor
 .intro h
  have hl := h.len
  obtain ⟨v, hv⟩ : ∃ v, vs[k]? = some v := ⟨vs[k]'(by omega), Yu _⟩
  rw [split_at hk, split_at hv, fitsL_append (by rw [Yh, Yh, hl])] at h
  exact ⟨v, hv, h.2.1, h.1, h.2.2⟩
 rintro ⟨v, hv, h1, h2, h3⟩
 rw [split_at hk, split_at hv, fitsL_append h2.len.symm]
 exact ⟨h2, h1, h3⟩
theorem fits_ins {ds : List DataSig} {τs σs : List Ty} {ws : List Val} {k : Nat} {τ : Ty} (hk : τs[k]? = some τ) (h : fitsL ds (newTys k σs τs) ws) : ∃ A B as, ws = A ++ (B ++ as) /\ A.length = k /\ fitsL ds σs as /\ ∀ v, fits ds τ v -> fitsL ds τs (A ++ v :: B) /\ (A ++ v :: B)[k]? = some v /\ (A ++ v :: B).take k = A /\ (A ++ v :: B).drop (k + 1) = B := by
 have hlt := (Yc.1 hk).1
 have hl := h.len
 rw [newTys_len hlt] at hl
 have hA : (ws.take k).length = k := by rw [Yh]; omega
 have hB : ((ws.drop k).take (τs.length - (k + 1))).length = τs.length - (k + 1) := by rw [Yh, Yr]; omega
 have e : ws = ws.take k ++ ((ws.drop k).take (τs.length - (k + 1)) ++ (ws.drop k).drop (τs.length - (k + 1))) := by rw [Yae, Yae]
 generalize ws.take k = A at hA e
 generalize (ws.drop k).take (τs.length - (k + 1)) = B at hB e
 generalize (ws.drop k).drop (τs.length - (k + 1)) = as at e
 subst e
 unfold newTys at h
 rw [fitsL_append (by rw [Yh]; omega), fitsL_append (by rw [Yr]; omega)] at h
 refine ⟨A, B, as, rfl, hA, h.2.2, λ v hv => ?_⟩
 have h1 : (A ++ v :: B)[k]? = some v := by rw [Yal (by omega), hA]; simp
 have h2 : (A ++ v :: B).take k = A := by rw [List.take_append_of_le_length (by omega), List.take_of_length_le (by omega)]
 have h3 : (A ++ v :: B).drop (k + 1) = B := by
  rw [show k + 1 = A.length + 1 by omega, <- List.drop_drop, List.drop_left]
  rfl
 refine ⟨(fits_split hk).2 ⟨v, h1, hv, ?_, ?_⟩, h1, h2, h3⟩
 .rw [h2]; exact h.1
 rw [h3]; exact h.2.1
theorem int_out (l : List Int) : ∃ n : Int, ∀ x ∈ l, x < n := by
 induction l with
 | nil => exact ⟨0, λ x hx => by cases hx⟩
 | cons a l ih =>
  obtain ⟨n, hn⟩ := ih
  refine ⟨max n (a + 1), λ x hx => ?_⟩
  rcases Ym.1 hx with rfl | hx
  .omega
  have := hn x hx; omega
def Leaves (ds : List DataSig) (τs : List Ty) (rows : List MRow) (out : List MNode) (i : Nat) : Prop := ∀ o, Lf out i o ↔ ∃ vs, fitsL ds τs vs /\ Sem rows vs o
theorem Leaves.mono {ds : List DataSig} {τs : List Ty} {rows : List MRow} {a b : List MNode} {i : Nat} (hp : a <+: b) (hi : i < a.length) (h : Leaves ds τs rows a i) : Leaves ds τs rows b i := λ o =>
 ⟨λ hl => (h o).1 (hl.back hp hi), λ hr => ((h o).2 hr).mono hp⟩
structure Built (ds : List DataSig) (τs : List Ty) (rows : List MRow) (s' : BSt) (i : Nat) : Prop where
 idx : i < s'.out.length
 leaves : s'.many <= 4096 -> Leaves ds τs rows s'.out i
structure Grows (s s' : BSt) : Prop where
 out : s.out <+: s'.out
 many : s.many <= s'.many
theorem Built.mono {ds : List DataSig} {τs : List Ty} {rows : List MRow} {s s' : BSt} {i : Nat} (hg : Grows s s') (h : Built ds τs rows s i) : Built ds τs rows s' i :=
 ⟨by have := hg.out.length_le; have := h.idx; omega, λ hm => (h.leaves (by have := hg.many; omega)).mono hg.out h.idx⟩
theorem Grows.trans {a b c : BSt} (h : Grows a b) (k : Grows b c) : Grows a c := ⟨h.out.trans k.out, Nat.le_trans h.many k.many⟩
theorem addF_grows (s : BSt) (n : MNode) : Grows s (addF s n).1 := ⟨addF_prefix s n, by rw [(addF_many s n).1]; exact Yam _⟩
theorem tick_grows (s : BSt) : Grows s (tick s) := ⟨Yl, Nat.le_succ _⟩
structure BOk (s : BSt) : Prop where
 full : s.full = decide (4096 < s.many)
 kids : KidsOk s.out
theorem addF_at (s : BSt) (n : MNode) : (addF s n).1.out[(addF s n).2]? = some n := by
 obtain ⟨_, _, _, h⟩ := addF_spec s n
 exact h
theorem nf_words {t : Tab} {rows : List MRow} {τs : List Ty} {k : Nat} {p0 : Pat} {τ : Ty} (hT : ∀ r ∈ rows, rowT t τs r.2) (ha : AtHead t rows τs k p0 τ) (hk : p0.kind = 2) : ∀ r ∈ rows, ∀ p, r.2[k]? = some p -> free p = false -> p.kind = 2 := λ r hr p hp hf => int_ty ha.wt hk (rowT.get (hT r hr) k τ p ha.ty hp) hf
theorem words_leaves {t : Tab} {ds : List DataSig} {rows : List MRow} {τs : List Ty} {k : Nat} {p0 : Pat} {τ : Ty} (hT : ∀ r ∈ rows, rowT t τs r.2) (ha : AtHead t rows τs k p0 τ) (hk : p0.kind = 2) {out : List MNode} {ws : List Int} {ys : List (Int × Nat)} {j0 : Nat}
  (hws : ws = ys.map (·.1)) (hall : ∀ r ∈ rows, free (r.2.getD k anyP) = true \/ wordAt k r ∈ ws) (hy : ∀ z ∈ ys, Leaves ds (newTys k [] τs) (narrowM k (isInt z.1) 0 rows) out z.2) (ho : Leaves ds (newTys k [] τs) (narrowM k (λ _ => false) 0 rows) out j0) (o : Option Nat) :
  ((∃ z ∈ ys, Lf out z.2 o) \/ Lf out j0 o) ↔ ∃ vs, fitsL ds τs vs /\ Sem rows vs o := by
 have h2 := nf_words hT ha hk
 have hτ : ∀ n, fits ds τ (.int n) := λ n => by
  have hw := ha.wt
  cases τ with
  | any => trivial
  | int => trivial
  | dat d g =>
   rcases hw with h | ⟨h, _⟩
   .rw [ha.free] at h; cases h
   omega
 have hlen : ∀ {vs : List Val}, fitsL ds τs vs -> ∀ r ∈ rows, r.2.length = vs.length := λ hf r hr => by rw [(hT r hr).len, hf.len]
 have hint : ∀ {vs : List Val} {n : Int}, fitsL ds τs vs -> vs[k]? = some (.int n) -> ∀ o, Sem (narrowM k (isInt n) 0 rows) (vs.take k ++ (vs.drop (k + 1) ++ [])) o ↔ Sem rows vs o := λ hf hv =>
  sem_narrow (as := []) hv rfl (hlen hf) λ r hr p hp hpf => by
   have hk2 := h2 r hr p hp hpf
   rw [if_neg (by omega)]
   refine ⟨λ hi => ⟨λ _ => rfl, λ _ => (matP_eq _ _).2 (.inr (.inl ⟨hk2, ?_⟩))⟩, λ hi hm => ?_⟩
   .have e : p.n = _ := of_decide_eq_true hi
    rw [e]
   rcases (matP_eq _ _).1 hm with h | ⟨_, h⟩ | ⟨_, _, h, _⟩
   .rw [hpf] at h; cases h
   .injection h with h
    rw [isInt, decide_eq_false_iff_not] at hi
    exact hi h.symm
   cases h
 have hnev : ∀ {vs : List Val} {v : Val}, fitsL ds τs vs -> vs[k]? = some v -> (∀ n ∈ ws, v ≠ .int n) -> ∀ o, Sem (narrowM k (λ _ => false) 0 rows) (vs.take k ++ (vs.drop (k + 1) ++ [])) o ↔ Sem rows vs o := λ hf hv hn =>
  sem_narrow (as := []) hv rfl (hlen hf) λ r hr p hp hpf => by
   refine ⟨λ h => (by cases h), λ _ hm => ?_⟩
   have hg : r.2.getD k anyP = p := by simp [hp]
   rcases hall r hr with h | h
   .rw [hg, hpf] at h; cases h
   rw [wordAt, hg] at h
   rcases (matP_eq _ _).1 hm with h' | ⟨_, h'⟩ | ⟨h', _⟩
   .rw [hpf] at h'; cases h'
   .exact hn _ h h'
   have := h2 r hr p hp hpf; omega
 constructor
 .rintro (⟨z, hz, hl⟩ | hl)
  .obtain ⟨vs', hf, hs⟩ := (hy z hz o).1 hl
   obtain ⟨A, B, as, rfl, hA, has, hv⟩ := fits_ins ha.ty hf
   obtain ⟨h1, h3, h4, h5⟩ := hv (.int z.1) (hτ _)
   have := has.len
   obtain rfl := Yz this
   refine ⟨_, h1, (hint h1 h3 o).1 ?_⟩
   rw [h4, h5]
   exact hs
  obtain ⟨vs', hf, hs⟩ := (ho o).1 hl
  obtain ⟨n, hn⟩ := int_out ws
  obtain ⟨A, B, as, rfl, hA, has, hv⟩ := fits_ins ha.ty hf
  obtain ⟨h1, h3, h4, h5⟩ := hv (.int n) (hτ _)
  have := has.len
  obtain rfl := Yz this
  refine ⟨_, h1, (hnev h1 h3 (λ m hm e => by injection e with e; have := hn m hm; omega) o).1 ?_⟩
  rw [h4, h5]
  exact hs
 rintro ⟨vs, hf, hs⟩
 obtain ⟨v, hv, hfv, hf1, hf2⟩ := (fits_split ha.ty).1 hf
 have hnew : fitsL ds (newTys k [] τs) (vs.take k ++ (vs.drop (k + 1) ++ [])) := by
  unfold newTys
  rw [fitsL_append hf1.len.symm, fitsL_append hf2.len.symm]
  exact ⟨hf1, hf2, trivial⟩
 by_cases hin : ∃ n ∈ ws, v = .int n
 .obtain ⟨n, hn, rfl⟩ := hin
  rw [hws] at hn
  obtain ⟨z, hz, rfl⟩ := Ya.1 hn
  exact .inl ⟨z, hz, (hy z hz o).2 ⟨_, hnew, (hint hf hv o).2 hs⟩⟩
 exact .inr ((ho o).2 ⟨_, hnew, (hnev hf hv (λ n hn e => hin ⟨n, hn, e⟩) o).2 hs⟩)
theorem cons_leaves {t : Tab} {ds : List DataSig} {rows : List MRow} {τs : List Ty} {k d : Nat} {g : Str -> Nat -> Ty} {p0 : Pat} {D : DataSig} (hT : ∀ r ∈ rows, rowT t τs r.2) (ha : AtHead t rows τs k p0 (.dat d g)) (hD : ds[d]? = some D) (hcs : ∀ c ∈ D.cons, ∃ a, tget t c.name = some (d, a, c.args.length)) (hgood : Good ds (.dat d g))
  {out : List MNode} {ys : List (ConSig × Nat)} {j0 : Option Nat} (hys : ys.map (·.1) = D.cons.filter (λ c => hasCon rows k c.name)) (hy : ∀ z ∈ ys, Leaves ds (newTys k (argT (g z.1.name) z.1.args.length) τs) (narrowM k (isCon z.1.name) z.1.args.length rows) out z.2)
  (hj : j0 = none ↔ ∀ c ∈ D.cons, hasCon rows k c.name = true) (ho : ∀ j, j0 = some j -> Leaves ds (newTys k [] τs) (narrowM k (λ _ => false) 0 rows) out j) (o : Option Nat) :
  ((∃ z ∈ ys, Lf out z.2 o) \/ ∃ j, j0 = some j /\ Lf out j o) ↔ ∃ vs, fitsL ds τs vs /\ Sem rows vs o := by
 have hlen : ∀ {vs : List Val}, fitsL ds τs vs -> ∀ r ∈ rows, r.2.length = vs.length := λ hf r hr => by rw [(hT r hr).len, hf.len]
 have h3 : ∀ r ∈ rows, ∀ p, r.2[k]? = some p -> free p = false -> p.kind = 3 /\ ∃ a, tget t p.name = some (d, a, p.args.length) := λ r hr p hp hpf => by
  rcases rowT.get (hT r hr) k _ p ha.ty hp with h | ⟨h, h', _⟩
  .rw [hpf] at h; cases h
  exact ⟨h, h'⟩
 have hcon : ∀ {vs as : List Val} {c : ConSig}, c ∈ D.cons -> fitsL ds τs vs -> as.length = c.args.length -> vs[k]? = some (.con c.name as) -> ∀ o, Sem (narrowM k (isCon c.name) c.args.length rows) (vs.take k ++ (vs.drop (k + 1) ++ as)) o ↔ Sem rows vs o := λ hc hf hal hv =>
  sem_narrow hv hal (hlen hf) λ r hr p hp hpf => by
   obtain ⟨hk3, a, ht⟩ := h3 r hr p hp hpf
   rw [if_pos hk3]
   refine ⟨λ hi => ?_, λ hi hm => ?_⟩
   .have hn : p.name = _ := of_decide_eq_true hi
    rw [matP_eq, hn]
    constructor
    .rintro (h | ⟨_, h⟩ | ⟨_, as', h, h'⟩)
     .rw [hpf] at h; cases h
     .cases h
     injection h with _ h; subst h; exact h'
    intro h; exact .inr (.inr ⟨hk3, _, rfl, h⟩)
   rw [isCon, decide_eq_false_iff_not] at hi
   rcases (matP_eq _ _).1 hm with h | ⟨_, h⟩ | ⟨_, as', h, _⟩
   .rw [hpf] at h; cases h
   .cases h
   injection h with h _; exact hi h.symm
 have hnev : ∀ {vs as : List Val} {c : ConSig}, hasCon rows k c.name = false -> fitsL ds τs vs -> vs[k]? = some (.con c.name as) -> ∀ o, Sem (narrowM k (λ _ => false) 0 rows) (vs.take k ++ (vs.drop (k + 1) ++ [])) o ↔ Sem rows vs o := λ hc hf hv =>
  sem_narrow (as := []) hv rfl (hlen hf) λ r hr p hp hpf => by
   refine ⟨λ h => (by cases h), λ _ hm => ?_⟩
   have hg : r.2.getD k anyP = p := by simp [hp]
   rcases (matP_eq _ _).1 hm with h | ⟨_, h⟩ | ⟨_, as', h, _⟩
   .rw [hpf] at h; cases h
   .cases h
   injection h with h _
   have := Yaa.1 hc r hr
   simp only [hg, hpf, isCon] at this
   simp [h] at this
 have hmem : ∀ z ∈ ys, z.1 ∈ D.cons /\ hasCon rows k z.1.name = true := λ z hz => by
  have h : z.1 ∈ ys.map (·.1) := Ya.2 ⟨z, hz, rfl⟩
  rw [hys] at h
  exact Yv.1 h
 constructor
 .rintro (⟨z, hz, hl⟩ | ⟨j, hj0, hl⟩)
  .obtain ⟨hzc, hzh⟩ := hmem z hz
   obtain ⟨vs', hf, hs⟩ := (hy z hz o).1 hl
   obtain ⟨A, B, as, rfl, hA, has, hv⟩ := fits_ins ha.ty hf
   have hal : as.length = z.1.args.length := by rw [has.len, argT_len]
   obtain ⟨h1, h4, h5, h6⟩ := hv (.con z.1.name as) ⟨D, z.1, as, hD, hzc, rfl, hal, (fitsL_args hal).1 has⟩
   refine ⟨_, h1, (hcon hzc h1 hal h4 o).1 ?_⟩
   rw [h5, h6]
   exact hs
  obtain ⟨vs', hf, hs⟩ := (ho j hj0 o).1 hl
  obtain ⟨c, hc, hn⟩ : ∃ c ∈ D.cons, hasCon rows k c.name = false := by
   refine Classical.byContradiction λ h => ?_
   have : j0 = none := hj.2 λ c hc => by
    cases hh : hasCon rows k c.name with
    | true => rfl
    | false => exact absurd ⟨c, hc, hh⟩ h
   rw [hj0] at this
   cases this
  obtain ⟨as, hal, has⟩ := good_con (g := g c.name) (λ i => good_inh (g c.name i) (hgood.2 c.name i)) c.args.length
  obtain ⟨A, B, as', rfl, hA, has', hv⟩ := fits_ins ha.ty hf
  obtain ⟨h1, h4, h5, h6⟩ := hv (.con c.name as) ⟨D, c, as, hD, hc, rfl, hal, has⟩
  obtain rfl := Yz has'.len
  refine ⟨_, h1, (hnev hn h1 h4 o).1 ?_⟩
  rw [h5, h6]
  exact hs
 rintro ⟨vs, hf, hs⟩
 obtain ⟨v, hv, ⟨D', c, as, hD', hc, rfl, hal, has⟩, hf1, hf2⟩ := (fits_split ha.ty).1 hf
 rw [hD] at hD'
 injection hD' with hD'
 subst hD'
 cases hh : hasCon rows k c.name with
 | true =>
  have h : c ∈ ys.map (·.1) := by rw [hys]; exact Yv.2 ⟨hc, hh⟩
  obtain ⟨z, hz, rfl⟩ := Ya.1 h
  refine .inl ⟨z, hz, (hy z hz o).2 ⟨_, ?_, (hcon hc hf hal hv o).2 hs⟩⟩
  unfold newTys
  rw [fitsL_append hf1.len.symm, fitsL_append hf2.len.symm]
  exact ⟨hf1, hf2, (fitsL_args hal).2 has⟩
 | false =>
  obtain ⟨j, hj0⟩ : ∃ j, j0 = some j := by
   cases j0 with
   | some j => exact ⟨j, rfl⟩
   | none => have := hj.1 rfl c hc; rw [hh] at this; cases this
  refine .inr ⟨j, hj0, (ho j hj0 o).2 ⟨_, ?_, (hnev hh hf hv o).2 hs⟩⟩
  unfold newTys
  rw [fitsL_append hf1.len.symm, fitsL_append hf2.len.symm]
  exact ⟨hf1, hf2, trivial⟩
end Go.PM
namespace Go.PM
open Go.VL
theorem newTys_good {ds : List DataSig} {k : Nat} {σs τs : List Ty} (h : ∀ τ ∈ τs, Good ds τ) (hs : ∀ σ ∈ σs, Good ds σ) : ∀ τ ∈ newTys k σs τs, Good ds τ := λ τ hτ => by
 rcases Yb.1 hτ with hτ | hτ
 .exact h τ (Yw hτ)
 rcases Yb.1 hτ with hτ | hτ
 .exact h τ (Yx hτ)
 exact hs τ hτ
theorem filter_less {α : Type} (p : α -> Bool) : ∀ l : List α, (l.filter p).length < l.length ↔ ¬ ∀ x ∈ l, p x = true
 | [] => by simp
 | a :: l => by
  have ih := filter_less p l
  have hle := List.length_filter_le p l
  rw [Yag]
  cases hp : p a with
  | true =>
   rw [if_pos rfl, Yj, Yj]
   constructor
   .intro h hall
    exact ih.1 (by omega) λ x hx => hall x (Yd _ hx)
   intro h
   have := ih.2 λ hall => h λ x hx => by
    rcases Ym.1 hx with rfl | hx
    .exact hp
    exact hall x hx
   omega
  | false =>
   rw [if_neg (by simp), Yj]
   constructor
   .intro _ hall
    have := hall a (Yg ..)
    rw [hp] at this
    cases this
   intro _
   omega
theorem leaf_built {ds : List DataSig} {τs : List Ty} {rows : List MRow} {s : BSt} {n : MNode} (hk : n.kids = []) (hs : BOk s) (h : (addF s n).1.many <= 4096 -> ∀ o, Lf (addF s n).1.out (addF s n).2 o ↔ ∃ vs, fitsL ds τs vs /\ Sem rows vs o) : BOk (addF s n).1 /\ Grows s (addF s n).1 /\ Built ds τs rows (addF s n).1 (addF s n).2 := by
 obtain ⟨e1, e2⟩ := addF_many s n
 exact ⟨⟨by rw [e1, e2]; exact hs.full, addF_kids hs.kids λ y hy => by rw [hk] at hy; cases hy⟩, addF_grows s n, (Yc.1 (addF_at s n)).1, h⟩
theorem tick_ok {s : BSt} (h : BOk s) : BOk (tick s) := ⟨tick_full h.full, h.kids⟩
theorem node_built {ds : List DataSig} {τs : List Ty} {rows : List MRow} {s s1 : BSt} {n : MNode} (hk : n.kind = 2 \/ n.kind = 3) (hs : BOk s1) (hg : Grows s s1) (hkids : ∀ y ∈ n.kids, y < s1.out.length)
  (h : (addF s1 n).1.many <= 4096 -> ∀ o, (∃ j : Nat, (j : Int) ∈ n.kids /\ Lf (addF s1 n).1.out j o) ↔ ∃ vs, fitsL ds τs vs /\ Sem rows vs o) : BOk (addF s1 n).1 /\ Grows s (addF s1 n).1 /\ Built ds τs rows (addF s1 n).1 (addF s1 n).2 := by
 obtain ⟨e1, e2⟩ := addF_many s1 n
 have hko := addF_kids hs.kids hkids
 exact ⟨⟨by rw [e1, e2]; exact hs.full, hko⟩, hg.trans (addF_grows s1 n), (Yc.1 (addF_at s1 n)).1, λ hm o => (Lf.node hko (addF_at s1 n) hk).trans (h hm o)⟩
theorem buildM_leaves {t : Tab} {ds : List DataSig} (hok : TabOk t ds) : ∀ (f : Nat) (s : BSt) (rows : List MRow) (paths : List (List Int)) (τs : List Ty), MPre t f rows paths τs -> (∀ τ ∈ τs, Good ds τ) -> BOk s ->
  BOk (buildM t ds f s rows paths).1 /\ Grows s (buildM t ds f s rows paths).1 /\ Built ds τs rows (buildM t ds f s rows paths).1 (buildM t ds f s rows paths).2
 | 0, s, rows, paths, τs, h, _, _ => absurd h.fuel (Yan _)
 | f + 1, s, rows, paths, τs, h, hg, hs => by
  have hts := tick_ok hs
  have htg := tick_grows s
  rcases buildM_cases (s := s) hok h with ⟨e, hE⟩ | ⟨hft, r0, rs, er, ⟨e, hno⟩ | ⟨k, p, τ, ha, ⟨hk, e⟩ | ⟨d, g, a, D, hτ, hk, hta, hD, hcl, hcs, e⟩⟩⟩
  .rw [e]
   obtain ⟨h1, h2, h3⟩ := leaf_built (ds := ds) (τs := τs) (rows := rows) (n := failN) rfl hts λ hm o => by
    rw [(addF_many (tick s) failN).1] at hm
    have hr : rows.length = 0 := by
     rcases hE with hE | hE
     .exact hE
     rw [hts.full] at hE
     have := of_decide_eq_true hE
     omega
    obtain rfl := Yz hr
    rw [Lf_fail (addF_at _ _)]
    constructor
    .rintro rfl
     obtain ⟨vs, hv⟩ := fitsL_inh hg
     exact ⟨vs, hv, rfl⟩
    rintro ⟨vs, _, h⟩
    exact h
   exact ⟨h1, htg.trans h2, h3⟩
  .rw [e]
   obtain ⟨h1, h2, h3⟩ := leaf_built (ds := ds) (τs := τs) (rows := rows) (n := rowN r0.1) rfl hts λ hm o => by
    rw [Lf_row (addF_at _ _), er]
    have hT := h.ty r0 (by rw [er]; exact Yg ..)
    constructor
    .rintro rfl
     obtain ⟨vs, hv⟩ := fitsL_inh hg
     exact ⟨vs, hv, .inl ⟨matL_free hno (by rw [hT.len, hv.len]), rfl⟩⟩
    rintro ⟨vs, hv, ⟨_, h⟩ | ⟨h, _⟩⟩
    .exact h
    exact absurd (matL_free hno (by rw [hT.len, hv.len])) h
   exact ⟨h1, htg.trans h2, h3⟩
  .rw [e, wordsF]
   have hgn : ∀ τ ∈ newTys k [] τs, Good ds τ := newTys_good hg λ σ hσ => by cases hσ
   obtain ⟨i1, i2, i3, _, ys, i5, i6, i7, i8⟩ := wordsL_ind (rc := buildM t ds f) (rows := rows) (paths := paths) (k := k) (R := Grows) (I := BOk) (Q := λ n s y => Built ds (newTys k [] τs) (narrowM k (isInt n) 0 rows) s y)
    (λ s => ⟨Yl, Yam _⟩) (λ a b c h1 h2 => h1.trans h2) (λ c s s' y h1 h2 => h2.mono h1) rows (tick s) [] [] hts λ r hr s' hs' hf => buildM_leaves hok f s' _ _ _ (word_child (isInt (wordAt k r)) h ha hk) hgn hs'
   generalize wordsL (buildM t ds f) rows paths k rows (tick s) [] [] = w at i1 i2 i3 i5 i6 i8 ⊢
   obtain ⟨o1, o2, o3⟩ := buildM_leaves hok f w.1 _ _ _ (other_child h ha) hgn i1
   simp only [otherF]
   generalize buildM t ds f w.1 (narrowM k (λ _ => false) 0 rows) (belowM paths k 0) = q at o1 o2 o3 ⊢
   rw [Yn] at i5 i6
   have hkid : ∀ j : Nat, (j : Int) ∈ w.2.2 ++ [(q.2 : Int)] ↔ (∃ z ∈ ys, z.2 = j) \/ j = q.2 := λ j => by
    rw [Yb, i6, Ye, Ya]
    constructor
    .rintro (⟨z, hz, h⟩ | h)
     .exact .inl ⟨z, hz, by omega⟩
     exact .inr (by omega)
    rintro (⟨z, hz, h⟩ | h)
    .exact .inl ⟨z, hz, by omega⟩
    exact .inr (by omega)
   refine node_built (.inr rfl) o1 ((htg.trans i2).trans o2) (λ y hy => ?_) λ hm o => ?_
   .rcases Yb.1 hy with hy | hy
    .rw [i6] at hy
     obtain ⟨z, hz, rfl⟩ := Ya.1 hy
     have := (i8 z hz).1.idx
     have := o2.out.length_le
     omega
    rw [Ye] at hy
    have := o3.idx
    omega
   have hm2 : q.1.many <= 4096 := by rw [(addF_many q.1 _).1] at hm; exact hm
   have hpre := addF_prefix q.1 ⟨3, 0, paths.getD k [], [], w.2.1, w.2.2 ++ [(q.2 : Int)]⟩
   have hw := words_leaves (ds := ds) (out := (addF q.1 ⟨3, 0, paths.getD k [], [], w.2.1, w.2.2 ++ [(q.2 : Int)]⟩).1.out) h.ty ha hk i5 i3 (λ z hz => ((((i8 z hz).1.mono o2).leaves hm2).mono hpre ((i8 z hz).1.mono o2).idx)) ((o3.leaves hm2).mono hpre o3.idx) o
   rw [<- hw]
   constructor
   .rintro ⟨j, hj, hl⟩
    rcases (hkid j).1 hj with ⟨z, hz, rfl⟩ | rfl
    .exact .inl ⟨z, hz, hl⟩
    exact .inr hl
   rintro (⟨z, hz, hl⟩ | hl)
   .exact ⟨z.2, (hkid _).2 (.inl ⟨z, hz, rfl⟩), hl⟩
   exact ⟨q.2, (hkid _).2 (.inr rfl), hl⟩
  subst hτ
  have hgd : Good ds (.dat d g) := hg _ (Yf ha.ty)
  rw [e, consF]
  obtain ⟨i1, i2, ys, i3, i5, i6, i8⟩ := consL_ind (rc := buildM t ds f) (rows := rows) (paths := paths) (k := k) (R := Grows) (I := BOk) (Q := λ c s y => Built ds (newTys k (argT (g c.name) c.args.length) τs) (narrowM k (isCon c.name) c.args.length rows) s y)
   (λ s => ⟨Yl, Yam _⟩) (λ a b c h1 h2 => h1.trans h2) (λ c s s' y h1 h2 => h2.mono h1) D.cons (tick s) [] [] hts λ c hc s' hs' hh => by
    obtain ⟨a', hta'⟩ := hcs c hc
    exact buildM_leaves hok f s' _ _ _ (con_child h ha hta' hh) (newTys_good hg λ σ hσ => by
     obtain ⟨i, _, rfl⟩ := Ya.1 hσ
     exact hgd.2 _ _) hs'
  generalize consL (buildM t ds f) rows paths k D.cons (tick s) [] [] = w at i1 i2 i5 i6 i8 ⊢
  rw [Yn] at i5 i6
  have hnl : w.2.1.length = (D.cons.filter λ c => hasCon rows k c.name).length := by rw [i5, <- i3, Yi, Yi]
  have hfl := filter_less (λ c : ConSig => hasCon rows k c.name) D.cons
  by_cases hlt : w.2.1.length < D.cons.length
  .rw [if_pos hlt]
   obtain ⟨o1, o2, o3⟩ := buildM_leaves hok f w.1 _ _ _ (other_child h ha) (newTys_good hg λ σ hσ => by cases hσ) i1
   simp only [otherF]
   generalize buildM t ds f w.1 (narrowM k (λ _ => false) 0 rows) (belowM paths k 0) = q at o1 o2 o3 ⊢
   have hkid : ∀ j : Nat, (j : Int) ∈ w.2.2 ++ [(q.2 : Int)] ↔ (∃ z ∈ ys, z.2 = j) \/ j = q.2 := λ j => by
    rw [Yb, i6, Ye, Ya]
    constructor
    .rintro (⟨z, hz, h⟩ | h)
     .exact .inl ⟨z, hz, by omega⟩
     exact .inr (by omega)
    rintro (⟨z, hz, h⟩ | h)
    .exact .inl ⟨z, hz, by omega⟩
    exact .inr (by omega)
   refine node_built (.inl rfl) o1 ((htg.trans i2).trans o2) (λ y hy => ?_) λ hm o => ?_
   .rcases Yb.1 hy with hy | hy
    .rw [i6] at hy
     obtain ⟨z, hz, rfl⟩ := Ya.1 hy
     have := (i8 z hz).idx
     have := o2.out.length_le
     omega
    rw [Ye] at hy
    have := o3.idx
    omega
   have hm2 : q.1.many <= 4096 := by rw [(addF_many q.1 _).1] at hm; exact hm
   have hpre := addF_prefix q.1 ⟨2, 0, paths.getD k [], w.2.1, [], w.2.2 ++ [(q.2 : Int)]⟩
   have hw := cons_leaves (ds := ds) (out := (addF q.1 ⟨2, 0, paths.getD k [], w.2.1, [], w.2.2 ++ [(q.2 : Int)]⟩).1.out) (j0 := some q.2) h.ty ha hD hcs hgd i3 (λ z hz => ((((i8 z hz).mono o2).leaves hm2).mono hpre ((i8 z hz).mono o2).idx))
    ⟨λ h => (by cases h), λ hall => absurd hall (hfl.1 (by omega))⟩ (λ j hj => by injection hj with hj; subst hj; exact (o3.leaves hm2).mono hpre o3.idx) o
   rw [<- hw]
   constructor
   .rintro ⟨j, hj, hl⟩
    rcases (hkid j).1 hj with ⟨z, hz, rfl⟩ | rfl
    .exact .inl ⟨z, hz, hl⟩
    exact .inr ⟨_, rfl, hl⟩
   rintro (⟨z, hz, hl⟩ | ⟨j, hj, hl⟩)
   .exact ⟨z.2, (hkid _).2 (.inl ⟨z, hz, rfl⟩), hl⟩
   injection hj with hj
   subst hj
   exact ⟨_, (hkid _).2 (.inr rfl), hl⟩
  rw [if_neg hlt]
  simp only
  have hall : ∀ c ∈ D.cons, hasCon rows k c.name = true := Classical.byContradiction λ h => hlt (by rw [hnl]; exact hfl.2 h)
  have hkid : ∀ j : Nat, (j : Int) ∈ w.2.2 ++ [-1] ↔ ∃ z ∈ ys, z.2 = j := λ j => by
   rw [Yb, i6, Ye, Ya]
   constructor
   .rintro (⟨z, hz, h⟩ | h)
    .exact ⟨z, hz, by omega⟩
    omega
   rintro ⟨z, hz, h⟩
   exact .inl ⟨z, hz, by omega⟩
  refine node_built (.inl rfl) i1 (htg.trans i2) (λ y hy => ?_) λ hm o => ?_
  .rcases Yb.1 hy with hy | hy
   .rw [i6] at hy
    obtain ⟨z, hz, rfl⟩ := Ya.1 hy
    have := (i8 z hz).idx
    omega
   rw [Ye] at hy
   omega
  have hm2 : w.1.many <= 4096 := by rw [(addF_many w.1 _).1] at hm; exact hm
  have hpre := addF_prefix w.1 ⟨2, 0, paths.getD k [], w.2.1, [], w.2.2 ++ [-1]⟩
  have hw := cons_leaves (ds := ds) (out := (addF w.1 ⟨2, 0, paths.getD k [], w.2.1, [], w.2.2 ++ [-1]⟩).1.out) (j0 := none) h.ty ha hD hcs hgd i3 (λ z hz => (((i8 z hz).leaves hm2).mono hpre (i8 z hz).idx))
   ⟨λ _ => hall, λ _ => rfl⟩ (λ j hj => by cases hj) o
  rw [<- hw]
  constructor
  .rintro ⟨j, hj, hl⟩
   obtain ⟨z, hz, rfl⟩ := (hkid j).1 hj
   exact .inl ⟨z, hz, hl⟩
  rintro (⟨z, hz, hl⟩ | ⟨j, hj, _⟩)
  .exact ⟨z.2, (hkid _).2 ⟨z, hz, rfl⟩, hl⟩
  cases hj
theorem sem_none {vs : List Val} : ∀ {b : Nat} {rows : List (List Pat)}, Sem (enumR b rows) vs none ↔ ∀ r ∈ rows, ¬ matL r vs
 | b, [] => ⟨λ _ r hr => (by cases hr), λ _ => rfl⟩
 | b, r :: rows => by
  rw [enumR, Sem, sem_none (b := b + 1) (rows := rows)]
  constructor
  .rintro (⟨_, h⟩ | ⟨h1, h2⟩) r' hr'
   .cases h
   rcases Ym.1 hr' with rfl | hr'
   .exact h1
   exact h2 r' hr'
  intro h
  exact .inr ⟨h r (Yg ..), λ r' hr' => h r' (Yd _ hr')⟩
theorem sem_some {vs : List Val} {k : Nat} : ∀ {b : Nat} {rows : List (List Pat)}, Sem (enumR b rows) vs (some (b + k)) ↔ ∃ r, rows[k]? = some r /\ matL r vs /\ ∀ r' ∈ rows.take k, ¬ matL r' vs := by
 induction k with
 | zero =>
  intro b rows
  cases rows with
  | nil => exact ⟨λ h => (by cases h), λ ⟨r, h, _⟩ => by simp at h⟩
  | cons r rows =>
   rw [enumR, Sem]
   constructor
   .rintro (⟨h, _⟩ | ⟨_, h⟩)
    .exact ⟨r, rfl, h, λ r' hr' => by simp at hr'⟩
    exfalso
    have key : ∀ {c : Nat} {l : List (List Pat)}, b < c -> ¬ Sem (enumR c l) vs (some (b + 0)) := by
     intro c l hbc
     induction l generalizing c with
     | nil => intro h; cases h
     | cons x l ih =>
      rw [enumR, Sem]
      rintro (⟨_, h⟩ | ⟨_, h⟩)
      .injection h with h
       simp only at h
       omega
      exact ih (Nat.lt_succ_of_lt hbc) h
    exact key (Yap b) h
   rintro ⟨r', h, hm, _⟩
   simp at h
   subst h
   exact .inl ⟨hm, rfl⟩
 | succ k ih =>
  intro b rows
  cases rows with
  | nil => exact ⟨λ h => (by cases h), λ ⟨r, h, _⟩ => by simp at h⟩
  | cons r rows =>
   rw [enumR, Sem, show b + (k + 1) = b + 1 + k by omega, ih]
   constructor
   .rintro (⟨_, h⟩ | ⟨h1, r', h2, h3, h4⟩)
    .injection h with h
     simp only at h
     omega
    refine ⟨r', by simpa using h2, h3, λ x hx => ?_⟩
    rw [Yai] at hx
    rcases Ym.1 hx with rfl | hx
    .exact h1
    exact h4 x hx
   rintro ⟨r', h2, h3, h4⟩
   refine .inr ⟨h4 r (by rw [Yai]; exact Yg ..), r', by simpa using h2, h3, λ x hx => h4 x (by rw [Yai]; exact Yd _ hx)⟩
theorem comp_leaves {ds : List DataSig} (hz : Sized ds) {rows : List (List Pat)} (h : (compOut ds rows).2 = 0) : ∃ t τs, checkF ds rows = 0 /\ buildF 0 ds [] = some t /\ TabOk t ds /\ (τs.length : Int) = width rows /\ Typed ds t rows τs /\ KidsOk (compOut ds rows).1 /\ (compOut ds rows).1.length ≠ 0 /\ (compOut ds rows).1.length <= 4096 /\
  ∀ o, Lf (compOut ds rows).1 ((compOut ds rows).1.length - 1) o ↔ ∃ vs, fitsL ds τs vs /\ Sem (enumR 0 rows) vs o := by
 have hck := compOut_zero h
 unfold compOut at h ⊢
 rw [if_neg (by simpa using hck)] at h ⊢
 obtain ⟨t, hb⟩ := check_build hck
 rw [hb] at h ⊢
 simp only at h ⊢
 by_cases hfull : (compF t ds rows).1.full = true
 .rw [if_pos hfull] at h; exact absurd h (by decide)
 rw [if_neg hfull]
 simp only
 have hok := tabOk_of hb (check_parts hck hb).1 hz
 obtain ⟨τs, hτ, hT⟩ := typed_of hck hb (nbad_any hck)
 have hpre := comp_pre hck hb hτ hT
 obtain ⟨h1, _, h3⟩ := buildM_leaves hok 401 ⟨[], 0, false⟩ _ _ _ hpre hT.good ⟨rfl, λ i n hn => by simp at hn⟩
 have hke := buildM_keeps hok 401 ⟨[], 0, false⟩ _ _ _ hpre rfl
 change BOk (compF t ds rows).1 at h1
 change Built ds τs (enumR 0 rows) (compF t ds rows).1 (compF t ds rows).2 at h3
 have hko : (compF t ds rows).1.out.length + 0 <= (compF t ds rows).1.many + 0 := hke.out
 have hm : (compF t ds rows).1.many <= 4096 := by
  rw [h1.full] at hfull
  simpa using hfull
 have hi := h3.idx
 have hl := h3.leaves hm
 refine ⟨t, τs, hck, rfl, hok, hτ, hT, ?_⟩
 generalize compF t ds rows = q at h1 hm hi hl hko ⊢
 have hlen : (q.1.out.take (q.2 + 1)).length = q.2 + 1 := by rw [Yh]; omega
 have hp : q.1.out.take (q.2 + 1) <+: q.1.out := Yad _ _
 refine ⟨λ i n hn => h1.kids i n ?_, by omega, by omega, λ o => ?_⟩
 .obtain ⟨c, hc⟩ := hp
  rw [<- hc, Yp (Yc.1 hn).1]
  exact hn
 rw [hlen, Yaq, <- hl o]
 exact ⟨λ h => h.mono hp, λ h => h.back hp (by omega)⟩
end Go.PM
namespace Go.PM
open Go.VL
def kidsAt (t : List MNode) (k : Nat) : List Int := match t[k]? with | some n => n.kids | none => []
inductive Rch (t : List MNode) (root : Nat) : Nat -> Prop where
 | refl : Rch t root root
 | step {i j : Nat} : Rch t root i -> (j : Int) ∈ kidsAt t i -> j < i -> Rch t root j
structure ReachInv (t : List MNode) (k : Nat) (m : List Bool) : Prop where
 len : m.length = t.length
 sound : ∀ j, m.getD j false = true -> Rch t (t.length - 1) j
 root : m.getD (t.length - 1) false = true
 closed : ∀ i, k <= i -> m.getD i false = true -> ∀ j : Nat, (j : Int) ∈ kidsAt t i -> j < i -> m.getD j false = true
end Go.PM
end
section
namespace Go.PM
open Go.VL
theorem addCons_nodup {k : Nat} : ∀ {cs : List ConSig} {n : Nat} {t t1 : Tab}, addCons k n cs t = some t1 -> (cs.map ConSig.name).Nodup /\ ∀ c ∈ cs, tget t c.name = none
 | [], n, t, t1, _ => ⟨Yq, λ c hc => by cases hc⟩
 | c :: cs, n, t, t1, h => by
  rw [addCons] at h
  cases hc : tget t c.name with
  | some x => rw [hc] at h; cases h
  | none =>
   rw [hc] at h
   obtain ⟨h1, h2⟩ := addCons_nodup h
   refine ⟨List.nodup_cons.2 ⟨λ hm => ?_, h1⟩, λ c' hc' => ?_⟩
   .obtain ⟨c', hc', he⟩ := Ya.1 hm
    have := h2 c' hc'
    rw [he, tget_snoc, hc] at this
    simp at this
   rcases Ym.1 hc' with rfl | hc'
   .exact hc
   have := h2 c' hc'
   rw [tget_snoc] at this
   cases hg : tget t c'.name with
   | some y => rw [hg] at this; cases this
   | none => rfl
theorem buildF_nodup : ∀ {ds : List DataSig} {k : Nat} {t t1 : Tab}, buildF k ds t = some t1 -> ∀ d ∈ ds, (d.cons.map ConSig.name).Nodup
 | [], k, t, t1, _ => λ d hd => by cases hd
 | d :: ds, k, t, t1, h => λ d' hd' => by
  rw [buildF] at h
  cases hc : addCons k 0 d.cons t with
  | none => rw [hc] at h; cases h
  | some t' =>
   rw [hc] at h
   rcases Ym.1 hd' with rfl | hd'
   .exact (addCons_nodup hc).1
   exact buildF_nodup h d' hd'
structure NodeP (t : Tab) (ds : List DataSig) (n : MNode) : Prop where
 form : (n.kind = 0 /\ n.row = 0 /\ n.path = [] /\ n.names = [] /\ n.words = [] /\ n.kids = []) \/ (n.kind = 1 /\ n.path = [] /\ n.names = [] /\ n.words = [] /\ n.kids = []) \/
  (n.kind = 2 /\ n.row = 0 /\ n.words = [] /\ n.path ≠ [] /\ n.kids.length = n.names.length + 1) \/ (n.kind = 3 /\ n.row = 0 /\ n.names = [] /\ n.path ≠ [] /\ n.kids.length = n.words.length + 1)
 row : 0 <= n.row
 path : ∀ x ∈ n.path, 0 <= x
 words : ∀ x ∈ n.words, -1073741824 <= x /\ x <= 1073741823
 wnodup : n.words.Nodup
 nnodup : n.names.Nodup
 data : ∃ d D, (n.names ≠ [] -> ds[d]? = some D) /\ (∀ s ∈ n.names, ∃ c, tget t s = some c /\ c.1 = d) /\ ∀ (i : Nat) y, n.kids[i]? = some y -> -1 <= y /\ (y = -1 ↔ (i = n.names.length /\ n.kind = 2 /\ n.names ≠ [] /\ n.names.length = D.cons.length))
theorem failP (t : Tab) (ds : List DataSig) : NodeP t ds failN := ⟨.inl ⟨rfl, rfl, rfl, rfl, rfl, rfl⟩, Yas _, λ x hx => (by cases hx), λ x hx => (by cases hx), Yq, Yq, 0, ⟨[], 0, []⟩, λ h => absurd rfl h, λ s hs => (by cases hs), λ i y h => by simp [failN] at h⟩
theorem rowP (t : Tab) (ds : List DataSig) (k : Nat) : NodeP t ds (rowN k) := ⟨.inr (.inl ⟨rfl, rfl, rfl, rfl, rfl⟩), (by show (0 : Int) <= (k : Int); omega), λ x hx => (by cases hx), λ x hx => (by cases hx), Yq, Yq, 0, ⟨[], 0, []⟩, λ h => absurd rfl h, λ s hs => (by cases hs), λ i y h => by simp [rowN] at h⟩
structure Fine (t : Tab) (rows : List MRow) (paths : List (List Int)) : Prop where
 pats : ∀ r ∈ rows, ∀ p ∈ r.2, patF t p = 0
 paths : ∀ p ∈ paths, ∀ x ∈ p, 0 <= x
theorem Fine.child {t : Tab} {rows : List MRow} {pl : List (List Int)} {k many : Nat} {is : Pat -> Bool} (h : Fine t rows pl) (hk : k < pl.length) : Fine t (narrowM k is many rows) (belowM pl k many) := by
 refine ⟨λ r hr p hp => ?_, λ q hq x hx => ?_⟩
 .obtain ⟨z, hz, hzr⟩ := List.mem_filterMap.1 hr
  simp only at hzr
  split at hzr
  .injection hzr with hzr
   subst hzr
   rcases Yb.1 hp with hp | hp
   .exact h.pats z hz p (Yw hp)
   rcases Yb.1 hp with hp | hp
   .exact h.pats z hz p (Yx hp)
   split at hp
   .rename_i hc
    by_cases hkz : k < z.2.length
    .have hm : z.2.getD k anyP ∈ z.2 := by
      rw [Ys, Yu hkz]
      exact Yaf _
     rcases patF_con (h.pats z hz _ hm) hc.1 with h2 | ⟨_, _, _, _, h4⟩
     .omega
     exact h4 p hp
    rw [Ys, Yah (by omega)] at hp
    cases hp
   rw [List.eq_of_mem_replicate hp, anyP, patF]
   simp
  cases hzr
 rcases belowM_mem hk hq with hq | ⟨q', hq', i, rfl⟩
 .exact h.paths q hq x hx
 rcases Yb.1 hx with hx | hx
 .exact h.paths q' hq' x hx
 rw [Ye] at hx; omega
theorem patF_int {t : Tab} {p : Pat} (h : patF t p = 0) (hk : p.kind = 2) : -1073741824 <= p.n /\ p.n <= 1073741823 := by
 obtain ⟨k, s, n, as⟩ := p
 rw [patF] at h
 have hk2 : k = 2 := hk
 subst hk2
 simp at h
 show -1073741824 <= n /\ n <= 1073741823
 omega
def New2 (t : Tab) (ds : List DataSig) (s s' : BSt) : Prop := ∀ n ∈ s'.out, n ∈ s.out \/ NodeP t ds n
theorem New2.trans {t : Tab} {ds : List DataSig} {a b c : BSt} (h : New2 t ds a b) (k : New2 t ds b c) : New2 t ds a c := λ n hn => (k n hn).elim (h n) .inr
theorem addF_new2 {t : Tab} {ds : List DataSig} {s s1 : BSt} {n : MNode} (h : New2 t ds s s1) (hn : NodeP t ds n) : New2 t ds s (addF s1 n).1 := λ x hx => by
 unfold addF at hx
 split at hx
 .exact h x hx
 rcases Yb.1 hx with hx | hx
 .exact h x hx
 rw [Ye] at hx; exact .inr (hx ▸ hn)
theorem map_nat_get {α : Type} {ys : List (α × Nat)} {i : Nat} {y : Int} {z : Int} (h : (ys.map (λ w => (w.2 : Int)) ++ [z])[i]? = some y) : (i < ys.length /\ 0 <= y) \/ (i = ys.length /\ y = z) := by
 rw [List.getElem?_append] at h
 split at h
 .rename_i hl
  rw [Yi] at hl
  rw [Yt] at h
  cases hg : ys[i]? with
  | none => rw [hg] at h; cases h
  | some w => rw [hg] at h; injection h with h; exact .inl ⟨hl, by simp only at h; omega⟩
 rename_i hl
 rw [Yi] at hl h
 by_cases hi : i - ys.length = 0
 .rw [hi] at h
  injection h with h
  exact .inr ⟨by omega, h.symm⟩
 rw [Yah (by simp only [Yo]; omega)] at h
 cases h
theorem buildM_nodes {t : Tab} {ds : List DataSig} (hok : TabOk t ds) (hlaw : TabLaw t ds) (hnd : ∀ d ∈ ds, (d.cons.map ConSig.name).Nodup) : ∀ (f : Nat) (s : BSt) (rows : List MRow) (paths : List (List Int)) (τs : List Ty), MPre t f rows paths τs -> Fine t rows paths -> New2 t ds s (buildM t ds f s rows paths).1
 | 0, s, rows, paths, τs, h, _ => absurd h.fuel (Yan _)
 | f + 1, s, rows, paths, τs, h, hfi => by
  have ht : New2 t ds s (tick s) := λ n hn => .inl hn
  rcases buildM_cases (s := s) hok h with ⟨e, _⟩ | ⟨hft, r0, rs, er, ⟨e, _⟩ | ⟨k, p, τ, ha, ⟨hk, e⟩ | ⟨d, g, a, D, hτ, hk, hta, hD, hcl, hcs, e⟩⟩⟩
  .rw [e]; exact addF_new2 ht (failP t ds)
  .rw [e]; exact addF_new2 ht (rowP t ds _)
  .have hkp : k < paths.length := by rw [h.plen]; exact (Yc.1 ha.ty).1
   obtain ⟨path, hpath⟩ := get_of_lt paths k (by omega)
   have hpg : paths.getD k [] = path := by simp [hpath]
   have hpm := Yf hpath
   rw [e, wordsF, hpg]
   obtain ⟨_, i2, _, i4, ys, i5, i6, _, i8⟩ := wordsL_ind (rc := buildM t ds f) (rows := rows) (paths := paths) (k := k) (R := New2 t ds) (I := λ _ => True) (Q := λ _ _ _ => True)
    (λ s n hn => .inl hn) (λ a b c h1 h2 => h1.trans h2) (λ _ _ _ _ _ _ => trivial) rows (tick s) [] [] trivial λ r hr s' _ hf => ⟨trivial, buildM_nodes hok hlaw hnd f s' _ _ _ (word_child (isInt (wordAt k r)) h ha hk) (hfi.child hkp), trivial⟩
   generalize wordsL (buildM t ds f) rows paths k rows (tick s) [] [] = w at i2 i4 i5 i6 i8 ⊢
   rw [Yn] at i5 i6
   refine addF_new2 ((ht.trans i2).trans (buildM_nodes hok hlaw hnd f _ _ _ _ (other_child h ha) (hfi.child hkp))) ⟨.inr (.inr (.inr ⟨rfl, rfl, rfl, (h.deep path hpm).1, ?_⟩)), Yas _, hfi.paths path hpm, λ x hx => ?_, i4 Yq, Yq, 0, ⟨[], 0, []⟩, λ h => absurd rfl h, λ s hs => (by cases hs), λ i y hy => ?_⟩
   .simp only [i5, i6, Yk, Yi, Yo]
   .simp only [i5] at hx
    obtain ⟨z, hz, rfl⟩ := Ya.1 hx
    obtain ⟨_, r, hr, hf, hw⟩ := i8 z hz
    have hkr := ha.all r hr
    have hg : r.2.getD k anyP ∈ r.2 := by
     rw [Ys, Yu hkr]
     exact Yaf _
    have hget : r.2[k]? = some (r.2.getD k anyP) := by rw [Ys, Yu hkr]; rfl
    rw [<- hw]
    exact patF_int (hfi.pats r hr _ hg) (nf_words h.ty ha hk r hr _ hget hf)
   simp only [i6] at hy
   have h2 : ¬ ((3 : Int) = 2) := by decide
   rcases map_nat_get hy with ⟨_, h1⟩ | ⟨_, h1⟩
   .exact ⟨by omega, ⟨λ h => by omega, λ h => absurd h.2.1 h2⟩⟩
   exact ⟨by omega, ⟨λ h => by omega, λ h => absurd h.2.1 h2⟩⟩
  subst hτ
  have hkp : k < paths.length := by rw [h.plen]; exact (Yc.1 ha.ty).1
  obtain ⟨path, hpath⟩ := get_of_lt paths k (by omega)
  have hpg : paths.getD k [] = path := by simp [hpath]
  have hpm := Yf hpath
  rw [e, consF, hpg]
  obtain ⟨_, i2, ys, i3, i5, i6, _⟩ := consL_ind (rc := buildM t ds f) (rows := rows) (paths := paths) (k := k) (R := New2 t ds) (I := λ _ => True) (Q := λ _ _ _ => True)
   (λ s n hn => .inl hn) (λ a b c h1 h2 => h1.trans h2) (λ _ _ _ _ _ _ => trivial) D.cons (tick s) [] [] trivial λ c hc s' _ hh => by
    obtain ⟨a', hta'⟩ := hcs c hc
    exact ⟨trivial, buildM_nodes hok hlaw hnd f s' _ _ _ (con_child h ha hta' hh) (hfi.child hkp), trivial⟩
  generalize consL (buildM t ds f) rows paths k D.cons (tick s) [] [] = w at i2 i5 i6 ⊢
  rw [Yn] at i5 i6
  have hnames : w.2.1 = (D.cons.filter λ c => hasCon rows k c.name).map ConSig.name := by rw [i5, <- i3, List.map_map]; rfl
  have hyl : ys.length = w.2.1.length := by rw [i5, Yi]
  have hnn : w.2.1.Nodup := by
   rw [hnames]
   exact (hnd D (Yf hD)).sublist (List.Sublist.map _ List.filter_sublist)
  have hdat : ∀ s ∈ w.2.1, ∃ c, tget t s = some c /\ c.1 = d := λ s hs => by
   rw [hnames] at hs
   obtain ⟨c, hc, rfl⟩ := Ya.1 hs
   obtain ⟨a', hc'⟩ := hcs c (Yv.1 hc).1
   exact ⟨_, hc', rfl⟩
  have hne : w.2.1 ≠ [] := by
   obtain ⟨r0', rs', er', hp0⟩ := ha.ne
   obtain ⟨D', hD', k', hk', hkn, _⟩ := hlaw.get _ _ hta
   simp only [hD] at hD'
   injection hD' with hD'
   subst hD'
   have hh : hasCon rows k k'.name = true := Yy.2 ⟨r0', by rw [er']; exact Yg .., by
    have hg : r0'.2.getD k anyP = p := by simp [hp0]
    simp only [hg, ha.free, isCon, hkn]
    simp⟩
   rw [hnames]
   exact List.ne_nil_of_mem (Ya.2 ⟨k', Yv.2 ⟨hk', hh⟩, rfl⟩)
  by_cases hlt : w.2.1.length < D.cons.length
  .rw [if_pos hlt]
   refine addF_new2 ((ht.trans i2).trans (buildM_nodes hok hlaw hnd f _ _ _ _ (other_child h ha) (hfi.child hkp))) ⟨.inr (.inr (.inl ⟨rfl, rfl, rfl, (h.deep path hpm).1, ?_⟩)), Yas _, hfi.paths path hpm, λ x hx => (by cases hx), Yq, hnn, d, D, λ _ => hD, hdat, λ i y hy => ?_⟩
   .simp only [i6, Yk, Yi, Yo, hyl]
   simp only [i6] at hy
   rcases map_nat_get hy with ⟨h0, h1⟩ | ⟨_, h1⟩
   .exact ⟨by omega, ⟨λ h => by omega, λ h => by have := h.1; simp only at this; omega⟩⟩
   exact ⟨by omega, ⟨λ h => by omega, λ h => by have := h.2.2.2; simp only at this; omega⟩⟩
  rw [if_neg hlt]
  have hall : ∀ c ∈ D.cons, hasCon rows k c.name = true := Classical.byContradiction λ hh => hlt (by rw [hnames, Yi]; exact (filter_less _ _).2 hh)
  have hleq : w.2.1.length = D.cons.length := by
   rw [hnames, Yi]
   have := List.length_filter_le (λ c : ConSig => hasCon rows k c.name) D.cons
   have h2 : ¬ (D.cons.filter λ c => hasCon rows k c.name).length < D.cons.length := λ hh => (filter_less _ _).1 hh hall
   omega
  refine addF_new2 (ht.trans i2) ⟨.inr (.inr (.inl ⟨rfl, rfl, rfl, (h.deep path hpm).1, ?_⟩)), Yas _, hfi.paths path hpm, λ x hx => (by cases hx), Yq, hnn, d, D, λ _ => hD, hdat, λ i y hy => ?_⟩
  .simp only [i6, Yk, Yi, Yo, hyl]
  simp only [i6] at hy
  rcases map_nat_get hy with ⟨h0, h1⟩ | ⟨h0, h1⟩
  .exact ⟨by omega, ⟨λ h => by omega, λ h => by have := h.1; simp only at this; omega⟩⟩
  exact ⟨by omega, ⟨λ _ => ⟨by simp only; omega, rfl, hne, hleq⟩, λ _ => h1⟩⟩
end Go.PM
end
section
namespace Go.PM
open Go.VL
inductive OnceP (t : List MNode) : Nat -> List (List Int) -> Prop where
 | leaf {k : Nat} {n : MNode} {before : List (List Int)} : t[k]? = some n -> n.kind ≠ 2 -> n.kind ≠ 3 -> OnceP t k before
 | node {k : Nat} {n : MNode} {before : List (List Int)} : t[k]? = some n -> (n.kind = 2 \/ n.kind = 3) -> n.path ∉ before -> (1 < n.path.length -> n.path.dropLast ∈ before) -> (∀ j : Nat, (j : Int) ∈ n.kids -> j < k -> OnceP t j (before ++ [n.path])) -> OnceP t k before
theorem OnceP.mono {a b : List MNode} (hp : a <+: b) {k : Nat} {before : List (List Int)} (h : OnceP a k before) : OnceP b k before := by
 have hg : ∀ {i : Nat} {n : MNode}, a[i]? = some n -> b[i]? = some n := λ hi => by
  obtain ⟨c, rfl⟩ := hp
  rw [Yp (Yc.1 hi).1]
  exact hi
 induction h with
 | leaf h1 h2 h3 => exact .leaf (hg h1) h2 h3
 | node h1 h2 h3 h4 _ ih => exact .node (hg h1) h2 h3 h4 ih
theorem OnceP.back {a b : List MNode} (hp : a <+: b) {k : Nat} {before : List (List Int)} (h : OnceP b k before) : k < a.length -> OnceP a k before := by
 have hg : ∀ {i : Nat} {n : MNode}, i < a.length -> b[i]? = some n -> a[i]? = some n := λ hi hb => by
  obtain ⟨c, rfl⟩ := hp
  rwa [Yp hi] at hb
 induction h with
 | leaf h1 h2 h3 => exact λ hk => .leaf (hg hk h1) h2 h3
 | node h1 h2 h3 h4 _ ih => exact λ hk => .node (hg hk h1) h2 h3 h4 λ j hj hlt => ih j hj hlt (by omega)
abbrev Apart (p q : List Int) : Prop := ¬ p <+: q /\ ¬ q <+: p
structure Ctx (paths before : List (List Int)) : Prop where
 pre : ∀ p ∈ paths, ∀ q ∈ before, ¬ p <+: q
 par : ∀ p ∈ paths, 1 < p.length -> p.dropLast ∈ before
 anti : paths.Pairwise Apart
theorem apart_ext {x path : List Int} {i : Int} (h : Apart x path) : Apart x (path ++ [i]) := by
 refine ⟨λ hp => ?_, λ hp => h.2 ((Yac path [i]).trans hp)⟩
 rcases List.prefix_concat_iff.1 hp with rfl | hp
 .exact h.2 (Yac path [i])
 exact h.1 hp
theorem Ctx.child {paths before : List (List Int)} {k many : Nat} {path : List Int} (h : Ctx paths before) (hk : paths[k]? = some path) : Ctx (belowM paths k many) (before ++ [path]) := by
 have hpg : paths.getD k [] = path := by simp [hk]
 have hpm := Yf hk
 have ha := h.anti
 rw [split_at hk, Yaj, List.pairwise_cons] at ha
 obtain ⟨h1, ⟨h2, h3⟩, h4⟩ := ha
 have hoth : ∀ x, x ∈ paths.take k \/ x ∈ paths.drop (k + 1) -> Apart x path := λ x hx => by
  rcases hx with hx | hx
  .exact h4 x hx path (Yg ..)
  exact ⟨(h2 x hx).2, (h2 x hx).1⟩
 have hmem : ∀ p ∈ belowM paths k many, (p ∈ paths /\ Apart p path) \/ ∃ i : Nat, p = path ++ [(i : Int)] := λ p hp => by
  unfold belowM at hp
  rw [hpg] at hp
  rcases Yb.1 hp with hp | hp
  .exact .inl ⟨Yw hp, hoth p (.inl hp)⟩
  rcases Yb.1 hp with hp | hp
  .exact .inl ⟨Yx hp, hoth p (.inr hp)⟩
  obtain ⟨i, _, rfl⟩ := Ya.1 hp
  exact .inr ⟨i, rfl⟩
 refine ⟨λ p hp q hq => ?_, λ p hp hl => ?_, ?_⟩
 .rcases hmem p hp with ⟨hpp, hap⟩ | ⟨i, rfl⟩
  .rcases Yb.1 hq with hq | hq
   .exact h.pre p hpp q hq
   rw [Ye] at hq; subst hq; exact hap.1
  rcases Yb.1 hq with hq | hq
  .exact λ hc => h.pre path hpm q hq ((Yac path _).trans hc)
  rw [Ye] at hq
  subst hq
  intro hc
  have := hc.length_le
  rw [Yk, Yo] at this
  omega
 .rcases hmem p hp with ⟨hpp, _⟩ | ⟨i, rfl⟩
  .exact List.mem_append_left _ (h.par p hpp hl)
  rw [List.dropLast_concat]
  exact List.mem_append_right _ (Ye.2 rfl)
 unfold belowM
 rw [hpg, Yaj, Yaj]
 have hnew : ∀ x, x ∈ paths.take k \/ x ∈ paths.drop (k + 1) -> ∀ y ∈ (List.range many).map (λ i : Nat => path ++ [(i : Int)]), Apart x y := λ x hx y hy => by
  obtain ⟨i, _, rfl⟩ := Ya.1 hy
  exact apart_ext (hoth x hx)
 refine ⟨h1, ⟨h3, ?_, λ x hx y hy => hnew x (.inr hx) y hy⟩, λ x hx y hy => ?_⟩
 .rw [List.pairwise_map]
  refine List.pairwise_lt_range.imp λ {a b} hab => ?_
  have hl : (path ++ [(a : Int)]).length = (path ++ [(b : Int)]).length := by simp
  have hne : path ++ [(a : Int)] ≠ path ++ [(b : Int)] := λ h => by
   have := List.append_cancel_left h
   injection this with this
   omega
  exact ⟨λ hc => hne (hc.eq_of_length hl), λ hc => hne (hc.eq_of_length hl.symm).symm⟩
 rcases Yb.1 hy with hy | hy
 .exact h4 x hx y (Yd _ hy)
 exact hnew x (.inl hx) y hy
theorem node_once {s : BSt} {n : MNode} {paths before : List (List Int)} {k : Nat} {path : List Int} (hc : Ctx paths before) (hk : paths[k]? = some path) (hn : n.path = path) (hkind : n.kind = 2 \/ n.kind = 3)
  (h : ∀ j : Nat, (j : Int) ∈ n.kids -> OnceP (addF s n).1.out j (before ++ [path])) : OnceP (addF s n).1.out (addF s n).2 before := by
 have hpm := Yf hk
 refine .node (addF_at s n) hkind ?_ ?_ λ j hj _ => ?_
 .rw [hn]; exact λ hm => hc.pre path hpm path hm Yl
 .rw [hn]; exact hc.par path hpm
 rw [hn]; exact h j hj
theorem buildM_once {t : Tab} {ds : List DataSig} (hok : TabOk t ds) : ∀ (f : Nat) (s : BSt) (rows : List MRow) (paths : List (List Int)) (τs : List Ty), MPre t f rows paths τs -> s.out <+: (buildM t ds f s rows paths).1.out /\ ∀ before, Ctx paths before -> OnceP (buildM t ds f s rows paths).1.out (buildM t ds f s rows paths).2 before
 | 0, s, rows, paths, τs, h => absurd h.fuel (Yan _)
 | f + 1, s, rows, paths, τs, h => by
  refine ⟨(buildM_depth hok (f + 1) s rows paths τs h).1, λ before hc => ?_⟩
  rcases buildM_cases (s := s) hok h with ⟨e, _⟩ | ⟨hft, r0, rs, er, ⟨e, _⟩ | ⟨k, p, τ, ha, ⟨hk, e⟩ | ⟨d, g, a, D, hτ, hk, hta, hD, hcl, hcs, e⟩⟩⟩
  .rw [e]; exact .leaf (addF_at _ _) (by decide) (by decide)
  .rw [e]; exact .leaf (addF_at _ _) (by simp [rowN]) (by simp [rowN])
  .obtain ⟨path, hpath⟩ := get_of_lt paths k (by rw [h.plen]; have := (Yc.1 ha.ty).1; omega)
   have hpg : paths.getD k [] = path := by simp [hpath]
   rw [e, wordsF, hpg]
   obtain ⟨_, i2, _, _, ys, _, i6, _, i8⟩ := wordsL_ind (rc := buildM t ds f) (rows := rows) (paths := paths) (k := k) (R := λ s s' => s.out <+: s'.out) (I := λ _ => True) (Q := λ _ s y => ∀ before, Ctx (belowM paths k 0) before -> OnceP s.out y before)
    (λ s => Yl) (λ a b c h1 h2 => h1.trans h2) (λ c s s' y h1 h2 b hb => (h2 b hb).mono h1) rows (tick s) [] [] trivial λ r hr s' _ hf => ⟨trivial, buildM_once hok f s' _ _ _ (word_child (isInt (wordAt k r)) h ha hk)⟩
   generalize wordsL (buildM t ds f) rows paths k rows (tick s) [] [] = w at i2 i6 i8 ⊢
   have ho := buildM_once hok f w.1 _ _ _ (other_child h ha)
   simp only [otherF]
   generalize buildM t ds f w.1 (narrowM k (λ _ => false) 0 rows) (belowM paths k 0) = q at ho ⊢
   rw [Yn] at i6
   have hpre := addF_prefix q.1 ⟨3, 0, path, [], w.2.1, w.2.2 ++ [(q.2 : Int)]⟩
   refine node_once hc hpath rfl (.inr rfl) λ j hj => ?_
   rcases Yb.1 hj with hj | hj
   .rw [i6] at hj
    obtain ⟨z, hz, hzj⟩ := Ya.1 hj
    obtain rfl : j = z.2 := by omega
    exact ((i8 z hz).1 _ (hc.child hpath)).mono (ho.1.trans hpre)
   rw [Ye] at hj
   obtain rfl : j = q.2 := by omega
   exact (ho.2 _ (hc.child hpath)).mono hpre
  subst hτ
  obtain ⟨path, hpath⟩ := get_of_lt paths k (by rw [h.plen]; have := (Yc.1 ha.ty).1; omega)
  have hpg : paths.getD k [] = path := by simp [hpath]
  rw [e, consF, hpg]
  obtain ⟨_, i2, ys, _, _, i6, i8⟩ := consL_ind (rc := buildM t ds f) (rows := rows) (paths := paths) (k := k) (R := λ s s' => s.out <+: s'.out) (I := λ _ => True) (Q := λ c s y => ∀ before, Ctx (belowM paths k c.args.length) before -> OnceP s.out y before)
   (λ s => Yl) (λ a b c h1 h2 => h1.trans h2) (λ c s s' y h1 h2 b hb => (h2 b hb).mono h1) D.cons (tick s) [] [] trivial λ c hc s' _ hh => by
    obtain ⟨a', hta'⟩ := hcs c hc
    exact ⟨trivial, buildM_once hok f s' _ _ _ (con_child h ha hta' hh)⟩
  generalize consL (buildM t ds f) rows paths k D.cons (tick s) [] [] = w at i2 i6 i8 ⊢
  have ho := buildM_once hok f w.1 _ _ _ (other_child h ha)
  simp only [otherF]
  generalize buildM t ds f w.1 (narrowM k (λ _ => false) 0 rows) (belowM paths k 0) = q at ho ⊢
  rw [Yn] at i6
  by_cases hlt : w.2.1.length < D.cons.length
  .rw [if_pos hlt]
   have hpre := addF_prefix q.1 ⟨2, 0, path, w.2.1, [], w.2.2 ++ [(q.2 : Int)]⟩
   refine node_once hc hpath rfl (.inl rfl) λ j hj => ?_
   rcases Yb.1 hj with hj | hj
   .rw [i6] at hj
    obtain ⟨z, hz, hzj⟩ := Ya.1 hj
    obtain rfl : j = z.2 := by omega
    exact (i8 z hz _ (hc.child hpath)).mono (ho.1.trans hpre)
   rw [Ye] at hj
   obtain rfl : j = q.2 := by omega
   exact (ho.2 _ (hc.child hpath)).mono hpre
  rw [if_neg hlt]
  have hpre := addF_prefix w.1 ⟨2, 0, path, w.2.1, [], w.2.2 ++ [-1]⟩
  refine node_once hc hpath rfl (.inl rfl) λ j hj => ?_
  rcases Yb.1 hj with hj | hj
  .rw [i6] at hj
   obtain ⟨z, hz, hzj⟩ := Ya.1 hj
   obtain rfl : j = z.2 := by omega
   exact (i8 z hz _ (hc.child hpath)).mono hpre
  rw [Ye] at hj
  omega
theorem once_law {ds : List DataSig} (hz : Sized ds) {rows : List (List Pat)} (h : (compOut ds rows).2 = 0) : ∃ t, buildF 0 ds [] = some t /\ (compOut ds rows).1.length ≠ 0 /\ (compOut ds rows).1.length <= 4096 /\ (∀ (k : Nat) n, (compOut ds rows).1[k]? = some n -> NodeP t ds n /\ ∀ y ∈ n.kids, y < (k : Int)) /\ OnceP (compOut ds rows).1 ((compOut ds rows).1.length - 1) [] := by
 obtain ⟨t, τs, hck, hb, hok, hτ, hT, hkids, hne, h4, _⟩ := comp_leaves hz h
 have hpre := comp_pre hck hb hτ hT
 have hlaw := tabLaw_of hb
 have he := (check_parts hck hb).2.2.1
 have hfine : Fine t (enumR 0 rows) (pathsOf rows) := ⟨λ r hr p hp => patsF_iff.1 (errRows_iff.1 he _ (enumR_mem hr)) p hp, λ p hp x hx => by
  obtain ⟨n, _, rfl⟩ := Ya.1 hp
  rw [Ye] at hx
  omega⟩
 have hnodes := buildM_nodes hok hlaw (buildF_nodup hb) 401 ⟨[], 0, false⟩ _ _ _ hpre hfine
 have hctx : Ctx (pathsOf rows) [] := by
  refine ⟨λ p hp q hq => (by cases hq), λ p hp hl => ?_, ?_⟩
  .obtain ⟨n, _, rfl⟩ := Ya.1 hp
   simp at hl
  unfold pathsOf
  rw [List.pairwise_map]
  refine List.pairwise_lt_range.imp λ {a b} hab => ?_
  have hne : [(a : Int)] ≠ [(b : Int)] := λ h => by injection h with h; omega
  exact ⟨λ hc => hne (hc.eq_of_length rfl), λ hc => hne (hc.eq_of_length rfl).symm⟩
 have honce := (buildM_once hok 401 ⟨[], 0, false⟩ _ _ _ hpre).2 [] hctx
 change ∀ n ∈ (compF t ds rows).1.out, n ∈ [] \/ NodeP t ds n at hnodes
 change OnceP (compF t ds rows).1.out (compF t ds rows).2 [] at honce
 have hout : (compOut ds rows).1 = (compF t ds rows).1.out.take ((compF t ds rows).2 + 1) := by
  unfold compOut at h ⊢
  rw [if_neg (by simpa using hck), hb] at h ⊢
  simp only at h ⊢
  by_cases hfull : (compF t ds rows).1.full = true
  .rw [if_pos hfull] at h; exact absurd h (by decide)
  rw [if_neg hfull]
 have hidx : (compF t ds rows).2 < (compF t ds rows).1.out.length := (buildM_depth hok 401 ⟨[], 0, false⟩ _ _ _ hpre).2.1
 have hlen : (compOut ds rows).1.length = (compF t ds rows).2 + 1 := by rw [hout, Yh]; omega
 refine ⟨t, hb, hne, h4, λ k n hn => ⟨?_, λ y hy => hkids k n hn y hy⟩, ?_⟩
 .have hm := Yf hn
  rw [hout] at hm
  exact (hnodes n (Yw hm)).resolve_left λ h => by cases h
 rw [hlen, Yaq, hout]
 exact honce.back (Yad _ _) (by rw [Yh]; omega)
end Go.PM
end
section
namespace Go.PM
open Go.VL
mutual
def toVal : Pat -> Val
 | .mk k s n as => if k = 2 then .int n else .con s (toVals as)
def toVals : List Pat -> List Val
 | [] => []
 | p :: l => toVal p :: toVals l
end
theorem toVals_map : ∀ l : List Pat, toVals l = l.map toVal
 | [] => by rw [toVals]; rfl
 | p :: l => by rw [toVals, toVals_map l]; rfl
theorem toVal_int {p : Pat} (h : p.kind = 2) : toVal p = .int p.n := by
 obtain ⟨k, s, n, as⟩ := p
 rw [toVal, if_pos (show k = 2 from h)]
 rfl
theorem toVal_con {p : Pat} (h : p.kind = 3) : toVal p = .con p.name (p.args.map toVal) := by
 obtain ⟨k, s, n, as⟩ := p
 have hk : k = 3 := h
 rw [toVal, if_neg (by omega), toVals_map]
 rfl
mutual
def knownP : Pat -> Bool
 | .mk k s n as => (decide (k = 2) || decide (k = 3)) && knownL as
def knownL : List Pat -> Bool
 | [] => true
 | p :: l => knownP p && knownL l
end
theorem knownP_eq (p : Pat) : knownP p = ((decide (p.kind = 2) || decide (p.kind = 3)) && knownL p.args) := by
 obtain ⟨k, s, n, as⟩ := p
 rw [knownP]
 rfl
theorem knownL_mem : ∀ {l : List Pat}, knownL l = true ↔ ∀ p ∈ l, knownP p = true
 | [] => by simp [knownL]
 | p :: l => by
  rw [knownL, Bool.and_eq_true, knownL_mem]
  simp
theorem known_nf {p : Pat} (h : knownP p = true) : free p = false /\ (p.kind = 2 \/ p.kind = 3) /\ knownL p.args = true := by
 rw [knownP_eq, Bool.and_eq_true, Bool.or_eq_true, decide_eq_true_eq, decide_eq_true_eq] at h
 refine ⟨?_, h.1, h.2⟩
 rcases h.1 with h | h <;> simp [free, h]
section
variable {t : Tab} {ds : List DataSig} {rows : List MRow} {τs : List Ty} {k : Nat} {p0 : Pat}
theorem sem_int {τ : Ty} (hT : ∀ r ∈ rows, rowT t τs r.2) (ha : AtHead t rows τs k p0 τ) (hk : p0.kind = 2) {vs : List Val} {n : Int} (hl : vs.length = τs.length) (hv : vs[k]? = some (.int n)) (o : Option Nat) : Sem (narrowM k (isInt n) 0 rows) (vs.take k ++ (vs.drop (k + 1) ++ [])) o ↔ Sem rows vs o := by
 have h2 := nf_words hT ha hk
 refine sem_narrow (as := []) hv rfl (λ r hr => by rw [(hT r hr).len, hl]) (λ r hr p hp hpf => ?_) o
 have hk2 := h2 r hr p hp hpf
 rw [if_neg (by omega)]
 refine ⟨λ hi => ⟨λ _ => rfl, λ _ => (matP_eq _ _).2 (.inr (.inl ⟨hk2, ?_⟩))⟩, λ hi hm => ?_⟩
 .have e : p.n = _ := of_decide_eq_true hi
  rw [e]
 rcases (matP_eq _ _).1 hm with h | ⟨_, h⟩ | ⟨_, _, h, _⟩
 .rw [hpf] at h; cases h
 .injection h with h
  rw [isInt, decide_eq_false_iff_not] at hi
  exact hi h.symm
 cases h
theorem sem_word_no {τ : Ty} (hT : ∀ r ∈ rows, rowT t τs r.2) (ha : AtHead t rows τs k p0 τ) (hk : p0.kind = 2) {vs : List Val} {n : Int} {ws : List Int} (hl : vs.length = τs.length) (hv : vs[k]? = some (.int n)) (hall : ∀ r ∈ rows, free (r.2.getD k anyP) = true \/ wordAt k r ∈ ws) (hn : n ∉ ws) (o : Option Nat) : Sem (narrowM k (λ _ => false) 0 rows) (vs.take k ++ (vs.drop (k + 1) ++ [])) o ↔ Sem rows vs o := by
 have h2 := nf_words hT ha hk
 refine sem_narrow (as := []) hv rfl (λ r hr => by rw [(hT r hr).len, hl]) (λ r hr p hp hpf => ⟨λ h => (by cases h), λ _ hm => ?_⟩) o
 have hg : r.2.getD k anyP = p := by simp [hp]
 rcases hall r hr with h | h
 .rw [hg, hpf] at h; cases h
 rw [wordAt, hg] at h
 rcases (matP_eq _ _).1 hm with h' | ⟨_, h'⟩ | ⟨h', _⟩
 .rw [hpf] at h'; cases h'
 .injection h' with h'; rw [h'] at hn; exact hn h
 have := h2 r hr p hp hpf; omega
theorem con_rows {d : Nat} {g : Str -> Nat -> Ty} (hT : ∀ r ∈ rows, rowT t τs r.2) (ha : AtHead t rows τs k p0 (.dat d g)) : ∀ r ∈ rows, ∀ p, r.2[k]? = some p -> free p = false -> p.kind = 3 /\ ∃ a, tget t p.name = some (d, a, p.args.length) := λ r hr p hp hpf => by
 rcases rowT.get (hT r hr) k _ p ha.ty hp with h | ⟨h, h', _⟩
 .rw [hpf] at h; cases h
 exact ⟨h, h'⟩
theorem sem_con {d : Nat} {g : Str -> Nat -> Ty} (hT : ∀ r ∈ rows, rowT t τs r.2) (ha : AtHead t rows τs k p0 (.dat d g)) {vs as : List Val} {s : Str} {n : Nat} (hl : vs.length = τs.length) (hal : as.length = n) (hv : vs[k]? = some (.con s as)) (o : Option Nat) : Sem (narrowM k (isCon s) n rows) (vs.take k ++ (vs.drop (k + 1) ++ as)) o ↔ Sem rows vs o := by
 refine sem_narrow hv hal (λ r hr => by rw [(hT r hr).len, hl]) (λ r hr p hp hpf => ?_) o
 obtain ⟨hk3, a, ht⟩ := con_rows hT ha r hr p hp hpf
 rw [if_pos hk3]
 refine ⟨λ hi => ?_, λ hi hm => ?_⟩
 .have hn : p.name = _ := of_decide_eq_true hi
  rw [matP_eq, hn]
  constructor
  .rintro (h | ⟨_, h⟩ | ⟨_, as', h, h'⟩)
   .rw [hpf] at h; cases h
   .cases h
   injection h with _ h; subst h; exact h'
  intro h; exact .inr (.inr ⟨hk3, _, rfl, h⟩)
 rw [isCon, decide_eq_false_iff_not] at hi
 rcases (matP_eq _ _).1 hm with h | ⟨_, h⟩ | ⟨_, as', h, _⟩
 .rw [hpf] at h; cases h
 .cases h
 injection h with h _; exact hi h.symm
theorem sem_con_no {d : Nat} {g : Str -> Nat -> Ty} (hT : ∀ r ∈ rows, rowT t τs r.2) (ha : AtHead t rows τs k p0 (.dat d g)) {vs as : List Val} {s : Str} (hl : vs.length = τs.length) (hc : hasCon rows k s = false) (hv : vs[k]? = some (.con s as)) (o : Option Nat) : Sem (narrowM k (λ _ => false) 0 rows) (vs.take k ++ (vs.drop (k + 1) ++ [])) o ↔ Sem rows vs o := by
 refine sem_narrow (as := []) hv rfl (λ r hr => by rw [(hT r hr).len, hl]) (λ r hr p hp hpf => ⟨λ h => (by cases h), λ _ hm => ?_⟩) o
 have hg : r.2.getD k anyP = p := by simp [hp]
 rcases (matP_eq _ _).1 hm with h | ⟨_, h⟩ | ⟨_, as', h, _⟩
 .rw [hpf] at h; cases h
 .cases h
 injection h with h _
 have := Yaa.1 hc r hr
 simp only [hg, hpf, isCon] at this
 simp [h] at this
end
def atG (v : Pat) (vals : List Pat) : List Int -> Option Pat
 | [] => some v
 | y :: ys => match vals[y.toNat]? with
  | some p => atG p p.args ys
  | none => none
def atF (vals : List Pat) (path : List Int) : Option Pat := atG anyP vals path
theorem atG_snoc : ∀ (path : List Int) (v : Pat) (vals : List Pat) (y : Int), path ≠ [] -> atG v vals (path ++ [y]) = (match atG v vals path with | some p => p.args[y.toNat]? | none => none)
 | [], v, vals, y, h => absurd rfl h
 | [x], v, vals, y, _ => by
  show atG v vals [x, y] = _
  rw [atG, atG]
  cases hx : vals[x.toNat]? with
  | none => rfl
  | some p =>
   simp only [atG]
   cases p.args[y.toNat]? <;> rfl
 | x :: x' :: path, v, vals, y, _ => by
  rw [Yab, atG, atG]
  cases hx : vals[x.toNat]? with
  | none => rfl
  | some p => exact atG_snoc (x' :: path) p p.args y (by simp)
def AtL (vals : List Pat) : List (List Int) -> List Pat -> Prop
 | [], [] => True
 | a :: as, p :: ps => atF vals a = some p /\ AtL vals as ps
 | _, _ => False
theorem AtL.len {vals : List Pat} : ∀ {as : List (List Int)} {ps : List Pat}, AtL vals as ps -> as.length = ps.length
 | [], [], _ => rfl
 | a :: as, p :: ps, h => by simp [h.2.len]
 | [], _ :: _, h => h.elim
 | _ :: _, [], h => h.elim
theorem AtL.get {vals : List Pat} : ∀ {as : List (List Int)} {ps : List Pat} {i : Nat} {a : List Int} {p : Pat}, AtL vals as ps -> as[i]? = some a -> ps[i]? = some p -> atF vals a = some p
 | a :: as, p :: ps, 0, _, _, h, h1, h2 => by simp at h1 h2; subst h1; subst h2; exact h.1
 | a :: as, p :: ps, i + 1, _, _, h, h1, h2 => h.2.get (i := i) (by simpa using h1) (by simpa using h2)
 | [], [], i, _, _, _, h1, _ => by simp at h1
 | [], _ :: _, _, _, _, h, _, _ => h.elim
 | _ :: _, [], _, _, _, h, _, _ => h.elim
theorem AtL.of_get {vals : List Pat} : ∀ {as : List (List Int)} {ps : List Pat}, as.length = ps.length -> (∀ (i : Nat) a p, as[i]? = some a -> ps[i]? = some p -> atF vals a = some p) -> AtL vals as ps
 | [], [], _, _ => trivial
 | a :: as, p :: ps, hl, h => ⟨h 0 a p rfl rfl, AtL.of_get (by simpa using hl) λ i a p h1 h2 => h (i + 1) a p (by simpa using h1) (by simpa using h2)⟩
 | [], _ :: _, hl, _ => by simp at hl
 | _ :: _, [], hl, _ => by simp at hl
theorem AtL.append {vals : List Pat} : ∀ {as bs : List (List Int)} {ps qs : List Pat}, AtL vals as ps -> AtL vals bs qs -> AtL vals (as ++ bs) (ps ++ qs)
 | [], _, [], _, _, k => k
 | a :: as, _, p :: ps, _, h, k => ⟨h.1, h.2.append k⟩
 | [], _, _ :: _, _, h, _ => h.elim
 | _ :: _, _, [], _, h, _ => h.elim
theorem AtL.take {vals : List Pat} {as : List (List Int)} {ps : List Pat} (k : Nat) (h : AtL vals as ps) : AtL vals (as.take k) (ps.take k) :=
 .of_get (by rw [Yh, Yh, h.len]) λ i a p h1 h2 => by
  rw [List.getElem?_take] at h1 h2
  split at h1
  .rename_i hlt
   rw [if_pos hlt] at h2
   exact h.get h1 h2
  cases h1
theorem AtL.drop {vals : List Pat} {as : List (List Int)} {ps : List Pat} (k : Nat) (h : AtL vals as ps) : AtL vals (as.drop k) (ps.drop k) :=
 .of_get (by rw [Yr, Yr, h.len]) λ i a p h1 h2 => by
  rw [List.getElem?_drop] at h1 h2
  exact h.get h1 h2
def newVals (k : Nat) (as vs : List Pat) : List Pat := vs.take k ++ (vs.drop (k + 1) ++ as)
theorem AtL.child {vals : List Pat} {paths : List (List Int)} {vs as : List Pat} {k many : Nat} {path : List Int} {p : Pat} (h : AtL vals paths vs) (hk : paths[k]? = some path) (hp : vs[k]? = some p) (hne : path ≠ []) (ha : as = p.args \/ as = []) (hm : as.length = many) : AtL vals (belowM paths k many) (newVals k as vs) := by
 have hpg : paths.getD k [] = path := by simp [hk]
 unfold belowM newVals
 rw [hpg]
 refine (h.take k).append ((h.drop (k + 1)).append (.of_get (by simp [hm]) λ i a q h1 h2 => ?_))
 have hi := (Yc.1 h2).1
 simp only [Yt, List.getElem?_range (show i < many by omega), Option.map_some, Option.some.injEq] at h1
 subst h1
 have hat := h.get hk hp
 unfold atF at hat ⊢
 rw [atG_snoc path _ _ _ hne, hat]
 rcases ha with rfl | rfl
 .exact h2
 simp at hi
def pickI (i : Int) (l : Nat) : Nat := if i < 0 then l - 1 else i.toNat
inductive RunP (t : List MNode) (vals : List Pat) : Nat -> Int -> Prop where
 | fail {k : Nat} {n : MNode} : t[k]? = some n -> n.kind = 0 -> RunP t vals k (-1)
 | row {k : Nat} {n : MNode} : t[k]? = some n -> n.kind = 1 -> RunP t vals k n.row
 | word {k j : Nat} {n : MNode} {p : Pat} {r : Int} : t[k]? = some n -> n.kind = 3 -> atF vals n.path = some p -> p.kind = 2 -> n.kids[pickI (idxOf (λ x => decide (p.n = x)) n.words) n.kids.length]? = some (j : Int) -> j < k -> RunP t vals j r -> RunP t vals k r
 | con {k j : Nat} {n : MNode} {p : Pat} {r : Int} : t[k]? = some n -> n.kind = 2 -> atF vals n.path = some p -> p.kind = 3 -> n.kids[pickI (idxOf (λ x => decide (p.name = x)) n.names) n.kids.length]? = some (j : Int) -> j < k -> RunP t vals j r -> RunP t vals k r
theorem RunP.mono {a b : List MNode} {vals : List Pat} (hp : a <+: b) {k : Nat} {r : Int} (h : RunP a vals k r) : RunP b vals k r := by
 have hg : ∀ {i : Nat} {n : MNode}, a[i]? = some n -> b[i]? = some n := λ hi => by
  obtain ⟨c, rfl⟩ := hp
  rw [Yp (Yc.1 hi).1]
  exact hi
 induction h with
 | fail h1 h2 => exact .fail (hg h1) h2
 | row h1 h2 => exact .row (hg h1) h2
 | word h1 h2 h3 h4 h5 h6 _ ih => exact .word (hg h1) h2 h3 h4 h5 h6 ih
 | con h1 h2 h3 h4 h5 h6 _ ih => exact .con (hg h1) h2 h3 h4 h5 h6 ih
theorem RunP.back {a b : List MNode} {vals : List Pat} (hp : a <+: b) {k : Nat} {r : Int} (h : RunP b vals k r) : k < a.length -> RunP a vals k r := by
 have hg : ∀ {i : Nat} {n : MNode}, i < a.length -> b[i]? = some n -> a[i]? = some n := λ hi hb => by
  obtain ⟨c, rfl⟩ := hp
  rwa [Yp hi] at hb
 induction h with
 | fail h1 h2 => exact λ hk => .fail (hg hk h1) h2
 | row h1 h2 => exact λ hk => .row (hg hk h1) h2
 | word h1 h2 h3 h4 h5 h6 _ ih => exact λ hk => .word (hg hk h1) h2 h3 h4 h5 h6 (ih (by omega))
 | con h1 h2 h3 h4 h5 h6 _ ih => exact λ hk => .con (hg hk h1) h2 h3 h4 h5 h6 (ih (by omega))
def oInt : Option Nat -> Int
 | none => -1
 | some k => k
theorem pick_kid {α β : Type} {ys : List (β × Nat)} {f : β -> α} {q : α -> Bool} {z : Int} : (∃ w ∈ ys, q (f w.1) = true /\ (ys.map (λ w => (w.2 : Int)) ++ [z])[pickI (idxOf q (ys.map λ w => f w.1)) (ys.length + 1)]? = some (w.2 : Int)) \/
  ((∀ w ∈ ys, q (f w.1) = false) /\ (ys.map (λ w => (w.2 : Int)) ++ [z])[pickI (idxOf q (ys.map λ w => f w.1)) (ys.length + 1)]? = some z) := by
 rcases idxOf_range q (ys.map λ w => f w.1) with ⟨h1, h2⟩ | ⟨k, x, h1, h2, h3, _⟩
 .refine .inr ⟨λ w hw => ?_, ?_⟩
  .cases hq : q (f w.1) with
   | false => rfl
   | true =>
    have : (ys.map λ w => f w.1).any q = true := Yy.2 ⟨f w.1, Ya.2 ⟨w, hw, rfl⟩, hq⟩
    rw [h2] at this
    cases this
  rw [h1, pickI, if_pos (by decide)]
  simp
 rw [Yt] at h2
 cases hg : ys[k]? with
 | none => rw [hg] at h2; cases h2
 | some w =>
  rw [hg] at h2
  injection h2 with h2
  subst h2
  refine .inl ⟨w, Yf hg, h3, ?_⟩
  rw [h1, pickI, if_neg (by omega), Yar]
  have hk := (Yc.1 hg).1
  rw [Yp (by simpa using hk), Yt, hg]
  rfl
end Go.PM
end
section
namespace Go.PM
open Go.VL
theorem newVals_map (k : Nat) (as vs : List Pat) : (newVals k as vs).map toVal = (vs.map toVal).take k ++ ((vs.map toVal).drop (k + 1) ++ as.map toVal) := by
 unfold newVals
 rw [List.map_append, List.map_append, List.map_take, List.map_drop]
theorem newVals_known {k : Nat} {as vs : List Pat} (h : knownL vs = true) (ha : knownL as = true) : knownL (newVals k as vs) = true := by
 rw [knownL_mem] at h ha ⊢
 intro p hp
 rcases Yb.1 hp with hp | hp
 .exact h p (Yw hp)
 rcases Yb.1 hp with hp | hp
 .exact h p (Yx hp)
 exact ha p hp
theorem newVals_ty {t : Tab} {k : Nat} {as vs : List Pat} {σs τs : List Ty} (h : rowT t τs vs) (ha : rowT t σs as) : rowT t (newTys k σs τs) (newVals k as vs) := (h.take k).append ((h.drop (k + 1)).append ha)
def Runs (t : Tab) (vals : List Pat) (τs : List Ty) (rows : List MRow) (paths : List (List Int)) (s : BSt) (i : Nat) : Prop := s.many <= 4096 -> ∀ vs, rowT t τs vs -> knownL vs = true -> AtL vals paths vs -> ∀ o, Sem rows (vs.map toVal) o -> RunP s.out vals i (oInt o)
theorem Runs.mono {t : Tab} {vals : List Pat} {τs : List Ty} {rows : List MRow} {paths : List (List Int)} {s s' : BSt} {i : Nat} (hg : Grows s s') (h : Runs t vals τs rows paths s i) : Runs t vals τs rows paths s' i := λ hm vs h1 h2 h3 o ho => (h (by have := hg.many; omega) vs h1 h2 h3 o ho).mono hg.out
theorem buildM_run {t : Tab} {ds : List DataSig} (hok : TabOk t ds) (hlaw : TabLaw t ds) (vals : List Pat) : ∀ (f : Nat) (s : BSt) (rows : List MRow) (paths : List (List Int)) (τs : List Ty), MPre t f rows paths τs -> (∀ τ ∈ τs, Good ds τ) -> BOk s ->
  Runs t vals τs rows paths (buildM t ds f s rows paths).1 (buildM t ds f s rows paths).2
 | 0, s, rows, paths, τs, h, _, _ => absurd h.fuel (Yan _)
 | f + 1, s, rows, paths, τs, h, hg, hs => by
  have hts := tick_ok hs
  have htg := tick_grows s
  have hbok := (buildM_leaves hok (f + 1) s rows paths τs h hg hs).1
  intro hm vs hvT hvk hvA o ho
  rcases buildM_cases (s := s) hok h with ⟨e, hE⟩ | ⟨hft, r0, rs, er, ⟨e, hno⟩ | ⟨k, p0, τ, ha, ⟨hk, e⟩ | ⟨d, g, a, D, hτ, hk, hta, hD, hcl, hcs, e⟩⟩⟩
  .rw [e] at hm ⊢
   rw [(addF_many (tick s) failN).1] at hm
   have hr : rows.length = 0 := by
    rcases hE with hE | hE
    .exact hE
    rw [hts.full] at hE
    have := of_decide_eq_true hE
    omega
   obtain rfl := Yz hr
   have : o = none := ho
   subst this
   exact .fail (addF_at _ _) rfl
  .rw [e]
   rw [er] at ho
   have hT := h.ty r0 (by rw [er]; exact Yg ..)
   have hml := matL_free (vs := vs.map toVal) hno (by rw [hT.len, Yi, hvT.len])
   rcases ho with ⟨_, rfl⟩ | ⟨h1, _⟩
   .exact .row (addF_at _ _) rfl
   exact absurd hml h1
  .have hkl : k < vs.length := by rw [hvT.len]; exact (Yc.1 ha.ty).1
   obtain ⟨p, hp⟩ := get_of_lt vs k (by omega)
   obtain ⟨path, hpath⟩ := get_of_lt paths k (by rw [h.plen, <- hvT.len]; omega)
   have hpg : paths.getD k [] = path := by simp [hpath]
   have hne := (h.deep path (Yf hpath)).1
   obtain ⟨hpf, _, _⟩ := known_nf (knownL_mem.1 hvk p (Yf hp))
   have hpk : p.kind = 2 := int_ty ha.wt hk (rowT.get hvT k τ p ha.ty hp) hpf
   have hpv : (vs.map toVal)[k]? = some (.int p.n) := by rw [Yt, hp, <- toVal_int hpk]; rfl
   have hgn : ∀ τ ∈ newTys k [] τs, Good ds τ := newTys_good hg λ σ hσ => by cases hσ
   rw [e, wordsF, hpg] at hm hbok ⊢
   obtain ⟨i1, i2, i3, _, ys, i5, i6, i7, i8⟩ := wordsL_ind (rc := buildM t ds f) (rows := rows) (paths := paths) (k := k) (R := Grows) (I := BOk) (Q := λ n s y => Runs t vals (newTys k [] τs) (narrowM k (isInt n) 0 rows) (belowM paths k 0) s y)
    (λ s => ⟨Yl, Yam _⟩) (λ a b c h1 h2 => h1.trans h2) (λ c s s' y h1 h2 => h2.mono h1) rows (tick s) [] [] hts λ r hr s' hs' hf => by
     have hb := buildM_leaves hok f s' _ _ _ (word_child (isInt (wordAt k r)) h ha hk) hgn hs'
     exact ⟨hb.1, hb.2.1, buildM_run hok hlaw vals f s' _ _ _ (word_child (isInt (wordAt k r)) h ha hk) hgn hs'⟩
   generalize wordsL (buildM t ds f) rows paths k rows (tick s) [] [] = w at i1 i2 i3 i5 i6 i8 hm hbok ⊢
   have hob := buildM_leaves hok f w.1 _ _ _ (other_child h ha) hgn i1
   have hor := buildM_run hok hlaw vals f w.1 _ _ _ (other_child h ha) hgn i1
   simp only [otherF] at hm hbok ⊢
   generalize buildM t ds f w.1 (narrowM k (λ _ => false) 0 rows) (belowM paths k 0) = q at hob hor hm hbok ⊢
   rw [Yn] at i5 i6
   have hm2 : q.1.many <= 4096 := by rw [(addF_many q.1 _).1] at hm; exact hm
   have hpre := addF_prefix q.1 ⟨3, 0, path, [], w.2.1, w.2.2 ++ [(q.2 : Int)]⟩
   have hat := addF_at q.1 ⟨3, 0, path, [], w.2.1, w.2.2 ++ [(q.2 : Int)]⟩
   have hkd := hbok.kids _ _ hat
   have hvl : (vs.map toVal).length = τs.length := by rw [Yi, hvT.len]
   have hnT : rowT t (newTys k [] τs) (newVals k [] vs) := newVals_ty hvT trivial
   have hnK : knownL (newVals k [] vs) = true := newVals_known hvk rfl
   have hnA : AtL vals (belowM paths k 0) (newVals k [] vs) := hvA.child hpath hp hne (.inr rfl) rfl
   have hpick := pick_kid (ys := ys) (f := λ x : Int => x) (q := λ x => decide (p.n = x)) (z := (q.2 : Int))
   have hkl2 : (w.2.2 ++ [(q.2 : Int)]).length = ys.length + 1 := by rw [i6]; simp
   rw [<- i6, <- i5, <- hkl2] at hpick
   rcases hpick with ⟨z, hz, hzn, hzk⟩ | ⟨hall, hlast⟩
   .have hzn : p.n = z.1 := of_decide_eq_true hzn
    have hrun := ((i8 z hz).1.mono hob.2.1) hm2 _ hnT hnK hnA o (by
     rw [newVals_map, <- hzn]
     exact (sem_int h.ty ha hk hvl hpv o).2 ho)
    exact .word hat rfl (hvA.get hpath hp) hpk hzk (by have := hkd _ (Yf hzk); omega) (hrun.mono hpre)
   have hrun := hor hm2 _ hnT hnK hnA o (by
    rw [newVals_map]
    refine (sem_word_no h.ty ha hk hvl hpv i3 (λ hmem => ?_) o).2 ho
    rw [i5] at hmem
    obtain ⟨z, hz, hzn⟩ := Ya.1 hmem
    have := of_decide_eq_false (hall z hz)
    exact this hzn.symm)
   exact .word hat rfl (hvA.get hpath hp) hpk hlast (by have := hkd _ (Yf hlast); omega) (hrun.mono hpre)
  subst hτ
  have hkl : k < vs.length := by rw [hvT.len]; exact (Yc.1 ha.ty).1
  obtain ⟨p, hp⟩ := get_of_lt vs k (by omega)
  obtain ⟨path, hpath⟩ := get_of_lt paths k (by rw [h.plen, <- hvT.len]; omega)
  have hpg : paths.getD k [] = path := by simp [hpath]
  have hne := (h.deep path (Yf hpath)).1
  obtain ⟨hpf, _, hpka⟩ := known_nf (knownL_mem.1 hvk p (Yf hp))
  have hpw : wt t (.dat d g) p := rowT.get hvT k _ p ha.ty hp
  obtain ⟨hpk, ap, hpt⟩ : p.kind = 3 /\ ∃ a, tget t p.name = some (d, a, p.args.length) := by
   rcases hpw with h1 | ⟨h1, h2, _⟩
   .rw [hpf] at h1; cases h1
   exact ⟨h1, h2⟩
  have hpv : (vs.map toVal)[k]? = some (.con p.name (p.args.map toVal)) := by rw [Yt, hp, <- toVal_con hpk]; rfl
  have hgd : Good ds (.dat d g) := hg _ (Yf ha.ty)
  have hga : ∀ c : ConSig, ∀ τ ∈ newTys k (argT (g c.name) c.args.length) τs, Good ds τ := λ c => newTys_good hg λ σ hσ => by
   obtain ⟨i, _, rfl⟩ := Ya.1 hσ
   exact hgd.2 _ _
  rw [e, consF, hpg] at hm hbok ⊢
  obtain ⟨i1, i2, ys, i3, i5, i6, i8⟩ := consL_ind (rc := buildM t ds f) (rows := rows) (paths := paths) (k := k) (R := Grows) (I := BOk) (Q := λ c s y => Runs t vals (newTys k (argT (g c.name) c.args.length) τs) (narrowM k (isCon c.name) c.args.length rows) (belowM paths k c.args.length) s y)
   (λ s => ⟨Yl, Yam _⟩) (λ a b c h1 h2 => h1.trans h2) (λ c s s' y h1 h2 => h2.mono h1) D.cons (tick s) [] [] hts λ c hc s' hs' hh => by
    obtain ⟨a', hta'⟩ := hcs c hc
    have hb := buildM_leaves hok f s' _ _ _ (con_child h ha hta' hh) (hga c) hs'
    exact ⟨hb.1, hb.2.1, buildM_run hok hlaw vals f s' _ _ _ (con_child h ha hta' hh) (hga c) hs'⟩
  generalize consL (buildM t ds f) rows paths k D.cons (tick s) [] [] = w at i1 i2 i5 i6 i8 hm hbok ⊢
  rw [Yn] at i5 i6
  have hvl : (vs.map toVal).length = τs.length := by rw [Yi, hvT.len]
  have hmem : ∀ z ∈ ys, z.1 ∈ D.cons /\ hasCon rows k z.1.name = true := λ z hz => by
   have h : z.1 ∈ ys.map (·.1) := Ya.2 ⟨z, hz, rfl⟩
   rw [i3] at h
   exact Yv.1 h
  have hfl := filter_less (λ c : ConSig => hasCon rows k c.name) D.cons
  have hnl : w.2.1.length = (D.cons.filter λ c => hasCon rows k c.name).length := by rw [i5, <- i3, Yi, Yi]
  obtain ⟨D', hD', kc, hkc, hkn, _⟩ := hlaw.get _ _ hpt
  simp only [hD] at hD'
  injection hD' with hD'
  subst hD'
  -- a kid that was listed
  have hlisted : ∀ {s2 : BSt} {n : MNode}, Grows w.1 s2 -> s2.many <= 4096 -> ∀ z ∈ ys, p.name = z.1.name -> RunP s2.out vals z.2 (oInt o) := λ {s2 n} hgr hm2 z hz hzn => by
   obtain ⟨hzc, _⟩ := hmem z hz
   obtain ⟨a', hta'⟩ := hcs z.1 hzc
   have hlen : p.args.length = z.1.args.length := by
    rw [hzn, hta'] at hpt
    injection hpt with hpt
    injection hpt with _ hpt
    injection hpt with _ hpt
    exact hpt.symm
   have hargs := rowT.args hpw hpf
   rw [hzn, hlen] at hargs
   refine ((i8 z hz).mono hgr) hm2 (newVals k p.args vs) (newVals_ty hvT hargs) (newVals_known hvk hpka) (hvA.child hpath hp hne (.inl rfl) hlen) o ?_
   rw [newVals_map, <- hzn]
   exact (sem_con h.ty ha hvl (by rw [Yi, hlen]) hpv o).2 ho
  by_cases hlt : w.2.1.length < D.cons.length
  .rw [if_pos hlt] at hm hbok ⊢
   have hgn : ∀ τ ∈ newTys k [] τs, Good ds τ := newTys_good hg λ σ hσ => by cases hσ
   have hob := buildM_leaves hok f w.1 _ _ _ (other_child h ha) hgn i1
   have hor := buildM_run hok hlaw vals f w.1 _ _ _ (other_child h ha) hgn i1
   simp only [otherF] at hm hbok ⊢
   generalize buildM t ds f w.1 (narrowM k (λ _ => false) 0 rows) (belowM paths k 0) = q at hob hor hm hbok ⊢
   have hm2 : q.1.many <= 4096 := by rw [(addF_many q.1 _).1] at hm; exact hm
   have hpre := addF_prefix q.1 ⟨2, 0, path, w.2.1, [], w.2.2 ++ [(q.2 : Int)]⟩
   have hat := addF_at q.1 ⟨2, 0, path, w.2.1, [], w.2.2 ++ [(q.2 : Int)]⟩
   have hkd := hbok.kids _ _ hat
   have hpick := pick_kid (ys := ys) (f := ConSig.name) (q := λ x => decide (p.name = x)) (z := (q.2 : Int))
   have hkl2 : (w.2.2 ++ [(q.2 : Int)]).length = ys.length + 1 := by rw [i6]; simp
   rw [<- i6, <- i5, <- hkl2] at hpick
   rcases hpick with ⟨z, hz, hzn, hzk⟩ | ⟨hall, hlast⟩
   .have hrun := hlisted (n := failN) hob.2.1 hm2 z hz (of_decide_eq_true hzn)
    exact .con hat rfl (hvA.get hpath hp) hpk hzk (by have := hkd _ (Yf hzk); omega) (hrun.mono hpre)
   have hno : hasCon rows k p.name = false := by
    cases hh : hasCon rows k p.name with
    | false => rfl
    | true =>
     have h1 : kc ∈ ys.map (·.1) := by rw [i3]; exact Yv.2 ⟨hkc, by simp only [hkn]; exact hh⟩
     obtain ⟨z, hz, rfl⟩ := Ya.1 h1
     have := of_decide_eq_false (hall z hz)
     exact absurd hkn.symm this
   have hrun := hor hm2 (newVals k [] vs) (newVals_ty hvT trivial) (newVals_known hvk rfl) (hvA.child hpath hp hne (.inr rfl) rfl) o (by
    rw [newVals_map]
    exact (sem_con_no h.ty ha hvl hno hpv o).2 ho)
   exact .con hat rfl (hvA.get hpath hp) hpk hlast (by have := hkd _ (Yf hlast); omega) (hrun.mono hpre)
  rw [if_neg hlt] at hm hbok ⊢
  simp only at hm hbok ⊢
  have hallc : ∀ c ∈ D.cons, hasCon rows k c.name = true := Classical.byContradiction λ hh => hlt (by rw [hnl]; exact hfl.2 hh)
  have hm2 : w.1.many <= 4096 := by rw [(addF_many w.1 _).1] at hm; exact hm
  have hpre := addF_prefix w.1 ⟨2, 0, path, w.2.1, [], w.2.2 ++ [-1]⟩
  have hat := addF_at w.1 ⟨2, 0, path, w.2.1, [], w.2.2 ++ [-1]⟩
  have hkd := hbok.kids _ _ hat
  have hpick := pick_kid (ys := ys) (f := ConSig.name) (q := λ x => decide (p.name = x)) (z := -1)
  have hkl2 : (w.2.2 ++ [-1]).length = ys.length + 1 := by rw [i6]; simp
  rw [<- i6, <- i5, <- hkl2] at hpick
  rcases hpick with ⟨z, hz, hzn, hzk⟩ | ⟨hall, _⟩
  .have hrun := hlisted (n := failN) ⟨Yl, Yam _⟩ hm2 z hz (of_decide_eq_true hzn)
   exact .con hat rfl (hvA.get hpath hp) hpk hzk (by have := hkd _ (Yf hzk); omega) (hrun.mono hpre)
  exfalso
  have h1 : kc ∈ ys.map (·.1) := by rw [i3]; exact Yv.2 ⟨hkc, hallc kc hkc⟩
  obtain ⟨z, hz, rfl⟩ := Ya.1 h1
  have := of_decide_eq_false (hall z hz)
  exact this hkn.symm
end Go.PM
end
section
namespace Go.PM
open Go.VL
theorem sem_total (vs : List Val) : ∀ rows : List MRow, ∃ o, Sem rows vs o
 | [] => ⟨none, rfl⟩
 | r :: rows => by
  rcases Classical.em (matL r.2 vs) with h | h
  .exact ⟨some r.1, .inl ⟨h, rfl⟩⟩
  obtain ⟨o, ho⟩ := sem_total vs rows
  exact ⟨o, .inr ⟨h, ho⟩⟩
theorem atL_init {vals : List Pat} {rows : List (List Pat)} (h : vals.length = width rows) : AtL vals (pathsOf rows) vals := by
 refine .of_get (by simp [pathsOf, h]) λ i a p h1 h2 => ?_
 have hi := (Yc.1 h2).1
 unfold pathsOf at h1
 rw [Yt, List.getElem?_range (by omega)] at h1
 injection h1 with h1
 subst h1
 show atG anyP vals [(i : Int)] = some p
 rw [atG, Yar, h2]
 rfl
theorem comp_run {ds : List DataSig} (hz : Sized ds) {rows : List (List Pat)} (h : (compOut ds rows).2 = 0) {t : Tab} (hb : buildF 0 ds [] = some t) {τs : List Ty} (hτ : (τs.length : Int) = width rows) (hT : Typed ds t rows τs) (vals vs : List Pat) (hv : rowT t τs vs) (hk : knownL vs = true) (hA : AtL vals (pathsOf rows) vs) (o : Option Nat) (ho : Sem (enumR 0 rows) (vs.map toVal) o) : RunP (compOut ds rows).1 vals ((compOut ds rows).1.length - 1) (oInt o) := by
 have hck := compOut_zero h
 have hok := tabOk_of hb (check_parts hck hb).1 hz
 have hlaw := tabLaw_of hb
 have hpre := comp_pre hck hb hτ hT
 have hbok : BOk ⟨[], 0, false⟩ := ⟨rfl, λ i n hn => by simp at hn⟩
 have hb1 := (buildM_leaves hok 401 ⟨[], 0, false⟩ _ _ _ hpre hT.good hbok).1
 have hrun := buildM_run hok hlaw vals 401 ⟨[], 0, false⟩ _ _ _ hpre hT.good hbok
 change BOk (compF t ds rows).1 at hb1
 change Runs t vals τs (enumR 0 rows) (pathsOf rows) (compF t ds rows).1 (compF t ds rows).2 at hrun
 have hidx : (compF t ds rows).2 < (compF t ds rows).1.out.length := (buildM_depth hok 401 ⟨[], 0, false⟩ _ _ _ hpre).2.1
 have hfull : (compF t ds rows).1.full = false := by
  unfold compOut at h
  rw [if_neg (by simpa using hck), hb] at h
  simp only at h
  cases hf : (compF t ds rows).1.full with
  | false => rfl
  | true => rw [if_pos hf] at h; exact absurd h (by decide)
 have hout : (compOut ds rows).1 = (compF t ds rows).1.out.take ((compF t ds rows).2 + 1) := by
  unfold compOut
  rw [if_neg (by simpa using hck), hb]
  simp only
  rw [if_neg (by rw [hfull]; simp)]
 have hm : (compF t ds rows).1.many <= 4096 := by
  rw [hb1.full, decide_eq_false_iff_not] at hfull
  omega
 have hr := hrun hm vs hv hk hA o ho
 have hlen : (compOut ds rows).1.length = (compF t ds rows).2 + 1 := by rw [hout, Yh]; omega
 rw [hlen, Yaq, hout]
 exact hr.back (Yad _ _) (by rw [Yh]; omega)
end Go.PM
end
section
namespace Go.PM
open Go.VL
mutual
def mat1 : Pat -> Pat -> Bool
 | .mk k s n as, v => free (.mk k s n as) || ((decide (k = 2) && (decide (v.kind = 2) && decide (v.n = n))) || (decide (k = 3) && (decide (v.kind = 3) && (decide (v.name = s) && matsL as v.args))))
def matsL : List Pat -> List Pat -> Bool
 | [], vs => vs.isEmpty
 | p :: ps, vs => match vs with
  | [] => false
  | v :: vs => mat1 p v && matsL ps vs
end
theorem mat1_eq (p v : Pat) : mat1 p v = (free p || ((decide (p.kind = 2) && (decide (v.kind = 2) && decide (v.n = p.n))) || (decide (p.kind = 3) && (decide (v.kind = 3) && (decide (v.name = p.name) && matsL p.args v.args))))) := by
 obtain ⟨k, s, n, as⟩ := p
 rw [mat1]
 rfl
theorem matsL_cons (p v : Pat) (ps vs : List Pat) : matsL (p :: ps) (v :: vs) = (mat1 p v && matsL ps vs) := by rw [matsL]
theorem matsL_len : ∀ (r vs : List Pat), r.length ≠ vs.length -> matsL r vs = false
 | [], [], h => absurd rfl h
 | [], _ :: _, _ => by rw [matsL]; rfl
 | _ :: _, [], _ => by rw [matsL]
 | p :: r, v :: vs, h => by rw [matsL_cons, matsL_len r vs (by simpa using h), Bool.and_false]
theorem mat1_iff {p v : Pat} (hk : knownP v = true) (ih : matsL p.args v.args = true ↔ matL p.args (v.args.map toVal)) : mat1 p v = true ↔ matP p (toVal v) := by
 have h23 := (known_nf hk).2.1
 rw [matP_eq, mat1_eq, Bool.or_eq_true, Bool.or_eq_true, Bool.and_eq_true, Bool.and_eq_true, Bool.and_eq_true, Bool.and_eq_true, Bool.and_eq_true, decide_eq_true_eq, decide_eq_true_eq, decide_eq_true_eq, decide_eq_true_eq, decide_eq_true_eq, decide_eq_true_eq]
 refine or_congr Iff.rfl (or_congr (and_congr Iff.rfl ⟨?_, ?_⟩) (and_congr Iff.rfl ⟨?_, ?_⟩))
 .rintro ⟨h1, h2⟩
  rw [toVal_int h1, h2]
 .intro h
  rcases h23 with h2 | h3
  .rw [toVal_int h2] at h
   injection h with h
   exact ⟨h2, h⟩
  rw [toVal_con h3] at h
  cases h
 .rintro ⟨h1, h2, h3⟩
  exact ⟨v.args.map toVal, by rw [toVal_con h1, h2], ih.1 h3⟩
 rintro ⟨vs, h, hm⟩
 rcases h23 with h2 | h3
 .rw [toVal_int h2] at h
  cases h
 rw [toVal_con h3] at h
 injection h with h4 h5
 subst h5
 exact ⟨h3, h4, ih.2 hm⟩
theorem mats_iff : ∀ (n : Nat) (r vs : List Pat), cL r < n -> knownL vs = true -> (matsL r vs = true ↔ matL r (vs.map toVal))
 | 0, _, _, h, _ => absurd h (Yan _)
 | n + 1, r, vs, h, hk => by
  have key : ∀ (l : List Pat), (∀ p ∈ l, p ∈ r) -> ∀ vs, knownL vs = true -> (matsL l vs = true ↔ matL l (vs.map toVal)) := by
   intro l
   induction l with
   | nil =>
    intro _ vs _
    cases vs with
    | nil => rw [matsL, List.map_nil, matL]; simp
    | cons v vs => rw [matsL, List.map_cons, matL]; simp
   | cons p l ihl =>
    intro hl vs hv
    cases vs with
    | nil =>
     rw [matsL, List.map_nil, matL]
     simp
    | cons v vs =>
     rw [knownL, Bool.and_eq_true] at hv
     have hp := hl p (Yg ..)
     rw [matsL_cons, List.map_cons, matL_cons, Bool.and_eq_true, ihl (λ q hq => hl q (Yd _ hq)) vs hv.2,
      mat1_iff hv.1 (mats_iff n p.args v.args (args_lt hp h) (known_nf hv.1).2.2)]
  exact key r (λ _ h => h) vs hk
theorem mats_known {r vs : List Pat} (hk : knownL vs = true) : matsL r vs = true ↔ matL r (vs.map toVal) := mats_iff (cL r + 1) r vs (Yap _) hk
def firstR (rows : List (List Pat)) (vals : List Pat) : Int := idxOf (λ r => matsL r vals) rows
theorem first_sem {rows : List (List Pat)} {vals : List Pat} (hk : knownL vals = true) {o : Option Nat} (h : Sem (enumR 0 rows) (vals.map toVal) o) : oInt o = firstR rows vals := by
 cases o with
 | none =>
  rw [sem_none] at h
  exact (idxOf_none _ (by
   rw [Yaa]
   intro r hr hm
   exact h r hr ((mats_known hk).1 hm))).symm
 | some k =>
  rw [show k = 0 + k by omega, sem_some] at h
  obtain ⟨r, h1, h2, h3⟩ := h
  exact (idxOf_at (λ r => matsL r vals) h1 (by
   rw [Yaa]
   intro r' hr hm
   exact h3 r' hr ((mats_known hk).1 hm)) ((mats_known hk).2 h2)).symm
theorem fits_val {ds : List DataSig} {t : Tab} (hl : TabLaw t ds) : ∀ (n : Nat) (p : Pat), SizeOf.sizeOf p < n -> ∀ τ, wt t τ p -> knownP p = true -> fits ds τ (toVal p)
 | 0, _, h, _, _, _ => absurd h (Yan _)
 | n + 1, p, h, .any, _, _ => by rw [fits]; trivial
 | n + 1, p, h, .int, _, _ => by rw [fits]; trivial
 | n + 1, p, h, .dat d f, hw, hk => by
  have hn := known_nf hk
  rcases hw with hf | ⟨h3, ⟨a, ha⟩, _, hargs⟩
  .rw [hn.1] at hf; cases hf
  obtain ⟨D, hD, k, hkD, hkn, hkl⟩ := hl.get _ _ ha
  refine ⟨D, k, p.args.map toVal, hD, hkD, by rw [toVal_con h3, hkn], by rw [Yi]; exact hkl.symm, λ i x hx => ?_⟩
  rw [Yt, Option.map_eq_some_iff] at hx
  obtain ⟨q, hq, rfl⟩ := hx
  have hm := Yf hq
  rw [hkn]
  exact fits_val hl n q (by have := mem_size hm; omega) _ (hargs i q hq) (knownL_mem.1 hn.2.2 q hm)
theorem fits_vals {ds : List DataSig} {t : Tab} (hl : TabLaw t ds) : ∀ (τs : List Ty) (r : List Pat), rowT t τs r -> knownL r = true -> fitsL ds τs (r.map toVal)
 | [], [], _, _ => trivial
 | τ :: τs, p :: r, h, hk => by
  rw [knownL, Bool.and_eq_true] at hk
  exact ⟨fits_val hl _ p (Yap _) τ h.1 hk.1, fits_vals hl τs r h.2 hk.2⟩
 | [], _ :: _, h, _ => h.elim
 | _ :: _, [], h, _ => h.elim
theorem width_more {rows : List (List Pat)} (vals : List Pat) (h : rows ≠ []) : width (rows ++ [vals]) = width rows := by
 cases rows with
 | nil => exact absurd rfl h
 | cons r rs => rfl
theorem top_match {ds : List DataSig} (hz : Sized ds) {rows : List (List Pat)} {vals : List Pat} (hne : rows ≠ []) (hck : checkF ds (rows ++ [vals]) = 0) (hk : knownL vals = true) (ht : (compOut ds rows).2 = 0) :
  RunP (compOut ds rows).1 vals ((compOut ds rows).1.length - 1) (firstR rows vals) := by
 obtain ⟨t, hb⟩ := check_build hck
 obtain ⟨τs, hτ, hT⟩ := typed_of hck hb (nbad_any hck)
 rw [width_more vals hne] at hτ
 have hTr := typed_sub (Yak rows [vals]) hT
 have hvT : rowT t τs vals := hT.pre.ty vals (by simp)
 have hvl : vals.length = width rows := by have := hvT.len; omega
 obtain ⟨o, ho⟩ := sem_total (vals.map toVal) (enumR 0 rows)
 have hr := comp_run hz ht hb hτ hTr vals vals hvT hk (atL_init hvl) o ho
 rwa [first_sem hk ho] at hr
theorem top_missing {ds : List DataSig} (hz : Sized ds) {rows : List (List Pat)} {vals : List Pat} (hne : rows ≠ []) (hck : checkF ds (rows ++ [vals]) = 0) (hk : knownL vals = true) :
  (missOut ds rows (width rows)).2 = 0 /\ (vals ≠ [] -> (missOut ds rows (width rows)).1.length = 0 -> 0 <= firstR rows vals /\ firstR rows vals < rows.length) := by
 obtain ⟨t, hb⟩ := check_build hck
 have hnb := nbad_any hck
 obtain ⟨τs, hτ, hT⟩ := typed_of hck hb hnb
 have hs := check_sub (Yak rows [vals]) hck hnb
 rw [width_more vals hne] at hτ hs
 have hTr := typed_sub (Yak rows [vals]) hT
 have hvT : rowT t τs vals := hT.pre.ty vals (by simp)
 refine ⟨by rw [missOut_ok hs.1 hs.2 hb], λ hv hm => ?_⟩
 have h1 : 1 <= (width rows : Int) := by
  have := hvT.len
  have := List.length_pos_iff.2 hv
  omega
 have hla := (missOut_lacks (tabOk_of hb (check_parts hck hb).1 hz) hs.1 hs.2 hb hτ hTr h1).2
 have hno : ¬ Lacks ds τs rows := λ h => by have := hla.2 h; omega
 rcases idxOf_range (λ r => matsL r vals) rows with ⟨_, h2⟩ | ⟨k, x, h2, h3, _, _⟩
 .refine absurd ⟨vals.map toVal, fits_vals (tabLaw_of hb) τs vals hvT hk, λ r hr hm2 => ?_⟩ hno
  rw [Yaa] at h2
  exact h2 r hr ((mats_known hk).2 hm2)
 have := (Yc.1 h3).1
 unfold firstR
 rw [h2]
 omega
def typedB (ds : List DataSig) (rows : List (List Pat)) (vals : List Pat) : Bool := knownL vals && (decide ((rows.length : Int) > 0) && (decide ((rows.length : Int) < 64) && decide (checkF ds (rows ++ [vals]) = 0)))
theorem typedB_iff {ds : List DataSig} {rows : List (List Pat)} {vals : List Pat} (h : typedB ds rows vals = true) : knownL vals = true /\ rows ≠ [] /\ rows.length < 64 /\ checkF ds (rows ++ [vals]) = 0 := by
 unfold typedB at h
 rw [Bool.and_eq_true, Bool.and_eq_true, Bool.and_eq_true, decide_eq_true_eq, decide_eq_true_eq, decide_eq_true_eq] at h
 exact ⟨h.1, λ e => by rw [e] at h; exact absurd h.2.1 (by decide), by omega, h.2.2.2⟩
end Go.PM
end
