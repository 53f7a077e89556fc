/- Matching, the plain law: on each path a place is examined once. -/
import Derived.Test.YtmjeaagpcmfnpaaVN1
set_option linter.unusedVariables false
namespace Go.PM
open Go.VL
inductive OnceP (t : List MNode) : Nat → List (List Int) → Prop where
  | leaf {k : Nat} {n : MNode} {before : List (List Int)} : t[k]? = some n → n.kind ≠ 2 → n.kind ≠ 3 → OnceP t k before
  | node {k : Nat} {n : MNode} {before : List (List Int)} : t[k]? = some n → (n.kind = 2 ∨ n.kind = 3) → n.path ∉ before → (1 < n.path.length → n.path.dropLast ∈ before) → (∀ j : Nat, (j : Int) ∈ n.kids → j < k → OnceP t j (before ++ [n.path])) → OnceP t k before
theorem OnceP.mono {a b : List MNode} (hp : a <+: b) {k : Nat} {before : List (List Int)} (h : OnceP a k before) : OnceP b k before := by
  have hg : ∀ {i : Nat} {n : MNode}, a[i]? = some n → b[i]? = some n := fun hi => by
    obtain ⟨c, rfl⟩ := hp
    rw [List.getElem?_append_left (List.getElem?_eq_some_iff.1 hi).1]
    exact hi
  induction h with
  | leaf h1 h2 h3 => exact .leaf (hg h1) h2 h3
  | node h1 h2 h3 h4 _ ih => exact .node (hg h1) h2 h3 h4 ih
theorem OnceP.back {a b : List MNode} (hp : a <+: b) {k : Nat} {before : List (List Int)} (h : OnceP b k before) : k < a.length → OnceP a k before := by
  have hg : ∀ {i : Nat} {n : MNode}, i < a.length → b[i]? = some n → a[i]? = some n := fun hi hb => by
    obtain ⟨c, rfl⟩ := hp
    rwa [List.getElem?_append_left hi] at hb
  induction h with
  | leaf h1 h2 h3 => exact fun hk => .leaf (hg hk h1) h2 h3
  | node h1 h2 h3 h4 _ ih => exact fun hk => .node (hg hk h1) h2 h3 h4 fun j hj hlt => ih j hj hlt (by omega)
abbrev Apart (p q : List Int) : Prop := ¬ p <+: q ∧ ¬ q <+: p
structure Ctx (paths before : List (List Int)) : Prop where
  pre : ∀ p ∈ paths, ∀ q ∈ before, ¬ p <+: q
  par : ∀ p ∈ paths, 1 < p.length → p.dropLast ∈ before
  anti : paths.Pairwise Apart
theorem apart_ext {x path : List Int} {i : Int} (h : Apart x path) : Apart x (path ++ [i]) := by
  refine ⟨fun hp => ?_, fun hp => h.2 ((List.prefix_append path [i]).trans hp)⟩
  rcases List.prefix_concat_iff.1 hp with rfl | hp
  · exact h.2 (List.prefix_append path [i])
  · exact h.1 hp
theorem Ctx.child {paths before : List (List Int)} {k many : Nat} {path : List Int} (h : Ctx paths before) (hk : paths[k]? = some path) : Ctx (belowM paths k many) (before ++ [path]) := by
  have hpg : paths.getD k [] = path := by simp [hk]
  have hpm := List.mem_of_getElem? hk
  have ha := h.anti
  rw [split_at hk, List.pairwise_append, List.pairwise_cons] at ha
  obtain ⟨h1, ⟨h2, h3⟩, h4⟩ := ha
  have hoth : ∀ x, x ∈ paths.take k ∨ x ∈ paths.drop (k + 1) → Apart x path := fun x hx => by
    rcases hx with hx | hx
    · exact h4 x hx path (List.mem_cons_self ..)
    · exact ⟨(h2 x hx).2, (h2 x hx).1⟩
  have hmem : ∀ p ∈ belowM paths k many, (p ∈ paths ∧ Apart p path) ∨ ∃ i : Nat, p = path ++ [(i : Int)] := fun p hp => by
    unfold belowM at hp
    rw [hpg] at hp
    rcases List.mem_append.1 hp with hp | hp
    · exact .inl ⟨List.mem_of_mem_take hp, hoth p (.inl hp)⟩
    rcases List.mem_append.1 hp with hp | hp
    · exact .inl ⟨List.mem_of_mem_drop hp, hoth p (.inr hp)⟩
    · obtain ⟨i, _, rfl⟩ := List.mem_map.1 hp
      exact .inr ⟨i, rfl⟩
  refine ⟨fun p hp q hq => ?_, fun p hp hl => ?_, ?_⟩
  · rcases hmem p hp with ⟨hpp, hap⟩ | ⟨i, rfl⟩
    · rcases List.mem_append.1 hq with hq | hq
      · exact h.pre p hpp q hq
      · rw [List.mem_singleton] at hq; subst hq; exact hap.1
    · rcases List.mem_append.1 hq with hq | hq
      · exact fun hc => h.pre path hpm q hq ((List.prefix_append path _).trans hc)
      · rw [List.mem_singleton] at hq
        subst hq
        intro hc
        have := hc.length_le
        rw [List.length_append, List.length_singleton] at this
        omega
  · rcases hmem p hp with ⟨hpp, _⟩ | ⟨i, rfl⟩
    · exact List.mem_append_left _ (h.par p hpp hl)
    · rw [List.dropLast_concat]
      exact List.mem_append_right _ (List.mem_singleton.2 rfl)
  · unfold belowM
    rw [hpg, List.pairwise_append, List.pairwise_append]
    have hnew : ∀ x, x ∈ paths.take k ∨ x ∈ paths.drop (k + 1) → ∀ y ∈ (List.range many).map (fun i : Nat => path ++ [(i : Int)]), Apart x y := fun x hx y hy => by
      obtain ⟨i, _, rfl⟩ := List.mem_map.1 hy
      exact apart_ext (hoth x hx)
    refine ⟨h1, ⟨h3, ?_, fun x hx y hy => hnew x (.inr hx) y hy⟩, fun x hx y hy => ?_⟩
    · rw [List.pairwise_map]
      refine List.pairwise_lt_range.imp fun {a b} hab => ?_
      have hl : (path ++ [(a : Int)]).length = (path ++ [(b : Int)]).length := by simp
      have hne : path ++ [(a : Int)] ≠ path ++ [(b : Int)] := fun h => by
        have := List.append_cancel_left h
        injection this with this
        omega
      exact ⟨fun hc => hne (hc.eq_of_length hl), fun hc => hne (hc.eq_of_length hl.symm).symm⟩
    · rcases List.mem_append.1 hy with hy | hy
      · exact h4 x hx y (List.mem_cons_of_mem _ hy)
      · exact hnew x (.inl hx) y hy
theorem node_once {s : BSt} {n : MNode} {paths before : List (List Int)} {k : Nat} {path : List Int} (hc : Ctx paths before) (hk : paths[k]? = some path) (hn : n.path = path) (hkind : n.kind = 2 ∨ n.kind = 3)
    (h : ∀ j : Nat, (j : Int) ∈ n.kids → OnceP (addF s n).1.out j (before ++ [path])) : OnceP (addF s n).1.out (addF s n).2 before := by
  have hpm := List.mem_of_getElem? hk
  refine .node (addF_at s n) hkind ?_ ?_ fun j hj _ => ?_
  · rw [hn]; exact fun hm => hc.pre path hpm path hm List.prefix_rfl
  · rw [hn]; exact hc.par path hpm
  · rw [hn]; exact h j hj
theorem buildM_once {t : Tab} {ds : List DataSig} (hok : TabOk t ds) : ∀ (f : Nat) (s : BSt) (rows : List MRow) (paths : List (List Int)) (τs : List Ty), MPre t f rows paths τs → s.out <+: (buildM t ds f s rows paths).1.out ∧ ∀ before, Ctx paths before → OnceP (buildM t ds f s rows paths).1.out (buildM t ds f s rows paths).2 before
  | 0, s, rows, paths, τs, h => absurd h.fuel (Nat.not_lt_zero _)
  | f + 1, s, rows, paths, τs, h => by
    refine ⟨(buildM_depth hok (f + 1) s rows paths τs h).1, fun before hc => ?_⟩
    rcases buildM_cases (s := s) hok h with ⟨e, _⟩ | ⟨hft, r0, rs, er, ⟨e, _⟩ | ⟨k, p, τ, ha, ⟨hk, e⟩ | ⟨d, g, a, D, hτ, hk, hta, hD, hcl, hcs, e⟩⟩⟩
    · rw [e]; exact .leaf (addF_at _ _) (by decide) (by decide)
    · rw [e]; exact .leaf (addF_at _ _) (by simp [rowN]) (by simp [rowN])
    · obtain ⟨path, hpath⟩ := get_of_lt paths k (by rw [h.plen]; have := (List.getElem?_eq_some_iff.1 ha.ty).1; omega)
      have hpg : paths.getD k [] = path := by simp [hpath]
      rw [e, wordsF, hpg]
      obtain ⟨_, i2, _, _, ys, _, i6, _, i8⟩ := wordsL_ind (rc := buildM t ds f) (rows := rows) (paths := paths) (k := k) (R := fun s s' => s.out <+: s'.out) (I := fun _ => True) (Q := fun _ s y => ∀ before, Ctx (belowM paths k 0) before → OnceP s.out y before)
        (fun s => List.prefix_rfl) (fun a b c h1 h2 => h1.trans h2) (fun c s s' y h1 h2 b hb => (h2 b hb).mono h1) rows (tick s) [] [] trivial fun r hr s' _ hf => ⟨trivial, buildM_once hok f s' _ _ _ (word_child (isInt (wordAt k r)) h ha hk)⟩
      generalize wordsL (buildM t ds f) rows paths k rows (tick s) [] [] = w at i2 i6 i8 ⊢
      have ho := buildM_once hok f w.1 _ _ _ (other_child h ha)
      simp only [otherF]
      generalize buildM t ds f w.1 (narrowM k (fun _ => false) 0 rows) (belowM paths k 0) = q at ho ⊢
      rw [List.nil_append] at i6
      have hpre := addF_prefix q.1 ⟨3, 0, path, [], w.2.1, w.2.2 ++ [(q.2 : Int)]⟩
      refine node_once hc hpath rfl (.inr rfl) fun j hj => ?_
      rcases List.mem_append.1 hj with hj | hj
      · rw [i6] at hj
        obtain ⟨z, hz, hzj⟩ := List.mem_map.1 hj
        obtain rfl : j = z.2 := by omega
        exact ((i8 z hz).1 _ (hc.child hpath)).mono (ho.1.trans hpre)
      · rw [List.mem_singleton] at hj
        obtain rfl : j = q.2 := by omega
        exact (ho.2 _ (hc.child hpath)).mono hpre
    · subst hτ
      obtain ⟨path, hpath⟩ := get_of_lt paths k (by rw [h.plen]; have := (List.getElem?_eq_some_iff.1 ha.ty).1; omega)
      have hpg : paths.getD k [] = path := by simp [hpath]
      rw [e, consF, hpg]
      obtain ⟨_, i2, ys, _, _, i6, i8⟩ := consL_ind (rc := buildM t ds f) (rows := rows) (paths := paths) (k := k) (R := fun s s' => s.out <+: s'.out) (I := fun _ => True) (Q := fun c s y => ∀ before, Ctx (belowM paths k c.args.length) before → OnceP s.out y before)
        (fun s => List.prefix_rfl) (fun a b c h1 h2 => h1.trans h2) (fun c s s' y h1 h2 b hb => (h2 b hb).mono h1) D.cons (tick s) [] [] trivial fun c hc s' _ hh => by
          obtain ⟨a', hta'⟩ := hcs c hc
          exact ⟨trivial, buildM_once hok f s' _ _ _ (con_child h ha hta' hh)⟩
      generalize consL (buildM t ds f) rows paths k D.cons (tick s) [] [] = w at i2 i6 i8 ⊢
      have ho := buildM_once hok f w.1 _ _ _ (other_child h ha)
      simp only [otherF]
      generalize buildM t ds f w.1 (narrowM k (fun _ => false) 0 rows) (belowM paths k 0) = q at ho ⊢
      rw [List.nil_append] at i6
      by_cases hlt : w.2.1.length < D.cons.length
      · rw [if_pos hlt]
        have hpre := addF_prefix q.1 ⟨2, 0, path, w.2.1, [], w.2.2 ++ [(q.2 : Int)]⟩
        refine node_once hc hpath rfl (.inl rfl) fun j hj => ?_
        rcases List.mem_append.1 hj with hj | hj
        · rw [i6] at hj
          obtain ⟨z, hz, hzj⟩ := List.mem_map.1 hj
          obtain rfl : j = z.2 := by omega
          exact (i8 z hz _ (hc.child hpath)).mono (ho.1.trans hpre)
        · rw [List.mem_singleton] at hj
          obtain rfl : j = q.2 := by omega
          exact (ho.2 _ (hc.child hpath)).mono hpre
      · rw [if_neg hlt]
        have hpre := addF_prefix w.1 ⟨2, 0, path, w.2.1, [], w.2.2 ++ [-1]⟩
        refine node_once hc hpath rfl (.inl rfl) fun j hj => ?_
        rcases List.mem_append.1 hj with hj | hj
        · rw [i6] at hj
          obtain ⟨z, hz, hzj⟩ := List.mem_map.1 hj
          obtain rfl : j = z.2 := by omega
          exact (i8 z hz _ (hc.child hpath)).mono hpre
        · rw [List.mem_singleton] at hj
          omega
/-- What MatchOnce asks of a compiled tree. -/
theorem once_law {ds : List DataSig} (hz : Sized ds) {rows : List (List Pat)} (h : (compOut ds rows).2 = 0) : ∃ t, buildF 0 ds [] = some t ∧ (compOut ds rows).1.length ≠ 0 ∧ (compOut ds rows).1.length ≤ 4096 ∧ (∀ (k : Nat) n, (compOut ds rows).1[k]? = some n → NodeP t ds n ∧ ∀ y ∈ n.kids, y < (k : Int)) ∧ OnceP (compOut ds rows).1 ((compOut ds rows).1.length - 1) [] := by
  obtain ⟨t, τs, hck, hb, hok, hτ, hT, hkids, hne, h4, _⟩ := comp_leaves hz h
  have hpre := comp_pre hck hb hτ hT
  have hlaw := tabLaw_of hb
  have he := (check_parts hck hb).2.2.1
  have hfine : Fine t (enumR 0 rows) (pathsOf rows) := ⟨fun r hr p hp => patsF_iff.1 (errRows_iff.1 he _ (enumR_mem hr)) p hp, fun p hp x hx => by
    obtain ⟨n, _, rfl⟩ := List.mem_map.1 hp
    rw [List.mem_singleton] at hx
    omega⟩
  have hnodes := buildM_nodes hok hlaw (buildF_nodup hb) 401 ⟨[], 0, false⟩ _ _ _ hpre hfine
  have hctx : Ctx (pathsOf rows) [] := by
    refine ⟨fun p hp q hq => (by cases hq), fun p hp hl => ?_, ?_⟩
    · obtain ⟨n, _, rfl⟩ := List.mem_map.1 hp
      simp at hl
    · unfold pathsOf
      rw [List.pairwise_map]
      refine List.pairwise_lt_range.imp fun {a b} hab => ?_
      have hne : [(a : Int)] ≠ [(b : Int)] := fun h => by injection h with h; omega
      exact ⟨fun hc => hne (hc.eq_of_length rfl), fun hc => hne (hc.eq_of_length rfl).symm⟩
  have honce := (buildM_once hok 401 ⟨[], 0, false⟩ _ _ _ hpre).2 [] hctx
  change ∀ n ∈ (compF t ds rows).1.out, n ∈ [] ∨ NodeP t ds n at hnodes
  change OnceP (compF t ds rows).1.out (compF t ds rows).2 [] at honce
  have hout : (compOut ds rows).1 = (compF t ds rows).1.out.take ((compF t ds rows).2 + 1) := by
    unfold compOut at h ⊢
    rw [if_neg (by simpa using hck), hb] at h ⊢
    simp only at h ⊢
    by_cases hfull : (compF t ds rows).1.full = true
    · rw [if_pos hfull] at h; exact absurd h (by decide)
    · rw [if_neg hfull]
  have hidx : (compF t ds rows).2 < (compF t ds rows).1.out.length := (buildM_depth hok 401 ⟨[], 0, false⟩ _ _ _ hpre).2.1
  have hlen : (compOut ds rows).1.length = (compF t ds rows).2 + 1 := by rw [hout, List.length_take]; omega
  refine ⟨t, hb, hne, h4, fun k n hn => ⟨?_, fun y hy => hkids k n hn y hy⟩, ?_⟩
  · have hm := List.mem_of_getElem? hn
    rw [hout] at hm
    exact (hnodes n (List.mem_of_mem_take hm)).resolve_left fun h => by cases h
  · rw [hlen, Nat.add_sub_cancel, hout]
    exact honce.back (List.take_prefix _ _) (by rw [List.length_take]; omega)
end Go.PM
