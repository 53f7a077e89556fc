/- Matching, the plain law: how deep a tree is. -/
import Derived.Test.YtmjeaagpcmfnpaaVM2
set_option linter.unusedVariables false
namespace Go.PM
open Go.VL
/-- How deep a node is, if one knows how deep those ahead are. -/
def ndStep (acc : List Nat) (m : Nat) (y : Int) : Nat := if 0 ≤ y ∧ y < acc.length then max m (acc.getD y.toNat 0 + 1) else m
def ndD (acc : List Nat) (n : MNode) : Nat := if n.kind = 2 ∨ n.kind = 3 then n.kids.foldl (ndStep acc) 1 else 0
def deepL : List MNode → List Nat → List Nat
  | [], acc => acc
  | n :: ns, acc => deepL ns (acc ++ [ndD acc n])
def depthF (out : List MNode) : Nat := if out.length = 0 then 0 else (deepL out []).getD (out.length - 1) 0
theorem deepL_append : ∀ (a b : List MNode) (acc : List Nat), deepL (a ++ b) acc = deepL b (deepL a acc)
  | [], b, acc => rfl
  | n :: a, b, acc => by rw [List.cons_append, deepL, deepL, deepL_append a b]
theorem deepL_prefix : ∀ (a : List MNode) (acc : List Nat), acc <+: deepL a acc
  | [], acc => List.prefix_rfl
  | n :: a, acc => (List.prefix_append acc [ndD acc n]).trans (deepL_prefix a _)
theorem deepL_len : ∀ (a : List MNode) (acc : List Nat), (deepL a acc).length = acc.length + a.length
  | [], acc => rfl
  | n :: a, acc => by rw [deepL, deepL_len a, List.length_append, List.length_singleton, List.length_cons]; omega
theorem prefix_getD {a b : List Nat} (h : a <+: b) {j : Nat} (hj : j < a.length) : b.getD j 0 = a.getD j 0 := by
  obtain ⟨c, rfl⟩ := h
  simp [List.getD_eq_getElem?_getD, List.getElem?_append_left hj]
theorem deep_get {out : List MNode} {j : Nat} {n : MNode} (h : out[j]? = some n) : (deepL out []).getD j 0 = ndD (deepL (out.take j) []) n := by
  have hj := (List.getElem?_eq_some_iff.1 h).1
  have hl := deepL_len (out.take j) []
  rw [List.length_take, List.length_nil] at hl
  conv => lhs; rw [split_at h, deepL_append, deepL]
  rw [prefix_getD (deepL_prefix _ _) (by rw [List.length_append, List.length_singleton]; omega)]
  rw [List.getD_eq_getElem?_getD, List.getElem?_append_right (by omega)]
  rw [show j - (deepL (out.take j) []).length = 0 by omega]
  rfl
/-- A node that is there, and not deeper than B. -/
def DB (B : Nat) (out : List MNode) (j : Nat) : Prop := j < out.length ∧ (deepL out []).getD j 0 ≤ B
theorem DB.mono {B : Nat} {a b : List MNode} {j : Nat} (hp : a <+: b) (h : DB B a j) : DB B b j := by
  obtain ⟨c, rfl⟩ := hp
  refine ⟨by rw [List.length_append]; have := h.1; omega, ?_⟩
  rw [deepL_append, prefix_getD (deepL_prefix _ _) (by rw [deepL_len]; simpa using h.1)]
  exact h.2
theorem DB.le {B C : Nat} {out : List MNode} {j : Nat} (h : DB B out j) (hb : B ≤ C) : DB C out j := ⟨h.1, Nat.le_trans h.2 hb⟩
theorem ndStep_le {acc : List Nat} {B : Nat} : ∀ (kids : List Int) (m : Nat), m ≤ B → (∀ y ∈ kids, ∀ i : Nat, y = i → i < acc.length → acc.getD i 0 + 1 ≤ B) → kids.foldl (ndStep acc) m ≤ B
  | [], m, hm, _ => hm
  | y :: kids, m, hm, h => by
    rw [List.foldl_cons]
    refine ndStep_le kids _ ?_ fun z hz => h z (List.mem_cons_of_mem _ hz)
    unfold ndStep
    by_cases hy : 0 ≤ y ∧ y < acc.length
    · rw [if_pos hy]
      have := h y (List.mem_cons_self ..) y.toNat (by omega) (by omega)
      omega
    · rw [if_neg hy]
      exact hm
theorem addF_prefix (s : BSt) (n : MNode) : s.out <+: (addF s n).1.out := by
  obtain ⟨x, h, _⟩ := addF_spec s n
  exact ⟨x, h.symm⟩
theorem addF_db {s : BSt} {n : MNode} {B : Nat} (h1 : n.kind = 2 ∨ n.kind = 3 → 1 ≤ B) (h : ∀ y ∈ n.kids, ∀ i : Nat, y = i → (deepL (addF s n).1.out []).getD i 0 + 1 ≤ B) : DB B (addF s n).1.out (addF s n).2 := by
  obtain ⟨x, _, _, hg⟩ := addF_spec s n
  refine ⟨(List.getElem?_eq_some_iff.1 hg).1, ?_⟩
  rw [deep_get hg]
  unfold ndD
  by_cases hk : n.kind = 2 ∨ n.kind = 3
  · rw [if_pos hk]
    refine ndStep_le _ _ (h1 hk) fun y hy i hi hlt => ?_
    have := h y hy i hi
    have hp : (addF s n).1.out.take (addF s n).2 <+: (addF s n).1.out := List.take_prefix _ _
    obtain ⟨c, hc⟩ := hp
    have e : (deepL (addF s n).1.out []).getD i 0 = (deepL ((addF s n).1.out.take (addF s n).2) []).getD i 0 := by
      conv => lhs; rw [← hc, deepL_append]
      exact prefix_getD (deepL_prefix _ _) hlt
    omega
  · rw [if_neg hk]; exact Nat.zero_le _
theorem leaf_db {s : BSt} {n : MNode} {B : Nat} (h1 : ¬ (n.kind = 2 ∨ n.kind = 3)) (h2 : n.kids = []) : DB B (addF s n).1.out (addF s n).2 :=
  addF_db (fun h => absurd h h1) fun y hy => by rw [h2] at hy; cases hy
theorem buildM_depth {t : Tab} {ds : List DataSig} (hok : TabOk t ds) : ∀ (f : Nat) (s : BSt) (rows : List MRow) (paths : List (List Int)) (τs : List Ty), MPre t f rows paths τs →
    s.out <+: (buildM t ds f s rows paths).1.out ∧ DB (wM rows) (buildM t ds f s rows paths).1.out (buildM t ds f s rows paths).2
  | 0, s, rows, paths, τs, h => absurd h.fuel (Nat.not_lt_zero _)
  | f + 1, s, rows, paths, τs, h => by
    have hot : (tick s).out = s.out := rfl
    rcases buildM_cases (s := s) hok h with ⟨e, _⟩ | ⟨hft, r0, rs, er, ⟨e, _⟩ | ⟨k, p, τ, ha, ⟨hk, e⟩ | ⟨d, g, a, D, hτ, hk, hta, hD, hcl, hcs, e⟩⟩⟩
    · rw [e]; exact ⟨addF_prefix (tick s) _, leaf_db (by decide) rfl⟩
    · rw [e]; exact ⟨addF_prefix (tick s) _, leaf_db (by simp [rowN]) rfl⟩
    · rw [e, wordsF]
      have hw1 : ∀ is many, wM (narrowM k is many rows) + 1 ≤ wM rows := fun is many => by
        obtain ⟨r0', rs', e', hp0⟩ := ha.ne
        have hall := ha.all
        rw [e'] at hall ⊢
        exact narrowM_w1 hall hp0 ha.free
      obtain ⟨_, i2, _, _, ys, _, i6, _, i8⟩ := wordsL_ind (rc := buildM t ds f) (rows := rows) (paths := paths) (k := k) (R := fun s s' => s.out <+: s'.out) (I := fun _ => True) (Q := fun _ s y => DB (wM rows - 1) s.out y)
        (fun s => List.prefix_rfl) (fun a b c h1 h2 => h1.trans h2) (fun c s s' y h1 h2 => h2.mono h1) rows (tick s) [] [] trivial fun r hr s' _ hf => by
          have ih := buildM_depth hok f s' _ _ _ (word_child (isInt (wordAt k r)) h ha hk)
          exact ⟨trivial, ih.1, ih.2.le (by have := hw1 (isInt (wordAt k r)) 0; omega)⟩
      generalize wordsL (buildM t ds f) rows paths k rows (tick s) [] [] = w at i2 i6 i8 ⊢
      have ho := buildM_depth hok f w.1 _ _ _ (other_child h ha)
      have hwo := hw1 (fun _ => false) 0
      simp only [otherF]
      have hpre := ho.1.trans (addF_prefix (buildM t ds f w.1 (narrowM k (fun _ => false) 0 rows) (belowM paths k 0)).1 ⟨3, 0, paths.getD k [], [], w.2.1, w.2.2 ++ [((buildM t ds f w.1 (narrowM k (fun _ => false) 0 rows) (belowM paths k 0)).2 : Int)]⟩)
      refine ⟨(hot ▸ i2).trans hpre, addF_db (fun _ => by omega) fun y hy i hi => ?_⟩
      rcases List.mem_append.1 hy with hy | hy
      · rw [i6, List.nil_append] at hy
        obtain ⟨z, hz, hzy⟩ := List.mem_map.1 hy
        have hzi : z.2 = i := by omega
        have := ((i8 z hz).1.mono hpre).2
        rw [hzi] at this
        omega
      · rw [List.mem_singleton] at hy
        have hzi : i = (buildM t ds f w.1 (narrowM k (fun _ => false) 0 rows) (belowM paths k 0)).2 := by omega
        have := (ho.2.mono (addF_prefix _ ⟨3, 0, paths.getD k [], [], w.2.1, w.2.2 ++ [((buildM t ds f w.1 (narrowM k (fun _ => false) 0 rows) (belowM paths k 0)).2 : Int)]⟩)).2
        rw [← hzi] at this
        rw [← hzi]
        omega
    · subst hτ
      rw [e, consF]
      have hw1 : ∀ is many, wM (narrowM k is many rows) + 1 ≤ wM rows := fun is many => by
        obtain ⟨r0', rs', e', hp0⟩ := ha.ne
        have hall := ha.all
        rw [e'] at hall ⊢
        exact narrowM_w1 hall hp0 ha.free
      have h1 : 1 ≤ wM rows := by have := hw1 (fun _ => false) 0; omega
      obtain ⟨_, i2, ys, _, _, i6, i8⟩ := consL_ind (rc := buildM t ds f) (rows := rows) (paths := paths) (k := k) (R := fun s s' => s.out <+: s'.out) (I := fun _ => True) (Q := fun _ s y => DB (wM rows - 1) s.out y)
        (fun s => List.prefix_rfl) (fun a b c h1 h2 => h1.trans h2) (fun c s s' y h1 h2 => h2.mono h1) D.cons (tick s) [] [] trivial fun c hc s' _ hh => by
          obtain ⟨a', hta'⟩ := hcs c hc
          have ih := buildM_depth hok f s' _ _ _ (con_child h ha hta' hh)
          exact ⟨trivial, ih.1, ih.2.le (by have := hw1 (isCon c.name) c.args.length; omega)⟩
      generalize consL (buildM t ds f) rows paths k D.cons (tick s) [] [] = w at i2 i6 i8 ⊢
      have ho := buildM_depth hok f w.1 _ _ _ (other_child h ha)
      have hwo := hw1 (fun _ => false) 0
      simp only [otherF]
      by_cases hlt : w.2.1.length < D.cons.length
      · rw [if_pos hlt]
        simp only
        have hpre := ho.1.trans (addF_prefix (buildM t ds f w.1 (narrowM k (fun _ => false) 0 rows) (belowM paths k 0)).1 ⟨2, 0, paths.getD k [], w.2.1, [], w.2.2 ++ [((buildM t ds f w.1 (narrowM k (fun _ => false) 0 rows) (belowM paths k 0)).2 : Int)]⟩)
        refine ⟨(hot ▸ i2).trans hpre, addF_db (fun _ => h1) fun y hy i hi => ?_⟩
        rcases List.mem_append.1 hy with hy | hy
        · rw [i6, List.nil_append] at hy
          obtain ⟨z, hz, hzy⟩ := List.mem_map.1 hy
          have hzi : z.2 = i := by omega
          have := ((i8 z hz).mono hpre).2
          rw [hzi] at this
          omega
        · rw [List.mem_singleton] at hy
          have hzi : i = (buildM t ds f w.1 (narrowM k (fun _ => false) 0 rows) (belowM paths k 0)).2 := by omega
          have := (ho.2.mono (addF_prefix _ ⟨2, 0, paths.getD k [], w.2.1, [], w.2.2 ++ [((buildM t ds f w.1 (narrowM k (fun _ => false) 0 rows) (belowM paths k 0)).2 : Int)]⟩)).2
          rw [← hzi] at this
          rw [← hzi]
          omega
      · rw [if_neg hlt]
        simp only
        have hpre := addF_prefix w.1 ⟨2, 0, paths.getD k [], w.2.1, [], w.2.2 ++ [-1]⟩
        refine ⟨(hot ▸ i2).trans hpre, addF_db (fun _ => h1) fun y hy i hi => ?_⟩
        rcases List.mem_append.1 hy with hy | hy
        · rw [i6, List.nil_append] at hy
          obtain ⟨z, hz, hzy⟩ := List.mem_map.1 hy
          have hzi : z.2 = i := by omega
          have := ((i8 z hz).mono hpre).2
          rw [hzi] at this
          omega
        · rw [List.mem_singleton] at hy
          omega
/-! ### Compile -/
def enumR : Nat → List (List Pat) → List MRow
  | _, [] => []
  | k, r :: rs => (k, r) :: enumR (k + 1) rs
theorem enumR_snoc : ∀ (k : Nat) (l : List (List Pat)) (r : List Pat), enumR k (l ++ [r]) = enumR k l ++ [(k + l.length, r)]
  | k, [], r => rfl
  | k, x :: l, r => by
    rw [List.cons_append, enumR, enumR, enumR_snoc (k + 1) l r, List.cons_append, List.length_cons]
    rw [show k + 1 + l.length = k + (l.length + 1) by omega]
theorem enumR_mem : ∀ {k : Nat} {l : List (List Pat)} {z : MRow}, z ∈ enumR k l → z.2 ∈ l
  | k, x :: l, z, h => by
    rcases List.mem_cons.1 h with rfl | h
    · exact List.mem_cons_self ..
    · exact List.mem_cons_of_mem _ (enumR_mem h)
theorem enumR_len : ∀ (k : Nat) (l : List (List Pat)), (enumR k l).length = l.length
  | k, [] => rfl
  | k, x :: l => by rw [enumR, List.length_cons, List.length_cons, enumR_len]
theorem enumR_w : ∀ (k : Nat) (l : List (List Pat)), wM (enumR k l) = wR l
  | k, [] => rfl
  | k, x :: l => by rw [enumR, wM, wR, enumR_w]
def pathsOf (rows : List (List Pat)) : List (List Int) := (List.range (width rows)).map fun n : Nat => [(n : Int)]
def compF (t : Tab) (ds : List DataSig) (rows : List (List Pat)) : BSt × Nat := buildM t ds 401 ⟨[], 0, false⟩ (enumR 0 rows) (pathsOf rows)
def compOut (ds : List DataSig) (rows : List (List Pat)) : List MNode × Int :=
  if checkF ds rows ≠ 0 then ([], checkF ds rows) else match buildF 0 ds [] with
    | some t => if (compF t ds rows).1.full = true then ([], 2) else ((compF t ds rows).1.out.take ((compF t ds rows).2 + 1), 0)
    | none => ([], 0)
theorem nbad_any {ds : List DataSig} {rows : List (List Pat)} (h : checkF ds rows = 0) : ¬ missBad rows (width rows) := by
  cases hr : rows with
  | nil => rintro (h | h | ⟨h, _⟩) <;> first | exact absurd h (by decide) | exact h rfl
  | cons r rs =>
    rw [← hr]
    exact nbad_width h (by rw [hr]; simp)
theorem comp_pre {ds : List DataSig} {rows : List (List Pat)} {t : Tab} {τs : List Ty} (h : checkF ds rows = 0) (hb : buildF 0 ds [] = some t) (hτ : (τs.length : Int) = width rows) (hT : Typed ds t rows τs) : MPre t 401 (enumR 0 rows) (pathsOf rows) τs := by
  have hsm := (check_parts h hb).1
  have hw := wR_le rows
  have hn := hsm.nodes
  have hnb := nbad_any h
  have h16 : width rows ≤ 16 := by
    rcases Decidable.em (16 < (width rows : Int)) with h1 | h1
    · exact absurd (.inr (.inl h1)) hnb
    · omega
  refine ⟨fun r hr => hT.pre.ty _ (enumR_mem hr), by simp [pathsOf]; omega, by rw [enumR_len]; exact hsm.rows, by rw [enumR_w]; omega, by rw [enumR_w]; omega, fun p hp => ?_⟩
  obtain ⟨n, _, rfl⟩ := List.mem_map.1 hp
  exact ⟨by simp, by rw [enumR_w, List.length_singleton]; omega⟩
/-- MatchDepth. -/
theorem depth_law (ds : List DataSig) (hz : Sized ds) (rows : List (List Pat)) (h : (compOut ds rows).2 = 0) : 0 < (compOut ds rows).1.length ∧ depthF (compOut ds rows).1 ≤ cR rows := by
  unfold compOut at h ⊢
  by_cases hc : checkF ds rows ≠ 0
  · rw [if_pos hc] at h; exact absurd h hc
  rw [if_neg hc] at h ⊢
  have hck : checkF ds rows = 0 := Decidable.not_not.1 hc
  obtain ⟨t, hb⟩ := check_build hck
  rw [hb] at h ⊢
  simp only at h ⊢
  by_cases hfull : (compF t ds rows).1.full = true
  · rw [if_pos hfull] at h; exact absurd h (by decide)
  rw [if_neg hfull]
  simp only
  have hok := tabOk_of hb (check_parts hck hb).1 hz
  obtain ⟨τs, hτ, hT⟩ := typed_of hck hb (nbad_any hck)
  obtain ⟨_, hd1, hd2⟩ := buildM_depth hok 401 ⟨[], 0, false⟩ _ _ _ (comp_pre hck hb hτ hT)
  change (compF t ds rows).2 < (compF t ds rows).1.out.length at hd1
  change (deepL (compF t ds rows).1.out []).getD (compF t ds rows).2 0 ≤ _ at hd2
  rw [enumR_w] at hd2
  have hw := wR_le rows
  generalize compF t ds rows = q at hd1 hd2 ⊢
  have hl : (q.1.out.take (q.2 + 1)).length = q.2 + 1 := by rw [List.length_take]; omega
  refine ⟨by omega, ?_⟩
  unfold depthF
  rw [if_neg (by omega), hl]
  have e : (deepL q.1.out []).getD q.2 0 = (deepL (q.1.out.take (q.2 + 1)) []).getD (q.2 + 1 - 1) 0 := by
    conv => lhs; rw [← List.take_append_drop (q.2 + 1) q.1.out, deepL_append]
    exact prefix_getD (deepL_prefix _ _) (by rw [deepL_len]; simp; omega)
  omega
end Go.PM
namespace Go.PM
open Go.VL
theorem compOut_zero {ds : List DataSig} {rows : List (List Pat)} (h : (compOut ds rows).2 = 0) : checkF ds rows = 0 := by
  unfold compOut at h
  by_cases hc : checkF ds rows ≠ 0
  · rw [if_pos hc] at h; exact absurd h hc
  · exact Decidable.not_not.1 hc
theorem compOut_none {ds : List DataSig} {rows : List (List Pat)} (h : (compOut ds rows).2 ≠ 0) : (compOut ds rows).1 = [] := by
  unfold compOut at h ⊢
  by_cases hc : checkF ds rows ≠ 0
  · rw [if_pos hc]
  rw [if_neg hc] at h ⊢
  obtain ⟨t, hb⟩ := check_build (Decidable.not_not.1 hc)
  rw [hb] at h ⊢
  simp only at h ⊢
  by_cases hf : (compF t ds rows).1.full = true
  · rw [if_pos hf]
  · rw [if_neg hf] at h; exact absurd rfl h
end Go.PM
namespace Go.PM
open Go.VL
/-- Only nodes with short places come. -/
def PathOk (s s' : BSt) : Prop := ∀ n ∈ s'.out, n ∈ s.out ∨ n.path.length ≤ 1000
theorem PathOk.trans {a b c : BSt} (h : PathOk a b) (k : PathOk b c) : PathOk a c := fun n hn => (k n hn).elim (h n) .inr
theorem addF_path {s s1 : BSt} {n : MNode} (h : PathOk s s1) (hn : n.path.length ≤ 1000) : PathOk s (addF s1 n).1 := fun x hx => by
  unfold addF at hx
  split at hx
  · exact h x hx
  · rcases List.mem_append.1 hx with hx | hx
    · exact h x hx
    · rw [List.mem_singleton] at hx
      exact .inr (hx ▸ hn)
theorem buildM_path {t : Tab} {ds : List DataSig} (hok : TabOk t ds) : ∀ (f : Nat) (s : BSt) (rows : List MRow) (paths : List (List Int)) (τs : List Ty), MPre t f rows paths τs → PathOk s (buildM t ds f s rows paths).1
  | 0, s, rows, paths, τs, h => absurd h.fuel (Nat.not_lt_zero _)
  | f + 1, s, rows, paths, τs, h => by
    have ht : PathOk s (tick s) := fun n hn => .inl hn
    have hpk : ∀ k, (paths.getD k []).length ≤ 1000 := fun k => by
      rw [List.getD_eq_getElem?_getD]
      cases hk : paths[k]? with
      | none => exact Nat.zero_le _
      | some p => have := (h.deep p (List.mem_of_getElem? hk)).2; simp only [Option.getD_some]; omega
    rcases buildM_cases (s := s) hok h with ⟨e, _⟩ | ⟨hft, r0, rs, er, ⟨e, _⟩ | ⟨k, p, τ, ha, ⟨hk, e⟩ | ⟨d, g, a, D, hτ, hk, hta, hD, hcl, hcs, e⟩⟩⟩
    · rw [e]; exact addF_path ht (Nat.zero_le _)
    · rw [e]; exact addF_path ht (Nat.zero_le _)
    · rw [e, wordsF]
      obtain ⟨_, i2, _⟩ := wordsL_ind (rc := buildM t ds f) (rows := rows) (paths := paths) (k := k) (R := PathOk) (I := fun _ => True) (Q := fun _ _ _ => True)
        (fun s n hn => .inl hn) (fun a b c h1 h2 => h1.trans h2) (fun _ _ _ _ _ _ => trivial) rows (tick s) [] [] trivial fun r hr s' _ hf => ⟨trivial, buildM_path hok f s' _ _ _ (word_child (isInt (wordAt k r)) h ha hk), trivial⟩
      exact addF_path ((ht.trans i2).trans (buildM_path hok f _ _ _ _ (other_child h ha))) (hpk k)
    · subst hτ
      rw [e, consF]
      obtain ⟨_, i2, _⟩ := consL_ind (rc := buildM t ds f) (rows := rows) (paths := paths) (k := k) (R := PathOk) (I := fun _ => True) (Q := fun _ _ _ => True)
        (fun s n hn => .inl hn) (fun a b c h1 h2 => h1.trans h2) (fun _ _ _ _ _ _ => trivial) D.cons (tick s) [] [] trivial fun c hc s' _ hh => by
          obtain ⟨a', hta'⟩ := hcs c hc
          exact ⟨trivial, buildM_path hok f s' _ _ _ (con_child h ha hta' hh), trivial⟩
      split
      · exact addF_path ((ht.trans i2).trans (buildM_path hok f _ _ _ _ (other_child h ha))) (hpk k)
      · exact addF_path (ht.trans i2) (hpk k)
end Go.PM
namespace Go.PM
open Go.VL
theorem compOut_len (ds : List DataSig) (hz : Sized ds) (rows : List (List Pat)) : (compOut ds rows).1.length ≤ 1000000 := by
  unfold compOut
  by_cases hc : checkF ds rows ≠ 0
  · rw [if_pos hc]; exact Nat.zero_le _
  rw [if_neg hc]
  have hck : checkF ds rows = 0 := Decidable.not_not.1 hc
  obtain ⟨t, hb⟩ := check_build hck
  rw [hb]
  simp only
  by_cases hfull : (compF t ds rows).1.full = true
  · rw [if_pos hfull]; exact Nat.zero_le _
  rw [if_neg hfull]
  have hok := tabOk_of hb (check_parts hck hb).1 hz
  obtain ⟨τs, hτ, hT⟩ := typed_of hck hb (nbad_any hck)
  have hk := buildM_keeps hok 401 ⟨[], 0, false⟩ _ _ _ (comp_pre hck hb hτ hT) rfl
  have h1 := hk.out
  have h2 := hk.slow rfl
  change (compF t ds rows).1.out.length + 0 ≤ (compF t ds rows).1.many + 0 at h1
  change (compF t ds rows).1.many ≤ _ at h2
  simp only [List.length_take]
  omega
end Go.PM
