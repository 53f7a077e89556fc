/- Matching, the plain law: MatchPrefix. -/
import Derived.Test.YtmjeaagpcmfnpaaVN4
set_option linter.unusedVariables false
namespace Go.PM
open Go.VL
theorem sem_total (vs : List Val) : ∀ rows : List MRow, ∃ o, Sem rows vs o
  | [] => ⟨none, rfl⟩
  | r :: rows => by
    rcases Classical.em (matL r.2 vs) with h | h
    · exact ⟨some r.1, .inl ⟨h, rfl⟩⟩
    · obtain ⟨o, ho⟩ := sem_total vs rows
      exact ⟨o, .inr ⟨h, ho⟩⟩
theorem atL_init {vals : List Pat} {rows : List (List Pat)} (h : vals.length = width rows) : AtL vals (pathsOf rows) vals := by
  refine .of_get (by simp [pathsOf, h]) fun i a p h1 h2 => ?_
  have hi := (List.getElem?_eq_some_iff.1 h2).1
  unfold pathsOf at h1
  rw [List.getElem?_map, List.getElem?_range (by omega)] at h1
  injection h1 with h1
  subst h1
  show atG anyP vals [(i : Int)] = some p
  rw [atG, Int.toNat_natCast, h2]
  rfl
/-- What a compiled tree answers. -/
theorem comp_run {ds : List DataSig} (hz : Sized ds) {rows : List (List Pat)} (h : (compOut ds rows).2 = 0) {t : Tab} (hb : buildF 0 ds [] = some t) {τs : List Ty} (hτ : (τs.length : Int) = width rows) (hT : Typed ds t rows τs) (vals vs : List Pat) (hv : rowT t τs vs) (hk : knownL vs = true) (hA : AtL vals (pathsOf rows) vs) (o : Option Nat) (ho : Sem (enumR 0 rows) (vs.map toVal) o) : RunP (compOut ds rows).1 vals ((compOut ds rows).1.length - 1) (oInt o) := by
  have hck := compOut_zero h
  have hok := tabOk_of hb (check_parts hck hb).1 hz
  have hlaw := tabLaw_of hb
  have hpre := comp_pre hck hb hτ hT
  have hbok : BOk ⟨[], 0, false⟩ := ⟨rfl, fun i n hn => by simp at hn⟩
  have hb1 := (buildM_leaves hok 401 ⟨[], 0, false⟩ _ _ _ hpre hT.good hbok).1
  have hrun := buildM_run hok hlaw vals 401 ⟨[], 0, false⟩ _ _ _ hpre hT.good hbok
  change BOk (compF t ds rows).1 at hb1
  change Runs t vals τs (enumR 0 rows) (pathsOf rows) (compF t ds rows).1 (compF t ds rows).2 at hrun
  have hidx : (compF t ds rows).2 < (compF t ds rows).1.out.length := (buildM_depth hok 401 ⟨[], 0, false⟩ _ _ _ hpre).2.1
  have hfull : (compF t ds rows).1.full = false := by
    unfold compOut at h
    rw [if_neg (by simpa using hck), hb] at h
    simp only at h
    cases hf : (compF t ds rows).1.full with
    | false => rfl
    | true => rw [if_pos hf] at h; exact absurd h (by decide)
  have hout : (compOut ds rows).1 = (compF t ds rows).1.out.take ((compF t ds rows).2 + 1) := by
    unfold compOut
    rw [if_neg (by simpa using hck), hb]
    simp only
    rw [if_neg (by rw [hfull]; simp)]
  have hm : (compF t ds rows).1.many ≤ 4096 := by
    rw [hb1.full, decide_eq_false_iff_not] at hfull
    omega
  have hr := hrun hm vs hv hk hA o ho
  have hlen : (compOut ds rows).1.length = (compF t ds rows).2 + 1 := by rw [hout, List.length_take]; omega
  rw [hlen, Nat.add_sub_cancel, hout]
  exact hr.back (List.take_prefix _ _) (by rw [List.length_take]; omega)
theorem prefix_law {ds : List DataSig} (hz : Sized ds) {rows : List (List Pat)} {vals : List Pat} {n : Nat} (hne : rows ≠ []) (hn : n ≤ rows.length) (hck : checkF ds (rows ++ [vals]) = 0) (hk : knownL vals = true) (hs : (compOut ds (rows.take n)).2 = 0) (ht : (compOut ds rows).2 = 0) :
    ∃ a b : Int, RunP (compOut ds (rows.take n)).1 vals ((compOut ds (rows.take n)).1.length - 1) a ∧ RunP (compOut ds rows).1 vals ((compOut ds rows).1.length - 1) b ∧ (a = b ∨ (a = -1 ∧ (b = -1 ∨ (n : Int) ≤ b))) := by
  obtain ⟨t, hb⟩ := check_build hck
  obtain ⟨τs, hτ, hT⟩ := typed_of hck hb (nbad_any hck)
  have hw : width (rows ++ [vals]) = width rows := by
    cases rows with
    | nil => exact absurd rfl hne
    | cons r rs => rfl
  rw [hw] at hτ
  have hsub : rows.Sublist (rows ++ [vals]) := List.sublist_append_left ..
  have hTr := typed_sub hsub hT
  have hvT : rowT t τs vals := hT.pre.ty vals (by simp)
  have hvl : vals.length = width rows := by have := hvT.len; omega
  obtain ⟨ob, hob⟩ := sem_total (vals.map toVal) (enumR 0 rows)
  have hrb := comp_run hz ht hb hτ hTr vals vals hvT hk (atL_init hvl) ob hob
  by_cases h0 : n = 0
  · subst h0
    have hck0 := compOut_zero hs
    obtain ⟨σs, hσ, hTσ⟩ := typed_of hck0 hb (nbad_any hck0)
    have hσ0 : σs = [] := List.eq_nil_of_length_eq_zero (by rw [List.take_zero] at hσ; have : width ([] : List (List Pat)) = 0 := rfl; omega)
    subst hσ0
    have hra := comp_run hz hs hb hσ hTσ vals [] trivial rfl (by rw [List.take_zero]; exact trivial) none (by rw [List.take_zero]; exact rfl)
    refine ⟨-1, oInt ob, hra, hrb, .inr ⟨rfl, ?_⟩⟩
    cases ob with
    | none => exact .inl rfl
    | some k => exact .inr (by show ((0 : Nat) : Int) ≤ (k : Int); omega)
  · have hwt : width (rows.take n) = width rows := by
      cases rows with
      | nil => exact absurd rfl hne
      | cons r rs =>
        cases n with
        | zero => exact absurd rfl h0
        | succ n => rfl
    obtain ⟨oa, hoa⟩ := sem_total (vals.map toVal) (enumR 0 (rows.take n))
    have hra := comp_run hz hs hb (by rw [hwt]; exact hτ) (typed_sub (List.take_sublist n rows) hTr) vals vals hvT hk (atL_init (by rw [hwt]; exact hvl)) oa hoa
    refine ⟨oInt oa, oInt ob, hra, hrb, ?_⟩
    cases oa with
    | some k =>
      rw [show k = 0 + k by omega, sem_some] at hoa
      obtain ⟨r, h1, h2, h3⟩ := hoa
      have hkn : k < n := by have := (List.getElem?_eq_some_iff.1 h1).1; rw [List.length_take] at this; omega
      have hr : rows[k]? = some r := by rw [List.getElem?_take_of_lt hkn] at h1; exact h1
      have h3' : ∀ r' ∈ rows.take k, ¬ matL r' (vals.map toVal) := fun r' hr' => h3 r' (by rw [List.take_take, Nat.min_eq_left (by omega)]; exact hr')
      left
      cases ob with
      | none =>
        rw [sem_none] at hob
        exact absurd h2 (hob r (List.mem_of_getElem? hr))
      | some m =>
        rw [show m = 0 + m by omega, sem_some] at hob
        obtain ⟨r', g1, g2, g3⟩ := hob
        rcases Nat.lt_trichotomy k m with hlt | rfl | hlt
        · exact absurd h2 (g3 r (List.mem_of_getElem? (by rw [List.getElem?_take_of_lt hlt]; exact hr)))
        · rfl
        · exact absurd g2 (h3' r' (List.mem_of_getElem? (by rw [List.getElem?_take_of_lt hlt]; exact g1)))
    | none =>
      rw [sem_none] at hoa
      right
      refine ⟨rfl, ?_⟩
      cases ob with
      | none => exact .inl rfl
      | some m =>
        right
        rw [show m = 0 + m by omega, sem_some] at hob
        obtain ⟨r', g1, g2, _⟩ := hob
        rcases Nat.lt_or_ge m n with hlt | hge
        · exact absurd g2 (hoa r' (List.mem_of_getElem? (by rw [List.getElem?_take_of_lt hlt]; exact g1)))
        · show (n : Int) ≤ (m : Int)
          omega
end Go.PM
