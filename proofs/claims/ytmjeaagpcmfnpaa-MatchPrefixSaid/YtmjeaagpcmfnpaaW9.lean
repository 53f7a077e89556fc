/- Walks, printed by walk.py. -/
import Derived.Test.YtmjeaagpcmfnpaaVT
import Derived.Test.YtmjeaagpcmfnpaaVDA
import Derived.Test.YtmjeaagpcmfnpaaVB
import Derived.Test.YtmjeaagpcmfnpaaW1
import Derived.Test.YtmjeaagpcmfnpaaW2
import Derived.Test.YtmjeaagpcmfnpaaW3
import Derived.Test.YtmjeaagpcmfnpaaW4
import Derived.Test.YtmjeaagpcmfnpaaW6
import Derived.Test.YtmjeaagpcmfnpaaW8
set_option linter.unusedVariables false
set_option linter.unusedSimpArgs false
namespace Go.Proofs.Ytmjeaagpcmfnpaa.W9
open Go.VL Go.PM Go.Proofs.Ytmjeaagpcmfnpaa Go.Proofs.Ytmjeaagpcmfnpaa.W1 Go.Proofs.Ytmjeaagpcmfnpaa.W2 Go.Proofs.Ytmjeaagpcmfnpaa.W3 Go.Proofs.Ytmjeaagpcmfnpaa.W4 Go.Proofs.Ytmjeaagpcmfnpaa.W6 Go.Proofs.Ytmjeaagpcmfnpaa.W8

theorem check_ok {ds : List DataSig} {rows : List (List Pat)} (h : checkF ds rows = 0) : VCalls Try.prog 27 [datasX ds, rowsX rows] [] fun r S' => ∃ g t, buildF 0 ds [] = some t ∧ r = .tup [tabX ds g, .int 0] ∧ S' = [tabO g t] := (check_c ds rows).mono fun r S' k => by
  rcases k with ⟨_, k⟩ | ⟨k, _⟩
  · exact k
  · exact absurd h k
theorem check_bad {ds : List DataSig} {rows : List (List Pat)} (h : checkF ds rows ≠ 0) : VPure Try.prog 27 [datasX ds, rowsX rows] (.tup [.agg VT.zs65, .int (checkF ds rows)]) := (check_c ds rows).mono fun r S' k => by
  rcases k with ⟨k, _⟩ | ⟨_, k, _⟩
  · exact absurd k h
  · exact k
def outV (r : List Pat × Int) : V := .tup [patsX r.1, .int r.2]

set_option maxRecDepth 100000 in
set_option maxHeartbeats 4000000 in
theorem Missing_c (ds : List DataSig) (H : CheckTy ds) (rows : List (List Pat)) (c : Int) : VPure Try.prog 12 [datasX ds, rowsX rows, .int c] (outV (missOut ds rows c)) := by
  refine V_start (nt := 52) Try.func12 rfl rfl rfl ?_
  refine VW_seq ?_
  refine VW_region ?_
  refine VOps_cons rfl rfl (V_assign rfl ?_)
  refine VOps_cons rfl rfl (V_assign rfl ?_)
  refine VOps_nil ?_
  refine Then_n ?_
  refine VW_seq ?_
  refine VW_region ?_
  refine VOps_cons rfl rfl (V_move rfl ?_)
  refine VOps_cons rfl rfl (V_move rfl ?_)
  rcases Decidable.em (checkF ds rows = 0) with he | he
  · skip
    refine VOps_cons rfl rfl (V_call [.tmp 13, .tmp 14] [] _ rfl rfl VT.en27 (.refl _) (check_ok he) ?_)
    rintro r Sa ⟨g, t, hb, rfl, rfl⟩
    refine VOps_cons rfl rfl (V_move rfl ?_)
    refine VOps_cons rfl rfl (V_extract rfl rfl ?_)
    refine VOps_cons rfl rfl (V_extract rfl rfl ?_)
    refine VOps_cons rfl rfl (V_alloc VT.zr65 _ rfl rfl (fun g8 => ?_))
    refine VOps_cons rfl rfl (V_store_agg 0 VT.ty65 rfl rfl rfl rfl rfl ?_)
    refine VOps_cons rfl rfl (V_assign rfl ?_)
    refine VOps_nil ?_
    refine Then_n ?_
    refine VW_seq ?_
    refine VW_block ?_
    refine VW_seq ?_
    refine VW_region ?_
    refine VOps_cons rfl rfl (V_move rfl ?_)
    refine VOps_cons rfl rfl (V_bin rfl rfl rfl ?_)
    refine VOps_cons rfl rfl (V_assign rfl ?_)
    refine VOps_nil ?_
    refine Then_n ?_
    refine VW_condF rfl (rfl) ?_
    refine VW_seq ?_
    refine VW_region ?_
    refine VOps_cons rfl rfl (V_move rfl ?_)
    refine VOps_cons rfl rfl (V_bin rfl rfl rfl ?_)
    refine VOps_cons rfl rfl (V_move rfl ?_)
    refine VOps_split (q := 25) rfl (fun hq25 => ?_) (fun hq25 => ?_)
    · skip
      have hbad : missBad rows c := .inl (by simpa using hq25)
      refine VOps_skipU (.inl (skip_of rfl rfl rfl hq25)) rfl ?_
      refine VOps_skipU (.inl (skip_of rfl rfl rfl hq25)) rfl ?_
      refine VOps_cons rfl rfl (V_pickT rfl hq25 rfl ?_)
      refine VOps_cons rfl rfl (V_move rfl ?_)
      refine VOps_skipU (.inl (skip_of rfl rfl rfl rfl)) rfl ?_
      refine VOps_skipU (.inl (skip_of rfl rfl rfl rfl)) rfl ?_
      refine VOps_skipU (.inl (skip_of rfl rfl rfl rfl)) rfl ?_
      refine VOps_skipU (.inl (skip_of rfl rfl rfl rfl)) rfl ?_
      refine VOps_skipU (.inr ⟨_, _, 33, rfl, rfl, rfl⟩) rfl ?_
      refine VOps_skipU (.inr ⟨_, _, 33, rfl, rfl, rfl⟩) rfl ?_
      refine VOps_skipU (.inr ⟨_, _, 33, rfl, rfl, rfl⟩) rfl ?_
      refine VOps_skipU (.inr ⟨_, _, 33, rfl, rfl, rfl⟩) rfl ?_
      refine VOps_skipU (.inr ⟨_, _, 33, rfl, rfl, rfl⟩) rfl ?_
      refine VOps_skipU (.inr ⟨_, _, 33, rfl, rfl, rfl⟩) rfl ?_
      refine VOps_skipU (.inl (skip_of rfl rfl rfl rfl)) rfl ?_
      refine VOps_cons rfl rfl (V_pickT rfl rfl rfl ?_)
      refine VOps_cons rfl rfl (V_assign rfl ?_)
      refine VOps_nil ?_
      refine Then_n ?_
      refine VW_condT rfl rfl ?_
      refine VW_seq ?_
      refine VW_region ?_
      refine VOps_cons rfl rfl (VOp_as (V_assign rfl ⟨rfl, rfl⟩) (V.le.nil 4) ?_)
      refine VOps_cons rfl rfl (V_assign rfl ?_)
      refine VOps_nil ?_
      refine Then_n ?_
      refine VW_ret ?_
      refine InBlock_r (Then_r (VRet_many rfl rfl (.cons (.strip rfl) (.cons (.tmp rfl) (.nil))) ?_))
      first | (rw [missOut_bad he hbad]; rfl) | (rw [ho]; rfl)
    · skip
      have h0c : 0 ≤ c := by simpa using hq25
      refine VOps_cons (want_of rfl rfl rfl hq25) rfl (V_move rfl ?_)
      refine VOps_cons (want_of rfl rfl rfl hq25) rfl (V_bin rfl rfl rfl ?_)
      refine VOps_cons rfl rfl (V_pickF rfl hq25 rfl ?_)
      refine VOps_cons rfl rfl (V_move rfl ?_)
      refine VOps_split (q := 29) rfl (fun hq29 => ?_) (fun hq29 => ?_)
      · skip
        have hbad : missBad rows c := .inr (.inl (by simpa using hq29))
        refine VOps_skipU (.inl (skip_of rfl rfl rfl hq29)) rfl ?_
        refine VOps_skipU (.inl (skip_of rfl rfl rfl hq29)) rfl ?_
        refine VOps_skipU (.inl (skip_of rfl rfl rfl hq29)) rfl ?_
        refine VOps_skipU (.inl (skip_of rfl rfl rfl hq29)) rfl ?_
        refine VOps_skipU (.inr ⟨_, _, 33, rfl, rfl, rfl⟩) rfl ?_
        refine VOps_skipU (.inr ⟨_, _, 33, rfl, rfl, rfl⟩) rfl ?_
        refine VOps_skipU (.inr ⟨_, _, 33, rfl, rfl, rfl⟩) rfl ?_
        refine VOps_skipU (.inr ⟨_, _, 33, rfl, rfl, rfl⟩) rfl ?_
        refine VOps_skipU (.inr ⟨_, _, 33, rfl, rfl, rfl⟩) rfl ?_
        refine VOps_skipU (.inr ⟨_, _, 33, rfl, rfl, rfl⟩) rfl ?_
        refine VOps_skipU (.inl (skip_of rfl rfl rfl hq29)) rfl ?_
        refine VOps_cons rfl rfl (V_pickT rfl hq29 rfl ?_)
        refine VOps_cons rfl rfl (V_assign rfl ?_)
        refine VOps_nil ?_
        refine Then_n ?_
        refine VW_condT rfl rfl ?_
        refine VW_seq ?_
        refine VW_region ?_
        refine VOps_cons rfl rfl (VOp_as (V_assign rfl ⟨rfl, rfl⟩) (V.le.nil 4) ?_)
        refine VOps_cons rfl rfl (V_assign rfl ?_)
        refine VOps_nil ?_
        refine Then_n ?_
        refine VW_ret ?_
        refine InBlock_r (Then_r (VRet_many rfl rfl (.cons (.strip rfl) (.cons (.tmp rfl) (.nil))) ?_))
        first | (rw [missOut_bad he hbad]; rfl) | (rw [ho]; rfl)
      · skip
        have h16c : c ≤ 16 := by simpa using hq29
        refine VOps_cons (want_of rfl rfl rfl hq29) rfl (V_move rfl ?_)
        refine VOps_cons (want_of rfl rfl rfl hq29) rfl (V_lenN (n := rows.length) Try.underlying23 rfl (by simp) (fun hl31 => ?_))
        refine VOps_cons (want_of rfl rfl rfl hq29) rfl (V_bin rfl rfl rfl ?_)
        refine VOps_cons (want_of rfl rfl rfl hq29) rfl (V_move rfl ?_)
        refine VOps_split (q := 33) rfl (fun hq33 => ?_) (fun hq33 => ?_)
        · skip
          obtain ⟨r0, rs, hr0⟩ : ∃ r0 rs, rows = r0 :: rs := by cases rows with | nil => simp at hq33 | cons a b => exact ⟨a, b, rfl⟩
          have hw : width rows = r0.length := by rw [hr0]; rfl
          refine VOps_cons (want_of rfl rfl rfl hq33) rfl (V_move rfl ?_)
          refine VOps_cons (want_of rfl rfl rfl hq33) rfl (V_move rfl ?_)
          refine VOps_cons (want_of rfl rfl rfl hq33) rfl (V_indexAddr (el := patsX r0) VT.sl23 rfl rfl (by omega) (by rw [hr0]; rfl) (fun a36 => ?_))
          refine VOps_cons (want_of rfl rfl rfl hq33) rfl (V_load_ep VT.ty25 rfl rfl ?_)
          refine VOps_cons (want_of rfl rfl rfl hq33) rfl (V_lenN (n := r0.length) Try.underlying25 rfl (by simp) (fun hl38 => ?_))
          refine VOps_cons (want_of rfl rfl rfl hq33) rfl (V_bin rfl rfl rfl ?_)
          refine VOps_cons (want_of rfl rfl rfl hq29) rfl (V_pickT rfl hq33 rfl ?_)
          refine VOps_cons rfl rfl (V_pickF rfl hq29 rfl ?_)
          refine VOps_cons rfl rfl (V_assign rfl ?_)
          refine VOps_nil ?_
          refine Then_n ?_
          refine VW_condNe rfl (fun h22 => ?_) (fun h22 => ?_)
          · skip
            have hbad : missBad rows c := .inr (.inr ⟨by rw [hr0]; simp, by rw [hw]; exact h22⟩)
            refine VW_seq ?_
            refine VW_region ?_
            refine VOps_cons rfl rfl (VOp_as (V_assign rfl ⟨rfl, rfl⟩) (V.le.nil 4) ?_)
            refine VOps_cons rfl rfl (V_assign rfl ?_)
            refine VOps_nil ?_
            refine Then_n ?_
            refine VW_ret ?_
            refine InBlock_r (Then_r (VRet_many rfl rfl (.cons (.strip rfl) (.cons (.tmp rfl) (.nil))) ?_))
            first | (rw [missOut_bad he hbad]; rfl) | (rw [ho]; rfl)
          · skip
            have hnb : ¬ missBad rows c := by rintro (h | h | h); omega; omega; exact h.2 (by rw [hw]; exact h22)
            refine VW_skip ?_
            refine InBlock_n (Then_n ?_)
            obtain ⟨hok, τs, hτl, hpre⟩ := H rows c t he hb hnb
            refine VW_seq ?_
            refine VW_region ?_
            refine VOps_cons rfl rfl (V_load_agg 0 VT.ty65 rfl rfl rfl ?_)
            refine VOps_cons rfl rfl (V_move rfl ?_)
            refine VOps_cons rfl rfl (VOp_as (V_move rfl ⟨rfl, rfl⟩) (V.le.of_eq (v' := .int τs.length) (by rw [hτl])) ?_)
            refine VOps_cons rfl rfl (V_callK 1 [.tmp 43, .tmp 44, .tmp 45] rfl rfl VT.en28 rfl (missing_c ds t g hok fuel0 (by rw [fuel0_eq]; omega) rows τs hpre) ?_)
            refine VOps_cons rfl rfl (V_move rfl ?_)
            refine VOps_cons rfl rfl (V_extract rfl rfl ?_)
            refine VOps_cons rfl rfl (V_extract rfl rfl ?_)
            refine VOps_cons rfl rfl (V_assign rfl ?_)
            refine VOps_cons rfl rfl (V_assign rfl ?_)
            refine VOps_nil ?_
            refine Then_n ?_
            refine VW_seq ?_
            refine VW_seq ?_
            refine VW_region ?_
            refine VOps_cons rfl rfl (V_move rfl ?_)
            refine VOps_cons rfl rfl (V_not rfl ?_)
            refine VOps_nil ?_
            refine Then_n ?_
            refine VW_condN rfl (fun h50 => ?_) (fun h50 => ?_)
            · skip
              have ho : missOut ds rows c = ([], 0) := by rw [missOut_ok he hnb hb, show c.toNat = τs.length by omega]; rw [h50]; rfl
              refine VW_seq ?_
              refine VW_region ?_
              refine VOps_cons rfl rfl (VOp_as (V_assign rfl ⟨rfl, rfl⟩) (V.le.nil 4) ?_)
              refine VOps_cons rfl rfl (V_assign rfl ?_)
              refine VOps_nil ?_
              refine Then_n ?_
              refine VW_ret ?_
              refine Then_r (VRet_many rfl rfl (.cons (.strip rfl) (.cons (.tmp rfl) (.nil))) ?_)
              first | (rw [missOut_bad he hbad]; rfl) | (rw [ho]; rfl)
            · skip
              have ho : missOut ds rows c = ((missF t ds fuel0 rows τs.length).1, 0) := by rw [missOut_ok he hnb hb, show c.toNat = τs.length by omega]; rw [h50]; rfl
              refine VW_skip ?_
              refine Then_n ?_
              refine VW_seq ?_
              refine VW_region ?_
              refine VOps_cons rfl rfl (V_move rfl ?_)
              refine VOps_cons rfl rfl (V_assign rfl ?_)
              refine VOps_cons rfl rfl (V_assign rfl ?_)
              refine VOps_nil ?_
              refine Then_n ?_
              refine VW_ret ?_
              refine VRet_many rfl rfl (.cons (.strip rfl) (.cons (.tmp rfl) (.nil))) ?_
              first | (rw [missOut_bad he hbad]; rfl) | (rw [ho]; rfl)
        · skip
          have hre : rows = [] := by cases rows with | nil => rfl | cons a b => simp at hq33
          have hnb : ¬ missBad rows c := by rintro (h | h | h); omega; omega; exact h.1 hre
          refine VOps_skipU (.inl (skip_of rfl rfl rfl hq33)) rfl ?_
          refine VOps_skipU (.inl (skip_of rfl rfl rfl hq33)) rfl ?_
          refine VOps_skipU (.inl (skip_of rfl rfl rfl hq33)) rfl ?_
          refine VOps_skipU (.inl (skip_of rfl rfl rfl hq33)) rfl ?_
          refine VOps_skipU (.inl (skip_of rfl rfl rfl hq33)) rfl ?_
          refine VOps_skipU (.inl (skip_of rfl rfl rfl hq33)) rfl ?_
          refine VOps_cons (want_of rfl rfl rfl hq29) rfl (V_pickF rfl hq33 rfl ?_)
          refine VOps_cons rfl rfl (V_pickF rfl hq29 rfl ?_)
          refine VOps_cons rfl rfl (V_assign rfl ?_)
          refine VOps_nil ?_
          refine Then_n ?_
          refine VW_condF rfl rfl ?_
          refine VW_skip ?_
          refine InBlock_n (Then_n ?_)
          obtain ⟨hok, τs, hτl, hpre⟩ := H rows c t he hb hnb
          refine VW_seq ?_
          refine VW_region ?_
          refine VOps_cons rfl rfl (V_load_agg 0 VT.ty65 rfl rfl rfl ?_)
          refine VOps_cons rfl rfl (V_move rfl ?_)
          refine VOps_cons rfl rfl (VOp_as (V_move rfl ⟨rfl, rfl⟩) (V.le.of_eq (v' := .int τs.length) (by rw [hτl])) ?_)
          refine VOps_cons rfl rfl (V_callK 1 [.tmp 43, .tmp 44, .tmp 45] rfl rfl VT.en28 rfl (missing_c ds t g hok fuel0 (by rw [fuel0_eq]; omega) rows τs hpre) ?_)
          refine VOps_cons rfl rfl (V_move rfl ?_)
          refine VOps_cons rfl rfl (V_extract rfl rfl ?_)
          refine VOps_cons rfl rfl (V_extract rfl rfl ?_)
          refine VOps_cons rfl rfl (V_assign rfl ?_)
          refine VOps_cons rfl rfl (V_assign rfl ?_)
          refine VOps_nil ?_
          refine Then_n ?_
          refine VW_seq ?_
          refine VW_seq ?_
          refine VW_region ?_
          refine VOps_cons rfl rfl (V_move rfl ?_)
          refine VOps_cons rfl rfl (V_not rfl ?_)
          refine VOps_nil ?_
          refine Then_n ?_
          refine VW_condN rfl (fun h50 => ?_) (fun h50 => ?_)
          · skip
            have ho : missOut ds rows c = ([], 0) := by rw [missOut_ok he hnb hb, show c.toNat = τs.length by omega]; rw [h50]; rfl
            refine VW_seq ?_
            refine VW_region ?_
            refine VOps_cons rfl rfl (VOp_as (V_assign rfl ⟨rfl, rfl⟩) (V.le.nil 4) ?_)
            refine VOps_cons rfl rfl (V_assign rfl ?_)
            refine VOps_nil ?_
            refine Then_n ?_
            refine VW_ret ?_
            refine Then_r (VRet_many rfl rfl (.cons (.strip rfl) (.cons (.tmp rfl) (.nil))) ?_)
            first | (rw [missOut_bad he hbad]; rfl) | (rw [ho]; rfl)
          · skip
            have ho : missOut ds rows c = ((missF t ds fuel0 rows τs.length).1, 0) := by rw [missOut_ok he hnb hb, show c.toNat = τs.length by omega]; rw [h50]; rfl
            refine VW_skip ?_
            refine Then_n ?_
            refine VW_seq ?_
            refine VW_region ?_
            refine VOps_cons rfl rfl (V_move rfl ?_)
            refine VOps_cons rfl rfl (V_assign rfl ?_)
            refine VOps_cons rfl rfl (V_assign rfl ?_)
            refine VOps_nil ?_
            refine Then_n ?_
            refine VW_ret ?_
            refine VRet_many rfl rfl (.cons (.strip rfl) (.cons (.tmp rfl) (.nil))) ?_
            first | (rw [missOut_bad he hbad]; rfl) | (rw [ho]; rfl)
  · skip
    refine VOps_cons rfl rfl (V_callP [.tmp 13, .tmp 14] rfl rfl VT.en27 (check_bad he) ?_)
    refine VOps_cons rfl rfl (V_move rfl ?_)
    refine VOps_cons rfl rfl (V_extract rfl rfl ?_)
    refine VOps_cons rfl rfl (V_extract rfl rfl ?_)
    refine VOps_cons rfl rfl (V_alloc VT.zr65 _ rfl rfl (fun g8 => ?_))
    refine VOps_cons rfl rfl (V_store_agg 0 VT.ty65 rfl rfl rfl rfl rfl ?_)
    refine VOps_cons rfl rfl (V_assign rfl ?_)
    refine VOps_nil ?_
    refine Then_n ?_
    refine VW_seq ?_
    refine VW_block ?_
    refine VW_seq ?_
    refine VW_region ?_
    refine VOps_cons rfl rfl (V_move rfl ?_)
    refine VOps_cons rfl rfl (V_bin rfl rfl rfl ?_)
    refine VOps_cons rfl rfl (V_assign rfl ?_)
    refine VOps_nil ?_
    refine Then_n ?_
    refine VW_condNe rfl (fun h18 => ?_) (fun h18 => ?_)
    · skip
      refine VW_seq ?_
      refine VW_region ?_
      refine VOps_cons rfl rfl (V_move rfl ?_)
      refine VOps_cons rfl rfl (VOp_as (V_assign rfl ⟨rfl, rfl⟩) (V.le.nil 4) ?_)
      refine VOps_cons rfl rfl (V_assign rfl ?_)
      refine VOps_nil ?_
      refine Then_n ?_
      refine VW_ret ?_
      refine InBlock_r (Then_r (VRet_many rfl rfl (.cons (.strip rfl) (.cons (.tmp rfl) (.nil))) ?_))
      rw [missOut_err he]
      rfl
    · exact absurd h18 he


end Go.Proofs.Ytmjeaagpcmfnpaa.W9
