/- Walks, printed by walk.py. -/
import Derived.Test.YtmjeaagpcmfnpaaVT
import Derived.Test.YtmjeaagpcmfnpaaVD
import Derived.Test.YtmjeaagpcmfnpaaV9
import Derived.Test.YtmjeaagpcmfnpaaV10
import Derived.Test.YtmjeaagpcmfnpaaVP3
import Derived.Test.YtmjeaagpcmfnpaaW1
import Derived.Test.YtmjeaagpcmfnpaaW2
import Derived.Test.YtmjeaagpcmfnpaaW3
import Derived.Test.YtmjeaagpcmfnpaaW4
import Derived.Test.YtmjeaagpcmfnpaaW5
import Derived.Test.YtmjeaagpcmfnpaaW6
import Derived.Test.YtmjeaagpcmfnpaaW8
import Derived.Test.YtmjeaagpcmfnpaaW9
import Derived.Test.YtmjeaagpcmfnpaaW10
set_option linter.unusedVariables false
set_option linter.unusedSimpArgs false
namespace Go.Proofs.Ytmjeaagpcmfnpaa.W11
open Go.VL Go.PM Go.Proofs.Ytmjeaagpcmfnpaa Go.Proofs.Ytmjeaagpcmfnpaa.W1 Go.Proofs.Ytmjeaagpcmfnpaa.W2 Go.Proofs.Ytmjeaagpcmfnpaa.W3 Go.Proofs.Ytmjeaagpcmfnpaa.W4 Go.Proofs.Ytmjeaagpcmfnpaa.W5 Go.Proofs.Ytmjeaagpcmfnpaa.W6 Go.Proofs.Ytmjeaagpcmfnpaa.W8 Go.Proofs.Ytmjeaagpcmfnpaa.W9 Go.Proofs.Ytmjeaagpcmfnpaa.W10
set_option maxRecDepth 100000 in
set_option maxHeartbeats 4000000 in
theorem turned_c (ds : List DataSig) (hz : Sized ds) (rows : List (List Pat)) (c : Int) : VPure Try.prog 3 [datasX ds, rowsX rows, .int c] (.bool (turnedF ds rows c)) := by
  have hM := Missing_c ds (checkTy hz) rows c
  generalize hlo : missOut ds rows c = lo at hM
  refine V_start (nt := 83) Try.func3 rfl rfl rfl ?_
  refine VW_seq ?_
  refine VW_region ?_
  refine VOps_cons rfl rfl (V_assign rfl ?_)
  refine VOps_nil ?_
  refine Then_n ?_
  refine VW_seq ?_
  refine VW_seq ?_
  refine VW_region ?_
  refine VOps_cons rfl rfl (V_callP [] rfl rfl VT.en11 (work_c) ?_)
  refine VOps_cons rfl rfl (V_not rfl ?_)
  refine VOps_nil ?_
  refine Then_n ?_
  refine VW_condF rfl (rfl) ?_
  refine VW_skip ?_
  refine Then_n ?_
  refine VW_seq ?_
  refine VW_region ?_
  refine VOps_cons rfl rfl (V_move rfl ?_)
  refine VOps_cons rfl rfl (V_move rfl ?_)
  refine VOps_cons rfl rfl (V_move rfl ?_)
  refine VOps_cons rfl rfl (V_callP [.tmp 18, .tmp 19, .tmp 20] rfl rfl VT.en12 (hM) ?_)
  refine VOps_cons rfl rfl (V_move rfl ?_)
  refine VOps_cons rfl rfl (V_extract rfl rfl ?_)
  refine VOps_cons rfl rfl (V_extract rfl rfl ?_)
  refine VOps_cons rfl rfl (V_assign rfl ?_)
  refine VOps_cons rfl rfl (V_assign rfl ?_)
  refine VOps_nil ?_
  refine Then_n ?_
  refine VW_seq ?_
  refine VW_seq ?_
  refine VW_region ?_
  refine VOps_cons rfl rfl (V_move rfl ?_)
  refine VOps_cons rfl rfl (V_bin rfl rfl rfl ?_)
  refine VOps_cons rfl rfl (V_move rfl ?_)
  refine VOps_split (q := 26) rfl (fun hq26 => ?_) (fun hq26 => ?_)
  · skip
    have h1 : lo.2 ≠ 0 := by simpa using hq26
    refine VOps_skipU (.inl (skip_of rfl rfl rfl hq26)) rfl ?_
    refine VOps_skipU (.inl (skip_of rfl rfl rfl hq26)) rfl ?_
    refine VOps_cons rfl rfl (V_pickT rfl hq26 rfl ?_)
    refine VOps_nil ?_
    refine Then_n ?_
    refine VW_condT rfl rfl ?_
    refine VW_seq ?_
    refine VW_region ?_
    refine VOps_cons rfl rfl (V_move rfl ?_)
    refine VOps_cons rfl rfl (V_bin rfl rfl rfl ?_)
    refine VOps_cons rfl rfl (V_move rfl ?_)
    refine VOps_split (q := 32) rfl (fun hq32 => ?_) (fun hq32 => ?_)
    · skip
      have h2 : lo.2 = 0 := by simpa using hq32
      refine VOps_skipU (.inl (skip_of rfl rfl rfl hq32)) rfl ?_
      refine VOps_skipU (.inl (skip_of rfl rfl rfl hq32)) rfl ?_
      refine VOps_skipU (.inl (skip_of rfl rfl rfl hq32)) rfl ?_
      refine VOps_cons rfl rfl (V_pickT rfl hq32 rfl ?_)
      refine VOps_cons rfl rfl (V_assign rfl ?_)
      refine VOps_nil ?_
      refine Then_n ?_
      refine VW_ret ?_
      refine Then_r (VRet_one rfl (.tmp rfl) ?_)
      have ht : turnedF ds rows c = (decide (lo.2 = 0) || decide ((lo.1.length : Int) = 0)) := by unfold turnedF; rw [hlo, if_pos (by first | exact .inl h1 | exact .inr h29)]
      rw [ht]
      exact congrArg V.bool (Bool.eq_iff_iff.2 (by simp [h2]))
    · skip
      have h2 : lo.2 ≠ 0 := by simpa using hq32
      refine VOps_cons (want_of rfl rfl rfl hq32) rfl (V_move rfl ?_)
      refine VOps_cons (want_of rfl rfl rfl hq32) rfl (V_lenN (n := lo.1.length) Try.underlying25 rfl (by simp) (fun hl34 => ?_))
      refine VOps_cons (want_of rfl rfl rfl hq32) rfl (V_bin rfl rfl rfl ?_)
      refine VOps_cons rfl rfl (V_pickF rfl hq32 rfl ?_)
      refine VOps_cons rfl rfl (V_assign rfl ?_)
      refine VOps_nil ?_
      refine Then_n ?_
      refine VW_ret ?_
      refine Then_r (VRet_one rfl (.tmp rfl) ?_)
      have ht : turnedF ds rows c = (decide (lo.2 = 0) || decide ((lo.1.length : Int) = 0)) := by unfold turnedF; rw [hlo, if_pos (by first | exact .inl h1 | exact .inr h29)]
      rw [ht]
      exact congrArg V.bool (Bool.eq_iff_iff.2 (by simp [h2]))
  · skip
    have h1 : lo.2 = 0 := by simpa using hq26
    refine VOps_cons (want_of rfl rfl rfl hq26) rfl (V_move rfl ?_)
    refine VOps_cons (want_of rfl rfl rfl hq26) rfl (V_bin rfl rfl rfl ?_)
    refine VOps_cons rfl rfl (V_pickF rfl hq26 rfl ?_)
    refine VOps_nil ?_
    refine Then_n ?_
    refine VW_condP rfl (fun h29 => ?_) (fun h29 => ?_)
    · skip
      refine VW_seq ?_
      refine VW_region ?_
      refine VOps_cons rfl rfl (V_move rfl ?_)
      refine VOps_cons rfl rfl (V_bin rfl rfl rfl ?_)
      refine VOps_cons rfl rfl (V_move rfl ?_)
      refine VOps_split (q := 32) rfl (fun hq32 => ?_) (fun hq32 => ?_)
      · skip
        have h2 : lo.2 = 0 := by simpa using hq32
        refine VOps_skipU (.inl (skip_of rfl rfl rfl hq32)) rfl ?_
        refine VOps_skipU (.inl (skip_of rfl rfl rfl hq32)) rfl ?_
        refine VOps_skipU (.inl (skip_of rfl rfl rfl hq32)) rfl ?_
        refine VOps_cons rfl rfl (V_pickT rfl hq32 rfl ?_)
        refine VOps_cons rfl rfl (V_assign rfl ?_)
        refine VOps_nil ?_
        refine Then_n ?_
        refine VW_ret ?_
        refine Then_r (VRet_one rfl (.tmp rfl) ?_)
        have ht : turnedF ds rows c = (decide (lo.2 = 0) || decide ((lo.1.length : Int) = 0)) := by unfold turnedF; rw [hlo, if_pos (by first | exact .inl h1 | exact .inr h29)]
        rw [ht]
        exact congrArg V.bool (Bool.eq_iff_iff.2 (by simp [h2]))
      · skip
        have h2 : lo.2 ≠ 0 := by simpa using hq32
        refine VOps_cons (want_of rfl rfl rfl hq32) rfl (V_move rfl ?_)
        refine VOps_cons (want_of rfl rfl rfl hq32) rfl (V_lenN (n := lo.1.length) Try.underlying25 rfl (by simp) (fun hl34 => ?_))
        refine VOps_cons (want_of rfl rfl rfl hq32) rfl (V_bin rfl rfl rfl ?_)
        refine VOps_cons rfl rfl (V_pickF rfl hq32 rfl ?_)
        refine VOps_cons rfl rfl (V_assign rfl ?_)
        refine VOps_nil ?_
        refine Then_n ?_
        refine VW_ret ?_
        refine Then_r (VRet_one rfl (.tmp rfl) ?_)
        have ht : turnedF ds rows c = (decide (lo.2 = 0) || decide ((lo.1.length : Int) = 0)) := by unfold turnedF; rw [hlo, if_pos (by first | exact .inl h1 | exact .inr h29)]
        rw [ht]
        exact congrArg V.bool (Bool.eq_iff_iff.2 (by simp [h2]))
    · skip
      obtain ⟨hck, hnb⟩ := miss_zero (by rw [hlo]; exact h1)
      obtain ⟨t, hb⟩ := check_build hck
      obtain ⟨hsm, hsame, _, _⟩ := check_parts hck hb
      have hrows := hsm.rows
      have hwc := row_len hck hnb
      refine VW_skip ?_
      refine Then_n ?_
      refine VW_seq ?_
      refine VW_region ?_
      refine VOps_cons rfl rfl (V_assign_nil 25 1 ?_)
      refine VOps_nil ?_
      refine Then_n ?_
      refine VW_seq ?_
      refine VW_seq ?_
      refine VW_region ?_
      refine VOps_cons rfl rfl (V_move rfl ?_)
      refine VOps_cons rfl rfl (V_lenN (n := rows.length) Try.underlying23 rfl (by simp) (fun hl38 => ?_))
      refine VOps_cons rfl rfl (V_move rfl ?_)
      refine VOps_nil ?_
      refine Then_n ?_
      refine VW_block ?_
      refine VW_loopF (ι := Nat × Tok) (fun (k, tk) => rows.length - k) (fun (k, tk) => [(0, some (datasX ds)), (2, some (.int c)), (7, some (patsX lo.1)), (9, some (.sl 1 (some tk) (((rows.take k).map turn).map patsX))), (37, some (rowsX rows)), (38, some (.int rows.length)), (39, some (.int k))]) (fun (k, tk) => [.buf tk 25 1 ((rows.take k).map turn).length]) (fun (k, tk) => k ≤ rows.length) (0, .nil) (by simp) ⟨rfl, rfl, rfl, rfl, rfl, rfl, rfl, trivial⟩ (Drops.buf rfl (Drops.refl _)) ?_
      rintro ⟨k, tk⟩ hk
      change k ≤ rows.length at hk
      refine VW_seq ?_
      refine VW_region ?_
      refine VOps_cons rfl rfl (V_bin rfl rfl rfl ?_)
      refine VOps_nil ?_
      refine Then_n ?_
      refine VW_seq ?_
      refine VW_condP rfl (fun h40 => ?_) (fun h40 => ?_)
      · skip
        obtain ⟨r, hr⟩ := get_of_lt rows k h40
        have hrc := hwc r (List.mem_of_getElem? hr)
        have hr16 := hsm.cols r (List.mem_of_getElem? hr)
        obtain ⟨pa, hpa⟩ := get_of_lt r 0 (by omega)
        obtain ⟨pb, hpb⟩ := get_of_lt r (r.length - 1) (by omega)
        have hga : r.getD 0 anyP = pa := by simp [hpa]
        have hgb : r.getD (r.length - 1) anyP = pb := by simp [hpb]
        refine VW_skip ?_
        refine Then_n ?_
        refine VW_seq ?_
        refine VW_block ?_
        refine VW_seq ?_
        refine VW_region ?_
        refine VOps_cons rfl rfl (V_indexAddr (el := patsX r) VT.sl23 rfl rfl (by omega) (get_mapS _ hr) (fun a41 => ?_))
        refine VOps_cons rfl rfl (V_load_ep VT.ty25 rfl rfl ?_)
        refine VOps_cons rfl rfl (V_assign rfl ?_)
        refine VOps_nil ?_
        refine Then_n ?_
        refine VW_seq ?_
        refine VW_region ?_
        refine VOps_cons rfl rfl (V_litRow [] VT.sl25 rfl rfl rfl rfl rfl (fun g43 => ?_))
        refine VOps_cons rfl rfl (V_move rfl ?_)
        refine VOps_cons rfl rfl (V_appendRow VT.sl25 (by decide) rfl rfl (by simp; omega) (by simp; omega) (pats_flat r) (fun g45 cap45 rest45 hc45 hm45 => ?_))
        refine VOps_cons rfl rfl (V_assign rfl ?_)
        refine VOps_nil ?_
        refine Then_n ?_
        refine VW_seq ?_
        refine VW_draw (G := Unit) [([], [12], []), ([], [12], []), ([], [2], []), ([2], [48], []), ([], [12], []), ([], [2], []), ([5], [51], []), ([6, 5, 4], [50, 52], []), ([7, 6, 5, 4], [53], []), ([], [12], []), ([9], [55], []), ([10, 9], [56], []), ([11, 10, 9, 8, 7, 6, 5, 4, 0], [46], []), ([12, 11, 10, 9, 8, 7, 6, 5, 4, 0], [58, 54], []), ([13, 12, 11, 10, 9, 8, 7, 6, 5, 4, 3, 2, 1, 0], [47, 49], []), ([14, 13, 12, 11, 10, 9, 8, 7, 6, 5, 4, 3, 2, 1, 0], [59, 57], [])] [13, 15] (twoSt _ (fun _ => [.cells g45 30 (((r.map patV).set 0 (patX pb)).flatMap V.leaves ++ rest45), .cells g43 30 ([].flatMap V.leaves), .buf tk 25 1 ((rows.take k).map turn).length]) (fun _ _ => [.cells g45 30 ((((r.map patV).set 0 (patX pb)).set (r.length - 1) (patX pa)).flatMap V.leaves ++ rest45), .cells g43 30 ([].flatMap V.leaves), .buf tk 25 1 ((rows.take k).map turn).length])) [] [46, 47, 48, 49, 50, 51, 52, 53, 54, 55, 56, 57, 58, 59] rfl VT.mix (by kernel_rfl) (by kernel_rfl) ?_
        refine DrawP_cons (eqRes _) (goodS rfl rfl ⟨(fun γ r12 h12 => vopT rfl (V_move h12 ⟨rfl, rfl⟩)), trivial⟩) ?_
        refine DrawP_cons (eqRes _) (goodS rfl rfl ⟨(fun γ r12 h12 => vopT rfl (V_move h12 ⟨rfl, rfl⟩)), (fun γ r12 h12 => vopT rfl (V_move h12 ⟨rfl, rfl⟩)), trivial⟩) ?_
        refine DrawP_cons (eqRes _) (goodS rfl rfl ⟨(fun γ r2 h2 => vopT rfl (V_move h2 ⟨rfl, rfl⟩)), (fun γ r2 h2 => vopT rfl (V_move h2 ⟨rfl, rfl⟩)), trivial⟩) ?_
        refine DrawP_cons (eqRes _) (goodS rfl rfl ⟨(fun γ r48 h48 => vopT rfl (V_sub h48 rfl (by omega) ⟨rfl, rfl⟩)), (fun γ r48 h48 => vopT rfl (V_sub h48 rfl (by omega) ⟨rfl, rfl⟩)), trivial⟩) ?_
        refine DrawP_cons (eqRes _) (goodS rfl rfl ⟨(fun γ r12 h12 => vopT rfl (V_move h12 ⟨rfl, rfl⟩)), trivial⟩) ?_
        refine DrawP_cons (eqRes _) (goodS rfl rfl ⟨(fun γ r2 h2 => vopT rfl (V_move h2 ⟨rfl, rfl⟩)), trivial⟩) ?_
        refine DrawP_cons (eqRes _) (goodS rfl rfl ⟨(fun γ r51 h51 => vopT rfl (V_sub h51 rfl (by omega) ⟨rfl, rfl⟩)), trivial⟩) ?_
        refine DrawP_cons (eqRes _) (goodS rfl rfl ⟨(fun γ r50 h50 r52 h52 => vopT rfl (V_indexAddr_row VT.sl25 h50 h52 (by omega) (by simp; omega) ⟨rfl, rfl⟩)), trivial⟩) ?_
        refine DrawP_cons (eqRes _) (goodS rfl rfl ⟨(fun γ r53 h53 => vopT rfl (V_load_elem 0 (r.length - 1) VT.ty30 h53 (by omega) rfl rfl (pats_fit r) (get_patS hpb) ⟨rfl, rfl⟩)), trivial⟩) ?_
        refine DrawP_cons (eqRes _) (goodS rfl rfl ⟨(fun γ r12 h12 => vopT rfl (V_move h12 ⟨rfl, rfl⟩)), trivial⟩) ?_
        refine DrawP_cons (eqRes _) (goodS rfl rfl ⟨(fun γ r55 h55 => vopT rfl (V_indexAddr_row VT.sl25 h55 rfl (by omega) (by simp; omega) ⟨rfl, rfl⟩)), trivial⟩) ?_
        refine DrawP_cons (eqRes _) (goodS rfl rfl ⟨(fun γ r56 h56 => vopT rfl (V_load_elem 0 0 VT.ty30 h56 (by omega) rfl rfl (pats_fit r) (get_patS hpa) ⟨rfl, rfl⟩)), trivial⟩) ?_
        refine DrawP_cons (eqRes _) (goodS rfl rfl ⟨(fun γ r46 h46 => vopT rfl (V_indexAddr_row VT.sl25 h46 rfl (by omega) (by simp; omega) ⟨rfl, rfl⟩)), trivial⟩) ?_
        refine DrawP_cons anyRes (goodU 0 rfl (fun γ r58 h58 r54 h54 => vopT rfl (V_store_elem 0 0 VT.ty30 h58 (by omega) h54 rfl rfl rfl (pats_fit r) (by simp; omega) ⟨default, trivial, rfl⟩))) ?_
        refine DrawP_cons (eqRes _) (goodS rfl rfl ⟨(fun γ r47 h47 r49 h49 => vopT rfl (V_indexAddr_row VT.sl25 h47 h49 (by omega) (by simp; omega) ⟨rfl, rfl⟩)), trivial⟩) ?_
        refine DrawP_cons anyRes (goodU 1 rfl (fun γ r59 h59 r57 h57 => vopT rfl (V_store_elem 0 (r.length - 1) VT.ty30 h59 (by omega) h57 rfl rfl rfl (set_fit (pats_fit r) rfl) (by simp; omega) ⟨default, trivial, rfl⟩))) ?_
        refine DrawP_nil (fun γ => Needs_nil ?_)
        refine Then_n ?_
        refine VW_freeze 0 (q := 12) (rest := rest45) ((turn r).map patV) rfl rfl (by rw [turn_map r pa pb hga hgb]) (by simp [turn]) hc45 hm45 (pats_fits _) ?_
        refine VW_region ?_
        refine VOps_cons rfl rfl (V_move rfl ?_)
        refine VOps_cons rfl rfl (V_move rfl ?_)
        refine VOps_cons rfl rfl (V_lit [.tmp 61] VT.sl23 rfl rfl rfl rfl rfl ?_)
        refine VOps_cons rfl rfl (V_appendN 1 _ VT.sl23 rfl rfl rfl (by simp) (by simp; omega) (fun t63 => ?_))
        refine VOps_cons rfl rfl (V_assign rfl ?_)
        refine VOps_nil ?_
        refine InBlock_n (Then_n ?_)
        refine VW_region ?_
        refine VOps_cons rfl rfl (V_add rfl rfl (by omega) ?_)
        refine VOps_cons rfl rfl (V_move rfl ?_)
        refine VOps_nil ?_
        refine Then_n ?_
        exact ⟨(k + 1, t63), (by (try simp only []); omega), (by omega), ⟨rfl, rfl, rfl, (by rw [take_snoc hr, List.map_append, List.map_append]; rfl), rfl, rfl, rfl, trivial⟩, (Drops.drop (Drops.buf (by rw [take_snoc hr, List.map_append]; simp) (Drops.refl _)))⟩
      · skip
        refine VW_exit ?_
        refine Then_e (Then_e (InBlock_hit ?_))
        refine Then_n ?_
        refine VW_seq ?_
        refine VW_region ?_
        refine VOps_cons rfl rfl (V_move rfl ?_)
        refine VOps_cons rfl rfl (VOp_as (V_move rfl ⟨rfl, rfl⟩) (V.le.strip) ?_)
        refine VOps_cons rfl rfl (V_move rfl ?_)
        refine VOps_cons rfl rfl (V_callP [.tmp 66, .tmp 67, .tmp 68] rfl rfl VT.en12 ((by rw [take_end h40]; exact Missing_c ds (checkTy hz) (rows.map turn) c : VPure Try.prog 12 [datasX ds, rowsX ((rows.take k).map turn), .int c] (outV (missOut ds (rows.map turn) c)))) ?_)
        refine VOps_cons rfl rfl (V_move rfl ?_)
        refine VOps_cons rfl rfl (V_extract rfl rfl ?_)
        refine VOps_cons rfl rfl (V_extract rfl rfl ?_)
        refine VOps_cons rfl rfl (V_assign rfl ?_)
        refine VOps_cons rfl rfl (V_assign rfl ?_)
        refine VOps_nil ?_
        refine Then_n ?_
        refine VW_seq ?_
        refine VW_region ?_
        refine VOps_cons rfl rfl (V_move rfl ?_)
        refine VOps_cons rfl rfl (V_bin rfl rfl rfl ?_)
        refine VOps_cons rfl rfl (V_move rfl ?_)
        refine VOps_split (q := 74) rfl (fun hq74 => ?_) (fun hq74 => ?_)
        · skip
          have h3 : (missOut ds (rows.map turn) c).2 = 0 := by simpa using hq74
          refine VOps_cons (want_of rfl rfl rfl hq74) rfl (V_move rfl ?_)
          refine VOps_cons (want_of rfl rfl rfl hq74) rfl (V_lenN (n := lo.1.length) Try.underlying25 rfl (by simp) (fun hl76 => ?_))
          refine VOps_cons (want_of rfl rfl rfl hq74) rfl (V_bin rfl rfl rfl ?_)
          refine VOps_cons (want_of rfl rfl rfl hq74) rfl (V_move rfl ?_)
          refine VOps_cons (want_of rfl rfl rfl hq74) rfl (V_lenN (n := (missOut ds (rows.map turn) c).1.length) Try.underlying25 rfl (by simp) (fun hl79 => ?_))
          refine VOps_cons (want_of rfl rfl rfl hq74) rfl (V_bin rfl rfl rfl ?_)
          refine VOps_cons (want_of rfl rfl rfl hq74) rfl (V_booleq Try.underlying4 rfl rfl ?_)
          refine VOps_cons rfl rfl (V_pickT rfl hq74 rfl ?_)
          refine VOps_cons rfl rfl (V_assign rfl ?_)
          refine VOps_nil ?_
          refine Then_n ?_
          refine VW_ret ?_
          refine VRet_one rfl (.tmp rfl) ?_
          have ht : turnedF ds rows c = (decide ((missOut ds (rows.map turn) c).2 = 0) && (decide ((lo.1.length : Int) > 0) == decide (((missOut ds (rows.map turn) c).1.length : Int) > 0))) := by unfold turnedF; rw [hlo, if_neg (by rintro (h | h); exact h h1; exact h29 h)]
          rw [ht]
          exact congrArg V.bool (by simp [h3])
        · skip
          have h3 : (missOut ds (rows.map turn) c).2 ≠ 0 := by simpa using hq74
          refine VOps_skipU (.inl (skip_of rfl rfl rfl hq74)) rfl ?_
          refine VOps_skipU (.inl (skip_of rfl rfl rfl hq74)) rfl ?_
          refine VOps_skipU (.inl (skip_of rfl rfl rfl hq74)) rfl ?_
          refine VOps_skipU (.inl (skip_of rfl rfl rfl hq74)) rfl ?_
          refine VOps_skipU (.inl (skip_of rfl rfl rfl hq74)) rfl ?_
          refine VOps_skipU (.inl (skip_of rfl rfl rfl hq74)) rfl ?_
          refine VOps_skipU (.inl (skip_of rfl rfl rfl hq74)) rfl ?_
          refine VOps_cons rfl rfl (V_pickF rfl hq74 rfl ?_)
          refine VOps_cons rfl rfl (V_assign rfl ?_)
          refine VOps_nil ?_
          refine Then_n ?_
          refine VW_ret ?_
          refine VRet_one rfl (.tmp rfl) ?_
          have ht : turnedF ds rows c = (decide ((missOut ds (rows.map turn) c).2 = 0) && (decide ((lo.1.length : Int) > 0) == decide (((missOut ds (rows.map turn) c).1.length : Int) > 0))) := by unfold turnedF; rw [hlo, if_neg (by rintro (h | h); exact h h1; exact h29 h)]
          rw [ht]
          exact congrArg V.bool (by simp [h3])


end Go.Proofs.Ytmjeaagpcmfnpaa.W11
