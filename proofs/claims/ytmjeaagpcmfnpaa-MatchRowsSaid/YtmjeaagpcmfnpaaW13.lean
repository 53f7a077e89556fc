/- Walks, printed by walk.py. -/
import Derived.Test.YtmjeaagpcmfnpaaVT
import Derived.Test.YtmjeaagpcmfnpaaVDA
import Derived.Test.YtmjeaagpcmfnpaaVB
import Derived.Test.YtmjeaagpcmfnpaaVD8
import Derived.Test.YtmjeaagpcmfnpaaW1
import Derived.Test.YtmjeaagpcmfnpaaW2
import Derived.Test.YtmjeaagpcmfnpaaW3
import Derived.Test.YtmjeaagpcmfnpaaW4
import Derived.Test.YtmjeaagpcmfnpaaW5
import Derived.Test.YtmjeaagpcmfnpaaW6
import Derived.Test.YtmjeaagpcmfnpaaW8
import Derived.Test.YtmjeaagpcmfnpaaW9
import Derived.Test.YtmjeaagpcmfnpaaW12
set_option linter.unusedVariables false
set_option linter.unusedSimpArgs false
namespace Go.Proofs.Ytmjeaagpcmfnpaa.W13
open Go.VL Go.PM Go.Proofs.Ytmjeaagpcmfnpaa Go.Proofs.Ytmjeaagpcmfnpaa.W1 Go.Proofs.Ytmjeaagpcmfnpaa.W2 Go.Proofs.Ytmjeaagpcmfnpaa.W3 Go.Proofs.Ytmjeaagpcmfnpaa.W4 Go.Proofs.Ytmjeaagpcmfnpaa.W5 Go.Proofs.Ytmjeaagpcmfnpaa.W6 Go.Proofs.Ytmjeaagpcmfnpaa.W8 Go.Proofs.Ytmjeaagpcmfnpaa.W9 Go.Proofs.Ytmjeaagpcmfnpaa.W12
set_option maxRecDepth 100000 in
set_option maxHeartbeats 4000000 in
theorem Redundant_c (ds : List DataSig) (hz : Sized ds) (rows : List (List Pat)) : VPure Try.prog 13 [datasX ds, rowsX rows] (redV (redOut ds rows)) := by
  refine V_start (nt := 40) Try.func13 rfl rfl rfl ?_
  refine VW_seq ?_
  refine VW_region ?_
  refine VOps_cons rfl rfl (V_assign rfl ?_)
  refine VOps_cons rfl rfl (V_assign rfl ?_)
  refine VOps_nil ?_
  refine Then_n ?_
  refine VW_seq ?_
  refine VW_region ?_
  refine VOps_cons rfl rfl (V_move rfl ?_)
  refine VOps_cons rfl rfl (V_move rfl ?_)
  rcases Decidable.em (checkF ds rows = 0) with he | he
  · skip
    refine VOps_cons rfl rfl (V_call [.tmp 12, .tmp 13] [] _ rfl rfl VT.en27 (.refl _) (check_ok he) ?_)
    rintro r Sa ⟨g, t, hb, rfl, rfl⟩
    refine VOps_cons rfl rfl (V_move rfl ?_)
    refine VOps_cons rfl rfl (V_extract rfl rfl ?_)
    refine VOps_cons rfl rfl (V_extract rfl rfl ?_)
    refine VOps_cons rfl rfl (V_alloc VT.zr65 _ rfl rfl (fun g6 => ?_))
    refine VOps_cons rfl rfl (V_store_agg 0 VT.ty65 rfl rfl rfl rfl rfl ?_)
    refine VOps_cons rfl rfl (V_assign rfl ?_)
    refine VOps_nil ?_
    refine Then_n ?_
    refine VW_seq ?_
    refine VW_seq ?_
    refine VW_region ?_
    refine VOps_cons rfl rfl (V_move rfl ?_)
    refine VOps_cons rfl rfl (V_bin rfl rfl rfl ?_)
    refine VOps_nil ?_
    refine Then_n ?_
    refine VW_condF rfl (rfl) ?_
    refine VW_skip ?_
    refine Then_n ?_
    have hok := tabOk_of hb (check_parts he hb).1 hz
    refine VW_seq ?_
    refine VW_region ?_
    refine VOps_cons rfl rfl (V_assign_nil 3 1 ?_)
    refine VOps_nil ?_
    refine Then_n ?_
    refine VW_seq ?_
    refine VW_seq ?_
    refine VW_region ?_
    refine VOps_cons rfl rfl (V_move rfl ?_)
    refine VOps_cons rfl rfl (V_lenN (n := rows.length) Try.underlying23 rfl (by simp) (fun hl21 => ?_))
    refine VOps_cons rfl rfl (V_move rfl ?_)
    refine VOps_nil ?_
    refine Then_n ?_
    refine VW_block ?_
    refine VW_loopF (ι := Nat × Tok) (fun (k, tk) => rows.length - k) (fun (k, tk) => [(1, some (rowsX rows)), (6, some (.ptr g6 0)), (8, some (.sl 1 (some tk) ((redTo t ds rows k).map fun n : Nat => V.int n))), (20, some (rowsX rows)), (21, some (.int rows.length)), (22, some (.int k))]) (fun (k, tk) => [.buf tk 3 1 (redTo t ds rows k).length, .cells g6 65 [datasX ds, .raw (.map (some g))], tabO g t]) (fun (k, tk) => k ≤ rows.length) (0, .nil) (by simp) ⟨rfl, rfl, rfl, rfl, rfl, rfl, trivial⟩ (Drops.buf rfl (Drops.keep (Drops.keep (Drops.refl _)))) ?_
    rintro ⟨k, tk⟩ hk
    change k ≤ rows.length at hk
    refine VW_seq ?_
    refine VW_region ?_
    refine VOps_cons rfl rfl (V_bin rfl rfl rfl ?_)
    refine VOps_nil ?_
    refine Then_n ?_
    refine VW_seq ?_
    refine VW_condP rfl (fun h23 => ?_) (fun h23 => ?_)
    · skip
      obtain ⟨r, hr⟩ := get_of_lt rows k h23
      have hrl := redTo_len t ds rows k
      have hrows := (check_parts he hb).1.rows
      have hsn := redTo_snoc t ds rows k
      have hg : rows.getD k [] = r := by simp [hr]
      rw [hg] at hsn
      have hnb := nbad_width he (fun e => by rw [e] at hr; simp at hr)
      obtain ⟨τs, hτ, hT⟩ := typed_of he hb hnb
      have hcall : VKeep Try.prog 29 [tabX ds g, rowsX (rows.take k), patsX r] [tabO g t] (.bool (usefulF t ds fuel0 (rows.take k) r)) := useful_c ds t g hok fuel0 (by rw [fuel0_eq]; omega) (rows.take k) r τs (usePre_of hT hr)
      have htk : V.sl 1 none ((rows.map patsX).take k) = rowsX (rows.take k) := by rw [rowsX, List.map_take]
      refine VW_skip ?_
      refine Then_n ?_
      refine VW_seq ?_
      refine VW_block ?_
      refine VW_seq ?_
      refine VW_region ?_
      refine VOps_cons rfl rfl (V_move rfl ?_)
      refine VOps_cons rfl rfl (V_indexAddr (el := patsX r) VT.sl23 rfl rfl (by omega) (get_mapS _ hr) (fun a25 => ?_))
      refine VOps_cons rfl rfl (V_load_ep VT.ty25 rfl rfl ?_)
      refine VOps_cons rfl rfl (V_assign rfl ?_)
      refine VOps_cons rfl rfl (V_assign rfl ?_)
      refine VOps_nil ?_
      refine Then_n ?_
      refine VW_seq ?_
      refine VW_draw (G := Unit) [([], [6], []), ([], [1], []), ([], [9], []), ([2, 1], [28, 29], []), ([], [10], []), ([4, 3, 2, 1, 0], [27, 30, 31], []), ([5, 4, 3, 2, 1, 0], [32], [])] [] (constSt _) [33] [27, 28, 29, 30, 31, 32, 33] rfl VT.mix (by kernel_rfl) (by kernel_rfl) ?_
      refine DrawP_consL (acc' := [_]) (eqRes _) (good0 (fun γ => Needs_f (by kernel_rfl) (fun r6 h6 => Needs_nil (vopT rfl (V_load_agg 1 VT.ty65 h6 rfl rfl ⟨rfl, rfl⟩))))) rfl ?_
      refine DrawP_consL (acc' := [_, _]) (eqRes _) (good0 (fun γ => Needs_f (by kernel_rfl) (fun r1 h1 => Needs_nil (vopT rfl (V_move h1 ⟨rfl, rfl⟩))))) rfl ?_
      refine DrawP_consL (acc' := [_, _, _]) (eqRes _) (good0 (fun γ => Needs_f (by kernel_rfl) (fun r9 h9 => Needs_nil (vopT rfl (V_move h9 ⟨rfl, rfl⟩))))) rfl ?_
      refine DrawP_consL (acc' := [_, _, _, _]) (eqRes _) (good0 (fun γ => Needs_w 1 (by kernel_rfl) rfl (fun r28 h28 => Needs_w 2 (by kernel_rfl) rfl (fun r29 h29 => Needs_nil (vopT rfl (VOp_as (V_sliceTo VT.sl23 h28 h29 (by omega) (by simp; omega) ⟨rfl, rfl⟩) (V.le.of_eq htk) ⟨rfl, rfl⟩)))))) rfl ?_
      refine DrawP_consL (acc' := [_, _, _, _, _]) (eqRes _) (good0 (fun γ => Needs_f (by kernel_rfl) (fun r10 h10 => Needs_nil (vopT rfl (V_move h10 ⟨rfl, rfl⟩))))) rfl ?_
      refine DrawP_consL (acc' := [_, _, _, _, _, _]) (eqRes _) (good0 (fun γ => Needs_w 0 (by kernel_rfl) rfl (fun r27 h27 => Needs_w 3 (by kernel_rfl) rfl (fun r30 h30 => Needs_w 4 (by kernel_rfl) rfl (fun r31 h31 => Needs_nil (vopT rfl (V_callK 2 [.tmp 27, .tmp 30, .tmp 31] rfl (evs_cons h27 (evs_cons h30 (evs_cons h31 evs_nil))) VT.en29 rfl (hcall) ⟨rfl, rfl⟩))))))) rfl ?_
      refine DrawP_consL (acc' := [_, _, _, _, _, _, _]) (eqRes _) (good0 (fun γ => Needs_w 5 (by kernel_rfl) rfl (fun r32 h32 => Needs_nil (vopT rfl (V_not h32 ⟨rfl, rfl⟩))))) rfl ?_
      refine DrawP_nil (fun γ => Needs_w 6 (by kernel_rfl) rfl (fun r33 h33 => Needs_nil ?_))
      have e33 : r33 = some _ := h33
      subst e33
      clear h33
      refine Then_n ?_
      refine VW_condN rfl (fun h33 => ?_) (fun h33 => ?_)
      · skip
        rw [show usefulF t ds fuel0 (rows.take k) r = false by simpa using h33] at hsn
        refine VW_region ?_
        refine VOps_cons rfl rfl (V_move rfl ?_)
        refine VOps_cons rfl rfl (V_move rfl ?_)
        refine VOps_cons rfl rfl (V_lit [.tmp 35] VT.sl32 rfl rfl rfl rfl rfl ?_)
        refine VOps_cons rfl rfl (V_appendN 0 _ VT.sl32 rfl rfl rfl (by simp) (by simp; omega) (fun t37 => ?_))
        refine VOps_cons rfl rfl (V_assign rfl ?_)
        refine VOps_nil ?_
        refine InBlock_n (Then_n ?_)
        refine VW_region ?_
        refine VOps_cons rfl rfl (V_add rfl rfl (by omega) ?_)
        refine VOps_cons rfl rfl (V_move rfl ?_)
        refine VOps_nil ?_
        refine Then_n ?_
        exact ⟨(k + 1, t37), (by (try simp only []); omega), (by omega), ⟨rfl, rfl, (by rw [hsn]; simp; rfl), rfl, rfl, rfl, trivial⟩, (Drops.buf (by rw [hsn]; simp) (Drops.keep (Drops.keep (Drops.refl _))))⟩
      · skip
        rw [show usefulF t ds fuel0 (rows.take k) r = true by simpa using h33] at hsn
        refine VW_skip ?_
        refine InBlock_n (Then_n ?_)
        refine VW_region ?_
        refine VOps_cons rfl rfl (V_add rfl rfl (by omega) ?_)
        refine VOps_cons rfl rfl (V_move rfl ?_)
        refine VOps_nil ?_
        refine Then_n ?_
        exact ⟨(k + 1, tk), (by (try simp only []); omega), (by omega), ⟨rfl, rfl, (by rw [hsn]; simp; rfl), rfl, rfl, rfl, trivial⟩, (Drops.buf (by rw [hsn]; simp) (Drops.keep (Drops.keep (Drops.refl _))))⟩
    · skip
      have hke : k = rows.length := by omega
      refine VW_exit ?_
      refine Then_e (Then_e (InBlock_hit ?_))
      refine Then_n ?_
      refine VW_seq ?_
      refine VW_region ?_
      refine VOps_cons rfl rfl (VOp_as (V_move rfl ⟨rfl, rfl⟩) (V.le.strip) ?_)
      refine VOps_cons rfl rfl (V_assign rfl ?_)
      refine VOps_cons rfl rfl (V_assign rfl ?_)
      refine VOps_nil ?_
      refine Then_n ?_
      refine VW_ret ?_
      refine VRet_many rfl rfl (.cons (.tmp rfl) (.cons (.tmp rfl) (.nil))) ?_
      rw [redOut_ok he hb, hke]
      rfl
  · skip
    refine VOps_cons rfl rfl (V_callP [.tmp 12, .tmp 13] rfl rfl VT.en27 (check_bad he) ?_)
    refine VOps_cons rfl rfl (V_move rfl ?_)
    refine VOps_cons rfl rfl (V_extract rfl rfl ?_)
    refine VOps_cons rfl rfl (V_extract rfl rfl ?_)
    refine VOps_cons rfl rfl (V_alloc VT.zr65 _ rfl rfl (fun g6 => ?_))
    refine VOps_cons rfl rfl (V_store_agg 0 VT.ty65 rfl rfl rfl rfl rfl ?_)
    refine VOps_cons rfl rfl (V_assign rfl ?_)
    refine VOps_nil ?_
    refine Then_n ?_
    refine VW_seq ?_
    refine VW_seq ?_
    refine VW_region ?_
    refine VOps_cons rfl rfl (V_move rfl ?_)
    refine VOps_cons rfl rfl (V_bin rfl rfl rfl ?_)
    refine VOps_nil ?_
    refine Then_n ?_
    refine VW_condNe rfl (fun h18 => ?_) (fun h18 => ?_)
    · skip
      refine VW_seq ?_
      refine VW_region ?_
      refine VOps_cons rfl rfl (V_move rfl ?_)
      refine VOps_cons rfl rfl (VOp_as (V_assign rfl ⟨rfl, rfl⟩) (V.le.nil 1) ?_)
      refine VOps_cons rfl rfl (V_assign rfl ?_)
      refine VOps_nil ?_
      refine Then_n ?_
      refine VW_ret ?_
      refine Then_r (VRet_many rfl rfl (.cons (.tmp rfl) (.cons (.tmp rfl) (.nil))) ?_)
      rw [redOut_err he]
      rfl
    · exact absurd h18 he


end Go.Proofs.Ytmjeaagpcmfnpaa.W13
