/- Walks, printed by walk.py. -/
import Derived.Test.YtmjeaagpcmfnpaaVT
import Derived.Test.YtmjeaagpcmfnpaaVDA
import Derived.Test.YtmjeaagpcmfnpaaVB
import Derived.Test.YtmjeaagpcmfnpaaW1
import Derived.Test.YtmjeaagpcmfnpaaW2
import Derived.Test.YtmjeaagpcmfnpaaW3
import Derived.Test.YtmjeaagpcmfnpaaW4
set_option linter.unusedVariables false
set_option linter.unusedSimpArgs false
namespace Go.Proofs.Ytmjeaagpcmfnpaa.W5
open Go.VL Go.PM Go.Proofs.Ytmjeaagpcmfnpaa Go.Proofs.Ytmjeaagpcmfnpaa.W1 Go.Proofs.Ytmjeaagpcmfnpaa.W2 Go.Proofs.Ytmjeaagpcmfnpaa.W3 Go.Proofs.Ytmjeaagpcmfnpaa.W4

def absV : Option Pat → V
  | some p => .tup [patX p, .bool true]
  | none => .tup [patX anyP, .bool false]
theorem pat_le (k n : Int) (s : Str) : V.le (.agg [.int k, .str s, .int n, V.nilSl]) (patX (.mk k s n [])) := V.le.agg ⟨V.le.refl _, rfl, V.le.refl _, rfl, V.le.refl _, rfl, V.le.nil 4, rfl, trivial⟩

set_option maxRecDepth 100000 in
set_option maxHeartbeats 4000000 in
theorem absent_c (ds : List DataSig) (t : Tab) (g : Nat) (l : List Pat) (hl : l.length ≤ 1000000) (hh : ∀ p tl, l = p :: tl → p.kind ≠ 2 → ∃ c D, tget t p.name = some c ∧ ds[c.1]? = some D ∧ D.cons.length ≤ 1000 ∧ ∀ k ∈ D.cons, k.args.length * 56 ≤ 140737488355328) : VKeep Try.prog 43 [tabX ds g, patsX l] [tabO g t] (absV (absentF t ds l)) := by
  refine VCalls_drops ?_
  refine V_start (nt := 56) Try.func43 rfl rfl rfl ?_
  refine VW_seq ?_
  refine VW_region ?_
  refine VOps_cons rfl rfl (V_box rfl rfl (fun g2 => ?_))
  refine VOps_cons rfl rfl (V_alloc VT.zr30 _ rfl rfl (fun g4 => ?_))
  refine VOps_cons rfl rfl (V_assign rfl ?_)
  refine VOps_nil ?_
  refine Then_n ?_
  refine VW_seq ?_
  refine VW_seq ?_
  refine VW_region ?_
  refine VOps_cons rfl rfl (V_move rfl ?_)
  refine VOps_cons rfl rfl (V_lenN (n := l.length) Try.underlying25 rfl (by simp) (fun hl10 => ?_))
  refine VOps_cons rfl rfl (V_bin rfl rfl rfl ?_)
  refine VOps_nil ?_
  refine Then_n ?_
  refine VW_condEq rfl (fun h11 => ?_) (fun h11 => ?_)
  · skip
    have hn : l = [] := by cases l with | nil => rfl | cons a b => simp at h11; omega
    subst hn
    refine VW_seq ?_
    refine VW_region ?_
    refine VOps_cons rfl rfl (VOp_as (V_build [] [] VT.st30 rfl rfl rfl rfl ⟨rfl, rfl⟩) (any_le) ?_)
    refine VOps_cons rfl rfl (V_store_agg 0 VT.ty30 rfl rfl rfl rfl rfl ?_)
    refine VOps_cons rfl rfl (V_assign rfl ?_)
    refine VOps_nil ?_
    refine Then_n ?_
    refine VW_ret ?_
    refine Then_r (VRet_many rfl rfl (.cons (.agg (i := 0) VT.ty30 rfl rfl rfl) (.cons (.tmp rfl) (.nil))) ?_)
    exact ⟨_, Drops.drop (Drops.drop (Drops.refl _)), rfl, rfl⟩
  · skip
    obtain ⟨p, tl, rfl⟩ := List.exists_cons_of_ne_nil (l := l) (by rintro rfl; exact h11 rfl)
    refine VW_skip ?_
    refine Then_n ?_
    refine VW_seq ?_
    refine VW_seq ?_
    refine VW_region ?_
    refine VOps_cons rfl rfl (V_move rfl ?_)
    refine VOps_cons rfl rfl (V_indexAddr (el := patX p) VT.sl25 rfl rfl (by omega) (get_patS rfl) (fun a14 => ?_))
    refine VOps_cons rfl rfl (V_fieldAddr_ep VT.fa30_0 rfl rfl ?_)
    refine VOps_cons rfl rfl (V_load_ep VT.ty3 rfl rfl ?_)
    refine VOps_cons rfl rfl (V_bin rfl rfl rfl ?_)
    refine VOps_nil ?_
    refine Then_n ?_
    refine VW_condEq rfl (fun h17 => ?_) (fun h17 => ?_)
    · skip
      refine VW_seq ?_
      refine VW_region ?_
      refine VOps_cons rfl rfl (V_alloc VT.zr3 _ rfl rfl (fun g6 => ?_))
      refine VOps_cons rfl rfl (V_store 0 VT.ty3 rfl rfl rfl rfl rfl ?_)
      refine VOps_nil ?_
      refine Then_n ?_
      refine VW_seq ?_
      refine VW_block ?_
      refine VW_loopF (ι := Int) (fun n => countGE (p :: tl) n) (fun n => [(1, some (patsX (p :: tl))), (4, some (.ptr g4 0)), (6, some (.ptr g6 0))]) (fun n => [.cells g6 3 [.int n], .cells g4 30 VT.zs30, tabO g t]) (fun n => 0 ≤ n ∧ fresh (p :: tl) n = fresh (p :: tl) 0 ∧ n + countGE (p :: tl) n ≤ (p :: tl).length) 0 ⟨Int.le_refl _, rfl, by have : countGE (p :: tl) 0 ≤ (p :: tl).length := List.countP_le_length; omega⟩ ⟨rfl, rfl, rfl, trivial⟩ (Drops.keep (Drops.keep (Drops.drop (Drops.keep (Drops.refl _))))) ?_
      rintro n hA
      change 0 ≤ n ∧ fresh (p :: tl) n = fresh (p :: tl) 0 ∧ n + countGE (p :: tl) n ≤ (p :: tl).length at hA
      obtain ⟨n0, hq, hn⟩ := hA
      refine VW_seq ?_
      refine VW_seq ?_
      refine VW_region ?_
      refine VOps_cons rfl rfl (V_move rfl ?_)
      refine VOps_cons rfl rfl (V_makeFunc [.tmp 6] rfl rfl ?_)
      refine VOps_cons rfl rfl (V_callK 0 [.tmp 18, .tmp 19] rfl rfl VT.en75 rfl (patAnyK_c (p := fun q => decide (q.n = n)) VT.en77 (fun q _ => absent1_c q n g6)) ?_)
      refine VOps_nil ?_
      refine Then_n ?_
      refine VW_cond rfl (fun h20 => ?_) (fun h20 => ?_)
      · skip
        have hlt := countGE_lt h20
        have hlm : (p :: tl).length ≤ 1000000 := hl
        refine VW_skip ?_
        refine Then_n ?_
        refine VW_block ?_
        refine VW_region ?_
        refine VOps_cons rfl rfl (V_load 0 VT.ty3 rfl rfl rfl ?_)
        refine VOps_cons rfl rfl (V_add rfl rfl (by omega) ?_)
        refine VOps_cons rfl rfl (V_store 0 VT.ty3 rfl rfl rfl rfl rfl ?_)
        refine VOps_nil ?_
        refine InBlock_n (Then_n ?_)
        exact ⟨n + 1, (countGE_lt h20), ⟨by omega, by rw [← fresh_yes h20]; exact hq, by omega⟩, ⟨rfl, rfl, rfl, trivial⟩, (Drops.keep (Drops.keep (Drops.keep (Drops.refl _))))⟩
      · skip
        refine VW_exit ?_
        refine Then_e (Then_e (InBlock_hit ?_))
        refine Then_n ?_
        refine VW_seq ?_
        refine VW_region ?_
        refine VOps_cons rfl rfl (V_load 0 VT.ty3 rfl rfl rfl ?_)
        refine VOps_cons rfl rfl (VOp_as (V_build [0, 2] [.const (.int .i64 (2)), .tmp 23] VT.st30 rfl rfl rfl rfl ⟨rfl, rfl⟩) (pat_le 2 _ []) ?_)
        refine VOps_cons rfl rfl (V_store_agg 1 VT.ty30 rfl rfl rfl rfl rfl ?_)
        refine VOps_cons rfl rfl (V_assign rfl ?_)
        refine VOps_nil ?_
        refine Then_n ?_
        refine VW_ret ?_
        refine Then_r (VRet_many rfl rfl (.cons (.agg (i := 1) VT.ty30 rfl rfl rfl) (.cons (.tmp rfl) (.nil))) ?_)
        refine ⟨_, Drops.drop (Drops.drop (Drops.refl _)), ?_, rfl⟩
        rw [absentF, if_pos h17, ← hq, fresh_no h20]
        rfl
    · skip
      obtain ⟨c, D, ht, hD, hdl, hb⟩ := hh p tl rfl h17
      refine VW_skip ?_
      refine Then_n ?_
      refine VW_seq ?_
      refine VW_seq ?_
      refine VW_draw (G := Unit) [([], [2], []), ([0], [25], []), ([], [2], []), ([2], [27], []), ([], [1], []), ([4], [29], []), ([5, 4], [30], []), ([6, 5, 4], [31], []), ([7, 6, 5, 4, 3, 2], [28, 32], []), ([8, 7, 6, 5, 4, 3, 2], [33], []), ([9, 8, 7, 6, 5, 4, 3, 2, 1, 0], [26, 34], []), ([10, 9, 8, 7, 6, 5, 4, 3, 2, 1, 0], [35], []), ([11, 10, 9, 8, 7, 6, 5, 4, 3, 2, 1, 0], [36], []), ([12, 11, 10, 9, 8, 7, 6, 5, 4, 3, 2, 1, 0], [37], []), ([], [], [])] [] (constSt _) [37, 38, 39] [25, 26, 27, 28, 29, 30, 31, 32, 33, 34, 35, 36, 37, 38, 39] rfl VT.mix (by kernel_rfl) (by kernel_rfl) ?_
      refine DrawP_consL (acc' := [_]) (eqRes _) (good0 (fun γ => Needs_f (by kernel_rfl) (fun r2 h2 => Needs_nil (vopT rfl (V_fieldAddr VT.fa65_0 h2 ⟨rfl, rfl⟩))))) rfl ?_
      refine DrawP_consL (acc' := [_, _]) (eqRes _) (good0 (fun γ => Needs_w 0 (by kernel_rfl) rfl (fun r25 h25 => Needs_nil (vopT rfl (V_load 1 VT.ty22 h25 rfl rfl ⟨rfl, rfl⟩))))) rfl ?_
      refine DrawP_consL (acc' := [_, _, _]) (eqRes _) (good0 (fun γ => Needs_f (by kernel_rfl) (fun r2 h2 => Needs_nil (vopT rfl (V_fieldAddr VT.fa65_1 h2 ⟨rfl, rfl⟩))))) rfl ?_
      refine DrawP_consL (acc' := [_, _, _, _]) (eqRes _) (good0 (fun γ => Needs_w 2 (by kernel_rfl) rfl (fun r27 h27 => Needs_nil (vopT rfl (V_load 1 VT.ty63 h27 rfl rfl ⟨rfl, rfl⟩))))) rfl ?_
      refine DrawP_consL (acc' := [_, _, _, _, _]) (eqRes _) (good0 (fun γ => Needs_f (by kernel_rfl) (fun r1 h1 => Needs_nil (vopT rfl (V_move h1 ⟨rfl, rfl⟩))))) rfl ?_
      refine DrawP_consL (acc' := [_, _, _, _, _, _]) (epRes _) (good0 (fun γ => Needs_w 4 (by kernel_rfl) rfl (fun r29 h29 => Needs_nil (vopT rfl (V_indexAddr (el := patX p) VT.sl25 h29 rfl (by omega) (get_patS rfl) (fun a30 => ⟨⟨_, rfl⟩, rfl⟩)))))) rfl ?_
      refine DrawP_consL (acc' := [_, _, _, _, _, _, _]) (epRes _) (good0 (fun γ => Needs_w 5 (by kernel_rfl) rfl (fun r30 h30 => Needs_nil (epE h30 (fun a_30 e30 => vopT rfl (V_fieldAddr_ep VT.fa30_1 e30 rfl ⟨⟨_, rfl⟩, rfl⟩)))))) rfl ?_
      refine DrawP_consL (acc' := [_, _, _, _, _, _, _, _]) (eqRes _) (good0 (fun γ => Needs_w 6 (by kernel_rfl) rfl (fun r31 h31 => Needs_nil (epE h31 (fun a_31 e31 => vopT rfl (V_load_ep VT.ty9 e31 rfl ⟨rfl, rfl⟩)))))) rfl ?_
      refine DrawP_consL (acc' := [_, _, _, _, _, _, _, _, _]) (eqRes _) (good0 (fun γ => Needs_w 3 (by kernel_rfl) rfl (fun r28 h28 => Needs_w 7 (by kernel_rfl) rfl (fun r32 h32 => Needs_nil (vopT rfl (V_lookup1 2 Try.underlying63 (key_str Try.underlying9) VT.zr95 h28 h32 rfl (by rw [kget_tab, ht]; rfl) ⟨rfl, rfl⟩)))))) rfl ?_
      refine DrawP_consL (acc' := [_, _, _, _, _, _, _, _, _, _]) (eqRes _) (good0 (fun γ => Needs_w 8 (by kernel_rfl) rfl (fun r33 h33 => Needs_nil (vopT rfl (V_field (x := 0) VT.fa95_0 h33 rfl ⟨rfl, rfl⟩))))) rfl ?_
      refine DrawP_consL (acc' := [_, _, _, _, _, _, _, _, _, _, _]) (epRes _) (good0 (fun γ => Needs_w 1 (by kernel_rfl) rfl (fun r26 h26 => Needs_w 9 (by kernel_rfl) rfl (fun r34 h34 => Needs_nil (vopT rfl (V_indexAddr (el := dataV D) VT.sl22 h26 h34 (by omega) (get_mapS _ hD) (fun a35 => ⟨⟨_, rfl⟩, rfl⟩))))))) rfl ?_
      refine DrawP_consL (acc' := [_, _, _, _, _, _, _, _, _, _, _, _]) (epRes _) (good0 (fun γ => Needs_w 10 (by kernel_rfl) rfl (fun r35 h35 => Needs_nil (epE h35 (fun a_35 e35 => vopT rfl (V_fieldAddr_ep VT.fa62_2 e35 rfl ⟨⟨_, rfl⟩, rfl⟩)))))) rfl ?_
      refine DrawP_consL (acc' := [_, _, _, _, _, _, _, _, _, _, _, _, _]) (eqRes _) (good0 (fun γ => Needs_w 11 (by kernel_rfl) rfl (fun r36 h36 => Needs_nil (epE h36 (fun a_36 e36 => vopT rfl (V_load_ep VT.ty60 e36 rfl ⟨rfl, rfl⟩)))))) rfl ?_
      refine DrawP_consL (acc' := [_, _, _, _, _, _, _, _, _, _, _, _, _, _]) (eqRes _) (good0 (fun γ => Needs_w 12 (by kernel_rfl) rfl (fun r37 h37 => Needs_nil (vopT rfl (V_lenN (n := D.cons.length) Try.underlying60 h37 (by simp) (fun hl38 => ⟨rfl, rfl⟩)))))) rfl ?_
      refine DrawP_consL (acc' := [_, _, _, _, _, _, _, _, _, _, _, _, _, _, _]) (eqRes _) (good0 (fun γ => Needs_nil (vopT rfl (V_move rfl ⟨rfl, rfl⟩)))) rfl ?_
      refine DrawP_nil (fun γ => Needs_w 12 (by kernel_rfl) rfl (fun r37 h37 => Needs_w 13 (by kernel_rfl) rfl (fun r38 h38 => Needs_w 14 (by kernel_rfl) rfl (fun r39 h39 => Needs_nil ?_))))
      have e37 : r37 = some _ := h37
      subst e37
      clear h37
      have e38 : r38 = some _ := h38
      subst e38
      clear h38
      have e39 : r39 = some _ := h39
      subst e39
      clear h39
      refine Then_n ?_
      refine VW_block ?_
      refine VW_loopF (ι := Nat) (fun k => D.cons.length - k) (fun k => [(1, some (patsX (p :: tl))), (4, some (.ptr g4 0)), (37, some (.sl 2 none (D.cons.map conV))), (38, some (.int D.cons.length)), (39, some (.int k))]) (fun k => [.cells g4 30 VT.zs30, tabO g t]) (fun k => k ≤ D.cons.length ∧ (D.cons.drop k).find? (lacks (p :: tl)) = D.cons.find? (lacks (p :: tl))) 0 ⟨Nat.zero_le _, rfl⟩ ⟨rfl, rfl, rfl, rfl, rfl, trivial⟩ (Drops.keep (Drops.drop (Drops.keep (Drops.refl _)))) ?_
      rintro k hA
      change k ≤ D.cons.length ∧ (D.cons.drop k).find? (lacks (p :: tl)) = D.cons.find? (lacks (p :: tl)) at hA
      obtain ⟨hk, hq⟩ := hA
      refine VW_seq ?_
      refine VW_region ?_
      refine VOps_cons rfl rfl (V_bin rfl rfl rfl ?_)
      refine VOps_nil ?_
      refine Then_n ?_
      refine VW_seq ?_
      refine VW_condP rfl (fun h40 => ?_) (fun h40 => ?_)
      · skip
        obtain ⟨e, hc⟩ := get_of_lt D.cons k h40
        refine VW_skip ?_
        refine Then_n ?_
        refine VW_seq ?_
        refine VW_block ?_
        refine VW_seq ?_
        refine VW_region ?_
        refine VOps_cons rfl rfl (V_indexAddr (el := conV e) VT.sl60 rfl rfl (by omega) (get_mapS _ hc) (fun a41 => ?_))
        refine VOps_cons rfl rfl (V_load_ep_agg VT.ty59 rfl rfl ?_)
        refine VOps_cons rfl rfl (V_alloc VT.zr59 _ rfl rfl (fun g8 => ?_))
        refine VOps_cons rfl rfl (V_store_agg 0 VT.ty59 rfl rfl rfl rfl rfl ?_)
        refine VOps_nil ?_
        refine Then_n ?_
        refine VW_seq ?_
        refine VW_region ?_
        refine VOps_cons rfl rfl (V_move rfl ?_)
        refine VOps_cons rfl rfl (V_makeFunc [.tmp 8] rfl rfl ?_)
        refine VOps_cons rfl rfl (V_callK 0 [.tmp 43, .tmp 44] rfl rfl VT.en75 rfl (patAnyK_c (p := fun q => decide (q.name = e.name)) VT.en78 (fun q _ => absent2_c q e g8)) ?_)
        refine VOps_cons rfl rfl (V_not rfl ?_)
        refine VOps_nil ?_
        refine Then_n ?_
        refine VW_condN rfl (fun h46 => ?_) (fun h46 => ?_)
        · skip
          have hlk : lacks (p :: tl) e = true := by unfold lacks; rw [h46]; rfl
          refine VW_seq ?_
          refine VW_draw (G := Unit) [([], [8], []), ([0], [47], []), ([], [8], []), ([2], [49], []), ([3, 2], [50], []), ([4, 3, 2], [51], []), ([5, 4, 3, 2, 1, 0], [48, 52], []), ([6, 5, 4, 3, 2, 1, 0], [4, 53], []), ([7, 6, 5, 4, 3, 2, 1, 0], [], [])] [7] (oneSt _ (fun _ => [.cells g8 59 [.str e.name, .sl 4 none e.args], .cells g4 30 [.int 3, .str e.name, .int 0, patsX (anysL e.args.length)], tabO g t])) [5] [5, 47, 48, 49, 50, 51, 52, 53] rfl VT.mix (by kernel_rfl) (by kernel_rfl) ?_
          refine DrawP_consL (acc' := [_]) (eqRes _) (goodS rfl rfl ⟨(fun γ => Needs_f (by kernel_rfl) (fun r8 h8 => Needs_nil (vopT rfl (V_fieldAddr VT.fa59_0 h8 ⟨rfl, rfl⟩)))), trivial⟩) rfl ?_
          refine DrawP_consL (acc' := [_, _]) (eqRes _) (goodS rfl rfl ⟨(fun γ => Needs_w 0 (by kernel_rfl) rfl (fun r47 h47 => Needs_nil (vopT rfl (V_load 0 VT.ty9 h47 rfl rfl ⟨rfl, rfl⟩)))), trivial⟩) rfl ?_
          refine DrawP_consL (acc' := [_, _, _]) (eqRes _) (goodS rfl rfl ⟨(fun γ => Needs_f (by kernel_rfl) (fun r8 h8 => Needs_nil (vopT rfl (V_fieldAddr VT.fa59_1 h8 ⟨rfl, rfl⟩)))), trivial⟩) rfl ?_
          refine DrawP_consL (acc' := [_, _, _, _]) (eqRes _) (goodS rfl rfl ⟨(fun γ => Needs_w 2 (by kernel_rfl) rfl (fun r49 h49 => Needs_nil (vopT rfl (V_load 0 VT.ty57 h49 rfl rfl ⟨rfl, rfl⟩)))), trivial⟩) rfl ?_
          refine DrawP_consL (acc' := [_, _, _, _, _]) (eqRes _) (goodS rfl rfl ⟨(fun γ => Needs_w 3 (by kernel_rfl) rfl (fun r50 h50 => Needs_nil (vopT rfl (V_lenN (n := e.args.length) Try.underlying57 h50 (by simp) (fun hl51 => ⟨rfl, rfl⟩))))), trivial⟩) rfl ?_
          refine DrawP_consL (acc' := [_, _, _, _, _, _]) (eqRes _) (goodS rfl rfl ⟨(fun γ => Needs_w 4 (by kernel_rfl) rfl (fun r51 h51 => Needs_nil (vopT rfl (V_callP [.tmp 51] rfl (evs_cons h51 evs_nil) VT.en49 (anys_c e.args.length (hb e (List.mem_of_getElem? hc))) ⟨rfl, rfl⟩)))), trivial⟩) rfl ?_
          refine DrawP_consL (acc' := [_, _, _, _, _, _, _]) (eqRes _) (goodS rfl rfl ⟨(fun γ => Needs_w 1 (by kernel_rfl) rfl (fun r48 h48 => Needs_w 5 (by kernel_rfl) rfl (fun r52 h52 => Needs_nil (vopT rfl (V_build [0, 1, 3] [.const (.int .i64 (3)), .tmp 48, .tmp 52] VT.st30 rfl rfl (evs_cons rfl (evs_cons h48 (evs_cons h52 evs_nil))) rfl ⟨rfl, rfl⟩))))), trivial⟩) rfl ?_
          refine DrawP_consL (acc' := [_, _, _, _, _, _, _, _]) anyRes (goodU1 rfl (fun γ => Needs_f (by kernel_rfl) (fun r4 h4 => Needs_w 6 (by kernel_rfl) rfl (fun r53 h53 => Needs_nil (vopT rfl (V_store_agg 1 VT.ty30 h4 h53 rfl rfl rfl ⟨default, trivial, rfl⟩)))))) rfl ?_
          refine DrawP_consL (acc' := [_, _, _, _, _, _, _, _, _]) (eqRes _) (goodS rfl rfl ⟨(fun γ => Needs_nil (vopT rfl (V_assign rfl ⟨rfl, rfl⟩))), trivial⟩) rfl ?_
          refine DrawP_nil (fun γ => Needs_w 8 (by kernel_rfl) rfl (fun r5 h5 => Needs_nil ?_))
          have e5 : r5 = some _ := h5
          subst e5
          clear h5
          refine Then_n ?_
          refine VW_ret ?_
          refine InBlock_r (Then_r (Then_r (InBlock_r (Then_r (VRet_many rfl rfl (.cons (.agg (i := 1) VT.ty30 rfl rfl rfl) (.cons (.tmp rfl) (.nil))) ?_)))))
          refine ⟨_, Drops.drop (Drops.drop (Drops.refl _)), ?_, rfl⟩
          have hfd : D.cons.find? (lacks (p :: tl)) = some e := by rw [← hq, drop_cons hc, List.find?_cons, hlk]
          simp only [absentF, if_neg h17, consAt, ht, hD, hfd]
          rfl
        · skip
          have hlk : lacks (p :: tl) e = false := by unfold lacks; rw [h46]; rfl
          refine VW_skip ?_
          refine InBlock_n (Then_n ?_)
          refine VW_region ?_
          refine VOps_cons rfl rfl (V_add rfl rfl (by omega) ?_)
          refine VOps_cons rfl rfl (V_move rfl ?_)
          refine VOps_nil ?_
          refine Then_n ?_
          exact ⟨k + 1, (by (try simp only []); omega), ⟨by omega, by rw [← hq, drop_cons hc, List.find?_cons, hlk]⟩, ⟨rfl, rfl, rfl, rfl, rfl, trivial⟩, (Drops.drop (Drops.keep (Drops.keep (Drops.refl _))))⟩
      · skip
        have hke : k = D.cons.length := by omega
        subst hke
        rw [List.drop_length] at hq
        refine VW_exit ?_
        refine Then_e (Then_e (InBlock_hit ?_))
        refine Then_n ?_
        refine VW_seq ?_
        refine VW_region ?_
        refine VOps_cons rfl rfl (VOp_as (V_build [] [] VT.st30 rfl rfl rfl rfl ⟨rfl, rfl⟩) (any_le) ?_)
        refine VOps_cons rfl rfl (V_store_agg 0 VT.ty30 rfl rfl rfl rfl rfl ?_)
        refine VOps_cons rfl rfl (V_assign rfl ?_)
        refine VOps_nil ?_
        refine Then_n ?_
        refine VW_ret ?_
        refine VRet_many rfl rfl (.cons (.agg (i := 0) VT.ty30 rfl rfl rfl) (.cons (.tmp rfl) (.nil))) ?_
        refine ⟨_, Drops.drop (Drops.refl _), ?_, rfl⟩
        have hfd : D.cons.find? (lacks (p :: tl)) = none := hq.symm
        simp only [absentF, if_neg h17, consAt, ht, hD, hfd]
        rfl


end Go.Proofs.Ytmjeaagpcmfnpaa.W5
