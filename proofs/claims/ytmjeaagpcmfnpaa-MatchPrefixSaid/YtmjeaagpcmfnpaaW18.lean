/- Walks, printed by walk.py. -/
import Derived.Test.YtmjeaagpcmfnpaaVT
import Derived.Test.YtmjeaagpcmfnpaaVDA
import Derived.Test.YtmjeaagpcmfnpaaVB
import Derived.Test.YtmjeaagpcmfnpaaVD9
import Derived.Test.YtmjeaagpcmfnpaaW16
set_option linter.unusedVariables false
set_option linter.unusedSimpArgs false
namespace Go.Proofs.Ytmjeaagpcmfnpaa.W18
open Go.VL Go.PM Go.Proofs.Ytmjeaagpcmfnpaa Go.Proofs.Ytmjeaagpcmfnpaa.W16

theorem flatten_le {α : Type} {rows : List (List α)} {k : Nat} {r : List α} (h : rows[k]? = some r) : (rows.take k).flatten.length + r.length ≤ rows.flatten.length := by
  have h1 : (rows.take (k + 1)).flatten.length ≤ rows.flatten.length := by
    conv => rhs; rw [← List.take_append_drop (k + 1) rows, List.flatten_append, List.length_append]
    omega
  rw [take_snoc h, List.flatten_append, List.length_append] at h1
  simpa using h1

set_option maxRecDepth 100000 in
set_option maxHeartbeats 4000000 in
theorem hasCon_c (r : MRow) (k : Nat) (g7 g12 g11 : Nat) (c : ConSig) (h : k < r.2.length) : VKeep Try.prog 57 [mrowX r, .ptr g7 0, .ptr g12 0] [.cells g7 3 [.int k], .cells g12 98 [.clo (.func 55) [.ptr g11 0]], .cells g11 59 [.str c.name, .sl 4 none c.args]] (.bool (!free (r.2.getD k anyP) && isCon c.name (r.2.getD k anyP))) := by
  obtain ⟨p, hp⟩ := get_of_lt r.2 k (by omega)
  have hg : r.2.getD k anyP = p := by simp [hp]
  rw [hg]
  refine VCalls_drops ?_
  refine V_start (nt := 21) Try.func57 rfl rfl rfl ?_
  refine VW_seq ?_
  refine VW_region ?_
  refine VOps_cons rfl rfl (V_box rfl rfl (fun g3 => ?_))
  refine VOps_cons rfl rfl (V_assign rfl ?_)
  refine VOps_nil ?_
  refine Then_n ?_
  refine VW_seq ?_
  rcases Bool.eq_false_or_eq_true ((!free p)) with hq12 | hq12
  · skip
    refine VW_draw (G := Unit) [([], [3], []), ([0], [5], []), ([], [1], []), ([2, 1, 0], [6, 7], []), ([3, 2, 1, 0], [8], []), ([4, 3, 2, 1, 0], [9], []), ([5, 4, 3, 2, 1, 0], [10], []), ([6, 5, 4, 3, 2, 1, 0], [11], []), ([7, 6, 5, 4, 3, 2, 1, 0], [2, 12], []), ([7, 6, 5, 4, 3, 2, 1, 0], [3, 12], []), ([9, 7, 6, 5, 4, 3, 2, 1, 0], [14, 12], []), ([7, 6, 5, 4, 3, 2, 1, 0], [1, 12], []), ([11, 10, 9, 7, 6, 5, 4, 3, 2, 1, 0], [15, 16, 12], []), ([12, 11, 10, 9, 7, 6, 5, 4, 3, 2, 1, 0], [17, 12], []), ([13, 12, 11, 10, 9, 8, 7, 6, 5, 4, 3, 2, 1, 0], [13, 18, 12], []), ([14, 13, 12, 11, 10, 9, 8, 7, 6, 5, 4, 3, 2, 1, 0], [12, 19], []), ([15, 14, 13, 12, 11, 10, 9, 8, 7, 6, 5, 4, 3, 2, 1, 0], [20], [])] [] (constSt _) [4] [4, 5, 6, 7, 8, 9, 10, 11, 12, 13, 14, 15, 16, 17, 18, 19, 20] rfl VT.mix (by kernel_rfl) (by kernel_rfl) ?_
    refine DrawP_consL (acc' := [_]) (eqRes _) (good0 (fun γ => Needs_f (by kernel_rfl) (fun r3 h3 => Needs_nil (vopT rfl (V_fieldAddr VT.fa80_1 h3 ⟨rfl, rfl⟩))))) rfl ?_
    refine DrawP_consL (acc' := [_, _]) (eqRes _) (good0 (fun γ => Needs_w 0 (by kernel_rfl) rfl (fun r5 h5 => Needs_nil (vopT rfl (V_load 0 VT.ty25 h5 rfl rfl ⟨rfl, rfl⟩))))) rfl ?_
    refine DrawP_consL (acc' := [_, _, _]) (eqRes _) (good0 (fun γ => Needs_f (by kernel_rfl) (fun r1 h1 => Needs_nil (vopT rfl (V_load 1 VT.ty3 h1 rfl rfl ⟨rfl, rfl⟩))))) rfl ?_
    refine DrawP_consL (acc' := [_, _, _, _]) (epRes _) (good0 (fun γ => Needs_w 1 (by kernel_rfl) rfl (fun r6 h6 => Needs_w 2 (by kernel_rfl) rfl (fun r7 h7 => Needs_nil (vopT rfl (V_indexAddr (el := patX p) VT.sl25 h6 h7 (by omega) (get_patS hp) (fun a8 => ⟨⟨_, rfl⟩, rfl⟩))))))) rfl ?_
    refine DrawP_consL (acc' := [_, _, _, _, _]) (eqRes _) (good0 (fun γ => Needs_w 3 (by kernel_rfl) rfl (fun r8 h8 => Needs_nil (epE h8 (fun a_8 e8 => vopT rfl (V_load_ep_agg VT.ty30 e8 rfl ⟨rfl, rfl⟩)))))) rfl ?_
    refine DrawP_consL (acc' := [_, _, _, _, _, _]) (eqRes _) (good0 (fun γ => Needs_w 4 (by kernel_rfl) rfl (fun r9 h9 => Needs_nil (vopT rfl (V_callP [.tmp 9] rfl (evs_cons h9 evs_nil) VT.en53 (mfree_c p) ⟨rfl, rfl⟩))))) rfl ?_
    refine DrawP_consL (acc' := [_, _, _, _, _, _, _]) (eqRes _) (good0 (fun γ => Needs_w 5 (by kernel_rfl) rfl (fun r10 h10 => Needs_nil (vopT rfl (V_not h10 ⟨rfl, rfl⟩))))) rfl ?_
    refine DrawP_consL (acc' := [_, _, _, _, _, _, _, _]) (eqRes _) (good0 (fun γ => Needs_w 6 (by kernel_rfl) rfl (fun r11 h11 => Needs_nil (vopT rfl (V_move h11 ⟨rfl, rfl⟩))))) rfl ?_
    refine DrawP_consL (acc' := [_, _, _, _, _, _, _, _, _]) (eqRes _) (good0 (fun γ => Needs_f (by kernel_rfl) (fun r2 h2 => Needs_w 7 (by kernel_rfl) rfl (fun r12 h12 => Needs_nil (vopT (want_of rfl rfl h12 hq12) (V_load 2 VT.ty98 h2 rfl rfl ⟨rfl, rfl⟩)))))) rfl ?_
    refine DrawP_consL (acc' := [_, _, _, _, _, _, _, _, _, _]) (eqRes _) (good0 (fun γ => Needs_f (by kernel_rfl) (fun r3 h3 => Needs_w 7 (by kernel_rfl) rfl (fun r12 h12 => Needs_nil (vopT (want_of rfl rfl h12 hq12) (V_fieldAddr VT.fa80_1 h3 ⟨rfl, rfl⟩)))))) rfl ?_
    refine DrawP_consL (acc' := [_, _, _, _, _, _, _, _, _, _, _]) (eqRes _) (good0 (fun γ => Needs_w 9 (by kernel_rfl) rfl (fun r14 h14 => Needs_w 7 (by kernel_rfl) rfl (fun r12 h12 => Needs_nil (vopT (want_of rfl rfl h12 hq12) (V_load 0 VT.ty25 h14 rfl rfl ⟨rfl, rfl⟩)))))) rfl ?_
    refine DrawP_consL (acc' := [_, _, _, _, _, _, _, _, _, _, _, _]) (eqRes _) (good0 (fun γ => Needs_f (by kernel_rfl) (fun r1 h1 => Needs_w 7 (by kernel_rfl) rfl (fun r12 h12 => Needs_nil (vopT (want_of rfl rfl h12 hq12) (V_load 1 VT.ty3 h1 rfl rfl ⟨rfl, rfl⟩)))))) rfl ?_
    refine DrawP_consL (acc' := [_, _, _, _, _, _, _, _, _, _, _, _, _]) (epRes _) (good0 (fun γ => Needs_w 10 (by kernel_rfl) rfl (fun r15 h15 => Needs_w 11 (by kernel_rfl) rfl (fun r16 h16 => Needs_w 7 (by kernel_rfl) rfl (fun r12 h12 => Needs_nil (vopT (want_of rfl rfl h12 hq12) (V_indexAddr (el := patX p) VT.sl25 h15 h16 (by omega) (get_patS hp) (fun a17 => ⟨⟨_, rfl⟩, rfl⟩)))))))) rfl ?_
    refine DrawP_consL (acc' := [_, _, _, _, _, _, _, _, _, _, _, _, _, _]) (eqRes _) (good0 (fun γ => Needs_w 12 (by kernel_rfl) rfl (fun r17 h17 => Needs_w 7 (by kernel_rfl) rfl (fun r12 h12 => Needs_nil (epE h17 (fun a_17 e17 => vopT (want_of rfl rfl h12 hq12) (V_load_ep_agg VT.ty30 e17 rfl ⟨rfl, rfl⟩))))))) rfl ?_
    refine DrawP_consL (acc' := [_, _, _, _, _, _, _, _, _, _, _, _, _, _, _]) (eqRes _) (good0 (fun γ => Needs_w 8 (by kernel_rfl) rfl (fun r13 h13 => Needs_w 13 (by kernel_rfl) rfl (fun r18 h18 => Needs_w 7 (by kernel_rfl) rfl (fun r12 h12 => Needs_nil (vopT (want_of rfl rfl h12 hq12) (V_callCloK 3 [.tmp 18] h13 rfl (evs_cons h18 evs_nil) VT.en55 rfl (isCon_c p c g11) ⟨rfl, rfl⟩))))))) rfl ?_
    refine DrawP_consL (acc' := [_, _, _, _, _, _, _, _, _, _, _, _, _, _, _, _]) (eqRes _) (good0 (fun γ => Needs_w 7 (by kernel_rfl) rfl (fun r12 h12 => Needs_w 14 (by kernel_rfl) rfl (fun r19 h19 => Needs_nil (vopT rfl (V_pickT h12 hq12 h19 ⟨rfl, rfl⟩)))))) rfl ?_
    refine DrawP_consL (acc' := [_, _, _, _, _, _, _, _, _, _, _, _, _, _, _, _, _]) (eqRes _) (good0 (fun γ => Needs_w 15 (by kernel_rfl) rfl (fun r20 h20 => Needs_nil (vopT rfl (V_assign h20 ⟨rfl, rfl⟩))))) rfl ?_
    refine DrawP_nil (fun γ => Needs_w 16 (by kernel_rfl) rfl (fun r4 h4 => Needs_nil ?_))
    have e4 : r4 = some _ := h4
    subst e4
    clear h4
    refine Then_n ?_
    refine VW_ret ?_
    refine VRet_one rfl (.tmp rfl) ?_
    exact ⟨_, Drops.drop (Drops.refl _), congrArg V.bool (by rw [hq12]; rfl), rfl⟩
  · skip
    refine VW_draw (G := Unit) [([], [3], []), ([0], [5], []), ([], [1], []), ([2, 1, 0], [6, 7], []), ([3, 2, 1, 0], [8], []), ([4, 3, 2, 1, 0], [9], []), ([5, 4, 3, 2, 1, 0], [10], []), ([6, 5, 4, 3, 2, 1, 0], [11], []), ([7, 6, 5, 4, 3, 2, 1, 0], [2, 12], []), ([7, 6, 5, 4, 3, 2, 1, 0], [3, 12], []), ([9, 7, 6, 5, 4, 3, 2, 1, 0], [14, 12], []), ([7, 6, 5, 4, 3, 2, 1, 0], [1, 12], []), ([11, 10, 9, 7, 6, 5, 4, 3, 2, 1, 0], [15, 16, 12], []), ([12, 11, 10, 9, 7, 6, 5, 4, 3, 2, 1, 0], [17, 12], []), ([13, 12, 11, 10, 9, 8, 7, 6, 5, 4, 3, 2, 1, 0], [13, 18, 12], []), ([14, 13, 12, 11, 10, 9, 8, 7, 6, 5, 4, 3, 2, 1, 0], [12, 19], []), ([15, 14, 13, 12, 11, 10, 9, 8, 7, 6, 5, 4, 3, 2, 1, 0], [20], [])] [] (constSt _) [4] [4, 5, 6, 7, 8, 9, 10, 11, 12, 13, 14, 15, 16, 17, 18, 19, 20] rfl VT.mix (by kernel_rfl) (by kernel_rfl) ?_
    refine DrawP_consL (acc' := [_]) (eqRes _) (good0 (fun γ => Needs_f (by kernel_rfl) (fun r3 h3 => Needs_nil (vopT rfl (V_fieldAddr VT.fa80_1 h3 ⟨rfl, rfl⟩))))) rfl ?_
    refine DrawP_consL (acc' := [_, _]) (eqRes _) (good0 (fun γ => Needs_w 0 (by kernel_rfl) rfl (fun r5 h5 => Needs_nil (vopT rfl (V_load 0 VT.ty25 h5 rfl rfl ⟨rfl, rfl⟩))))) rfl ?_
    refine DrawP_consL (acc' := [_, _, _]) (eqRes _) (good0 (fun γ => Needs_f (by kernel_rfl) (fun r1 h1 => Needs_nil (vopT rfl (V_load 1 VT.ty3 h1 rfl rfl ⟨rfl, rfl⟩))))) rfl ?_
    refine DrawP_consL (acc' := [_, _, _, _]) (epRes _) (good0 (fun γ => Needs_w 1 (by kernel_rfl) rfl (fun r6 h6 => Needs_w 2 (by kernel_rfl) rfl (fun r7 h7 => Needs_nil (vopT rfl (V_indexAddr (el := patX p) VT.sl25 h6 h7 (by omega) (get_patS hp) (fun a8 => ⟨⟨_, rfl⟩, rfl⟩))))))) rfl ?_
    refine DrawP_consL (acc' := [_, _, _, _, _]) (eqRes _) (good0 (fun γ => Needs_w 3 (by kernel_rfl) rfl (fun r8 h8 => Needs_nil (epE h8 (fun a_8 e8 => vopT rfl (V_load_ep_agg VT.ty30 e8 rfl ⟨rfl, rfl⟩)))))) rfl ?_
    refine DrawP_consL (acc' := [_, _, _, _, _, _]) (eqRes _) (good0 (fun γ => Needs_w 4 (by kernel_rfl) rfl (fun r9 h9 => Needs_nil (vopT rfl (V_callP [.tmp 9] rfl (evs_cons h9 evs_nil) VT.en53 (mfree_c p) ⟨rfl, rfl⟩))))) rfl ?_
    refine DrawP_consL (acc' := [_, _, _, _, _, _, _]) (eqRes _) (good0 (fun γ => Needs_w 5 (by kernel_rfl) rfl (fun r10 h10 => Needs_nil (vopT rfl (V_not h10 ⟨rfl, rfl⟩))))) rfl ?_
    refine DrawP_consL (acc' := [_, _, _, _, _, _, _, _]) (eqRes _) (good0 (fun γ => Needs_w 6 (by kernel_rfl) rfl (fun r11 h11 => Needs_nil (vopT rfl (V_move h11 ⟨rfl, rfl⟩))))) rfl ?_
    refine DrawP_consL (acc' := [_, _, _, _, _, _, _, _, _]) anyRes (good0 (fun γ => Needs_f (by kernel_rfl) (fun r2 h2 => Needs_w 7 (by kernel_rfl) rfl (fun r12 h12 => Needs_nil (vopF (skip_of rfl rfl h12 hq12) ⟨trivial, rfl⟩))))) rfl ?_
    refine DrawP_consL (acc' := [_, _, _, _, _, _, _, _, _, _]) anyRes (good0 (fun γ => Needs_f (by kernel_rfl) (fun r3 h3 => Needs_w 7 (by kernel_rfl) rfl (fun r12 h12 => Needs_nil (vopF (skip_of rfl rfl h12 hq12) ⟨trivial, rfl⟩))))) rfl ?_
    refine DrawP_consL (acc' := [_, _, _, _, _, _, _, _, _, _, _]) anyRes (good0 (fun γ => Needs_w 9 (by kernel_rfl) rfl (fun r14 h14 => Needs_w 7 (by kernel_rfl) rfl (fun r12 h12 => Needs_nil (vopF (skip_of rfl rfl h12 hq12) ⟨trivial, rfl⟩))))) rfl ?_
    refine DrawP_consL (acc' := [_, _, _, _, _, _, _, _, _, _, _, _]) anyRes (good0 (fun γ => Needs_f (by kernel_rfl) (fun r1 h1 => Needs_w 7 (by kernel_rfl) rfl (fun r12 h12 => Needs_nil (vopF (skip_of rfl rfl h12 hq12) ⟨trivial, rfl⟩))))) rfl ?_
    refine DrawP_consL (acc' := [_, _, _, _, _, _, _, _, _, _, _, _, _]) anyRes (good0 (fun γ => Needs_w 10 (by kernel_rfl) rfl (fun r15 h15 => Needs_w 11 (by kernel_rfl) rfl (fun r16 h16 => Needs_w 7 (by kernel_rfl) rfl (fun r12 h12 => Needs_nil (vopF (skip_of rfl rfl h12 hq12) ⟨trivial, rfl⟩)))))) rfl ?_
    refine DrawP_consL (acc' := [_, _, _, _, _, _, _, _, _, _, _, _, _, _]) anyRes (good0 (fun γ => Needs_w 12 (by kernel_rfl) rfl (fun r17 h17 => Needs_w 7 (by kernel_rfl) rfl (fun r12 h12 => Needs_nil (vopF (skip_of rfl rfl h12 hq12) ⟨trivial, rfl⟩))))) rfl ?_
    refine DrawP_consL (acc' := [_, _, _, _, _, _, _, _, _, _, _, _, _, _, _]) anyRes (good0 (fun γ => Needs_w 8 (by kernel_rfl) rfl (fun r13 h13 => Needs_w 13 (by kernel_rfl) rfl (fun r18 h18 => Needs_w 7 (by kernel_rfl) rfl (fun r12 h12 => Needs_nil (vopF (skip_of rfl rfl h12 hq12) ⟨trivial, rfl⟩)))))) rfl ?_
    refine DrawP_consL (acc' := [_, _, _, _, _, _, _, _, _, _, _, _, _, _, _, _]) (eqRes _) (good0 (fun γ => Needs_w 7 (by kernel_rfl) rfl (fun r12 h12 => Needs_w 14 (by kernel_rfl) rfl (fun r19 h19 => Needs_nil (vopT rfl (V_pickF h12 hq12 rfl ⟨rfl, rfl⟩)))))) rfl ?_
    refine DrawP_consL (acc' := [_, _, _, _, _, _, _, _, _, _, _, _, _, _, _, _, _]) (eqRes _) (good0 (fun γ => Needs_w 15 (by kernel_rfl) rfl (fun r20 h20 => Needs_nil (vopT rfl (V_assign h20 ⟨rfl, rfl⟩))))) rfl ?_
    refine DrawP_nil (fun γ => Needs_w 16 (by kernel_rfl) rfl (fun r4 h4 => Needs_nil ?_))
    have e4 : r4 = some _ := h4
    subst e4
    clear h4
    refine Then_n ?_
    refine VW_ret ?_
    refine VRet_one rfl (.tmp rfl) ?_
    exact ⟨_, Drops.drop (Drops.refl _), congrArg V.bool (by rw [hq12]; rfl), rfl⟩


end Go.Proofs.Ytmjeaagpcmfnpaa.W18
