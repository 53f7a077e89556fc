/- Walks, printed by walk.py. -/
import Derived.Test.YtmjeaagpcmfnpaaVT
import Derived.Test.YtmjeaagpcmfnpaaVDA
import Derived.Test.YtmjeaagpcmfnpaaVB
import Derived.Test.YtmjeaagpcmfnpaaVPA
import Derived.Test.YtmjeaagpcmfnpaaW1
import Derived.Test.YtmjeaagpcmfnpaaW2
import Derived.Test.YtmjeaagpcmfnpaaW3
import Derived.Test.YtmjeaagpcmfnpaaW4
import Derived.Test.YtmjeaagpcmfnpaaW5
import Derived.Test.YtmjeaagpcmfnpaaW6
set_option linter.unusedVariables false
set_option linter.unusedSimpArgs false
namespace Go.Proofs.Ytmjeaagpcmfnpaa.W12
open Go.VL Go.PM Go.Proofs.Ytmjeaagpcmfnpaa Go.Proofs.Ytmjeaagpcmfnpaa.W1 Go.Proofs.Ytmjeaagpcmfnpaa.W2 Go.Proofs.Ytmjeaagpcmfnpaa.W3 Go.Proofs.Ytmjeaagpcmfnpaa.W4 Go.Proofs.Ytmjeaagpcmfnpaa.W5 Go.Proofs.Ytmjeaagpcmfnpaa.W6
set_option maxHeartbeats 4000000
theorem left_snoc (n : Int) (l : List (List Pat)) (p : Pat) (tl : List Pat) : leftF n (l ++ [p :: tl]) = leftF n l ++ (if (free p || decide (p.n = n)) = true then [tl] else []) := by
  unfold leftF
  rw [List.filterMap_append]
  by_cases h : (free p || decide (p.n = n)) = true
  · simp only [List.filterMap_cons, List.filterMap_nil, if_pos h]
  · simp only [List.filterMap_cons, List.filterMap_nil, if_neg h]

set_option maxRecDepth 100000 in
set_option maxHeartbeats 4000000 in
theorem useful_step (ds : List DataSig) (t : Tab) (g : Nat) (hok : TabOk t ds) (f : Nat) (hc : f ≤ 400000) (ih : ∀ rows row τs, UsePre t f rows row τs → VKeep Try.prog 29 [tabX ds g, rowsX rows, patsX row] [tabO g t] (.bool (usefulF t ds f rows row))) (rows : List (List Pat)) (row0 : List Pat) (τs : List Ty) (hp : UsePre t (f + 1) rows row0 τs) : VKeep Try.prog 29 [tabX ds g, rowsX rows, patsX row0] [tabO g t] (.bool (usefulF t ds (f + 1) rows row0)) := by
  obtain ⟨hT, hR, hl, hf⟩ := hp
  refine VCalls_drops ?_
  refine V_start (nt := 138) Try.func29 rfl rfl rfl ?_
  refine VW_seq ?_
  refine VW_region ?_
  refine VOps_cons rfl rfl (V_box rfl rfl (fun g3 => ?_))
  refine VOps_cons rfl rfl (V_assign rfl ?_)
  refine VOps_nil ?_
  refine Then_n ?_
  refine VW_seq ?_
  refine VW_seq ?_
  refine VW_region ?_
  refine VOps_cons rfl rfl (V_move rfl ?_)
  refine VOps_cons rfl rfl (V_lenN (n := row0.length) Try.underlying25 rfl (by simp) (fun hl18 => ?_))
  refine VOps_cons rfl rfl (V_bin rfl rfl rfl ?_)
  refine VOps_nil ?_
  refine Then_n ?_
  refine VW_condEq rfl (fun h19 => ?_) (fun h19 => ?_)
  · skip
    obtain rfl : row0 = [] := by cases row0 with | nil => rfl | cons a b => simp at h19; omega
    refine VW_seq ?_
    refine VW_region ?_
    refine VOps_cons rfl rfl (V_move rfl ?_)
    refine VOps_cons rfl rfl (V_lenN (n := rows.length) Try.underlying23 rfl (by simp) (fun hl21 => ?_))
    refine VOps_cons rfl rfl (V_bin rfl rfl rfl ?_)
    refine VOps_cons rfl rfl (V_assign rfl ?_)
    refine VOps_nil ?_
    refine Then_n ?_
    refine VW_ret ?_
    refine Then_r (VRet_one rfl (.tmp rfl) ?_)
    exact ⟨_, Drops.drop (Drops.refl _), rfl, rfl⟩
  · skip
    obtain ⟨p, row, rfl⟩ : ∃ p row, row0 = p :: row := by cases row0 with | nil => exact absurd rfl h19 | cons a b => exact ⟨a, b, rfl⟩
    obtain ⟨τ, σs, rfl⟩ : ∃ τ σs, τs = τ :: σs := by cases τs with | nil => exact hR.elim | cons a b => exact ⟨a, b, rfl⟩
    obtain ⟨hRp, hRr⟩ := hR
    simp only [List.length_cons, wL] at hf
    have hrowl := hRr.len
    have hne := rowsT.ne hT
    have hr1 : ∀ r ∈ rows, r.length ≤ 500000 := fun r hr => by rw [(hT r hr).len, List.length_cons]; omega
    have hh : ∀ p tl, first rows = p :: tl → p.kind ≠ 2 → ∃ c D, tget t p.name = some c ∧ ds[c.1]? = some D ∧ D.cons.length ≤ 1000 ∧ ∀ k ∈ D.cons, k.args.length * 56 ≤ 140737488355328 := fun p tl h k => by obtain ⟨d, f2, a, D, _, _, h1, h2⟩ := first_head hok hT h k; exact ⟨_, D, h1, h2, hok.small d D h2⟩
    have hfl := first_len rows
    have hrl := rest_len rows
    have hrw := rest_w rows
    have hrT := rowsT.rest hT
    have hlw := fun n => left_w n rows
    refine VW_skip ?_
    refine Then_n ?_
    refine VW_seq ?_
    refine VW_seq ?_
    refine VW_region ?_
    refine VOps_cons rfl rfl (V_move rfl ?_)
    refine VOps_cons rfl rfl (V_indexAddr (el := patX p) VT.sl25 rfl rfl (by omega) (get_patS rfl) (fun a24 => ?_))
    refine VOps_cons rfl rfl (V_fieldAddr_ep VT.fa30_0 rfl rfl ?_)
    refine VOps_cons rfl rfl (V_load_ep VT.ty3 rfl rfl ?_)
    refine VOps_nil ?_
    refine Then_n ?_
    refine VW_block ?_
    refine VW_seq ?_
    refine VW_region ?_
    refine VOps_cons rfl rfl (V_bin rfl rfl rfl ?_)
    refine VOps_cons rfl rfl (V_assign rfl ?_)
    refine VOps_nil ?_
    refine Then_n ?_
    refine VW.weaken (F' := [(1, some _), (2, some _), (3, some _), (6, some _), (26, some _), (27, some _)]) ⟨rfl, rfl, rfl, rfl, rfl, rfl, trivial⟩ (.refl _) ?_
    refine VW_condEq rfl (fun h27 => ?_) (fun h27 => ?_)
    · skip
      obtain ⟨d, fT, a, rfl, hta, hpa, hfp⟩ := con_ty hRp h27
      have hwp := wP_con hfp
      have hnw := narrow_w p.name p.args.length rows
      have hnl := narrow_len p.name p.args.length rows
      have hal := argT_len (fT p.name) p.args.length
      have hih := ih _ _ _ ⟨hT.narrow hta, (rowT.args hRp hfp).append hRr, by omega, by rw [List.length_append, hal, wL_append]; omega⟩
      have hr2 := rowsT.args_le hT
      refine VW_seq ?_
      refine VW_draw (G := Unit) [([], [3], []), ([0], [29], []), ([], [2], []), ([2], [31], []), ([3, 2], [32], []), ([4, 3, 2], [33], []), ([5, 4, 3, 2, 1, 0], [30, 34], []), ([6, 5, 4, 3, 2, 1, 0], [35], []), ([7, 6, 5, 4, 3, 2, 1, 0], [36], [])] [] (constSt _) [7] [7, 29, 30, 31, 32, 33, 34, 35, 36] rfl VT.mix (by kernel_rfl) (by kernel_rfl) ?_
      refine DrawP_consL (acc' := [_]) (eqRes _) (good0 (fun γ => Needs_f (by kernel_rfl) (fun r3 h3 => Needs_nil (vopT rfl (V_fieldAddr VT.fa65_1 h3 ⟨rfl, rfl⟩))))) rfl ?_
      refine DrawP_consL (acc' := [_, _]) (eqRes _) (good0 (fun γ => Needs_w 0 (by kernel_rfl) rfl (fun r29 h29 => Needs_nil (vopT rfl (V_load 0 VT.ty63 h29 rfl rfl ⟨rfl, rfl⟩))))) rfl ?_
      refine DrawP_consL (acc' := [_, _, _]) (eqRes _) (good0 (fun γ => Needs_f (by kernel_rfl) (fun r2 h2 => Needs_nil (vopT rfl (V_move h2 ⟨rfl, rfl⟩))))) rfl ?_
      refine DrawP_consL (acc' := [_, _, _, _]) (epRes _) (good0 (fun γ => Needs_w 2 (by kernel_rfl) rfl (fun r31 h31 => Needs_nil (vopT rfl (V_indexAddr (el := patX p) VT.sl25 h31 rfl (by omega) (get_patS rfl) (fun a32 => ⟨⟨_, rfl⟩, rfl⟩)))))) rfl ?_
      refine DrawP_consL (acc' := [_, _, _, _, _]) (epRes _) (good0 (fun γ => Needs_w 3 (by kernel_rfl) rfl (fun r32 h32 => Needs_nil (epE h32 (fun a_32 e32 => vopT rfl (V_fieldAddr_ep VT.fa30_1 e32 rfl ⟨⟨_, rfl⟩, rfl⟩)))))) rfl ?_
      refine DrawP_consL (acc' := [_, _, _, _, _, _]) (eqRes _) (good0 (fun γ => Needs_w 4 (by kernel_rfl) rfl (fun r33 h33 => Needs_nil (epE h33 (fun a_33 e33 => vopT rfl (V_load_ep VT.ty9 e33 rfl ⟨rfl, rfl⟩)))))) rfl ?_
      refine DrawP_consL (acc' := [_, _, _, _, _, _, _]) (eqRes _) (good0 (fun γ => Needs_w 1 (by kernel_rfl) rfl (fun r30 h30 => Needs_w 5 (by kernel_rfl) rfl (fun r34 h34 => Needs_nil (vopT rfl (V_lookup1 1 Try.underlying63 (key_str Try.underlying9) VT.zr95 h30 h34 rfl (by rw [kget_tab, hta]; rfl) ⟨rfl, rfl⟩)))))) rfl ?_
      refine DrawP_consL (acc' := [_, _, _, _, _, _, _, _]) (eqRes _) (good0 (fun γ => Needs_w 6 (by kernel_rfl) rfl (fun r35 h35 => Needs_nil (vopT rfl (V_field (x := 0) VT.fa95_2 h35 rfl ⟨rfl, rfl⟩))))) rfl ?_
      refine DrawP_consL (acc' := [_, _, _, _, _, _, _, _, _]) (eqRes _) (good0 (fun γ => Needs_w 7 (by kernel_rfl) rfl (fun r36 h36 => Needs_nil (vopT rfl (V_assign h36 ⟨rfl, rfl⟩))))) rfl ?_
      refine DrawP_nil (fun γ => Needs_w 8 (by kernel_rfl) rfl (fun r7 h7 => Needs_nil ?_))
      have e7 : r7 = some _ := h7
      subst e7
      clear h7
      refine Then_n ?_
      refine VW_seq ?_
      refine VW_draw (G := Unit) [([], [3], []), ([], [1], []), ([], [2], []), ([2], [39], []), ([3, 2], [40], []), ([4, 3, 2], [41], []), ([], [7], []), ([6, 5, 4, 3, 2, 1], [38, 42, 43], []), ([], [2], []), ([8], [45], []), ([9, 8], [46], []), ([10, 9, 8], [47], []), ([], [2], []), ([12], [49], []), ([13, 12, 11, 10, 9, 8], [48, 50], []), ([14, 13, 12, 11, 10, 9, 8, 7, 6, 5, 4, 3, 2, 1], [51], []), ([15, 14, 13, 12, 11, 10, 9, 8, 7, 6, 5, 4, 3, 2, 1, 0], [37, 44, 52], []), ([16, 15, 14, 13, 12, 11, 10, 9, 8, 7, 6, 5, 4, 3, 2, 1, 0], [53], [])] [] (constSt _) [6] [6, 37, 38, 39, 40, 41, 42, 43, 44, 45, 46, 47, 48, 49, 50, 51, 52, 53] rfl VT.mix (by kernel_rfl) (by kernel_rfl) ?_
      refine DrawP_consL (acc' := [_]) (eqRes _) (good0 (fun γ => Needs_f (by kernel_rfl) (fun r3 h3 => Needs_nil (vopT rfl (V_load_agg 0 VT.ty65 h3 rfl rfl ⟨rfl, rfl⟩))))) rfl ?_
      refine DrawP_consL (acc' := [_, _]) (eqRes _) (good0 (fun γ => Needs_f (by kernel_rfl) (fun r1 h1 => Needs_nil (vopT rfl (V_move h1 ⟨rfl, rfl⟩))))) rfl ?_
      refine DrawP_consL (acc' := [_, _, _]) (eqRes _) (good0 (fun γ => Needs_f (by kernel_rfl) (fun r2 h2 => Needs_nil (vopT rfl (V_move h2 ⟨rfl, rfl⟩))))) rfl ?_
      refine DrawP_consL (acc' := [_, _, _, _]) (epRes _) (good0 (fun γ => Needs_w 2 (by kernel_rfl) rfl (fun r39 h39 => Needs_nil (vopT rfl (V_indexAddr (el := patX p) VT.sl25 h39 rfl (by omega) (get_patS rfl) (fun a40 => ⟨⟨_, rfl⟩, rfl⟩)))))) rfl ?_
      refine DrawP_consL (acc' := [_, _, _, _, _]) (epRes _) (good0 (fun γ => Needs_w 3 (by kernel_rfl) rfl (fun r40 h40 => Needs_nil (epE h40 (fun a_40 e40 => vopT rfl (V_fieldAddr_ep VT.fa30_1 e40 rfl ⟨⟨_, rfl⟩, rfl⟩)))))) rfl ?_
      refine DrawP_consL (acc' := [_, _, _, _, _, _]) (eqRes _) (good0 (fun γ => Needs_w 4 (by kernel_rfl) rfl (fun r41 h41 => Needs_nil (epE h41 (fun a_41 e41 => vopT rfl (V_load_ep VT.ty9 e41 rfl ⟨rfl, rfl⟩)))))) rfl ?_
      refine DrawP_consL (acc' := [_, _, _, _, _, _, _]) (eqRes _) (good0 (fun γ => Needs_f (by kernel_rfl) (fun r7 h7 => Needs_nil (vopT rfl (V_move h7 ⟨rfl, rfl⟩))))) rfl ?_
      refine DrawP_consL (acc' := [_, _, _, _, _, _, _, _]) (eqRes _) (good0 (fun γ => Needs_w 1 (by kernel_rfl) rfl (fun r38 h38 => Needs_w 5 (by kernel_rfl) rfl (fun r42 h42 => Needs_w 6 (by kernel_rfl) rfl (fun r43 h43 => Needs_nil (vopT rfl (V_callP [.tmp 38, .tmp 42, .tmp 43] rfl (evs_cons h38 (evs_cons h42 (evs_cons h43 evs_nil))) VT.en45 (narrow_c rows p.name p.args.length hne (by omega) hr1 hr2 hpa) ⟨rfl, rfl⟩))))))) rfl ?_
      refine DrawP_consL (acc' := [_, _, _, _, _, _, _, _, _]) (eqRes _) (good0 (fun γ => Needs_f (by kernel_rfl) (fun r2 h2 => Needs_nil (vopT rfl (V_move h2 ⟨rfl, rfl⟩))))) rfl ?_
      refine DrawP_consL (acc' := [_, _, _, _, _, _, _, _, _, _]) (epRes _) (good0 (fun γ => Needs_w 8 (by kernel_rfl) rfl (fun r45 h45 => Needs_nil (vopT rfl (V_indexAddr (el := patX p) VT.sl25 h45 rfl (by omega) (get_patS rfl) (fun a46 => ⟨⟨_, rfl⟩, rfl⟩)))))) rfl ?_
      refine DrawP_consL (acc' := [_, _, _, _, _, _, _, _, _, _, _]) (epRes _) (good0 (fun γ => Needs_w 9 (by kernel_rfl) rfl (fun r46 h46 => Needs_nil (epE h46 (fun a_46 e46 => vopT rfl (V_fieldAddr_ep VT.fa30_3 e46 rfl ⟨⟨_, rfl⟩, rfl⟩)))))) rfl ?_
      refine DrawP_consL (acc' := [_, _, _, _, _, _, _, _, _, _, _, _]) (eqRes _) (good0 (fun γ => Needs_w 10 (by kernel_rfl) rfl (fun r47 h47 => Needs_nil (epE h47 (fun a_47 e47 => vopT rfl (V_load_ep VT.ty25 e47 rfl ⟨rfl, rfl⟩)))))) rfl ?_
      refine DrawP_consL (acc' := [_, _, _, _, _, _, _, _, _, _, _, _, _]) (eqRes _) (good0 (fun γ => Needs_f (by kernel_rfl) (fun r2 h2 => Needs_nil (vopT rfl (V_move h2 ⟨rfl, rfl⟩))))) rfl ?_
      refine DrawP_consL (acc' := [_, _, _, _, _, _, _, _, _, _, _, _, _, _]) (eqRes _) (good0 (fun γ => Needs_w 12 (by kernel_rfl) rfl (fun r49 h49 => Needs_nil (vopT rfl (V_sliceFrom VT.sl25 h49 rfl (by omega) (by simp; omega) ⟨rfl, rfl⟩))))) rfl ?_
      refine DrawP_consL (acc' := [_, _, _, _, _, _, _, _, _, _, _, _, _, _, _]) (eqRes _) (good0 (fun γ => Needs_w 11 (by kernel_rfl) rfl (fun r48 h48 => Needs_w 13 (by kernel_rfl) rfl (fun r50 h50 => Needs_nil (vopT rfl (V_lit [.tmp 48, .tmp 50] VT.sl23 rfl rfl rfl (evs_cons h48 (evs_cons h50 evs_nil)) rfl ⟨rfl, rfl⟩)))))) rfl ?_
      refine DrawP_consL (acc' := [_, _, _, _, _, _, _, _, _, _, _, _, _, _, _, _]) (eqRes _) (good0 (fun γ => Needs_w 14 (by kernel_rfl) rfl (fun r51 h51 => Needs_nil (vopT rfl (VOp_as (V_callP [.tmp 51] rfl (evs_cons h51 evs_nil) VT.en47 (concat_c [p.args, row] (by rw [cat_two]; simp; omega)) ⟨rfl, rfl⟩) (V.le.of_eq (v' := patsX (p.args ++ row)) (by rw [cat_two])) ⟨rfl, rfl⟩))))) rfl ?_
      refine DrawP_consL (acc' := [_, _, _, _, _, _, _, _, _, _, _, _, _, _, _, _, _]) (eqRes _) (good0 (fun γ => Needs_w 0 (by kernel_rfl) rfl (fun r37 h37 => Needs_w 7 (by kernel_rfl) rfl (fun r44 h44 => Needs_w 15 (by kernel_rfl) rfl (fun r52 h52 => Needs_nil (vopT rfl (V_callK 1 [.tmp 37, .tmp 44, .tmp 52] rfl (evs_cons h37 (evs_cons h44 (evs_cons h52 evs_nil))) VT.en29 rfl (hih) ⟨rfl, rfl⟩))))))) rfl ?_
      refine DrawP_consL (acc' := [_, _, _, _, _, _, _, _, _, _, _, _, _, _, _, _, _, _]) (eqRes _) (good0 (fun γ => Needs_w 16 (by kernel_rfl) rfl (fun r53 h53 => Needs_nil (vopT rfl (V_assign h53 ⟨rfl, rfl⟩))))) rfl ?_
      refine DrawP_nil (fun γ => Needs_w 17 (by kernel_rfl) rfl (fun r6 h6 => Needs_nil ?_))
      have e6 : r6 = some _ := h6
      subst e6
      clear h6
      refine Then_n ?_
      refine VW_ret ?_
      refine InBlock_r (Then_r (VRet_one rfl (.tmp rfl) ?_))
      refine ⟨_, Drops.drop (Drops.refl _), ?_, rfl⟩
      rw [usefulF, if_pos h27]
    · skip
      refine VW_seq ?_
      refine VW_region ?_
      refine VOps_cons rfl rfl (V_bin rfl rfl rfl ?_)
      refine VOps_cons rfl rfl (V_assign rfl ?_)
      refine VOps_nil ?_
      refine Then_n ?_
      refine VW_condEq rfl (fun h54 => ?_) (fun h54 => ?_)
      · skip
        have hih2 := ih _ _ _ ⟨hT.left (n := p.n), hRr, by have := left_len p.n rows; omega, by have := hlw p.n; omega⟩
        refine VW_seq ?_
        refine VW_region ?_
        refine VOps_cons rfl rfl (V_assign_nil 25 1 ?_)
        refine VOps_nil ?_
        refine Then_n ?_
        refine VW_seq ?_
        refine VW_seq ?_
        refine VW_region ?_
        refine VOps_cons rfl rfl (V_move rfl ?_)
        refine VOps_cons rfl rfl (V_lenN (n := rows.length) Try.underlying23 rfl (by simp) (fun hl57 => ?_))
        refine VOps_cons rfl rfl (V_move rfl ?_)
        refine VOps_nil ?_
        refine Then_n ?_
        refine VW_block ?_
        refine VW_loopF (ι := Nat × Tok) (fun (k, tk) => rows.length - k) (fun (k, tk) => [(2, some (patsX (p :: row))), (3, some (.ptr g3 0)), (8, some (.sl 1 (some tk) ((leftF p.n (rows.take k)).map patsX))), (56, some (rowsX rows)), (57, some (.int rows.length)), (58, some (.int k))]) (fun (k, tk) => [.buf tk 25 1 (leftF p.n (rows.take k)).length, .cells g3 65 [datasX ds, .raw (.map (some g))], tabO g t]) (fun (k, tk) => k ≤ rows.length) (0, .nil) (by simp) ⟨rfl, rfl, (by simp [leftF]; rfl), rfl, rfl, rfl, trivial⟩ (Drops.buf (by simp [leftF]) (Drops.keep (Drops.keep (Drops.refl _)))) ?_
        rintro ⟨k, tk⟩ hk
        change k ≤ rows.length at hk
        refine VW_seq ?_
        refine VW_region ?_
        refine VOps_cons rfl rfl (V_bin rfl rfl rfl ?_)
        refine VOps_nil ?_
        refine Then_n ?_
        refine VW_seq ?_
        refine VW_condP rfl (fun h59 => ?_) (fun h59 => ?_)
        · skip
          obtain ⟨r, hr⟩ := get_of_lt rows k h59
          obtain ⟨q, tl, rfl⟩ := List.exists_cons_of_ne_nil (hne _ (List.mem_of_getElem? hr))
          have hll := left_len p.n (rows.take k)
          rw [List.length_take] at hll
          refine VW_skip ?_
          refine Then_n ?_
          refine VW_seq ?_
          refine VW_block ?_
          refine VW_seq ?_
          refine VW_region ?_
          refine VOps_cons rfl rfl (V_indexAddr (el := patsX (q :: tl)) VT.sl23 rfl rfl (by omega) (get_mapS _ hr) (fun a60 => ?_))
          refine VOps_cons rfl rfl (V_load_ep VT.ty25 rfl rfl ?_)
          refine VOps_cons rfl rfl (V_assign rfl ?_)
          refine VOps_nil ?_
          refine Then_n ?_
          refine VW_seq ?_
          rcases Bool.eq_false_or_eq_true (free q) with hq66 | hq66
          · skip
            have hq1 : (free q || decide (q.n = p.n)) = true := by rw [hq66]; rfl
            refine VW_draw (G := Unit) [([], [10], []), ([0], [62], []), ([1, 0], [63], []), ([2, 1, 0], [64], []), ([3, 2, 1, 0], [65], []), ([4, 3, 2, 1, 0], [10, 66], []), ([5, 4, 3, 2, 1, 0], [67, 66], []), ([6, 5, 4, 3, 2, 1, 0], [68, 66], []), ([7, 6, 5, 4, 3, 2, 1, 0], [69, 66], []), ([4, 3, 2, 1, 0], [2, 66], []), ([9, 4, 3, 2, 1, 0], [71, 66], []), ([10, 9, 4, 3, 2, 1, 0], [72, 66], []), ([11, 10, 9, 4, 3, 2, 1, 0], [73, 66], []), ([12, 11, 10, 9, 8, 7, 6, 5, 4, 3, 2, 1, 0], [70, 74, 66], []), ([13, 12, 11, 10, 9, 8, 7, 6, 5, 4, 3, 2, 1, 0], [66, 75], [])] [] (constSt _) [76] [62, 63, 64, 65, 66, 67, 68, 69, 70, 71, 72, 73, 74, 75, 76] rfl VT.mix (by kernel_rfl) (by kernel_rfl) ?_
            refine DrawP_consL (acc' := [_]) (eqRes _) (good0 (fun γ => Needs_f (by kernel_rfl) (fun r10 h10 => Needs_nil (vopT rfl (V_move h10 ⟨rfl, rfl⟩))))) rfl ?_
            refine DrawP_consL (acc' := [_, _]) (epRes _) (good0 (fun γ => Needs_w 0 (by kernel_rfl) rfl (fun r62 h62 => Needs_nil (vopT rfl (V_indexAddr (el := patX q) VT.sl25 h62 rfl (by omega) (get_patS rfl) (fun a63 => ⟨⟨_, rfl⟩, rfl⟩)))))) rfl ?_
            refine DrawP_consL (acc' := [_, _, _]) (eqRes _) (good0 (fun γ => Needs_w 1 (by kernel_rfl) rfl (fun r63 h63 => Needs_nil (epE h63 (fun a_63 e63 => vopT rfl (V_load_ep_agg VT.ty30 e63 rfl ⟨rfl, rfl⟩)))))) rfl ?_
            refine DrawP_consL (acc' := [_, _, _, _]) (eqRes _) (good0 (fun γ => Needs_w 2 (by kernel_rfl) rfl (fun r64 h64 => Needs_nil (vopT rfl (V_callP [.tmp 64] rfl (evs_cons h64 evs_nil) VT.en48 (free_c _) ⟨rfl, rfl⟩))))) rfl ?_
            refine DrawP_consL (acc' := [_, _, _, _, _]) (eqRes _) (good0 (fun γ => Needs_w 3 (by kernel_rfl) rfl (fun r65 h65 => Needs_nil (vopT rfl (V_move h65 ⟨rfl, rfl⟩))))) rfl ?_
            refine DrawP_consL (acc' := [_, _, _, _, _, _]) anyRes (good0 (fun γ => Needs_f (by kernel_rfl) (fun r10 h10 => Needs_w 4 (by kernel_rfl) rfl (fun r66 h66 => Needs_nil (vopF (skip_of rfl rfl h66 hq66) ⟨trivial, rfl⟩))))) rfl ?_
            refine DrawP_consL (acc' := [_, _, _, _, _, _, _]) anyRes (good0 (fun γ => Needs_w 5 (by kernel_rfl) rfl (fun r67 h67 => Needs_w 4 (by kernel_rfl) rfl (fun r66 h66 => Needs_nil (vopF (skip_of rfl rfl h66 hq66) ⟨trivial, rfl⟩))))) rfl ?_
            refine DrawP_consL (acc' := [_, _, _, _, _, _, _, _]) anyRes (good0 (fun γ => Needs_w 6 (by kernel_rfl) rfl (fun r68 h68 => Needs_w 4 (by kernel_rfl) rfl (fun r66 h66 => Needs_nil (vopF (skip_of rfl rfl h66 hq66) ⟨trivial, rfl⟩))))) rfl ?_
            refine DrawP_consL (acc' := [_, _, _, _, _, _, _, _, _]) anyRes (good0 (fun γ => Needs_w 7 (by kernel_rfl) rfl (fun r69 h69 => Needs_w 4 (by kernel_rfl) rfl (fun r66 h66 => Needs_nil (vopF (skip_of rfl rfl h66 hq66) ⟨trivial, rfl⟩))))) rfl ?_
            refine DrawP_consL (acc' := [_, _, _, _, _, _, _, _, _, _]) anyRes (good0 (fun γ => Needs_f (by kernel_rfl) (fun r2 h2 => Needs_w 4 (by kernel_rfl) rfl (fun r66 h66 => Needs_nil (vopF (skip_of rfl rfl h66 hq66) ⟨trivial, rfl⟩))))) rfl ?_
            refine DrawP_consL (acc' := [_, _, _, _, _, _, _, _, _, _, _]) anyRes (good0 (fun γ => Needs_w 9 (by kernel_rfl) rfl (fun r71 h71 => Needs_w 4 (by kernel_rfl) rfl (fun r66 h66 => Needs_nil (vopF (skip_of rfl rfl h66 hq66) ⟨trivial, rfl⟩))))) rfl ?_
            refine DrawP_consL (acc' := [_, _, _, _, _, _, _, _, _, _, _, _]) anyRes (good0 (fun γ => Needs_w 10 (by kernel_rfl) rfl (fun r72 h72 => Needs_w 4 (by kernel_rfl) rfl (fun r66 h66 => Needs_nil (vopF (skip_of rfl rfl h66 hq66) ⟨trivial, rfl⟩))))) rfl ?_
            refine DrawP_consL (acc' := [_, _, _, _, _, _, _, _, _, _, _, _, _]) anyRes (good0 (fun γ => Needs_w 11 (by kernel_rfl) rfl (fun r73 h73 => Needs_w 4 (by kernel_rfl) rfl (fun r66 h66 => Needs_nil (vopF (skip_of rfl rfl h66 hq66) ⟨trivial, rfl⟩))))) rfl ?_
            refine DrawP_consL (acc' := [_, _, _, _, _, _, _, _, _, _, _, _, _, _]) anyRes (good0 (fun γ => Needs_w 8 (by kernel_rfl) rfl (fun r70 h70 => Needs_w 12 (by kernel_rfl) rfl (fun r74 h74 => Needs_w 4 (by kernel_rfl) rfl (fun r66 h66 => Needs_nil (vopF (skip_of rfl rfl h66 hq66) ⟨trivial, rfl⟩)))))) rfl ?_
            refine DrawP_consL (acc' := [_, _, _, _, _, _, _, _, _, _, _, _, _, _, _]) (eqRes _) (good0 (fun γ => Needs_w 4 (by kernel_rfl) rfl (fun r66 h66 => Needs_w 13 (by kernel_rfl) rfl (fun r75 h75 => Needs_nil (vopT rfl (V_pickT h66 hq66 rfl ⟨rfl, rfl⟩)))))) rfl ?_
            refine DrawP_nil (fun γ => Needs_w 14 (by kernel_rfl) rfl (fun r76 h76 => Needs_nil ?_))
            have e76 : r76 = some _ := h76
            subst e76
            clear h76
            refine Then_n ?_
            refine VW_condT rfl rfl ?_
            refine VW_region ?_
            refine VOps_cons rfl rfl (V_move rfl ?_)
            refine VOps_cons rfl rfl (V_move rfl ?_)
            refine VOps_cons rfl rfl (V_sliceFrom VT.sl25 rfl rfl (by omega) (by simp; omega) ?_)
            refine VOps_cons rfl rfl (V_lit [.tmp 79] VT.sl23 rfl rfl rfl rfl rfl ?_)
            refine VOps_cons rfl rfl (V_appendN 0 _ VT.sl23 rfl rfl rfl (by simp) (by simp; omega) (fun t81 => ?_))
            refine VOps_cons rfl rfl (V_assign rfl ?_)
            refine VOps_nil ?_
            refine InBlock_n (Then_n ?_)
            refine VW.weaken (F' := [(2, some _), (3, some _), (8, some _), (56, some _), (57, some _), (58, some _)]) ⟨rfl, rfl, rfl, rfl, rfl, rfl, trivial⟩ (.refl _) ?_
            refine VW_region ?_
            refine VOps_cons rfl rfl (V_add rfl rfl (by omega) ?_)
            refine VOps_cons rfl rfl (V_move rfl ?_)
            refine VOps_nil ?_
            refine Then_n ?_
            exact ⟨(k + 1, t81), (by (try simp only []); omega), (by omega), ⟨rfl, rfl, (by rw [take_snoc hr, left_snoc]; first | (rw [if_pos hq1, List.map_append]; rfl) | (rw [if_neg (by rw [hq1]; simp), List.append_nil]; rfl)), rfl, rfl, rfl, trivial⟩, (Drops.buf (by rw [take_snoc hr, left_snoc]; first | (rw [if_pos hq1]; simp; done) | (rw [if_neg (by rw [hq1]; simp)]; simp)) (Drops.keep (Drops.keep (Drops.refl _))))⟩
          · skip
            refine VW_draw (G := Unit) [([], [10], []), ([0], [62], []), ([1, 0], [63], []), ([2, 1, 0], [64], []), ([3, 2, 1, 0], [65], []), ([4, 3, 2, 1, 0], [10, 66], []), ([5, 4, 3, 2, 1, 0], [67, 66], []), ([6, 5, 4, 3, 2, 1, 0], [68, 66], []), ([7, 6, 5, 4, 3, 2, 1, 0], [69, 66], []), ([4, 3, 2, 1, 0], [2, 66], []), ([9, 4, 3, 2, 1, 0], [71, 66], []), ([10, 9, 4, 3, 2, 1, 0], [72, 66], []), ([11, 10, 9, 4, 3, 2, 1, 0], [73, 66], []), ([12, 11, 10, 9, 8, 7, 6, 5, 4, 3, 2, 1, 0], [70, 74, 66], []), ([13, 12, 11, 10, 9, 8, 7, 6, 5, 4, 3, 2, 1, 0], [66, 75], [])] [] (constSt _) [76] [62, 63, 64, 65, 66, 67, 68, 69, 70, 71, 72, 73, 74, 75, 76] rfl VT.mix (by kernel_rfl) (by kernel_rfl) ?_
            refine DrawP_consL (acc' := [_]) (eqRes _) (good0 (fun γ => Needs_f (by kernel_rfl) (fun r10 h10 => Needs_nil (vopT rfl (V_move h10 ⟨rfl, rfl⟩))))) rfl ?_
            refine DrawP_consL (acc' := [_, _]) (epRes _) (good0 (fun γ => Needs_w 0 (by kernel_rfl) rfl (fun r62 h62 => Needs_nil (vopT rfl (V_indexAddr (el := patX q) VT.sl25 h62 rfl (by omega) (get_patS rfl) (fun a63 => ⟨⟨_, rfl⟩, rfl⟩)))))) rfl ?_
            refine DrawP_consL (acc' := [_, _, _]) (eqRes _) (good0 (fun γ => Needs_w 1 (by kernel_rfl) rfl (fun r63 h63 => Needs_nil (epE h63 (fun a_63 e63 => vopT rfl (V_load_ep_agg VT.ty30 e63 rfl ⟨rfl, rfl⟩)))))) rfl ?_
            refine DrawP_consL (acc' := [_, _, _, _]) (eqRes _) (good0 (fun γ => Needs_w 2 (by kernel_rfl) rfl (fun r64 h64 => Needs_nil (vopT rfl (V_callP [.tmp 64] rfl (evs_cons h64 evs_nil) VT.en48 (free_c _) ⟨rfl, rfl⟩))))) rfl ?_
            refine DrawP_consL (acc' := [_, _, _, _, _]) (eqRes _) (good0 (fun γ => Needs_w 3 (by kernel_rfl) rfl (fun r65 h65 => Needs_nil (vopT rfl (V_move h65 ⟨rfl, rfl⟩))))) rfl ?_
            refine DrawP_consL (acc' := [_, _, _, _, _, _]) (eqRes _) (good0 (fun γ => Needs_f (by kernel_rfl) (fun r10 h10 => Needs_w 4 (by kernel_rfl) rfl (fun r66 h66 => Needs_nil (vopT (want_of rfl rfl h66 hq66) (V_move h10 ⟨rfl, rfl⟩)))))) rfl ?_
            refine DrawP_consL (acc' := [_, _, _, _, _, _, _]) (epRes _) (good0 (fun γ => Needs_w 5 (by kernel_rfl) rfl (fun r67 h67 => Needs_w 4 (by kernel_rfl) rfl (fun r66 h66 => Needs_nil (vopT (want_of rfl rfl h66 hq66) (V_indexAddr (el := patX q) VT.sl25 h67 rfl (by omega) (get_patS rfl) (fun a68 => ⟨⟨_, rfl⟩, rfl⟩))))))) rfl ?_
            refine DrawP_consL (acc' := [_, _, _, _, _, _, _, _]) (epRes _) (good0 (fun γ => Needs_w 6 (by kernel_rfl) rfl (fun r68 h68 => Needs_w 4 (by kernel_rfl) rfl (fun r66 h66 => Needs_nil (epE h68 (fun a_68 e68 => vopT (want_of rfl rfl h66 hq66) (V_fieldAddr_ep VT.fa30_2 e68 rfl ⟨⟨_, rfl⟩, rfl⟩))))))) rfl ?_
            refine DrawP_consL (acc' := [_, _, _, _, _, _, _, _, _]) (eqRes _) (good0 (fun γ => Needs_w 7 (by kernel_rfl) rfl (fun r69 h69 => Needs_w 4 (by kernel_rfl) rfl (fun r66 h66 => Needs_nil (epE h69 (fun a_69 e69 => vopT (want_of rfl rfl h66 hq66) (V_load_ep VT.ty3 e69 rfl ⟨rfl, rfl⟩))))))) rfl ?_
            refine DrawP_consL (acc' := [_, _, _, _, _, _, _, _, _, _]) (eqRes _) (good0 (fun γ => Needs_f (by kernel_rfl) (fun r2 h2 => Needs_w 4 (by kernel_rfl) rfl (fun r66 h66 => Needs_nil (vopT (want_of rfl rfl h66 hq66) (V_move h2 ⟨rfl, rfl⟩)))))) rfl ?_
            refine DrawP_consL (acc' := [_, _, _, _, _, _, _, _, _, _, _]) (epRes _) (good0 (fun γ => Needs_w 9 (by kernel_rfl) rfl (fun r71 h71 => Needs_w 4 (by kernel_rfl) rfl (fun r66 h66 => Needs_nil (vopT (want_of rfl rfl h66 hq66) (V_indexAddr (el := patX p) VT.sl25 h71 rfl (by omega) (get_patS rfl) (fun a72 => ⟨⟨_, rfl⟩, rfl⟩))))))) rfl ?_
            refine DrawP_consL (acc' := [_, _, _, _, _, _, _, _, _, _, _, _]) (epRes _) (good0 (fun γ => Needs_w 10 (by kernel_rfl) rfl (fun r72 h72 => Needs_w 4 (by kernel_rfl) rfl (fun r66 h66 => Needs_nil (epE h72 (fun a_72 e72 => vopT (want_of rfl rfl h66 hq66) (V_fieldAddr_ep VT.fa30_2 e72 rfl ⟨⟨_, rfl⟩, rfl⟩))))))) rfl ?_
            refine DrawP_consL (acc' := [_, _, _, _, _, _, _, _, _, _, _, _, _]) (eqRes _) (good0 (fun γ => Needs_w 11 (by kernel_rfl) rfl (fun r73 h73 => Needs_w 4 (by kernel_rfl) rfl (fun r66 h66 => Needs_nil (epE h73 (fun a_73 e73 => vopT (want_of rfl rfl h66 hq66) (V_load_ep VT.ty3 e73 rfl ⟨rfl, rfl⟩))))))) rfl ?_
            refine DrawP_consL (acc' := [_, _, _, _, _, _, _, _, _, _, _, _, _, _]) (eqRes _) (good0 (fun γ => Needs_w 8 (by kernel_rfl) rfl (fun r70 h70 => Needs_w 12 (by kernel_rfl) rfl (fun r74 h74 => Needs_w 4 (by kernel_rfl) rfl (fun r66 h66 => Needs_nil (vopT (want_of rfl rfl h66 hq66) (V_bin h70 h74 rfl ⟨rfl, rfl⟩))))))) rfl ?_
            refine DrawP_consL (acc' := [_, _, _, _, _, _, _, _, _, _, _, _, _, _, _]) (eqRes _) (good0 (fun γ => Needs_w 4 (by kernel_rfl) rfl (fun r66 h66 => Needs_w 13 (by kernel_rfl) rfl (fun r75 h75 => Needs_nil (vopT rfl (V_pickF h66 hq66 h75 ⟨rfl, rfl⟩)))))) rfl ?_
            refine DrawP_nil (fun γ => Needs_w 14 (by kernel_rfl) rfl (fun r76 h76 => Needs_nil ?_))
            have e76 : r76 = some _ := h76
            subst e76
            clear h76
            refine Then_n ?_
            refine VW_condEq rfl (fun h76 => ?_) (fun h76 => ?_)
            · skip
              have hq1 : (free q || decide (q.n = p.n)) = true := by rw [hq66, Bool.false_or]; exact decide_eq_true h76
              refine VW_region ?_
              refine VOps_cons rfl rfl (V_move rfl ?_)
              refine VOps_cons rfl rfl (V_move rfl ?_)
              refine VOps_cons rfl rfl (V_sliceFrom VT.sl25 rfl rfl (by omega) (by simp; omega) ?_)
              refine VOps_cons rfl rfl (V_lit [.tmp 79] VT.sl23 rfl rfl rfl rfl rfl ?_)
              refine VOps_cons rfl rfl (V_appendN 0 _ VT.sl23 rfl rfl rfl (by simp) (by simp; omega) (fun t81 => ?_))
              refine VOps_cons rfl rfl (V_assign rfl ?_)
              refine VOps_nil ?_
              refine InBlock_n (Then_n ?_)
              refine VW.weaken (F' := [(2, some _), (3, some _), (8, some _), (56, some _), (57, some _), (58, some _)]) ⟨rfl, rfl, rfl, rfl, rfl, rfl, trivial⟩ (.refl _) ?_
              refine VW_region ?_
              refine VOps_cons rfl rfl (V_add rfl rfl (by omega) ?_)
              refine VOps_cons rfl rfl (V_move rfl ?_)
              refine VOps_nil ?_
              refine Then_n ?_
              exact ⟨(k + 1, t81), (by (try simp only []); omega), (by omega), ⟨rfl, rfl, (by rw [take_snoc hr, left_snoc]; first | (rw [if_pos hq1, List.map_append]; rfl) | (rw [if_neg (by rw [hq1]; simp), List.append_nil]; rfl)), rfl, rfl, rfl, trivial⟩, (Drops.buf (by rw [take_snoc hr, left_snoc]; first | (rw [if_pos hq1]; simp; done) | (rw [if_neg (by rw [hq1]; simp)]; simp)) (Drops.keep (Drops.keep (Drops.refl _))))⟩
            · skip
              have hq1 : (free q || decide (q.n = p.n)) = false := by rw [hq66, Bool.false_or]; exact decide_eq_false h76
              refine VW_skip ?_
              refine InBlock_n (Then_n ?_)
              refine VW_region ?_
              refine VOps_cons rfl rfl (V_add rfl rfl (by omega) ?_)
              refine VOps_cons rfl rfl (V_move rfl ?_)
              refine VOps_nil ?_
              refine Then_n ?_
              exact ⟨(k + 1, tk), (by (try simp only []); omega), (by omega), ⟨rfl, rfl, (by rw [take_snoc hr, left_snoc]; first | (rw [if_pos hq1, List.map_append]; rfl) | (rw [if_neg (by rw [hq1]; simp), List.append_nil]; rfl)), rfl, rfl, rfl, trivial⟩, (Drops.buf (by rw [take_snoc hr, left_snoc]; first | (rw [if_pos hq1]; simp; done) | (rw [if_neg (by rw [hq1]; simp)]; simp)) (Drops.keep (Drops.keep (Drops.refl _))))⟩
        · skip
          refine VW_exit ?_
          refine Then_e (Then_e (InBlock_hit ?_))
          refine Then_n ?_
          refine VW_seq ?_
          refine VW_draw (G := Unit) [([], [3], []), ([], [8], []), ([], [2], []), ([2], [85], []), ([3, 2, 1, 0], [83, 84, 86], []), ([4, 3, 2, 1, 0], [87], [])] [] (constSt _) [6] [6, 83, 84, 85, 86, 87] rfl VT.mix (by kernel_rfl) (by kernel_rfl) ?_
          refine DrawP_consL (acc' := [_]) (eqRes _) (good0 (fun γ => Needs_f (by kernel_rfl) (fun r3 h3 => Needs_nil (vopT rfl (V_load_agg 1 VT.ty65 h3 rfl rfl ⟨rfl, rfl⟩))))) rfl ?_
          refine DrawP_consL (acc' := [_, _]) (eqRes _) (good0 (fun γ => Needs_f (by kernel_rfl) (fun r8 h8 => Needs_nil (vopT rfl (VOp_as (V_move h8 ⟨rfl, rfl⟩) (V.le.strip) ⟨rfl, rfl⟩))))) rfl ?_
          refine DrawP_consL (acc' := [_, _, _]) (eqRes _) (good0 (fun γ => Needs_f (by kernel_rfl) (fun r2 h2 => Needs_nil (vopT rfl (V_move h2 ⟨rfl, rfl⟩))))) rfl ?_
          refine DrawP_consL (acc' := [_, _, _, _]) (eqRes _) (good0 (fun γ => Needs_w 2 (by kernel_rfl) rfl (fun r85 h85 => Needs_nil (vopT rfl (V_sliceFrom VT.sl25 h85 rfl (by omega) (by simp; omega) ⟨rfl, rfl⟩))))) rfl ?_
          refine DrawP_consL (acc' := [_, _, _, _, _]) (eqRes _) (good0 (fun γ => Needs_w 0 (by kernel_rfl) rfl (fun r83 h83 => Needs_w 1 (by kernel_rfl) rfl (fun r84 h84 => Needs_w 3 (by kernel_rfl) rfl (fun r86 h86 => Needs_nil (vopT rfl (V_callK 2 [.tmp 83, .tmp 84, .tmp 86] rfl (evs_cons h83 (evs_cons h84 (evs_cons h86 evs_nil))) VT.en29 rfl ((by rw [take_end h59]; exact hih2 : VKeep Try.prog 29 [tabX ds g, rowsX (leftF p.n (rows.take k)), patsX row] [tabO g t] (.bool (usefulF t ds f (leftF p.n rows) row)))) ⟨rfl, rfl⟩))))))) rfl ?_
          refine DrawP_consL (acc' := [_, _, _, _, _, _]) (eqRes _) (good0 (fun γ => Needs_w 4 (by kernel_rfl) rfl (fun r87 h87 => Needs_nil (vopT rfl (V_assign h87 ⟨rfl, rfl⟩))))) rfl ?_
          refine DrawP_nil (fun γ => Needs_w 5 (by kernel_rfl) rfl (fun r6 h6 => Needs_nil ?_))
          have e6 : r6 = some _ := h6
          subst e6
          clear h6
          refine Then_n ?_
          refine VW_ret ?_
          refine InBlock_r (Then_r (VRet_one rfl (.tmp rfl) ?_))
          refine ⟨_, Drops.drop (Drops.drop (Drops.refl _)), ?_, rfl⟩
          rw [usefulF, if_neg h27, if_pos h54]
      · skip
        refine VW_skip ?_
        refine InBlock_n (Then_n ?_)
        refine VW_seq ?_
        refine VW_region ?_
        refine VOps_cons rfl rfl (V_move rfl ?_)
        refine VOps_cons rfl rfl (V_callP [.tmp 88] rfl rfl VT.en42 (first_c rows hne (by omega)) ?_)
        refine VOps_cons rfl rfl (V_assign rfl ?_)
        refine VOps_nil ?_
        refine Then_n ?_
        refine VW_seq ?_
        refine VW_seq ?_
        refine VW_region ?_
        refine VOps_cons rfl rfl (V_load_agg 0 VT.ty65 rfl rfl rfl ?_)
        refine VOps_cons rfl rfl (V_move rfl ?_)
        rcases hab : absentF t ds (first rows) with _ | q
        · skip
          obtain ⟨d, fT, D, hF⟩ := absent_none hok hT hab
          have hnn : first rows ≠ [] := fun h => by rw [h] at hab; cases hab
          obtain ⟨p0, l0, hfr⟩ := List.exists_cons_of_ne_nil hnn
          have hk0 : p0.kind ≠ 2 := fun h => by rw [hfr, absentF, if_pos h] at hab; cases hab
          obtain ⟨d0, f0, a0, D0, hτ, _, ht0, hD0⟩ := first_head hok hT hfr hk0
          have hc0 : consAt t ds ((first rows).headD anyP).name = D0.cons := by rw [hfr]; simp only [List.headD_cons, consAt, ht0, hD0]
          have hall := hF.all
          rw [← hF.cons, hc0] at hall
          have hTd : rowsT t (.dat d fT :: σs) rows := by rw [← hF.ty]; exact hT
          have hr2 := rowsT.args_le hTd
          have hdl := (hok.small _ _ hD0).1
          refine VOps_cons rfl rfl (V_callK 1 [.tmp 91, .tmp 92] rfl rfl VT.en43 rfl (by have h := absent_c ds t g (first rows) (by omega) hh; rw [hab] at h; exact h) ?_)
          refine VOps_cons rfl rfl (V_move rfl ?_)
          refine VOps_cons rfl rfl (V_extract rfl rfl ?_)
          refine VOps_cons rfl rfl (V_extract rfl rfl ?_)
          refine VOps_cons rfl rfl (V_alloc VT.zr30 _ rfl rfl (fun g12 => ?_))
          refine VOps_cons rfl rfl (V_store_agg 0 VT.ty30 rfl rfl rfl rfl rfl ?_)
          refine VOps_cons rfl rfl (V_assign rfl ?_)
          refine VOps_nil ?_
          refine Then_n ?_
          refine VW.weaken (F' := [(1, some _), (2, some _), (3, some _), (6, some _), (11, some _), (13, some _)]) ⟨rfl, rfl, rfl, rfl, rfl, rfl, trivial⟩ (.refl _) ?_
          refine VW_seq ?_
          refine VW_region ?_
          refine VOps_cons rfl rfl (V_move rfl ?_)
          refine VOps_nil ?_
          refine Then_n ?_
          refine VW_condF rfl (rfl) ?_
          refine VW_skip ?_
          refine Then_n ?_
          refine VW_seq ?_
          refine VW_seq ?_
          refine VW_draw (G := Unit) [([], [3], []), ([0], [103], []), ([], [3], []), ([2], [105], []), ([], [11], []), ([4], [107], []), ([5, 4], [108], []), ([6, 5, 4], [109], []), ([7, 6, 5, 4, 3, 2], [106, 110], []), ([8, 7, 6, 5, 4, 3, 2], [111], []), ([9, 8, 7, 6, 5, 4, 3, 2, 1, 0], [104, 112], []), ([10, 9, 8, 7, 6, 5, 4, 3, 2, 1, 0], [113], []), ([11, 10, 9, 8, 7, 6, 5, 4, 3, 2, 1, 0], [114], []), ([12, 11, 10, 9, 8, 7, 6, 5, 4, 3, 2, 1, 0], [115], []), ([], [], [])] [] (constSt _) [115, 116, 117] [103, 104, 105, 106, 107, 108, 109, 110, 111, 112, 113, 114, 115, 116, 117] rfl VT.mix (by kernel_rfl) (by kernel_rfl) ?_
          refine DrawP_consL (acc' := [_]) (eqRes _) (good0 (fun γ => Needs_f (by kernel_rfl) (fun r3 h3 => Needs_nil (vopT rfl (V_fieldAddr VT.fa65_0 h3 ⟨rfl, rfl⟩))))) rfl ?_
          refine DrawP_consL (acc' := [_, _]) (eqRes _) (good0 (fun γ => Needs_w 0 (by kernel_rfl) rfl (fun r103 h103 => Needs_nil (vopT rfl (V_load 1 VT.ty22 h103 rfl rfl ⟨rfl, rfl⟩))))) rfl ?_
          refine DrawP_consL (acc' := [_, _, _]) (eqRes _) (good0 (fun γ => Needs_f (by kernel_rfl) (fun r3 h3 => Needs_nil (vopT rfl (V_fieldAddr VT.fa65_1 h3 ⟨rfl, rfl⟩))))) rfl ?_
          refine DrawP_consL (acc' := [_, _, _, _]) (eqRes _) (good0 (fun γ => Needs_w 2 (by kernel_rfl) rfl (fun r105 h105 => Needs_nil (vopT rfl (V_load 1 VT.ty63 h105 rfl rfl ⟨rfl, rfl⟩))))) rfl ?_
          refine DrawP_consL (acc' := [_, _, _, _, _]) (eqRes _) (good0 (fun γ => Needs_f (by kernel_rfl) (fun r11 h11 => Needs_nil (vopT rfl (V_move h11 ⟨rfl, rfl⟩))))) rfl ?_
          refine DrawP_consL (acc' := [_, _, _, _, _, _]) (epRes _) (good0 (fun γ => Needs_w 4 (by kernel_rfl) rfl (fun r107 h107 => Needs_nil (vopT rfl (V_indexAddr (el := patX p0) VT.sl25 h107 rfl (by omega) (by rw [hfr]; exact get_patS rfl) (fun a108 => ⟨⟨_, rfl⟩, rfl⟩)))))) rfl ?_
          refine DrawP_consL (acc' := [_, _, _, _, _, _, _]) (epRes _) (good0 (fun γ => Needs_w 5 (by kernel_rfl) rfl (fun r108 h108 => Needs_nil (epE h108 (fun a_108 e108 => vopT rfl (V_fieldAddr_ep VT.fa30_1 e108 rfl ⟨⟨_, rfl⟩, rfl⟩)))))) rfl ?_
          refine DrawP_consL (acc' := [_, _, _, _, _, _, _, _]) (eqRes _) (good0 (fun γ => Needs_w 6 (by kernel_rfl) rfl (fun r109 h109 => Needs_nil (epE h109 (fun a_109 e109 => vopT rfl (V_load_ep VT.ty9 e109 rfl ⟨rfl, rfl⟩)))))) rfl ?_
          refine DrawP_consL (acc' := [_, _, _, _, _, _, _, _, _]) (eqRes _) (good0 (fun γ => Needs_w 3 (by kernel_rfl) rfl (fun r106 h106 => Needs_w 7 (by kernel_rfl) rfl (fun r110 h110 => Needs_nil (vopT rfl (V_lookup1 2 Try.underlying63 (key_str Try.underlying9) VT.zr95 h106 h110 rfl (by rw [kget_tab, ht0]; rfl) ⟨rfl, rfl⟩)))))) rfl ?_
          refine DrawP_consL (acc' := [_, _, _, _, _, _, _, _, _, _]) (eqRes _) (good0 (fun γ => Needs_w 8 (by kernel_rfl) rfl (fun r111 h111 => Needs_nil (vopT rfl (V_field (x := 0) VT.fa95_0 h111 rfl ⟨rfl, rfl⟩))))) rfl ?_
          refine DrawP_consL (acc' := [_, _, _, _, _, _, _, _, _, _, _]) (epRes _) (good0 (fun γ => Needs_w 1 (by kernel_rfl) rfl (fun r104 h104 => Needs_w 9 (by kernel_rfl) rfl (fun r112 h112 => Needs_nil (vopT rfl (V_indexAddr (el := dataV D0) VT.sl22 h104 h112 (by omega) (get_mapS _ hD0) (fun a113 => ⟨⟨_, rfl⟩, rfl⟩))))))) rfl ?_
          refine DrawP_consL (acc' := [_, _, _, _, _, _, _, _, _, _, _, _]) (epRes _) (good0 (fun γ => Needs_w 10 (by kernel_rfl) rfl (fun r113 h113 => Needs_nil (epE h113 (fun a_113 e113 => vopT rfl (V_fieldAddr_ep VT.fa62_2 e113 rfl ⟨⟨_, rfl⟩, rfl⟩)))))) rfl ?_
          refine DrawP_consL (acc' := [_, _, _, _, _, _, _, _, _, _, _, _, _]) (eqRes _) (good0 (fun γ => Needs_w 11 (by kernel_rfl) rfl (fun r114 h114 => Needs_nil (epE h114 (fun a_114 e114 => vopT rfl (V_load_ep VT.ty60 e114 rfl ⟨rfl, rfl⟩)))))) rfl ?_
          refine DrawP_consL (acc' := [_, _, _, _, _, _, _, _, _, _, _, _, _, _]) (eqRes _) (good0 (fun γ => Needs_w 12 (by kernel_rfl) rfl (fun r115 h115 => Needs_nil (vopT rfl (V_lenN (n := D0.cons.length) Try.underlying60 h115 (by simp) (fun hl116 => ⟨rfl, rfl⟩)))))) rfl ?_
          refine DrawP_consL (acc' := [_, _, _, _, _, _, _, _, _, _, _, _, _, _, _]) (eqRes _) (good0 (fun γ => Needs_nil (vopT rfl (V_move rfl ⟨rfl, rfl⟩)))) rfl ?_
          refine DrawP_nil (fun γ => Needs_w 12 (by kernel_rfl) rfl (fun r115 h115 => Needs_w 13 (by kernel_rfl) rfl (fun r116 h116 => Needs_w 14 (by kernel_rfl) rfl (fun r117 h117 => Needs_nil ?_))))
          have e115 : r115 = some _ := h115
          subst e115
          clear h115
          have e116 : r116 = some _ := h116
          subst e116
          clear h116
          have e117 : r117 = some _ := h117
          subst e117
          clear h117
          refine Then_n ?_
          refine VW_block ?_
          refine VW_loopF (ι := Nat) (fun k => D0.cons.length - k) (fun k => [(1, some (rowsX rows)), (2, some (patsX (p :: row))), (3, some (.ptr g3 0)), (115, some (.sl 2 none (D0.cons.map conV))), (116, some (.int D0.cons.length)), (117, some (.int k))]) (fun k => [.cells g3 65 [datasX ds, .raw (.map (some g))], tabO g t]) (fun k => k ≤ D0.cons.length ∧ usefulLoop (usefulF t ds f) rows row (D0.cons.drop k) = usefulLoop (usefulF t ds f) rows row D0.cons) 0 ⟨Nat.zero_le _, rfl⟩ ⟨rfl, rfl, rfl, rfl, rfl, rfl, trivial⟩ (Drops.drop (Drops.keep (Drops.keep (Drops.refl _)))) ?_
          rintro k hA
          change k ≤ D0.cons.length ∧ usefulLoop (usefulF t ds f) rows row (D0.cons.drop k) = usefulLoop (usefulF t ds f) rows row D0.cons at hA
          obtain ⟨hk, hq⟩ := hA
          refine VW_seq ?_
          refine VW_region ?_
          refine VOps_cons rfl rfl (V_bin rfl rfl rfl ?_)
          refine VOps_nil ?_
          refine Then_n ?_
          refine VW_seq ?_
          refine VW_condP rfl (fun h118 => ?_) (fun h118 => ?_)
          · skip
            obtain ⟨e, hcn⟩ := get_of_lt D0.cons k h118
            obtain ⟨q1, tl1, hq1, hqf, hqn, hea, a1, hta⟩ := hall e (List.mem_of_getElem? hcn)
            have hT2 := rowsT.narrow hTd hta
            have hw1 := narrow_w1 e.name e.args.length hqf hqn rows hq1
            have hln := narrow_len e.name e.args.length rows
            have hal := argT_len (fT e.name) e.args.length
            have hany := rowT.anys (t := t) (argT (fT e.name) e.args.length)
            rw [hal] at hany
            have hih := ih _ _ _ ⟨hT2, hany.append hRr, by omega, by rw [List.length_append, hal, wL_append, wL_anys]; omega⟩
            refine VW_skip ?_
            refine Then_n ?_
            refine VW_seq ?_
            refine VW_block ?_
            refine VW_seq ?_
            refine VW_region ?_
            refine VOps_cons rfl rfl (V_indexAddr (el := conV e) VT.sl60 rfl rfl (by omega) (get_mapS _ hcn) (fun a119 => ?_))
            refine VOps_cons rfl rfl (V_load_ep_agg VT.ty59 rfl rfl ?_)
            refine VOps_cons rfl rfl (V_alloc VT.zr59 _ rfl rfl (fun g15 => ?_))
            refine VOps_cons rfl rfl (V_store_agg 0 VT.ty59 rfl rfl rfl rfl rfl ?_)
            refine VOps_nil ?_
            refine Then_n ?_
            refine VW_seq ?_
            refine VW_region ?_
            refine VOps_cons rfl rfl (V_fieldAddr VT.fa59_1 rfl ?_)
            refine VOps_cons rfl rfl (V_load 0 VT.ty57 rfl rfl rfl ?_)
            refine VOps_cons rfl rfl (V_lenN (n := e.args.length) Try.underlying57 rfl (by simp) (fun hl123 => ?_))
            refine VOps_cons rfl rfl (V_assign rfl ?_)
            refine VOps_nil ?_
            refine Then_n ?_
            refine VW_seq ?_
            refine VW_draw (G := Unit) [([], [3], []), ([], [1], []), ([], [15], []), ([2], [126], []), ([], [16], []), ([4, 3, 2, 1], [125, 127, 128], []), ([], [16], []), ([6, 5, 4, 3, 2, 1], [130], []), ([], [2], []), ([8], [132], []), ([9, 8, 7, 6, 5, 4, 3, 2, 1], [131, 133], []), ([10, 9, 8, 7, 6, 5, 4, 3, 2, 1], [134], []), ([11, 10, 9, 8, 7, 6, 5, 4, 3, 2, 1, 0], [124, 129, 135], [])] [] (constSt _) [136] [124, 125, 126, 127, 128, 129, 130, 131, 132, 133, 134, 135, 136] rfl VT.mix (by kernel_rfl) (by kernel_rfl) ?_
            refine DrawP_consL (acc' := [_]) (eqRes _) (good0 (fun γ => Needs_f (by kernel_rfl) (fun r3 h3 => Needs_nil (vopT rfl (V_load_agg 1 VT.ty65 h3 rfl rfl ⟨rfl, rfl⟩))))) rfl ?_
            refine DrawP_consL (acc' := [_, _]) (eqRes _) (good0 (fun γ => Needs_f (by kernel_rfl) (fun r1 h1 => Needs_nil (vopT rfl (V_move h1 ⟨rfl, rfl⟩))))) rfl ?_
            refine DrawP_consL (acc' := [_, _, _]) (eqRes _) (good0 (fun γ => Needs_f (by kernel_rfl) (fun r15 h15 => Needs_nil (vopT rfl (V_fieldAddr VT.fa59_0 h15 ⟨rfl, rfl⟩))))) rfl ?_
            refine DrawP_consL (acc' := [_, _, _, _]) (eqRes _) (good0 (fun γ => Needs_w 2 (by kernel_rfl) rfl (fun r126 h126 => Needs_nil (vopT rfl (V_load 0 VT.ty9 h126 rfl rfl ⟨rfl, rfl⟩))))) rfl ?_
            refine DrawP_consL (acc' := [_, _, _, _, _]) (eqRes _) (good0 (fun γ => Needs_f (by kernel_rfl) (fun r16 h16 => Needs_nil (vopT rfl (V_move h16 ⟨rfl, rfl⟩))))) rfl ?_
            refine DrawP_consL (acc' := [_, _, _, _, _, _]) (eqRes _) (good0 (fun γ => Needs_w 1 (by kernel_rfl) rfl (fun r125 h125 => Needs_w 3 (by kernel_rfl) rfl (fun r127 h127 => Needs_w 4 (by kernel_rfl) rfl (fun r128 h128 => Needs_nil (vopT rfl (V_callP [.tmp 125, .tmp 127, .tmp 128] rfl (evs_cons h125 (evs_cons h127 (evs_cons h128 evs_nil))) VT.en45 (narrow_c rows e.name e.args.length hne (by omega) hr1 hr2 hea) ⟨rfl, rfl⟩))))))) rfl ?_
            refine DrawP_consL (acc' := [_, _, _, _, _, _, _]) (eqRes _) (good0 (fun γ => Needs_f (by kernel_rfl) (fun r16 h16 => Needs_nil (vopT rfl (V_move h16 ⟨rfl, rfl⟩))))) rfl ?_
            refine DrawP_consL (acc' := [_, _, _, _, _, _, _, _]) (eqRes _) (good0 (fun γ => Needs_w 6 (by kernel_rfl) rfl (fun r130 h130 => Needs_nil (vopT rfl (V_callP [.tmp 130] rfl (evs_cons h130 evs_nil) VT.en49 (anys_c e.args.length (by omega)) ⟨rfl, rfl⟩))))) rfl ?_
            refine DrawP_consL (acc' := [_, _, _, _, _, _, _, _, _]) (eqRes _) (good0 (fun γ => Needs_f (by kernel_rfl) (fun r2 h2 => Needs_nil (vopT rfl (V_move h2 ⟨rfl, rfl⟩))))) rfl ?_
            refine DrawP_consL (acc' := [_, _, _, _, _, _, _, _, _, _]) (eqRes _) (good0 (fun γ => Needs_w 8 (by kernel_rfl) rfl (fun r132 h132 => Needs_nil (vopT rfl (V_sliceFrom VT.sl25 h132 rfl (by omega) (by simp; omega) ⟨rfl, rfl⟩))))) rfl ?_
            refine DrawP_consL (acc' := [_, _, _, _, _, _, _, _, _, _, _]) (eqRes _) (good0 (fun γ => Needs_w 7 (by kernel_rfl) rfl (fun r131 h131 => Needs_w 9 (by kernel_rfl) rfl (fun r133 h133 => Needs_nil (vopT rfl (V_lit [.tmp 131, .tmp 133] VT.sl23 rfl rfl rfl (evs_cons h131 (evs_cons h133 evs_nil)) rfl ⟨rfl, rfl⟩)))))) rfl ?_
            refine DrawP_consL (acc' := [_, _, _, _, _, _, _, _, _, _, _, _]) (eqRes _) (good0 (fun γ => Needs_w 10 (by kernel_rfl) rfl (fun r134 h134 => Needs_nil (vopT rfl (VOp_as (V_callP [.tmp 134] rfl (evs_cons h134 evs_nil) VT.en47 (concat_c [anysL e.args.length, row] (by rw [cat_two]; simp; omega)) ⟨rfl, rfl⟩) (V.le.of_eq (v' := patsX (anysL e.args.length ++ row)) (by rw [cat_two])) ⟨rfl, rfl⟩))))) rfl ?_
            refine DrawP_consL (acc' := [_, _, _, _, _, _, _, _, _, _, _, _, _]) (eqRes _) (good0 (fun γ => Needs_w 0 (by kernel_rfl) rfl (fun r124 h124 => Needs_w 5 (by kernel_rfl) rfl (fun r129 h129 => Needs_w 11 (by kernel_rfl) rfl (fun r135 h135 => Needs_nil (vopT rfl (V_callK 2 [.tmp 124, .tmp 129, .tmp 135] rfl (evs_cons h124 (evs_cons h129 (evs_cons h135 evs_nil))) VT.en29 rfl (hih) ⟨rfl, rfl⟩))))))) rfl ?_
            refine DrawP_nil (fun γ => Needs_w 12 (by kernel_rfl) rfl (fun r136 h136 => Needs_nil ?_))
            have e136 : r136 = some _ := h136
            subst e136
            clear h136
            refine Then_n ?_
            refine VW_cond rfl (fun h136 => ?_) (fun h136 => ?_)
            · skip
              refine VW_seq ?_
              refine VW_region ?_
              refine VOps_cons rfl rfl (V_assign rfl ?_)
              refine VOps_nil ?_
              refine Then_n ?_
              refine VW.weaken (F' := [(1, some _), (2, some _), (3, some _), (6, some _), (115, some _), (116, some _), (117, some _)]) ⟨rfl, rfl, rfl, rfl, rfl, rfl, rfl, trivial⟩ (.refl _) ?_
              refine VW_ret ?_
              refine InBlock_r (Then_r (Then_r (InBlock_r (Then_r (VRet_one rfl (.tmp rfl) ?_)))))
              refine ⟨_, Drops.drop (Drops.drop (Drops.refl _)), ?_, rfl⟩
              rw [usefulF, if_neg h27, if_neg h54, hab]
              simp only [hc0, ← hq, drop_cons hcn, usefulLoop, h136, Bool.true_or]
            · skip
              refine VW_skip ?_
              refine InBlock_n (Then_n ?_)
              refine VW_region ?_
              refine VOps_cons rfl rfl (V_add rfl rfl (by omega) ?_)
              refine VOps_cons rfl rfl (V_move rfl ?_)
              refine VOps_nil ?_
              refine Then_n ?_
              exact ⟨k + 1, (by (try simp only []); omega), ⟨by omega, by rw [← hq, drop_cons hcn, usefulLoop, h136]; rfl⟩, ⟨rfl, rfl, rfl, rfl, rfl, rfl, trivial⟩, (Drops.drop (Drops.keep (Drops.keep (Drops.refl _))))⟩
          · skip
            have hke : k = D0.cons.length := by omega
            subst hke
            rw [List.drop_length, usefulLoop] at hq
            refine VW_exit ?_
            refine Then_e (Then_e (InBlock_hit ?_))
            refine Then_n ?_
            refine VW_seq ?_
            refine VW_region ?_
            refine VOps_cons rfl rfl (V_assign rfl ?_)
            refine VOps_nil ?_
            refine Then_n ?_
            refine VW_ret ?_
            refine VRet_one rfl (.tmp rfl) ?_
            refine ⟨_, Drops.drop (Drops.refl _), ?_, rfl⟩
            rw [usefulF, if_neg h27, if_neg h54, hab]
            simp only [hc0, ← hq]
        · skip
          refine VOps_cons rfl rfl (V_callK 1 [.tmp 91, .tmp 92] rfl rfl VT.en43 rfl (by have h := absent_c ds t g (first rows) (by omega) hh; rw [hab] at h; exact h) ?_)
          refine VOps_cons rfl rfl (V_move rfl ?_)
          refine VOps_cons rfl rfl (V_extract rfl rfl ?_)
          refine VOps_cons rfl rfl (V_extract rfl rfl ?_)
          refine VOps_cons rfl rfl (V_alloc VT.zr30 _ rfl rfl (fun g12 => ?_))
          refine VOps_cons rfl rfl (V_store_agg 0 VT.ty30 rfl rfl rfl rfl rfl ?_)
          refine VOps_cons rfl rfl (V_assign rfl ?_)
          refine VOps_nil ?_
          refine Then_n ?_
          refine VW.weaken (F' := [(1, some _), (2, some _), (3, some _), (6, some _), (11, some _), (13, some _)]) ⟨rfl, rfl, rfl, rfl, rfl, rfl, trivial⟩ (.refl _) ?_
          refine VW_seq ?_
          refine VW_region ?_
          refine VOps_cons rfl rfl (V_move rfl ?_)
          refine VOps_nil ?_
          refine Then_n ?_
          refine VW_condT rfl (rfl) ?_
          refine VW_seq ?_
          refine VW_draw (G := Unit) [([], [3], []), ([], [1], []), ([1], [98], []), ([], [2], []), ([3], [100], []), ([4, 3, 2, 1, 0], [97, 99, 101], []), ([5, 4, 3, 2, 1, 0], [102], [])] [] (constSt _) [6] [6, 97, 98, 99, 100, 101, 102] rfl VT.mix (by kernel_rfl) (by kernel_rfl) ?_
          refine DrawP_consL (acc' := [_]) (eqRes _) (good0 (fun γ => Needs_f (by kernel_rfl) (fun r3 h3 => Needs_nil (vopT rfl (V_load_agg 1 VT.ty65 h3 rfl rfl ⟨rfl, rfl⟩))))) rfl ?_
          refine DrawP_consL (acc' := [_, _]) (eqRes _) (good0 (fun γ => Needs_f (by kernel_rfl) (fun r1 h1 => Needs_nil (vopT rfl (V_move h1 ⟨rfl, rfl⟩))))) rfl ?_
          refine DrawP_consL (acc' := [_, _, _]) (eqRes _) (good0 (fun γ => Needs_w 1 (by kernel_rfl) rfl (fun r98 h98 => Needs_nil (vopT rfl (V_callP [.tmp 98] rfl (evs_cons h98 evs_nil) VT.en44 (rest_c rows hne (by omega)) ⟨rfl, rfl⟩))))) rfl ?_
          refine DrawP_consL (acc' := [_, _, _, _]) (eqRes _) (good0 (fun γ => Needs_f (by kernel_rfl) (fun r2 h2 => Needs_nil (vopT rfl (V_move h2 ⟨rfl, rfl⟩))))) rfl ?_
          refine DrawP_consL (acc' := [_, _, _, _, _]) (eqRes _) (good0 (fun γ => Needs_w 3 (by kernel_rfl) rfl (fun r100 h100 => Needs_nil (vopT rfl (V_sliceFrom VT.sl25 h100 rfl (by omega) (by simp; omega) ⟨rfl, rfl⟩))))) rfl ?_
          refine DrawP_consL (acc' := [_, _, _, _, _, _]) (eqRes _) (good0 (fun γ => Needs_w 0 (by kernel_rfl) rfl (fun r97 h97 => Needs_w 2 (by kernel_rfl) rfl (fun r99 h99 => Needs_w 4 (by kernel_rfl) rfl (fun r101 h101 => Needs_nil (vopT rfl (V_callK 2 [.tmp 97, .tmp 99, .tmp 101] rfl (evs_cons h97 (evs_cons h99 (evs_cons h101 evs_nil))) VT.en29 rfl (ih (rest rows) row σs ⟨hrT, hRr, by omega, by omega⟩) ⟨rfl, rfl⟩))))))) rfl ?_
          refine DrawP_consL (acc' := [_, _, _, _, _, _, _]) (eqRes _) (good0 (fun γ => Needs_w 5 (by kernel_rfl) rfl (fun r102 h102 => Needs_nil (vopT rfl (V_assign h102 ⟨rfl, rfl⟩))))) rfl ?_
          refine DrawP_nil (fun γ => Needs_w 6 (by kernel_rfl) rfl (fun r6 h6 => Needs_nil ?_))
          have e6 : r6 = some _ := h6
          subst e6
          clear h6
          refine Then_n ?_
          refine VW_ret ?_
          refine Then_r (VRet_one rfl (.tmp rfl) ?_)
          refine ⟨_, Drops.drop (Drops.drop (Drops.refl _)), ?_, rfl⟩
          rw [usefulF, if_neg h27, if_neg h54, hab]


theorem useful_c (ds : List DataSig) (t : Tab) (g : Nat) (hok : TabOk t ds) : ∀ (f : Nat), f ≤ 400000 → ∀ rows row τs, UsePre t f rows row τs → VKeep Try.prog 29 [tabX ds g, rowsX rows, patsX row] [tabO g t] (.bool (usefulF t ds f rows row))
  | 0, _, rows, row, τs, h => absurd h.fuel (Nat.not_lt_zero _)
  | f + 1, hf, rows, row, τs, h => useful_step ds t g hok f (by omega) (fun rows row τs h => useful_c ds t g hok f (by omega) rows row τs h) rows row τs h

end Go.Proofs.Ytmjeaagpcmfnpaa.W12
