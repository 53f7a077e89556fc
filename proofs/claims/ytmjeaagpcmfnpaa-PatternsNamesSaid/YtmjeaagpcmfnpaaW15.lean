/- Walks, printed by walk.py. -/
import Derived.Test.YtmjeaagpcmfnpaaVT
import Derived.Test.YtmjeaagpcmfnpaaVD
import Derived.Test.YtmjeaagpcmfnpaaV9
import Derived.Test.YtmjeaagpcmfnpaaVD8
import Derived.Test.YtmjeaagpcmfnpaaW1
import Derived.Test.YtmjeaagpcmfnpaaW2
import Derived.Test.YtmjeaagpcmfnpaaW3
import Derived.Test.YtmjeaagpcmfnpaaW4
import Derived.Test.YtmjeaagpcmfnpaaW5
import Derived.Test.YtmjeaagpcmfnpaaW6
import Derived.Test.YtmjeaagpcmfnpaaW8
import Derived.Test.YtmjeaagpcmfnpaaW9
import Derived.Test.YtmjeaagpcmfnpaaW10
import Derived.Test.YtmjeaagpcmfnpaaW13
import Derived.Test.YtmjeaagpcmfnpaaW14
set_option linter.unusedVariables false
set_option linter.unusedSimpArgs false
namespace Go.Proofs.Ytmjeaagpcmfnpaa.W15
open Go.VL Go.PM Go.Proofs.Ytmjeaagpcmfnpaa Go.Proofs.Ytmjeaagpcmfnpaa.W1 Go.Proofs.Ytmjeaagpcmfnpaa.W2 Go.Proofs.Ytmjeaagpcmfnpaa.W3 Go.Proofs.Ytmjeaagpcmfnpaa.W4 Go.Proofs.Ytmjeaagpcmfnpaa.W5 Go.Proofs.Ytmjeaagpcmfnpaa.W6 Go.Proofs.Ytmjeaagpcmfnpaa.W8 Go.Proofs.Ytmjeaagpcmfnpaa.W9 Go.Proofs.Ytmjeaagpcmfnpaa.W10 Go.Proofs.Ytmjeaagpcmfnpaa.W13 Go.Proofs.Ytmjeaagpcmfnpaa.W14

theorem last_nat {l : List Nat} {k : Nat} (h : l[l.length - 1]? = some k) : (l.map fun n : Nat => V.int n)[((l.length : Int) - 1).toNat]? = some (V.int k) := by
  have e : ((l.length : Int) - 1).toNat = l.length - 1 := by omega
  rw [e]
  exact get_nat h
theorem cL_row {rows : List (List Pat)} {r : List Pat} (h : r ∈ rows) : cL r ≤ cR rows := by
  induction rows with
  | nil => cases h
  | cons x xs ih =>
    rw [cR]
    rcases List.mem_cons.1 h with rfl | h
    · omega
    · have := ih h
      omega

set_option maxRecDepth 100000 in
set_option maxHeartbeats 4000000 in
theorem more_c (ds : List DataSig) (hz : Sized ds) (rows : List (List Pat)) (c : Int) : VPure Try.prog 4 [datasX ds, rowsX rows, .int c] (.bool (moreF ds rows c)) := by
  have hM := Missing_c ds (checkTy hz) rows c
  generalize hlo : missOut ds rows c = lo at hM
  refine V_start (nt := 83) Try.func4 rfl rfl rfl ?_
  refine VW_seq ?_
  refine VW_region ?_
  refine VOps_cons rfl rfl (V_assign rfl ?_)
  refine VOps_nil ?_
  refine Then_n ?_
  refine VW_seq ?_
  refine VW_seq ?_
  refine VW_region ?_
  refine VOps_cons rfl rfl (V_callP [] rfl rfl VT.en11 (work_c) ?_)
  refine VOps_cons rfl rfl (V_not rfl ?_)
  refine VOps_nil ?_
  refine Then_n ?_
  refine VW_condF rfl (rfl) ?_
  refine VW_skip ?_
  refine Then_n ?_
  refine VW_seq ?_
  refine VW_region ?_
  refine VOps_cons rfl rfl (V_move rfl ?_)
  refine VOps_cons rfl rfl (V_move rfl ?_)
  refine VOps_cons rfl rfl (V_move rfl ?_)
  refine VOps_cons rfl rfl (V_callP [.tmp 16, .tmp 17, .tmp 18] rfl rfl VT.en12 (hM) ?_)
  refine VOps_cons rfl rfl (V_move rfl ?_)
  refine VOps_cons rfl rfl (V_extract rfl rfl ?_)
  refine VOps_cons rfl rfl (V_extract rfl rfl ?_)
  refine VOps_cons rfl rfl (V_assign rfl ?_)
  refine VOps_cons rfl rfl (V_assign rfl ?_)
  refine VOps_nil ?_
  refine Then_n ?_
  refine VW_seq ?_
  refine VW_seq ?_
  refine VW_region ?_
  refine VOps_cons rfl rfl (V_move rfl ?_)
  refine VOps_cons rfl rfl (V_bin rfl rfl rfl ?_)
  refine VOps_cons rfl rfl (V_move rfl ?_)
  refine VOps_split (q := 24) rfl (fun hq24 => ?_) (fun hq24 => ?_)
  · skip
    have h1 : lo.2 ≠ 0 := by simpa using hq24
    refine VOps_skipU (.inl (skip_of rfl rfl rfl hq24)) rfl ?_
    refine VOps_skipU (.inl (skip_of rfl rfl rfl hq24)) rfl ?_
    refine VOps_cons rfl rfl (V_pickT rfl hq24 rfl ?_)
    refine VOps_nil ?_
    refine Then_n ?_
    refine VW_condT rfl rfl ?_
    refine VW_seq ?_
    refine VW_region ?_
    refine VOps_cons rfl rfl (V_move rfl ?_)
    refine VOps_cons rfl rfl (V_lenN (n := lo.1.length) Try.underlying25 rfl (by simp) (fun hl29 => ?_))
    refine VOps_cons rfl rfl (V_bin rfl rfl rfl ?_)
    refine VOps_cons rfl rfl (V_assign rfl ?_)
    refine VOps_nil ?_
    refine Then_n ?_
    refine VW_ret ?_
    refine Then_r (VRet_one rfl (.tmp rfl) ?_)
    have ht : moreF ds rows c = decide (lo.1.length = 0) := by unfold moreF; rw [hlo, if_pos (by first | exact .inl h1 | exact .inr h27)]
    rw [ht]
    exact congrArg V.bool (Bool.eq_iff_iff.2 (by simp))
  · skip
    have h1 : lo.2 = 0 := by simpa using hq24
    refine VOps_cons (want_of rfl rfl rfl hq24) rfl (V_move rfl ?_)
    refine VOps_cons (want_of rfl rfl rfl hq24) rfl (V_bin rfl rfl rfl ?_)
    refine VOps_cons rfl rfl (V_pickF rfl hq24 rfl ?_)
    refine VOps_nil ?_
    refine Then_n ?_
    refine VW_condEq rfl (fun h27 => ?_) (fun h27 => ?_)
    · skip
      refine VW_seq ?_
      refine VW_region ?_
      refine VOps_cons rfl rfl (V_move rfl ?_)
      refine VOps_cons rfl rfl (V_lenN (n := lo.1.length) Try.underlying25 rfl (by simp) (fun hl29 => ?_))
      refine VOps_cons rfl rfl (V_bin rfl rfl rfl ?_)
      refine VOps_cons rfl rfl (V_assign rfl ?_)
      refine VOps_nil ?_
      refine Then_n ?_
      refine VW_ret ?_
      refine Then_r (VRet_one rfl (.tmp rfl) ?_)
      have ht : moreF ds rows c = decide (lo.1.length = 0) := by unfold moreF; rw [hlo, if_pos (by first | exact .inl h1 | exact .inr h27)]
      rw [ht]
      exact congrArg V.bool (Bool.eq_iff_iff.2 (by simp))
    · skip
      obtain ⟨hck, hnb⟩ := miss_zero (by rw [hlo]; exact h1)
      obtain ⟨t, hb⟩ := check_build hck
      obtain ⟨hsm, hsame, _, _⟩ := check_parts hck hb
      have hrows := hsm.rows
      have hc0 : 0 ≤ c := by rcases Decidable.em (c < 0) with h | h; exact absurd (.inl h) hnb; omega
      have hc16 : c ≤ 16 := by rcases Decidable.em (16 < c) with h | h; exact absurd (.inr (.inl h)) hnb; omega
      have hA : ¬ (lo.2 ≠ 0 ∨ c = 0) := by rintro (h | h); exact h h1; exact h27 h
      have hAl := Missing_c ds (checkTy hz) (allR rows c) c
      generalize hal : missOut ds (allR rows c) c = al at hAl
      refine VW_skip ?_
      refine Then_n ?_
      refine VW_seq ?_
      refine VW_seq ?_
      refine VW_region ?_
      refine VOps_cons rfl rfl (V_move rfl ?_)
      refine VOps_cons rfl rfl (V_lenN (n := rows.length) Try.underlying23 rfl (by simp) (fun hl32 => ?_))
      refine VOps_cons rfl rfl (V_bin rfl rfl rfl ?_)
      refine VOps_nil ?_
      refine Then_n ?_
      refine VW_condP rfl (fun h33 => ?_) (fun h33 => ?_)
      · skip
        refine VW_seq ?_
        refine VW_region ?_
        refine VOps_cons rfl rfl (V_assign rfl ?_)
        refine VOps_nil ?_
        refine Then_n ?_
        refine VW_ret ?_
        refine Then_r (VRet_one rfl (.tmp rfl) ?_)
        have ht : moreF ds rows c = true := by unfold moreF; rw [hlo, if_neg hA, if_pos (by omega)]
        rw [ht]
      · skip
        have hB : ¬ 60 ≤ rows.length := by omega
        refine VW_skip ?_
        refine Then_n ?_
        refine VW_seq ?_
        refine VW_draw (G := Tok) [([], [0], []), ([], [], []), ([], [1], []), ([2, 1], [36, 37], [0]), ([], [2], []), ([4], [39], []), ([5, 4], [40], []), ([6, 5, 4, 3, 2, 1], [38, 41], []), ([], [2], []), ([8, 7, 6, 5, 4, 3, 2, 1, 0], [35, 42, 43], []), ([9, 8, 7, 6, 5, 4, 3, 2, 1, 0], [44], []), ([10, 9, 8, 7, 6, 5, 4, 3, 2, 1, 0], [34], []), ([10, 9, 8, 7, 6, 5, 4, 3, 2, 1, 0], [34], []), ([11, 10, 9, 8, 7, 6, 5, 4, 3, 2, 1, 0], [45], []), ([13, 12, 11, 10, 9, 8, 7, 6, 5, 4, 3, 2, 1, 0], [46], [])] [3, 7] (twoSt _ (fun x => [.buf x 25 1 (rows.map patsX).length]) (fun _ _ => [])) [9, 10] [9, 10, 34, 35, 36, 37, 38, 39, 40, 41, 42, 43, 44, 45, 46] rfl VT.mix (by kernel_rfl) (by kernel_rfl) ?_
        refine DrawP_cons (eqRes _) (goodS rfl rfl ⟨(fun γ => Needs_f (by kernel_rfl) (fun r0 h0 => Needs_nil (vopT rfl (V_move h0 ⟨rfl, rfl⟩)))), (fun γ => Needs_f (by kernel_rfl) (fun r0 h0 => Needs_nil (vopT rfl (V_move h0 ⟨rfl, rfl⟩)))), (fun γ => Needs_f (by kernel_rfl) (fun r0 h0 => Needs_nil (vopT rfl (V_move h0 ⟨rfl, rfl⟩)))), trivial⟩) ?_
        refine DrawP_cons (eqRes _) (goodS rfl rfl ⟨(fun γ => Needs_nil (vopT rfl (V_lit0 [] VT.sl23 rfl rfl rfl evs_nil rfl rfl ⟨rfl, rfl⟩))), trivial⟩) ?_
        refine DrawP_cons (eqRes _) (goodS rfl rfl ⟨(fun γ => Needs_f (by kernel_rfl) (fun r1 h1 => Needs_nil (vopT rfl (V_move h1 ⟨rfl, rfl⟩)))), trivial⟩) ?_
        refine DrawP_cons (oneRes (fun x => .sl 1 (some x) (rows.map patsX))) (goodU 0 rfl (fun γ => Needs_w 1 (by kernel_rfl) rfl (fun r36 h36 => Needs_w 2 (by kernel_rfl) rfl (fun r37 h37 => Needs_nil (vopT rfl (V_append0 VT.sl23 h36 h37 (by simp; omega) (fun t38 => ⟨t38, ⟨t38, rfl, rfl⟩, rfl⟩))))))) ?_
        refine DrawP_cons (eqRes _) (goodS rfl rfl ⟨(fun γ => Needs_f (by kernel_rfl) (fun r2 h2 => Needs_nil (vopT rfl (V_move h2 ⟨rfl, rfl⟩)))), (fun γ => Needs_f (by kernel_rfl) (fun r2 h2 => Needs_nil (vopT rfl (V_move h2 ⟨rfl, rfl⟩)))), trivial⟩) ?_
        refine DrawP_cons (eqRes _) (goodS rfl rfl ⟨(fun γ => Needs_w 4 (by kernel_rfl) rfl (fun r39 h39 => Needs_nil (vopT rfl (V_makeImm (patX anyP) any_rep rfl VT.sl25 h39 h39 (by omega) (by omega) ⟨rfl, rfl⟩)))), (fun γ => Needs_w 4 (by kernel_rfl) rfl (fun r39 h39 => Needs_nil (vopT rfl (V_makeImm (patX anyP) any_rep rfl VT.sl25 h39 h39 (by omega) (by omega) ⟨rfl, rfl⟩)))), trivial⟩) ?_
        refine DrawP_cons (eqRes _) (goodS rfl rfl ⟨(fun γ => Needs_w 5 (by kernel_rfl) rfl (fun r40 h40 => Needs_nil (vopT rfl (V_lit [.tmp 40] VT.sl23 rfl rfl rfl (evs_cons h40 evs_nil) rfl ⟨rfl, rfl⟩)))), (fun γ => Needs_w 5 (by kernel_rfl) rfl (fun r40 h40 => Needs_nil (vopT rfl (V_lit [.tmp 40] VT.sl23 rfl rfl rfl (evs_cons h40 evs_nil) rfl ⟨rfl, rfl⟩)))), trivial⟩) ?_
        refine DrawP_cons (eqRes _) (goodU 1 rfl (fun γ => Needs_w 3 (by kernel_rfl) rfl (fun r38 h38 => Needs_w 6 (by kernel_rfl) rfl (fun r41 h41 => Needs_nil (oneE h38 (fun e38 => vopT rfl (V_appendEnd 0 _ VT.sl23 e38 h41 rfl (by simp) (by simp; omega) (zs := (allR rows c).map patsX) (by simp [allR, patV_eq]) ⟨.nil, rfl, rfl⟩))))))) ?_
        refine DrawP_cons (eqRes _) (goodS rfl rfl ⟨(fun γ => Needs_f (by kernel_rfl) (fun r2 h2 => Needs_nil (vopT rfl (V_move h2 ⟨rfl, rfl⟩)))), (fun γ => Needs_f (by kernel_rfl) (fun r2 h2 => Needs_nil (vopT rfl (V_move h2 ⟨rfl, rfl⟩)))), (fun γ => Needs_f (by kernel_rfl) (fun r2 h2 => Needs_nil (vopT rfl (V_move h2 ⟨rfl, rfl⟩)))), trivial⟩) ?_
        refine DrawP_cons (eqRes _) (goodS rfl rfl ⟨(fun γ => Needs_w 0 (by kernel_rfl) rfl (fun r35 h35 => Needs_w 7 (by kernel_rfl) rfl (fun r42 h42 => Needs_w 8 (by kernel_rfl) rfl (fun r43 h43 => Needs_nil (vopT rfl (V_callP [.tmp 35, .tmp 42, .tmp 43] rfl (evs_cons h35 (evs_cons h42 (evs_cons h43 evs_nil))) VT.en12 (hAl) ⟨rfl, rfl⟩)))))), trivial⟩) ?_
        refine DrawP_cons (eqRes _) (goodS rfl rfl ⟨(fun γ => Needs_w 9 (by kernel_rfl) rfl (fun r44 h44 => Needs_nil (vopT rfl (V_move h44 ⟨rfl, rfl⟩)))), trivial⟩) ?_
        refine DrawP_cons (eqRes _) (goodS rfl rfl ⟨(fun γ => Needs_w 10 (by kernel_rfl) rfl (fun r34 h34 => Needs_nil (vopT rfl (V_extract h34 rfl ⟨rfl, rfl⟩)))), trivial⟩) ?_
        refine DrawP_cons (eqRes _) (goodS rfl rfl ⟨(fun γ => Needs_w 10 (by kernel_rfl) rfl (fun r34 h34 => Needs_nil (vopT rfl (V_extract h34 rfl ⟨rfl, rfl⟩)))), trivial⟩) ?_
        refine DrawP_cons (eqRes _) (goodS rfl rfl ⟨(fun γ => Needs_w 11 (by kernel_rfl) rfl (fun r45 h45 => Needs_nil (vopT rfl (V_assign h45 ⟨rfl, rfl⟩)))), trivial⟩) ?_
        refine DrawP_cons (eqRes _) (goodS rfl rfl ⟨(fun γ => Needs_w 12 (by kernel_rfl) rfl (fun r46 h46 => Needs_nil (vopT rfl (V_assign h46 ⟨rfl, rfl⟩)))), trivial⟩) ?_
        refine DrawP_nil (fun γ => Needs_w 13 (by kernel_rfl) rfl (fun r9 h9 => Needs_w 14 (by kernel_rfl) rfl (fun r10 h10 => Needs_nil ?_)))
        have e9 : r9 = some _ := h9
        subst e9
        clear h9
        have e10 : r10 = some _ := h10
        subst e10
        clear h10
        refine Then_n ?_
        refine VW_seq ?_
        refine VW_seq ?_
        refine VW_region ?_
        refine VOps_cons rfl rfl (V_move rfl ?_)
        refine VOps_cons rfl rfl (V_bin rfl rfl rfl ?_)
        refine VOps_nil ?_
        refine Then_n ?_
        refine VW_condEq rfl (fun h48 => ?_) (fun h48 => ?_)
        · skip
          refine VW_seq ?_
          refine VW_region ?_
          refine VOps_cons rfl rfl (V_assign rfl ?_)
          refine VOps_nil ?_
          refine Then_n ?_
          refine VW_ret ?_
          refine Then_r (VRet_one rfl (.tmp rfl) ?_)
          have ht : moreF ds rows c = true := by unfold moreF; rw [hlo, if_neg hA, if_neg hB, hal, if_pos h48]
          rw [ht]
        · skip
          have hC : ¬ al.2 = 2 := h48
          refine VW_skip ?_
          refine Then_n ?_
          refine VW_seq ?_
          refine VW_seq ?_
          refine VW_region ?_
          refine VOps_cons rfl rfl (V_move rfl ?_)
          refine VOps_cons rfl rfl (V_lenN (n := lo.1.length) Try.underlying25 rfl (by simp) (fun hl50 => ?_))
          refine VOps_cons rfl rfl (V_bin rfl rfl rfl ?_)
          refine VOps_cons rfl rfl (V_move rfl ?_)
          refine VOps_split (q := 52) rfl (fun hq52 => ?_) (fun hq52 => ?_)
          · skip
            have h2 : 0 < lo.1.length := by have := of_decide_eq_true hq52; omega
            refine VOps_cons (want_of rfl rfl rfl hq52) rfl (V_move rfl ?_)
            refine VOps_cons (want_of rfl rfl rfl hq52) rfl (V_lenN (n := rows.length) Try.underlying23 rfl (by simp) (fun hl54 => ?_))
            refine VOps_cons (want_of rfl rfl rfl hq52) rfl (V_bin rfl rfl rfl ?_)
            refine VOps_cons rfl rfl (V_pickT rfl hq52 rfl ?_)
            refine VOps_nil ?_
            refine Then_n ?_
            refine VW_condP rfl (fun h56 => ?_) (fun h56 => ?_)
            · skip
              have hRl := Redundant_c ds hz (rows ++ [lo.1])
              generalize hrl : redOut ds (rows ++ [lo.1]) = rl at hRl
              refine VW_seq ?_
              refine VW_region ?_
              refine VOps_cons rfl rfl (V_move rfl ?_)
              refine VOps_cons rfl rfl (V_lit0 [] VT.sl23 rfl rfl rfl rfl rfl rfl ?_)
              refine VOps_cons rfl rfl (V_move rfl ?_)
              refine VOps_cons rfl rfl (V_append0 VT.sl23 rfl rfl (by simp; omega) (fun t61 => ?_))
              refine VOps_cons rfl rfl (V_move rfl ?_)
              refine VOps_cons rfl rfl (V_lit [.tmp 62] VT.sl23 rfl rfl rfl rfl rfl ?_)
              refine VOps_cons rfl rfl (V_appendEnd 0 _ VT.sl23 rfl rfl rfl (by simp) (by simp; omega) (zs := (rows ++ [lo.1]).map patsX) (by simp) ?_)
              refine VOps_cons rfl rfl (V_callP [.tmp 58, .tmp 64] rfl rfl VT.en13 (hRl) ?_)
              refine VOps_cons rfl rfl (V_move rfl ?_)
              refine VOps_cons rfl rfl (V_extract rfl rfl ?_)
              refine VOps_cons rfl rfl (V_extract rfl rfl ?_)
              refine VOps_cons rfl rfl (V_assign rfl ?_)
              refine VOps_cons rfl rfl (V_assign rfl ?_)
              refine VOps_nil ?_
              refine Then_n ?_
              refine VW_seq ?_
              refine VW_region ?_
              refine VOps_cons rfl rfl (V_move rfl ?_)
              refine VOps_cons rfl rfl (V_bin rfl rfl rfl ?_)
              refine VOps_cons rfl rfl (V_move rfl ?_)
              refine VOps_split (q := 70) rfl (fun hq70 => ?_) (fun hq70 => ?_)
              · skip
                have h3 : rl.2 = 0 := by simpa using hq70
                refine VOps_cons (want_of rfl rfl rfl hq70) rfl (V_move rfl ?_)
                refine VOps_cons (want_of rfl rfl rfl hq70) rfl (V_move rfl ?_)
                refine VOps_cons (want_of rfl rfl rfl hq70) rfl (V_lenN (n := rows.length) Try.underlying23 rfl (by simp) (fun hl73 => ?_))
                refine VOps_cons (want_of rfl rfl rfl hq70) rfl (V_callP [.tmp 71, .tmp 73] rfl rfl VT.en14 (hasInt_c rl.1 rows.length) ?_)
                refine VOps_cons rfl rfl (V_pickT rfl hq70 rfl ?_)
                refine VOps_nil ?_
                refine Then_n ?_
                refine VW_cond rfl (fun h75 => ?_) (fun h75 => ?_)
                · skip
                  refine VW_seq ?_
                  refine VW_region ?_
                  refine VOps_cons rfl rfl (V_assign rfl ?_)
                  refine VOps_nil ?_
                  refine Then_n ?_
                  refine VW_ret ?_
                  refine Then_r (VRet_one rfl (.tmp rfl) ?_)
                  have ht : moreF ds rows c = false := by unfold moreF lateR; rw [hlo, if_neg hA, if_neg hB, hal, if_neg hC, hrl, if_pos ⟨⟨h2, by omega⟩, h3, by simpa using h75⟩]
                  rw [ht]
                · skip
                  have hD : ¬ ((0 < lo.1.length ∧ 0 < rows.length) ∧ (redOut ds (rows ++ [lo.1])).2 = 0 ∧ rows.length ∈ (redOut ds (rows ++ [lo.1])).1) := by rw [hrl]; rintro ⟨_, _, h⟩; simp at h75; exact h75 h
                  refine VW_skip ?_
                  refine Then_n ?_
                  refine VW_seq ?_
                  refine VW_region ?_
                  refine VOps_cons rfl rfl (V_move rfl ?_)
                  refine VOps_cons rfl rfl (V_bin rfl rfl rfl ?_)
                  refine VOps_cons rfl rfl (V_move rfl ?_)
                  refine VOps_split (q := 78) rfl (fun hq78 => ?_) (fun hq78 => ?_)
                  · skip
                    refine VOps_cons (want_of rfl rfl rfl hq78) rfl (V_move rfl ?_)
                    refine VOps_cons (want_of rfl rfl rfl hq78) rfl (V_lenN (n := al.1.length) Try.underlying25 rfl (by simp) (fun hl80 => ?_))
                    refine VOps_cons (want_of rfl rfl rfl hq78) rfl (V_bin rfl rfl rfl ?_)
                    refine VOps_cons rfl rfl (V_pickT rfl hq78 rfl ?_)
                    refine VOps_cons rfl rfl (V_assign rfl ?_)
                    refine VOps_nil ?_
                    refine Then_n ?_
                    refine VW_ret ?_
                    refine VRet_one rfl (.tmp rfl) ?_
                    have ht : moreF ds rows c = (decide (al.2 = 0) && decide (al.1.length = 0)) := by unfold moreF lateR; rw [hlo, if_neg hA, if_neg hB, hal, if_neg hC, if_neg hD]
                    rw [ht]
                    exact congrArg V.bool (Bool.eq_iff_iff.2 (by simp_all))
                  · skip
                    refine VOps_skipU (.inl (skip_of rfl rfl rfl hq78)) rfl ?_
                    refine VOps_skipU (.inl (skip_of rfl rfl rfl hq78)) rfl ?_
                    refine VOps_skipU (.inl (skip_of rfl rfl rfl hq78)) rfl ?_
                    refine VOps_cons rfl rfl (V_pickF rfl hq78 rfl ?_)
                    refine VOps_cons rfl rfl (V_assign rfl ?_)
                    refine VOps_nil ?_
                    refine Then_n ?_
                    refine VW_ret ?_
                    refine VRet_one rfl (.tmp rfl) ?_
                    have ht : moreF ds rows c = (decide (al.2 = 0) && decide (al.1.length = 0)) := by unfold moreF lateR; rw [hlo, if_neg hA, if_neg hB, hal, if_neg hC, if_neg hD]
                    rw [ht]
                    exact congrArg V.bool (Bool.eq_iff_iff.2 (by simp_all))
              · skip
                have h3 : rl.2 ≠ 0 := by simpa using hq70
                have hD : ¬ ((0 < lo.1.length ∧ 0 < rows.length) ∧ (redOut ds (rows ++ [lo.1])).2 = 0 ∧ rows.length ∈ (redOut ds (rows ++ [lo.1])).1) := by rw [hrl]; rintro ⟨_, h, _⟩; exact h3 h
                refine VOps_skipU (.inl (skip_of rfl rfl rfl hq70)) rfl ?_
                refine VOps_skipU (.inl (skip_of rfl rfl rfl hq70)) rfl ?_
                refine VOps_skipU (.inl (skip_of rfl rfl rfl hq70)) rfl ?_
                refine VOps_skipU (.inl (skip_of rfl rfl rfl hq70)) rfl ?_
                refine VOps_cons rfl rfl (V_pickF rfl hq70 rfl ?_)
                refine VOps_nil ?_
                refine Then_n ?_
                refine VW_condF rfl rfl ?_
                refine VW_skip ?_
                refine Then_n ?_
                refine VW_seq ?_
                refine VW_region ?_
                refine VOps_cons rfl rfl (V_move rfl ?_)
                refine VOps_cons rfl rfl (V_bin rfl rfl rfl ?_)
                refine VOps_cons rfl rfl (V_move rfl ?_)
                refine VOps_split (q := 78) rfl (fun hq78 => ?_) (fun hq78 => ?_)
                · skip
                  refine VOps_cons (want_of rfl rfl rfl hq78) rfl (V_move rfl ?_)
                  refine VOps_cons (want_of rfl rfl rfl hq78) rfl (V_lenN (n := al.1.length) Try.underlying25 rfl (by simp) (fun hl80 => ?_))
                  refine VOps_cons (want_of rfl rfl rfl hq78) rfl (V_bin rfl rfl rfl ?_)
                  refine VOps_cons rfl rfl (V_pickT rfl hq78 rfl ?_)
                  refine VOps_cons rfl rfl (V_assign rfl ?_)
                  refine VOps_nil ?_
                  refine Then_n ?_
                  refine VW_ret ?_
                  refine VRet_one rfl (.tmp rfl) ?_
                  have ht : moreF ds rows c = (decide (al.2 = 0) && decide (al.1.length = 0)) := by unfold moreF lateR; rw [hlo, if_neg hA, if_neg hB, hal, if_neg hC, if_neg hD]
                  rw [ht]
                  exact congrArg V.bool (Bool.eq_iff_iff.2 (by simp_all))
                · skip
                  refine VOps_skipU (.inl (skip_of rfl rfl rfl hq78)) rfl ?_
                  refine VOps_skipU (.inl (skip_of rfl rfl rfl hq78)) rfl ?_
                  refine VOps_skipU (.inl (skip_of rfl rfl rfl hq78)) rfl ?_
                  refine VOps_cons rfl rfl (V_pickF rfl hq78 rfl ?_)
                  refine VOps_cons rfl rfl (V_assign rfl ?_)
                  refine VOps_nil ?_
                  refine Then_n ?_
                  refine VW_ret ?_
                  refine VRet_one rfl (.tmp rfl) ?_
                  have ht : moreF ds rows c = (decide (al.2 = 0) && decide (al.1.length = 0)) := by unfold moreF lateR; rw [hlo, if_neg hA, if_neg hB, hal, if_neg hC, if_neg hD]
                  rw [ht]
                  exact congrArg V.bool (Bool.eq_iff_iff.2 (by simp_all))
            · skip
              have hD : ¬ ((0 < lo.1.length ∧ 0 < rows.length) ∧ (redOut ds (rows ++ [lo.1])).2 = 0 ∧ rows.length ∈ (redOut ds (rows ++ [lo.1])).1) := by rintro ⟨⟨_, h⟩, _⟩; omega
              refine VW_skip ?_
              refine Then_n ?_
              refine VW_seq ?_
              refine VW_region ?_
              refine VOps_cons rfl rfl (V_move rfl ?_)
              refine VOps_cons rfl rfl (V_bin rfl rfl rfl ?_)
              refine VOps_cons rfl rfl (V_move rfl ?_)
              refine VOps_split (q := 78) rfl (fun hq78 => ?_) (fun hq78 => ?_)
              · skip
                refine VOps_cons (want_of rfl rfl rfl hq78) rfl (V_move rfl ?_)
                refine VOps_cons (want_of rfl rfl rfl hq78) rfl (V_lenN (n := al.1.length) Try.underlying25 rfl (by simp) (fun hl80 => ?_))
                refine VOps_cons (want_of rfl rfl rfl hq78) rfl (V_bin rfl rfl rfl ?_)
                refine VOps_cons rfl rfl (V_pickT rfl hq78 rfl ?_)
                refine VOps_cons rfl rfl (V_assign rfl ?_)
                refine VOps_nil ?_
                refine Then_n ?_
                refine VW_ret ?_
                refine VRet_one rfl (.tmp rfl) ?_
                have ht : moreF ds rows c = (decide (al.2 = 0) && decide (al.1.length = 0)) := by unfold moreF lateR; rw [hlo, if_neg hA, if_neg hB, hal, if_neg hC, if_neg hD]
                rw [ht]
                exact congrArg V.bool (Bool.eq_iff_iff.2 (by simp_all))
              · skip
                refine VOps_skipU (.inl (skip_of rfl rfl rfl hq78)) rfl ?_
                refine VOps_skipU (.inl (skip_of rfl rfl rfl hq78)) rfl ?_
                refine VOps_skipU (.inl (skip_of rfl rfl rfl hq78)) rfl ?_
                refine VOps_cons rfl rfl (V_pickF rfl hq78 rfl ?_)
                refine VOps_cons rfl rfl (V_assign rfl ?_)
                refine VOps_nil ?_
                refine Then_n ?_
                refine VW_ret ?_
                refine VRet_one rfl (.tmp rfl) ?_
                have ht : moreF ds rows c = (decide (al.2 = 0) && decide (al.1.length = 0)) := by unfold moreF lateR; rw [hlo, if_neg hA, if_neg hB, hal, if_neg hC, if_neg hD]
                rw [ht]
                exact congrArg V.bool (Bool.eq_iff_iff.2 (by simp_all))
          · skip
            have hD : ¬ ((0 < lo.1.length ∧ 0 < rows.length) ∧ (redOut ds (rows ++ [lo.1])).2 = 0 ∧ rows.length ∈ (redOut ds (rows ++ [lo.1])).1) := by have := of_decide_eq_false hq52; rintro ⟨⟨h, _⟩, _⟩; omega
            refine VOps_skipU (.inl (skip_of rfl rfl rfl hq52)) rfl ?_
            refine VOps_skipU (.inl (skip_of rfl rfl rfl hq52)) rfl ?_
            refine VOps_skipU (.inl (skip_of rfl rfl rfl hq52)) rfl ?_
            refine VOps_cons rfl rfl (V_pickF rfl hq52 rfl ?_)
            refine VOps_nil ?_
            refine Then_n ?_
            refine VW_condF rfl rfl ?_
            refine VW_skip ?_
            refine Then_n ?_
            refine VW_seq ?_
            refine VW_region ?_
            refine VOps_cons rfl rfl (V_move rfl ?_)
            refine VOps_cons rfl rfl (V_bin rfl rfl rfl ?_)
            refine VOps_cons rfl rfl (V_move rfl ?_)
            refine VOps_split (q := 78) rfl (fun hq78 => ?_) (fun hq78 => ?_)
            · skip
              refine VOps_cons (want_of rfl rfl rfl hq78) rfl (V_move rfl ?_)
              refine VOps_cons (want_of rfl rfl rfl hq78) rfl (V_lenN (n := al.1.length) Try.underlying25 rfl (by simp) (fun hl80 => ?_))
              refine VOps_cons (want_of rfl rfl rfl hq78) rfl (V_bin rfl rfl rfl ?_)
              refine VOps_cons rfl rfl (V_pickT rfl hq78 rfl ?_)
              refine VOps_cons rfl rfl (V_assign rfl ?_)
              refine VOps_nil ?_
              refine Then_n ?_
              refine VW_ret ?_
              refine VRet_one rfl (.tmp rfl) ?_
              have ht : moreF ds rows c = (decide (al.2 = 0) && decide (al.1.length = 0)) := by unfold moreF lateR; rw [hlo, if_neg hA, if_neg hB, hal, if_neg hC, if_neg hD]
              rw [ht]
              exact congrArg V.bool (Bool.eq_iff_iff.2 (by simp_all))
            · skip
              refine VOps_skipU (.inl (skip_of rfl rfl rfl hq78)) rfl ?_
              refine VOps_skipU (.inl (skip_of rfl rfl rfl hq78)) rfl ?_
              refine VOps_skipU (.inl (skip_of rfl rfl rfl hq78)) rfl ?_
              refine VOps_cons rfl rfl (V_pickF rfl hq78 rfl ?_)
              refine VOps_cons rfl rfl (V_assign rfl ?_)
              refine VOps_nil ?_
              refine Then_n ?_
              refine VW_ret ?_
              refine VRet_one rfl (.tmp rfl) ?_
              have ht : moreF ds rows c = (decide (al.2 = 0) && decide (al.1.length = 0)) := by unfold moreF lateR; rw [hlo, if_neg hA, if_neg hB, hal, if_neg hC, if_neg hD]
              rw [ht]
              exact congrArg V.bool (Bool.eq_iff_iff.2 (by simp_all))


set_option maxRecDepth 100000 in
set_option maxHeartbeats 4000000 in
theorem drop_c (ds : List DataSig) (hz : Sized ds) (rows : List (List Pat)) : VPure Try.prog 5 [datasX ds, rowsX rows] (.bool (dropF ds rows)) := by
  have hR := Redundant_c ds hz rows
  generalize hro : redOut ds rows = ro at hR
  refine V_start (nt := 89) Try.func5 rfl rfl rfl ?_
  refine VW_seq ?_
  refine VW_region ?_
  refine VOps_cons rfl rfl (V_assign rfl ?_)
  refine VOps_nil ?_
  refine Then_n ?_
  refine VW_seq ?_
  refine VW_seq ?_
  refine VW_region ?_
  refine VOps_cons rfl rfl (V_callP [] rfl rfl VT.en11 (work_c) ?_)
  refine VOps_cons rfl rfl (V_not rfl ?_)
  refine VOps_nil ?_
  refine Then_n ?_
  refine VW_condF rfl (rfl) ?_
  refine VW_skip ?_
  refine Then_n ?_
  refine VW_seq ?_
  refine VW_region ?_
  refine VOps_cons rfl rfl (V_move rfl ?_)
  refine VOps_cons rfl rfl (V_move rfl ?_)
  refine VOps_cons rfl rfl (V_callP [.tmp 17, .tmp 18] rfl rfl VT.en13 (hR) ?_)
  refine VOps_cons rfl rfl (V_move rfl ?_)
  refine VOps_cons rfl rfl (V_extract rfl rfl ?_)
  refine VOps_cons rfl rfl (V_extract rfl rfl ?_)
  refine VOps_cons rfl rfl (V_assign rfl ?_)
  refine VOps_cons rfl rfl (V_assign rfl ?_)
  refine VOps_nil ?_
  refine Then_n ?_
  refine VW_seq ?_
  refine VW_seq ?_
  refine VW_region ?_
  refine VOps_cons rfl rfl (V_move rfl ?_)
  refine VOps_cons rfl rfl (V_bin rfl rfl rfl ?_)
  refine VOps_cons rfl rfl (V_move rfl ?_)
  refine VOps_split (q := 24) rfl (fun hq24 => ?_) (fun hq24 => ?_)
  · skip
    have h1 : ro.2 ≠ 0 := by simpa using hq24
    refine VOps_skipU (.inl (skip_of rfl rfl rfl hq24)) rfl ?_
    refine VOps_skipU (.inl (skip_of rfl rfl rfl hq24)) rfl ?_
    refine VOps_skipU (.inl (skip_of rfl rfl rfl hq24)) rfl ?_
    refine VOps_cons rfl rfl (V_pickT rfl hq24 rfl ?_)
    refine VOps_nil ?_
    refine Then_n ?_
    refine VW_condT rfl rfl ?_
    refine VW_seq ?_
    refine VW_region ?_
    refine VOps_cons rfl rfl (V_move rfl ?_)
    refine VOps_cons rfl rfl (V_lenN (n := ro.1.length) Try.underlying32 rfl (by simp) (fun hl30 => ?_))
    refine VOps_cons rfl rfl (V_bin rfl rfl rfl ?_)
    refine VOps_cons rfl rfl (V_assign rfl ?_)
    refine VOps_nil ?_
    refine Then_n ?_
    refine VW_ret ?_
    refine Then_r (VRet_one rfl (.tmp rfl) ?_)
    have ht : dropF ds rows = decide (ro.1.length = 0) := by unfold dropF; rw [hro, if_pos (by first | exact .inl h1 | exact .inr (by omega))]
    rw [ht]
    exact congrArg V.bool (Bool.eq_iff_iff.2 (by simp))
  · skip
    have h1 : ro.2 = 0 := by simpa using hq24
    refine VOps_cons (want_of rfl rfl rfl hq24) rfl (V_move rfl ?_)
    refine VOps_cons (want_of rfl rfl rfl hq24) rfl (V_lenN (n := ro.1.length) Try.underlying32 rfl (by simp) (fun hl26 => ?_))
    refine VOps_cons (want_of rfl rfl rfl hq24) rfl (V_bin rfl rfl rfl ?_)
    refine VOps_cons rfl rfl (V_pickF rfl hq24 rfl ?_)
    refine VOps_nil ?_
    refine Then_n ?_
    refine VW_condEq rfl (fun h28 => ?_) (fun h28 => ?_)
    · skip
      refine VW_seq ?_
      refine VW_region ?_
      refine VOps_cons rfl rfl (V_move rfl ?_)
      refine VOps_cons rfl rfl (V_lenN (n := ro.1.length) Try.underlying32 rfl (by simp) (fun hl30 => ?_))
      refine VOps_cons rfl rfl (V_bin rfl rfl rfl ?_)
      refine VOps_cons rfl rfl (V_assign rfl ?_)
      refine VOps_nil ?_
      refine Then_n ?_
      refine VW_ret ?_
      refine Then_r (VRet_one rfl (.tmp rfl) ?_)
      have ht : dropF ds rows = decide (ro.1.length = 0) := by unfold dropF; rw [hro, if_pos (by first | exact .inl h1 | exact .inr (by omega))]
      rw [ht]
      exact congrArg V.bool (Bool.eq_iff_iff.2 (by simp))
    · skip
      have hA : ¬ (ro.2 ≠ 0 ∨ ro.1.length = 0) := by rintro (h | h); exact h h1; exact h28 (by omega)
      have hck := redOut_zero (by rw [hro]; exact h1)
      obtain ⟨t, hb⟩ := check_build hck
      obtain ⟨hsm, hsame, _, _⟩ := check_parts hck hb
      have hrows := hsm.rows
      have hro2 : ro.1 = redTo t ds rows rows.length := by rw [← hro, redOut_ok hck hb]
      obtain ⟨k, hk⟩ := get_of_lt ro.1 (ro.1.length - 1) (by omega)
      have hkm := List.mem_of_getElem? hk
      rw [hro2] at hkm
      have hkl : k < rows.length := List.mem_range.1 (List.mem_filter.1 hkm).1
      have hlast : lastR ds rows = k := by unfold lastR; rw [hro, List.getD_eq_getElem?_getD, hk]; rfl
      obtain ⟨r0, rs, hr0⟩ : ∃ r0 rs, rows = r0 :: rs := by cases rows with | nil => simp at hkl | cons a b => exact ⟨a, b, rfl⟩
      have hw : width rows = r0.length := by rw [hr0]; rfl
      have hMa := Missing_c ds (checkTy hz) rows r0.length
      generalize ha : missOut ds rows r0.length = a at hMa
      have hMb := Missing_c ds (checkTy hz) (lessR rows k) r0.length
      generalize hbb : missOut ds (lessR rows k) r0.length = b at hMb
      refine VW_skip ?_
      refine Then_n ?_
      refine VW_seq ?_
      refine VW_region ?_
      refine VOps_cons rfl rfl (V_move rfl ?_)
      refine VOps_cons rfl rfl (V_indexAddr (el := patsX r0) VT.sl23 rfl rfl (by omega) (by rw [hr0]; rfl) (fun a33 => ?_))
      refine VOps_cons rfl rfl (V_load_ep VT.ty25 rfl rfl ?_)
      refine VOps_cons rfl rfl (V_lenN (n := r0.length) Try.underlying25 rfl (by simp) (fun hl35 => ?_))
      refine VOps_cons rfl rfl (V_assign rfl ?_)
      refine VOps_nil ?_
      refine Then_n ?_
      refine VW_seq ?_
      refine VW_region ?_
      refine VOps_cons rfl rfl (V_move rfl ?_)
      refine VOps_cons rfl rfl (V_move rfl ?_)
      refine VOps_cons rfl rfl (V_lenN (n := ro.1.length) Try.underlying32 rfl (by simp) (fun hl38 => ?_))
      refine VOps_cons rfl rfl (V_sub rfl rfl (by omega) ?_)
      refine VOps_cons rfl rfl (V_indexAddr (el := V.int k) VT.sl32 rfl rfl (by omega) (last_nat hk) (fun a40 => ?_))
      refine VOps_cons rfl rfl (V_load_ep VT.ty3 rfl rfl ?_)
      refine VOps_cons rfl rfl (V_assign rfl ?_)
      refine VOps_nil ?_
      refine Then_n ?_
      refine VW_seq ?_
      refine VW_seq ?_
      refine VW_region ?_
      refine VOps_cons rfl rfl (V_move rfl ?_)
      refine VOps_cons rfl rfl (V_bin rfl rfl rfl ?_)
      refine VOps_cons rfl rfl (V_move rfl ?_)
      refine VOps_split (q := 44) rfl (fun hq44 => ?_) (fun hq44 => ?_)
      · exact absurd hq44 (by simp)
      · skip
        refine VOps_cons (want_of rfl rfl rfl hq44) rfl (V_move rfl ?_)
        refine VOps_cons (want_of rfl rfl rfl hq44) rfl (V_move rfl ?_)
        refine VOps_cons (want_of rfl rfl rfl hq44) rfl (V_lenN (n := rows.length) Try.underlying23 rfl (by simp) (fun hl47 => ?_))
        refine VOps_cons (want_of rfl rfl rfl hq44) rfl (V_bin rfl rfl rfl ?_)
        refine VOps_cons rfl rfl (V_pickF rfl hq44 rfl ?_)
        refine VOps_nil ?_
        refine Then_n ?_
        refine VW_condP rfl (fun h49 => ?_) (fun h49 => ?_)
        · omega
        · skip
          refine VW_skip ?_
          refine Then_n ?_
          refine VW_seq ?_
          refine VW_draw (G := Tok) [([], [], []), ([], [1], []), ([], [8], []), ([2, 1], [51, 52], []), ([3, 2, 1, 0], [50, 53], [0]), ([], [1], []), ([], [8], []), ([6], [56], []), ([7, 6, 5], [55, 57], []), ([8, 7, 6, 5, 4, 3, 2, 1, 0], [54, 58], []), ([9, 8, 7, 6, 5, 4, 3, 2, 1, 0], [59], [])] [4, 9] (twoSt _ (fun x => [.buf x 25 1 ((rows.map patsX).take k).length]) (fun _ _ => [])) [9] [9, 50, 51, 52, 53, 54, 55, 56, 57, 58, 59] rfl VT.mix (by kernel_rfl) (by kernel_rfl) ?_
          refine DrawP_cons (eqRes _) (goodS rfl rfl ⟨(fun γ => Needs_nil (vopT rfl (V_lit0 [] VT.sl23 rfl rfl rfl evs_nil rfl rfl ⟨rfl, rfl⟩))), trivial⟩) ?_
          refine DrawP_cons (eqRes _) (goodS rfl rfl ⟨(fun γ => Needs_f (by kernel_rfl) (fun r1 h1 => Needs_nil (vopT rfl (V_move h1 ⟨rfl, rfl⟩)))), trivial⟩) ?_
          refine DrawP_cons (eqRes _) (goodS rfl rfl ⟨(fun γ => Needs_f (by kernel_rfl) (fun r8 h8 => Needs_nil (vopT rfl (V_move h8 ⟨rfl, rfl⟩)))), trivial⟩) ?_
          refine DrawP_cons (eqRes _) (goodS rfl rfl ⟨(fun γ => Needs_w 1 (by kernel_rfl) rfl (fun r51 h51 => Needs_w 2 (by kernel_rfl) rfl (fun r52 h52 => Needs_nil (vopT rfl (V_sliceTo VT.sl23 h51 h52 (by omega) (by simp; omega) ⟨rfl, rfl⟩))))), trivial⟩) ?_
          refine DrawP_cons (oneRes (fun x => .sl 1 (some x) ((rows.map patsX).take k))) (goodU 0 rfl (fun γ => Needs_w 0 (by kernel_rfl) rfl (fun r50 h50 => Needs_w 3 (by kernel_rfl) rfl (fun r53 h53 => Needs_nil (vopT rfl (V_append0 VT.sl23 h50 h53 (by simp; omega) (fun t54 => ⟨t54, ⟨t54, rfl, rfl⟩, rfl⟩))))))) ?_
          refine DrawP_cons (eqRes _) (goodS rfl rfl ⟨(fun γ => Needs_f (by kernel_rfl) (fun r1 h1 => Needs_nil (vopT rfl (V_move h1 ⟨rfl, rfl⟩)))), (fun γ => Needs_f (by kernel_rfl) (fun r1 h1 => Needs_nil (vopT rfl (V_move h1 ⟨rfl, rfl⟩)))), trivial⟩) ?_
          refine DrawP_cons (eqRes _) (goodS rfl rfl ⟨(fun γ => Needs_f (by kernel_rfl) (fun r8 h8 => Needs_nil (vopT rfl (V_move h8 ⟨rfl, rfl⟩)))), (fun γ => Needs_f (by kernel_rfl) (fun r8 h8 => Needs_nil (vopT rfl (V_move h8 ⟨rfl, rfl⟩)))), trivial⟩) ?_
          refine DrawP_cons (eqRes _) (goodS rfl rfl ⟨(fun γ => Needs_w 6 (by kernel_rfl) rfl (fun r56 h56 => Needs_nil (vopT rfl (V_add h56 rfl (by omega) ⟨rfl, rfl⟩)))), (fun γ => Needs_w 6 (by kernel_rfl) rfl (fun r56 h56 => Needs_nil (vopT rfl (V_add h56 rfl (by omega) ⟨rfl, rfl⟩)))), trivial⟩) ?_
          refine DrawP_cons (eqRes _) (goodS rfl rfl ⟨(fun γ => Needs_w 5 (by kernel_rfl) rfl (fun r55 h55 => Needs_w 7 (by kernel_rfl) rfl (fun r57 h57 => Needs_nil (vopT rfl (V_sliceFrom VT.sl23 h55 h57 (by omega) (by simp; omega) ⟨rfl, rfl⟩))))), (fun γ => Needs_w 5 (by kernel_rfl) rfl (fun r55 h55 => Needs_w 7 (by kernel_rfl) rfl (fun r57 h57 => Needs_nil (vopT rfl (V_sliceFrom VT.sl23 h55 h57 (by omega) (by simp; omega) ⟨rfl, rfl⟩))))), trivial⟩) ?_
          refine DrawP_cons (eqRes _) (goodU 1 rfl (fun γ => Needs_w 4 (by kernel_rfl) rfl (fun r54 h54 => Needs_w 8 (by kernel_rfl) rfl (fun r58 h58 => Needs_nil (oneE h54 (fun e54 => vopT rfl (V_appendEnd 0 _ VT.sl23 e54 h58 rfl (by simp) (by simp; omega) (zs := (lessR rows k).map patsX) (by simp [lessR]) ⟨.nil, rfl, rfl⟩))))))) ?_
          refine DrawP_cons (eqRes _) (goodS rfl rfl ⟨(fun γ => Needs_w 9 (by kernel_rfl) rfl (fun r59 h59 => Needs_nil (vopT rfl (V_assign h59 ⟨rfl, rfl⟩)))), trivial⟩) ?_
          refine DrawP_nil (fun γ => Needs_w 10 (by kernel_rfl) rfl (fun r9 h9 => Needs_nil ?_))
          have e9 : r9 = some _ := h9
          subst e9
          clear h9
          refine Then_n ?_
          refine VW_seq ?_
          refine VW_region ?_
          refine VOps_cons rfl rfl (V_move rfl ?_)
          refine VOps_cons rfl rfl (V_move rfl ?_)
          refine VOps_cons rfl rfl (V_move rfl ?_)
          refine VOps_cons rfl rfl (V_callP [.tmp 61, .tmp 62, .tmp 63] rfl rfl VT.en12 (hMa) ?_)
          refine VOps_cons rfl rfl (V_move rfl ?_)
          refine VOps_cons rfl rfl (V_extract rfl rfl ?_)
          refine VOps_cons rfl rfl (V_extract rfl rfl ?_)
          refine VOps_cons rfl rfl (V_assign rfl ?_)
          refine VOps_cons rfl rfl (V_assign rfl ?_)
          refine VOps_nil ?_
          refine Then_n ?_
          refine VW_seq ?_
          refine VW_region ?_
          refine VOps_cons rfl rfl (V_move rfl ?_)
          refine VOps_cons rfl rfl (V_move rfl ?_)
          refine VOps_cons rfl rfl (V_move rfl ?_)
          refine VOps_cons rfl rfl (V_callP [.tmp 68, .tmp 69, .tmp 70] rfl rfl VT.en12 (hMb) ?_)
          refine VOps_cons rfl rfl (V_move rfl ?_)
          refine VOps_cons rfl rfl (V_extract rfl rfl ?_)
          refine VOps_cons rfl rfl (V_extract rfl rfl ?_)
          refine VOps_cons rfl rfl (V_assign rfl ?_)
          refine VOps_cons rfl rfl (V_assign rfl ?_)
          refine VOps_nil ?_
          refine Then_n ?_
          refine VW_seq ?_
          refine VW_region ?_
          refine VOps_cons rfl rfl (V_move rfl ?_)
          refine VOps_cons rfl rfl (V_bin rfl rfl rfl ?_)
          refine VOps_cons rfl rfl (V_move rfl ?_)
          refine VOps_split (q := 76) rfl (fun hq76 => ?_) (fun hq76 => ?_)
          · skip
            have h2 : a.2 = 0 := by simpa using hq76
            refine VOps_cons (want_of rfl rfl rfl hq76) rfl (V_move rfl ?_)
            refine VOps_cons (want_of rfl rfl rfl hq76) rfl (V_bin rfl rfl rfl ?_)
            refine VOps_cons rfl rfl (V_pickT rfl hq76 rfl ?_)
            refine VOps_cons rfl rfl (V_move rfl ?_)
            refine VOps_split (q := 80) rfl (fun hq80 => ?_) (fun hq80 => ?_)
            · skip
              have h3 : b.2 = 0 := by simpa using hq80
              refine VOps_cons (want_of rfl rfl rfl hq80) rfl (V_move rfl ?_)
              refine VOps_cons (want_of rfl rfl rfl hq80) rfl (V_lenN (n := a.1.length) Try.underlying25 rfl (by simp) (fun hl82 => ?_))
              refine VOps_cons (want_of rfl rfl rfl hq80) rfl (V_bin rfl rfl rfl ?_)
              refine VOps_cons (want_of rfl rfl rfl hq80) rfl (V_move rfl ?_)
              refine VOps_cons (want_of rfl rfl rfl hq80) rfl (V_lenN (n := b.1.length) Try.underlying25 rfl (by simp) (fun hl85 => ?_))
              refine VOps_cons (want_of rfl rfl rfl hq80) rfl (V_bin rfl rfl rfl ?_)
              refine VOps_cons (want_of rfl rfl rfl hq80) rfl (V_booleq Try.underlying4 rfl rfl ?_)
              refine VOps_cons rfl rfl (V_pickT rfl hq80 rfl ?_)
              refine VOps_cons rfl rfl (V_assign rfl ?_)
              refine VOps_nil ?_
              refine Then_n ?_
              refine VW_ret ?_
              refine VRet_one rfl (.tmp rfl) ?_
              have ht : dropF ds rows = (decide (a.2 = 0) && decide (b.2 = 0) && (decide (0 < a.1.length) == decide (0 < b.1.length))) := by unfold dropF; rw [hro, if_neg hA, hlast, if_neg (not_not_intro hkl), hw, ha, hbb]
              rw [ht]
              refine congrArg V.bool ?_
              first | (simp [h2]; done) | (simp [h2, h3]; done) | (simp_all)
            · skip
              have h3 : ¬ (a.2 = 0 ∧ b.2 = 0) := by simp_all
              refine VOps_skipU (.inl (skip_of rfl rfl rfl hq80)) rfl ?_
              refine VOps_skipU (.inl (skip_of rfl rfl rfl hq80)) rfl ?_
              refine VOps_skipU (.inl (skip_of rfl rfl rfl hq80)) rfl ?_
              refine VOps_skipU (.inl (skip_of rfl rfl rfl hq80)) rfl ?_
              refine VOps_skipU (.inl (skip_of rfl rfl rfl hq80)) rfl ?_
              refine VOps_skipU (.inl (skip_of rfl rfl rfl hq80)) rfl ?_
              refine VOps_skipU (.inl (skip_of rfl rfl rfl hq80)) rfl ?_
              refine VOps_cons rfl rfl (V_pickF rfl hq80 rfl ?_)
              refine VOps_cons rfl rfl (V_assign rfl ?_)
              refine VOps_nil ?_
              refine Then_n ?_
              refine VW_ret ?_
              refine VRet_one rfl (.tmp rfl) ?_
              have ht : dropF ds rows = (decide (a.2 = 0) && decide (b.2 = 0) && (decide (0 < a.1.length) == decide (0 < b.1.length))) := by unfold dropF; rw [hro, if_neg hA, hlast, if_neg (not_not_intro hkl), hw, ha, hbb]
              rw [ht]
              refine congrArg V.bool ?_
              first | (simp [h2]; done) | (simp [h2, h3]; done) | (simp_all)
          · skip
            have h2 : a.2 ≠ 0 := by simpa using hq76
            refine VOps_skipU (.inl (skip_of rfl rfl rfl hq76)) rfl ?_
            refine VOps_skipU (.inl (skip_of rfl rfl rfl hq76)) rfl ?_
            refine VOps_cons rfl rfl (V_pickF rfl hq76 rfl ?_)
            refine VOps_cons rfl rfl (V_move rfl ?_)
            refine VOps_skipU (.inl (skip_of rfl rfl rfl rfl)) rfl ?_
            refine VOps_skipU (.inl (skip_of rfl rfl rfl rfl)) rfl ?_
            refine VOps_skipU (.inl (skip_of rfl rfl rfl rfl)) rfl ?_
            refine VOps_skipU (.inl (skip_of rfl rfl rfl rfl)) rfl ?_
            refine VOps_skipU (.inl (skip_of rfl rfl rfl rfl)) rfl ?_
            refine VOps_skipU (.inl (skip_of rfl rfl rfl rfl)) rfl ?_
            refine VOps_skipU (.inl (skip_of rfl rfl rfl rfl)) rfl ?_
            refine VOps_cons rfl rfl (V_pickF rfl rfl rfl ?_)
            refine VOps_cons rfl rfl (V_assign rfl ?_)
            refine VOps_nil ?_
            refine Then_n ?_
            refine VW_ret ?_
            refine VRet_one rfl (.tmp rfl) ?_
            have ht : dropF ds rows = (decide (a.2 = 0) && decide (b.2 = 0) && (decide (0 < a.1.length) == decide (0 < b.1.length))) := by unfold dropF; rw [hro, if_neg hA, hlast, if_neg (not_not_intro hkl), hw, ha, hbb]
            rw [ht]
            refine congrArg V.bool ?_
            first | (simp [h2]; done) | (simp [h2, h3]; done) | (simp_all)


set_option maxRecDepth 100000 in
set_option maxHeartbeats 4000000 in
theorem names_c (ds : List DataSig) (hz : Sized ds) (rows : List (List Pat)) (c : Int) : VPure Try.prog 6 [datasX ds, rowsX rows, .int c] (.bool true) := by
  have hM := Missing_c ds (checkTy hz) rows c
  generalize hlo : missOut ds rows c = lo at hM
  refine V_start (nt := 83) Try.func6 rfl rfl rfl ?_
  refine VW_seq ?_
  refine VW_region ?_
  refine VOps_cons rfl rfl (V_assign rfl ?_)
  refine VOps_nil ?_
  refine Then_n ?_
  refine VW_seq ?_
  refine VW_seq ?_
  refine VW_region ?_
  refine VOps_cons rfl rfl (V_callP [] rfl rfl VT.en11 (work_c) ?_)
  refine VOps_cons rfl rfl (V_not rfl ?_)
  refine VOps_nil ?_
  refine Then_n ?_
  refine VW_condF rfl (rfl) ?_
  refine VW_skip ?_
  refine Then_n ?_
  refine VW_seq ?_
  refine VW_region ?_
  refine VOps_cons rfl rfl (V_move rfl ?_)
  refine VOps_cons rfl rfl (V_move rfl ?_)
  refine VOps_cons rfl rfl (V_move rfl ?_)
  refine VOps_cons rfl rfl (V_callP [.tmp 21, .tmp 22, .tmp 23] rfl rfl VT.en12 (hM) ?_)
  refine VOps_cons rfl rfl (V_move rfl ?_)
  refine VOps_cons rfl rfl (V_extract rfl rfl ?_)
  refine VOps_cons rfl rfl (V_extract rfl rfl ?_)
  refine VOps_cons rfl rfl (V_assign rfl ?_)
  refine VOps_cons rfl rfl (V_assign rfl ?_)
  refine VOps_nil ?_
  refine Then_n ?_
  refine VW_seq ?_
  refine VW_seq ?_
  refine VW_region ?_
  refine VOps_cons rfl rfl (V_move rfl ?_)
  refine VOps_cons rfl rfl (V_bin rfl rfl rfl ?_)
  refine VOps_nil ?_
  refine Then_n ?_
  refine VW_condNe rfl (fun h28 => ?_) (fun h28 => ?_)
  · skip
    have hl0 : lo.1 = [] := by rw [← hlo]; exact missOut_none (by rw [hlo]; exact h28)
    refine VW_seq ?_
    refine VW_region ?_
    refine VOps_cons rfl rfl (V_move rfl ?_)
    refine VOps_cons rfl rfl (V_lenN (n := lo.1.length) Try.underlying25 rfl (by simp) (fun hl30 => ?_))
    refine VOps_cons rfl rfl (V_bin rfl rfl rfl ?_)
    refine VOps_cons rfl rfl (V_assign rfl ?_)
    refine VOps_nil ?_
    refine Then_n ?_
    refine VW_ret ?_
    refine Then_r (VRet_one rfl (.tmp rfl) ?_)
    rw [hl0]
    rfl
  · skip
    have h1 : (missOut ds rows c).2 = 0 := by rw [hlo]; exact h28
    obtain ⟨hck, hnb⟩ := miss_zero h1
    obtain ⟨t, hb⟩ := check_build hck
    obtain ⟨hsm, hsame, _, _⟩ := check_parts hck hb
    have hrows := hsm.rows
    have hnodes := hsm.nodes
    have hR := Redundant_c ds hz rows
    have hR2 := Redundant_c ds hz (bare rows)
    rw [redOut_plain hck] at hR2
    have hro0 : (redOut ds rows).2 = 0 := by rw [redOut_ok hck hb]
    generalize hro : redOut ds rows = ro at hR hR2 hro0
    have hM2 := Missing_c ds (checkTy hz) (bare rows) c
    rw [missOut_plain h1, hlo] at hM2
    refine VW_skip ?_
    refine Then_n ?_
    refine VW_seq ?_
    refine VW_region ?_
    refine VOps_cons rfl rfl (V_assign_nil 25 1 ?_)
    refine VOps_nil ?_
    refine Then_n ?_
    refine VW_seq ?_
    refine VW_seq ?_
    refine VW_region ?_
    refine VOps_cons rfl rfl (V_move rfl ?_)
    refine VOps_cons rfl rfl (V_lenN (n := rows.length) Try.underlying23 rfl (by simp) (fun hl33 => ?_))
    refine VOps_cons rfl rfl (V_move rfl ?_)
    refine VOps_nil ?_
    refine Then_n ?_
    refine VW_block ?_
    refine VW_loopF (ι := Nat × Tok) (fun (k, tk) => rows.length - k) (fun (k, tk) => [(0, some (datasX ds)), (1, some (rowsX rows)), (2, some (.int c)), (7, some (patsX lo.1)), (9, some (.sl 1 (some tk) ((bare (rows.take k)).map patsX))), (32, some (rowsX rows)), (33, some (.int rows.length)), (34, some (.int k))]) (fun (k, tk) => [.buf tk 25 1 (bare (rows.take k)).length]) (fun (k, tk) => k ≤ rows.length) (0, .nil) (by simp) ⟨rfl, rfl, rfl, rfl, rfl, rfl, rfl, rfl, trivial⟩ (Drops.buf rfl (Drops.refl _)) ?_
    rintro ⟨k, tk⟩ hk
    change k ≤ rows.length at hk
    refine VW_seq ?_
    refine VW_region ?_
    refine VOps_cons rfl rfl (V_bin rfl rfl rfl ?_)
    refine VOps_nil ?_
    refine Then_n ?_
    refine VW_seq ?_
    refine VW_condP rfl (fun h35 => ?_) (fun h35 => ?_)
    · skip
      obtain ⟨r, hr⟩ := get_of_lt rows k h35
      have hcr := cL_row (List.mem_of_getElem? hr)
      have hcp := plain_c 401 r (by omega) (by omega)
      have hsn : (bare (rows.take (k + 1))).map patsX = (bare (rows.take k)).map patsX ++ [patsX (plainL r)] := by rw [take_snoc hr]; simp [bare]
      have hln : (bare (rows.take (k + 1))).length = (bare (rows.take k)).length + 1 := by rw [take_snoc hr]; simp [bare]
      refine VW_skip ?_
      refine Then_n ?_
      refine VW_seq ?_
      refine VW_block ?_
      refine VW_seq ?_
      refine VW_region ?_
      refine VOps_cons rfl rfl (V_indexAddr (el := patsX r) VT.sl23 rfl rfl (by omega) (get_mapS _ hr) (fun a36 => ?_))
      refine VOps_cons rfl rfl (V_load_ep VT.ty25 rfl rfl ?_)
      refine VOps_cons rfl rfl (V_assign rfl ?_)
      refine VOps_nil ?_
      refine Then_n ?_
      refine VW_region ?_
      refine VOps_cons rfl rfl (V_move rfl ?_)
      refine VOps_cons rfl rfl (V_move rfl ?_)
      refine VOps_cons rfl rfl (V_callP [.tmp 39] rfl rfl VT.en15 (hcp) ?_)
      refine VOps_cons rfl rfl (V_lit [.tmp 40] VT.sl23 rfl rfl rfl rfl rfl ?_)
      refine VOps_cons rfl rfl (V_appendN 0 _ VT.sl23 rfl rfl rfl (by simp) (by simp; omega) (fun t42 => ?_))
      refine VOps_cons rfl rfl (V_assign rfl ?_)
      refine VOps_nil ?_
      refine InBlock_n (Then_n ?_)
      refine VW_region ?_
      refine VOps_cons rfl rfl (V_add rfl rfl (by omega) ?_)
      refine VOps_cons rfl rfl (V_move rfl ?_)
      refine VOps_nil ?_
      refine Then_n ?_
      exact ⟨(k + 1, t42), (by (try simp only []); omega), (by omega), ⟨rfl, rfl, rfl, rfl, (by rw [hsn]; rfl), rfl, rfl, rfl, trivial⟩, (Drops.buf (by rw [hln]; simp) (Drops.refl _))⟩
    · skip
      refine VW_exit ?_
      refine Then_e (Then_e (InBlock_hit ?_))
      refine Then_n ?_
      refine VW_seq ?_
      refine VW_region ?_
      refine VOps_cons rfl rfl (V_move rfl ?_)
      refine VOps_cons rfl rfl (VOp_as (V_move rfl ⟨rfl, rfl⟩) (V.le.strip) ?_)
      refine VOps_cons rfl rfl (V_move rfl ?_)
      refine VOps_cons rfl rfl (V_callP [.tmp 45, .tmp 46, .tmp 47] rfl rfl VT.en12 ((by rw [take_end h35]; exact hM2 : VPure Try.prog 12 [datasX ds, rowsX (bare (rows.take k)), .int c] (outV lo))) ?_)
      refine VOps_cons rfl rfl (V_move rfl ?_)
      refine VOps_cons rfl rfl (V_extract rfl rfl ?_)
      refine VOps_cons rfl rfl (V_extract rfl rfl ?_)
      refine VOps_cons rfl rfl (V_assign rfl ?_)
      refine VOps_cons rfl rfl (V_assign rfl ?_)
      refine VOps_nil ?_
      refine Then_n ?_
      refine VW_seq ?_
      refine VW_region ?_
      refine VOps_cons rfl rfl (V_move rfl ?_)
      refine VOps_cons rfl rfl (V_move rfl ?_)
      refine VOps_cons rfl rfl (V_callP [.tmp 52, .tmp 53] rfl rfl VT.en13 (hR) ?_)
      refine VOps_cons rfl rfl (V_move rfl ?_)
      refine VOps_cons rfl rfl (V_extract rfl rfl ?_)
      refine VOps_cons rfl rfl (V_extract rfl rfl ?_)
      refine VOps_cons rfl rfl (V_assign rfl ?_)
      refine VOps_cons rfl rfl (V_assign rfl ?_)
      refine VOps_nil ?_
      refine Then_n ?_
      refine VW_seq ?_
      refine VW_region ?_
      refine VOps_cons rfl rfl (V_move rfl ?_)
      refine VOps_cons rfl rfl (VOp_as (V_move rfl ⟨rfl, rfl⟩) (V.le.strip) ?_)
      refine VOps_cons rfl rfl (V_callP [.tmp 58, .tmp 59] rfl rfl VT.en13 ((by rw [take_end h35]; exact hR2 : VPure Try.prog 13 [datasX ds, rowsX (bare (rows.take k))] (redV ro))) ?_)
      refine VOps_cons rfl rfl (V_move rfl ?_)
      refine VOps_cons rfl rfl (V_extract rfl rfl ?_)
      refine VOps_cons rfl rfl (V_extract rfl rfl ?_)
      refine VOps_cons rfl rfl (V_assign rfl ?_)
      refine VOps_cons rfl rfl (V_assign rfl ?_)
      refine VOps_nil ?_
      refine Then_n ?_
      refine VW_seq ?_
      refine VW_region ?_
      refine VOps_cons rfl rfl (V_move rfl ?_)
      refine VOps_cons rfl rfl (V_bin rfl rfl rfl ?_)
      refine VOps_cons rfl rfl (V_move rfl ?_)
      refine VOps_split (q := 65) rfl (fun hq65 => ?_) (fun hq65 => ?_)
      · skip
        refine VOps_cons (want_of rfl rfl rfl hq65) rfl (V_move rfl ?_)
        refine VOps_cons (want_of rfl rfl rfl hq65) rfl (V_bin rfl rfl rfl ?_)
        refine VOps_cons rfl rfl (V_pickT rfl hq65 rfl ?_)
        refine VOps_cons rfl rfl (V_move rfl ?_)
        refine VOps_split (q := 69) rfl (fun hq69 => ?_) (fun hq69 => ?_)
        · skip
          refine VOps_cons (want_of rfl rfl rfl hq69) rfl (V_move rfl ?_)
          refine VOps_cons (want_of rfl rfl rfl hq69) rfl (V_bin rfl rfl rfl ?_)
          refine VOps_cons rfl rfl (V_pickT rfl hq69 rfl ?_)
          refine VOps_cons rfl rfl (V_move rfl ?_)
          refine VOps_split (q := 73) rfl (fun hq73 => ?_) (fun hq73 => ?_)
          · skip
            refine VOps_cons (want_of rfl rfl rfl hq73) rfl (V_move rfl ?_)
            refine VOps_cons (want_of rfl rfl rfl hq73) rfl (V_move rfl ?_)
            refine VOps_cons (want_of rfl rfl rfl hq73) rfl (V_callP [.tmp 74, .tmp 75] rfl rfl VT.en16 (samePats_c _ lo.1 (Nat.lt_succ_self _)) ?_)
            refine VOps_cons rfl rfl (V_pickT rfl hq73 rfl ?_)
            refine VOps_cons rfl rfl (V_move rfl ?_)
            refine VOps_split (q := 78) rfl (fun hq78 => ?_) (fun hq78 => ?_)
            · skip
              refine VOps_cons (want_of rfl rfl rfl hq78) rfl (V_move rfl ?_)
              refine VOps_cons (want_of rfl rfl rfl hq78) rfl (V_move rfl ?_)
              refine VOps_cons (want_of rfl rfl rfl hq78) rfl (V_callP [.tmp 79, .tmp 80] rfl rfl VT.en17 (sameInts_c ro.1) ?_)
              refine VOps_cons rfl rfl (V_pickT rfl hq78 rfl ?_)
              refine VOps_cons rfl rfl (V_assign rfl ?_)
              refine VOps_nil ?_
              refine Then_n ?_
              refine VW_ret ?_
              refine VRet_one rfl (.tmp rfl) ?_
              rfl
            · exact absurd hq78 (by simp)
          · exact absurd hro0 (by simpa using hq73)
        · exact absurd hro0 (by simpa using hq69)
      · exact absurd h28 (by simpa using hq65)


end Go.Proofs.Ytmjeaagpcmfnpaa.W15
