/- Walks, printed by walk.py. -/
import Derived.Test.YtmjeaagpcmfnpaaVT
import Derived.Test.YtmjeaagpcmfnpaaVDA
import Derived.Test.YtmjeaagpcmfnpaaVB
import Derived.Test.YtmjeaagpcmfnpaaW1
import Derived.Test.YtmjeaagpcmfnpaaW2
import Derived.Test.YtmjeaagpcmfnpaaW3
import Derived.Test.YtmjeaagpcmfnpaaW4
import Derived.Test.YtmjeaagpcmfnpaaW7
set_option linter.unusedVariables false
set_option linter.unusedSimpArgs false
namespace Go.Proofs.Ytmjeaagpcmfnpaa.W8
open Go.VL Go.PM Go.Proofs.Ytmjeaagpcmfnpaa Go.Proofs.Ytmjeaagpcmfnpaa.W1 Go.Proofs.Ytmjeaagpcmfnpaa.W2 Go.Proofs.Ytmjeaagpcmfnpaa.W3 Go.Proofs.Ytmjeaagpcmfnpaa.W4 Go.Proofs.Ytmjeaagpcmfnpaa.W7

theorem build_no {ds : List DataSig} (h : buildF 0 ds [] = none) : VPure Try.prog 39 [datasX ds] (.tup [.agg VT.zs65, .int 7]) := (build_c ds).mono fun r S' k => by
  rcases k with ⟨g, t, h1, _⟩ | ⟨_, h2, _⟩
  · rw [h] at h1; cases h1
  · exact h2
theorem build_yes {ds : List DataSig} {t : Tab} (h : buildF 0 ds [] = some t) : VCalls Try.prog 39 [datasX ds] [] fun r S' => ∃ g, r = .tup [tabX ds g, .int 0] ∧ S' = [tabO g t] := (build_c ds).mono fun r S' k => by
  rcases k with ⟨g, t', h1, h2, h3⟩ | ⟨h1, _, _⟩
  · rw [h] at h1
    injection h1 with h1
    subst h1
    exact ⟨g, h2, h3⟩
  · rw [h] at h1; cases h1

set_option maxRecDepth 100000 in
set_option maxHeartbeats 4000000 in
theorem check_c (ds : List DataSig) (rows : List (List Pat)) : VCalls Try.prog 27 [datasX ds, rowsX rows] [] fun r S' => (checkF ds rows = 0 ∧ ∃ g t, buildF 0 ds [] = some t ∧ r = .tup [tabX ds g, .int 0] ∧ S' = [tabO g t]) ∨ (checkF ds rows ≠ 0 ∧ r = .tup [.agg VT.zs65, .int (checkF ds rows)] ∧ S' = []) := by
  refine VCalls_drops ?_
  refine V_start (nt := 102) Try.func27 rfl rfl rfl ?_
  refine VW_seq ?_
  refine VW_region ?_
  refine VOps_cons rfl rfl (V_alloc VT.zr65 _ rfl rfl (fun g4 => ?_))
  refine VOps_cons rfl rfl (V_assign rfl ?_)
  refine VOps_nil ?_
  refine Then_n ?_
  refine VW_seq ?_
  refine VW_seq ?_
  refine VW_region ?_
  refine VOps_cons rfl rfl (V_move rfl ?_)
  refine VOps_cons rfl rfl (V_move rfl ?_)
  refine VOps_cons rfl rfl (V_callP [.tmp 19, .tmp 20] rfl rfl VT.en38 (small_c ds rows) ?_)
  refine VOps_cons rfl rfl (V_not rfl ?_)
  refine VOps_nil ?_
  refine Then_n ?_
  refine VW_condN rfl (fun h22 => ?_) (fun h22 => ?_)
  · skip
    have he : checkF ds rows = 2 := by simp [checkF, h22]
    refine VW_seq ?_
    refine VW_region ?_
    refine VOps_cons rfl rfl (V_build [] [] VT.st65 rfl rfl rfl rfl ?_)
    refine VOps_cons rfl rfl (V_store_agg 0 VT.ty65 rfl rfl rfl rfl rfl ?_)
    refine VOps_cons rfl rfl (V_assign rfl ?_)
    refine VOps_nil ?_
    refine Then_n ?_
    refine VW_ret ?_
    refine Then_r (VRet_many rfl rfl (.cons (.agg (i := 0) VT.ty65 rfl rfl rfl) (.cons (.tmp rfl) (.nil))) ?_)
    exact ⟨_, Drops.nil _, .inr ⟨by rw [he]; omega, by rw [he]; rfl, rfl⟩⟩
  · skip
    have hs := h22
    have hsm := small_of h22
    refine VW_skip ?_
    refine Then_n ?_
    refine VW_seq ?_
    refine VW_region ?_
    refine VOps_cons rfl rfl (V_move rfl ?_)
    rcases hb : buildF 0 ds [] with _ | t
    · skip
      have he : checkF ds rows = 7 := by simp [checkF, hs, hb]
      refine VOps_cons rfl rfl (V_callP [.tmp 25] rfl rfl VT.en39 (build_no hb) ?_)
      refine VOps_cons rfl rfl (V_move rfl ?_)
      refine VOps_cons rfl rfl (V_extract rfl rfl ?_)
      refine VOps_cons rfl rfl (V_extract rfl rfl ?_)
      refine VOps_cons rfl rfl (V_alloc VT.zr65 _ rfl rfl (fun g6 => ?_))
      refine VOps_cons rfl rfl (V_store_agg 0 VT.ty65 rfl rfl rfl rfl rfl ?_)
      refine VOps_cons rfl rfl (V_assign rfl ?_)
      refine VOps_nil ?_
      refine Then_n ?_
      refine VW_seq ?_
      refine VW_seq ?_
      refine VW_region ?_
      refine VOps_cons rfl rfl (V_move rfl ?_)
      refine VOps_cons rfl rfl (V_bin rfl rfl rfl ?_)
      refine VOps_nil ?_
      refine Then_n ?_
      refine VW_condT rfl (rfl) ?_
      refine VW_seq ?_
      refine VW_region ?_
      refine VOps_cons rfl rfl (V_build [] [] VT.st65 rfl rfl rfl rfl ?_)
      refine VOps_cons rfl rfl (V_move rfl ?_)
      refine VOps_cons rfl rfl (V_store_agg 1 VT.ty65 rfl rfl rfl rfl rfl ?_)
      refine VOps_cons rfl rfl (V_assign rfl ?_)
      refine VOps_nil ?_
      refine Then_n ?_
      refine VW_ret ?_
      refine Then_r (VRet_many rfl rfl (.cons (.agg (i := 1) VT.ty65 rfl rfl rfl) (.cons (.tmp rfl) (.nil))) ?_)
      exact ⟨_, Drops.nil _, .inr ⟨by rw [he]; omega, by rw [he]; rfl, rfl⟩⟩
    · skip
      refine VOps_cons rfl rfl (V_call [.tmp 25] [] _ rfl rfl VT.en39 (.refl _) (build_yes hb) ?_)
      rintro r Sa ⟨g, rfl, rfl⟩
      refine VOps_cons rfl rfl (V_move rfl ?_)
      refine VOps_cons rfl rfl (V_extract rfl rfl ?_)
      refine VOps_cons rfl rfl (V_extract rfl rfl ?_)
      refine VOps_cons rfl rfl (V_alloc VT.zr65 _ rfl rfl (fun g6 => ?_))
      refine VOps_cons rfl rfl (V_store_agg 0 VT.ty65 rfl rfl rfl rfl rfl ?_)
      refine VOps_cons rfl rfl (V_assign rfl ?_)
      refine VOps_nil ?_
      refine Then_n ?_
      refine VW_seq ?_
      refine VW_seq ?_
      refine VW_region ?_
      refine VOps_cons rfl rfl (V_move rfl ?_)
      refine VOps_cons rfl rfl (V_bin rfl rfl rfl ?_)
      refine VOps_nil ?_
      refine Then_n ?_
      refine VW_condF rfl (rfl) ?_
      refine VW_skip ?_
      refine Then_n ?_
      refine VW_seq ?_
      refine VW_seq ?_
      refine VW_region ?_
      refine VOps_cons rfl rfl (V_move rfl ?_)
      refine VOps_cons rfl rfl (V_lenN (n := rows.length) Try.underlying23 rfl (by simp) (fun hl34 => ?_))
      refine VOps_cons rfl rfl (V_move rfl ?_)
      refine VOps_nil ?_
      refine Then_n ?_
      refine VW_block ?_
      refine VW_loopF (ι := Nat) (fun k => rows.length - k) (fun k => [(1, some (rowsX rows)), (4, some (.ptr g4 0)), (6, some (.ptr g6 0)), (33, some (rowsX rows)), (34, some (.int rows.length)), (35, some (.int k))]) (fun k => [.cells g6 65 [datasX ds, .raw (.map (some g))], tabO g t, .cells g4 65 VT.zs65]) (fun k => k ≤ rows.length ∧ (rows.take k).all (sameLen rows) = true) 0 ⟨Nat.zero_le _, rfl⟩ ⟨rfl, rfl, rfl, rfl, rfl, rfl, trivial⟩ (Drops.keep (Drops.keep (Drops.keep (Drops.refl _)))) ?_
      rintro k hA
      change k ≤ rows.length ∧ (rows.take k).all (sameLen rows) = true at hA
      obtain ⟨hk, hall⟩ := hA
      refine VW_seq ?_
      refine VW_region ?_
      refine VOps_cons rfl rfl (V_bin rfl rfl rfl ?_)
      refine VOps_nil ?_
      refine Then_n ?_
      refine VW_seq ?_
      refine VW_condP rfl (fun h36 => ?_) (fun h36 => ?_)
      · skip
        obtain ⟨r, hr⟩ := get_of_lt rows k h36
        obtain ⟨r0, rs, hr0⟩ : ∃ r0 rs, rows = r0 :: rs := by cases rows with | nil => simp at hr | cons a b => exact ⟨a, b, rfl⟩
        have hw : width rows = r0.length := by rw [hr0]; rfl
        refine VW_skip ?_
        refine Then_n ?_
        refine VW_seq ?_
        refine VW_block ?_
        refine VW_seq ?_
        refine VW_region ?_
        refine VOps_cons rfl rfl (V_indexAddr (el := patsX r) VT.sl23 rfl rfl (by omega) (get_mapS _ hr) (fun a37 => ?_))
        refine VOps_cons rfl rfl (V_load_ep VT.ty25 rfl rfl ?_)
        refine VOps_cons rfl rfl (V_assign rfl ?_)
        refine VOps_nil ?_
        refine Then_n ?_
        refine VW_seq ?_
        refine VW_region ?_
        refine VOps_cons rfl rfl (V_move rfl ?_)
        refine VOps_cons rfl rfl (V_lenN (n := r.length) Try.underlying25 rfl (by simp) (fun hl40 => ?_))
        refine VOps_cons rfl rfl (V_move rfl ?_)
        refine VOps_cons rfl rfl (V_indexAddr (el := patsX r0) VT.sl23 rfl rfl (by omega) (by rw [hr0]; rfl) (fun a42 => ?_))
        refine VOps_cons rfl rfl (V_load_ep VT.ty25 rfl rfl ?_)
        refine VOps_cons rfl rfl (V_lenN (n := r0.length) Try.underlying25 rfl (by simp) (fun hl44 => ?_))
        refine VOps_cons rfl rfl (V_bin rfl rfl rfl ?_)
        refine VOps_nil ?_
        refine Then_n ?_
        refine VW_condNe rfl (fun h45 => ?_) (fun h45 => ?_)
        · skip
          have hno : rows.all (sameLen rows) = false := by rw [List.all_eq_false]; exact ⟨r, List.mem_of_getElem? hr, by unfold sameLen; rw [hw]; simp; omega⟩
          have he : checkF ds rows = 3 := by simp [checkF, hs, hb, checkT, hno]
          refine VW_seq ?_
          refine VW_region ?_
          refine VOps_cons rfl rfl (V_build [] [] VT.st65 rfl rfl rfl rfl ?_)
          refine VOps_cons rfl rfl (V_store_agg 2 VT.ty65 rfl rfl rfl rfl rfl ?_)
          refine VOps_cons rfl rfl (V_assign rfl ?_)
          refine VOps_nil ?_
          refine Then_n ?_
          refine VW_ret ?_
          refine InBlock_r (Then_r (Then_r (InBlock_r (Then_r (VRet_many rfl rfl (.cons (.agg (i := 2) VT.ty65 rfl rfl rfl) (.cons (.tmp rfl) (.nil))) ?_)))))
          exact ⟨_, Drops.nil _, .inr ⟨by rw [he]; omega, by rw [he]; rfl, rfl⟩⟩
        · skip
          refine VW_skip ?_
          refine InBlock_n (Then_n ?_)
          refine VW_region ?_
          refine VOps_cons rfl rfl (V_add rfl rfl (by omega) ?_)
          refine VOps_cons rfl rfl (V_move rfl ?_)
          refine VOps_nil ?_
          refine Then_n ?_
          exact ⟨k + 1, (by (try simp only []); omega), ⟨by omega, all_snoc hr hall (by unfold sameLen; rw [hw]; simp; omega)⟩, ⟨rfl, rfl, rfl, rfl, rfl, rfl, trivial⟩, (Drops.keep (Drops.keep (Drops.keep (Drops.refl _))))⟩
      · skip
        have hke : k = rows.length := by omega
        subst hke
        rw [List.take_length] at hall
        refine VW_exit ?_
        refine Then_e (Then_e (InBlock_hit ?_))
        refine Then_n ?_
        refine VW_seq ?_
        refine VW_seq ?_
        refine VW_region ?_
        refine VOps_cons rfl rfl (V_move rfl ?_)
        refine VOps_cons rfl rfl (V_lenN (n := rows.length) Try.underlying23 rfl (by simp) (fun hl49 => ?_))
        refine VOps_cons rfl rfl (V_move rfl ?_)
        refine VOps_nil ?_
        refine Then_n ?_
        refine VW_block ?_
        refine VW_loopF (ι := Nat) (fun k => rows.length - k) (fun k => [(1, some (rowsX rows)), (4, some (.ptr g4 0)), (6, some (.ptr g6 0)), (48, some (rowsX rows)), (49, some (.int rows.length)), (50, some (.int k))]) (fun k => [.cells g6 65 [datasX ds, .raw (.map (some g))], tabO g t, .cells g4 65 VT.zs65]) (fun k => k ≤ rows.length ∧ errRows t (rows.drop k) = errRows t rows) 0 ⟨Nat.zero_le _, rfl⟩ ⟨rfl, rfl, rfl, rfl, rfl, rfl, trivial⟩ (Drops.keep (Drops.keep (Drops.keep (Drops.refl _)))) ?_
        rintro k hA
        change k ≤ rows.length ∧ errRows t (rows.drop k) = errRows t rows at hA
        obtain ⟨hk, hq⟩ := hA
        refine VW_seq ?_
        refine VW_region ?_
        refine VOps_cons rfl rfl (V_bin rfl rfl rfl ?_)
        refine VOps_nil ?_
        refine Then_n ?_
        refine VW_seq ?_
        refine VW_condP rfl (fun h51 => ?_) (fun h51 => ?_)
        · skip
          obtain ⟨r, hr⟩ := get_of_lt rows k h51
          have hr16 := hsm.cols r (List.mem_of_getElem? hr)
          refine VW_skip ?_
          refine Then_n ?_
          refine VW_seq ?_
          refine VW_block ?_
          refine VW_seq ?_
          refine VW_region ?_
          refine VOps_cons rfl rfl (V_indexAddr (el := patsX r) VT.sl23 rfl rfl (by omega) (get_mapS _ hr) (fun a52 => ?_))
          refine VOps_cons rfl rfl (V_load_ep VT.ty25 rfl rfl ?_)
          refine VOps_cons rfl rfl (V_assign rfl ?_)
          refine VOps_nil ?_
          refine Then_n ?_
          refine VW_seq ?_
          refine VW_region ?_
          refine VOps_cons rfl rfl (V_move rfl ?_)
          refine VOps_cons rfl rfl (V_lenN (n := r.length) Try.underlying25 rfl (by simp) (fun hl55 => ?_))
          refine VOps_cons rfl rfl (V_move rfl ?_)
          refine VOps_nil ?_
          refine Then_n ?_
          refine VW_block ?_
          refine VW_loopF (ι := Nat) (fun n => r.length - n) (fun n => [(1, some (rowsX rows)), (4, some (.ptr g4 0)), (6, some (.ptr g6 0)), (48, some (rowsX rows)), (49, some (.int rows.length)), (50, some (.int k)), (54, some (patsX r)), (55, some (.int r.length)), (56, some (.int n))]) (fun n => [.cells g6 65 [datasX ds, .raw (.map (some g))], tabO g t, .cells g4 65 VT.zs65]) (fun n => n ≤ r.length ∧ patsF t (r.drop n) = patsF t r) 0 ⟨Nat.zero_le _, rfl⟩ ⟨rfl, rfl, rfl, rfl, rfl, rfl, rfl, rfl, rfl, trivial⟩ (Drops.keep (Drops.keep (Drops.keep (Drops.refl _)))) ?_
          rintro n hA
          change n ≤ r.length ∧ patsF t (r.drop n) = patsF t r at hA
          obtain ⟨hn, hq2⟩ := hA
          refine VW_seq ?_
          refine VW_region ?_
          refine VOps_cons rfl rfl (V_bin rfl rfl rfl ?_)
          refine VOps_nil ?_
          refine Then_n ?_
          refine VW_seq ?_
          refine VW_condP rfl (fun h57 => ?_) (fun h57 => ?_)
          · skip
            obtain ⟨p, hp⟩ := get_of_lt r n h57
            refine VW_skip ?_
            refine Then_n ?_
            refine VW_seq ?_
            refine VW_block ?_
            refine VW_seq ?_
            refine VW_region ?_
            refine VOps_cons rfl rfl (V_indexAddr (el := patX p) VT.sl25 rfl rfl (by omega) (get_patS hp) (fun a58 => ?_))
            refine VOps_cons rfl rfl (V_load_ep_agg VT.ty30 rfl rfl ?_)
            refine VOps_cons rfl rfl (V_alloc VT.zr30 _ rfl rfl (fun g13 => ?_))
            refine VOps_cons rfl rfl (V_store_agg 0 VT.ty30 rfl rfl rfl rfl rfl ?_)
            refine VOps_nil ?_
            refine Then_n ?_
            refine VW_seq ?_
            refine VW_region ?_
            refine VOps_cons rfl rfl (V_load_agg 1 VT.ty65 rfl rfl rfl ?_)
            refine VOps_cons rfl rfl (V_load_agg 0 VT.ty30 rfl rfl rfl ?_)
            refine VOps_cons rfl rfl (V_callK 2 [.tmp 60, .tmp 61] rfl rfl VT.en40 rfl (pattern_c ds t g _ p (Nat.lt_succ_self _)) ?_)
            refine VOps_cons rfl rfl (V_assign rfl ?_)
            refine VOps_nil ?_
            refine Then_n ?_
            refine VW_seq ?_
            refine VW_region ?_
            refine VOps_cons rfl rfl (V_move rfl ?_)
            refine VOps_cons rfl rfl (V_bin rfl rfl rfl ?_)
            refine VOps_nil ?_
            refine Then_n ?_
            refine VW_condNe rfl (fun h64 => ?_) (fun h64 => ?_)
            · skip
              have h1 : patsF t r = patF t p := by rw [← hq2, drop_cons hp, patsF, if_pos h64]
              have h2 : errRows t rows = patF t p := by rw [← hq, drop_cons hr, errRows, h1, if_pos h64]
              have he : checkF ds rows = patF t p := by simp [checkF, hs, hb, checkT, hall, h2, h64]
              refine VW_seq ?_
              refine VW_region ?_
              refine VOps_cons rfl rfl (V_build [] [] VT.st65 rfl rfl rfl rfl ?_)
              refine VOps_cons rfl rfl (V_move rfl ?_)
              refine VOps_cons rfl rfl (V_store_agg 3 VT.ty65 rfl rfl rfl rfl rfl ?_)
              refine VOps_cons rfl rfl (V_assign rfl ?_)
              refine VOps_nil ?_
              refine Then_n ?_
              refine VW_ret ?_
              refine InBlock_r (Then_r (Then_r (InBlock_r (InBlock_r (Then_r (Then_r (InBlock_r (Then_r (VRet_many rfl rfl (.cons (.agg (i := 3) VT.ty65 rfl rfl rfl) (.cons (.tmp rfl) (.nil))) ?_)))))))))
              exact ⟨_, Drops.nil _, .inr ⟨by rw [he]; exact h64, by rw [he]; rfl, rfl⟩⟩
            · skip
              refine VW_skip ?_
              refine InBlock_n (Then_n ?_)
              refine VW_region ?_
              refine VOps_cons rfl rfl (V_add rfl rfl (by omega) ?_)
              refine VOps_cons rfl rfl (V_move rfl ?_)
              refine VOps_nil ?_
              refine Then_n ?_
              exact ⟨n + 1, (by (try simp only []); omega), ⟨by omega, by rw [← hq2, drop_cons hp, patsF, if_neg (by simpa using h64)]⟩, ⟨rfl, rfl, rfl, rfl, rfl, rfl, rfl, rfl, rfl, trivial⟩, (Drops.drop (Drops.keep (Drops.keep (Drops.keep (Drops.refl _)))))⟩
          · skip
            have hne : n = r.length := by omega
            subst hne
            rw [List.drop_length, patsF] at hq2
            replace hq2 := hq2.symm
            refine VW_exit ?_
            refine Then_e (Then_e (InBlock_hit ?_))
            refine InBlock_n (Then_n ?_)
            refine VW_region ?_
            refine VOps_cons rfl rfl (V_add rfl rfl (by omega) ?_)
            refine VOps_cons rfl rfl (V_move rfl ?_)
            refine VOps_nil ?_
            refine Then_n ?_
            exact ⟨k + 1, (by (try simp only []); omega), ⟨by omega, by rw [← hq, drop_cons hr, errRows, if_neg (by simpa using hq2)]⟩, ⟨rfl, rfl, rfl, rfl, rfl, rfl, trivial⟩, (Drops.keep (Drops.keep (Drops.keep (Drops.refl _))))⟩
        · skip
          have hke : k = rows.length := by omega
          subst hke
          rw [List.drop_length, errRows] at hq
          replace hq := hq.symm
          refine VW_exit ?_
          refine Then_e (Then_e (InBlock_hit ?_))
          refine Then_n ?_
          refine VW_seq ?_
          refine VW_seq ?_
          refine VW_region ?_
          refine VOps_cons rfl rfl (V_assign rfl ?_)
          refine VOps_nil ?_
          refine Then_n ?_
          refine VW_block ?_
          refine VW_loopF (ι := Nat) (fun n => width rows - n) (fun n => [(1, some (rowsX rows)), (4, some (.ptr g4 0)), (6, some (.ptr g6 0)), (15, some (.int n))]) (fun n => [.cells g6 65 [datasX ds, .raw (.map (some g))], tabO g t, .cells g4 65 VT.zs65]) (fun n => n ≤ width rows ∧ colsLoop t rows n (width rows - n) = colsLoop t rows 0 (width rows)) 0 ⟨Nat.zero_le _, rfl⟩ ⟨rfl, rfl, rfl, rfl, trivial⟩ (Drops.keep (Drops.keep (Drops.keep (Drops.refl _)))) ?_
          rintro n hA
          change n ≤ width rows ∧ colsLoop t rows n (width rows - n) = colsLoop t rows 0 (width rows) at hA
          obtain ⟨hn, hcl⟩ := hA
          refine VW_seq ?_
          refine VW_seq ?_
          refine VW_region ?_
          refine VOps_cons rfl rfl (V_move rfl ?_)
          refine VOps_cons rfl rfl (V_lenN (n := rows.length) Try.underlying23 rfl (by simp) (fun hl70 => ?_))
          refine VOps_cons rfl rfl (V_bin rfl rfl rfl ?_)
          refine VOps_cons rfl rfl (V_move rfl ?_)
          refine VOps_split (q := 72) rfl (fun hq72 => ?_) (fun hq72 => ?_)
          · skip
            obtain ⟨r0, rs, hr0⟩ : ∃ r0 rs, rows = r0 :: rs := by cases rows with | nil => simp at hq72 | cons a b => exact ⟨a, b, rfl⟩
            have hw : width rows = r0.length := by rw [hr0]; rfl
            have hrne : rows ≠ [] := by rw [hr0]; simp
            have hr016 := hsm.cols r0 (by rw [hr0]; exact List.mem_cons_self ..)
            refine VOps_cons (want_of rfl rfl rfl hq72) rfl (V_move rfl ?_)
            refine VOps_cons (want_of rfl rfl rfl hq72) rfl (V_move rfl ?_)
            refine VOps_cons (want_of rfl rfl rfl hq72) rfl (V_indexAddr (el := patsX r0) VT.sl23 rfl rfl (by omega) (by rw [hr0]; rfl) (fun a75 => ?_))
            refine VOps_cons (want_of rfl rfl rfl hq72) rfl (V_load_ep VT.ty25 rfl rfl ?_)
            refine VOps_cons (want_of rfl rfl rfl hq72) rfl (V_lenN (n := r0.length) Try.underlying25 rfl (by simp) (fun hl77 => ?_))
            refine VOps_cons (want_of rfl rfl rfl hq72) rfl (V_bin rfl rfl rfl ?_)
            refine VOps_cons rfl rfl (V_pickT rfl hq72 rfl ?_)
            refine VOps_nil ?_
            refine Then_n ?_
            refine VW_condP rfl (fun h79 => ?_) (fun h79 => ?_)
            · skip
              have hap := agreePre_col hsm hall hq (n := n) hrne (by omega)
              refine VW_skip ?_
              refine Then_n ?_
              refine VW_seq ?_
              refine VW_block ?_
              refine VW_seq ?_
              refine VW_region ?_
              refine VOps_cons rfl rfl (V_assign_nil 30 4 ?_)
              refine VOps_nil ?_
              refine Then_n ?_
              refine VW_seq ?_
              refine VW_seq ?_
              refine VW_region ?_
              refine VOps_cons rfl rfl (V_move rfl ?_)
              refine VOps_cons rfl rfl (V_lenN (n := rows.length) Try.underlying23 rfl (by simp) (fun hl83 => ?_))
              refine VOps_cons rfl rfl (V_move rfl ?_)
              refine VOps_nil ?_
              refine Then_n ?_
              refine VW_block ?_
              refine VW_loopF (ι := Nat × Tok) (fun (i, tk) => rows.length - i) (fun (i, tk) => [(1, some (rowsX rows)), (4, some (.ptr g4 0)), (6, some (.ptr g6 0)), (15, some (.int n)), (16, some (.sl 4 (some tk) ((colF (rows.take i) n).map patV))), (82, some (rowsX rows)), (83, some (.int rows.length)), (84, some (.int i))]) (fun (i, tk) => [.buf tk 30 4 (colF (rows.take i) n).length, .cells g6 65 [datasX ds, .raw (.map (some g))], tabO g t, .cells g4 65 VT.zs65]) (fun (i, tk) => i ≤ rows.length) (0, .nil) (by simp) ⟨rfl, rfl, rfl, rfl, rfl, rfl, rfl, rfl, trivial⟩ (Drops.buf rfl (Drops.keep (Drops.keep (Drops.keep (Drops.refl _))))) ?_
              rintro ⟨i, tk⟩ hi
              change i ≤ rows.length at hi
              refine VW_seq ?_
              refine VW_region ?_
              refine VOps_cons rfl rfl (V_bin rfl rfl rfl ?_)
              refine VOps_nil ?_
              refine Then_n ?_
              refine VW_seq ?_
              refine VW_condP rfl (fun h85 => ?_) (fun h85 => ?_)
              · skip
                obtain ⟨r, hr⟩ := get_of_lt rows i h85
                have hrl := same_all hall r (List.mem_of_getElem? hr)
                obtain ⟨p, hp⟩ := get_of_lt r n (by omega)
                have hpg : r.getD n anyP = p := by simp [hp]
                have hrs := hsm.rows
                have hcol : (colF (rows.take i) n).length ≤ 64 := by simp [colF]; omega
                refine VW_skip ?_
                refine Then_n ?_
                refine VW_seq ?_
                refine VW_block ?_
                refine VW_seq ?_
                refine VW_region ?_
                refine VOps_cons rfl rfl (V_indexAddr (el := patsX r) VT.sl23 rfl rfl (by omega) (get_mapS _ hr) (fun a86 => ?_))
                refine VOps_cons rfl rfl (V_load_ep VT.ty25 rfl rfl ?_)
                refine VOps_cons rfl rfl (V_assign rfl ?_)
                refine VOps_nil ?_
                refine Then_n ?_
                refine VW_region ?_
                refine VOps_cons rfl rfl (V_move rfl ?_)
                refine VOps_cons rfl rfl (V_move rfl ?_)
                refine VOps_cons rfl rfl (V_move rfl ?_)
                refine VOps_cons rfl rfl (V_indexAddr (el := patX p) VT.sl25 rfl rfl (by omega) (get_patS hp) (fun a91 => ?_))
                refine VOps_cons rfl rfl (V_load_ep_agg VT.ty30 rfl rfl ?_)
                refine VOps_cons rfl rfl (V_lit [.tmp 92] VT.sl25 rfl rfl rfl rfl rfl ?_)
                refine VOps_cons rfl rfl (V_appendN 0 _ VT.sl25 rfl rfl rfl (by simp) (by simp; omega) (fun t94 => ?_))
                refine VOps_cons rfl rfl (V_assign rfl ?_)
                refine VOps_nil ?_
                refine InBlock_n (Then_n ?_)
                refine VW_region ?_
                refine VOps_cons rfl rfl (V_add rfl rfl (by omega) ?_)
                refine VOps_cons rfl rfl (V_move rfl ?_)
                refine VOps_nil ?_
                refine Then_n ?_
                exact ⟨(i + 1, t94), (by (try simp only []); omega), (by omega), ⟨rfl, rfl, rfl, rfl, (by rw [take_snoc hr, col_snoc, hpg, List.map_append, List.map_cons, patV_eq p]; rfl), rfl, rfl, rfl, trivial⟩, (Drops.buf (by rw [take_snoc hr, col_snoc]; simp) (Drops.keep (Drops.keep (Drops.keep (Drops.refl _)))))⟩
              · skip
                have hte := take_end h85
                refine VW_exit ?_
                refine Then_e (Then_e (InBlock_hit ?_))
                refine Then_n ?_
                refine VW_seq ?_
                refine VW_region ?_
                refine VOps_cons rfl rfl (V_load_agg 1 VT.ty65 rfl rfl rfl ?_)
                refine VOps_cons rfl rfl (VOp_as (V_move rfl ⟨rfl, rfl⟩) (V.le.strip) ?_)
                refine VOps_cons rfl rfl (V_callK 2 [.tmp 96, .tmp 97] rfl rfl VT.en41 rfl ((by rw [hte]; exact agree_c ds t g 401 _ hap : VKeep Try.prog 41 [tabX ds g, patsX (colF (rows.take i) n)] [tabO g t] (.bool (agreeF t 401 (colF rows n))))) ?_)
                refine VOps_cons rfl rfl (V_not rfl ?_)
                refine VOps_nil ?_
                refine Then_n ?_
                refine VW_condN rfl (fun h99 => ?_) (fun h99 => ?_)
                · skip
                  have hcc : colsLoop t rows 0 (width rows) = false := by rw [← hcl, show width rows - n = (width rows - (n + 1)) + 1 by omega, colsLoop, h99]; rfl
                  have he : checkF ds rows = 10 := by simp [checkF, hs, hb, checkT, hall, hq, hcc]
                  refine VW_seq ?_
                  refine VW_region ?_
                  refine VOps_cons rfl rfl (V_build [] [] VT.st65 rfl rfl rfl rfl ?_)
                  refine VOps_cons rfl rfl (V_store_agg 3 VT.ty65 rfl rfl rfl rfl rfl ?_)
                  refine VOps_cons rfl rfl (V_assign rfl ?_)
                  refine VOps_nil ?_
                  refine Then_n ?_
                  refine VW_ret ?_
                  refine InBlock_r (Then_r (Then_r (InBlock_r (Then_r (VRet_many rfl rfl (.cons (.agg (i := 3) VT.ty65 rfl rfl rfl) (.cons (.tmp rfl) (.nil))) ?_)))))
                  exact ⟨_, Drops.nil _, .inr ⟨by rw [he]; omega, by rw [he]; rfl, rfl⟩⟩
                · skip
                  refine VW_skip ?_
                  refine InBlock_n (Then_n ?_)
                  refine VW_region ?_
                  refine VOps_cons rfl rfl (V_move rfl ?_)
                  refine VOps_cons rfl rfl (V_add rfl rfl (by omega) ?_)
                  refine VOps_cons rfl rfl (V_assign rfl ?_)
                  refine VOps_nil ?_
                  refine Then_n ?_
                  exact ⟨n + 1, (by (try simp only []); omega), ⟨by omega, by rw [← hcl, show width rows - n = (width rows - (n + 1)) + 1 by omega, colsLoop, h99]; rfl⟩, ⟨rfl, rfl, rfl, rfl, trivial⟩, (Drops.drop (Drops.keep (Drops.keep (Drops.keep (Drops.refl _)))))⟩
            · skip
              have hcc : colsLoop t rows 0 (width rows) = true := by rw [← hcl, show width rows - n = 0 by omega]; rfl
              refine VW_exit ?_
              refine Then_e (Then_e (InBlock_hit ?_))
              refine Then_n ?_
              refine VW_seq ?_
              refine VW_region ?_
              refine VOps_cons rfl rfl (V_load_agg 0 VT.ty65 rfl rfl rfl ?_)
              refine VOps_cons rfl rfl (V_store_agg 2 VT.ty65 rfl rfl rfl rfl rfl ?_)
              refine VOps_cons rfl rfl (V_assign rfl ?_)
              refine VOps_nil ?_
              refine Then_n ?_
              refine VW_ret ?_
              refine VRet_many rfl rfl (.cons (.agg (i := 2) VT.ty65 rfl rfl rfl) (.cons (.tmp rfl) (.nil))) ?_
              have he : checkF ds rows = 0 := by simp [checkF, hs, hb, checkT, hall, hq, hcc]
              exact ⟨_, Drops.drop (Drops.keep (Drops.nil _)), .inl ⟨he, g, t, rfl, rfl, rfl⟩⟩
          · skip
            have hre : rows = [] := by cases rows with | nil => rfl | cons a b => simp at hq72
            have hcc : colsLoop t rows 0 (width rows) = true := by rw [hre]; rfl
            refine VOps_skipU (.inl (skip_of rfl rfl rfl hq72)) rfl ?_
            refine VOps_skipU (.inl (skip_of rfl rfl rfl hq72)) rfl ?_
            refine VOps_skipU (.inl (skip_of rfl rfl rfl hq72)) rfl ?_
            refine VOps_skipU (.inl (skip_of rfl rfl rfl hq72)) rfl ?_
            refine VOps_skipU (.inl (skip_of rfl rfl rfl hq72)) rfl ?_
            refine VOps_skipU (.inl (skip_of rfl rfl rfl hq72)) rfl ?_
            refine VOps_cons rfl rfl (V_pickF rfl hq72 rfl ?_)
            refine VOps_nil ?_
            refine Then_n ?_
            refine VW_condF rfl rfl ?_
            refine VW_exit ?_
            refine Then_e (Then_e (InBlock_hit ?_))
            refine Then_n ?_
            refine VW_seq ?_
            refine VW_region ?_
            refine VOps_cons rfl rfl (V_load_agg 0 VT.ty65 rfl rfl rfl ?_)
            refine VOps_cons rfl rfl (V_store_agg 2 VT.ty65 rfl rfl rfl rfl rfl ?_)
            refine VOps_cons rfl rfl (V_assign rfl ?_)
            refine VOps_nil ?_
            refine Then_n ?_
            refine VW_ret ?_
            refine VRet_many rfl rfl (.cons (.agg (i := 2) VT.ty65 rfl rfl rfl) (.cons (.tmp rfl) (.nil))) ?_
            have he : checkF ds rows = 0 := by simp [checkF, hs, hb, checkT, hall, hq, hcc]
            exact ⟨_, Drops.drop (Drops.keep (Drops.nil _)), .inl ⟨he, g, t, rfl, rfl, rfl⟩⟩


end Go.Proofs.Ytmjeaagpcmfnpaa.W8
