/- Walks, printed by walk.py. -/
import Derived.Test.YtmioemdikgdpkaaVT
import Derived.Test.YtmioemdikgdpkaaS2
import Derived.Test.YtmioemdikgdpkaaX1
set_option linter.unusedVariables false
set_option linter.unusedSimpArgs false
namespace Go.Proofs.Ytmioemdikgdpkaa.X2
open Go.VL Go.SM Go.Proofs.Ytmioemdikgdpkaa Go.Proofs.Ytmioemdikgdpkaa.X1

theorem tdiv64 (k : Nat) : (k : Int).tdiv 64 = ((k / 64 : Nat) : Int) := rfl
theorem tmod64 (k : Nat) : (k : Int).tmod 64 = ((k % 64 : Nat) : Int) := rfl
theorem word_get (s : BSet) {k : Nat} (hk : k < 128) : ([V.u64 s.1, V.u64 s.2] : List V)[0 + ((k / 64 : Nat) : Int).toNat]? = some (V.u64 (s.word k)) := by
  have h : k / 64 = 0 ∨ k / 64 = 1 := by omega
  unfold BSet.word
  rcases h with h | h <;> rw [h] <;> rfl
theorem ble_two {k : Nat} (hk : k < 128) (a b : V) : Nat.ble (0 + ((k / 64 : Nat) : Int).toNat + 1) ([a, b] : List V).length = true := by
  have h : k / 64 = 0 ∨ k / 64 = 1 := by omega
  rcases h with h | h <;> rw [h] <;> rfl
theorem with_eq (s : BSet) {k : Nat} (hk : k < 128) : V.agg ((([V.u64 s.1, V.u64 s.2].set (0 + ((k / 64 : Nat) : Int).toNat) (V.u64 (s.word k ||| 1#64 <<< (k % 64)))).drop 0).take 2) = setV (s.with k) := by
  have h : k / 64 = 0 ∨ k / 64 = 1 := by omega
  unfold BSet.word BSet.with setV
  rcases h with h | h <;> rw [h] <;> rfl

set_option maxRecDepth 100000 in
theorem has_n (s : BSet) (k : Nat) (hk : k < 128) : VPure Try.prog 86 [setV s, .int k] (.bool (s.has k)) := by
 refine V_start (nt := 14) Try.func86 rfl rfl rfl ?_
 refine VW_seq ?_
 refine VW_region ?_
 refine VOps_cons rfl rfl (V_box rfl rfl (fun g2 => ?_))
 refine VOps_cons rfl rfl (V_assign rfl ?_)
 refine VOps_nil ?_
 refine Then_n ?_
 refine VW_seq ?_
 refine VW_region ?_
 refine VOps_cons rfl rfl (V_move rfl ?_)
 refine VOps_cons rfl rfl (VOp_as (V_quo rfl rfl (by decide) (by rw [tdiv64]; omega) ⟨rfl, rfl⟩) (V.le.of_eq (congrArg V.int (tdiv64 k))) ?_)
 refine VOps_cons rfl rfl (V_indexAddr_arr Try.underlying138 VT.se138 rfl rfl (by omega) (by omega) ?_)
 refine VOps_cons rfl rfl (V_load 0 VT.ty136 rfl rfl (word_get s hk) ?_)
 refine VOps_cons rfl rfl (V_move rfl ?_)
 refine VOps_cons rfl rfl (VOp_as (V_rem rfl rfl (by omega) ⟨rfl, rfl⟩) (V.le.of_eq (congrArg V.int (tmod64 k))) ?_)
 refine VOps_cons rfl rfl (V_shr64 (n := (k % 64)) rfl rfl (Nat.mod_lt _ (by decide)) ?_)
 refine VOps_cons rfl rfl (V_and64 (b := 1#64) rfl rfl ?_)
 refine VOps_cons rfl rfl (V_eq64 (b := 1#64) rfl rfl ?_)
 refine VOps_cons rfl rfl (V_assign rfl ?_)
 refine VOps_nil ?_
 refine Then_n ?_
 refine VW_ret ?_
 refine VRet_one rfl (.tmp rfl) ?_
 rfl


theorem has_c (s : BSet) (k : Int) (h0 : 0 ≤ k) (h1 : k < 128) : VPure Try.prog 86 [setV s, .int k] (.bool (s.has k.toNat)) := by
  obtain ⟨n, rfl⟩ := Int.eq_ofNat_of_zero_le h0
  exact has_n s n (by omega)

set_option maxRecDepth 100000 in
theorem with_n (s : BSet) (k : Nat) (hk : k < 128) : VPure Try.prog 103 [setV s, .int k] (setV (s.with k)) := by
 refine V_start (nt := 15) Try.func103 rfl rfl rfl ?_
 refine VW_seq ?_
 refine VW_region ?_
 refine VOps_cons rfl rfl (V_box rfl rfl (fun g2 => ?_))
 refine VOps_cons rfl rfl (V_alloc VT.zr138 _ rfl rfl (fun g4 => ?_))
 refine VOps_nil ?_
 refine Then_n ?_
 refine VW_seq ?_
 refine VW_draw (G := Unit) [([], [1], []), ([0], [5], []), ([1, 0], [2, 6], []), ([2, 1, 0], [7], []), ([], [1], []), ([4], [9], []), ([5, 4], [10], []), ([6, 5, 4, 3, 2, 1, 0], [8, 11], []), ([7, 6, 5, 4, 3, 2, 1, 0], [2, 6], []), ([8, 7, 6, 5, 4, 3, 2, 1, 0], [13, 12], [])] [9] (setSt _ 1 (fun _ => .cells g2 138 ([V.u64 s.1, V.u64 s.2].set (0 + ((k / 64 : Nat) : Int).toNat) (V.u64 (s.word k ||| 1#64 <<< (k % 64)))))) [] [5, 6, 7, 8, 9, 10, 11, 12, 13] rfl VT.mix (by kernel_rfl) (by kernel_rfl) ?_
 refine DrawP_consL (acc' := [_]) (eqRes _) (goodS rfl rfl ⟨(fun γ => Needs_f (by kernel_rfl) (fun r1 h1 => Needs_nil (vopT rfl (V_move h1 ⟨rfl, rfl⟩)))), trivial⟩) rfl ?_
 refine DrawP_consL (acc' := [_, _]) (eqRes _) (goodS rfl rfl ⟨(fun γ => Needs_w 0 (by kernel_rfl) rfl (fun r5 h5 => Needs_nil (vopT rfl (VOp_as (V_quo h5 rfl (by decide) (by rw [tdiv64]; omega) ⟨rfl, rfl⟩) (V.le.of_eq (congrArg V.int (tdiv64 k))) ⟨rfl, rfl⟩)))), trivial⟩) rfl ?_
 refine DrawP_consL (acc' := [_, _, _]) (eqRes _) (goodS rfl rfl ⟨(fun γ => Needs_f (by kernel_rfl) (fun r2 h2 => Needs_w 1 (by kernel_rfl) rfl (fun r6 h6 => Needs_nil (vopT rfl (V_indexAddr_arr Try.underlying138 VT.se138 h2 h6 (by omega) (by omega) ⟨rfl, rfl⟩))))), trivial⟩) rfl ?_
 refine DrawP_consL (acc' := [_, _, _, _]) (eqRes _) (goodS rfl rfl ⟨(fun γ => Needs_w 2 (by kernel_rfl) rfl (fun r7 h7 => Needs_nil (vopT rfl (V_load 1 VT.ty136 h7 rfl (word_get s hk) ⟨rfl, rfl⟩)))), trivial⟩) rfl ?_
 refine DrawP_consL (acc' := [_, _, _, _, _]) (eqRes _) (goodS rfl rfl ⟨(fun γ => Needs_f (by kernel_rfl) (fun r1 h1 => Needs_nil (vopT rfl (V_move h1 ⟨rfl, rfl⟩)))), trivial⟩) rfl ?_
 refine DrawP_consL (acc' := [_, _, _, _, _, _]) (eqRes _) (goodS rfl rfl ⟨(fun γ => Needs_w 4 (by kernel_rfl) rfl (fun r9 h9 => Needs_nil (vopT rfl (VOp_as (V_rem h9 rfl (by omega) ⟨rfl, rfl⟩) (V.le.of_eq (congrArg V.int (tmod64 k))) ⟨rfl, rfl⟩)))), trivial⟩) rfl ?_
 refine DrawP_consL (acc' := [_, _, _, _, _, _, _]) (eqRes _) (goodS rfl rfl ⟨(fun γ => Needs_w 5 (by kernel_rfl) rfl (fun r10 h10 => Needs_nil (vopT rfl (V_shl64 (n := (k % 64)) (a := 1#64) rfl h10 (Nat.mod_lt _ (by decide)) ⟨rfl, rfl⟩)))), trivial⟩) rfl ?_
 refine DrawP_consL (acc' := [_, _, _, _, _, _, _, _]) (eqRes _) (goodS rfl rfl ⟨(fun γ => Needs_w 3 (by kernel_rfl) rfl (fun r8 h8 => Needs_w 6 (by kernel_rfl) rfl (fun r11 h11 => Needs_nil (vopT rfl (V_or64 h8 h11 ⟨rfl, rfl⟩))))), trivial⟩) rfl ?_
 refine DrawP_consL (acc' := [_, _, _, _, _, _, _, _, _]) (eqRes _) (goodS rfl rfl ⟨(fun γ => Needs_f (by kernel_rfl) (fun r2 h2 => Needs_w 1 (by kernel_rfl) rfl (fun r6 h6 => Needs_nil (vopT rfl (V_indexAddr_arr Try.underlying138 VT.se138 h2 h6 (by omega) (by omega) ⟨rfl, rfl⟩))))), trivial⟩) rfl ?_
 refine DrawP_consL (acc' := [_, _, _, _, _, _, _, _, _, _]) anyRes (goodU1 rfl (fun γ => Needs_w 8 (by kernel_rfl) rfl (fun r13 h13 => Needs_w 7 (by kernel_rfl) rfl (fun r12 h12 => Needs_nil (vopT rfl (V_store 1 VT.ty136 h13 h12 rfl rfl (ble_two hk _ _) ⟨default, trivial, rfl⟩)))))) rfl ?_
 refine DrawP_nil (fun γ => Needs_nil ?_)
 refine Then_n ?_
 refine VW_seq ?_
 refine VW_region ?_
 refine VOps_cons rfl rfl (VOp_as (V_load_agg 1 VT.ty138 rfl rfl (by rw [List.length_set]; rfl) ⟨rfl, rfl⟩) (V.le.of_eq (with_eq s hk)) ?_)
 refine VOps_cons rfl rfl (V_store_agg 0 VT.ty138 rfl rfl rfl rfl rfl ?_)
 refine VOps_nil ?_
 refine Then_n ?_
 refine VW_ret ?_
 refine VRet_one rfl (.agg (i := 0) VT.ty138 rfl rfl rfl) ?_
 rfl


theorem with_c (s : BSet) (k : Int) (h0 : 0 ≤ k) (h1 : k < 128) : VPure Try.prog 103 [setV s, .int k] (setV (s.with k.toNat)) := by
  obtain ⟨n, rfl⟩ := Int.eq_ofNat_of_zero_le h0
  exact with_n s n (by omega)

set_option maxRecDepth 100000 in
theorem both_c (s t : BSet) : VPure Try.prog 104 [setV s, setV t] (setV (s.both t)) := by
 refine V_start (nt := 16) Try.func104 rfl rfl rfl ?_
 refine VW_seq ?_
 refine VW_region ?_
 refine VOps_cons rfl rfl (V_box rfl rfl (fun g2 => ?_))
 refine VOps_cons rfl rfl (V_box rfl rfl (fun g3 => ?_))
 refine VOps_cons rfl rfl (V_alloc VT.zr138 _ rfl rfl (fun g4 => ?_))
 refine VOps_nil ?_
 refine Then_n ?_
 refine VW_seq ?_
 refine VW_region ?_
 refine VOps_cons rfl rfl (V_indexAddr_arr Try.underlying138 VT.se138 rfl rfl (by omega) (by omega) ?_)
 refine VOps_cons rfl rfl (V_load 2 VT.ty136 rfl rfl rfl ?_)
 refine VOps_cons rfl rfl (V_indexAddr_arr Try.underlying138 VT.se138 rfl rfl (by omega) (by omega) ?_)
 refine VOps_cons rfl rfl (V_load 1 VT.ty136 rfl rfl rfl ?_)
 refine VOps_cons rfl rfl (V_and64 rfl rfl ?_)
 refine VOps_cons rfl rfl (V_indexAddr_arr Try.underlying138 VT.se138 rfl rfl (by omega) (by omega) ?_)
 refine VOps_cons rfl rfl (V_load 2 VT.ty136 rfl rfl rfl ?_)
 refine VOps_cons rfl rfl (V_indexAddr_arr Try.underlying138 VT.se138 rfl rfl (by omega) (by omega) ?_)
 refine VOps_cons rfl rfl (V_load 1 VT.ty136 rfl rfl rfl ?_)
 refine VOps_cons rfl rfl (V_and64 rfl rfl ?_)
 refine VOps_cons rfl rfl (V_buildArr [0, 1] [.tmp 9, .tmp 14] VT.at138 rfl rfl rfl rfl ?_)
 refine VOps_cons rfl rfl (V_store_agg 0 VT.ty138 rfl rfl rfl rfl rfl ?_)
 refine VOps_nil ?_
 refine Then_n ?_
 refine VW_ret ?_
 refine VRet_one rfl (.agg (i := 0) VT.ty138 rfl rfl rfl) ?_
 rfl


set_option maxRecDepth 100000 in
set_option maxHeartbeats 2000000 in
theorem define_c (gc gm : Nat) (name : Int) (bs : List SBlock) (v : Int) (p : Int × Int) (d : Defs) : VCalls Try.prog 81 [.ptr gc 0, .int v, placeV p] [.cells gc 108 [.int name, blocksX bs, .raw (.map (some gm))], .map gm (kmap kint (encD d))] fun r S' => r = .int (defineF v p d).1 ∧ S' = [.cells gc 108 [.int name, blocksX bs, .raw (.map (some gm))], .map gm (kmap kint (encD (defineF v p d).2))] := by
 refine VCalls_drops ?_
 have hr := defineF.eq_def v p d
 refine V_start (nt := 28) Try.func81 rfl rfl rfl ?_
 refine VW_seq ?_
 refine VW_region ?_
 refine VOps_cons rfl rfl (V_box rfl rfl (fun g5 => ?_))
 refine VOps_cons rfl rfl (V_assign rfl ?_)
 refine VOps_nil ?_
 refine Then_n ?_
 refine VW_seq ?_
 refine VW_seq ?_
 refine VW_region ?_
 refine VOps_cons rfl rfl (V_move rfl ?_)
 refine VOps_cons rfl rfl (V_callP [.tmp 9, .const (.int .i64 (0)), .const (.int .i64 (4095))] rfl rfl VT.en41 (within_c v _ _) ?_)
 refine VOps_cons rfl rfl (V_not rfl ?_)
 refine VOps_nil ?_
 refine Then_n ?_
 refine VW_condN rfl (fun h11 => ?_) (fun h11 => ?_)
 ·
  rw [if_pos h11] at hr
  refine VW_seq ?_
  refine VW_region ?_
  refine VOps_cons rfl rfl (V_assign rfl ?_)
  refine VOps_nil ?_
  refine Then_n ?_
  refine VW_ret ?_
  refine Then_r (VRet_one rfl (.tmp rfl) ?_)
  exact ⟨_, Drops.drop (Drops.refl _), by rw [hr], by rw [hr]⟩
 ·
  rw [if_neg (by rw [h11]; decide)] at hr
  refine VW_skip ?_
  refine Then_n ?_
  refine VW_seq ?_
  refine VW_seq ?_
  refine VW_region ?_
  refine VOps_cons rfl rfl (V_move rfl ?_)
  refine VOps_cons rfl rfl (V_nilCheck rfl ?_)
  refine VOps_cons rfl rfl (V_fieldAddr VT.fa108_1 rfl ?_)
  refine VOps_cons rfl rfl (V_load 1 VT.ty106 rfl rfl rfl ?_)
  refine VOps_cons rfl rfl (V_move rfl ?_)
  refine VOps_cons rfl rfl (V_lookupDOk 2 (.agg VT.zs132) (fun m => ⟨rfl, _, rfl, by simp [Go.VL.RepL, VT.zs132, Rep]⟩) Try.underlying106 (key_int Try.underlying3) VT.zr132 rfl rfl rfl ?_)
  refine VOps_cons rfl rfl (V_move rfl ?_)
  refine VOps_cons rfl rfl (VOp_as (V_extract rfl rfl ⟨rfl, rfl⟩) (V.le.of_eq (kget_or d v)) ?_)
  refine VOps_cons rfl rfl (VOp_as (V_extract rfl rfl ⟨rfl, rfl⟩) (V.le.of_eq (congrArg V.bool (kget_some d v))) ?_)
  refine VOps_cons rfl rfl (V_alloc VT.zr132 _ rfl rfl (fun g7 => ?_))
  refine VOps_cons rfl rfl (V_store_agg 0 VT.ty132 rfl rfl rfl rfl rfl ?_)
  refine VOps_cons rfl rfl (V_assign rfl ?_)
  refine VOps_nil ?_
  refine Then_n ?_
  refine VW_seq ?_
  refine VW_region ?_
  refine VOps_cons rfl rfl (V_move rfl ?_)
  refine VOps_nil ?_
  refine Then_n ?_
  refine VW_cond rfl (fun h21 => ?_) (fun h21 => ?_)
  ·
   rw [if_pos h21] at hr
   refine VW_seq ?_
   refine VW_region ?_
   refine VOps_cons rfl rfl (V_assign rfl ?_)
   refine VOps_nil ?_
   refine Then_n ?_
   refine VW_ret ?_
   refine Then_r (VRet_one rfl (.tmp rfl) ?_)
   exact ⟨_, Drops.drop (Drops.drop (Drops.refl _)), by rw [hr], by rw [hr]⟩
  ·
   rw [if_neg (by rw [h21]; decide)] at hr
   have hn : dget d v = none := by simpa using h21
   refine VW_skip ?_
   refine Then_n ?_
   refine VW_seq ?_
   refine VW_draw (G := Unit) [([], [0], []), ([0], [22], []), ([1, 0], [23], []), ([2, 1, 0], [24], []), ([], [1], []), ([], [5], []), ([5, 4, 3, 2, 1, 0], [25, 26, 27], [])] [6] (setSt _ 3 (fun _ => .map gm (kmap kint (kput (encD d) v (placeV p))))) [] [22, 23, 24, 25, 26, 27] rfl VT.mix (by kernel_rfl) (by kernel_rfl) ?_
   refine DrawP_consL (acc' := [_]) (eqRes _) (goodS rfl rfl ⟨(fun γ => Needs_f (by kernel_rfl) (fun r0 h0 => Needs_nil (vopT rfl (V_move h0 ⟨rfl, rfl⟩)))), trivial⟩) rfl ?_
   refine DrawP_consL (acc' := [_, _]) (eqRes _) (goodS rfl rfl ⟨(fun γ => Needs_w 0 (by kernel_rfl) rfl (fun r22 h22 => Needs_nil (vopT rfl (V_nilCheck h22 ⟨rfl, rfl⟩)))), trivial⟩) rfl ?_
   refine DrawP_consL (acc' := [_, _, _]) (eqRes _) (goodS rfl rfl ⟨(fun γ => Needs_w 1 (by kernel_rfl) rfl (fun r23 h23 => Needs_nil (vopT rfl (V_fieldAddr VT.fa108_1 h23 ⟨rfl, rfl⟩)))), trivial⟩) rfl ?_
   refine DrawP_consL (acc' := [_, _, _, _]) (eqRes _) (goodS rfl rfl ⟨(fun γ => Needs_w 2 (by kernel_rfl) rfl (fun r24 h24 => Needs_nil (vopT rfl (V_load 2 VT.ty106 h24 rfl rfl ⟨rfl, rfl⟩)))), trivial⟩) rfl ?_
   refine DrawP_consL (acc' := [_, _, _, _, _]) (eqRes _) (goodS rfl rfl ⟨(fun γ => Needs_f (by kernel_rfl) (fun r1 h1 => Needs_nil (vopT rfl (V_move h1 ⟨rfl, rfl⟩)))), trivial⟩) rfl ?_
   refine DrawP_consL (acc' := [_, _, _, _, _, _]) (eqRes _) (goodS rfl rfl ⟨(fun γ => Needs_f (by kernel_rfl) (fun r5 h5 => Needs_nil (vopT rfl (V_load_agg 1 VT.ty132 h5 rfl rfl ⟨rfl, rfl⟩)))), trivial⟩) rfl ?_
   refine DrawP_consL (acc' := [_, _, _, _, _, _, _]) anyRes (goodU1 rfl (fun γ => Needs_w 3 (by kernel_rfl) rfl (fun r25 h25 => Needs_w 4 (by kernel_rfl) rfl (fun r26 h26 => Needs_w 5 (by kernel_rfl) rfl (fun r27 h27 => Needs_nil (vopT rfl (V_mapUpdate 3 Try.underlying106 (key_int Try.underlying3) h25 h26 h27 rfl ⟨default, trivial, rfl⟩))))))) rfl ?_
   refine DrawP_nil (fun γ => Needs_nil ?_)
   refine Then_n ?_
   refine VW_seq ?_
   refine VW_region ?_
   refine VOps_cons rfl rfl (V_assign rfl ?_)
   refine VOps_nil ?_
   refine Then_n ?_
   refine VW_ret ?_
   refine VRet_one rfl (.tmp rfl) ?_
   exact ⟨_, Drops.drop (Drops.drop (Drops.refl _)), by rw [hr], by rw [hr, ← kput_encD v p hn]; rfl⟩


set_option maxRecDepth 100000 in
set_option maxHeartbeats 4000000 in
theorem end_c (name : Int) (bs : List SBlock) (t : STerm) : VPure Try.prog 83 [.agg [.int name, blocksX bs], termV t] (.int (endF bs t)) := by
 have hr := endF.eq_def bs t
 refine V_start (nt := 78) Try.func83 rfl rfl rfl ?_
 refine VW_seq ?_
 refine VW_region ?_
 refine VOps_cons rfl rfl (V_box rfl rfl (fun g2 => ?_))
 refine VOps_cons rfl rfl (V_box rfl rfl (fun g3 => ?_))
 refine VOps_cons rfl rfl (V_assign rfl ?_)
 refine VOps_nil ?_
 refine Then_n ?_
 refine VW_seq ?_
 refine VW_block ?_
 refine VW_seq ?_
 refine VW_region ?_
 refine VOps_cons rfl rfl (V_load_agg 0 VT.ty32 rfl rfl rfl ?_)
 refine VOps_cons rfl rfl (V_callP [.tmp 10] rfl rfl VT.en101 (shape_c t) ?_)
 refine VOps_cons rfl rfl (V_not rfl ?_)
 refine VOps_cons rfl rfl (V_assign rfl ?_)
 refine VOps_nil ?_
 refine Then_n ?_
 refine VW_condN rfl (fun h9 => ?_) (fun h9 => ?_)
 ·
  rw [if_pos h9] at hr
  refine VW_seq ?_
  refine VW_region ?_
  refine VOps_cons rfl rfl (V_assign rfl ?_)
  refine VOps_nil ?_
  refine Then_n ?_
  refine VW_ret ?_
  refine InBlock_r (Then_r (VRet_one rfl (.tmp rfl) ?_))
  rw [hr]
 ·
  rw [if_neg (by rw [h9]; decide)] at hr
  refine VW_seq ?_
  refine VW_region ?_
  refine VOps_cons rfl rfl (V_fieldAddr VT.fa32_3 rfl ?_)
  refine VOps_cons rfl rfl (V_load 0 VT.ty23 rfl rfl rfl ?_)
  refine VOps_cons rfl rfl (V_lenN (n := t.cases.length) Try.underlying23 rfl (by simp) (fun hl16 => ?_))
  refine VOps_cons rfl rfl (V_bin rfl rfl rfl ?_)
  refine VOps_cons rfl rfl (V_assign rfl ?_)
  refine VOps_nil ?_
  refine Then_n ?_
  refine VW_condP rfl (fun h13 => ?_) (fun h13 => ?_)
  ·
   rw [if_pos h13] at hr
   refine VW_seq ?_
   refine VW_region ?_
   refine VOps_cons rfl rfl (V_assign rfl ?_)
   refine VOps_nil ?_
   refine Then_n ?_
   refine VW_ret ?_
   refine InBlock_r (Then_r (VRet_one rfl (.tmp rfl) ?_))
   rw [hr]
  ·
   rw [if_neg h13] at hr
   refine VW_seq ?_
   refine VW_region ?_
   refine VOps_cons rfl rfl (V_fieldAddr VT.fa32_0 rfl ?_)
   refine VOps_cons rfl rfl (V_load 0 VT.ty3 rfl rfl rfl ?_)
   refine VOps_cons rfl rfl (V_bin rfl rfl rfl ?_)
   refine VOps_cons rfl rfl (V_move rfl ?_)
   refine VOps_split (q := 22) rfl (fun hq22 => ?_) (fun hq22 => ?_)
   ·
    refine VOps_cons (want_of rfl rfl rfl hq22) rfl (V_fieldAddr VT.fa32_2 rfl ?_)
    refine VOps_cons (want_of rfl rfl rfl hq22) rfl (V_load 0 VT.ty3 rfl rfl rfl ?_)
    refine VOps_cons (want_of rfl rfl rfl hq22) rfl (V_callP [.tmp 24, .const (.int .i64 (1)), .const (.int .i64 (6))] rfl rfl VT.en41 (within_c _ _ _) ?_)
    refine VOps_cons (want_of rfl rfl rfl hq22) rfl (V_not rfl ?_)
    refine VOps_cons rfl rfl (V_pickT rfl hq22 rfl ?_)
    refine VOps_cons rfl rfl (V_assign rfl ?_)
    refine VOps_nil ?_
    refine Then_n ?_
    refine VW_condN rfl (fun h18 => ?_) (fun h18 => ?_)
    ·
     rw [if_pos (by simp_all)] at hr
     refine VW_seq ?_
     refine VW_region ?_
     refine VOps_cons rfl rfl (V_assign rfl ?_)
     refine VOps_nil ?_
     refine Then_n ?_
     refine VW_ret ?_
     refine InBlock_r (Then_r (VRet_one rfl (.tmp rfl) ?_))
     rw [hr]
    ·
     rw [if_neg (by simp_all)] at hr
     refine VW_skip ?_
     refine InBlock_n (Then_n ?_)
     refine VW_seq ?_
     refine VW_seq ?_
     refine VW_region ?_
     refine VOps_cons rfl rfl (V_fieldAddr VT.fa32_3 rfl ?_)
     refine VOps_cons rfl rfl (V_load 0 VT.ty23 rfl rfl rfl ?_)
     refine VOps_cons rfl rfl (V_lenN (n := t.cases.length) Try.underlying23 rfl (by simp) (fun hl30 => ?_))
     refine VOps_cons rfl rfl (V_move rfl ?_)
     refine VOps_nil ?_
     refine Then_n ?_
     refine VW_block ?_
     refine VW_loopF (ι := Nat) (fun k => t.cases.length - k) (fun k => [(2, some (.ptr g2 0)), (3, some (.ptr g3 0)), (29, some (intsX t.cases)), (30, some (.int t.cases.length)), (31, some (.int k))]) (fun k => [.cells g3 32 [.int t.kind, .int t.arg, .int t.n, intsX t.cases, edgesX t.to], .cells g2 37 [.int name, blocksX bs]]) (fun k => k ≤ t.cases.length ∧ casesF (t.cases.take k) (t.cases.drop k) = casesF [] t.cases) 0 ⟨Nat.zero_le _, by simp⟩ ⟨rfl, rfl, rfl, rfl, rfl, trivial⟩ (Drops.keep (Drops.keep (Drops.refl _))) ?_
     rintro k hA
     change k ≤ t.cases.length ∧ casesF (t.cases.take k) (t.cases.drop k) = casesF [] t.cases at hA
     obtain ⟨hk, hq⟩ := hA
     refine VW_seq ?_
     refine VW_region ?_
     refine VOps_cons rfl rfl (V_bin rfl rfl rfl ?_)
     refine VOps_nil ?_
     refine Then_n ?_
     refine VW_seq ?_
     refine VW_condP rfl (fun h32 => ?_) (fun h32 => ?_)
     ·
      obtain ⟨c, hc⟩ := get_of_lt t.cases k h32
      refine VW_skip ?_
      refine Then_n ?_
      refine VW_seq ?_
      refine VW_block ?_
      refine VW_seq ?_
      refine VW_region ?_
      refine VOps_cons rfl rfl (V_move rfl ?_)
      refine VOps_cons rfl rfl (V_indexAddr (el := V.int c) VT.sl23 rfl rfl (by omega) (get_int hc) (fun a34 => ?_))
      refine VOps_cons rfl rfl (V_load_ep VT.ty3 rfl rfl ?_)
      refine VOps_cons rfl rfl (V_assign rfl ?_)
      refine VOps_cons rfl rfl (V_assign rfl ?_)
      refine VOps_nil ?_
      refine Then_n ?_
      refine VW_block ?_
      refine VW_seq ?_
      refine VW_region ?_
      refine VOps_cons rfl rfl (V_move rfl ?_)
      refine VOps_cons rfl rfl (V_callP [.tmp 37] rfl rfl VT.en102 (isWord_c _) ?_)
      refine VOps_cons rfl rfl (V_not rfl ?_)
      refine VOps_cons rfl rfl (V_assign rfl ?_)
      refine VOps_nil ?_
      refine Then_n ?_
      refine VW_condN rfl (fun h36 => ?_) (fun h36 => ?_)
      ·
       have hce : casesF [] t.cases = 4 := by rw [← hq, drop_cons hc, casesF, if_pos h36]
       rw [if_pos (by rw [hce]; decide), hce] at hr
       refine VW_seq ?_
       refine VW_region ?_
       refine VOps_cons rfl rfl (V_assign rfl ?_)
       refine VOps_nil ?_
       refine Then_n ?_
       refine VW_ret ?_
       refine InBlock_r (InBlock_r (Then_r (Then_r (InBlock_r (Then_r (VRet_one rfl (.tmp rfl) ?_))))))
       rw [hr]
      ·
       refine VW_seq ?_
       refine VW_region ?_
       refine VOps_cons rfl rfl (V_fieldAddr VT.fa32_3 rfl ?_)
       refine VOps_cons rfl rfl (V_load 0 VT.ty23 rfl rfl rfl ?_)
       refine VOps_cons rfl rfl (V_move rfl ?_)
       refine VOps_cons rfl rfl (VOp_as (V_sliceTo VT.sl23 rfl rfl (by omega) (by simp; omega) ⟨rfl, rfl⟩) (V.le.of_eq (v' := intsX (t.cases.take k)) (by rw [intsX, List.map_take]; rfl)) ?_)
       refine VOps_cons rfl rfl (V_move rfl ?_)
       refine VOps_cons rfl rfl (V_callP [.tmp 44, .tmp 45] rfl rfl VT.en92 (intContains_c (t.cases.take k) none c) ?_)
       refine VOps_cons rfl rfl (V_assign rfl ?_)
       refine VOps_nil ?_
       refine Then_n ?_
       refine VW_cond rfl (fun h40 => ?_) (fun h40 => ?_)
       ·
        have hce : casesF [] t.cases = 7 := by rw [← hq, drop_cons hc, casesF, if_neg (by rw [h36]; decide), if_pos h40]
        rw [if_pos (by rw [hce]; decide), hce] at hr
        refine VW_seq ?_
        refine VW_region ?_
        refine VOps_cons rfl rfl (V_assign rfl ?_)
        refine VOps_nil ?_
        refine Then_n ?_
        refine VW_ret ?_
        refine InBlock_r (InBlock_r (Then_r (Then_r (InBlock_r (Then_r (VRet_one rfl (.tmp rfl) ?_))))))
        rw [hr]
       ·
        refine VW_skip ?_
        refine InBlock_n (InBlock_n (Then_n ?_))
        refine VW_region ?_
        refine VOps_cons rfl rfl (V_add rfl rfl (by omega) ?_)
        refine VOps_cons rfl rfl (V_move rfl ?_)
        refine VOps_nil ?_
        refine Then_n ?_
        exact ⟨k + 1, (by (try simp only []); omega), ⟨by omega, by rw [← hq, drop_cons hc, casesF, if_neg (by rw [h36]; decide), if_neg (by rw [h40]; decide), take_snoc hc]⟩, ⟨rfl, rfl, rfl, rfl, rfl, trivial⟩, (Drops.keep (Drops.keep (Drops.refl _)))⟩
     ·
      have hke : k = t.cases.length := by omega
      subst hke
      have hce : casesF [] t.cases = 0 := by rw [← hq, List.drop_length, casesF]
      rw [if_neg (by rw [hce]; decide)] at hr
      refine VW_exit ?_
      refine Then_e (Then_e (InBlock_hit ?_))
      refine Then_n ?_
      refine VW_seq ?_
      refine VW_seq ?_
      refine VW_region ?_
      refine VOps_cons rfl rfl (V_fieldAddr VT.fa32_4 rfl ?_)
      refine VOps_cons rfl rfl (V_load 0 VT.ty30 rfl rfl rfl ?_)
      refine VOps_cons rfl rfl (V_lenN (n := t.to.length) Try.underlying30 rfl (by simp) (fun hl50 => ?_))
      refine VOps_cons rfl rfl (V_move rfl ?_)
      refine VOps_nil ?_
      refine Then_n ?_
      refine VW_block ?_
      refine VW_loopF (ι := Nat) (fun k => t.to.length - k) (fun k => [(2, some (.ptr g2 0)), (3, some (.ptr g3 0)), (49, some (edgesX t.to)), (50, some (.int t.to.length)), (51, some (.int k))]) (fun k => [.cells g3 32 [.int t.kind, .int t.arg, .int t.n, intsX t.cases, edgesX t.to], .cells g2 37 [.int name, blocksX bs]]) (fun k => k ≤ t.to.length ∧ edgesF bs (t.to.drop k) = edgesF bs t.to) 0 ⟨Nat.zero_le _, rfl⟩ ⟨rfl, rfl, rfl, rfl, rfl, trivial⟩ (Drops.keep (Drops.keep (Drops.refl _))) ?_
      rintro k hA
      change k ≤ t.to.length ∧ edgesF bs (t.to.drop k) = edgesF bs t.to at hA
      obtain ⟨hk, hq⟩ := hA
      refine VW_seq ?_
      refine VW_region ?_
      refine VOps_cons rfl rfl (V_bin rfl rfl rfl ?_)
      refine VOps_nil ?_
      refine Then_n ?_
      refine VW_seq ?_
      refine VW_condP rfl (fun h52 => ?_) (fun h52 => ?_)
      ·
       obtain ⟨e, he⟩ := get_of_lt t.to k h52
       refine VW_skip ?_
       refine Then_n ?_
       refine VW_seq ?_
       refine VW_block ?_
       refine VW_seq ?_
       refine VW_region ?_
       refine VOps_cons rfl rfl (V_indexAddr (el := edgeV e) VT.sl30 rfl rfl (by omega) (get_mapS _ he) (fun a53 => ?_))
       refine VOps_cons rfl rfl (V_load_ep_agg VT.ty29 rfl rfl ?_)
       refine VOps_cons rfl rfl (V_alloc VT.zr29 _ rfl rfl (fun g8 => ?_))
       refine VOps_cons rfl rfl (V_store_agg 0 VT.ty29 rfl rfl rfl rfl rfl ?_)
       refine VOps_nil ?_
       refine Then_n ?_
       refine VW_block ?_
       refine VW_seq ?_
       refine VW_region ?_
       refine VOps_cons rfl rfl (V_fieldAddr VT.fa29_0 rfl ?_)
       refine VOps_cons rfl rfl (V_load 0 VT.ty3 rfl rfl rfl ?_)
       refine VOps_cons rfl rfl (V_fieldAddr VT.fa37_1 rfl ?_)
       refine VOps_cons rfl rfl (V_load 2 VT.ty35 rfl rfl rfl ?_)
       refine VOps_cons rfl rfl (V_lenN (n := bs.length) Try.underlying35 rfl (by simp) (fun hl60 => ?_))
       refine VOps_cons rfl rfl (V_sub rfl rfl (by omega) ?_)
       refine VOps_cons rfl rfl (V_callP [.tmp 57, .const (.int .i64 (1)), .tmp 61] rfl rfl VT.en41 (within_c _ _ _) ?_)
       refine VOps_cons rfl rfl (V_not rfl ?_)
       refine VOps_cons rfl rfl (V_assign rfl ?_)
       refine VOps_nil ?_
       refine Then_n ?_
       refine VW_condN rfl (fun h55 => ?_) (fun h55 => ?_)
       ·
        rw [← hq, drop_cons he, edgesF, if_pos h55] at hr
        refine VW_seq ?_
        refine VW_region ?_
        refine VOps_cons rfl rfl (V_assign rfl ?_)
        refine VOps_nil ?_
        refine Then_n ?_
        refine VW_ret ?_
        refine InBlock_r (InBlock_r (Then_r (Then_r (InBlock_r (Then_r (VRet_one rfl (.tmp rfl) ?_))))))
        rw [hr]
       ·
        have hw := wi_iff.1 h55
        obtain ⟨b, hb⟩ := get_of_lt bs e.block.toNat (by omega)
        have hp : paramsOf bs e.block = b.params := by rw [paramsOf, hb]; rfl
        refine VW_seq ?_
        refine VW_draw (G := Unit) [([], [8], []), ([0], [65], []), ([1, 0], [66], []), ([], [2], []), ([3], [68], []), ([], [8], []), ([5], [70], []), ([6, 5, 4, 3], [69, 71], []), ([7, 6, 5, 4, 3], [72], []), ([8, 7, 6, 5, 4, 3], [73], []), ([9, 8, 7, 6, 5, 4, 3], [74], []), ([10, 9, 8, 7, 6, 5, 4, 3, 2, 1, 0], [67, 75], []), ([11, 10, 9, 8, 7, 6, 5, 4, 3, 2, 1, 0], [76], [])] [] (constSt _) [64] [64, 65, 66, 67, 68, 69, 70, 71, 72, 73, 74, 75, 76] rfl VT.mix (by kernel_rfl) (by kernel_rfl) ?_
        refine DrawP_consL (acc' := [_]) (eqRes _) (good0 (fun γ => Needs_f (by kernel_rfl) (fun r8 h8 => Needs_nil (vopT rfl (V_fieldAddr VT.fa29_1 h8 ⟨rfl, rfl⟩))))) rfl ?_
        refine DrawP_consL (acc' := [_, _]) (eqRes _) (good0 (fun γ => Needs_w 0 (by kernel_rfl) rfl (fun r65 h65 => Needs_nil (vopT rfl (V_load 0 VT.ty23 h65 rfl rfl ⟨rfl, rfl⟩))))) rfl ?_
        refine DrawP_consL (acc' := [_, _, _]) (eqRes _) (good0 (fun γ => Needs_w 1 (by kernel_rfl) rfl (fun r66 h66 => Needs_nil (vopT rfl (V_lenN (n := e.args.length) Try.underlying23 h66 (by simp) (fun hl67 => ⟨rfl, rfl⟩)))))) rfl ?_
        refine DrawP_consL (acc' := [_, _, _, _]) (eqRes _) (good0 (fun γ => Needs_f (by kernel_rfl) (fun r2 h2 => Needs_nil (vopT rfl (V_fieldAddr VT.fa37_1 h2 ⟨rfl, rfl⟩))))) rfl ?_
        refine DrawP_consL (acc' := [_, _, _, _, _]) (eqRes _) (good0 (fun γ => Needs_w 3 (by kernel_rfl) rfl (fun r68 h68 => Needs_nil (vopT rfl (V_load 2 VT.ty35 h68 rfl rfl ⟨rfl, rfl⟩))))) rfl ?_
        refine DrawP_consL (acc' := [_, _, _, _, _, _]) (eqRes _) (good0 (fun γ => Needs_f (by kernel_rfl) (fun r8 h8 => Needs_nil (vopT rfl (V_fieldAddr VT.fa29_0 h8 ⟨rfl, rfl⟩))))) rfl ?_
        refine DrawP_consL (acc' := [_, _, _, _, _, _, _]) (eqRes _) (good0 (fun γ => Needs_w 5 (by kernel_rfl) rfl (fun r70 h70 => Needs_nil (vopT rfl (V_load 0 VT.ty3 h70 rfl rfl ⟨rfl, rfl⟩))))) rfl ?_
        refine DrawP_consL (acc' := [_, _, _, _, _, _, _, _]) (epRes _) (good0 (fun γ => Needs_w 4 (by kernel_rfl) rfl (fun r69 h69 => Needs_w 6 (by kernel_rfl) rfl (fun r71 h71 => Needs_nil (vopT rfl (V_indexAddr (el := blockV b) VT.sl35 h69 h71 (by omega) (get_mapS _ hb) (fun a72 => ⟨⟨_, rfl⟩, rfl⟩))))))) rfl ?_
        refine DrawP_consL (acc' := [_, _, _, _, _, _, _, _, _]) (epRes _) (good0 (fun γ => Needs_w 7 (by kernel_rfl) rfl (fun r72 h72 => Needs_nil (epE h72 (fun a_72 e72 => vopT rfl (V_fieldAddr_ep VT.fa34_0 e72 rfl ⟨⟨_, rfl⟩, rfl⟩)))))) rfl ?_
        refine DrawP_consL (acc' := [_, _, _, _, _, _, _, _, _, _]) (eqRes _) (good0 (fun γ => Needs_w 8 (by kernel_rfl) rfl (fun r73 h73 => Needs_nil (epE h73 (fun a_73 e73 => vopT rfl (V_load_ep VT.ty23 e73 rfl ⟨rfl, rfl⟩)))))) rfl ?_
        refine DrawP_consL (acc' := [_, _, _, _, _, _, _, _, _, _, _]) (eqRes _) (good0 (fun γ => Needs_w 9 (by kernel_rfl) rfl (fun r74 h74 => Needs_nil (vopT rfl (V_lenN (n := b.params.length) Try.underlying23 h74 (by simp) (fun hl75 => ⟨rfl, rfl⟩)))))) rfl ?_
        refine DrawP_consL (acc' := [_, _, _, _, _, _, _, _, _, _, _, _]) (eqRes _) (good0 (fun γ => Needs_w 2 (by kernel_rfl) rfl (fun r67 h67 => Needs_w 10 (by kernel_rfl) rfl (fun r75 h75 => Needs_nil (vopT rfl (V_bin h67 h75 rfl ⟨rfl, rfl⟩)))))) rfl ?_
        refine DrawP_consL (acc' := [_, _, _, _, _, _, _, _, _, _, _, _, _]) (eqRes _) (good0 (fun γ => Needs_w 11 (by kernel_rfl) rfl (fun r76 h76 => Needs_nil (vopT rfl (V_assign h76 ⟨rfl, rfl⟩))))) rfl ?_
        refine DrawP_nil (fun γ => Needs_w 12 (by kernel_rfl) rfl (fun r64 h64 => Needs_nil ?_))
        have e64 : r64 = some _ := h64
        subst e64
        clear h64
        refine Then_n ?_
        refine VW_condNe rfl (fun h64 => ?_) (fun h64 => ?_)
        ·
         rw [← hq, drop_cons he, edgesF, if_neg (by rw [h55]; decide), if_pos (by rw [hp]; omega)] at hr
         refine VW_seq ?_
         refine VW_region ?_
         refine VOps_cons rfl rfl (V_assign rfl ?_)
         refine VOps_nil ?_
         refine Then_n ?_
         refine VW_ret ?_
         refine InBlock_r (InBlock_r (Then_r (Then_r (InBlock_r (Then_r (VRet_one rfl (.tmp rfl) ?_))))))
         rw [hr]
        ·
         refine VW_skip ?_
         refine InBlock_n (InBlock_n (Then_n ?_))
         refine VW_region ?_
         refine VOps_cons rfl rfl (V_add rfl rfl (by omega) ?_)
         refine VOps_cons rfl rfl (V_move rfl ?_)
         refine VOps_nil ?_
         refine Then_n ?_
         exact ⟨k + 1, (by (try simp only []); omega), ⟨by omega, by rw [← hq, drop_cons he, edgesF, if_neg (by rw [h55]; decide), if_neg (by rw [hp]; omega)]⟩, ⟨rfl, rfl, rfl, rfl, rfl, trivial⟩, (Drops.drop (Drops.keep (Drops.keep (Drops.refl _))))⟩
      ·
       have hke : k = t.to.length := by omega
       subst hke
       rw [List.drop_length, edgesF] at hq
       rw [← hq] at hr
       refine VW_exit ?_
       refine Then_e (Then_e (InBlock_hit ?_))
       refine Then_n ?_
       refine VW_seq ?_
       refine VW_region ?_
       refine VOps_cons rfl rfl (V_assign rfl ?_)
       refine VOps_nil ?_
       refine Then_n ?_
       refine VW_ret ?_
       refine VRet_one rfl (.tmp rfl) ?_
       rw [hr]
   ·
    refine VOps_skipU (.inl (skip_of rfl rfl rfl hq22)) rfl ?_
    refine VOps_skipU (.inl (skip_of rfl rfl rfl hq22)) rfl ?_
    refine VOps_skipU (.inl (skip_of rfl rfl rfl hq22)) rfl ?_
    refine VOps_skipU (.inl (skip_of rfl rfl rfl hq22)) rfl ?_
    refine VOps_cons rfl rfl (V_pickF rfl hq22 rfl ?_)
    refine VOps_cons rfl rfl (V_assign rfl ?_)
    refine VOps_nil ?_
    refine Then_n ?_
    refine VW_condF rfl rfl ?_
    rw [if_neg (by simp_all)] at hr
    refine VW_skip ?_
    refine InBlock_n (Then_n ?_)
    refine VW_seq ?_
    refine VW_seq ?_
    refine VW_region ?_
    refine VOps_cons rfl rfl (V_fieldAddr VT.fa32_3 rfl ?_)
    refine VOps_cons rfl rfl (V_load 0 VT.ty23 rfl rfl rfl ?_)
    refine VOps_cons rfl rfl (V_lenN (n := t.cases.length) Try.underlying23 rfl (by simp) (fun hl30 => ?_))
    refine VOps_cons rfl rfl (V_move rfl ?_)
    refine VOps_nil ?_
    refine Then_n ?_
    refine VW_block ?_
    refine VW_loopF (ι := Nat) (fun k => t.cases.length - k) (fun k => [(2, some (.ptr g2 0)), (3, some (.ptr g3 0)), (29, some (intsX t.cases)), (30, some (.int t.cases.length)), (31, some (.int k))]) (fun k => [.cells g3 32 [.int t.kind, .int t.arg, .int t.n, intsX t.cases, edgesX t.to], .cells g2 37 [.int name, blocksX bs]]) (fun k => k ≤ t.cases.length ∧ casesF (t.cases.take k) (t.cases.drop k) = casesF [] t.cases) 0 ⟨Nat.zero_le _, by simp⟩ ⟨rfl, rfl, rfl, rfl, rfl, trivial⟩ (Drops.keep (Drops.keep (Drops.refl _))) ?_
    rintro k hA
    change k ≤ t.cases.length ∧ casesF (t.cases.take k) (t.cases.drop k) = casesF [] t.cases at hA
    obtain ⟨hk, hq⟩ := hA
    refine VW_seq ?_
    refine VW_region ?_
    refine VOps_cons rfl rfl (V_bin rfl rfl rfl ?_)
    refine VOps_nil ?_
    refine Then_n ?_
    refine VW_seq ?_
    refine VW_condP rfl (fun h32 => ?_) (fun h32 => ?_)
    ·
     obtain ⟨c, hc⟩ := get_of_lt t.cases k h32
     refine VW_skip ?_
     refine Then_n ?_
     refine VW_seq ?_
     refine VW_block ?_
     refine VW_seq ?_
     refine VW_region ?_
     refine VOps_cons rfl rfl (V_move rfl ?_)
     refine VOps_cons rfl rfl (V_indexAddr (el := V.int c) VT.sl23 rfl rfl (by omega) (get_int hc) (fun a34 => ?_))
     refine VOps_cons rfl rfl (V_load_ep VT.ty3 rfl rfl ?_)
     refine VOps_cons rfl rfl (V_assign rfl ?_)
     refine VOps_cons rfl rfl (V_assign rfl ?_)
     refine VOps_nil ?_
     refine Then_n ?_
     refine VW_block ?_
     refine VW_seq ?_
     refine VW_region ?_
     refine VOps_cons rfl rfl (V_move rfl ?_)
     refine VOps_cons rfl rfl (V_callP [.tmp 37] rfl rfl VT.en102 (isWord_c _) ?_)
     refine VOps_cons rfl rfl (V_not rfl ?_)
     refine VOps_cons rfl rfl (V_assign rfl ?_)
     refine VOps_nil ?_
     refine Then_n ?_
     refine VW_condN rfl (fun h36 => ?_) (fun h36 => ?_)
     ·
      have hce : casesF [] t.cases = 4 := by rw [← hq, drop_cons hc, casesF, if_pos h36]
      rw [if_pos (by rw [hce]; decide), hce] at hr
      refine VW_seq ?_
      refine VW_region ?_
      refine VOps_cons rfl rfl (V_assign rfl ?_)
      refine VOps_nil ?_
      refine Then_n ?_
      refine VW_ret ?_
      refine InBlock_r (InBlock_r (Then_r (Then_r (InBlock_r (Then_r (VRet_one rfl (.tmp rfl) ?_))))))
      rw [hr]
     ·
      refine VW_seq ?_
      refine VW_region ?_
      refine VOps_cons rfl rfl (V_fieldAddr VT.fa32_3 rfl ?_)
      refine VOps_cons rfl rfl (V_load 0 VT.ty23 rfl rfl rfl ?_)
      refine VOps_cons rfl rfl (V_move rfl ?_)
      refine VOps_cons rfl rfl (VOp_as (V_sliceTo VT.sl23 rfl rfl (by omega) (by simp; omega) ⟨rfl, rfl⟩) (V.le.of_eq (v' := intsX (t.cases.take k)) (by rw [intsX, List.map_take]; rfl)) ?_)
      refine VOps_cons rfl rfl (V_move rfl ?_)
      refine VOps_cons rfl rfl (V_callP [.tmp 44, .tmp 45] rfl rfl VT.en92 (intContains_c (t.cases.take k) none c) ?_)
      refine VOps_cons rfl rfl (V_assign rfl ?_)
      refine VOps_nil ?_
      refine Then_n ?_
      refine VW_cond rfl (fun h40 => ?_) (fun h40 => ?_)
      ·
       have hce : casesF [] t.cases = 7 := by rw [← hq, drop_cons hc, casesF, if_neg (by rw [h36]; decide), if_pos h40]
       rw [if_pos (by rw [hce]; decide), hce] at hr
       refine VW_seq ?_
       refine VW_region ?_
       refine VOps_cons rfl rfl (V_assign rfl ?_)
       refine VOps_nil ?_
       refine Then_n ?_
       refine VW_ret ?_
       refine InBlock_r (InBlock_r (Then_r (Then_r (InBlock_r (Then_r (VRet_one rfl (.tmp rfl) ?_))))))
       rw [hr]
      ·
       refine VW_skip ?_
       refine InBlock_n (InBlock_n (Then_n ?_))
       refine VW_region ?_
       refine VOps_cons rfl rfl (V_add rfl rfl (by omega) ?_)
       refine VOps_cons rfl rfl (V_move rfl ?_)
       refine VOps_nil ?_
       refine Then_n ?_
       exact ⟨k + 1, (by (try simp only []); omega), ⟨by omega, by rw [← hq, drop_cons hc, casesF, if_neg (by rw [h36]; decide), if_neg (by rw [h40]; decide), take_snoc hc]⟩, ⟨rfl, rfl, rfl, rfl, rfl, trivial⟩, (Drops.keep (Drops.keep (Drops.refl _)))⟩
    ·
     have hke : k = t.cases.length := by omega
     subst hke
     have hce : casesF [] t.cases = 0 := by rw [← hq, List.drop_length, casesF]
     rw [if_neg (by rw [hce]; decide)] at hr
     refine VW_exit ?_
     refine Then_e (Then_e (InBlock_hit ?_))
     refine Then_n ?_
     refine VW_seq ?_
     refine VW_seq ?_
     refine VW_region ?_
     refine VOps_cons rfl rfl (V_fieldAddr VT.fa32_4 rfl ?_)
     refine VOps_cons rfl rfl (V_load 0 VT.ty30 rfl rfl rfl ?_)
     refine VOps_cons rfl rfl (V_lenN (n := t.to.length) Try.underlying30 rfl (by simp) (fun hl50 => ?_))
     refine VOps_cons rfl rfl (V_move rfl ?_)
     refine VOps_nil ?_
     refine Then_n ?_
     refine VW_block ?_
     refine VW_loopF (ι := Nat) (fun k => t.to.length - k) (fun k => [(2, some (.ptr g2 0)), (3, some (.ptr g3 0)), (49, some (edgesX t.to)), (50, some (.int t.to.length)), (51, some (.int k))]) (fun k => [.cells g3 32 [.int t.kind, .int t.arg, .int t.n, intsX t.cases, edgesX t.to], .cells g2 37 [.int name, blocksX bs]]) (fun k => k ≤ t.to.length ∧ edgesF bs (t.to.drop k) = edgesF bs t.to) 0 ⟨Nat.zero_le _, rfl⟩ ⟨rfl, rfl, rfl, rfl, rfl, trivial⟩ (Drops.keep (Drops.keep (Drops.refl _))) ?_
     rintro k hA
     change k ≤ t.to.length ∧ edgesF bs (t.to.drop k) = edgesF bs t.to at hA
     obtain ⟨hk, hq⟩ := hA
     refine VW_seq ?_
     refine VW_region ?_
     refine VOps_cons rfl rfl (V_bin rfl rfl rfl ?_)
     refine VOps_nil ?_
     refine Then_n ?_
     refine VW_seq ?_
     refine VW_condP rfl (fun h52 => ?_) (fun h52 => ?_)
     ·
      obtain ⟨e, he⟩ := get_of_lt t.to k h52
      refine VW_skip ?_
      refine Then_n ?_
      refine VW_seq ?_
      refine VW_block ?_
      refine VW_seq ?_
      refine VW_region ?_
      refine VOps_cons rfl rfl (V_indexAddr (el := edgeV e) VT.sl30 rfl rfl (by omega) (get_mapS _ he) (fun a53 => ?_))
      refine VOps_cons rfl rfl (V_load_ep_agg VT.ty29 rfl rfl ?_)
      refine VOps_cons rfl rfl (V_alloc VT.zr29 _ rfl rfl (fun g8 => ?_))
      refine VOps_cons rfl rfl (V_store_agg 0 VT.ty29 rfl rfl rfl rfl rfl ?_)
      refine VOps_nil ?_
      refine Then_n ?_
      refine VW_block ?_
      refine VW_seq ?_
      refine VW_region ?_
      refine VOps_cons rfl rfl (V_fieldAddr VT.fa29_0 rfl ?_)
      refine VOps_cons rfl rfl (V_load 0 VT.ty3 rfl rfl rfl ?_)
      refine VOps_cons rfl rfl (V_fieldAddr VT.fa37_1 rfl ?_)
      refine VOps_cons rfl rfl (V_load 2 VT.ty35 rfl rfl rfl ?_)
      refine VOps_cons rfl rfl (V_lenN (n := bs.length) Try.underlying35 rfl (by simp) (fun hl60 => ?_))
      refine VOps_cons rfl rfl (V_sub rfl rfl (by omega) ?_)
      refine VOps_cons rfl rfl (V_callP [.tmp 57, .const (.int .i64 (1)), .tmp 61] rfl rfl VT.en41 (within_c _ _ _) ?_)
      refine VOps_cons rfl rfl (V_not rfl ?_)
      refine VOps_cons rfl rfl (V_assign rfl ?_)
      refine VOps_nil ?_
      refine Then_n ?_
      refine VW_condN rfl (fun h55 => ?_) (fun h55 => ?_)
      ·
       rw [← hq, drop_cons he, edgesF, if_pos h55] at hr
       refine VW_seq ?_
       refine VW_region ?_
       refine VOps_cons rfl rfl (V_assign rfl ?_)
       refine VOps_nil ?_
       refine Then_n ?_
       refine VW_ret ?_
       refine InBlock_r (InBlock_r (Then_r (Then_r (InBlock_r (Then_r (VRet_one rfl (.tmp rfl) ?_))))))
       rw [hr]
      ·
       have hw := wi_iff.1 h55
       obtain ⟨b, hb⟩ := get_of_lt bs e.block.toNat (by omega)
       have hp : paramsOf bs e.block = b.params := by rw [paramsOf, hb]; rfl
       refine VW_seq ?_
       refine VW_draw (G := Unit) [([], [8], []), ([0], [65], []), ([1, 0], [66], []), ([], [2], []), ([3], [68], []), ([], [8], []), ([5], [70], []), ([6, 5, 4, 3], [69, 71], []), ([7, 6, 5, 4, 3], [72], []), ([8, 7, 6, 5, 4, 3], [73], []), ([9, 8, 7, 6, 5, 4, 3], [74], []), ([10, 9, 8, 7, 6, 5, 4, 3, 2, 1, 0], [67, 75], []), ([11, 10, 9, 8, 7, 6, 5, 4, 3, 2, 1, 0], [76], [])] [] (constSt _) [64] [64, 65, 66, 67, 68, 69, 70, 71, 72, 73, 74, 75, 76] rfl VT.mix (by kernel_rfl) (by kernel_rfl) ?_
       refine DrawP_consL (acc' := [_]) (eqRes _) (good0 (fun γ => Needs_f (by kernel_rfl) (fun r8 h8 => Needs_nil (vopT rfl (V_fieldAddr VT.fa29_1 h8 ⟨rfl, rfl⟩))))) rfl ?_
       refine DrawP_consL (acc' := [_, _]) (eqRes _) (good0 (fun γ => Needs_w 0 (by kernel_rfl) rfl (fun r65 h65 => Needs_nil (vopT rfl (V_load 0 VT.ty23 h65 rfl rfl ⟨rfl, rfl⟩))))) rfl ?_
       refine DrawP_consL (acc' := [_, _, _]) (eqRes _) (good0 (fun γ => Needs_w 1 (by kernel_rfl) rfl (fun r66 h66 => Needs_nil (vopT rfl (V_lenN (n := e.args.length) Try.underlying23 h66 (by simp) (fun hl67 => ⟨rfl, rfl⟩)))))) rfl ?_
       refine DrawP_consL (acc' := [_, _, _, _]) (eqRes _) (good0 (fun γ => Needs_f (by kernel_rfl) (fun r2 h2 => Needs_nil (vopT rfl (V_fieldAddr VT.fa37_1 h2 ⟨rfl, rfl⟩))))) rfl ?_
       refine DrawP_consL (acc' := [_, _, _, _, _]) (eqRes _) (good0 (fun γ => Needs_w 3 (by kernel_rfl) rfl (fun r68 h68 => Needs_nil (vopT rfl (V_load 2 VT.ty35 h68 rfl rfl ⟨rfl, rfl⟩))))) rfl ?_
       refine DrawP_consL (acc' := [_, _, _, _, _, _]) (eqRes _) (good0 (fun γ => Needs_f (by kernel_rfl) (fun r8 h8 => Needs_nil (vopT rfl (V_fieldAddr VT.fa29_0 h8 ⟨rfl, rfl⟩))))) rfl ?_
       refine DrawP_consL (acc' := [_, _, _, _, _, _, _]) (eqRes _) (good0 (fun γ => Needs_w 5 (by kernel_rfl) rfl (fun r70 h70 => Needs_nil (vopT rfl (V_load 0 VT.ty3 h70 rfl rfl ⟨rfl, rfl⟩))))) rfl ?_
       refine DrawP_consL (acc' := [_, _, _, _, _, _, _, _]) (epRes _) (good0 (fun γ => Needs_w 4 (by kernel_rfl) rfl (fun r69 h69 => Needs_w 6 (by kernel_rfl) rfl (fun r71 h71 => Needs_nil (vopT rfl (V_indexAddr (el := blockV b) VT.sl35 h69 h71 (by omega) (get_mapS _ hb) (fun a72 => ⟨⟨_, rfl⟩, rfl⟩))))))) rfl ?_
       refine DrawP_consL (acc' := [_, _, _, _, _, _, _, _, _]) (epRes _) (good0 (fun γ => Needs_w 7 (by kernel_rfl) rfl (fun r72 h72 => Needs_nil (epE h72 (fun a_72 e72 => vopT rfl (V_fieldAddr_ep VT.fa34_0 e72 rfl ⟨⟨_, rfl⟩, rfl⟩)))))) rfl ?_
       refine DrawP_consL (acc' := [_, _, _, _, _, _, _, _, _, _]) (eqRes _) (good0 (fun γ => Needs_w 8 (by kernel_rfl) rfl (fun r73 h73 => Needs_nil (epE h73 (fun a_73 e73 => vopT rfl (V_load_ep VT.ty23 e73 rfl ⟨rfl, rfl⟩)))))) rfl ?_
       refine DrawP_consL (acc' := [_, _, _, _, _, _, _, _, _, _, _]) (eqRes _) (good0 (fun γ => Needs_w 9 (by kernel_rfl) rfl (fun r74 h74 => Needs_nil (vopT rfl (V_lenN (n := b.params.length) Try.underlying23 h74 (by simp) (fun hl75 => ⟨rfl, rfl⟩)))))) rfl ?_
       refine DrawP_consL (acc' := [_, _, _, _, _, _, _, _, _, _, _, _]) (eqRes _) (good0 (fun γ => Needs_w 2 (by kernel_rfl) rfl (fun r67 h67 => Needs_w 10 (by kernel_rfl) rfl (fun r75 h75 => Needs_nil (vopT rfl (V_bin h67 h75 rfl ⟨rfl, rfl⟩)))))) rfl ?_
       refine DrawP_consL (acc' := [_, _, _, _, _, _, _, _, _, _, _, _, _]) (eqRes _) (good0 (fun γ => Needs_w 11 (by kernel_rfl) rfl (fun r76 h76 => Needs_nil (vopT rfl (V_assign h76 ⟨rfl, rfl⟩))))) rfl ?_
       refine DrawP_nil (fun γ => Needs_w 12 (by kernel_rfl) rfl (fun r64 h64 => Needs_nil ?_))
       have e64 : r64 = some _ := h64
       subst e64
       clear h64
       refine Then_n ?_
       refine VW_condNe rfl (fun h64 => ?_) (fun h64 => ?_)
       ·
        rw [← hq, drop_cons he, edgesF, if_neg (by rw [h55]; decide), if_pos (by rw [hp]; omega)] at hr
        refine VW_seq ?_
        refine VW_region ?_
        refine VOps_cons rfl rfl (V_assign rfl ?_)
        refine VOps_nil ?_
        refine Then_n ?_
        refine VW_ret ?_
        refine InBlock_r (InBlock_r (Then_r (Then_r (InBlock_r (Then_r (VRet_one rfl (.tmp rfl) ?_))))))
        rw [hr]
       ·
        refine VW_skip ?_
        refine InBlock_n (InBlock_n (Then_n ?_))
        refine VW_region ?_
        refine VOps_cons rfl rfl (V_add rfl rfl (by omega) ?_)
        refine VOps_cons rfl rfl (V_move rfl ?_)
        refine VOps_nil ?_
        refine Then_n ?_
        exact ⟨k + 1, (by (try simp only []); omega), ⟨by omega, by rw [← hq, drop_cons he, edgesF, if_neg (by rw [h55]; decide), if_neg (by rw [hp]; omega)]⟩, ⟨rfl, rfl, rfl, rfl, rfl, trivial⟩, (Drops.drop (Drops.keep (Drops.keep (Drops.refl _))))⟩
     ·
      have hke : k = t.to.length := by omega
      subst hke
      rw [List.drop_length, edgesF] at hq
      rw [← hq] at hr
      refine VW_exit ?_
      refine Then_e (Then_e (InBlock_hit ?_))
      refine Then_n ?_
      refine VW_seq ?_
      refine VW_region ?_
      refine VOps_cons rfl rfl (V_assign rfl ?_)
      refine VOps_nil ?_
      refine Then_n ?_
      refine VW_ret ?_
      refine VRet_one rfl (.tmp rfl) ?_
      rw [hr]


set_option maxRecDepth 100000 in
set_option maxHeartbeats 4000000 in
theorem calls_c (u : SUnit) (i : SIns) (hN : i.op = 13 ∨ i.op = 9 → 0 ≤ i.n) (hB : ∀ f ∈ u.fns, f.blocks ≠ []) : VPure Try.prog 46 [unitV u, insV i] (.int (callF u i)) := by
 have hr := callF.eq_def u i
 refine V_start (nt := 50) Try.func46 rfl rfl rfl ?_
 refine VW_seq ?_
 refine VW_region ?_
 refine VOps_cons rfl rfl (V_box rfl rfl (fun g2 => ?_))
 refine VOps_cons rfl rfl (V_box rfl rfl (fun g3 => ?_))
 refine VOps_cons rfl rfl (V_assign rfl ?_)
 refine VOps_nil ?_
 refine Then_n ?_
 refine VW_seq ?_
 refine VW_seq ?_
 refine VW_region ?_
 refine VOps_cons rfl rfl (V_fieldAddr VT.fa25_1 rfl ?_)
 refine VOps_cons rfl rfl (V_load 0 VT.ty3 rfl rfl rfl ?_)
 refine VOps_cons rfl rfl (V_bin rfl rfl rfl ?_)
 refine VOps_cons rfl rfl (V_move rfl ?_)
 refine VOps_split (q := 9) rfl (fun hq9 => ?_) (fun hq9 => ?_)
 ·
  refine VOps_cons (want_of rfl rfl rfl hq9) rfl (V_fieldAddr VT.fa25_1 rfl ?_)
  refine VOps_cons (want_of rfl rfl rfl hq9) rfl (V_load 0 VT.ty3 rfl rfl rfl ?_)
  refine VOps_cons (want_of rfl rfl rfl hq9) rfl (V_bin rfl rfl rfl ?_)
  refine VOps_cons rfl rfl (V_pickT rfl hq9 rfl ?_)
  refine VOps_nil ?_
  refine Then_n ?_
  refine VW_condNe rfl (fun h13 => ?_) (fun h13 => ?_)
  ·
   rw [if_pos (by simp_all)] at hr
   refine VW_seq ?_
   refine VW_region ?_
   refine VOps_cons rfl rfl (V_assign rfl ?_)
   refine VOps_nil ?_
   refine Then_n ?_
   refine VW_ret ?_
   refine Then_r (VRet_one rfl (.tmp rfl) ?_)
   rw [hr]
  ·
   rw [if_neg (by simp_all)] at hr
   have hop : i.op = 13 ∨ i.op = 9 := by by_cases h1 : i.op = 13 <;> by_cases h2 : i.op = 9 <;> simp_all
   have h0 := hN hop
   refine VW_skip ?_
   refine Then_n ?_
   refine VW_seq ?_
   refine VW_seq ?_
   refine VW_region ?_
   refine VOps_cons rfl rfl (V_fieldAddr VT.fa25_2 rfl ?_)
   refine VOps_cons rfl rfl (V_load 0 VT.ty3 rfl rfl rfl ?_)
   refine VOps_cons rfl rfl (V_fieldAddr VT.fa40_0 rfl ?_)
   refine VOps_cons rfl rfl (V_load 1 VT.ty38 rfl rfl rfl ?_)
   refine VOps_cons rfl rfl (V_lenN (n := u.fns.length) Try.underlying38 rfl (by simp) (fun hl18 => ?_))
   refine VOps_cons rfl rfl (V_bin rfl rfl rfl ?_)
   refine VOps_nil ?_
   refine Then_n ?_
   refine VW_condP rfl (fun h19 => ?_) (fun h19 => ?_)
   ·
    rw [if_pos h19] at hr
    refine VW_seq ?_
    refine VW_region ?_
    refine VOps_cons rfl rfl (V_assign rfl ?_)
    refine VOps_nil ?_
    refine Then_n ?_
    refine VW_ret ?_
    refine Then_r (VRet_one rfl (.tmp rfl) ?_)
    rw [hr]
   ·
    rw [if_neg h19] at hr
    obtain ⟨f, hf⟩ := get_of_lt u.fns i.n.toNat (by omega)
    obtain ⟨b, tl, hb⟩ := List.exists_cons_of_ne_nil (hB f (List.mem_of_getElem? hf))
    have hen : entryOf u i.n = b.params := by rw [entryOf, hf]; simp [paramsOf, hb]
    rw [hen] at hr
    refine VW_skip ?_
    refine Then_n ?_
    refine VW_seq ?_
    refine VW_region ?_
    refine VOps_cons rfl rfl (V_fieldAddr VT.fa40_0 rfl ?_)
    refine VOps_cons rfl rfl (V_load 1 VT.ty38 rfl rfl rfl ?_)
    refine VOps_cons rfl rfl (V_fieldAddr VT.fa25_2 rfl ?_)
    refine VOps_cons rfl rfl (V_load 0 VT.ty3 rfl rfl rfl ?_)
    refine VOps_cons rfl rfl (V_indexAddr (el := funcV f) VT.sl38 rfl rfl (by omega) (get_mapS _ hf) (fun a24 => ?_))
    refine VOps_cons rfl rfl (V_fieldAddr_ep VT.fa37_1 rfl rfl ?_)
    refine VOps_cons rfl rfl (V_load_ep VT.ty35 rfl rfl ?_)
    refine VOps_cons rfl rfl (V_indexAddr (el := blockV b) VT.sl35 rfl rfl (by omega) (by rw [hb]; rfl) (fun a27 => ?_))
    refine VOps_cons rfl rfl (V_fieldAddr_ep VT.fa34_0 rfl rfl ?_)
    refine VOps_cons rfl rfl (V_load_ep VT.ty23 rfl rfl ?_)
    refine VOps_cons rfl rfl (V_lenN (n := b.params.length) Try.underlying23 rfl (by simp) (fun hl30 => ?_))
    refine VOps_cons rfl rfl (V_assign rfl ?_)
    refine VOps_nil ?_
    refine Then_n ?_
    refine VW_seq ?_
    refine VW_seq ?_
    refine VW_region ?_
    refine VOps_cons rfl rfl (V_fieldAddr VT.fa25_1 rfl ?_)
    refine VOps_cons rfl rfl (V_load 0 VT.ty3 rfl rfl rfl ?_)
    refine VOps_cons rfl rfl (V_bin rfl rfl rfl ?_)
    refine VOps_cons rfl rfl (V_move rfl ?_)
    refine VOps_split (q := 34) rfl (fun hq34 => ?_) (fun hq34 => ?_)
    ·
     refine VOps_cons (want_of rfl rfl rfl hq34) rfl (V_move rfl ?_)
     refine VOps_cons (want_of rfl rfl rfl hq34) rfl (V_fieldAddr VT.fa25_3 rfl ?_)
     refine VOps_cons (want_of rfl rfl rfl hq34) rfl (V_load 0 VT.ty23 rfl rfl rfl ?_)
     refine VOps_cons (want_of rfl rfl rfl hq34) rfl (V_lenN (n := i.args.length) Try.underlying23 rfl (by simp) (fun hl38 => ?_))
     refine VOps_cons (want_of rfl rfl rfl hq34) rfl (V_bin rfl rfl rfl ?_)
     refine VOps_cons rfl rfl (V_pickT rfl hq34 rfl ?_)
     refine VOps_cons rfl rfl (V_move rfl ?_)
     refine VOps_split (q := 41) rfl (fun hq41 => ?_) (fun hq41 => ?_)
     ·
      refine VOps_skipU (.inl (skip_of rfl rfl rfl hq41)) rfl ?_
      refine VOps_skipU (.inl (skip_of rfl rfl rfl hq41)) rfl ?_
      refine VOps_skipU (.inl (skip_of rfl rfl rfl hq41)) rfl ?_
      refine VOps_skipU (.inl (skip_of rfl rfl rfl hq41)) rfl ?_
      refine VOps_skipU (.inr ⟨_, _, 45, rfl, rfl, rfl⟩) rfl ?_
      refine VOps_skipU (.inr ⟨_, _, 45, rfl, rfl, rfl⟩) rfl ?_
      refine VOps_skipU (.inl (skip_of rfl rfl rfl hq41)) rfl ?_
      refine VOps_cons rfl rfl (V_pickT rfl hq41 rfl ?_)
      refine VOps_nil ?_
      refine Then_n ?_
      refine VW_condT rfl rfl ?_
      rw [if_pos (by first | (simp_all; done) | (simp_all; omega))] at hr
      refine VW_seq ?_
      refine VW_region ?_
      refine VOps_cons rfl rfl (V_assign rfl ?_)
      refine VOps_nil ?_
      refine Then_n ?_
      refine VW_ret ?_
      refine Then_r (VRet_one rfl (.tmp rfl) ?_)
      rw [hr]
     ·
      refine VOps_cons (want_of rfl rfl rfl hq41) rfl (V_fieldAddr VT.fa25_1 rfl ?_)
      refine VOps_cons (want_of rfl rfl rfl hq41) rfl (V_load 0 VT.ty3 rfl rfl rfl ?_)
      refine VOps_cons (want_of rfl rfl rfl hq41) rfl (V_bin rfl rfl rfl ?_)
      refine VOps_cons (want_of rfl rfl rfl hq41) rfl (V_move rfl ?_)
      refine VOps_split (q := 45) rfl (fun hq45 => ?_) (fun hq45 => ?_)
      ·
       refine VOps_cons (want_of rfl rfl rfl hq45) rfl (V_move rfl ?_)
       refine VOps_cons (want_of rfl rfl rfl hq45) rfl (V_bin rfl rfl rfl ?_)
       refine VOps_cons (want_of rfl rfl rfl hq41) rfl (V_pickT rfl hq45 rfl ?_)
       refine VOps_cons rfl rfl (V_pickF rfl hq41 rfl ?_)
       refine VOps_nil ?_
       refine Then_n ?_
       refine VW_condEq rfl (fun h49 => ?_) (fun h49 => ?_)
       ·
        rw [if_pos (by first | (simp_all; done) | (simp_all; omega))] at hr
        refine VW_seq ?_
        refine VW_region ?_
        refine VOps_cons rfl rfl (V_assign rfl ?_)
        refine VOps_nil ?_
        refine Then_n ?_
        refine VW_ret ?_
        refine Then_r (VRet_one rfl (.tmp rfl) ?_)
        rw [hr]
       ·
        rw [if_neg (by first | (simp_all; done) | (simp_all; omega))] at hr
        refine VW_skip ?_
        refine Then_n ?_
        refine VW_seq ?_
        refine VW_region ?_
        refine VOps_cons rfl rfl (V_assign rfl ?_)
        refine VOps_nil ?_
        refine Then_n ?_
        refine VW_ret ?_
        refine VRet_one rfl (.tmp rfl) ?_
        rw [hr]
      ·
       refine VOps_skipU (.inl (skip_of rfl rfl rfl hq45)) rfl ?_
       refine VOps_skipU (.inl (skip_of rfl rfl rfl hq45)) rfl ?_
       refine VOps_cons (want_of rfl rfl rfl hq41) rfl (V_pickF rfl hq45 rfl ?_)
       refine VOps_cons rfl rfl (V_pickF rfl hq41 rfl ?_)
       refine VOps_nil ?_
       refine Then_n ?_
       refine VW_condF rfl rfl ?_
       rw [if_neg (by first | (simp_all; done) | (simp_all; omega))] at hr
       refine VW_skip ?_
       refine Then_n ?_
       refine VW_seq ?_
       refine VW_region ?_
       refine VOps_cons rfl rfl (V_assign rfl ?_)
       refine VOps_nil ?_
       refine Then_n ?_
       refine VW_ret ?_
       refine VRet_one rfl (.tmp rfl) ?_
       rw [hr]
    ·
     refine VOps_skipU (.inl (skip_of rfl rfl rfl hq34)) rfl ?_
     refine VOps_skipU (.inl (skip_of rfl rfl rfl hq34)) rfl ?_
     refine VOps_skipU (.inl (skip_of rfl rfl rfl hq34)) rfl ?_
     refine VOps_skipU (.inl (skip_of rfl rfl rfl hq34)) rfl ?_
     refine VOps_skipU (.inl (skip_of rfl rfl rfl hq34)) rfl ?_
     refine VOps_cons rfl rfl (V_pickF rfl hq34 rfl ?_)
     refine VOps_cons rfl rfl (V_move rfl ?_)
     refine VOps_cons (want_of rfl rfl rfl rfl) rfl (V_fieldAddr VT.fa25_1 rfl ?_)
     refine VOps_cons (want_of rfl rfl rfl rfl) rfl (V_load 0 VT.ty3 rfl rfl rfl ?_)
     refine VOps_cons (want_of rfl rfl rfl rfl) rfl (V_bin rfl rfl rfl ?_)
     refine VOps_cons (want_of rfl rfl rfl rfl) rfl (V_move rfl ?_)
     refine VOps_split (q := 45) rfl (fun hq45 => ?_) (fun hq45 => ?_)
     ·
      refine VOps_cons (want_of rfl rfl rfl hq45) rfl (V_move rfl ?_)
      refine VOps_cons (want_of rfl rfl rfl hq45) rfl (V_bin rfl rfl rfl ?_)
      refine VOps_cons (want_of rfl rfl rfl rfl) rfl (V_pickT rfl hq45 rfl ?_)
      refine VOps_cons rfl rfl (V_pickF rfl rfl rfl ?_)
      refine VOps_nil ?_
      refine Then_n ?_
      refine VW_condEq rfl (fun h49 => ?_) (fun h49 => ?_)
      ·
       rw [if_pos (by first | (simp_all; done) | (simp_all; omega))] at hr
       refine VW_seq ?_
       refine VW_region ?_
       refine VOps_cons rfl rfl (V_assign rfl ?_)
       refine VOps_nil ?_
       refine Then_n ?_
       refine VW_ret ?_
       refine Then_r (VRet_one rfl (.tmp rfl) ?_)
       rw [hr]
      ·
       rw [if_neg (by first | (simp_all; done) | (simp_all; omega))] at hr
       refine VW_skip ?_
       refine Then_n ?_
       refine VW_seq ?_
       refine VW_region ?_
       refine VOps_cons rfl rfl (V_assign rfl ?_)
       refine VOps_nil ?_
       refine Then_n ?_
       refine VW_ret ?_
       refine VRet_one rfl (.tmp rfl) ?_
       rw [hr]
     ·
      refine VOps_skipU (.inl (skip_of rfl rfl rfl hq45)) rfl ?_
      refine VOps_skipU (.inl (skip_of rfl rfl rfl hq45)) rfl ?_
      refine VOps_cons (want_of rfl rfl rfl rfl) rfl (V_pickF rfl hq45 rfl ?_)
      refine VOps_cons rfl rfl (V_pickF rfl rfl rfl ?_)
      refine VOps_nil ?_
      refine Then_n ?_
      refine VW_condF rfl rfl ?_
      rw [if_neg (by first | (simp_all; done) | (simp_all; omega))] at hr
      refine VW_skip ?_
      refine Then_n ?_
      refine VW_seq ?_
      refine VW_region ?_
      refine VOps_cons rfl rfl (V_assign rfl ?_)
      refine VOps_nil ?_
      refine Then_n ?_
      refine VW_ret ?_
      refine VRet_one rfl (.tmp rfl) ?_
      rw [hr]
 ·
  refine VOps_skipU (.inl (skip_of rfl rfl rfl hq9)) rfl ?_
  refine VOps_skipU (.inl (skip_of rfl rfl rfl hq9)) rfl ?_
  refine VOps_skipU (.inl (skip_of rfl rfl rfl hq9)) rfl ?_
  refine VOps_cons rfl rfl (V_pickF rfl hq9 rfl ?_)
  refine VOps_nil ?_
  refine Then_n ?_
  refine VW_condF rfl rfl ?_
  rw [if_neg (by simp_all)] at hr
  have hop : i.op = 13 ∨ i.op = 9 := by by_cases h1 : i.op = 13 <;> by_cases h2 : i.op = 9 <;> simp_all
  have h0 := hN hop
  refine VW_skip ?_
  refine Then_n ?_
  refine VW_seq ?_
  refine VW_seq ?_
  refine VW_region ?_
  refine VOps_cons rfl rfl (V_fieldAddr VT.fa25_2 rfl ?_)
  refine VOps_cons rfl rfl (V_load 0 VT.ty3 rfl rfl rfl ?_)
  refine VOps_cons rfl rfl (V_fieldAddr VT.fa40_0 rfl ?_)
  refine VOps_cons rfl rfl (V_load 1 VT.ty38 rfl rfl rfl ?_)
  refine VOps_cons rfl rfl (V_lenN (n := u.fns.length) Try.underlying38 rfl (by simp) (fun hl18 => ?_))
  refine VOps_cons rfl rfl (V_bin rfl rfl rfl ?_)
  refine VOps_nil ?_
  refine Then_n ?_
  refine VW_condP rfl (fun h19 => ?_) (fun h19 => ?_)
  ·
   rw [if_pos h19] at hr
   refine VW_seq ?_
   refine VW_region ?_
   refine VOps_cons rfl rfl (V_assign rfl ?_)
   refine VOps_nil ?_
   refine Then_n ?_
   refine VW_ret ?_
   refine Then_r (VRet_one rfl (.tmp rfl) ?_)
   rw [hr]
  ·
   rw [if_neg h19] at hr
   obtain ⟨f, hf⟩ := get_of_lt u.fns i.n.toNat (by omega)
   obtain ⟨b, tl, hb⟩ := List.exists_cons_of_ne_nil (hB f (List.mem_of_getElem? hf))
   have hen : entryOf u i.n = b.params := by rw [entryOf, hf]; simp [paramsOf, hb]
   rw [hen] at hr
   refine VW_skip ?_
   refine Then_n ?_
   refine VW_seq ?_
   refine VW_region ?_
   refine VOps_cons rfl rfl (V_fieldAddr VT.fa40_0 rfl ?_)
   refine VOps_cons rfl rfl (V_load 1 VT.ty38 rfl rfl rfl ?_)
   refine VOps_cons rfl rfl (V_fieldAddr VT.fa25_2 rfl ?_)
   refine VOps_cons rfl rfl (V_load 0 VT.ty3 rfl rfl rfl ?_)
   refine VOps_cons rfl rfl (V_indexAddr (el := funcV f) VT.sl38 rfl rfl (by omega) (get_mapS _ hf) (fun a24 => ?_))
   refine VOps_cons rfl rfl (V_fieldAddr_ep VT.fa37_1 rfl rfl ?_)
   refine VOps_cons rfl rfl (V_load_ep VT.ty35 rfl rfl ?_)
   refine VOps_cons rfl rfl (V_indexAddr (el := blockV b) VT.sl35 rfl rfl (by omega) (by rw [hb]; rfl) (fun a27 => ?_))
   refine VOps_cons rfl rfl (V_fieldAddr_ep VT.fa34_0 rfl rfl ?_)
   refine VOps_cons rfl rfl (V_load_ep VT.ty23 rfl rfl ?_)
   refine VOps_cons rfl rfl (V_lenN (n := b.params.length) Try.underlying23 rfl (by simp) (fun hl30 => ?_))
   refine VOps_cons rfl rfl (V_assign rfl ?_)
   refine VOps_nil ?_
   refine Then_n ?_
   refine VW_seq ?_
   refine VW_seq ?_
   refine VW_region ?_
   refine VOps_cons rfl rfl (V_fieldAddr VT.fa25_1 rfl ?_)
   refine VOps_cons rfl rfl (V_load 0 VT.ty3 rfl rfl rfl ?_)
   refine VOps_cons rfl rfl (V_bin rfl rfl rfl ?_)
   refine VOps_cons rfl rfl (V_move rfl ?_)
   refine VOps_split (q := 34) rfl (fun hq34 => ?_) (fun hq34 => ?_)
   ·
    refine VOps_cons (want_of rfl rfl rfl hq34) rfl (V_move rfl ?_)
    refine VOps_cons (want_of rfl rfl rfl hq34) rfl (V_fieldAddr VT.fa25_3 rfl ?_)
    refine VOps_cons (want_of rfl rfl rfl hq34) rfl (V_load 0 VT.ty23 rfl rfl rfl ?_)
    refine VOps_cons (want_of rfl rfl rfl hq34) rfl (V_lenN (n := i.args.length) Try.underlying23 rfl (by simp) (fun hl38 => ?_))
    refine VOps_cons (want_of rfl rfl rfl hq34) rfl (V_bin rfl rfl rfl ?_)
    refine VOps_cons rfl rfl (V_pickT rfl hq34 rfl ?_)
    refine VOps_cons rfl rfl (V_move rfl ?_)
    refine VOps_split (q := 41) rfl (fun hq41 => ?_) (fun hq41 => ?_)
    ·
     refine VOps_skipU (.inl (skip_of rfl rfl rfl hq41)) rfl ?_
     refine VOps_skipU (.inl (skip_of rfl rfl rfl hq41)) rfl ?_
     refine VOps_skipU (.inl (skip_of rfl rfl rfl hq41)) rfl ?_
     refine VOps_skipU (.inl (skip_of rfl rfl rfl hq41)) rfl ?_
     refine VOps_skipU (.inr ⟨_, _, 45, rfl, rfl, rfl⟩) rfl ?_
     refine VOps_skipU (.inr ⟨_, _, 45, rfl, rfl, rfl⟩) rfl ?_
     refine VOps_skipU (.inl (skip_of rfl rfl rfl hq41)) rfl ?_
     refine VOps_cons rfl rfl (V_pickT rfl hq41 rfl ?_)
     refine VOps_nil ?_
     refine Then_n ?_
     refine VW_condT rfl rfl ?_
     rw [if_pos (by first | (simp_all; done) | (simp_all; omega))] at hr
     refine VW_seq ?_
     refine VW_region ?_
     refine VOps_cons rfl rfl (V_assign rfl ?_)
     refine VOps_nil ?_
     refine Then_n ?_
     refine VW_ret ?_
     refine Then_r (VRet_one rfl (.tmp rfl) ?_)
     rw [hr]
    ·
     refine VOps_cons (want_of rfl rfl rfl hq41) rfl (V_fieldAddr VT.fa25_1 rfl ?_)
     refine VOps_cons (want_of rfl rfl rfl hq41) rfl (V_load 0 VT.ty3 rfl rfl rfl ?_)
     refine VOps_cons (want_of rfl rfl rfl hq41) rfl (V_bin rfl rfl rfl ?_)
     refine VOps_cons (want_of rfl rfl rfl hq41) rfl (V_move rfl ?_)
     refine VOps_split (q := 45) rfl (fun hq45 => ?_) (fun hq45 => ?_)
     ·
      refine VOps_cons (want_of rfl rfl rfl hq45) rfl (V_move rfl ?_)
      refine VOps_cons (want_of rfl rfl rfl hq45) rfl (V_bin rfl rfl rfl ?_)
      refine VOps_cons (want_of rfl rfl rfl hq41) rfl (V_pickT rfl hq45 rfl ?_)
      refine VOps_cons rfl rfl (V_pickF rfl hq41 rfl ?_)
      refine VOps_nil ?_
      refine Then_n ?_
      refine VW_condEq rfl (fun h49 => ?_) (fun h49 => ?_)
      ·
       rw [if_pos (by first | (simp_all; done) | (simp_all; omega))] at hr
       refine VW_seq ?_
       refine VW_region ?_
       refine VOps_cons rfl rfl (V_assign rfl ?_)
       refine VOps_nil ?_
       refine Then_n ?_
       refine VW_ret ?_
       refine Then_r (VRet_one rfl (.tmp rfl) ?_)
       rw [hr]
      ·
       rw [if_neg (by first | (simp_all; done) | (simp_all; omega))] at hr
       refine VW_skip ?_
       refine Then_n ?_
       refine VW_seq ?_
       refine VW_region ?_
       refine VOps_cons rfl rfl (V_assign rfl ?_)
       refine VOps_nil ?_
       refine Then_n ?_
       refine VW_ret ?_
       refine VRet_one rfl (.tmp rfl) ?_
       rw [hr]
     ·
      refine VOps_skipU (.inl (skip_of rfl rfl rfl hq45)) rfl ?_
      refine VOps_skipU (.inl (skip_of rfl rfl rfl hq45)) rfl ?_
      refine VOps_cons (want_of rfl rfl rfl hq41) rfl (V_pickF rfl hq45 rfl ?_)
      refine VOps_cons rfl rfl (V_pickF rfl hq41 rfl ?_)
      refine VOps_nil ?_
      refine Then_n ?_
      refine VW_condF rfl rfl ?_
      rw [if_neg (by first | (simp_all; done) | (simp_all; omega))] at hr
      refine VW_skip ?_
      refine Then_n ?_
      refine VW_seq ?_
      refine VW_region ?_
      refine VOps_cons rfl rfl (V_assign rfl ?_)
      refine VOps_nil ?_
      refine Then_n ?_
      refine VW_ret ?_
      refine VRet_one rfl (.tmp rfl) ?_
      rw [hr]
   ·
    refine VOps_skipU (.inl (skip_of rfl rfl rfl hq34)) rfl ?_
    refine VOps_skipU (.inl (skip_of rfl rfl rfl hq34)) rfl ?_
    refine VOps_skipU (.inl (skip_of rfl rfl rfl hq34)) rfl ?_
    refine VOps_skipU (.inl (skip_of rfl rfl rfl hq34)) rfl ?_
    refine VOps_skipU (.inl (skip_of rfl rfl rfl hq34)) rfl ?_
    refine VOps_cons rfl rfl (V_pickF rfl hq34 rfl ?_)
    refine VOps_cons rfl rfl (V_move rfl ?_)
    refine VOps_cons (want_of rfl rfl rfl rfl) rfl (V_fieldAddr VT.fa25_1 rfl ?_)
    refine VOps_cons (want_of rfl rfl rfl rfl) rfl (V_load 0 VT.ty3 rfl rfl rfl ?_)
    refine VOps_cons (want_of rfl rfl rfl rfl) rfl (V_bin rfl rfl rfl ?_)
    refine VOps_cons (want_of rfl rfl rfl rfl) rfl (V_move rfl ?_)
    refine VOps_split (q := 45) rfl (fun hq45 => ?_) (fun hq45 => ?_)
    ·
     refine VOps_cons (want_of rfl rfl rfl hq45) rfl (V_move rfl ?_)
     refine VOps_cons (want_of rfl rfl rfl hq45) rfl (V_bin rfl rfl rfl ?_)
     refine VOps_cons (want_of rfl rfl rfl rfl) rfl (V_pickT rfl hq45 rfl ?_)
     refine VOps_cons rfl rfl (V_pickF rfl rfl rfl ?_)
     refine VOps_nil ?_
     refine Then_n ?_
     refine VW_condEq rfl (fun h49 => ?_) (fun h49 => ?_)
     ·
      rw [if_pos (by first | (simp_all; done) | (simp_all; omega))] at hr
      refine VW_seq ?_
      refine VW_region ?_
      refine VOps_cons rfl rfl (V_assign rfl ?_)
      refine VOps_nil ?_
      refine Then_n ?_
      refine VW_ret ?_
      refine Then_r (VRet_one rfl (.tmp rfl) ?_)
      rw [hr]
     ·
      rw [if_neg (by first | (simp_all; done) | (simp_all; omega))] at hr
      refine VW_skip ?_
      refine Then_n ?_
      refine VW_seq ?_
      refine VW_region ?_
      refine VOps_cons rfl rfl (V_assign rfl ?_)
      refine VOps_nil ?_
      refine Then_n ?_
      refine VW_ret ?_
      refine VRet_one rfl (.tmp rfl) ?_
      rw [hr]
    ·
     refine VOps_skipU (.inl (skip_of rfl rfl rfl hq45)) rfl ?_
     refine VOps_skipU (.inl (skip_of rfl rfl rfl hq45)) rfl ?_
     refine VOps_cons (want_of rfl rfl rfl rfl) rfl (V_pickF rfl hq45 rfl ?_)
     refine VOps_cons rfl rfl (V_pickF rfl rfl rfl ?_)
     refine VOps_nil ?_
     refine Then_n ?_
     refine VW_condF rfl rfl ?_
     rw [if_neg (by first | (simp_all; done) | (simp_all; omega))] at hr
     refine VW_skip ?_
     refine Then_n ?_
     refine VW_seq ?_
     refine VW_region ?_
     refine VOps_cons rfl rfl (V_assign rfl ?_)
     refine VOps_nil ?_
     refine Then_n ?_
     refine VW_ret ?_
     refine VRet_one rfl (.tmp rfl) ?_
     rw [hr]


set_option maxRecDepth 100000 in
set_option maxHeartbeats 4000000 in
theorem used_c (t : STerm) {c : FuncId} {caps : List V} {O : Store} {p : Int → Bool} (hen : Enters Try.prog c) (hp : ∀ v, VKeep Try.prog c (.int v :: caps) O (.bool (p v))) : VKeep Try.prog 87 [termV t, .clo (.func c) caps] O (.bool (usedF t p)) := by
 refine VKeep.drops ?_
 have hr := usedF.eq_def t p
 refine V_start (nt := 44) Try.func87 rfl rfl rfl ?_
 refine VW_seq ?_
 refine VW_region ?_
 refine VOps_cons rfl rfl (V_box rfl rfl (fun g2 => ?_))
 refine VOps_cons rfl rfl (V_assign rfl ?_)
 refine VOps_nil ?_
 refine Then_n ?_
 refine VW_seq ?_
 refine VW_seq ?_
 refine VW_region ?_
 refine VOps_cons rfl rfl (V_fieldAddr VT.fa32_0 rfl ?_)
 refine VOps_cons rfl rfl (V_load 0 VT.ty3 rfl rfl rfl ?_)
 refine VOps_cons rfl rfl (V_bin rfl rfl rfl ?_)
 refine VOps_cons rfl rfl (V_move rfl ?_)
 refine VOps_split (q := 12) rfl (fun hq12 => ?_) (fun hq12 => ?_)
 ·
  refine VOps_cons (want_of rfl rfl rfl hq12) rfl (V_fieldAddr VT.fa32_0 rfl ?_)
  refine VOps_cons (want_of rfl rfl rfl hq12) rfl (V_load 0 VT.ty3 rfl rfl rfl ?_)
  refine VOps_cons (want_of rfl rfl rfl hq12) rfl (V_bin rfl rfl rfl ?_)
  refine VOps_cons rfl rfl (V_pickT rfl hq12 rfl ?_)
  refine VOps_cons rfl rfl (V_move rfl ?_)
  refine VOps_split (q := 17) rfl (fun hq17 => ?_) (fun hq17 => ?_)
  ·
   refine VOps_cons (want_of rfl rfl rfl hq17) rfl (V_move rfl ?_)
   refine VOps_cons (want_of rfl rfl rfl hq17) rfl (V_fieldAddr VT.fa32_1 rfl ?_)
   refine VOps_cons (want_of rfl rfl rfl hq17) rfl (V_load 0 VT.ty3 rfl rfl rfl ?_)
   refine VOps_cons (want_of rfl rfl rfl hq17) rfl (V_callCloKs [.tmp 20] _ [_] rfl rfl rfl hen (List.perm_append_comm (l₁ := [_]) (l₂ := _)) (hp _) ?_)
   refine VOps_cons (want_of rfl rfl rfl hq17) rfl (V_not rfl ?_)
   refine VOps_cons rfl rfl (V_pickT rfl hq17 rfl ?_)
   refine VOps_nil ?_
   refine Then_n ?_
   refine VW_condN rfl (fun h23 => ?_) (fun h23 => ?_)
   ·
    rw [if_pos (by simp_all)] at hr
    refine VW_seq ?_
    refine VW_region ?_
    refine VOps_cons rfl rfl (V_assign rfl ?_)
    refine VOps_nil ?_
    refine Then_n ?_
    refine VW_ret ?_
    refine Then_r (VRet_one rfl (.tmp rfl) ?_)
    exact ⟨by rw [hr], Drops.drop (Drops.refl _)⟩
   ·
    rw [if_neg (by simp_all)] at hr
    refine VW_skip ?_
    refine Then_n ?_
    refine VW_seq ?_
    refine VW_seq ?_
    refine VW_region ?_
    refine VOps_cons rfl rfl (V_fieldAddr VT.fa32_4 rfl ?_)
    refine VOps_cons rfl rfl (V_load 0 VT.ty30 rfl rfl rfl ?_)
    refine VOps_cons rfl rfl (V_lenN (n := t.to.length) Try.underlying30 rfl (by simp) (fun hl26 => ?_))
    refine VOps_cons rfl rfl (V_move rfl ?_)
    refine VOps_nil ?_
    refine Then_n ?_
    refine VW_block ?_
    refine VW_loopF (ι := Nat) (fun k => t.to.length - k) (fun k => [(1, some (.clo (.func c) caps)), (25, some (edgesX t.to)), (26, some (.int t.to.length)), (27, some (.int k))]) (fun k => O) (fun k => k ≤ t.to.length ∧ ((t.to.drop k).all fun e => e.args.all p) = (t.to.all fun e => e.args.all p)) 0 ⟨Nat.zero_le _, rfl⟩ ⟨rfl, rfl, rfl, rfl, trivial⟩ (Drops.drop (Drops.refl _)) ?_
    rintro k hA
    change k ≤ t.to.length ∧ ((t.to.drop k).all fun e => e.args.all p) = (t.to.all fun e => e.args.all p) at hA
    obtain ⟨hk, hq⟩ := hA
    refine VW_seq ?_
    refine VW_region ?_
    refine VOps_cons rfl rfl (V_bin rfl rfl rfl ?_)
    refine VOps_nil ?_
    refine Then_n ?_
    refine VW_seq ?_
    refine VW_condP rfl (fun h28 => ?_) (fun h28 => ?_)
    ·
     obtain ⟨e, he⟩ := get_of_lt t.to k h28
     refine VW_skip ?_
     refine Then_n ?_
     refine VW_seq ?_
     refine VW_block ?_
     refine VW_seq ?_
     refine VW_region ?_
     refine VOps_cons rfl rfl (V_indexAddr (el := edgeV e) VT.sl30 rfl rfl (by omega) (get_mapS _ he) (fun a29 => ?_))
     refine VOps_cons rfl rfl (V_load_ep_agg VT.ty29 rfl rfl ?_)
     refine VOps_cons rfl rfl (V_alloc VT.zr29 _ rfl rfl (fun g6 => ?_))
     refine VOps_cons rfl rfl (V_store_agg 0 VT.ty29 rfl rfl rfl rfl rfl ?_)
     refine VOps_nil ?_
     refine Then_n ?_
     refine VW_seq ?_
     refine VW_region ?_
     refine VOps_cons rfl rfl (V_fieldAddr VT.fa29_1 rfl ?_)
     refine VOps_cons rfl rfl (V_load 0 VT.ty23 rfl rfl rfl ?_)
     refine VOps_cons rfl rfl (V_lenN (n := e.args.length) Try.underlying23 rfl (by simp) (fun hl33 => ?_))
     refine VOps_cons rfl rfl (V_move rfl ?_)
     refine VOps_nil ?_
     refine Then_n ?_
     refine VW_block ?_
     refine VW_loopF (ι := Nat) (fun j => e.args.length - j) (fun j => [(1, some (.clo (.func c) caps)), (25, some (edgesX t.to)), (26, some (.int t.to.length)), (27, some (.int k)), (32, some (intsX e.args)), (33, some (.int e.args.length)), (34, some (.int j))]) (fun j => O) (fun j => j ≤ e.args.length ∧ (e.args.drop j).all p = e.args.all p) 0 ⟨Nat.zero_le _, rfl⟩ ⟨rfl, rfl, rfl, rfl, rfl, rfl, rfl, trivial⟩ (Drops.drop (Drops.refl _)) ?_
     rintro j hA2
     change j ≤ e.args.length ∧ (e.args.drop j).all p = e.args.all p at hA2
     obtain ⟨hj, hq2⟩ := hA2
     refine VW_seq ?_
     refine VW_region ?_
     refine VOps_cons rfl rfl (V_bin rfl rfl rfl ?_)
     refine VOps_nil ?_
     refine Then_n ?_
     refine VW_seq ?_
     refine VW_condP rfl (fun h35 => ?_) (fun h35 => ?_)
     ·
      obtain ⟨x, hx⟩ := get_of_lt e.args j h35
      refine VW_skip ?_
      refine Then_n ?_
      refine VW_seq ?_
      refine VW_block ?_
      refine VW_seq ?_
      refine VW_region ?_
      refine VOps_cons rfl rfl (V_indexAddr (el := V.int x) VT.sl23 rfl rfl (by omega) (get_int hx) (fun a36 => ?_))
      refine VOps_cons rfl rfl (V_load_ep VT.ty3 rfl rfl ?_)
      refine VOps_cons rfl rfl (V_assign rfl ?_)
      refine VOps_nil ?_
      refine Then_n ?_
      refine VW_seq ?_
      refine VW_region ?_
      refine VOps_cons rfl rfl (V_move rfl ?_)
      refine VOps_cons rfl rfl (V_move rfl ?_)
      refine VOps_cons rfl rfl (V_callCloKs [.tmp 39] _ [] rfl rfl rfl hen (List.perm_append_comm (l₁ := []) (l₂ := _)) (hp _) ?_)
      refine VOps_cons rfl rfl (V_not rfl ?_)
      refine VOps_nil ?_
      refine Then_n ?_
      refine VW_condN rfl (fun h41 => ?_) (fun h41 => ?_)
      ·
       have hall : e.args.all p = false := by rw [← hq2, drop_cons hx, List.all_cons, h41, Bool.false_and]
       rw [← hq, drop_cons he, List.all_cons, hall, Bool.false_and] at hr
       refine VW_seq ?_
       refine VW_region ?_
       refine VOps_cons rfl rfl (V_assign rfl ?_)
       refine VOps_nil ?_
       refine Then_n ?_
       refine VW_ret ?_
       refine InBlock_r (Then_r (Then_r (InBlock_r (InBlock_r (Then_r (Then_r (InBlock_r (Then_r (VRet_one rfl (.tmp rfl) ?_)))))))))
       exact ⟨by rw [hr], Drops.refl _⟩
      ·
       refine VW_skip ?_
       refine InBlock_n (Then_n ?_)
       refine VW_region ?_
       refine VOps_cons rfl rfl (V_add rfl rfl (by omega) ?_)
       refine VOps_cons rfl rfl (V_move rfl ?_)
       refine VOps_nil ?_
       refine Then_n ?_
       exact ⟨j + 1, (by (try simp only []); omega), ⟨by omega, by rw [← hq2, drop_cons hx, List.all_cons, h41, Bool.true_and]⟩, ⟨rfl, rfl, rfl, rfl, rfl, rfl, rfl, trivial⟩, (Drops.refl _)⟩
     ·
      have hje : j = e.args.length := by omega
      subst hje
      rw [List.drop_length, List.all_nil] at hq2
      have hall : e.args.all p = true := hq2.symm
      refine VW_exit ?_
      refine Then_e (Then_e (InBlock_hit ?_))
      refine InBlock_n (Then_n ?_)
      refine VW_region ?_
      refine VOps_cons rfl rfl (V_add rfl rfl (by omega) ?_)
      refine VOps_cons rfl rfl (V_move rfl ?_)
      refine VOps_nil ?_
      refine Then_n ?_
      exact ⟨k + 1, (by (try simp only []); omega), ⟨by omega, by rw [← hq, drop_cons he, List.all_cons, hall, Bool.true_and]⟩, ⟨rfl, rfl, rfl, rfl, trivial⟩, (Drops.refl _)⟩
    ·
     have hke : k = t.to.length := by omega
     subst hke
     rw [List.drop_length, List.all_nil] at hq
     rw [← hq] at hr
     refine VW_exit ?_
     refine Then_e (Then_e (InBlock_hit ?_))
     refine Then_n ?_
     refine VW_seq ?_
     refine VW_region ?_
     refine VOps_cons rfl rfl (V_assign rfl ?_)
     refine VOps_nil ?_
     refine Then_n ?_
     refine VW_ret ?_
     refine VRet_one rfl (.tmp rfl) ?_
     exact ⟨by rw [hr], Drops.refl _⟩
  ·
   refine VOps_skipU (.inl (skip_of rfl rfl rfl hq17)) rfl ?_
   refine VOps_skipU (.inl (skip_of rfl rfl rfl hq17)) rfl ?_
   refine VOps_skipU (.inl (skip_of rfl rfl rfl hq17)) rfl ?_
   refine VOps_skipU (.inl (skip_of rfl rfl rfl hq17)) rfl ?_
   refine VOps_skipU (.inl (skip_of rfl rfl rfl hq17)) rfl ?_
   refine VOps_cons rfl rfl (V_pickF rfl hq17 rfl ?_)
   refine VOps_nil ?_
   refine Then_n ?_
   refine VW_condF rfl rfl ?_
   rw [if_neg (by simp_all)] at hr
   refine VW_skip ?_
   refine Then_n ?_
   refine VW_seq ?_
   refine VW_seq ?_
   refine VW_region ?_
   refine VOps_cons rfl rfl (V_fieldAddr VT.fa32_4 rfl ?_)
   refine VOps_cons rfl rfl (V_load 0 VT.ty30 rfl rfl rfl ?_)
   refine VOps_cons rfl rfl (V_lenN (n := t.to.length) Try.underlying30 rfl (by simp) (fun hl26 => ?_))
   refine VOps_cons rfl rfl (V_move rfl ?_)
   refine VOps_nil ?_
   refine Then_n ?_
   refine VW_block ?_
   refine VW_loopF (ι := Nat) (fun k => t.to.length - k) (fun k => [(1, some (.clo (.func c) caps)), (25, some (edgesX t.to)), (26, some (.int t.to.length)), (27, some (.int k))]) (fun k => O) (fun k => k ≤ t.to.length ∧ ((t.to.drop k).all fun e => e.args.all p) = (t.to.all fun e => e.args.all p)) 0 ⟨Nat.zero_le _, rfl⟩ ⟨rfl, rfl, rfl, rfl, trivial⟩ (Drops.drop (Drops.refl _)) ?_
   rintro k hA
   change k ≤ t.to.length ∧ ((t.to.drop k).all fun e => e.args.all p) = (t.to.all fun e => e.args.all p) at hA
   obtain ⟨hk, hq⟩ := hA
   refine VW_seq ?_
   refine VW_region ?_
   refine VOps_cons rfl rfl (V_bin rfl rfl rfl ?_)
   refine VOps_nil ?_
   refine Then_n ?_
   refine VW_seq ?_
   refine VW_condP rfl (fun h28 => ?_) (fun h28 => ?_)
   ·
    obtain ⟨e, he⟩ := get_of_lt t.to k h28
    refine VW_skip ?_
    refine Then_n ?_
    refine VW_seq ?_
    refine VW_block ?_
    refine VW_seq ?_
    refine VW_region ?_
    refine VOps_cons rfl rfl (V_indexAddr (el := edgeV e) VT.sl30 rfl rfl (by omega) (get_mapS _ he) (fun a29 => ?_))
    refine VOps_cons rfl rfl (V_load_ep_agg VT.ty29 rfl rfl ?_)
    refine VOps_cons rfl rfl (V_alloc VT.zr29 _ rfl rfl (fun g6 => ?_))
    refine VOps_cons rfl rfl (V_store_agg 0 VT.ty29 rfl rfl rfl rfl rfl ?_)
    refine VOps_nil ?_
    refine Then_n ?_
    refine VW_seq ?_
    refine VW_region ?_
    refine VOps_cons rfl rfl (V_fieldAddr VT.fa29_1 rfl ?_)
    refine VOps_cons rfl rfl (V_load 0 VT.ty23 rfl rfl rfl ?_)
    refine VOps_cons rfl rfl (V_lenN (n := e.args.length) Try.underlying23 rfl (by simp) (fun hl33 => ?_))
    refine VOps_cons rfl rfl (V_move rfl ?_)
    refine VOps_nil ?_
    refine Then_n ?_
    refine VW_block ?_
    refine VW_loopF (ι := Nat) (fun j => e.args.length - j) (fun j => [(1, some (.clo (.func c) caps)), (25, some (edgesX t.to)), (26, some (.int t.to.length)), (27, some (.int k)), (32, some (intsX e.args)), (33, some (.int e.args.length)), (34, some (.int j))]) (fun j => O) (fun j => j ≤ e.args.length ∧ (e.args.drop j).all p = e.args.all p) 0 ⟨Nat.zero_le _, rfl⟩ ⟨rfl, rfl, rfl, rfl, rfl, rfl, rfl, trivial⟩ (Drops.drop (Drops.refl _)) ?_
    rintro j hA2
    change j ≤ e.args.length ∧ (e.args.drop j).all p = e.args.all p at hA2
    obtain ⟨hj, hq2⟩ := hA2
    refine VW_seq ?_
    refine VW_region ?_
    refine VOps_cons rfl rfl (V_bin rfl rfl rfl ?_)
    refine VOps_nil ?_
    refine Then_n ?_
    refine VW_seq ?_
    refine VW_condP rfl (fun h35 => ?_) (fun h35 => ?_)
    ·
     obtain ⟨x, hx⟩ := get_of_lt e.args j h35
     refine VW_skip ?_
     refine Then_n ?_
     refine VW_seq ?_
     refine VW_block ?_
     refine VW_seq ?_
     refine VW_region ?_
     refine VOps_cons rfl rfl (V_indexAddr (el := V.int x) VT.sl23 rfl rfl (by omega) (get_int hx) (fun a36 => ?_))
     refine VOps_cons rfl rfl (V_load_ep VT.ty3 rfl rfl ?_)
     refine VOps_cons rfl rfl (V_assign rfl ?_)
     refine VOps_nil ?_
     refine Then_n ?_
     refine VW_seq ?_
     refine VW_region ?_
     refine VOps_cons rfl rfl (V_move rfl ?_)
     refine VOps_cons rfl rfl (V_move rfl ?_)
     refine VOps_cons rfl rfl (V_callCloKs [.tmp 39] _ [] rfl rfl rfl hen (List.perm_append_comm (l₁ := []) (l₂ := _)) (hp _) ?_)
     refine VOps_cons rfl rfl (V_not rfl ?_)
     refine VOps_nil ?_
     refine Then_n ?_
     refine VW_condN rfl (fun h41 => ?_) (fun h41 => ?_)
     ·
      have hall : e.args.all p = false := by rw [← hq2, drop_cons hx, List.all_cons, h41, Bool.false_and]
      rw [← hq, drop_cons he, List.all_cons, hall, Bool.false_and] at hr
      refine VW_seq ?_
      refine VW_region ?_
      refine VOps_cons rfl rfl (V_assign rfl ?_)
      refine VOps_nil ?_
      refine Then_n ?_
      refine VW_ret ?_
      refine InBlock_r (Then_r (Then_r (InBlock_r (InBlock_r (Then_r (Then_r (InBlock_r (Then_r (VRet_one rfl (.tmp rfl) ?_)))))))))
      exact ⟨by rw [hr], Drops.refl _⟩
     ·
      refine VW_skip ?_
      refine InBlock_n (Then_n ?_)
      refine VW_region ?_
      refine VOps_cons rfl rfl (V_add rfl rfl (by omega) ?_)
      refine VOps_cons rfl rfl (V_move rfl ?_)
      refine VOps_nil ?_
      refine Then_n ?_
      exact ⟨j + 1, (by (try simp only []); omega), ⟨by omega, by rw [← hq2, drop_cons hx, List.all_cons, h41, Bool.true_and]⟩, ⟨rfl, rfl, rfl, rfl, rfl, rfl, rfl, trivial⟩, (Drops.refl _)⟩
    ·
     have hje : j = e.args.length := by omega
     subst hje
     rw [List.drop_length, List.all_nil] at hq2
     have hall : e.args.all p = true := hq2.symm
     refine VW_exit ?_
     refine Then_e (Then_e (InBlock_hit ?_))
     refine InBlock_n (Then_n ?_)
     refine VW_region ?_
     refine VOps_cons rfl rfl (V_add rfl rfl (by omega) ?_)
     refine VOps_cons rfl rfl (V_move rfl ?_)
     refine VOps_nil ?_
     refine Then_n ?_
     exact ⟨k + 1, (by (try simp only []); omega), ⟨by omega, by rw [← hq, drop_cons he, List.all_cons, hall, Bool.true_and]⟩, ⟨rfl, rfl, rfl, rfl, trivial⟩, (Drops.refl _)⟩
   ·
    have hke : k = t.to.length := by omega
    subst hke
    rw [List.drop_length, List.all_nil] at hq
    rw [← hq] at hr
    refine VW_exit ?_
    refine Then_e (Then_e (InBlock_hit ?_))
    refine Then_n ?_
    refine VW_seq ?_
    refine VW_region ?_
    refine VOps_cons rfl rfl (V_assign rfl ?_)
    refine VOps_nil ?_
    refine Then_n ?_
    refine VW_ret ?_
    refine VRet_one rfl (.tmp rfl) ?_
    exact ⟨by rw [hr], Drops.refl _⟩
 ·
  refine VOps_skipU (.inl (skip_of rfl rfl rfl hq12)) rfl ?_
  refine VOps_skipU (.inl (skip_of rfl rfl rfl hq12)) rfl ?_
  refine VOps_skipU (.inl (skip_of rfl rfl rfl hq12)) rfl ?_
  refine VOps_cons rfl rfl (V_pickF rfl hq12 rfl ?_)
  refine VOps_cons rfl rfl (V_move rfl ?_)
  refine VOps_skipU (.inl (skip_of rfl rfl rfl rfl)) rfl ?_
  refine VOps_skipU (.inl (skip_of rfl rfl rfl rfl)) rfl ?_
  refine VOps_skipU (.inl (skip_of rfl rfl rfl rfl)) rfl ?_
  refine VOps_skipU (.inl (skip_of rfl rfl rfl rfl)) rfl ?_
  refine VOps_skipU (.inl (skip_of rfl rfl rfl rfl)) rfl ?_
  refine VOps_cons rfl rfl (V_pickF rfl rfl rfl ?_)
  refine VOps_nil ?_
  refine Then_n ?_
  refine VW_condF rfl rfl ?_
  rw [if_neg (by simp_all)] at hr
  refine VW_skip ?_
  refine Then_n ?_
  refine VW_seq ?_
  refine VW_seq ?_
  refine VW_region ?_
  refine VOps_cons rfl rfl (V_fieldAddr VT.fa32_4 rfl ?_)
  refine VOps_cons rfl rfl (V_load 0 VT.ty30 rfl rfl rfl ?_)
  refine VOps_cons rfl rfl (V_lenN (n := t.to.length) Try.underlying30 rfl (by simp) (fun hl26 => ?_))
  refine VOps_cons rfl rfl (V_move rfl ?_)
  refine VOps_nil ?_
  refine Then_n ?_
  refine VW_block ?_
  refine VW_loopF (ι := Nat) (fun k => t.to.length - k) (fun k => [(1, some (.clo (.func c) caps)), (25, some (edgesX t.to)), (26, some (.int t.to.length)), (27, some (.int k))]) (fun k => O) (fun k => k ≤ t.to.length ∧ ((t.to.drop k).all fun e => e.args.all p) = (t.to.all fun e => e.args.all p)) 0 ⟨Nat.zero_le _, rfl⟩ ⟨rfl, rfl, rfl, rfl, trivial⟩ (Drops.drop (Drops.refl _)) ?_
  rintro k hA
  change k ≤ t.to.length ∧ ((t.to.drop k).all fun e => e.args.all p) = (t.to.all fun e => e.args.all p) at hA
  obtain ⟨hk, hq⟩ := hA
  refine VW_seq ?_
  refine VW_region ?_
  refine VOps_cons rfl rfl (V_bin rfl rfl rfl ?_)
  refine VOps_nil ?_
  refine Then_n ?_
  refine VW_seq ?_
  refine VW_condP rfl (fun h28 => ?_) (fun h28 => ?_)
  ·
   obtain ⟨e, he⟩ := get_of_lt t.to k h28
   refine VW_skip ?_
   refine Then_n ?_
   refine VW_seq ?_
   refine VW_block ?_
   refine VW_seq ?_
   refine VW_region ?_
   refine VOps_cons rfl rfl (V_indexAddr (el := edgeV e) VT.sl30 rfl rfl (by omega) (get_mapS _ he) (fun a29 => ?_))
   refine VOps_cons rfl rfl (V_load_ep_agg VT.ty29 rfl rfl ?_)
   refine VOps_cons rfl rfl (V_alloc VT.zr29 _ rfl rfl (fun g6 => ?_))
   refine VOps_cons rfl rfl (V_store_agg 0 VT.ty29 rfl rfl rfl rfl rfl ?_)
   refine VOps_nil ?_
   refine Then_n ?_
   refine VW_seq ?_
   refine VW_region ?_
   refine VOps_cons rfl rfl (V_fieldAddr VT.fa29_1 rfl ?_)
   refine VOps_cons rfl rfl (V_load 0 VT.ty23 rfl rfl rfl ?_)
   refine VOps_cons rfl rfl (V_lenN (n := e.args.length) Try.underlying23 rfl (by simp) (fun hl33 => ?_))
   refine VOps_cons rfl rfl (V_move rfl ?_)
   refine VOps_nil ?_
   refine Then_n ?_
   refine VW_block ?_
   refine VW_loopF (ι := Nat) (fun j => e.args.length - j) (fun j => [(1, some (.clo (.func c) caps)), (25, some (edgesX t.to)), (26, some (.int t.to.length)), (27, some (.int k)), (32, some (intsX e.args)), (33, some (.int e.args.length)), (34, some (.int j))]) (fun j => O) (fun j => j ≤ e.args.length ∧ (e.args.drop j).all p = e.args.all p) 0 ⟨Nat.zero_le _, rfl⟩ ⟨rfl, rfl, rfl, rfl, rfl, rfl, rfl, trivial⟩ (Drops.drop (Drops.refl _)) ?_
   rintro j hA2
   change j ≤ e.args.length ∧ (e.args.drop j).all p = e.args.all p at hA2
   obtain ⟨hj, hq2⟩ := hA2
   refine VW_seq ?_
   refine VW_region ?_
   refine VOps_cons rfl rfl (V_bin rfl rfl rfl ?_)
   refine VOps_nil ?_
   refine Then_n ?_
   refine VW_seq ?_
   refine VW_condP rfl (fun h35 => ?_) (fun h35 => ?_)
   ·
    obtain ⟨x, hx⟩ := get_of_lt e.args j h35
    refine VW_skip ?_
    refine Then_n ?_
    refine VW_seq ?_
    refine VW_block ?_
    refine VW_seq ?_
    refine VW_region ?_
    refine VOps_cons rfl rfl (V_indexAddr (el := V.int x) VT.sl23 rfl rfl (by omega) (get_int hx) (fun a36 => ?_))
    refine VOps_cons rfl rfl (V_load_ep VT.ty3 rfl rfl ?_)
    refine VOps_cons rfl rfl (V_assign rfl ?_)
    refine VOps_nil ?_
    refine Then_n ?_
    refine VW_seq ?_
    refine VW_region ?_
    refine VOps_cons rfl rfl (V_move rfl ?_)
    refine VOps_cons rfl rfl (V_move rfl ?_)
    refine VOps_cons rfl rfl (V_callCloKs [.tmp 39] _ [] rfl rfl rfl hen (List.perm_append_comm (l₁ := []) (l₂ := _)) (hp _) ?_)
    refine VOps_cons rfl rfl (V_not rfl ?_)
    refine VOps_nil ?_
    refine Then_n ?_
    refine VW_condN rfl (fun h41 => ?_) (fun h41 => ?_)
    ·
     have hall : e.args.all p = false := by rw [← hq2, drop_cons hx, List.all_cons, h41, Bool.false_and]
     rw [← hq, drop_cons he, List.all_cons, hall, Bool.false_and] at hr
     refine VW_seq ?_
     refine VW_region ?_
     refine VOps_cons rfl rfl (V_assign rfl ?_)
     refine VOps_nil ?_
     refine Then_n ?_
     refine VW_ret ?_
     refine InBlock_r (Then_r (Then_r (InBlock_r (InBlock_r (Then_r (Then_r (InBlock_r (Then_r (VRet_one rfl (.tmp rfl) ?_)))))))))
     exact ⟨by rw [hr], Drops.refl _⟩
    ·
     refine VW_skip ?_
     refine InBlock_n (Then_n ?_)
     refine VW_region ?_
     refine VOps_cons rfl rfl (V_add rfl rfl (by omega) ?_)
     refine VOps_cons rfl rfl (V_move rfl ?_)
     refine VOps_nil ?_
     refine Then_n ?_
     exact ⟨j + 1, (by (try simp only []); omega), ⟨by omega, by rw [← hq2, drop_cons hx, List.all_cons, h41, Bool.true_and]⟩, ⟨rfl, rfl, rfl, rfl, rfl, rfl, rfl, trivial⟩, (Drops.refl _)⟩
   ·
    have hje : j = e.args.length := by omega
    subst hje
    rw [List.drop_length, List.all_nil] at hq2
    have hall : e.args.all p = true := hq2.symm
    refine VW_exit ?_
    refine Then_e (Then_e (InBlock_hit ?_))
    refine InBlock_n (Then_n ?_)
    refine VW_region ?_
    refine VOps_cons rfl rfl (V_add rfl rfl (by omega) ?_)
    refine VOps_cons rfl rfl (V_move rfl ?_)
    refine VOps_nil ?_
    refine Then_n ?_
    exact ⟨k + 1, (by (try simp only []); omega), ⟨by omega, by rw [← hq, drop_cons he, List.all_cons, hall, Bool.true_and]⟩, ⟨rfl, rfl, rfl, rfl, trivial⟩, (Drops.refl _)⟩
  ·
   have hke : k = t.to.length := by omega
   subst hke
   rw [List.drop_length, List.all_nil] at hq
   rw [← hq] at hr
   refine VW_exit ?_
   refine Then_e (Then_e (InBlock_hit ?_))
   refine Then_n ?_
   refine VW_seq ?_
   refine VW_region ?_
   refine VOps_cons rfl rfl (V_assign rfl ?_)
   refine VOps_nil ?_
   refine Then_n ?_
   refine VW_ret ?_
   refine VRet_one rfl (.tmp rfl) ?_
   exact ⟨by rw [hr], Drops.refl _⟩


end Go.Proofs.Ytmioemdikgdpkaa.X2
