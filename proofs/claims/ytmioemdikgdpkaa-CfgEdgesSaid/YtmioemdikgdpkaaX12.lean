/- Walks, printed by walk.py. -/
import Derived.Test.YtmioemdikgdpkaaVT
import Derived.Test.YtmioemdikgdpkaaS2
import Derived.Test.YtmioemdikgdpkaaC1
import Derived.Test.YtmioemdikgdpkaaX1
import Derived.Test.YtmioemdikgdpkaaX2
import Derived.Test.YtmioemdikgdpkaaX3
import Derived.Test.YtmioemdikgdpkaaX4
import Derived.Test.YtmioemdikgdpkaaX5
import Derived.Test.YtmioemdikgdpkaaX6
import Derived.Test.YtmioemdikgdpkaaX7
import Derived.Test.YtmioemdikgdpkaaX8
import Derived.Test.YtmioemdikgdpkaaX9
import Derived.Test.YtmioemdikgdpkaaX10
set_option linter.unusedVariables false
set_option linter.unusedSimpArgs false
namespace Go.Proofs.Ytmioemdikgdpkaa.X12
open Go.VL Go.SM Go.Proofs.Ytmioemdikgdpkaa Go.Proofs.Ytmioemdikgdpkaa.X1 Go.Proofs.Ytmioemdikgdpkaa.X2 Go.Proofs.Ytmioemdikgdpkaa.X3 Go.Proofs.Ytmioemdikgdpkaa.X4 Go.Proofs.Ytmioemdikgdpkaa.X5 Go.Proofs.Ytmioemdikgdpkaa.X6 Go.Proofs.Ytmioemdikgdpkaa.X7 Go.Proofs.Ytmioemdikgdpkaa.X8 Go.Proofs.Ytmioemdikgdpkaa.X9 Go.Proofs.Ytmioemdikgdpkaa.X10

theorem ints_flat (P : List (List Int)) : P.map intsX = (P.map intsX).flatMap V.leaves ++ [] := by
  rw [List.append_nil]
  induction P with
  | nil => rfl
  | cons a P ih => rw [List.map_cons, List.flatMap_cons, ← ih]; rfl
theorem ints_fits (P : List (List Int)) : ∀ x ∈ P.map intsX, x.fits 1 = true ∧ ((∃ ls, x = .agg ls) ∨ x.leaf = true) := fun x hx => by
  obtain ⟨l, _, rfl⟩ := List.mem_map.1 hx
  exact ⟨rfl, .inr rfl⟩

theorem at_preds {P : List (List Int)} {t : Nat} {l : List Int} (h : P[t]? = some l) (k : Nat) (e : SEdge) (ht : e.block.toNat = t) : predE k P e = P.set t (l ++ [(k : Int)]) := by
  rw [predE, ht, h]
  rfl
theorem pred_room {k : Nat} {P : List (List Int)} {e : SEdge} {m : Nat} (h : ∀ l ∈ P, l.length ≤ m) : ∀ l ∈ predE k P e, l.length ≤ m + 1 := fun l hl => by
  unfold predE at hl
  rcases List.mem_or_eq_of_mem_set hl with hl | rfl
  · have := h l hl; omega
  · rw [List.length_append]
    cases hp : P[e.block.toNat]? with
    | none => simp
    | some l => simp; exact h l (List.mem_of_getElem? hp)
theorem len_total {P : List (List Int)} {l : List Int} (h : l ∈ P) : l.length ≤ total P := by
  induction P with
  | nil => cases h
  | cons a P ih =>
    rcases List.mem_cons.1 h with rfl | h
    · simp [total]
    · have := ih h
      simp [total] at this ⊢
      omega

set_option maxRecDepth 100000 in
set_option maxHeartbeats 8000000 in
theorem Preds_c (f : SFunc) : VPure Try.prog 23 [funcV f] (.tup [rowsX (if funcF f = 0 then predsF f.blocks else []), .int (funcF f)]) := by
 refine V_start (nt := 50) Try.func23 rfl rfl rfl ?_
 refine VW_seq ?_
 refine VW_region ?_
 refine VOps_cons rfl rfl (V_box rfl rfl (fun g1 => ?_))
 refine VOps_cons rfl rfl (V_assign rfl ?_)
 refine VOps_cons rfl rfl (V_assign rfl ?_)
 refine VOps_nil ?_
 refine Then_n ?_
 refine VW_seq ?_
 refine VW_seq ?_
 refine VW_region ?_
 refine VOps_cons rfl rfl (V_load_agg 0 VT.ty37 rfl rfl rfl ?_)
 refine VOps_cons rfl rfl (V_callP [.tmp 10] rfl rfl VT.en35 (CheckFunc_c f) ?_)
 refine VOps_cons rfl rfl (V_assign rfl ?_)
 refine VOps_nil ?_
 refine Then_n ?_
 refine VW_seq ?_
 refine VW_region ?_
 refine VOps_cons rfl rfl (V_move rfl ?_)
 refine VOps_cons rfl rfl (V_bin rfl rfl rfl ?_)
 refine VOps_nil ?_
 refine Then_n ?_
 refine VW_condNe rfl (fun h13 => ?_) (fun h13 => ?_)
 ·
  refine VW_seq ?_
  refine VW_region ?_
  refine VOps_cons rfl rfl (V_move rfl ?_)
  refine VOps_cons rfl rfl (VOp_as (V_assign rfl ⟨rfl, rfl⟩) ((V.le.nil 1 : V.le _ (rowsX []))) ?_)
  refine VOps_cons rfl rfl (V_assign rfl ?_)
  refine VOps_nil ?_
  refine Then_n ?_
  refine VW_ret ?_
  refine Then_r (VRet_many rfl rfl (.cons (.tmp rfl) (.cons (.tmp rfl) (.nil))) ?_)
  rw [if_neg h13]
  rfl
 ·
  have hok := func_ok h13
  have hpos := hok.pos
  have hE := hok.edges
  have h128 := hok.len
  refine VW_skip ?_
  refine Then_n ?_
  refine VW_seq ?_
  refine VW_region ?_
  refine VOps_cons rfl rfl (V_fieldAddr VT.fa37_1 rfl ?_)
  refine VOps_cons rfl rfl (V_load 0 VT.ty35 rfl rfl rfl ?_)
  refine VOps_cons rfl rfl (V_lenN (n := f.blocks.length) Try.underlying35 rfl (by simp) (fun hl17 => ?_))
  refine VOps_cons rfl rfl (V_makeRow (.raw (.slice none 0 0)) (fun m => rfl) rfl VT.sl54 rfl rfl (by omega) (by omega) (fun g18 => ?_))
  refine VOps_cons rfl rfl (V_assign rfl ?_)
  refine VOps_nil ?_
  refine Then_n ?_
  refine VW_cells 0 (ls' := rowP (List.replicate f.blocks.length .nil) (List.replicate f.blocks.length [])) rfl (by rw [flat_nil]; exact les_nilRow _) ?_
  refine VW_nilBufs 3 1 f.blocks.length ?_
  rw [← bufsP_nil 3 f.blocks.length]
  refine VW_seq ?_
  refine VW_seq ?_
  refine VW_region ?_
  refine VOps_cons rfl rfl (V_fieldAddr VT.fa37_1 rfl ?_)
  refine VOps_cons rfl rfl (V_load 1 VT.ty35 rfl rfl rfl ?_)
  refine VOps_cons rfl rfl (V_lenN (n := f.blocks.length) Try.underlying35 rfl (by simp) (fun hl21 => ?_))
  refine VOps_cons rfl rfl (V_move rfl ?_)
  refine VOps_nil ?_
  refine Then_n ?_
  refine VW_block ?_
  refine VW_loopF (ι := Nat × List Tok × List (List Int)) (fun (k, toks, P) => f.blocks.length - k) (fun (k, toks, P) => [(1, some (.ptr g1 0)), (5, some (.raw (.slice (some ⟨g18, 0, none⟩) f.blocks.length f.blocks.length))), (20, some (blocksX f.blocks)), (21, some (.int f.blocks.length)), (22, some (.int k))]) (fun (k, toks, P) => .cells g18 23 (rowP toks P) :: .cells g1 37 [.int f.name, blocksX f.blocks] :: bufsP 3 toks P) (fun (k, toks, P) => k ≤ f.blocks.length ∧ predL k (f.blocks.drop k) P = predsF f.blocks ∧ toks.length = P.length ∧ P.length = f.blocks.length ∧ total P = edgesN (f.blocks.take k)) (0, List.replicate f.blocks.length .nil, List.replicate f.blocks.length []) ⟨Nat.zero_le _, rfl, by simp, by simp, total_zero _⟩ ⟨rfl, rfl, rfl, rfl, rfl, trivial⟩ (Drops.keep (Drops.keep (Drops.refl _))) ?_
  rintro ⟨k, toks, P⟩ hA
  change k ≤ f.blocks.length ∧ predL k (f.blocks.drop k) P = predsF f.blocks ∧ toks.length = P.length ∧ P.length = f.blocks.length ∧ total P = edgesN (f.blocks.take k) at hA
  obtain ⟨hk, hq, htk, hPl, htot⟩ := hA
  refine VW_seq ?_
  refine VW_region ?_
  refine VOps_cons rfl rfl (V_bin rfl rfl rfl ?_)
  refine VOps_nil ?_
  refine Then_n ?_
  refine VW_seq ?_
  refine VW_condP rfl (fun h23 => ?_) (fun h23 => ?_)
  ·
   obtain ⟨b, hb⟩ := get_of_lt f.blocks k h23
   have hbm := List.mem_of_getElem? hb
   have hEb := hE b hbm
   refine VW_skip ?_
   refine Then_n ?_
   refine VW_seq ?_
   refine VW_block ?_
   refine VW_seq ?_
   refine VW_region ?_
   refine VOps_cons rfl rfl (V_move rfl ?_)
   refine VOps_cons rfl rfl (V_indexAddr (el := blockV b) VT.sl35 rfl rfl (by omega) (get_mapS _ hb) (fun a25 => ?_))
   refine VOps_cons rfl rfl (V_load_ep_agg VT.ty34 rfl rfl ?_)
   refine VOps_cons rfl rfl (V_alloc VT.zr34 _ rfl rfl (fun g7 => ?_))
   refine VOps_cons rfl rfl (V_assign rfl ?_)
   refine VOps_cons rfl rfl (V_store_agg 0 VT.ty34 rfl rfl rfl rfl rfl ?_)
   refine VOps_nil ?_
   refine Then_n ?_
   refine VW_seq ?_
   refine VW_region ?_
   refine VOps_cons rfl rfl (V_fieldAddr VT.fa34_2 rfl ?_)
   refine VOps_cons rfl rfl (V_fieldAddr VT.fa32_4 rfl ?_)
   refine VOps_cons rfl rfl (V_load 0 VT.ty30 rfl rfl rfl ?_)
   refine VOps_cons rfl rfl (V_lenN (n := b.term.to.length) Try.underlying30 rfl (by simp) (fun hl30 => ?_))
   refine VOps_cons rfl rfl (V_move rfl ?_)
   refine VOps_nil ?_
   refine Then_n ?_
   refine VW_block ?_
   refine VW_loopF (ι := Nat × List Tok × List (List Int)) (fun (j, toks1, Q) => b.term.to.length - j) (fun (j, toks1, Q) => [(1, some (.ptr g1 0)), (5, some (.raw (.slice (some ⟨g18, 0, none⟩) f.blocks.length f.blocks.length))), (6, some (.int k)), (20, some (blocksX f.blocks)), (21, some (.int f.blocks.length)), (22, some (.int k)), (29, some (edgesX b.term.to)), (30, some (.int b.term.to.length)), (31, some (.int j))]) (fun (j, toks1, Q) => .cells g18 23 (rowP toks1 Q) :: .cells g1 37 [.int f.name, blocksX f.blocks] :: bufsP 3 toks1 Q) (fun (j, toks1, Q) => j ≤ b.term.to.length ∧ (b.term.to.drop j).foldl (predE k) Q = predB k P b ∧ toks1.length = Q.length ∧ Q.length = f.blocks.length ∧ total Q = edgesN (f.blocks.take k) + j) (0, toks, P) ⟨Nat.zero_le _, rfl, htk, hPl, htot⟩ ⟨rfl, rfl, rfl, rfl, rfl, rfl, rfl, rfl, rfl, trivial⟩ (Drops.drop (Drops.keep (Drops.keep (Drops.refl _)))) ?_
   rintro ⟨j, toks1, Q⟩ hA2
   change j ≤ b.term.to.length ∧ (b.term.to.drop j).foldl (predE k) Q = predB k P b ∧ toks1.length = Q.length ∧ Q.length = f.blocks.length ∧ total Q = edgesN (f.blocks.take k) + j at hA2
   obtain ⟨hj, hq1, htk1, hQl, htotQ⟩ := hA2
   refine VW_seq ?_
   refine VW_region ?_
   refine VOps_cons rfl rfl (V_bin rfl rfl rfl ?_)
   refine VOps_nil ?_
   refine Then_n ?_
   refine VW_seq ?_
   refine VW_condP rfl (fun h32 => ?_) (fun h32 => ?_)
   ·
    obtain ⟨e, he⟩ := get_of_lt b.term.to j h32
    obtain ⟨he1, he2⟩ := hEb e (List.mem_of_getElem? he)
    obtain ⟨l, hl⟩ := get_of_lt Q e.block.toNat (by omega)
    obtain ⟨t, ht⟩ := get_of_lt toks1 e.block.toNat (by omega)
    have hpe := at_preds hl k e rfl
    have hlt := len_total (List.mem_of_getElem? hl)
    have hsm := edges_small hok
    have hte := term_edges hok hbm
    have htk2 := edgesN_take hb
    have hle3 := edgesN_takele f.blocks (k + 1)
    refine VW_skip ?_
    refine Then_n ?_
    refine VW_seq ?_
    refine VW_block ?_
    refine VW_seq ?_
    refine VW_region ?_
    refine VOps_cons rfl rfl (V_indexAddr (el := edgeV e) VT.sl30 rfl rfl (by omega) (get_mapS _ he) (fun a33 => ?_))
    refine VOps_cons rfl rfl (V_load_ep_agg VT.ty29 rfl rfl ?_)
    refine VOps_cons rfl rfl (V_alloc VT.zr29 _ rfl rfl (fun g9 => ?_))
    refine VOps_cons rfl rfl (V_store_agg 0 VT.ty29 rfl rfl rfl rfl rfl ?_)
    refine VOps_nil ?_
    refine Then_n ?_
    refine VW_perm ((((bufsP_perm 3 ht hl).cons _).cons _).cons _) ?_
    refine VW_draw (G := Tok) [([], [5], []), ([], [9], []), ([1], [36], []), ([], [5], []), ([], [9], []), ([4], [39], []), ([5, 4, 3], [38, 40], []), ([6, 5, 4, 3], [41], []), ([], [6], []), ([8], [43], []), ([9, 8, 7, 6, 5, 4, 3], [42, 44], [0]), ([10, 9, 8, 7, 6, 5, 4, 3, 2, 1, 0], [35, 37], []), ([11, 10, 9, 8, 7, 6, 5, 4, 3, 2, 1, 0], [46, 45], [])] [10, 12] (twoSt _ (fun x => (.cells g9 29 [.int e.block, intsX e.args] :: .cells g18 23 (rowP toks1 Q) :: .cells g1 37 [.int f.name, blocksX f.blocks] :: .buf x 3 1 (l.map V.int ++ [V.int k]).length :: bufsP 3 (toks1.eraseIdx e.block.toNat) (Q.eraseIdx e.block.toNat))) (fun x _ => (.cells g9 29 [.int e.block, intsX e.args] :: .cells g18 23 ((rowP toks1 Q).set e.block.toNat (.sl 1 (some x) (l.map V.int ++ [V.int k])) ++ []) :: .cells g1 37 [.int f.name, blocksX f.blocks] :: .buf x 3 1 (l.map V.int ++ [V.int k]).length :: bufsP 3 (toks1.eraseIdx e.block.toNat) (Q.eraseIdx e.block.toNat)))) [] [35, 36, 37, 38, 39, 40, 41, 42, 43, 44, 45, 46] rfl VT.mix (by kernel_rfl) (by kernel_rfl) ?_
    refine DrawP_consL (acc' := [_]) (eqRes _) (goodS rfl rfl ⟨(fun γ => Needs_f (by kernel_rfl) (fun r5 h5 => Needs_nil (vopT rfl (V_move h5 ⟨rfl, rfl⟩)))), (fun γ => Needs_f (by kernel_rfl) (fun r5 h5 => Needs_nil (vopT rfl (V_move h5 ⟨rfl, rfl⟩)))), trivial⟩) rfl ?_
    refine DrawP_consL (acc' := [_, _]) (eqRes _) (goodS rfl rfl ⟨(fun γ => Needs_f (by kernel_rfl) (fun r9 h9 => Needs_nil (vopT rfl (V_fieldAddr VT.fa29_0 h9 ⟨rfl, rfl⟩)))), (fun γ => Needs_f (by kernel_rfl) (fun r9 h9 => Needs_nil (vopT rfl (V_fieldAddr VT.fa29_0 h9 ⟨rfl, rfl⟩)))), trivial⟩) rfl ?_
    refine DrawP_consL (acc' := [_, _, _]) (eqRes _) (goodS rfl rfl ⟨(fun γ => Needs_w 1 (by kernel_rfl) rfl (fun r36 h36 => Needs_nil (vopT rfl (V_load 0 VT.ty3 h36 rfl rfl ⟨rfl, rfl⟩)))), (fun γ => Needs_w 1 (by kernel_rfl) rfl (fun r36 h36 => Needs_nil (vopT rfl (V_load 0 VT.ty3 h36 rfl rfl ⟨rfl, rfl⟩)))), trivial⟩) rfl ?_
    refine DrawP_consL (acc' := [_, _, _, _]) (eqRes _) (goodS rfl rfl ⟨(fun γ => Needs_f (by kernel_rfl) (fun r5 h5 => Needs_nil (vopT rfl (V_move h5 ⟨rfl, rfl⟩)))), trivial⟩) rfl ?_
    refine DrawP_consL (acc' := [_, _, _, _, _]) (eqRes _) (goodS rfl rfl ⟨(fun γ => Needs_f (by kernel_rfl) (fun r9 h9 => Needs_nil (vopT rfl (V_fieldAddr VT.fa29_0 h9 ⟨rfl, rfl⟩)))), trivial⟩) rfl ?_
    refine DrawP_consL (acc' := [_, _, _, _, _, _]) (eqRes _) (goodS rfl rfl ⟨(fun γ => Needs_w 4 (by kernel_rfl) rfl (fun r39 h39 => Needs_nil (vopT rfl (V_load 0 VT.ty3 h39 rfl rfl ⟨rfl, rfl⟩)))), trivial⟩) rfl ?_
    refine DrawP_consL (acc' := [_, _, _, _, _, _, _]) (eqRes _) (goodS rfl rfl ⟨(fun γ => Needs_w 3 (by kernel_rfl) rfl (fun r38 h38 => Needs_w 5 (by kernel_rfl) rfl (fun r40 h40 => Needs_nil (vopT rfl (V_indexAddr_row VT.sl54 h38 h40 (by omega) (by omega) ⟨rfl, rfl⟩))))), trivial⟩) rfl ?_
    refine DrawP_consL (acc' := [_, _, _, _, _, _, _, _]) (eqRes _) (goodS rfl rfl ⟨(fun γ => Needs_w 6 (by kernel_rfl) rfl (fun r41 h41 => Needs_nil (vopT rfl (V_load_elem1 1 e.block.toNat VT.ty23 h41 (by simp) rfl (List.append_nil _).symm (rowP_get ht hl) ⟨rfl, rfl⟩)))), trivial⟩) rfl ?_
    refine DrawP_consL (acc' := [_, _, _, _, _, _, _, _, _]) (eqRes _) (goodS rfl rfl ⟨(fun γ => Needs_f (by kernel_rfl) (fun r6 h6 => Needs_nil (vopT rfl (V_move h6 ⟨rfl, rfl⟩)))), trivial⟩) rfl ?_
    refine DrawP_consL (acc' := [_, _, _, _, _, _, _, _, _, _]) (eqRes _) (goodS rfl rfl ⟨(fun γ => Needs_w 8 (by kernel_rfl) rfl (fun r43 h43 => Needs_nil (vopT rfl (V_lit [.tmp 43] VT.sl23 rfl rfl rfl (evs_cons h43 evs_nil) rfl ⟨rfl, rfl⟩)))), trivial⟩) rfl ?_
    refine DrawP_consL (acc' := [_, _, _, _, _, _, _, _, _, _, _]) (oneRes (fun x => .sl 1 (some x) (l.map V.int ++ [V.int k]))) (goodU 0 rfl (fun γ => Needs_w 7 (by kernel_rfl) rfl (fun r42 h42 => Needs_w 9 (by kernel_rfl) rfl (fun r44 h44 => Needs_nil (vopT rfl (V_appendN 3 _ VT.sl23 h42 h44 rfl (by simp) (by simp; omega) (fun t45 => ⟨t45, ⟨t45, rfl, rfl⟩, rfl⟩))))))) rfl ?_
    refine DrawP_consL (acc' := [_, _, _, _, _, _, _, _, _, _, _, _]) (eqRes _) (goodS rfl rfl ⟨(fun γ => Needs_w 0 (by kernel_rfl) rfl (fun r35 h35 => Needs_w 2 (by kernel_rfl) rfl (fun r37 h37 => Needs_nil (vopT rfl (V_indexAddr_row VT.sl54 h35 h37 (by omega) (by omega) ⟨rfl, rfl⟩))))), trivial⟩) rfl ?_
    refine DrawP_consL (acc' := [_, _, _, _, _, _, _, _, _, _, _, _, _]) anyRes (goodU 1 rfl (fun γ => Needs_w 11 (by kernel_rfl) rfl (fun r46 h46 => Needs_w 10 (by kernel_rfl) rfl (fun r45 h45 => Needs_nil (oneE h45 (fun e45 => vopT rfl (V_store_elem1 1 e.block.toNat VT.ty23 h46 (by simp) e45 rfl rfl (List.append_nil _).symm (by rw [rowP_len htk1]; omega) ⟨default, trivial, rfl⟩))))))) rfl ?_
    refine DrawP_nil (fun γ => Needs_nil ?_)
    refine InBlock_n (Then_n ?_)
    let tk : Tok := γ 0
    refine VW_drops (Drops.drop (Drops.keepE (congrArg (Own.cells g18 23) (rowP_snoc toks1 Q e.block.toNat tk l k)) (Drops.keep ((Drops.keepE (by simp; rfl) (Drops.refl _)).trans (Drops.of_perm (bufsP_set (t' := tk) (l' := l ++ [(k : Int)]) 3 ht hl)))))) ?_
    rw [← hpe]
    refine VW_region ?_
    refine VOps_cons rfl rfl (V_add rfl rfl (by omega) ?_)
    refine VOps_cons rfl rfl (V_move rfl ?_)
    refine VOps_nil ?_
    refine Then_n ?_
    exact ⟨(j + 1, toks1.set e.block.toNat tk, predE k Q e), (by (try simp only []); omega), ⟨by omega, by rw [← hq1, drop_cons he, List.foldl_cons], by rw [List.length_set, predE_len]; exact htk1, by rw [predE_len]; exact hQl, by rw [hpe, total_set2 hl]; omega⟩, ⟨rfl, rfl, rfl, rfl, rfl, rfl, rfl, rfl, rfl, trivial⟩, (Drops.keep (Drops.keep (Drops.refl _)))⟩
   ·
    have hje : j = b.term.to.length := by omega
    subst hje
    rw [List.drop_length, List.foldl_nil] at hq1
    subst hq1
    have htot1 : total (predB k P b) = edgesN (f.blocks.take (k + 1)) := by rw [htotQ, edgesN_take hb]
    refine VW_exit ?_
    refine Then_e (Then_e (InBlock_hit ?_))
    refine InBlock_n (Then_n ?_)
    refine VW_region ?_
    refine VOps_cons rfl rfl (V_add rfl rfl (by omega) ?_)
    refine VOps_cons rfl rfl (V_move rfl ?_)
    refine VOps_nil ?_
    refine Then_n ?_
    exact ⟨(k + 1, toks1, predB k P b), (by (try simp only []); omega), ⟨by omega, by rw [← hq, drop_cons hb, predL], htk1, by rw [predB, foldl_len, hPl], htot1⟩, ⟨rfl, rfl, rfl, rfl, rfl, trivial⟩, (Drops.keep (Drops.keep (Drops.refl _)))⟩
  ·
   have hke : k = f.blocks.length := by omega
   subst hke
   rw [List.drop_length, predL] at hq
   refine VW_exit ?_
   refine Then_e (Then_e (InBlock_hit ?_))
   refine Then_n ?_
   refine VW_cells 0 (ls' := P.map intsX) rfl (rowP_les toks P htk) ?_
   refine VW_freeze 0 (q := 5) (rest := []) (P.map intsX) rfl rfl (ints_flat P) (by simp [hPl]) (Nat.le_refl _) (by simp only [maxLen]; omega) (ints_fits P) ?_
   refine VW_seq ?_
   refine VW_region ?_
   refine VOps_cons rfl rfl (V_move rfl ?_)
   refine VOps_cons rfl rfl (V_assign rfl ?_)
   refine VOps_cons rfl rfl (V_assign rfl ?_)
   refine VOps_nil ?_
   refine Then_n ?_
   refine VW_ret ?_
   refine VRet_many rfl rfl (.cons (.tmp rfl) (.cons (.tmp rfl) (.nil))) ?_
   rw [if_pos h13, h13, ← hq]; first | done | rfl


set_option maxRecDepth 100000 in
set_option maxHeartbeats 4000000 in
theorem cfgEdges_c (f : SFunc) : VPure Try.prog 8 [funcV f] (.bool true) := by
 refine V_start (nt := 49) Try.func8 rfl rfl rfl ?_
 refine VW_seq ?_
 refine VW_region ?_
 refine VOps_cons rfl rfl (V_box rfl rfl (fun g1 => ?_))
 refine VOps_cons rfl rfl (V_assign rfl ?_)
 refine VOps_nil ?_
 refine Then_n ?_
 refine VW_seq ?_
 refine VW_seq ?_
 refine VW_region ?_
 refine VOps_cons rfl rfl (V_callP [] rfl rfl VT.en18 (works_c) ?_)
 refine VOps_cons rfl rfl (V_not rfl ?_)
 refine VOps_nil ?_
 refine Then_n ?_
 refine VW_condN rfl (fun h11 => ?_) (fun h11 => ?_)
 · exact absurd h11 (by decide)
 ·
  refine VW_skip ?_
  refine Then_n ?_
  refine VW_seq ?_
  refine VW_region ?_
  refine VOps_cons rfl rfl (V_load_agg 0 VT.ty37 rfl rfl rfl ?_)
  refine VOps_cons rfl rfl (V_callP [.tmp 13] rfl rfl VT.en23 (Preds_c f) ?_)
  refine VOps_cons rfl rfl (V_move rfl ?_)
  refine VOps_cons rfl rfl (V_extract rfl rfl ?_)
  refine VOps_cons rfl rfl (V_extract rfl rfl ?_)
  refine VOps_cons rfl rfl (V_assign rfl ?_)
  refine VOps_cons rfl rfl (V_assign rfl ?_)
  refine VOps_nil ?_
  refine Then_n ?_
  refine VW_seq ?_
  refine VW_seq ?_
  refine VW_region ?_
  refine VOps_cons rfl rfl (V_move rfl ?_)
  refine VOps_cons rfl rfl (V_bin rfl rfl rfl ?_)
  refine VOps_nil ?_
  refine Then_n ?_
  refine VW_condNe rfl (fun h18 => ?_) (fun h18 => ?_)
  ·
   rw [if_neg h18]
   refine VW_seq ?_
   refine VW_region ?_
   refine VOps_cons rfl rfl (V_move rfl ?_)
   refine VOps_cons rfl rfl (V_lenN (n := 0) Try.underlying54 rfl (by simp) (fun hl20 => ?_))
   refine VOps_cons rfl rfl (V_bin rfl rfl rfl ?_)
   refine VOps_cons rfl rfl (V_assign rfl ?_)
   refine VOps_nil ?_
   refine Then_n ?_
   refine VW_ret ?_
   refine Then_r (VRet_one rfl (.tmp rfl) ?_)
   rfl
  ·
   rw [if_pos h18]
   have hok := func_ok h18
   have htot := preds_total hok.edges
   have hsm := edges_small hok
   have hPl := predsF_len f.blocks
   refine VW_skip ?_
   refine Then_n ?_
   refine VW_seq ?_
   refine VW_region ?_
   refine VOps_cons rfl rfl (V_assign rfl ?_)
   refine VOps_nil ?_
   refine Then_n ?_
   refine VW_seq ?_
   refine VW_seq ?_
   refine VW_region ?_
   refine VOps_cons rfl rfl (V_move rfl ?_)
   refine VOps_cons rfl rfl (V_lenN (n := (predsF f.blocks).length) Try.underlying54 rfl (by simp) (fun hl23 => ?_))
   refine VOps_cons rfl rfl (V_move rfl ?_)
   refine VOps_nil ?_
   refine Then_n ?_
   refine VW_block ?_
   refine VW_loopF (ι := Nat) (fun k => (predsF f.blocks).length - k) (fun k => [(1, some (.ptr g1 0)), (5, some (.int (total ((predsF f.blocks).take k)))), (22, some (rowsX (predsF f.blocks))), (23, some (.int (predsF f.blocks).length)), (24, some (.int k))]) (fun k => [.cells g1 37 [.int f.name, blocksX f.blocks]]) (fun k => k ≤ (predsF f.blocks).length) 0 (Nat.zero_le _) ⟨rfl, rfl, rfl, rfl, rfl, trivial⟩ (Drops.keep (Drops.refl _)) ?_
   rintro k hk
   change k ≤ (predsF f.blocks).length at hk
   refine VW_seq ?_
   refine VW_region ?_
   refine VOps_cons rfl rfl (V_bin rfl rfl rfl ?_)
   refine VOps_nil ?_
   refine Then_n ?_
   refine VW_seq ?_
   refine VW_condP rfl (fun h25 => ?_) (fun h25 => ?_)
   ·
    obtain ⟨l, hl⟩ := get_of_lt (predsF f.blocks) k h25
    have htk := total_take hl
    have htl := total_takele (predsF f.blocks) (k + 1)
    refine VW_skip ?_
    refine Then_n ?_
    refine VW_seq ?_
    refine VW_block ?_
    refine VW_seq ?_
    refine VW_region ?_
    refine VOps_cons rfl rfl (V_indexAddr (el := intsX l) VT.sl54 rfl rfl (by omega) (get_mapS _ hl) (fun a26 => ?_))
    refine VOps_cons rfl rfl (V_load_ep VT.ty23 rfl rfl ?_)
    refine VOps_cons rfl rfl (V_assign rfl ?_)
    refine VOps_nil ?_
    refine Then_n ?_
    refine VW_region ?_
    refine VOps_cons rfl rfl (V_move rfl ?_)
    refine VOps_cons rfl rfl (V_move rfl ?_)
    refine VOps_cons rfl rfl (V_lenN (n := l.length) Try.underlying23 rfl (by simp) (fun hl30 => ?_))
    refine VOps_cons rfl rfl (V_add rfl rfl (by omega) ?_)
    refine VOps_cons rfl rfl (V_assign rfl ?_)
    refine VOps_nil ?_
    refine InBlock_n (Then_n ?_)
    refine VW_region ?_
    refine VOps_cons rfl rfl (V_add rfl rfl (by omega) ?_)
    refine VOps_cons rfl rfl (V_move rfl ?_)
    refine VOps_nil ?_
    refine Then_n ?_
    exact ⟨k + 1, (by (try simp only []); omega), (by omega), ⟨rfl, (by rw [total_take hl]; rfl), rfl, rfl, rfl, trivial⟩, (Drops.keep (Drops.refl _))⟩
   ·
    have hke : k = (predsF f.blocks).length := by omega
    subst hke
    rw [List.take_length, htot]
    refine VW_exit ?_
    refine Then_e (Then_e (InBlock_hit ?_))
    refine Then_n ?_
    refine VW_seq ?_
    refine VW_seq ?_
    refine VW_region ?_
    refine VOps_cons rfl rfl (V_fieldAddr VT.fa37_1 rfl ?_)
    refine VOps_cons rfl rfl (V_load 0 VT.ty35 rfl rfl rfl ?_)
    refine VOps_cons rfl rfl (V_lenN (n := f.blocks.length) Try.underlying35 rfl (by simp) (fun hl35 => ?_))
    refine VOps_cons rfl rfl (V_move rfl ?_)
    refine VOps_nil ?_
    refine Then_n ?_
    refine VW_block ?_
    refine VW_loopF (ι := Nat) (fun k => f.blocks.length - k) (fun k => [(5, some (.int ((edgesN f.blocks : Int) - edgesN (f.blocks.take k)))), (34, some (blocksX f.blocks)), (35, some (.int f.blocks.length)), (36, some (.int k))]) (fun k => []) (fun k => k ≤ f.blocks.length) 0 (Nat.zero_le _) ⟨(congrArg (fun n : Int => some (V.int n)) (by simp [edgesN])), rfl, rfl, rfl, trivial⟩ (Drops.nil _) ?_
    rintro k hk2
    change k ≤ f.blocks.length at hk2
    refine VW_seq ?_
    refine VW_region ?_
    refine VOps_cons rfl rfl (V_bin rfl rfl rfl ?_)
    refine VOps_nil ?_
    refine Then_n ?_
    refine VW_seq ?_
    refine VW_condP rfl (fun h37 => ?_) (fun h37 => ?_)
    ·
     obtain ⟨b, hb⟩ := get_of_lt f.blocks k h37
     have hek := edgesN_take hb
     have hel := edgesN_takele f.blocks (k + 1)
     refine VW_skip ?_
     refine Then_n ?_
     refine VW_seq ?_
     refine VW_block ?_
     refine VW_seq ?_
     refine VW_region ?_
     refine VOps_cons rfl rfl (V_indexAddr (el := blockV b) VT.sl35 rfl rfl (by omega) (get_mapS _ hb) (fun a38 => ?_))
     refine VOps_cons rfl rfl (V_load_ep_agg VT.ty34 rfl rfl ?_)
     refine VOps_cons rfl rfl (V_alloc VT.zr34 _ rfl rfl (fun g9 => ?_))
     refine VOps_cons rfl rfl (V_store_agg 0 VT.ty34 rfl rfl rfl rfl rfl ?_)
     refine VOps_nil ?_
     refine Then_n ?_
     refine VW_region ?_
     refine VOps_cons rfl rfl (V_move rfl ?_)
     refine VOps_cons rfl rfl (V_fieldAddr VT.fa34_2 rfl ?_)
     refine VOps_cons rfl rfl (V_fieldAddr VT.fa32_4 rfl ?_)
     refine VOps_cons rfl rfl (V_load 0 VT.ty30 rfl rfl rfl ?_)
     refine VOps_cons rfl rfl (V_lenN (n := b.term.to.length) Try.underlying30 rfl (by simp) (fun hl44 => ?_))
     refine VOps_cons rfl rfl (V_sub rfl rfl (by omega) ?_)
     refine VOps_cons rfl rfl (V_assign rfl ?_)
     refine VOps_nil ?_
     refine InBlock_n (Then_n ?_)
     refine VW_region ?_
     refine VOps_cons rfl rfl (V_add rfl rfl (by omega) ?_)
     refine VOps_cons rfl rfl (V_move rfl ?_)
     refine VOps_nil ?_
     refine Then_n ?_
     exact ⟨k + 1, (by (try simp only []); omega), (by omega), ⟨(congrArg (fun n : Int => some (V.int n)) (by rw [edgesN_take hb]; omega)), rfl, rfl, rfl, trivial⟩, (Drops.nil _)⟩
    ·
     have hke : k = f.blocks.length := by omega
     subst hke
     rw [List.take_length]
     refine VW_exit ?_
     refine Then_e (Then_e (InBlock_hit ?_))
     refine Then_n ?_
     refine VW_seq ?_
     refine VW_region ?_
     refine VOps_cons rfl rfl (V_move rfl ?_)
     refine VOps_cons rfl rfl (V_bin rfl rfl rfl ?_)
     refine VOps_cons rfl rfl (V_assign rfl ?_)
     refine VOps_nil ?_
     refine Then_n ?_
     refine VW_ret ?_
     refine VRet_one rfl (.tmp rfl) ?_
     exact congrArg V.bool (by simp)


end Go.Proofs.Ytmioemdikgdpkaa.X12
