/- Walks, printed by walk.py. -/
import Derived.Test.YtmioemdikgdpkaaVT
import Derived.Test.YtmioemdikgdpkaaS2
import Derived.Test.YtmioemdikgdpkaaS5
import Derived.Test.YtmioemdikgdpkaaX1
import Derived.Test.YtmioemdikgdpkaaX2
import Derived.Test.YtmioemdikgdpkaaX3
import Derived.Test.YtmioemdikgdpkaaX4
import Derived.Test.YtmioemdikgdpkaaX5
import Derived.Test.YtmioemdikgdpkaaX6
set_option linter.unusedVariables false
set_option linter.unusedSimpArgs false
namespace Go.Proofs.Ytmioemdikgdpkaa.X7
open Go.VL Go.SM Go.Proofs.Ytmioemdikgdpkaa Go.Proofs.Ytmioemdikgdpkaa.X1 Go.Proofs.Ytmioemdikgdpkaa.X2 Go.Proofs.Ytmioemdikgdpkaa.X3 Go.Proofs.Ytmioemdikgdpkaa.X4 Go.Proofs.Ytmioemdikgdpkaa.X5 Go.Proofs.Ytmioemdikgdpkaa.X6

def allocNew (size : Val) (M : Mach) : Bool := decide (size.kind = 0) && decide (0 ≤ size.n) && decide (size.n ≤ 1024) && !(payF size.n M).short
theorem payF_heap (n : Int) (M : Mach) : (payF n M).heap = M.heap ∧ (payF n M).out = M.out ∧ (payF n M).stack = M.stack := by unfold payF; split <;> exact ⟨rfl, rfl, rfl⟩
theorem allocF_old {size fill : Val} {M : Mach} (h : allocNew size M = false) : (allocF size fill M).1.heap = M.heap := by
  unfold allocF
  split
  · rfl
  · rename_i h1
    split
    · rfl
    · rename_i h2
      split
      · exact (payF_heap _ _).1
      · rename_i h3
        have h1 := Classical.not_not.1 h1
        have : allocNew size M = true := by
          have h3 : (payF size.n M).short = false := by simpa using h3
          simp [allocNew, h1, h3]
          omega
        rw [h] at this
        cases this
theorem allocF_new {size fill : Val} {M : Mach} (h : allocNew size M = true) : allocF size fill M = ({ payF size.n M with heap := M.heap ++ [List.replicate size.n.toNat fill] }, .mk 3 0 [] (some M.heap.length), 0) := by
  simp only [allocNew, Bool.and_eq_true, decide_eq_true_eq, Bool.not_eq_true'] at h
  unfold allocF
  rw [if_neg (by simpa using h.1.1.1), if_neg (by omega), if_neg (by rw [h.2]; decide)]
theorem allocF_out (size fill : Val) (M : Mach) : (allocF size fill M).1.out = M.out := by
  unfold allocF
  split
  · rfl
  · split
    · rfl
    · split <;> exact (payF_heap _ _).2.1
theorem alloc0_c (gm : Nat) (u : SUnit) (stk ov : V) (M : Mach) (ρ : Nat → Nat) (size fill : Val) (h2 : 0 ≤ M.left) (h3 : M.left ≤ 1000000) (h : allocNew size M = false) : VCalls Try.prog 122 [.ptr gm 0, valX ρ size, valX ρ fill] [mcells gm u stk ov M] fun r S' => r = .tup [valX ρ (allocF size fill M).2.1, .int (allocF size fill M).2.2] ∧ S' = [mcells gm u stk ov (allocF size fill M).1] :=
  (allocate_c gm u stk ov M ρ size fill h2 h3).mono fun r S' hr => by
    rcases hr with ⟨h1, h4, _⟩ | ⟨ga, gr, _, _, h5, _⟩
    · exact ⟨h1, h4⟩
    · rw [allocF_old h] at h5
      have := congrArg List.length h5
      simp at this
theorem alloc1_c (gm : Nat) (u : SUnit) (stk ov : V) (M : Mach) (ρ : Nat → Nat) (size fill : Val) (h2 : 0 ≤ M.left) (h3 : M.left ≤ 1000000) (h : allocNew size M = true) : VCalls Try.prog 122 [.ptr gm 0, valX ρ size, valX ρ fill] [mcells gm u stk ov M] fun r S' => ∃ ga gr, r = .tup [.agg [.int 3, .int 0, .sl 4 none [], .ptr ga 0], .int 0] ∧ S' = [mcells gm u stk ov (allocF size fill M).1, acell ga gr size.n.toNat, arow ρ gr (List.replicate size.n.toNat fill)] :=
  (allocate_c gm u stk ov M ρ size fill h2 h3).mono fun r S' hr => by
    rcases hr with ⟨_, _, h5⟩ | ⟨ga, gr, h4, _, _, h6⟩
    · rw [allocF_new h] at h5
      have := congrArg List.length h5
      simp at this
    · exact ⟨ga, gr, h4, h6⟩
theorem arr_of {nf nh : Nat} {v : Val} (h : okV nf nh v = true) (hk : v.kind = 3) : ∃ k, v.arr = some k ∧ k < nh := by
  have h := (okV_iff.1 h).1
  cases ha : v.arr with
  | none => rw [ha] at h; simp [okArr] at h; exact absurd hk h
  | some k => rw [ha] at h; simp [okArr] at h; exact ⟨k, rfl, h⟩
theorem get_argX {ρ : Nat → Nat} {l : List Val} {k : Nat} (h : k < l.length) : (l.map (valX ρ))[k]? = some (valX ρ (argAt l k)) := by
  rw [List.getElem?_map, List.getElem?_eq_getElem h, argAt, List.getElem?_eq_getElem h]
  rfl
theorem list_len {l : List Val} (h : l.length ≤ 1024) : (l.length : Int) ≤ 1024 := by omega

set_option maxRecDepth 100000 in
set_option maxHeartbeats 16000000 in
theorem effect1_c (gm : Nat) (u : SUnit) (stk : V) (tok : Tok) (M : Mach) (A : List (Nat × Nat)) (nf : Nat) (i : SIns) (args : List Val) (hA : A.length = M.heap.length) (hok : ∀ a ∈ args, okV nf M.heap.length a = true) (hH : ∀ l ∈ M.heap, l.length ≤ 1024 ∧ ∀ v ∈ l, okV nf M.heap.length v = true) (h2 : 0 ≤ M.left) (h3 : M.left ≤ 1000000) (ho : M.out.length ≤ 1000) (hl1 : 1 ≤ args.length) (hl2 : i.op ≠ 15 ∧ i.op ≠ 17 → 2 ≤ args.length) (hl3 : i.op = 20 → 3 ≤ args.length) (hop : elemJ i.op [15, 16, 17, 18, 19, 20] = true) (hnew : i.op = 16 ∧ allocNew (argAt args 0) M = true) : VCalls Try.prog 115 [.ptr gm 0, insV i, valsX (rho A) args] (mcells gm u stk (outV tok M.out) M :: obuf tok M.out :: arrsS (rho A) A M.heap) fun r S' => ∃ A' tok', (∃ B, A' = A ++ B) ∧ A'.length = (effectF i args M).1.heap.length ∧ r = .tup [valX (rho A') (effectF i args M).2.1, .int (effectF i args M).2.2] ∧ S' = mcells gm u stk (outV tok' (effectF i args M).1.out) (effectF i args M).1 :: obuf tok' (effectF i args M).1.out :: arrsS (rho A') A' (effectF i args M).1.heap := by
 refine VCalls_drops ?_
 have hr := effectF.eq_def i args M
 have hop2 : i.op = 15 ∨ i.op = 16 ∨ i.op = 17 ∨ i.op = 18 ∨ i.op = 19 ∨ i.op = 20 := by simpa [elemJ] using hop
 refine V_start (nt := 137) Try.func115 rfl rfl rfl ?_
 refine VW_seq ?_
 refine VW_region ?_
 refine VOps_cons rfl rfl (V_box rfl rfl (fun g4 => ?_))
 refine VOps_cons rfl rfl (V_alloc VT.zr152 _ rfl rfl (fun g6 => ?_))
 refine VOps_cons rfl rfl (V_assign rfl ?_)
 refine VOps_nil ?_
 refine Then_n ?_
 refine VW_seq ?_
 refine VW_seq ?_
 refine VW_region ?_
 refine VOps_cons rfl rfl (V_fieldAddr VT.fa25_1 rfl ?_)
 refine VOps_cons rfl rfl (V_load 1 VT.ty3 rfl rfl rfl ?_)
 refine VOps_nil ?_
 refine Then_n ?_
 refine VW_block ?_
 refine VW_seq ?_
 refine VW_region ?_
 refine VOps_cons rfl rfl (V_bin rfl rfl rfl ?_)
 refine VOps_cons rfl rfl (V_assign rfl ?_)
 refine VOps_nil ?_
 refine Then_n ?_
 refine VW_condEq rfl (fun h12 => ?_) (fun h12 => ?_)
 · exact absurd h12 (by omega)
 ·
  rw [if_neg h12] at hr
  refine VW_seq ?_
  refine VW_region ?_
  refine VOps_cons rfl rfl (V_bin rfl rfl rfl ?_)
  refine VOps_cons rfl rfl (V_assign rfl ?_)
  refine VOps_nil ?_
  refine Then_n ?_
  refine VW_condEq rfl (fun h44 => ?_) (fun h44 => ?_)
  ·
   rw [if_pos h44] at hr
   have hl4 := hl2 (by omega)
   refine VW_seq ?_
   refine VW_draw (G := (Nat × Nat)) [([], [0], []), ([], [2], []), ([1], [47], []), ([2, 1], [48], []), ([], [2], []), ([4], [50], []), ([5, 4], [51], []), ([6, 5, 4, 3, 2, 1, 0], [46, 49, 52], [0]), ([7, 6, 5, 4, 3, 2, 1, 0], [53], [0]), ([7, 6, 5, 4, 3, 2, 1, 0], [53], []), ([9, 8, 7, 6, 5, 4, 3, 2, 1, 0], [6, 54], []), ([10, 9, 8, 7, 6, 5, 4, 3, 2, 1, 0], [55], [])] [7, 10] (twoSt _ (fun x => mcells gm u stk (outV tok M.out) (allocF (argAt args 0) (argAt args 1) M).1 :: acell x.1 x.2 (argAt args 0).n.toNat :: arow (rho A) x.2 (List.replicate (argAt args 0).n.toNat (argAt args 1)) :: .cells g6 152 VT.zs152 :: .cells g4 25 (insV i).leaves :: obuf tok M.out :: arrsS (rho A) A M.heap) (fun x _ => mcells gm u stk (outV tok M.out) (allocF (argAt args 0) (argAt args 1) M).1 :: acell x.1 x.2 (argAt args 0).n.toNat :: arow (rho A) x.2 (List.replicate (argAt args 0).n.toNat (argAt args 1)) :: .cells g6 152 [.int 3, .int 0, .sl 4 none [], .ptr x.1 0] :: .cells g4 25 (insV i).leaves :: obuf tok M.out :: arrsS (rho A) A M.heap)) [7] [7, 46, 47, 48, 49, 50, 51, 52, 53, 54, 55] rfl VT.mix (by kernel_rfl) (by kernel_rfl) ?_
   refine DrawP_consL (acc' := [_]) (eqRes _) (goodS rfl rfl ⟨(fun γ => Needs_f (by kernel_rfl) (fun r0 h0 => Needs_nil (vopT rfl (V_move h0 ⟨rfl, rfl⟩)))), trivial⟩) rfl ?_
   refine DrawP_consL (acc' := [_, _]) (eqRes _) (goodS rfl rfl ⟨(fun γ => Needs_f (by kernel_rfl) (fun r2 h2 => Needs_nil (vopT rfl (V_move h2 ⟨rfl, rfl⟩)))), trivial⟩) rfl ?_
   refine DrawP_consL (acc' := [_, _, _]) (epRes _) (goodS rfl rfl ⟨(fun γ => Needs_w 1 (by kernel_rfl) rfl (fun r47 h47 => Needs_nil (vopT rfl (V_indexAddr (el := valX (rho A) (argAt args 0)) VT.sl145 h47 rfl (by omega) (get_arg (by omega)) (fun a48 => ⟨⟨_, rfl⟩, rfl⟩))))), trivial⟩) rfl ?_
   refine DrawP_consL (acc' := [_, _, _, _]) (eqRes _) (goodS rfl rfl ⟨(fun γ => Needs_w 2 (by kernel_rfl) rfl (fun r48 h48 => Needs_nil (epE h48 (fun a_48 e48 => vopT rfl (V_load_ep_agg VT.ty152 e48 rfl ⟨rfl, rfl⟩))))), trivial⟩) rfl ?_
   refine DrawP_consL (acc' := [_, _, _, _, _]) (eqRes _) (goodS rfl rfl ⟨(fun γ => Needs_f (by kernel_rfl) (fun r2 h2 => Needs_nil (vopT rfl (V_move h2 ⟨rfl, rfl⟩)))), trivial⟩) rfl ?_
   refine DrawP_consL (acc' := [_, _, _, _, _, _]) (epRes _) (goodS rfl rfl ⟨(fun γ => Needs_w 4 (by kernel_rfl) rfl (fun r50 h50 => Needs_nil (vopT rfl (V_indexAddr (el := valX (rho A) (argAt args 1)) VT.sl145 h50 rfl (by omega) (get_arg (by omega)) (fun a51 => ⟨⟨_, rfl⟩, rfl⟩))))), trivial⟩) rfl ?_
   refine DrawP_consL (acc' := [_, _, _, _, _, _, _]) (eqRes _) (goodS rfl rfl ⟨(fun γ => Needs_w 5 (by kernel_rfl) rfl (fun r51 h51 => Needs_nil (epE h51 (fun a_51 e51 => vopT rfl (V_load_ep_agg VT.ty152 e51 rfl ⟨rfl, rfl⟩))))), trivial⟩) rfl ?_
   refine DrawP_consL (acc' := [_, _, _, _, _, _, _, _]) (oneRes (fun x => .tup [.agg [.int 3, .int 0, .sl 4 none [], .ptr x.1 0], .int 0])) (goodU 0 rfl (fun γ => Needs_w 0 (by kernel_rfl) rfl (fun r46 h46 => Needs_w 3 (by kernel_rfl) rfl (fun r49 h49 => Needs_w 6 (by kernel_rfl) rfl (fun r52 h52 => Needs_nil (vopT rfl (V_call [.tmp 46, .tmp 49, .tmp 52] [_] _ rfl (evs_cons h46 (evs_cons h49 (evs_cons h52 evs_nil))) VT.en122 (perm_erase (i := 2) rfl) (alloc1_c gm u stk (outV tok M.out) M (rho A) (argAt args 0) (argAt args 1) h2 h3 hnew.2) (fun r Sa h => by obtain ⟨ga, gr, h1, h2⟩ := h; subst h1 h2; exact ⟨(ga, gr), ⟨_, rfl, rfl⟩, rfl⟩)))))))) rfl ?_
   refine DrawP_consL (acc' := [_, _, _, _, _, _, _, _, _]) (oneRes (fun x => .agg [.int 3, .int 0, .sl 4 none [], .ptr x.1 0])) (goodS rfl rfl ⟨(fun γ => Needs_w 7 (by kernel_rfl) rfl (fun r53 h53 => Needs_nil (oneE h53 (fun e53 => vopT rfl (V_extract e53 rfl ⟨⟨_, rfl, rfl⟩, rfl⟩))))), trivial⟩) rfl ?_
   refine DrawP_consL (acc' := [_, _, _, _, _, _, _, _, _, _]) (eqRes _) (goodS rfl rfl ⟨(fun γ => Needs_w 7 (by kernel_rfl) rfl (fun r53 h53 => Needs_nil (oneE h53 (fun e53 => vopT rfl (V_extract e53 rfl ⟨rfl, rfl⟩))))), trivial⟩) rfl ?_
   refine DrawP_consL (acc' := [_, _, _, _, _, _, _, _, _, _, _]) anyRes (goodU 1 rfl (fun γ => Needs_f (by kernel_rfl) (fun r6 h6 => Needs_w 8 (by kernel_rfl) rfl (fun r54 h54 => Needs_nil (oneE h54 (fun e54 => vopT rfl (V_store_agg 3 VT.ty152 h6 e54 rfl rfl rfl ⟨default, trivial, rfl⟩))))))) rfl ?_
   refine DrawP_consL (acc' := [_, _, _, _, _, _, _, _, _, _, _, _]) (eqRes _) (goodS rfl rfl ⟨(fun γ => Needs_w 9 (by kernel_rfl) rfl (fun r55 h55 => Needs_nil (vopT rfl (V_assign h55 ⟨rfl, rfl⟩)))), trivial⟩) rfl ?_
   refine DrawP_nil (fun γ => Needs_w 11 (by kernel_rfl) rfl (fun r7 h7 => Needs_nil ?_))
   have e7 : r7 = some _ := h7
   subst e7
   clear h7
   refine Then_n ?_
   refine VW_ret ?_
   refine InBlock_r (Then_r (VRet_many rfl rfl (.cons (.agg (i := 3) VT.ty152 rfl rfl rfl) (.cons (.tmp rfl) (.nil))) ?_))
   have hn2 := allocF_new (fill := argAt args 1) hnew.2
   have he : valX (rho (A ++ [γ 0])) (.mk 3 0 [] (some M.heap.length)) = .agg [.int 3, .int 0, .sl 4 none [], .ptr (γ 0).1 0] := by rw [valX, Val.arr, arrV, ← hA, rho_new]; rfl
   have hx : arrsS (rho (A ++ [γ 0])) (A ++ [γ 0]) (M.heap ++ [List.replicate (argAt args 0).n.toNat (argAt args 1)]) = arrsS (rho A) A M.heap ++ [acell (γ 0).1 (γ 0).2 (argAt args 0).n.toNat, arow (rho A) (γ 0).2 (List.replicate (argAt args 0).n.toNat (argAt args 1))] := by rw [arrsS_snoc _ _ _ _ _ hA, ← arrsS_ext (rho_ext A [γ 0]) A fun l hl => by rw [hA]; exact (hH l hl).2]; rw [List.length_replicate, arow, arow, ← rowV_ext (rho_ext A [γ 0]) fun v hv => by rw [hA, (List.mem_replicate.1 hv).2]; exact argAt_ok hok 1]
   rw [hr]
   refine ⟨_, Drops.keep ⟨[_, _], List.perm_append_comm (l₁ := [_, _])⟩, A ++ [γ 0], tok, ⟨_, rfl⟩, ?_, ?_, ?_⟩
   · rw [hn2, List.length_append, hA, List.length_append]; rfl
   · rw [hn2]; dsimp only; rw [he]; rfl
   · rw [allocF_out, hn2]; dsimp only; rw [hx]; rfl
  · exact absurd hnew.1 h44


set_option maxRecDepth 100000 in
set_option maxHeartbeats 16000000 in
theorem effect0_c (gm : Nat) (u : SUnit) (stk : V) (tok : Tok) (M : Mach) (A : List (Nat × Nat)) (nf : Nat) (i : SIns) (args : List Val) (hA : A.length = M.heap.length) (hok : ∀ a ∈ args, okV nf M.heap.length a = true) (hH : ∀ l ∈ M.heap, l.length ≤ 1024 ∧ ∀ v ∈ l, okV nf M.heap.length v = true) (h2 : 0 ≤ M.left) (h3 : M.left ≤ 1000000) (ho : M.out.length ≤ 1000) (hl1 : 1 ≤ args.length) (hl2 : i.op ≠ 15 ∧ i.op ≠ 17 → 2 ≤ args.length) (hl3 : i.op = 20 → 3 ≤ args.length) (hop : elemJ i.op [15, 16, 17, 18, 19, 20] = true) (hnew : i.op = 16 → allocNew (argAt args 0) M = false) : VCalls Try.prog 115 [.ptr gm 0, insV i, valsX (rho A) args] (mcells gm u stk (outV tok M.out) M :: obuf tok M.out :: arrsS (rho A) A M.heap) fun r S' => ∃ A' tok', (∃ B, A' = A ++ B) ∧ A'.length = (effectF i args M).1.heap.length ∧ r = .tup [valX (rho A') (effectF i args M).2.1, .int (effectF i args M).2.2] ∧ S' = mcells gm u stk (outV tok' (effectF i args M).1.out) (effectF i args M).1 :: obuf tok' (effectF i args M).1.out :: arrsS (rho A') A' (effectF i args M).1.heap := by
 refine VCalls_drops ?_
 have hr := effectF.eq_def i args M
 have hop2 : i.op = 15 ∨ i.op = 16 ∨ i.op = 17 ∨ i.op = 18 ∨ i.op = 19 ∨ i.op = 20 := by simpa [elemJ] using hop
 refine V_start (nt := 137) Try.func115 rfl rfl rfl ?_
 refine VW_seq ?_
 refine VW_region ?_
 refine VOps_cons rfl rfl (V_box rfl rfl (fun g4 => ?_))
 refine VOps_cons rfl rfl (V_alloc VT.zr152 _ rfl rfl (fun g6 => ?_))
 refine VOps_cons rfl rfl (V_assign rfl ?_)
 refine VOps_nil ?_
 refine Then_n ?_
 refine VW_seq ?_
 refine VW_seq ?_
 refine VW_region ?_
 refine VOps_cons rfl rfl (V_fieldAddr VT.fa25_1 rfl ?_)
 refine VOps_cons rfl rfl (V_load 1 VT.ty3 rfl rfl rfl ?_)
 refine VOps_nil ?_
 refine Then_n ?_
 refine VW_block ?_
 refine VW_seq ?_
 refine VW_region ?_
 refine VOps_cons rfl rfl (V_bin rfl rfl rfl ?_)
 refine VOps_cons rfl rfl (V_assign rfl ?_)
 refine VOps_nil ?_
 refine Then_n ?_
 refine VW_condEq rfl (fun h12 => ?_) (fun h12 => ?_)
 ·
  rw [if_pos h12] at hr
  refine VW_seq ?_
  refine VW_seq ?_
  refine VW_region ?_
  refine VOps_cons rfl rfl (V_move rfl ?_)
  refine VOps_cons rfl rfl (V_indexAddr (el := valX (rho A) (argAt args 0)) VT.sl145 rfl rfl (by omega) (get_arg (by omega)) (fun a15 => ?_))
  refine VOps_cons rfl rfl (V_fieldAddr_ep VT.fa152_0 rfl rfl ?_)
  refine VOps_cons rfl rfl (V_load_ep VT.ty3 rfl rfl ?_)
  refine VOps_cons rfl rfl (V_bin rfl rfl rfl ?_)
  refine VOps_nil ?_
  refine Then_n ?_
  refine VW_condNe rfl (fun h18 => ?_) (fun h18 => ?_)
  ·
   rw [if_pos h18] at hr
   refine VW_seq ?_
   refine VW_region ?_
   refine VOps_cons rfl rfl (VOp_as (V_build [] [] VT.st152 rfl rfl rfl rfl ⟨rfl, rfl⟩) ((le_val (rho A) 0 0)) ?_)
   refine VOps_cons rfl rfl (V_store_agg 0 VT.ty152 rfl rfl rfl rfl rfl ?_)
   refine VOps_cons rfl rfl (V_assign rfl ?_)
   refine VOps_nil ?_
   refine Then_n ?_
   refine VW_ret ?_
   refine Then_r (InBlock_r (Then_r (VRet_many rfl rfl (.cons (.agg (i := 0) VT.ty152 rfl rfl rfl) (.cons (.tmp rfl) (.nil))) ?_)))
   rw [hr]
   exact ⟨_, (Drops.drop (Drops.drop (Drops.keep (Drops.keep (Drops.refl _))))), A, tok, ⟨[], (List.append_nil _).symm⟩, hA, rfl, rfl⟩
  ·
   rw [if_neg (by omega)] at hr
   refine VW_skip ?_
   refine Then_n ?_
   refine VW_seq ?_
   refine VW_seq ?_
   refine VW_region ?_
   refine VOps_cons rfl rfl (V_move rfl ?_)
   refine VOps_cons rfl rfl (V_nilCheck rfl ?_)
   refine VOps_cons rfl rfl (V_fieldAddr VT.fa119_5 rfl ?_)
   refine VOps_cons rfl rfl (V_fieldAddr VT.fa42_0 rfl ?_)
   refine VOps_cons rfl rfl (V_load 2 VT.ty23 rfl rfl rfl ?_)
   refine VOps_cons rfl rfl (V_lenN (n := M.out.length) Try.underlying23 rfl (by simp) (fun hl25 => ?_))
   refine VOps_cons rfl rfl (V_bin rfl rfl rfl ?_)
   refine VOps_nil ?_
   refine Then_n ?_
   refine VW_condEq rfl (fun h26 => ?_) (fun h26 => ?_)
   ·
    rw [if_pos h26] at hr
    refine VW_seq ?_
    refine VW_region ?_
    refine VOps_cons rfl rfl (VOp_as (V_build [] [] VT.st152 rfl rfl rfl rfl ⟨rfl, rfl⟩) ((le_val (rho A) 0 0)) ?_)
    refine VOps_cons rfl rfl (V_store_agg 0 VT.ty152 rfl rfl rfl rfl rfl ?_)
    refine VOps_cons rfl rfl (V_assign rfl ?_)
    refine VOps_nil ?_
    refine Then_n ?_
    refine VW_ret ?_
    refine Then_r (InBlock_r (Then_r (VRet_many rfl rfl (.cons (.agg (i := 0) VT.ty152 rfl rfl rfl) (.cons (.tmp rfl) (.nil))) ?_)))
    rw [hr]
    exact ⟨_, (Drops.drop (Drops.drop (Drops.keep (Drops.keep (Drops.refl _))))), A, tok, ⟨[], (List.append_nil _).symm⟩, hA, rfl, rfl⟩
   ·
    rw [if_neg h26] at hr
    refine VW_skip ?_
    refine Then_n ?_
    refine VW_seq ?_
    refine VW_draw (G := Tok) [([], [0], []), ([], [0], []), ([1], [29], []), ([2, 1], [30], []), ([3, 2, 1], [31], []), ([4, 3, 2, 1], [32], []), ([], [2], []), ([6], [34], []), ([7, 6], [35], []), ([8, 7, 6], [36], []), ([9, 8, 7, 6], [37], []), ([10, 9, 8, 7, 6, 5, 4, 3, 2, 1], [33, 38], [0]), ([11, 10, 9, 8, 7, 6, 5, 4, 3, 2, 1, 0], [28], []), ([12, 11, 10, 9, 8, 7, 6, 5, 4, 3, 2, 1, 0], [40], []), ([13, 12, 11, 10, 9, 8, 7, 6, 5, 4, 3, 2, 1, 0], [41], []), ([14, 13, 12, 11, 10, 9, 8, 7, 6, 5, 4, 3, 2, 1, 0], [42, 39], [])] [11, 15] (twoSt _ (fun x => .cells g6 152 VT.zs152 :: .cells g4 25 (insV i).leaves :: mcells gm u stk (outV tok M.out) M :: .buf x 3 1 (M.out.map V.int ++ [V.int (argAt args 0).n]).length :: arrsS (rho A) A M.heap) (fun x _ => .cells g6 152 VT.zs152 :: .cells g4 25 (insV i).leaves :: mcells gm u stk (.sl 1 (some x) (M.out.map V.int ++ [V.int (argAt args 0).n])) M :: .buf x 3 1 (M.out.map V.int ++ [V.int (argAt args 0).n]).length :: arrsS (rho A) A M.heap)) [] [28, 29, 30, 31, 32, 33, 34, 35, 36, 37, 38, 39, 40, 41, 42] rfl VT.mix (by kernel_rfl) (by kernel_rfl) ?_
    refine DrawP_consL (acc' := [_]) (eqRes _) (goodS rfl rfl ⟨(fun γ => Needs_f (by kernel_rfl) (fun r0 h0 => Needs_nil (vopT rfl (V_move h0 ⟨rfl, rfl⟩)))), (fun γ => Needs_f (by kernel_rfl) (fun r0 h0 => Needs_nil (vopT rfl (V_move h0 ⟨rfl, rfl⟩)))), trivial⟩) rfl ?_
    refine DrawP_consL (acc' := [_, _]) (eqRes _) (goodS rfl rfl ⟨(fun γ => Needs_f (by kernel_rfl) (fun r0 h0 => Needs_nil (vopT rfl (V_move h0 ⟨rfl, rfl⟩)))), trivial⟩) rfl ?_
    refine DrawP_consL (acc' := [_, _, _]) (eqRes _) (goodS rfl rfl ⟨(fun γ => Needs_w 1 (by kernel_rfl) rfl (fun r29 h29 => Needs_nil (vopT rfl (V_nilCheck h29 ⟨rfl, rfl⟩)))), trivial⟩) rfl ?_
    refine DrawP_consL (acc' := [_, _, _, _]) (eqRes _) (goodS rfl rfl ⟨(fun γ => Needs_w 2 (by kernel_rfl) rfl (fun r30 h30 => Needs_nil (vopT rfl (V_fieldAddr VT.fa119_5 h30 ⟨rfl, rfl⟩)))), trivial⟩) rfl ?_
    refine DrawP_consL (acc' := [_, _, _, _, _]) (eqRes _) (goodS rfl rfl ⟨(fun γ => Needs_w 3 (by kernel_rfl) rfl (fun r31 h31 => Needs_nil (vopT rfl (V_fieldAddr VT.fa42_0 h31 ⟨rfl, rfl⟩)))), trivial⟩) rfl ?_
    refine DrawP_consL (acc' := [_, _, _, _, _, _]) (eqRes _) (goodS rfl rfl ⟨(fun γ => Needs_w 4 (by kernel_rfl) rfl (fun r32 h32 => Needs_nil (vopT rfl (V_load 2 VT.ty23 h32 rfl rfl ⟨rfl, rfl⟩)))), trivial⟩) rfl ?_
    refine DrawP_consL (acc' := [_, _, _, _, _, _, _]) (eqRes _) (goodS rfl rfl ⟨(fun γ => Needs_f (by kernel_rfl) (fun r2 h2 => Needs_nil (vopT rfl (V_move h2 ⟨rfl, rfl⟩)))), trivial⟩) rfl ?_
    refine DrawP_consL (acc' := [_, _, _, _, _, _, _, _]) (epRes _) (goodS rfl rfl ⟨(fun γ => Needs_w 6 (by kernel_rfl) rfl (fun r34 h34 => Needs_nil (vopT rfl (V_indexAddr (el := valX (rho A) (argAt args 0)) VT.sl145 h34 rfl (by omega) (get_arg (by omega)) (fun a35 => ⟨⟨_, rfl⟩, rfl⟩))))), trivial⟩) rfl ?_
    refine DrawP_consL (acc' := [_, _, _, _, _, _, _, _, _]) (epRes _) (goodS rfl rfl ⟨(fun γ => Needs_w 7 (by kernel_rfl) rfl (fun r35 h35 => Needs_nil (epE h35 (fun a_35 e35 => vopT rfl (V_fieldAddr_ep VT.fa152_1 e35 rfl ⟨⟨_, rfl⟩, rfl⟩))))), trivial⟩) rfl ?_
    refine DrawP_consL (acc' := [_, _, _, _, _, _, _, _, _, _]) (eqRes _) (goodS rfl rfl ⟨(fun γ => Needs_w 8 (by kernel_rfl) rfl (fun r36 h36 => Needs_nil (epE h36 (fun a_36 e36 => vopT rfl (V_load_ep VT.ty3 e36 rfl ⟨rfl, rfl⟩))))), trivial⟩) rfl ?_
    refine DrawP_consL (acc' := [_, _, _, _, _, _, _, _, _, _, _]) (eqRes _) (goodS rfl rfl ⟨(fun γ => Needs_w 9 (by kernel_rfl) rfl (fun r37 h37 => Needs_nil (vopT rfl (V_lit [.tmp 37] VT.sl23 rfl rfl rfl (evs_cons h37 evs_nil) rfl ⟨rfl, rfl⟩)))), trivial⟩) rfl ?_
    refine DrawP_consL (acc' := [_, _, _, _, _, _, _, _, _, _, _, _]) (oneRes (fun x => .sl 1 (some x) (M.out.map V.int ++ [V.int (argAt args 0).n]))) (goodU 0 rfl (fun γ => Needs_w 5 (by kernel_rfl) rfl (fun r33 h33 => Needs_w 10 (by kernel_rfl) rfl (fun r38 h38 => Needs_nil (vopT rfl (V_appendN 3 _ VT.sl23 h33 h38 rfl (by simp) (by simp; omega) (fun t39 => ⟨t39, ⟨t39, rfl, rfl⟩, rfl⟩))))))) rfl ?_
    refine DrawP_consL (acc' := [_, _, _, _, _, _, _, _, _, _, _, _, _]) (eqRes _) (goodS rfl rfl ⟨(fun γ => Needs_w 0 (by kernel_rfl) rfl (fun r28 h28 => Needs_nil (vopT rfl (V_nilCheck h28 ⟨rfl, rfl⟩)))), trivial⟩) rfl ?_
    refine DrawP_consL (acc' := [_, _, _, _, _, _, _, _, _, _, _, _, _, _]) (eqRes _) (goodS rfl rfl ⟨(fun γ => Needs_w 12 (by kernel_rfl) rfl (fun r40 h40 => Needs_nil (vopT rfl (V_fieldAddr VT.fa119_5 h40 ⟨rfl, rfl⟩)))), trivial⟩) rfl ?_
    refine DrawP_consL (acc' := [_, _, _, _, _, _, _, _, _, _, _, _, _, _, _]) (eqRes _) (goodS rfl rfl ⟨(fun γ => Needs_w 13 (by kernel_rfl) rfl (fun r41 h41 => Needs_nil (vopT rfl (V_fieldAddr VT.fa42_0 h41 ⟨rfl, rfl⟩)))), trivial⟩) rfl ?_
    refine DrawP_consL (acc' := [_, _, _, _, _, _, _, _, _, _, _, _, _, _, _, _]) anyRes (goodU 1 rfl (fun γ => Needs_w 14 (by kernel_rfl) rfl (fun r42 h42 => Needs_w 11 (by kernel_rfl) rfl (fun r39 h39 => Needs_nil (oneE h39 (fun e39 => vopT rfl (V_store 2 VT.ty23 h42 e39 rfl rfl rfl ⟨default, trivial, rfl⟩))))))) rfl ?_
    refine DrawP_nil (fun γ => Needs_nil ?_)
    refine Then_n ?_
    refine VW_seq ?_
    refine VW_region ?_
    refine VOps_cons rfl rfl (V_callP [.const (.int .i64 (0))] rfl rfl VT.en110 (wordOf_c (rho A) _) ?_)
    refine VOps_cons rfl rfl (V_store_agg 0 VT.ty152 rfl rfl rfl rfl rfl ?_)
    refine VOps_cons rfl rfl (V_assign rfl ?_)
    refine VOps_nil ?_
    refine Then_n ?_
    refine VW_ret ?_
    refine InBlock_r (Then_r (VRet_many rfl rfl (.cons (.agg (i := 0) VT.ty152 rfl rfl rfl) (.cons (.tmp rfl) (.nil))) ?_))
    rw [hr]
    refine ⟨_, (Drops.drop (Drops.drop (Drops.keep (Drops.keep (Drops.refl _))))), A, γ 0, ⟨[], (List.append_nil _).symm⟩, hA, rfl, ?_⟩
    simp [outV, obuf, List.map_append]
 ·
  rw [if_neg h12] at hr
  refine VW_seq ?_
  refine VW_region ?_
  refine VOps_cons rfl rfl (V_bin rfl rfl rfl ?_)
  refine VOps_cons rfl rfl (V_assign rfl ?_)
  refine VOps_nil ?_
  refine Then_n ?_
  refine VW_condEq rfl (fun h44 => ?_) (fun h44 => ?_)
  ·
   rw [if_pos h44] at hr
   have hl4 := hl2 (by omega)
   have hnw := hnew h44
   refine VW_seq ?_
   refine VW_draw (G := Unit) [([], [0], []), ([], [2], []), ([1], [47], []), ([2, 1], [48], []), ([], [2], []), ([4], [50], []), ([5, 4], [51], []), ([6, 5, 4, 3, 2, 1, 0], [46, 49, 52], []), ([7, 6, 5, 4, 3, 2, 1, 0], [53], []), ([7, 6, 5, 4, 3, 2, 1, 0], [53], []), ([9, 8, 7, 6, 5, 4, 3, 2, 1, 0], [6, 54], []), ([10, 9, 8, 7, 6, 5, 4, 3, 2, 1, 0], [55], [])] [7, 10] (twoSt _ (fun _ => mcells gm u stk (outV tok M.out) (allocF (argAt args 0) (argAt args 1) M).1 :: .cells g6 152 VT.zs152 :: .cells g4 25 (insV i).leaves :: obuf tok M.out :: arrsS (rho A) A M.heap) (fun _ _ => mcells gm u stk (outV tok M.out) (allocF (argAt args 0) (argAt args 1) M).1 :: .cells g6 152 (valX (rho A) (allocF (argAt args 0) (argAt args 1) M).2.1).leaves :: .cells g4 25 (insV i).leaves :: obuf tok M.out :: arrsS (rho A) A M.heap)) [7] [7, 46, 47, 48, 49, 50, 51, 52, 53, 54, 55] rfl VT.mix (by kernel_rfl) (by kernel_rfl) ?_
   refine DrawP_consL (acc' := [_]) (eqRes _) (goodS rfl rfl ⟨(fun γ => Needs_f (by kernel_rfl) (fun r0 h0 => Needs_nil (vopT rfl (V_move h0 ⟨rfl, rfl⟩)))), trivial⟩) rfl ?_
   refine DrawP_consL (acc' := [_, _]) (eqRes _) (goodS rfl rfl ⟨(fun γ => Needs_f (by kernel_rfl) (fun r2 h2 => Needs_nil (vopT rfl (V_move h2 ⟨rfl, rfl⟩)))), trivial⟩) rfl ?_
   refine DrawP_consL (acc' := [_, _, _]) (epRes _) (goodS rfl rfl ⟨(fun γ => Needs_w 1 (by kernel_rfl) rfl (fun r47 h47 => Needs_nil (vopT rfl (V_indexAddr (el := valX (rho A) (argAt args 0)) VT.sl145 h47 rfl (by omega) (get_arg (by omega)) (fun a48 => ⟨⟨_, rfl⟩, rfl⟩))))), trivial⟩) rfl ?_
   refine DrawP_consL (acc' := [_, _, _, _]) (eqRes _) (goodS rfl rfl ⟨(fun γ => Needs_w 2 (by kernel_rfl) rfl (fun r48 h48 => Needs_nil (epE h48 (fun a_48 e48 => vopT rfl (V_load_ep_agg VT.ty152 e48 rfl ⟨rfl, rfl⟩))))), trivial⟩) rfl ?_
   refine DrawP_consL (acc' := [_, _, _, _, _]) (eqRes _) (goodS rfl rfl ⟨(fun γ => Needs_f (by kernel_rfl) (fun r2 h2 => Needs_nil (vopT rfl (V_move h2 ⟨rfl, rfl⟩)))), trivial⟩) rfl ?_
   refine DrawP_consL (acc' := [_, _, _, _, _, _]) (epRes _) (goodS rfl rfl ⟨(fun γ => Needs_w 4 (by kernel_rfl) rfl (fun r50 h50 => Needs_nil (vopT rfl (V_indexAddr (el := valX (rho A) (argAt args 1)) VT.sl145 h50 rfl (by omega) (get_arg (by omega)) (fun a51 => ⟨⟨_, rfl⟩, rfl⟩))))), trivial⟩) rfl ?_
   refine DrawP_consL (acc' := [_, _, _, _, _, _, _]) (eqRes _) (goodS rfl rfl ⟨(fun γ => Needs_w 5 (by kernel_rfl) rfl (fun r51 h51 => Needs_nil (epE h51 (fun a_51 e51 => vopT rfl (V_load_ep_agg VT.ty152 e51 rfl ⟨rfl, rfl⟩))))), trivial⟩) rfl ?_
   refine DrawP_consL (acc' := [_, _, _, _, _, _, _, _]) (eqRes (.tup [valX (rho A) (allocF (argAt args 0) (argAt args 1) M).2.1, .int (allocF (argAt args 0) (argAt args 1) M).2.2])) (goodU 0 rfl (fun γ => Needs_w 0 (by kernel_rfl) rfl (fun r46 h46 => Needs_w 3 (by kernel_rfl) rfl (fun r49 h49 => Needs_w 6 (by kernel_rfl) rfl (fun r52 h52 => Needs_nil (vopT rfl (V_call [.tmp 46, .tmp 49, .tmp 52] [_] _ rfl (evs_cons h46 (evs_cons h49 (evs_cons h52 evs_nil))) VT.en122 (perm_erase (i := 2) rfl) (alloc0_c gm u stk (outV tok M.out) M (rho A) (argAt args 0) (argAt args 1) h2 h3 hnw) (fun r Sa h => by obtain ⟨h1, h2⟩ := h; subst h1 h2; exact ⟨(), rfl, rfl⟩)))))))) rfl ?_
   refine DrawP_consL (acc' := [_, _, _, _, _, _, _, _, _]) (eqRes _) (goodS rfl rfl ⟨(fun γ => Needs_w 7 (by kernel_rfl) rfl (fun r53 h53 => Needs_nil (vopT rfl (V_extract h53 rfl ⟨rfl, rfl⟩)))), trivial⟩) rfl ?_
   refine DrawP_consL (acc' := [_, _, _, _, _, _, _, _, _, _]) (eqRes _) (goodS rfl rfl ⟨(fun γ => Needs_w 7 (by kernel_rfl) rfl (fun r53 h53 => Needs_nil (vopT rfl (V_extract h53 rfl ⟨rfl, rfl⟩)))), trivial⟩) rfl ?_
   refine DrawP_consL (acc' := [_, _, _, _, _, _, _, _, _, _, _]) anyRes (goodU 1 rfl (fun γ => Needs_f (by kernel_rfl) (fun r6 h6 => Needs_w 8 (by kernel_rfl) rfl (fun r54 h54 => Needs_nil (vopT rfl (V_store_agg 1 VT.ty152 h6 h54 rfl rfl rfl ⟨(), trivial, rfl⟩)))))) rfl ?_
   refine DrawP_consL (acc' := [_, _, _, _, _, _, _, _, _, _, _, _]) (eqRes _) (goodS rfl rfl ⟨(fun γ => Needs_w 9 (by kernel_rfl) rfl (fun r55 h55 => Needs_nil (vopT rfl (V_assign h55 ⟨rfl, rfl⟩)))), trivial⟩) rfl ?_
   refine DrawP_nil (fun γ => Needs_w 11 (by kernel_rfl) rfl (fun r7 h7 => Needs_nil ?_))
   have e7 : r7 = some _ := h7
   subst e7
   clear h7
   refine Then_n ?_
   refine VW_ret ?_
   refine InBlock_r (Then_r (VRet_many rfl rfl (.cons (.agg (i := 1) VT.ty152 rfl rfl rfl) (.cons (.tmp rfl) (.nil))) ?_))
   rw [hr]
   refine ⟨_, (Drops.keep (Drops.drop (Drops.drop (Drops.keep (Drops.refl _))))), A, tok, ⟨[], (List.append_nil _).symm⟩, ?_, rfl, ?_⟩
   · rw [allocF_old hnw]; exact hA
   · rw [allocF_out, allocF_old hnw]
  ·
   rw [if_neg h44] at hr
   refine VW_seq ?_
   refine VW_region ?_
   refine VOps_cons rfl rfl (V_bin rfl rfl rfl ?_)
   refine VOps_cons rfl rfl (V_assign rfl ?_)
   refine VOps_nil ?_
   refine Then_n ?_
   refine VW_condEq rfl (fun h56 => ?_) (fun h56 => ?_)
   ·
    rw [if_pos h56] at hr
    have hl4 := hl2 (by omega)
    refine VW_seq ?_
    refine VW_seq ?_
    refine VW_region ?_
    refine VOps_cons rfl rfl (V_move rfl ?_)
    refine VOps_cons rfl rfl (V_callP [.tmp 58, .const (.int .i64 (0))] rfl rfl VT.en111 (all_c (rho A) args _) ?_)
    refine VOps_cons rfl rfl (V_not rfl ?_)
    refine VOps_nil ?_
    refine Then_n ?_
    refine VW_condN rfl (fun h60 => ?_) (fun h60 => ?_)
    ·
     rw [if_pos h60] at hr
     refine VW_seq ?_
     refine VW_region ?_
     refine VOps_cons rfl rfl (VOp_as (V_build [] [] VT.st152 rfl rfl rfl rfl ⟨rfl, rfl⟩) ((le_val (rho A) 0 0)) ?_)
     refine VOps_cons rfl rfl (V_store_agg 0 VT.ty152 rfl rfl rfl rfl rfl ?_)
     refine VOps_cons rfl rfl (V_assign rfl ?_)
     refine VOps_nil ?_
     refine Then_n ?_
     refine VW_ret ?_
     refine Then_r (InBlock_r (Then_r (VRet_many rfl rfl (.cons (.agg (i := 0) VT.ty152 rfl rfl rfl) (.cons (.tmp rfl) (.nil))) ?_)))
     rw [hr]
     exact ⟨_, (Drops.drop (Drops.drop (Drops.keep (Drops.keep (Drops.refl _))))), A, tok, ⟨[], (List.append_nil _).symm⟩, hA, rfl, rfl⟩
    ·
     rw [if_neg (by rw [h60]; decide)] at hr
     refine VW_skip ?_
     refine Then_n ?_
     refine VW_seq ?_
     refine VW_seq ?_
     rcases Bool.eq_false_or_eq_true (decide ((argAt args 0).n < 0)) with hq66 | hq66
     ·
      refine VW_draw (G := Unit) [([], [2], []), ([0], [62], []), ([1, 0], [63], []), ([2, 1, 0], [64], []), ([3, 2, 1, 0], [65], []), ([4, 3, 2, 1, 0], [66], []), ([5, 4, 3, 2, 1, 0], [2, 67], []), ([6, 5, 4, 3, 2, 1, 0], [68, 67], []), ([7, 6, 5, 4, 3, 2, 1, 0], [69, 67], []), ([8, 7, 6, 5, 4, 3, 2, 1, 0], [70, 67], []), ([5, 4, 3, 2, 1, 0], [2, 67], []), ([10, 5, 4, 3, 2, 1, 0], [72, 67], []), ([11, 10, 5, 4, 3, 2, 1, 0], [73, 67], []), ([12, 11, 10, 5, 4, 3, 2, 1, 0], [74, 67], []), ([13, 12, 11, 10, 9, 8, 7, 6, 5, 4, 3, 2, 1, 0], [71, 75, 67], []), ([14, 13, 12, 11, 10, 9, 8, 7, 6, 5, 4, 3, 2, 1, 0], [67, 76], [])] [] (constSt _) [77] [62, 63, 64, 65, 66, 67, 68, 69, 70, 71, 72, 73, 74, 75, 76, 77] rfl VT.mix (by kernel_rfl) (by kernel_rfl) ?_
      refine DrawP_consL (acc' := [_]) (eqRes _) (good0 (fun γ => Needs_f (by kernel_rfl) (fun r2 h2 => Needs_nil (vopT rfl (V_move h2 ⟨rfl, rfl⟩))))) rfl ?_
      refine DrawP_consL (acc' := [_, _]) (epRes _) (good0 (fun γ => Needs_w 0 (by kernel_rfl) rfl (fun r62 h62 => Needs_nil (vopT rfl (V_indexAddr (el := valX (rho A) (argAt args 0)) VT.sl145 h62 rfl (by omega) (get_arg (by omega)) (fun a63 => ⟨⟨_, rfl⟩, rfl⟩)))))) rfl ?_
      refine DrawP_consL (acc' := [_, _, _]) (epRes _) (good0 (fun γ => Needs_w 1 (by kernel_rfl) rfl (fun r63 h63 => Needs_nil (epE h63 (fun a_63 e63 => vopT rfl (V_fieldAddr_ep VT.fa152_1 e63 rfl ⟨⟨_, rfl⟩, rfl⟩)))))) rfl ?_
      refine DrawP_consL (acc' := [_, _, _, _]) (eqRes _) (good0 (fun γ => Needs_w 2 (by kernel_rfl) rfl (fun r64 h64 => Needs_nil (epE h64 (fun a_64 e64 => vopT rfl (V_load_ep VT.ty3 e64 rfl ⟨rfl, rfl⟩)))))) rfl ?_
      refine DrawP_consL (acc' := [_, _, _, _, _]) (eqRes _) (good0 (fun γ => Needs_w 3 (by kernel_rfl) rfl (fun r65 h65 => Needs_nil (vopT rfl (V_bin h65 rfl rfl ⟨rfl, rfl⟩))))) rfl ?_
      refine DrawP_consL (acc' := [_, _, _, _, _, _]) (eqRes _) (good0 (fun γ => Needs_w 4 (by kernel_rfl) rfl (fun r66 h66 => Needs_nil (vopT rfl (V_move h66 ⟨rfl, rfl⟩))))) rfl ?_
      refine DrawP_consL (acc' := [_, _, _, _, _, _, _]) (eqRes _) (good0 (fun γ => Needs_f (by kernel_rfl) (fun r2 h2 => Needs_w 5 (by kernel_rfl) rfl (fun r67 h67 => Needs_nil (vopF (skip_of rfl rfl h67 hq66) ⟨rfl, rfl⟩))))) rfl ?_
      refine DrawP_consL (acc' := [_, _, _, _, _, _, _, _]) (eqRes _) (good0 (fun γ => Needs_w 6 (by kernel_rfl) rfl (fun r68 h68 => Needs_w 5 (by kernel_rfl) rfl (fun r67 h67 => Needs_nil (vopF (skip_of rfl rfl h67 hq66) ⟨rfl, rfl⟩))))) rfl ?_
      refine DrawP_consL (acc' := [_, _, _, _, _, _, _, _, _]) (eqRes _) (good0 (fun γ => Needs_w 7 (by kernel_rfl) rfl (fun r69 h69 => Needs_w 5 (by kernel_rfl) rfl (fun r67 h67 => Needs_nil (vopF (skip_of rfl rfl h67 hq66) ⟨rfl, rfl⟩))))) rfl ?_
      refine DrawP_consL (acc' := [_, _, _, _, _, _, _, _, _, _]) (eqRes _) (good0 (fun γ => Needs_w 8 (by kernel_rfl) rfl (fun r70 h70 => Needs_w 5 (by kernel_rfl) rfl (fun r67 h67 => Needs_nil (vopF (skip_of rfl rfl h67 hq66) ⟨rfl, rfl⟩))))) rfl ?_
      refine DrawP_consL (acc' := [_, _, _, _, _, _, _, _, _, _, _]) (eqRes _) (good0 (fun γ => Needs_f (by kernel_rfl) (fun r2 h2 => Needs_w 5 (by kernel_rfl) rfl (fun r67 h67 => Needs_nil (vopF (skip_of rfl rfl h67 hq66) ⟨rfl, rfl⟩))))) rfl ?_
      refine DrawP_consL (acc' := [_, _, _, _, _, _, _, _, _, _, _, _]) (eqRes _) (good0 (fun γ => Needs_w 10 (by kernel_rfl) rfl (fun r72 h72 => Needs_w 5 (by kernel_rfl) rfl (fun r67 h67 => Needs_nil (vopF (skip_of rfl rfl h67 hq66) ⟨rfl, rfl⟩))))) rfl ?_
      refine DrawP_consL (acc' := [_, _, _, _, _, _, _, _, _, _, _, _, _]) (eqRes _) (good0 (fun γ => Needs_w 11 (by kernel_rfl) rfl (fun r73 h73 => Needs_w 5 (by kernel_rfl) rfl (fun r67 h67 => Needs_nil (vopF (skip_of rfl rfl h67 hq66) ⟨rfl, rfl⟩))))) rfl ?_
      refine DrawP_consL (acc' := [_, _, _, _, _, _, _, _, _, _, _, _, _, _]) (eqRes _) (good0 (fun γ => Needs_w 12 (by kernel_rfl) rfl (fun r74 h74 => Needs_w 5 (by kernel_rfl) rfl (fun r67 h67 => Needs_nil (vopF (skip_of rfl rfl h67 hq66) ⟨rfl, rfl⟩))))) rfl ?_
      refine DrawP_consL (acc' := [_, _, _, _, _, _, _, _, _, _, _, _, _, _, _]) (eqRes _) (good0 (fun γ => Needs_w 9 (by kernel_rfl) rfl (fun r71 h71 => Needs_w 13 (by kernel_rfl) rfl (fun r75 h75 => Needs_w 5 (by kernel_rfl) rfl (fun r67 h67 => Needs_nil (vopF (skip_of rfl rfl h67 hq66) ⟨rfl, rfl⟩)))))) rfl ?_
      refine DrawP_consL (acc' := [_, _, _, _, _, _, _, _, _, _, _, _, _, _, _, _]) (eqRes _) (good0 (fun γ => Needs_w 5 (by kernel_rfl) rfl (fun r67 h67 => Needs_w 14 (by kernel_rfl) rfl (fun r76 h76 => Needs_nil (vopT rfl (V_pickT h67 hq66 rfl ⟨rfl, rfl⟩)))))) rfl ?_
      refine DrawP_nil (fun γ => Needs_w 15 (by kernel_rfl) rfl (fun r77 h77 => Needs_nil ?_))
      have e77 : r77 = some _ := h77
      subst e77
      clear h77
      refine Then_n ?_
      refine VW_condT rfl rfl ?_
      rw [if_pos (.inl (decT hq66))] at hr
      refine VW_seq ?_
      refine VW_region ?_
      refine VOps_cons rfl rfl (VOp_as (V_build [] [] VT.st152 rfl rfl rfl rfl ⟨rfl, rfl⟩) ((le_val (rho A) 0 0)) ?_)
      refine VOps_cons rfl rfl (V_store_agg 0 VT.ty152 rfl rfl rfl rfl rfl ?_)
      refine VOps_cons rfl rfl (V_assign rfl ?_)
      refine VOps_nil ?_
      refine Then_n ?_
      refine VW_ret ?_
      refine Then_r (InBlock_r (Then_r (VRet_many rfl rfl (.cons (.agg (i := 0) VT.ty152 rfl rfl rfl) (.cons (.tmp rfl) (.nil))) ?_)))
      rw [hr]
      exact ⟨_, (Drops.drop (Drops.drop (Drops.keep (Drops.keep (Drops.refl _))))), A, tok, ⟨[], (List.append_nil _).symm⟩, hA, rfl, rfl⟩
     ·
      refine VW_draw (G := Unit) [([], [2], []), ([0], [62], []), ([1, 0], [63], []), ([2, 1, 0], [64], []), ([3, 2, 1, 0], [65], []), ([4, 3, 2, 1, 0], [66], []), ([5, 4, 3, 2, 1, 0], [2, 67], []), ([6, 5, 4, 3, 2, 1, 0], [68, 67], []), ([7, 6, 5, 4, 3, 2, 1, 0], [69, 67], []), ([8, 7, 6, 5, 4, 3, 2, 1, 0], [70, 67], []), ([5, 4, 3, 2, 1, 0], [2, 67], []), ([10, 5, 4, 3, 2, 1, 0], [72, 67], []), ([11, 10, 5, 4, 3, 2, 1, 0], [73, 67], []), ([12, 11, 10, 5, 4, 3, 2, 1, 0], [74, 67], []), ([13, 12, 11, 10, 9, 8, 7, 6, 5, 4, 3, 2, 1, 0], [71, 75, 67], []), ([14, 13, 12, 11, 10, 9, 8, 7, 6, 5, 4, 3, 2, 1, 0], [67, 76], [])] [] (constSt _) [77] [62, 63, 64, 65, 66, 67, 68, 69, 70, 71, 72, 73, 74, 75, 76, 77] rfl VT.mix (by kernel_rfl) (by kernel_rfl) ?_
      refine DrawP_consL (acc' := [_]) (eqRes _) (good0 (fun γ => Needs_f (by kernel_rfl) (fun r2 h2 => Needs_nil (vopT rfl (V_move h2 ⟨rfl, rfl⟩))))) rfl ?_
      refine DrawP_consL (acc' := [_, _]) (epRes _) (good0 (fun γ => Needs_w 0 (by kernel_rfl) rfl (fun r62 h62 => Needs_nil (vopT rfl (V_indexAddr (el := valX (rho A) (argAt args 0)) VT.sl145 h62 rfl (by omega) (get_arg (by omega)) (fun a63 => ⟨⟨_, rfl⟩, rfl⟩)))))) rfl ?_
      refine DrawP_consL (acc' := [_, _, _]) (epRes _) (good0 (fun γ => Needs_w 1 (by kernel_rfl) rfl (fun r63 h63 => Needs_nil (epE h63 (fun a_63 e63 => vopT rfl (V_fieldAddr_ep VT.fa152_1 e63 rfl ⟨⟨_, rfl⟩, rfl⟩)))))) rfl ?_
      refine DrawP_consL (acc' := [_, _, _, _]) (eqRes _) (good0 (fun γ => Needs_w 2 (by kernel_rfl) rfl (fun r64 h64 => Needs_nil (epE h64 (fun a_64 e64 => vopT rfl (V_load_ep VT.ty3 e64 rfl ⟨rfl, rfl⟩)))))) rfl ?_
      refine DrawP_consL (acc' := [_, _, _, _, _]) (eqRes _) (good0 (fun γ => Needs_w 3 (by kernel_rfl) rfl (fun r65 h65 => Needs_nil (vopT rfl (V_bin h65 rfl rfl ⟨rfl, rfl⟩))))) rfl ?_
      refine DrawP_consL (acc' := [_, _, _, _, _, _]) (eqRes _) (good0 (fun γ => Needs_w 4 (by kernel_rfl) rfl (fun r66 h66 => Needs_nil (vopT rfl (V_move h66 ⟨rfl, rfl⟩))))) rfl ?_
      refine DrawP_consL (acc' := [_, _, _, _, _, _, _]) (eqRes _) (good0 (fun γ => Needs_f (by kernel_rfl) (fun r2 h2 => Needs_w 5 (by kernel_rfl) rfl (fun r67 h67 => Needs_nil (vopT (want_of rfl rfl h67 hq66) (V_move h2 ⟨rfl, rfl⟩)))))) rfl ?_
      refine DrawP_consL (acc' := [_, _, _, _, _, _, _, _]) (epRes _) (good0 (fun γ => Needs_w 6 (by kernel_rfl) rfl (fun r68 h68 => Needs_w 5 (by kernel_rfl) rfl (fun r67 h67 => Needs_nil (vopT (want_of rfl rfl h67 hq66) (V_indexAddr (el := valX (rho A) (argAt args 0)) VT.sl145 h68 rfl (by omega) (get_arg (by omega)) (fun a69 => ⟨⟨_, rfl⟩, rfl⟩))))))) rfl ?_
      refine DrawP_consL (acc' := [_, _, _, _, _, _, _, _, _]) (epRes _) (good0 (fun γ => Needs_w 7 (by kernel_rfl) rfl (fun r69 h69 => Needs_w 5 (by kernel_rfl) rfl (fun r67 h67 => Needs_nil (epE h69 (fun a_69 e69 => vopT (want_of rfl rfl h67 hq66) (V_fieldAddr_ep VT.fa152_1 e69 rfl ⟨⟨_, rfl⟩, rfl⟩))))))) rfl ?_
      refine DrawP_consL (acc' := [_, _, _, _, _, _, _, _, _, _]) (eqRes _) (good0 (fun γ => Needs_w 8 (by kernel_rfl) rfl (fun r70 h70 => Needs_w 5 (by kernel_rfl) rfl (fun r67 h67 => Needs_nil (epE h70 (fun a_70 e70 => vopT (want_of rfl rfl h67 hq66) (V_load_ep VT.ty3 e70 rfl ⟨rfl, rfl⟩))))))) rfl ?_
      refine DrawP_consL (acc' := [_, _, _, _, _, _, _, _, _, _, _]) (eqRes _) (good0 (fun γ => Needs_f (by kernel_rfl) (fun r2 h2 => Needs_w 5 (by kernel_rfl) rfl (fun r67 h67 => Needs_nil (vopT (want_of rfl rfl h67 hq66) (V_move h2 ⟨rfl, rfl⟩)))))) rfl ?_
      refine DrawP_consL (acc' := [_, _, _, _, _, _, _, _, _, _, _, _]) (epRes _) (good0 (fun γ => Needs_w 10 (by kernel_rfl) rfl (fun r72 h72 => Needs_w 5 (by kernel_rfl) rfl (fun r67 h67 => Needs_nil (vopT (want_of rfl rfl h67 hq66) (V_indexAddr (el := valX (rho A) (argAt args 1)) VT.sl145 h72 rfl (by omega) (get_arg (by omega)) (fun a73 => ⟨⟨_, rfl⟩, rfl⟩))))))) rfl ?_
      refine DrawP_consL (acc' := [_, _, _, _, _, _, _, _, _, _, _, _, _]) (epRes _) (good0 (fun γ => Needs_w 11 (by kernel_rfl) rfl (fun r73 h73 => Needs_w 5 (by kernel_rfl) rfl (fun r67 h67 => Needs_nil (epE h73 (fun a_73 e73 => vopT (want_of rfl rfl h67 hq66) (V_fieldAddr_ep VT.fa152_1 e73 rfl ⟨⟨_, rfl⟩, rfl⟩))))))) rfl ?_
      refine DrawP_consL (acc' := [_, _, _, _, _, _, _, _, _, _, _, _, _, _]) (eqRes _) (good0 (fun γ => Needs_w 12 (by kernel_rfl) rfl (fun r74 h74 => Needs_w 5 (by kernel_rfl) rfl (fun r67 h67 => Needs_nil (epE h74 (fun a_74 e74 => vopT (want_of rfl rfl h67 hq66) (V_load_ep VT.ty3 e74 rfl ⟨rfl, rfl⟩))))))) rfl ?_
      refine DrawP_consL (acc' := [_, _, _, _, _, _, _, _, _, _, _, _, _, _, _]) (eqRes _) (good0 (fun γ => Needs_w 9 (by kernel_rfl) rfl (fun r71 h71 => Needs_w 13 (by kernel_rfl) rfl (fun r75 h75 => Needs_w 5 (by kernel_rfl) rfl (fun r67 h67 => Needs_nil (vopT (want_of rfl rfl h67 hq66) (V_bin h71 h75 rfl ⟨rfl, rfl⟩))))))) rfl ?_
      refine DrawP_consL (acc' := [_, _, _, _, _, _, _, _, _, _, _, _, _, _, _, _]) (eqRes _) (good0 (fun γ => Needs_w 5 (by kernel_rfl) rfl (fun r67 h67 => Needs_w 14 (by kernel_rfl) rfl (fun r76 h76 => Needs_nil (vopT rfl (V_pickF h67 hq66 h76 ⟨rfl, rfl⟩)))))) rfl ?_
      refine DrawP_nil (fun γ => Needs_w 15 (by kernel_rfl) rfl (fun r77 h77 => Needs_nil ?_))
      have e77 : r77 = some _ := h77
      subst e77
      clear h77
      refine Then_n ?_
      refine VW_condP rfl (fun h77 => ?_) (fun h77 => ?_)
      ·
       rw [if_pos (.inr h77)] at hr
       refine VW_seq ?_
       refine VW_region ?_
       refine VOps_cons rfl rfl (VOp_as (V_build [] [] VT.st152 rfl rfl rfl rfl ⟨rfl, rfl⟩) ((le_val (rho A) 0 0)) ?_)
       refine VOps_cons rfl rfl (V_store_agg 0 VT.ty152 rfl rfl rfl rfl rfl ?_)
       refine VOps_cons rfl rfl (V_assign rfl ?_)
       refine VOps_nil ?_
       refine Then_n ?_
       refine VW_ret ?_
       refine Then_r (InBlock_r (Then_r (VRet_many rfl rfl (.cons (.agg (i := 0) VT.ty152 rfl rfl rfl) (.cons (.tmp rfl) (.nil))) ?_)))
       rw [hr]
       exact ⟨_, (Drops.drop (Drops.drop (Drops.keep (Drops.keep (Drops.refl _))))), A, tok, ⟨[], (List.append_nil _).symm⟩, hA, rfl, rfl⟩
      ·
       have hx66 := decF hq66
       rw [if_neg (by omega)] at hr
       refine VW_skip ?_
       refine Then_n ?_
       refine VW_seq ?_
       refine VW_region ?_
       refine VOps_cons rfl rfl (V_callP [.const (.int .i64 (0))] rfl rfl VT.en110 (wordOf_c (rho A) _) ?_)
       refine VOps_cons rfl rfl (V_store_agg 0 VT.ty152 rfl rfl rfl rfl rfl ?_)
       refine VOps_cons rfl rfl (V_assign rfl ?_)
       refine VOps_nil ?_
       refine Then_n ?_
       refine VW_ret ?_
       refine InBlock_r (Then_r (VRet_many rfl rfl (.cons (.agg (i := 0) VT.ty152 rfl rfl rfl) (.cons (.tmp rfl) (.nil))) ?_))
       rw [hr]
       exact ⟨_, (Drops.drop (Drops.drop (Drops.keep (Drops.keep (Drops.refl _))))), A, tok, ⟨[], (List.append_nil _).symm⟩, hA, rfl, rfl⟩
   ·
    rw [if_neg h56] at hr
    refine VW_skip ?_
    refine InBlock_n (Then_n ?_)
    refine VW_seq ?_
    refine VW_seq ?_
    refine VW_region ?_
    refine VOps_cons rfl rfl (V_move rfl ?_)
    refine VOps_cons rfl rfl (V_indexAddr (el := valX (rho A) (argAt args 0)) VT.sl145 rfl rfl (by omega) (get_arg (by omega)) (fun a81 => ?_))
    refine VOps_cons rfl rfl (V_fieldAddr_ep VT.fa152_0 rfl rfl ?_)
    refine VOps_cons rfl rfl (V_load_ep VT.ty3 rfl rfl ?_)
    refine VOps_cons rfl rfl (V_bin rfl rfl rfl ?_)
    refine VOps_cons rfl rfl (V_move rfl ?_)
    refine VOps_split (q := 85) rfl (fun hq85 => ?_) (fun hq85 => ?_)
    ·
     have hx85 := bneT hq85
     refine VOps_skipU (.inl (skip_of rfl rfl rfl hq85)) rfl ?_
     refine VOps_skipU (.inl (skip_of rfl rfl rfl hq85)) rfl ?_
     refine VOps_skipU (.inl (skip_of rfl rfl rfl hq85)) rfl ?_
     refine VOps_skipU (.inl (skip_of rfl rfl rfl hq85)) rfl ?_
     refine VOps_skipU (.inr ⟨_, _, 89, rfl, rfl, rfl⟩) rfl ?_
     refine VOps_skipU (.inr ⟨_, _, 89, rfl, rfl, rfl⟩) rfl ?_
     refine VOps_skipU (.inr ⟨_, _, 89, rfl, rfl, rfl⟩) rfl ?_
     refine VOps_skipU (.inr ⟨_, _, 89, rfl, rfl, rfl⟩) rfl ?_
     refine VOps_skipU (.inr ⟨_, _, 89, rfl, rfl, rfl⟩) rfl ?_
     refine VOps_skipU (.inl (skip_of rfl rfl rfl hq85)) rfl ?_
     refine VOps_cons rfl rfl (V_pickT rfl hq85 rfl ?_)
     refine VOps_nil ?_
     refine Then_n ?_
     refine VW_condT rfl rfl ?_
     rw [if_pos (.inl hx85)] at hr
     refine VW_seq ?_
     refine VW_region ?_
     refine VOps_cons rfl rfl (VOp_as (V_build [] [] VT.st152 rfl rfl rfl rfl ⟨rfl, rfl⟩) ((le_val (rho A) 0 0)) ?_)
     refine VOps_cons rfl rfl (V_store_agg 0 VT.ty152 rfl rfl rfl rfl rfl ?_)
     refine VOps_cons rfl rfl (V_assign rfl ?_)
     refine VOps_nil ?_
     refine Then_n ?_
     refine VW_ret ?_
     refine Then_r (VRet_many rfl rfl (.cons (.agg (i := 0) VT.ty152 rfl rfl rfl) (.cons (.tmp rfl) (.nil))) ?_)
     rw [hr]
     exact ⟨_, (Drops.drop (Drops.drop (Drops.keep (Drops.keep (Drops.refl _))))), A, tok, ⟨[], (List.append_nil _).symm⟩, hA, rfl, rfl⟩
    ·
     have hx85 := bneF hq85
     refine VOps_cons (want_of rfl rfl rfl hq85) rfl (V_fieldAddr VT.fa25_1 rfl ?_)
     refine VOps_cons (want_of rfl rfl rfl hq85) rfl (V_load 1 VT.ty3 rfl rfl rfl ?_)
     refine VOps_cons (want_of rfl rfl rfl hq85) rfl (V_bin rfl rfl rfl ?_)
     refine VOps_cons (want_of rfl rfl rfl hq85) rfl (V_move rfl ?_)
     refine VOps_split (q := 89) rfl (fun hq89 => ?_) (fun hq89 => ?_)
     ·
      have hx89 := bneT hq89
      have hl4 := hl2 (by omega)
      refine VOps_cons (want_of rfl rfl rfl hq89) rfl (V_move rfl ?_)
      refine VOps_cons (want_of rfl rfl rfl hq89) rfl (V_indexAddr (el := valX (rho A) (argAt args 1)) VT.sl145 rfl rfl (by omega) (get_arg (by omega)) (fun a91 => ?_))
      refine VOps_cons (want_of rfl rfl rfl hq89) rfl (V_fieldAddr_ep VT.fa152_0 rfl rfl ?_)
      refine VOps_cons (want_of rfl rfl rfl hq89) rfl (V_load_ep VT.ty3 rfl rfl ?_)
      refine VOps_cons (want_of rfl rfl rfl hq89) rfl (V_bin rfl rfl rfl ?_)
      refine VOps_cons (want_of rfl rfl rfl hq85) rfl (V_pickT rfl hq89 rfl ?_)
      refine VOps_cons rfl rfl (V_pickF rfl hq85 rfl ?_)
      refine VOps_nil ?_
      refine Then_n ?_
      refine VW_condNe rfl (fun h96 => ?_) (fun h96 => ?_)
      ·
       rw [if_pos (.inr ⟨hx89, h96⟩)] at hr
       refine VW_seq ?_
       refine VW_region ?_
       refine VOps_cons rfl rfl (VOp_as (V_build [] [] VT.st152 rfl rfl rfl rfl ⟨rfl, rfl⟩) ((le_val (rho A) 0 0)) ?_)
       refine VOps_cons rfl rfl (V_store_agg 0 VT.ty152 rfl rfl rfl rfl rfl ?_)
       refine VOps_cons rfl rfl (V_assign rfl ?_)
       refine VOps_nil ?_
       refine Then_n ?_
       refine VW_ret ?_
       refine Then_r (VRet_many rfl rfl (.cons (.agg (i := 0) VT.ty152 rfl rfl rfl) (.cons (.tmp rfl) (.nil))) ?_)
       rw [hr]
       exact ⟨_, (Drops.drop (Drops.drop (Drops.keep (Drops.keep (Drops.refl _))))), A, tok, ⟨[], (List.append_nil _).symm⟩, hA, rfl, rfl⟩
      ·
       have hkw : (argAt args 1).kind = 0 := by omega
       rw [if_neg (by omega)] at hr
       refine VW_skip ?_
       refine Then_n ?_
       obtain ⟨k, hk, hkl⟩ := arr_of (argAt_ok hok 0) hx85
       obtain ⟨x, hx⟩ : ∃ x, A[k]? = some x := ⟨_, List.getElem?_eq_getElem (by omega)⟩
       obtain ⟨l, hl⟩ : ∃ l, M.heap[k]? = some l := ⟨_, List.getElem?_eq_getElem hkl⟩
       have hll := (hH l (List.mem_of_getElem? hl)).1
       have hao : arrOf M (argAt args 0) = l := by rw [arrOf, hk]; simp [hl]
       rw [hao] at hr
       have hrk : arrV (rho A) (argAt args 0).arr = .ptr x.1 0 := by rw [hk, arrV, rho, hx]; rfl
       have hsa : ∀ L, setArr M (argAt args 0) L = { M with heap := M.heap.set k L } := fun L => by unfold setArr; rw [hk]
       refine VW_perm (((((arrsS_perm (rho A) hx hl).cons _).cons _).cons _).cons _) ?_
       refine VW_seq ?_
       refine VW_region ?_
       refine VOps_cons rfl rfl (V_move rfl ?_)
       refine VOps_cons rfl rfl (V_indexAddr (el := valX (rho A) (argAt args 0)) VT.sl145 rfl rfl (by omega) (get_arg (by omega)) (fun a99 => ?_))
       refine VOps_cons rfl rfl (V_fieldAddr_ep VT.fa152_3 rfl rfl ?_)
       refine VOps_cons rfl rfl (VOp_as (V_load_ep VT.ty150 rfl (arrV_leaf _ _) ⟨rfl, rfl⟩) ((V.le.of_eq hrk)) ?_)
       refine VOps_cons rfl rfl (V_nilCheck rfl ?_)
       refine VOps_cons rfl rfl (V_load 4 VT.ty145 rfl rfl rfl ?_)
       refine VOps_cons rfl rfl (V_assign rfl ?_)
       refine VOps_nil ?_
       refine Then_n ?_
       refine VW_seq ?_
       refine VW_seq ?_
       refine VW_region ?_
       refine VOps_cons rfl rfl (V_fieldAddr VT.fa25_1 rfl ?_)
       refine VOps_cons rfl rfl (V_load 1 VT.ty3 rfl rfl rfl ?_)
       refine VOps_cons rfl rfl (V_bin rfl rfl rfl ?_)
       refine VOps_nil ?_
       refine Then_n ?_
       refine VW_condEq rfl (fun h106 => ?_) (fun h106 => ?_)
       ·
        rw [if_pos h106] at hr
        refine VW_seq ?_
        refine VW_region ?_
        refine VOps_cons rfl rfl (V_move rfl ?_)
        refine VOps_cons rfl rfl (V_len_raw Try.underlying145 rfl ?_)
        refine VOps_cons rfl rfl (V_callP [.tmp 108] rfl rfl VT.en110 (wordOf_c (rho A) _) ?_)
        refine VOps_cons rfl rfl (V_store_agg 0 VT.ty152 rfl rfl rfl rfl rfl ?_)
        refine VOps_cons rfl rfl (V_assign rfl ?_)
        refine VOps_nil ?_
        refine Then_n ?_
        refine VW_ret ?_
        refine Then_r (VRet_many rfl rfl (.cons (.agg (i := 0) VT.ty152 rfl rfl rfl) (.cons (.tmp rfl) (.nil))) ?_)
        rw [hr]
        exact ⟨_, Drops.drop (Drops.drop (Drops.keep (Drops.keep (Drops.of_perm (arrsS_perm (rho A) hx hl).symm)))), A, tok, ⟨[], (List.append_nil _).symm⟩, hA, rfl, rfl⟩
       ·
        rw [if_neg h106] at hr
        have hl4 : 2 ≤ args.length := hl2 (by omega)
        refine VW_skip ?_
        refine Then_n ?_
        refine VW_seq ?_
        refine VW_region ?_
        refine VOps_cons rfl rfl (V_move rfl ?_)
        refine VOps_cons rfl rfl (V_indexAddr (el := valX (rho A) (argAt args 1)) VT.sl145 rfl rfl (by omega) (get_arg (by omega)) (fun a111 => ?_))
        refine VOps_cons rfl rfl (V_fieldAddr_ep VT.fa152_1 rfl rfl ?_)
        refine VOps_cons rfl rfl (V_load_ep VT.ty3 rfl rfl ?_)
        refine VOps_cons rfl rfl (V_assign rfl ?_)
        refine VOps_nil ?_
        refine Then_n ?_
        refine VW_seq ?_
        refine VW_seq ?_
        refine VW_region ?_
        refine VOps_cons rfl rfl (V_move rfl ?_)
        refine VOps_cons rfl rfl (V_bin rfl rfl rfl ?_)
        refine VOps_cons rfl rfl (V_move rfl ?_)
        refine VOps_split (q := 116) rfl (fun hq116 => ?_) (fun hq116 => ?_)
        ·
         have hx116 := decT hq116
         refine VOps_skipU (.inl (skip_of rfl rfl rfl hq116)) rfl ?_
         refine VOps_skipU (.inl (skip_of rfl rfl rfl hq116)) rfl ?_
         refine VOps_skipU (.inl (skip_of rfl rfl rfl hq116)) rfl ?_
         refine VOps_skipU (.inl (skip_of rfl rfl rfl hq116)) rfl ?_
         refine VOps_cons rfl rfl (V_pickT rfl hq116 rfl ?_)
         refine VOps_nil ?_
         refine Then_n ?_
         refine VW_condT rfl rfl ?_
         rw [if_pos (.inl hx116)] at hr
         refine VW_seq ?_
         refine VW_region ?_
         refine VOps_cons rfl rfl (VOp_as (V_build [] [] VT.st152 rfl rfl rfl rfl ⟨rfl, rfl⟩) ((le_val (rho A) 0 0)) ?_)
         refine VOps_cons rfl rfl (V_store_agg 0 VT.ty152 rfl rfl rfl rfl rfl ?_)
         refine VOps_cons rfl rfl (V_assign rfl ?_)
         refine VOps_nil ?_
         refine Then_n ?_
         refine VW_ret ?_
         refine Then_r (VRet_many rfl rfl (.cons (.agg (i := 0) VT.ty152 rfl rfl rfl) (.cons (.tmp rfl) (.nil))) ?_)
         rw [hr]
         exact ⟨_, Drops.drop (Drops.drop (Drops.keep (Drops.keep (Drops.of_perm (arrsS_perm (rho A) hx hl).symm)))), A, tok, ⟨[], (List.append_nil _).symm⟩, hA, rfl, rfl⟩
        ·
         have hx116 := decF hq116
         refine VOps_cons (want_of rfl rfl rfl hq116) rfl (V_move rfl ?_)
         refine VOps_cons (want_of rfl rfl rfl hq116) rfl (V_move rfl ?_)
         refine VOps_cons (want_of rfl rfl rfl hq116) rfl (V_len_raw Try.underlying145 rfl ?_)
         refine VOps_cons (want_of rfl rfl rfl hq116) rfl (V_bin rfl rfl rfl ?_)
         refine VOps_cons rfl rfl (V_pickF rfl hq116 rfl ?_)
         refine VOps_nil ?_
         refine Then_n ?_
         refine VW_condP rfl (fun h121 => ?_) (fun h121 => ?_)
         ·
          rw [if_pos (.inr (by omega))] at hr
          refine VW_seq ?_
          refine VW_region ?_
          refine VOps_cons rfl rfl (VOp_as (V_build [] [] VT.st152 rfl rfl rfl rfl ⟨rfl, rfl⟩) ((le_val (rho A) 0 0)) ?_)
          refine VOps_cons rfl rfl (V_store_agg 0 VT.ty152 rfl rfl rfl rfl rfl ?_)
          refine VOps_cons rfl rfl (V_assign rfl ?_)
          refine VOps_nil ?_
          refine Then_n ?_
          refine VW_ret ?_
          refine Then_r (VRet_many rfl rfl (.cons (.agg (i := 0) VT.ty152 rfl rfl rfl) (.cons (.tmp rfl) (.nil))) ?_)
          rw [hr]
          exact ⟨_, Drops.drop (Drops.drop (Drops.keep (Drops.keep (Drops.of_perm (arrsS_perm (rho A) hx hl).symm)))), A, tok, ⟨[], (List.append_nil _).symm⟩, hA, rfl, rfl⟩
         ·
          rw [if_neg (by omega)] at hr
          refine VW_skip ?_
          refine Then_n ?_
          refine VW_seq ?_
          refine VW_seq ?_
          refine VW_region ?_
          refine VOps_cons rfl rfl (V_fieldAddr VT.fa25_1 rfl ?_)
          refine VOps_cons rfl rfl (V_load 1 VT.ty3 rfl rfl rfl ?_)
          refine VOps_cons rfl rfl (V_bin rfl rfl rfl ?_)
          refine VOps_nil ?_
          refine Then_n ?_
          refine VW_condEq rfl (fun h125 => ?_) (fun h125 => ?_)
          ·
           rw [if_pos h125] at hr
           refine VW_seq ?_
           refine VW_region ?_
           refine VOps_cons rfl rfl (V_move rfl ?_)
           refine VOps_cons rfl rfl (V_move rfl ?_)
           refine VOps_cons rfl rfl (V_indexAddr_row VT.sl145 rfl rfl (by omega) (by omega) ?_)
           refine VOps_cons rfl rfl (V_load_elem 5 (argAt args 1).n.toNat VT.ty152 rfl (by simp) rfl (rowV_nil _ _) (vals_fit _ _) (get_argX (by omega)) ?_)
           refine VOps_cons rfl rfl (V_store_agg 0 VT.ty152 rfl rfl rfl rfl rfl ?_)
           refine VOps_cons rfl rfl (V_assign rfl ?_)
           refine VOps_nil ?_
           refine Then_n ?_
           refine VW_ret ?_
           refine Then_r (VRet_many rfl rfl (.cons (.agg (i := 0) VT.ty152 rfl rfl rfl) (.cons (.tmp rfl) (.nil))) ?_)
           rw [hr]
           exact ⟨_, Drops.drop (Drops.drop (Drops.keep (Drops.keep (Drops.of_perm (arrsS_perm (rho A) hx hl).symm)))), A, tok, ⟨[], (List.append_nil _).symm⟩, hA, rfl, rfl⟩
          ·
           rw [if_neg h125] at hr
           have hl5 := hl3 (by omega)
           refine VW_skip ?_
           refine Then_n ?_
           refine VW_seq ?_
           refine VW_region ?_
           refine VOps_cons rfl rfl (V_move rfl ?_)
           refine VOps_cons rfl rfl (V_move rfl ?_)
           refine VOps_cons rfl rfl (V_move rfl ?_)
           refine VOps_cons rfl rfl (V_indexAddr (el := valX (rho A) (argAt args 2)) VT.sl145 rfl rfl (by omega) (get_arg (by omega)) (fun a133 => ?_))
           refine VOps_cons rfl rfl (V_load_ep_agg VT.ty152 rfl rfl ?_)
           refine VOps_cons rfl rfl (V_indexAddr_row VT.sl145 rfl rfl (by omega) (by omega) ?_)
           refine VOps_cons rfl rfl (V_store_elem 5 (argAt args 1).n.toNat VT.ty152 rfl (by simp) rfl rfl rfl (rowV_nil _ _) (vals_fit _ _) (by rw [List.length_map]; omega) ?_)
           refine VOps_nil ?_
           refine Then_n ?_
           refine VW_seq ?_
           refine VW_region ?_
           refine VOps_cons rfl rfl (V_callP [.const (.int .i64 (0))] rfl rfl VT.en110 (wordOf_c (rho A) _) ?_)
           refine VOps_cons rfl rfl (V_store_agg 0 VT.ty152 rfl rfl rfl rfl rfl ?_)
           refine VOps_cons rfl rfl (V_assign rfl ?_)
           refine VOps_nil ?_
           refine Then_n ?_
           refine VW_ret ?_
           refine VRet_many rfl rfl (.cons (.agg (i := 0) VT.ty152 rfl rfl rfl) (.cons (.tmp rfl) (.nil))) ?_
           rw [hsa] at hr
           rw [hr]
           refine ⟨_, Drops.drop (Drops.drop (Drops.keep (Drops.keep ((Drops.keep (Drops.keepE (congrArg (Own.cells x.2 152) (rowV_set (rho A) l (argAt args 1).n.toNat (argAt args 2))) (Drops.refl _))).trans (Drops.of_perm (arrsS_set (rho A) hx hl (by simp))))))), A, tok, ⟨[], (List.append_nil _).symm⟩, ?_, rfl, rfl⟩
           simp [hA]
     ·
      have hx89 := bneF hq89
      refine VOps_skipU (.inl (skip_of rfl rfl rfl hq89)) rfl ?_
      refine VOps_skipU (.inl (skip_of rfl rfl rfl hq89)) rfl ?_
      refine VOps_skipU (.inl (skip_of rfl rfl rfl hq89)) rfl ?_
      refine VOps_skipU (.inl (skip_of rfl rfl rfl hq89)) rfl ?_
      refine VOps_skipU (.inl (skip_of rfl rfl rfl hq89)) rfl ?_
      refine VOps_cons (want_of rfl rfl rfl hq85) rfl (V_pickF rfl hq89 rfl ?_)
      refine VOps_cons rfl rfl (V_pickF rfl hq85 rfl ?_)
      refine VOps_nil ?_
      refine Then_n ?_
      refine VW_condF rfl rfl ?_
      rw [if_neg (by omega)] at hr
      refine VW_skip ?_
      refine Then_n ?_
      obtain ⟨k, hk, hkl⟩ := arr_of (argAt_ok hok 0) hx85
      obtain ⟨x, hx⟩ : ∃ x, A[k]? = some x := ⟨_, List.getElem?_eq_getElem (by omega)⟩
      obtain ⟨l, hl⟩ : ∃ l, M.heap[k]? = some l := ⟨_, List.getElem?_eq_getElem hkl⟩
      have hll := (hH l (List.mem_of_getElem? hl)).1
      have hao : arrOf M (argAt args 0) = l := by rw [arrOf, hk]; simp [hl]
      rw [hao] at hr
      have hrk : arrV (rho A) (argAt args 0).arr = .ptr x.1 0 := by rw [hk, arrV, rho, hx]; rfl
      have hsa : ∀ L, setArr M (argAt args 0) L = { M with heap := M.heap.set k L } := fun L => by unfold setArr; rw [hk]
      refine VW_perm (((((arrsS_perm (rho A) hx hl).cons _).cons _).cons _).cons _) ?_
      refine VW_seq ?_
      refine VW_region ?_
      refine VOps_cons rfl rfl (V_move rfl ?_)
      refine VOps_cons rfl rfl (V_indexAddr (el := valX (rho A) (argAt args 0)) VT.sl145 rfl rfl (by omega) (get_arg (by omega)) (fun a99 => ?_))
      refine VOps_cons rfl rfl (V_fieldAddr_ep VT.fa152_3 rfl rfl ?_)
      refine VOps_cons rfl rfl (VOp_as (V_load_ep VT.ty150 rfl (arrV_leaf _ _) ⟨rfl, rfl⟩) ((V.le.of_eq hrk)) ?_)
      refine VOps_cons rfl rfl (V_nilCheck rfl ?_)
      refine VOps_cons rfl rfl (V_load 4 VT.ty145 rfl rfl rfl ?_)
      refine VOps_cons rfl rfl (V_assign rfl ?_)
      refine VOps_nil ?_
      refine Then_n ?_
      refine VW_seq ?_
      refine VW_seq ?_
      refine VW_region ?_
      refine VOps_cons rfl rfl (V_fieldAddr VT.fa25_1 rfl ?_)
      refine VOps_cons rfl rfl (V_load 1 VT.ty3 rfl rfl rfl ?_)
      refine VOps_cons rfl rfl (V_bin rfl rfl rfl ?_)
      refine VOps_nil ?_
      refine Then_n ?_
      refine VW_condEq rfl (fun h106 => ?_) (fun h106 => ?_)
      ·
       rw [if_pos h106] at hr
       refine VW_seq ?_
       refine VW_region ?_
       refine VOps_cons rfl rfl (V_move rfl ?_)
       refine VOps_cons rfl rfl (V_len_raw Try.underlying145 rfl ?_)
       refine VOps_cons rfl rfl (V_callP [.tmp 108] rfl rfl VT.en110 (wordOf_c (rho A) _) ?_)
       refine VOps_cons rfl rfl (V_store_agg 0 VT.ty152 rfl rfl rfl rfl rfl ?_)
       refine VOps_cons rfl rfl (V_assign rfl ?_)
       refine VOps_nil ?_
       refine Then_n ?_
       refine VW_ret ?_
       refine Then_r (VRet_many rfl rfl (.cons (.agg (i := 0) VT.ty152 rfl rfl rfl) (.cons (.tmp rfl) (.nil))) ?_)
       rw [hr]
       exact ⟨_, Drops.drop (Drops.drop (Drops.keep (Drops.keep (Drops.of_perm (arrsS_perm (rho A) hx hl).symm)))), A, tok, ⟨[], (List.append_nil _).symm⟩, hA, rfl, rfl⟩
      ·
       rw [if_neg h106] at hr
       have hl4 : 2 ≤ args.length := hl2 (by omega)
       refine VW_skip ?_
       refine Then_n ?_
       refine VW_seq ?_
       refine VW_region ?_
       refine VOps_cons rfl rfl (V_move rfl ?_)
       refine VOps_cons rfl rfl (V_indexAddr (el := valX (rho A) (argAt args 1)) VT.sl145 rfl rfl (by omega) (get_arg (by omega)) (fun a111 => ?_))
       refine VOps_cons rfl rfl (V_fieldAddr_ep VT.fa152_1 rfl rfl ?_)
       refine VOps_cons rfl rfl (V_load_ep VT.ty3 rfl rfl ?_)
       refine VOps_cons rfl rfl (V_assign rfl ?_)
       refine VOps_nil ?_
       refine Then_n ?_
       refine VW_seq ?_
       refine VW_seq ?_
       refine VW_region ?_
       refine VOps_cons rfl rfl (V_move rfl ?_)
       refine VOps_cons rfl rfl (V_bin rfl rfl rfl ?_)
       refine VOps_cons rfl rfl (V_move rfl ?_)
       refine VOps_split (q := 116) rfl (fun hq116 => ?_) (fun hq116 => ?_)
       ·
        have hx116 := decT hq116
        refine VOps_skipU (.inl (skip_of rfl rfl rfl hq116)) rfl ?_
        refine VOps_skipU (.inl (skip_of rfl rfl rfl hq116)) rfl ?_
        refine VOps_skipU (.inl (skip_of rfl rfl rfl hq116)) rfl ?_
        refine VOps_skipU (.inl (skip_of rfl rfl rfl hq116)) rfl ?_
        refine VOps_cons rfl rfl (V_pickT rfl hq116 rfl ?_)
        refine VOps_nil ?_
        refine Then_n ?_
        refine VW_condT rfl rfl ?_
        rw [if_pos (.inl hx116)] at hr
        refine VW_seq ?_
        refine VW_region ?_
        refine VOps_cons rfl rfl (VOp_as (V_build [] [] VT.st152 rfl rfl rfl rfl ⟨rfl, rfl⟩) ((le_val (rho A) 0 0)) ?_)
        refine VOps_cons rfl rfl (V_store_agg 0 VT.ty152 rfl rfl rfl rfl rfl ?_)
        refine VOps_cons rfl rfl (V_assign rfl ?_)
        refine VOps_nil ?_
        refine Then_n ?_
        refine VW_ret ?_
        refine Then_r (VRet_many rfl rfl (.cons (.agg (i := 0) VT.ty152 rfl rfl rfl) (.cons (.tmp rfl) (.nil))) ?_)
        rw [hr]
        exact ⟨_, Drops.drop (Drops.drop (Drops.keep (Drops.keep (Drops.of_perm (arrsS_perm (rho A) hx hl).symm)))), A, tok, ⟨[], (List.append_nil _).symm⟩, hA, rfl, rfl⟩
       ·
        have hx116 := decF hq116
        refine VOps_cons (want_of rfl rfl rfl hq116) rfl (V_move rfl ?_)
        refine VOps_cons (want_of rfl rfl rfl hq116) rfl (V_move rfl ?_)
        refine VOps_cons (want_of rfl rfl rfl hq116) rfl (V_len_raw Try.underlying145 rfl ?_)
        refine VOps_cons (want_of rfl rfl rfl hq116) rfl (V_bin rfl rfl rfl ?_)
        refine VOps_cons rfl rfl (V_pickF rfl hq116 rfl ?_)
        refine VOps_nil ?_
        refine Then_n ?_
        refine VW_condP rfl (fun h121 => ?_) (fun h121 => ?_)
        ·
         rw [if_pos (.inr (by omega))] at hr
         refine VW_seq ?_
         refine VW_region ?_
         refine VOps_cons rfl rfl (VOp_as (V_build [] [] VT.st152 rfl rfl rfl rfl ⟨rfl, rfl⟩) ((le_val (rho A) 0 0)) ?_)
         refine VOps_cons rfl rfl (V_store_agg 0 VT.ty152 rfl rfl rfl rfl rfl ?_)
         refine VOps_cons rfl rfl (V_assign rfl ?_)
         refine VOps_nil ?_
         refine Then_n ?_
         refine VW_ret ?_
         refine Then_r (VRet_many rfl rfl (.cons (.agg (i := 0) VT.ty152 rfl rfl rfl) (.cons (.tmp rfl) (.nil))) ?_)
         rw [hr]
         exact ⟨_, Drops.drop (Drops.drop (Drops.keep (Drops.keep (Drops.of_perm (arrsS_perm (rho A) hx hl).symm)))), A, tok, ⟨[], (List.append_nil _).symm⟩, hA, rfl, rfl⟩
        ·
         rw [if_neg (by omega)] at hr
         refine VW_skip ?_
         refine Then_n ?_
         refine VW_seq ?_
         refine VW_seq ?_
         refine VW_region ?_
         refine VOps_cons rfl rfl (V_fieldAddr VT.fa25_1 rfl ?_)
         refine VOps_cons rfl rfl (V_load 1 VT.ty3 rfl rfl rfl ?_)
         refine VOps_cons rfl rfl (V_bin rfl rfl rfl ?_)
         refine VOps_nil ?_
         refine Then_n ?_
         refine VW_condEq rfl (fun h125 => ?_) (fun h125 => ?_)
         ·
          rw [if_pos h125] at hr
          refine VW_seq ?_
          refine VW_region ?_
          refine VOps_cons rfl rfl (V_move rfl ?_)
          refine VOps_cons rfl rfl (V_move rfl ?_)
          refine VOps_cons rfl rfl (V_indexAddr_row VT.sl145 rfl rfl (by omega) (by omega) ?_)
          refine VOps_cons rfl rfl (V_load_elem 5 (argAt args 1).n.toNat VT.ty152 rfl (by simp) rfl (rowV_nil _ _) (vals_fit _ _) (get_argX (by omega)) ?_)
          refine VOps_cons rfl rfl (V_store_agg 0 VT.ty152 rfl rfl rfl rfl rfl ?_)
          refine VOps_cons rfl rfl (V_assign rfl ?_)
          refine VOps_nil ?_
          refine Then_n ?_
          refine VW_ret ?_
          refine Then_r (VRet_many rfl rfl (.cons (.agg (i := 0) VT.ty152 rfl rfl rfl) (.cons (.tmp rfl) (.nil))) ?_)
          rw [hr]
          exact ⟨_, Drops.drop (Drops.drop (Drops.keep (Drops.keep (Drops.of_perm (arrsS_perm (rho A) hx hl).symm)))), A, tok, ⟨[], (List.append_nil _).symm⟩, hA, rfl, rfl⟩
         ·
          rw [if_neg h125] at hr
          have hl5 := hl3 (by omega)
          refine VW_skip ?_
          refine Then_n ?_
          refine VW_seq ?_
          refine VW_region ?_
          refine VOps_cons rfl rfl (V_move rfl ?_)
          refine VOps_cons rfl rfl (V_move rfl ?_)
          refine VOps_cons rfl rfl (V_move rfl ?_)
          refine VOps_cons rfl rfl (V_indexAddr (el := valX (rho A) (argAt args 2)) VT.sl145 rfl rfl (by omega) (get_arg (by omega)) (fun a133 => ?_))
          refine VOps_cons rfl rfl (V_load_ep_agg VT.ty152 rfl rfl ?_)
          refine VOps_cons rfl rfl (V_indexAddr_row VT.sl145 rfl rfl (by omega) (by omega) ?_)
          refine VOps_cons rfl rfl (V_store_elem 5 (argAt args 1).n.toNat VT.ty152 rfl (by simp) rfl rfl rfl (rowV_nil _ _) (vals_fit _ _) (by rw [List.length_map]; omega) ?_)
          refine VOps_nil ?_
          refine Then_n ?_
          refine VW_seq ?_
          refine VW_region ?_
          refine VOps_cons rfl rfl (V_callP [.const (.int .i64 (0))] rfl rfl VT.en110 (wordOf_c (rho A) _) ?_)
          refine VOps_cons rfl rfl (V_store_agg 0 VT.ty152 rfl rfl rfl rfl rfl ?_)
          refine VOps_cons rfl rfl (V_assign rfl ?_)
          refine VOps_nil ?_
          refine Then_n ?_
          refine VW_ret ?_
          refine VRet_many rfl rfl (.cons (.agg (i := 0) VT.ty152 rfl rfl rfl) (.cons (.tmp rfl) (.nil))) ?_
          rw [hsa] at hr
          rw [hr]
          refine ⟨_, Drops.drop (Drops.drop (Drops.keep (Drops.keep ((Drops.keep (Drops.keepE (congrArg (Own.cells x.2 152) (rowV_set (rho A) l (argAt args 1).n.toNat (argAt args 2))) (Drops.refl _))).trans (Drops.of_perm (arrsS_set (rho A) hx hl (by simp))))))), A, tok, ⟨[], (List.append_nil _).symm⟩, ?_, rfl, rfl⟩
          simp [hA]


theorem effect_c (gm : Nat) (u : SUnit) (stk : V) (tok : Tok) (M : Mach) (A : List (Nat × Nat)) (nf : Nat) (i : SIns) (args : List Val) (hA : A.length = M.heap.length) (hok : ∀ a ∈ args, okV nf M.heap.length a = true) (hH : ∀ l ∈ M.heap, l.length ≤ 1024 ∧ ∀ v ∈ l, okV nf M.heap.length v = true) (h2 : 0 ≤ M.left) (h3 : M.left ≤ 1000000) (ho : M.out.length ≤ 1000) (hl1 : 1 ≤ args.length) (hl2 : i.op ≠ 15 ∧ i.op ≠ 17 → 2 ≤ args.length) (hl3 : i.op = 20 → 3 ≤ args.length) (hop : elemJ i.op [15, 16, 17, 18, 19, 20] = true) : VCalls Try.prog 115 [.ptr gm 0, insV i, valsX (rho A) args] (mcells gm u stk (outV tok M.out) M :: obuf tok M.out :: arrsS (rho A) A M.heap) fun r S' => ∃ A' tok', (∃ B, A' = A ++ B) ∧ A'.length = (effectF i args M).1.heap.length ∧ r = .tup [valX (rho A') (effectF i args M).2.1, .int (effectF i args M).2.2] ∧ S' = mcells gm u stk (outV tok' (effectF i args M).1.out) (effectF i args M).1 :: obuf tok' (effectF i args M).1.out :: arrsS (rho A') A' (effectF i args M).1.heap := by
  cases h : allocNew (argAt args 0) M with
  | false => exact effect0_c gm u stk tok M A nf i args hA hok hH h2 h3 ho hl1 hl2 hl3 hop fun _ => h
  | true =>
    by_cases h16 : i.op = 16
    · exact effect1_c gm u stk tok M A nf i args hA hok hH h2 h3 ho hl1 hl2 hl3 hop ⟨h16, h⟩
    · exact effect0_c gm u stk tok M A nf i args hA hok hH h2 h3 ho hl1 hl2 hl3 hop fun h => absurd h h16

set_option maxRecDepth 100000 in
set_option maxHeartbeats 16000000 in
theorem exec_c (gm : Nat) (u : SUnit) (stk : V) (tok : Tok) (M : Mach) (A : List (Nat × Nat)) (nf : Nat) (i : SIns) (args : List Val) (hA : A.length = M.heap.length) (hok : ∀ a ∈ args, okV nf M.heap.length a = true) (hH : ∀ l ∈ M.heap, l.length ≤ 1024 ∧ ∀ v ∈ l, okV nf M.heap.length v = true) (h2 : 0 ≤ M.left) (h3 : M.left ≤ 1000000) (ho : M.out.length ≤ 1000) (hi : OpOk i args.length) : VCalls Try.prog 97 [.ptr gm 0, insV i, valsX (rho A) args] (mcells gm u stk (outV tok M.out) M :: obuf tok M.out :: arrsS (rho A) A M.heap) fun r S' => ∃ A' tok', (∃ B, A' = A ++ B) ∧ A'.length = (execF i args M).1.heap.length ∧ r = .tup [valX (rho A') (execF i args M).2.1, .int (execF i args M).2.2] ∧ S' = mcells gm u stk (outV tok' (execF i args M).1.out) (execF i args M).1 :: obuf tok' (execF i args M).1.out :: arrsS (rho A') A' (execF i args M).1.heap := by
 refine VCalls_drops ?_
 have hr := execF.eq_def i args M
 have hkn := by simpa [elemJ] using hi.known
 have ht := hi.two
 have ho1 := hi.one
 simp only [elemJ, Bool.or_false, Bool.or_eq_true, decide_eq_true_eq] at ht ho1
 have hm := hi.many
 refine V_start (nt := 82) Try.func97 rfl rfl rfl ?_
 refine VW_seq ?_
 refine VW_region ?_
 refine VOps_cons rfl rfl (V_box rfl rfl (fun g4 => ?_))
 refine VOps_cons rfl rfl (V_alloc VT.zr152 _ rfl rfl (fun g6 => ?_))
 refine VOps_cons rfl rfl (V_assign rfl ?_)
 refine VOps_nil ?_
 refine Then_n ?_
 refine VW_seq ?_
 refine VW_seq ?_
 refine VW_region ?_
 refine VOps_cons rfl rfl (V_fieldAddr VT.fa25_1 rfl ?_)
 refine VOps_cons rfl rfl (V_load 1 VT.ty3 rfl rfl rfl ?_)
 refine VOps_nil ?_
 refine Then_n ?_
 refine VW_block ?_
 refine VW_seq ?_
 refine VW_region ?_
 refine VOps_cons rfl rfl (V_bin rfl rfl rfl ?_)
 refine VOps_cons rfl rfl (V_assign rfl ?_)
 refine VOps_nil ?_
 refine Then_n ?_
 refine VW_condEq rfl (fun h10 => ?_) (fun h10 => ?_)
 ·
  rw [if_pos h10] at hr
  refine VW_seq ?_
  refine VW_region ?_
  refine VOps_cons rfl rfl (V_fieldAddr VT.fa25_2 rfl ?_)
  refine VOps_cons rfl rfl (V_load 1 VT.ty3 rfl rfl rfl ?_)
  refine VOps_cons rfl rfl (V_callP [.tmp 13] rfl rfl VT.en110 (wordOf_c (rho A) _) ?_)
  refine VOps_cons rfl rfl (V_store_agg 0 VT.ty152 rfl rfl rfl rfl rfl ?_)
  refine VOps_cons rfl rfl (V_assign rfl ?_)
  refine VOps_nil ?_
  refine Then_n ?_
  refine VW_ret ?_
  refine InBlock_r (Then_r (VRet_many rfl rfl (.cons (.agg (i := 0) VT.ty152 rfl rfl rfl) (.cons (.tmp rfl) (.nil))) ?_))
  rw [hr]
  exact ⟨_, (Drops.drop (Drops.drop (Drops.keep (Drops.keep (Drops.refl _))))), A, tok, ⟨[], (List.append_nil _).symm⟩, hA, rfl, rfl⟩
 ·
  rw [if_neg h10] at hr
  refine VW_seq ?_
  refine VW_or (q := 15) (x := 9) [(16, 1), (17, 2), (18, 3), (19, 4), (20, 5), (21, 6), (22, 7)] rfl rfl rfl ?_
  refine Then_n ?_
  refine VW_cond rfl (fun h15 => ?_) (fun h15 => ?_)
  ·
   have h15a : elemJ i.op [1, 2, 3, 4, 5, 6, 7] = true := h15
   rw [if_pos h15a] at hr
   have h15y := h15a
   simp only [elemJ, Bool.or_false, Bool.or_eq_true, decide_eq_true_eq] at h15y
   refine VW_seq ?_
   refine VW_seq ?_
   refine VW_region ?_
   refine VOps_cons rfl rfl (V_move rfl ?_)
   refine VOps_cons rfl rfl (V_callP [.tmp 23, .const (.int .i64 (0))] rfl rfl VT.en111 (all_c (rho A) args _) ?_)
   refine VOps_cons rfl rfl (V_not rfl ?_)
   refine VOps_nil ?_
   refine Then_n ?_
   refine VW_condN rfl (fun h25 => ?_) (fun h25 => ?_)
   ·
    rw [if_pos h25] at hr
    refine VW_seq ?_
    refine VW_region ?_
    refine VOps_cons rfl rfl (VOp_as (V_build [] [] VT.st152 rfl rfl rfl rfl ⟨rfl, rfl⟩) ((le_val (rho A) 0 0)) ?_)
    refine VOps_cons rfl rfl (V_store_agg 0 VT.ty152 rfl rfl rfl rfl rfl ?_)
    refine VOps_cons rfl rfl (V_assign rfl ?_)
    refine VOps_nil ?_
    refine Then_n ?_
    refine VW_ret ?_
    refine Then_r (InBlock_r (Then_r (VRet_many rfl rfl (.cons (.agg (i := 0) VT.ty152 rfl rfl rfl) (.cons (.tmp rfl) (.nil))) ?_)))
    rw [hr]
    exact ⟨_, (Drops.drop (Drops.drop (Drops.keep (Drops.keep (Drops.refl _))))), A, tok, ⟨[], (List.append_nil _).symm⟩, hA, rfl, rfl⟩
   ·
    rw [if_neg (by rw [h25]; decide)] at hr
    refine VW_skip ?_
    refine Then_n ?_
    refine VW_seq ?_
    refine VW_draw (G := Unit) [([], [4], []), ([0], [27], []), ([], [2], []), ([2], [29], []), ([3, 2], [30], []), ([4, 3, 2], [31], []), ([], [2], []), ([6], [33], []), ([7, 6], [34], []), ([8, 7, 6], [35], []), ([9, 8, 7, 6, 5, 4, 3, 2, 1, 0], [28, 32, 36], []), ([10, 9, 8, 7, 6, 5, 4, 3, 2, 1, 0], [37], []), ([10, 9, 8, 7, 6, 5, 4, 3, 2, 1, 0], [37], []), ([12, 11, 10, 9, 8, 7, 6, 5, 4, 3, 2, 1, 0], [6, 38], []), ([13, 12, 11, 10, 9, 8, 7, 6, 5, 4, 3, 2, 1, 0], [39], [])] [13] (setSt _ 0 (fun _ => .cells g6 152 (valX (rho A) (binaryF i.op (argAt args 0).n (argAt args 1).n).1).leaves)) [7] [7, 27, 28, 29, 30, 31, 32, 33, 34, 35, 36, 37, 38, 39] rfl VT.mix (by kernel_rfl) (by kernel_rfl) ?_
    refine DrawP_consL (acc' := [_]) (eqRes _) (goodS rfl rfl ⟨(fun γ => Needs_f (by kernel_rfl) (fun r4 h4 => Needs_nil (vopT rfl (V_fieldAddr VT.fa25_1 h4 ⟨rfl, rfl⟩)))), trivial⟩) rfl ?_
    refine DrawP_consL (acc' := [_, _]) (eqRes _) (goodS rfl rfl ⟨(fun γ => Needs_w 0 (by kernel_rfl) rfl (fun r27 h27 => Needs_nil (vopT rfl (V_load 1 VT.ty3 h27 rfl rfl ⟨rfl, rfl⟩)))), trivial⟩) rfl ?_
    refine DrawP_consL (acc' := [_, _, _]) (eqRes _) (goodS rfl rfl ⟨(fun γ => Needs_f (by kernel_rfl) (fun r2 h2 => Needs_nil (vopT rfl (V_move h2 ⟨rfl, rfl⟩)))), trivial⟩) rfl ?_
    refine DrawP_consL (acc' := [_, _, _, _]) (epRes _) (goodS rfl rfl ⟨(fun γ => Needs_w 2 (by kernel_rfl) rfl (fun r29 h29 => Needs_nil (vopT rfl (V_indexAddr (el := valX (rho A) (argAt args 0)) VT.sl145 h29 rfl (by omega) (get_arg (by omega)) (fun a30 => ⟨⟨_, rfl⟩, rfl⟩))))), trivial⟩) rfl ?_
    refine DrawP_consL (acc' := [_, _, _, _, _]) (epRes _) (goodS rfl rfl ⟨(fun γ => Needs_w 3 (by kernel_rfl) rfl (fun r30 h30 => Needs_nil (epE h30 (fun a_30 e30 => vopT rfl (V_fieldAddr_ep VT.fa152_1 e30 rfl ⟨⟨_, rfl⟩, rfl⟩))))), trivial⟩) rfl ?_
    refine DrawP_consL (acc' := [_, _, _, _, _, _]) (eqRes _) (goodS rfl rfl ⟨(fun γ => Needs_w 4 (by kernel_rfl) rfl (fun r31 h31 => Needs_nil (epE h31 (fun a_31 e31 => vopT rfl (V_load_ep VT.ty3 e31 rfl ⟨rfl, rfl⟩))))), trivial⟩) rfl ?_
    refine DrawP_consL (acc' := [_, _, _, _, _, _, _]) (eqRes _) (goodS rfl rfl ⟨(fun γ => Needs_f (by kernel_rfl) (fun r2 h2 => Needs_nil (vopT rfl (V_move h2 ⟨rfl, rfl⟩)))), trivial⟩) rfl ?_
    refine DrawP_consL (acc' := [_, _, _, _, _, _, _, _]) (epRes _) (goodS rfl rfl ⟨(fun γ => Needs_w 6 (by kernel_rfl) rfl (fun r33 h33 => Needs_nil (vopT rfl (V_indexAddr (el := valX (rho A) (argAt args 1)) VT.sl145 h33 rfl (by omega) (get_arg (by omega)) (fun a34 => ⟨⟨_, rfl⟩, rfl⟩))))), trivial⟩) rfl ?_
    refine DrawP_consL (acc' := [_, _, _, _, _, _, _, _, _]) (epRes _) (goodS rfl rfl ⟨(fun γ => Needs_w 7 (by kernel_rfl) rfl (fun r34 h34 => Needs_nil (epE h34 (fun a_34 e34 => vopT rfl (V_fieldAddr_ep VT.fa152_1 e34 rfl ⟨⟨_, rfl⟩, rfl⟩))))), trivial⟩) rfl ?_
    refine DrawP_consL (acc' := [_, _, _, _, _, _, _, _, _, _]) (eqRes _) (goodS rfl rfl ⟨(fun γ => Needs_w 8 (by kernel_rfl) rfl (fun r35 h35 => Needs_nil (epE h35 (fun a_35 e35 => vopT rfl (V_load_ep VT.ty3 e35 rfl ⟨rfl, rfl⟩))))), trivial⟩) rfl ?_
    refine DrawP_consL (acc' := [_, _, _, _, _, _, _, _, _, _, _]) (eqRes _) (goodS rfl rfl ⟨(fun γ => Needs_w 1 (by kernel_rfl) rfl (fun r28 h28 => Needs_w 5 (by kernel_rfl) rfl (fun r32 h32 => Needs_w 9 (by kernel_rfl) rfl (fun r36 h36 => Needs_nil (vopT rfl (V_callP [.tmp 28, .tmp 32, .tmp 36] rfl (evs_cons h28 (evs_cons h32 (evs_cons h36 evs_nil))) VT.en112 (binary_c (rho A) i.op (argAt args 0).n (argAt args 1).n) ⟨rfl, rfl⟩)))))), trivial⟩) rfl ?_
    refine DrawP_consL (acc' := [_, _, _, _, _, _, _, _, _, _, _, _]) (eqRes _) (goodS rfl rfl ⟨(fun γ => Needs_w 10 (by kernel_rfl) rfl (fun r37 h37 => Needs_nil (vopT rfl (V_extract h37 rfl ⟨rfl, rfl⟩)))), trivial⟩) rfl ?_
    refine DrawP_consL (acc' := [_, _, _, _, _, _, _, _, _, _, _, _, _]) (eqRes _) (goodS rfl rfl ⟨(fun γ => Needs_w 10 (by kernel_rfl) rfl (fun r37 h37 => Needs_nil (vopT rfl (V_extract h37 rfl ⟨rfl, rfl⟩)))), trivial⟩) rfl ?_
    refine DrawP_consL (acc' := [_, _, _, _, _, _, _, _, _, _, _, _, _, _]) anyRes (goodU1 rfl (fun γ => Needs_f (by kernel_rfl) (fun r6 h6 => Needs_w 11 (by kernel_rfl) rfl (fun r38 h38 => Needs_nil (vopT rfl (V_store_agg 0 VT.ty152 h6 h38 rfl rfl rfl ⟨default, trivial, rfl⟩)))))) rfl ?_
    refine DrawP_consL (acc' := [_, _, _, _, _, _, _, _, _, _, _, _, _, _, _]) (eqRes _) (goodS rfl rfl ⟨(fun γ => Needs_w 12 (by kernel_rfl) rfl (fun r39 h39 => Needs_nil (vopT rfl (V_assign h39 ⟨rfl, rfl⟩)))), trivial⟩) rfl ?_
    refine DrawP_nil (fun γ => Needs_w 14 (by kernel_rfl) rfl (fun r7 h7 => Needs_nil ?_))
    have e7 : r7 = some _ := h7
    subst e7
    clear h7
    refine Then_n ?_
    refine VW_ret ?_
    refine InBlock_r (Then_r (VRet_many rfl rfl (.cons (.agg (i := 0) VT.ty152 rfl rfl rfl) (.cons (.tmp rfl) (.nil))) ?_))
    rw [hr]
    exact ⟨_, (Drops.drop (Drops.drop (Drops.keep (Drops.keep (Drops.refl _))))), A, tok, ⟨[], (List.append_nil _).symm⟩, hA, rfl, rfl⟩
  ·
   have h15a : elemJ i.op [1, 2, 3, 4, 5, 6, 7] = false := h15
   rw [if_neg (by rw [h15a]; exact Bool.false_ne_true)] at hr
   simp only [elemJ, Bool.or_false, Bool.or_eq_false_iff, decide_eq_false_iff_not] at h15a
   refine VW_seq ?_
   refine VW_region ?_
   refine VOps_cons rfl rfl (V_bin rfl rfl rfl ?_)
   refine VOps_cons rfl rfl (V_assign rfl ?_)
   refine VOps_nil ?_
   refine Then_n ?_
   refine VW_condEq rfl (fun h40 => ?_) (fun h40 => ?_)
   ·
    rw [if_pos h40] at hr
    refine VW_seq ?_
    refine VW_region ?_
    refine VOps_cons rfl rfl (V_fieldAddr VT.fa25_2 rfl ?_)
    refine VOps_cons rfl rfl (V_load 1 VT.ty3 rfl rfl rfl ?_)
    refine VOps_cons rfl rfl (V_move rfl ?_)
    refine VOps_cons rfl rfl (V_build [0, 1, 2] [.const (.int .i64 (1)), .tmp 43, .tmp 44] VT.st152 rfl rfl rfl rfl ?_)
    refine VOps_cons rfl rfl (V_store_agg 0 VT.ty152 rfl rfl rfl rfl rfl ?_)
    refine VOps_cons rfl rfl (V_assign rfl ?_)
    refine VOps_nil ?_
    refine Then_n ?_
    refine VW_ret ?_
    refine InBlock_r (Then_r (VRet_many rfl rfl (.cons (.agg (i := 0) VT.ty152 rfl rfl rfl) (.cons (.tmp rfl) (.nil))) ?_))
    rw [hr]
    exact ⟨_, (Drops.drop (Drops.drop (Drops.keep (Drops.keep (Drops.refl _))))), A, tok, ⟨[], (List.append_nil _).symm⟩, hA, rfl, rfl⟩
   ·
    rw [if_neg h40] at hr
    refine VW_seq ?_
    refine VW_region ?_
    refine VOps_cons rfl rfl (V_bin rfl rfl rfl ?_)
    refine VOps_cons rfl rfl (V_assign rfl ?_)
    refine VOps_nil ?_
    refine Then_n ?_
    refine VW_condEq rfl (fun h46 => ?_) (fun h46 => ?_)
    ·
     rw [if_pos h46] at hr
     refine VW_seq ?_
     refine VW_region ?_
     refine VOps_cons rfl rfl (V_fieldAddr VT.fa25_2 rfl ?_)
     refine VOps_cons rfl rfl (V_load 1 VT.ty3 rfl rfl rfl ?_)
     refine VOps_cons rfl rfl (V_move rfl ?_)
     refine VOps_cons rfl rfl (V_build [0, 1, 2] [.const (.int .i64 (2)), .tmp 49, .tmp 50] VT.st152 rfl rfl rfl rfl ?_)
     refine VOps_cons rfl rfl (V_store_agg 0 VT.ty152 rfl rfl rfl rfl rfl ?_)
     refine VOps_cons rfl rfl (V_assign rfl ?_)
     refine VOps_nil ?_
     refine Then_n ?_
     refine VW_ret ?_
     refine InBlock_r (Then_r (VRet_many rfl rfl (.cons (.agg (i := 0) VT.ty152 rfl rfl rfl) (.cons (.tmp rfl) (.nil))) ?_))
     rw [hr]
     exact ⟨_, (Drops.drop (Drops.drop (Drops.keep (Drops.keep (Drops.refl _))))), A, tok, ⟨[], (List.append_nil _).symm⟩, hA, rfl, rfl⟩
    ·
     rw [if_neg h46] at hr
     refine VW_seq ?_
     refine VW_or (q := 52) (x := 9) [(53, 10), (54, 11), (55, 12), (56, 21)] rfl rfl rfl ?_
     refine Then_n ?_
     refine VW_cond rfl (fun h52 => ?_) (fun h52 => ?_)
     ·
      have h52a : elemJ i.op [10, 11, 12, 21] = true := h52
      rw [if_pos h52a] at hr
      have h52y := h52a
      simp only [elemJ, Bool.or_false, Bool.or_eq_true, decide_eq_true_eq] at h52y
      refine VW_seq ?_
      refine VW_region ?_
      refine VOps_cons rfl rfl (V_load_agg 1 VT.ty25 rfl rfl rfl ?_)
      refine VOps_cons rfl rfl (V_move rfl ?_)
      refine VOps_cons rfl rfl (V_callP [.tmp 57, .tmp 58] rfl rfl VT.en113 (object_c (rho A) i args (by omega) h52a (fun h => by omega) (fun h => hi.num (.inl h))) ?_)
      refine VOps_cons rfl rfl (V_extract rfl rfl ?_)
      refine VOps_cons rfl rfl (V_extract rfl rfl ?_)
      refine VOps_cons rfl rfl (V_store_agg 0 VT.ty152 rfl rfl rfl rfl rfl ?_)
      refine VOps_cons rfl rfl (V_assign rfl ?_)
      refine VOps_nil ?_
      refine Then_n ?_
      refine VW_ret ?_
      refine InBlock_r (Then_r (VRet_many rfl rfl (.cons (.agg (i := 0) VT.ty152 rfl rfl rfl) (.cons (.tmp rfl) (.nil))) ?_))
      rw [hr]
      exact ⟨_, (Drops.drop (Drops.drop (Drops.keep (Drops.keep (Drops.refl _))))), A, tok, ⟨[], (List.append_nil _).symm⟩, hA, rfl, rfl⟩
     ·
      have h52a : elemJ i.op [10, 11, 12, 21] = false := h52
      rw [if_neg (by rw [h52a]; exact Bool.false_ne_true)] at hr
      simp only [elemJ, Bool.or_false, Bool.or_eq_false_iff, decide_eq_false_iff_not] at h52a
      refine VW_seq ?_
      refine VW_or (q := 62) (x := 9) [(63, 22), (64, 23), (65, 24)] rfl rfl rfl ?_
      refine Then_n ?_
      refine VW_cond rfl (fun h62 => ?_) (fun h62 => ?_)
      ·
       have h62a : elemJ i.op [22, 23, 24] = true := h62
       rw [if_pos h62a] at hr
       have h62y := h62a
       simp only [elemJ, Bool.or_false, Bool.or_eq_true, decide_eq_true_eq] at h62y
       refine VW_seq ?_
       refine VW_region ?_
       refine VOps_cons rfl rfl (V_load_agg 1 VT.ty25 rfl rfl rfl ?_)
       refine VOps_cons rfl rfl (V_move rfl ?_)
       refine VOps_cons rfl rfl (V_callP [.tmp 66, .tmp 67] rfl rfl VT.en114 (vector_c (rho A) i args h62a (fun h => ⟨by omega, hi.num (.inr h)⟩) (fun h => by omega) hm (fun v hv => (okV_iff.1 (hok v hv)).2.2.1)) ?_)
       refine VOps_cons rfl rfl (V_extract rfl rfl ?_)
       refine VOps_cons rfl rfl (V_extract rfl rfl ?_)
       refine VOps_cons rfl rfl (V_store_agg 0 VT.ty152 rfl rfl rfl rfl rfl ?_)
       refine VOps_cons rfl rfl (V_assign rfl ?_)
       refine VOps_nil ?_
       refine Then_n ?_
       refine VW_ret ?_
       refine InBlock_r (Then_r (VRet_many rfl rfl (.cons (.agg (i := 0) VT.ty152 rfl rfl rfl) (.cons (.tmp rfl) (.nil))) ?_))
       rw [hr]
       exact ⟨_, (Drops.drop (Drops.drop (Drops.keep (Drops.keep (Drops.refl _))))), A, tok, ⟨[], (List.append_nil _).symm⟩, hA, rfl, rfl⟩
      ·
       have h62a : elemJ i.op [22, 23, 24] = false := h62
       rw [if_neg (by rw [h62a]; exact Bool.false_ne_true)] at hr
       simp only [elemJ, Bool.or_false, Bool.or_eq_false_iff, decide_eq_false_iff_not] at h62a
       refine VW_seq ?_
       refine VW_region ?_
       refine VOps_cons rfl rfl (V_bin rfl rfl rfl ?_)
       refine VOps_cons rfl rfl (V_assign rfl ?_)
       refine VOps_nil ?_
       refine Then_n ?_
       refine VW_condEq rfl (fun h71 => ?_) (fun h71 => ?_)
       ·
        rw [if_pos h71] at hr
        refine VW_seq ?_
        refine VW_region ?_
        refine VOps_cons rfl rfl (V_move rfl ?_)
        refine VOps_cons rfl rfl (V_indexAddr (el := valX (rho A) (argAt args 0)) VT.sl145 rfl rfl (by omega) (get_arg (by omega)) (fun a74 => ?_))
        refine VOps_cons rfl rfl (V_load_ep_agg VT.ty152 rfl rfl ?_)
        refine VOps_cons rfl rfl (V_store_agg 0 VT.ty152 rfl rfl rfl rfl rfl ?_)
        refine VOps_cons rfl rfl (V_assign rfl ?_)
        refine VOps_nil ?_
        refine Then_n ?_
        refine VW_ret ?_
        refine InBlock_r (Then_r (VRet_many rfl rfl (.cons (.agg (i := 0) VT.ty152 rfl rfl rfl) (.cons (.tmp rfl) (.nil))) ?_))
        rw [hr]
        exact ⟨_, (Drops.drop (Drops.drop (Drops.keep (Drops.keep (Drops.refl _))))), A, tok, ⟨[], (List.append_nil _).symm⟩, hA, rfl, rfl⟩
       ·
        rw [if_neg h71] at hr
        refine VW_skip ?_
        refine InBlock_n (Then_n ?_)
        refine VW_seq ?_
        refine VW_region ?_
        refine VOps_cons rfl rfl (V_move rfl ?_)
        refine VOps_cons rfl rfl (V_load_agg 1 VT.ty25 rfl rfl rfl ?_)
        refine VOps_cons rfl rfl (V_move rfl ?_)
        refine VOps_cons rfl rfl (V_callB [.tmp 76, .tmp 77, .tmp 78] [_, _] _ rfl rfl VT.en115 (.refl _) ((effect_c gm u stk tok M A nf i args hA hok hH h2 h3 ho (by have := hi.three; omega) (fun h => by have := hi.three; omega) (fun h => by have := hi.three h; omega) (by simp only [elemJ, Bool.or_false, Bool.or_eq_true, decide_eq_true_eq]; omega))) ?_)
        rintro r Sa ⟨A1, tok1, ⟨B1, rfl⟩, hA1, rfl, rfl⟩
        refine VOps_cons rfl rfl (V_extract rfl rfl ?_)
        refine VOps_cons rfl rfl (V_extract rfl rfl ?_)
        refine VOps_cons rfl rfl (V_store_agg 0 VT.ty152 rfl rfl rfl rfl rfl ?_)
        refine VOps_cons rfl rfl (V_assign rfl ?_)
        refine VOps_nil ?_
        refine Then_n ?_
        refine VW_ret ?_
        refine VRet_many rfl rfl (.cons (.agg (i := 0) VT.ty152 rfl rfl rfl) (.cons (.tmp rfl) (.nil))) ?_
        rw [hr]
        exact ⟨_, (Drops.drop (Drops.drop (Drops.keep (Drops.keep (Drops.refl _))))), A ++ B1, tok1, ⟨B1, rfl⟩, hA1, rfl, rfl⟩


end Go.Proofs.Ytmioemdikgdpkaa.X7
