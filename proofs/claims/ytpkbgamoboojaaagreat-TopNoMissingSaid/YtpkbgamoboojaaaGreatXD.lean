import Derived.Test.YtpkbgamoboojaaaGreatXA
set_option maxRecDepth 100000
set_option maxHeartbeats 8000000
set_option linter.all false
open List renaming perm_append_singleton → Ya
section
namespace Go.Proofs.YtpkbgamoboojaaaGreat.X9
open Go.VL Go.SM Go.Proofs.YtpkbgamoboojaaaGreat X1 X2 X3 X4 X5 X6 X7 X8
theorem step_c (gm gs cap : Nat) (u : SUnit) (rest : List V) (tok : Tok) (G A : List (Nat × Nat)) (M : Mach) (hU : UOk u) (hM : MOk u M) (hl : M.left + M.stack.length <= 1000000) (hne : M.stack ≠ []) (hG : G.length = M.stack.length) (hA : A.length = M.heap.length) (hcap : (ptrsV G ++ rest).length = cap) (hcm : cap <= maxLen) :
  VCalls Tryz.prog 54 [.ptr gm 0] (MS gm u gs cap rest tok G A M) λ r S' => MSt gm u (stepF u M) S' := by
 obtain ⟨stack, left, short, over, out, fin, value, heap⟩ := M
 cases stack with
 | nil => exact absurd rfl hne
 | cons f fs =>
  cases G with
  | nil => simp at hG
  | cons p G =>
   simp at hG
   exact step_g gm gs cap p.1 p.2 u rest tok G A ⟨f :: fs, left, short, over, out, fin, value, heap⟩ f fs hU hM (by simpa using hl) rfl hG hA hcap hcm
theorem VCalls_args {f : FuncId} {vs vs' : List V} {S : Store} {R : V -> Store -> Prop} (h : V.les vs vs') (k : VCalls Tryz.prog f vs' S R) : VCalls Tryz.prog f vs S R := VCalls_le (λ m us hr => (h.repL hr).1) k
theorem perm_step {b m o r : Own} {X : Store} : (m :: o :: r :: b :: X).Perm ((m :: o :: r :: X) ++ [b]) := by
 refine List.Perm.cons _<|List.Perm.cons _<|List.Perm.cons _ ?_
 exact (Ya b X).symm
theorem drop_step {b m o r : Own} {X : Store} : Drops ((m :: o :: r :: X) ++ [b]) (m :: o :: r :: b :: X) := by
 refine Drops.of_perm<|List.Perm.cons _<|List.Perm.cons _<|List.Perm.cons _ ?_
 exact Ya b X
def resultV (o : Out) : V := .agg [intsX o.out, .int o.fin, .int o.value]
theorem le_res (tok : Tok) (l : List Int) (a b : Int) : V.le (.agg [outV tok l, .int a, .int b]) (resultV ⟨l, a, b⟩) := V.le.agg ⟨V.le.strip, rfl, V.le.refl _, rfl, V.le.refl _, rfl, trivial⟩
theorem le_res0 : V.le (.agg VT.zs52) (resultV ⟨[], 0, 0⟩) := V.le.agg ⟨V.le.nil 1, rfl, V.le.refl _, rfl, V.le.refl _, rfl, trivial⟩
theorem drops_start {m o row f v b4 b2 : Own} : Drops [m, row, f, v, o, b4, b2] [m, o, row, b4, f, v] := ⟨[b2], by
 refine (perm_erase (i := 6) rfl).trans<|.cons _<|(perm_erase (i := 0) rfl).trans<|.cons _<|(perm_erase (i := 3) rfl).trans<|.cons _<|(perm_erase (i := 0) rfl).trans<|.cons _ ?_
 exact (perm_erase (i := 2) rfl).trans (.cons _ (.refl _))⟩
theorem Perform_c (u : SUnit) (fuel : Int) (hU : UOk u) (h0 : 1 <= fuel) (h1 : fuel <= 1000000) : VPure Tryz.prog 27 [unitV u, .int fuel] (.tup [resultV (performF u fuel).1, .int (performF u fuel).2.1, .int (performF u fuel).2.2]) := by
 obtain ⟨F, hF⟩ := get_of_lt u.fns u.main.toNat (by have := hU.main; omega)
 have hr := performF.eq_def u fuel
 dsimp only at hr
 refine V_start (nt := 45) Tryz.func27 rfl rfl rfl ?_
 refine Zb<|Zd<|Zc<|Zc2 rfl rfl<|λ g2 => (Zc<|Zb2 VT.zr52 _ rfl rfl<|λ g4 => (Zc<|Zk rfl<|Zc<|Zk rfl<|Za<|Zi<|Zb<|Zd<|Zc<|Zv 1 VT.ty50 rfl rfl rfl<|Zc<|Zl rfl<|Zc<|Zf2 [0, 2] [.tmp 8, .tmp 9] VT.st121 rfl rfl rfl rfl<|Zc<|Zc2 rfl rfl<|λ g11 => (Zc<|Zk rfl<|Za<|Zi<|VW_cells 0 (ls' := [funcsX u.fns, .int u.main, .raw (.slice none 0 0), .int fuel, .bool false, .bool false, .sl 1 (some .nil) [], .int 0, .int 0]) rfl ⟨V.le.refl _, rfl, V.le.refl _, rfl, V.le.refl _, rfl, V.le.refl _, rfl, V.le.refl _, rfl, V.le.refl _, rfl, V.le.nilTok 1, rfl, V.le.refl _, rfl, V.le.refl _, rfl, trivial⟩<|VW_nilBuf 3 1<|Zb<|Zd<|Zc<|Zl rfl<|Zc<|Zj VT.fa50_1 rfl<|Zc<|Zu 3 VT.ty3 rfl rfl rfl<|Zc<|Zm3 [.tmp 12, .tmp 14, .const _, .const (.int .i64 (0))] [_] _ rfl rfl VT.en52 (Zv2 (i := 1) rfl) (VCalls_args (vs := [.ptr g11 0, .int u.main, V.nilSl, .int 0]) (vs' := [.ptr g11 0, .int u.main, valsX (rho []) [], .int 0]) ⟨V.le.refl _, rfl, V.le.refl _, rfl, V.le.nil 4, rfl, V.le.refl _, rfl, trivial⟩<|enter0_c g11 u (outV .nil []) (Mach.mk [] fuel false false [] 0 0 []) (rho []) u.main 0 [] hU.main.1 hF (hU.ne F<|List.mem_of_getElem? hF) (by rw [hU.entry]; rfl)) ?_)))
 rintro r Sa ⟨gf, gv, gs, cap, rest, hc, hcm, hcap, rfl⟩
 refine Za<|Zi<|Zb<|Zs<|Zi2 (ι := Nat × Mach × Nat × Nat × List V × Tok × List (Nat × Nat) × List (Nat × Nat)) (λ (k, M, gs, cap, rest, tok, G, A) => k) (λ (k, M, gs, cap, rest, tok, G, A) => [(1, some (.int fuel)), (4, some (.ptr g4 0)), (7, some (.ptr g11 0))]) (λ (k, M, gs, cap, rest, tok, G, A) => mcells g11 u (stkV gs M.stack.length cap) (outV tok M.out) M :: obuf tok M.out :: srow gs (ptrsV G ++ rest) :: .cells g4 52 VT.zs52 :: framesS (rho A) G M.stack ++ arrsS (rho A) A M.heap) (λ (k, M, gs, cap, rest, tok, G, A) => goF u k M = goF u (fuel.toNat + 1) (startF u fuel) /\ MOk u M /\ (M.over = true \/ M.stack ≠ [] /\ M.left + 1 <= k) /\ G.length = M.stack.length /\ A.length = M.heap.length /\ (ptrsV G ++ rest).length = cap /\ cap <= maxLen) (fuel.toNat + 1, startF u fuel, gs, cap, rest, .nil, [(gf, gv)], []) ⟨rfl, start_ok' hU (by omega) h1, .inr ⟨by simp [startF, enterF], by show fuel + 1 <= _; omega⟩, rfl, rfl, hcap, hcm⟩ ⟨rfl, rfl, rfl, trivial⟩ drops_start ?_
 rintro ⟨k, M, gs, cap, rest, tok, G, A⟩ hA
 change goF u k M = goF u (fuel.toNat + 1) (startF u fuel) /\ MOk u M /\ (M.over = true \/ M.stack ≠ [] /\ M.left + 1 <= k) /\ G.length = M.stack.length /\ A.length = M.heap.length /\ (ptrsV G ++ rest).length = cap /\ cap <= maxLen at hA
 obtain ⟨hgo, hM, hov, hG, hA1, hcap, hcm⟩ := hA
 have hl0 := hM.left0
 have hl1 := hM.left
 refine Zb<|Zb<|Zd<|Zc<|Zl rfl<|Zc<|Zv1 rfl<|Zc<|Zj VT.fa121_4 rfl<|Zc<|Zu 0 VT.ty4 rfl rfl rfl<|Zc<|Zl2 rfl<|Za<|Zi<|Zo1 rfl (λ h20 => ?_)<|λ h20 => ?_
 .
  have h20 : M.over = false := by simpa using h20
  obtain ⟨hne, hk⟩ : M.stack ≠ [] /\ M.left + 1 <= k := hov.resolve_left (by rw [h20]; decide)
  have hsl : 1 <= M.stack.length := List.length_pos_iff.2 hne
  obtain ⟨k, rfl⟩ : ∃ j, k = j + 1 := ⟨k - 1, by omega⟩
  refine Zi1<|Zi<|Zs<|Zb<|Zd<|Zc<|Zl rfl<|Zc<|Zm3 [.tmp 21, .const (.int .i64 (1))] [_] _ rfl rfl VT.en53 (Zv2 (i := 0) rfl) (pay_c g11 u (stkV gs M.stack.length cap) (outV tok M.out) M 1 (by omega) (by omega) hl0 (by omega)) ?_
  rintro r Sa rfl
  refine Za<|Zi<|Zb<|Zb<|Zd<|Zc<|Zl rfl<|Zc<|Zv1 rfl<|Zc<|Zj VT.fa121_3 rfl<|Zc<|Zu 0 VT.ty4 rfl rfl rfl<|Za<|Zi<|Zr1 rfl (λ h26 => ?_)<|λ h26 => ?_
  .
   rw [goF_short h20 k h26] at hgo
   rw [<- hgo, if_pos h26] at hr
   refine Zb<|Zd<|Zc<|Zu2 (Zf2 [] [] VT.st52 rfl rfl rfl rfl ⟨rfl, rfl⟩) (le_res0)<|Zc<|Zx 3 VT.ty52 rfl rfl rfl rfl rfl<|Zc<|Zk rfl<|Zc<|Zk rfl<|Za<|Zi<|Zf1<|Zd1<|Za1<|Zd1<|Za1<|Zd1<|Zh1 rfl rfl (.cons (.agg (i := 3) VT.ty52 rfl rfl rfl)<|.cons (.tmp rfl)<|.cons (.tmp rfl)<|.nil) ?_
   rw [hr]; first | done | rfl
  have hpm := payF_ok h26
  rw [hpm.1]
  refine Zi1<|Zi<|Zd<|Zc<|Zl rfl<|Zc<|V_callG [.tmp 28] (MS g11 u gs cap rest tok G A { M with left := M.left - 1 }) [_] rfl rfl VT.en54 (perm_step) (step_c g11 gs cap u rest tok G A { M with left := M.left - 1 } hU (hM.paid hpm.2) (by show M.left - 1 + (M.stack.length : Int) <= 1000000; omega) hne hG hA1 hcap hcm) ?_
  rintro r Sa ⟨gs1, cap1, rest1, tok1, G1, A1, hG1, hA2, hcap1, hcm1, rfl⟩
  refine ⟨_, drop_step, ?_⟩
  have hov2 : (stepF u { M with left := M.left - 1 }).over = true \/ (stepF u { M with left := M.left - 1 }).stack ≠ [] /\ (stepF u { M with left := M.left - 1 }).left + 1 <= k := paid_next hU hM hpm.2 h20 hne hk
  refine Za<|Zb1<|Zi ?_
  exact ⟨(k, stepF u { M with left := M.left - 1 }, gs1, cap1, rest1, tok1, G1, A1), (by (try simp only []); omega), ⟨by rw [<- hgo, goF_step (by simpa using h20) k h26, hpm.1], step_ok hU (hM.paid hpm.2) (by show M.left - 1 + (M.stack.length : Int) <= 1000000; omega), hov2, hG1, hA2, hcap1, hcm1⟩, ⟨rfl, rfl, rfl, trivial⟩, (Drops.keep (Drops.keep (Drops.keep (Drops.keep (Zt2 _)))))⟩
 have h20 : M.over = true := by simpa using h20
 rw [goF_over h20] at hgo
 rw [<- hgo] at hr
 refine Zt<|Ze1<|Ze1<|Zc1<|Zi<|Zb<|Zb<|Zd<|Zc<|Zl rfl<|Zc<|Zv1 rfl<|Zc<|Zj VT.fa121_3 rfl<|Zc<|Zu 0 VT.ty4 rfl rfl rfl<|Za<|Zi<|Zr1 rfl (λ h33 => ?_)<|λ h33 => ?_
 .
  rw [if_pos h33] at hr
  refine Zb<|Zd<|Zc<|Zu2 (Zf2 [] [] VT.st52 rfl rfl rfl rfl ⟨rfl, rfl⟩) (le_res0)<|Zc<|Zx 3 VT.ty52 rfl rfl rfl rfl rfl<|Zc<|Zk rfl<|Zc<|Zk rfl<|Za<|Zi<|Zf1<|Zd1<|Zh1 rfl rfl (.cons (.agg (i := 3) VT.ty52 rfl rfl rfl)<|.cons (.tmp rfl)<|.cons (.tmp rfl)<|.nil) ?_
  rw [hr]; first | done | rfl
 rw [if_neg (by rw [h33]; decide)] at hr
 refine Zi1<|Zi<|Zb<|VW_drawR (G := Unit) [([], [7], []), ([0], [35], []), ([1, 0], [36], []), ([2, 1, 0], [37], []), ([], [1], []), ([], [7], []), ([5], [40], []), ([6, 5], [41], []), ([7, 6, 5], [42], []), ([8, 7, 6, 5, 4], [39, 43], []), (dn 4, [4, 38], []), (dn 11, [44], []), (dn 12, [], [])] [10] (setSt _ 3<|λ _ => .cells g4 52 [intsX M.out, .int M.fin, .int M.value]) [5, 6] [5, 6, 35, 36, 37, 38, 39, 40, 41, 42, 43, 44] rfl VT.mix<|Zp (Zm _) (Zo rfl rfl ⟨(λ γ => Zf (λ _ h7 => Ze (Zn rfl (Zl h7 z0)))), trivial⟩)<|Zp (Zm _) (Zo rfl rfl ⟨(λ γ => Zw 0 0 rfl (λ _ h35 => Ze (Zn rfl (Zv1 h35 z0)))), trivial⟩)<|Zp (Zm _) (Zo rfl rfl ⟨(λ γ => Zw 1 0 rfl (λ _ h36 => Ze (Zn rfl (Zj VT.fa121_5 h36 z0)))), trivial⟩)<|Zp (Zm _) (Zo rfl rfl ⟨(λ γ => Zw 2 0 rfl (λ _ h37 => Ze (Zn rfl (Zu2 (Zv 0 VT.ty52 h37 rfl rfl z0) ((le_res tok M.out M.fin M.value)) z0)))), trivial⟩)<|Zp (Zm _) (Zm2 rfl<|λ _ => (λ γ => Zf<|λ _ h1 => Ze<|Zn rfl<|Zl h1 z0))<|Zp (Zm _) (Zm2 rfl<|λ _ => (λ γ => Zf<|λ _ h7 => Ze<|Zn rfl<|Zl h7 z0))<|Zp (Zm _) (Zm2 rfl<|λ _ => (λ γ => Zw 5 0 rfl<|λ _ h40 => Ze<|Zn rfl<|Zv1 h40 z0))<|Zp (Zm _) (Zm2 rfl<|λ _ => (λ γ => Zw 6 0 rfl<|λ _ h41 => Ze<|Zn rfl<|Zj VT.fa121_2 h41 z0))<|Zp (Zm _) (Zo rfl rfl ⟨(λ γ => Zw 7 0 rfl (λ _ h42 => Ze (Zn rfl (Zu 0 VT.ty3 h42 rfl rfl z0)))), (λ γ => Zw 7 0 rfl (λ _ h42 => Ze (Zn rfl (Zu 0 VT.ty3 h42 rfl rfl z0)))), trivial⟩)<|Zp (Zm _) (Zm2 rfl<|λ _ => (λ γ => Zw 4 4 rfl<|λ _ h39 => Zw 8 0 rfl<|λ _ h43 => Ze<|Zn rfl<|Zk2 h39 h43 (by omega) z0))<|Zp Za3 (Zn2 rfl<|λ γ => Zf<|λ _ h4 => Zw 3 6 rfl<|λ _ h38 => Ze<|Zn rfl<|Zx 3 VT.ty52 h4 h38 rfl rfl rfl ⟨default, trivial, rfl⟩)<|Zp (Zm _) (Zo rfl rfl ⟨(λ γ => Zw 9 1 rfl (λ _ h44 => Ze (Zn rfl (Zk h44 z0)))), trivial⟩)<|Zp (Zm _) (Zo rfl rfl ⟨(λ γ => Ze (Zn rfl (Zk rfl z0))), trivial⟩)<|DrawP_nil<|λ γ => Zw 11 1 rfl<|λ r5 h5 => Zw 12 0 rfl<|λ r6 h6 => Ze ?_
 have e5 : r5 = some _ := h5
 subst e5
 clear h5
 have e6 : r6 = some _ := h6
 subst e6
 clear h6
 refine Zi<|Zf1<|Zh1 rfl rfl (.cons (.agg (i := 3) VT.ty52 rfl rfl rfl)<|.cons (.tmp rfl)<|.cons (.tmp rfl)<|.nil) ?_
 rw [hr]; first | done | rfl
theorem Run_c (u : SUnit) (fuel : Int) : VPure Tryz.prog 11 [unitV u, .int fuel] (.tup [resultV (runF u fuel).1, .int (runF u fuel).2.1, .int (runF u fuel).2.2]) := by
 have hr := runF.eq_def u fuel
 refine V_start (nt := 24) Tryz.func11 rfl rfl rfl ?_
 refine Zb<|Zd<|Zc<|Zc2 rfl rfl<|λ g2 => (Zc<|Zb2 VT.zr52 _ rfl rfl<|λ g4 => (Zc<|Zk rfl<|Zc<|Zk rfl<|Za<|Zi<|Zb<|Zb<|Zd<|Zc<|Zv 1 VT.ty50 rfl rfl rfl<|Zc<|Zx1 [.tmp 8] rfl rfl VT.en25 (Check_c u)<|Zc<|Zk rfl<|Za<|Zi<|Zb<|Zd<|Zc<|Zl rfl<|Zc<|Zj1 rfl rfl rfl<|Za<|Zi<|Zm1 rfl (λ h11 => ?_)<|λ h11 => ?_))
 .
  rw [if_pos h11] at hr
  refine Zb<|Zd<|Zc<|Zu2 (Zf2 [] [] VT.st52 rfl rfl rfl rfl ⟨rfl, rfl⟩) (le_res0)<|Zc<|Zl rfl<|Zc<|Zx 0 VT.ty52 rfl rfl rfl rfl rfl<|Zc<|Zk rfl<|Zc<|Zk rfl<|Za<|Zi<|Zf1<|Zd1<|Zh1 rfl rfl (.cons (.agg (i := 0) VT.ty52 rfl rfl rfl)<|.cons (.tmp rfl)<|.cons (.tmp rfl)<|.nil) ?_
  rw [hr]; first | done | rfl
 rw [if_neg (by rw [h11]; decide)] at hr
 have hu := unit_of h11
 refine Zi1<|Zi<|Zb<|Zb<|Zd<|Zc<|Zl rfl<|Zc<|Zx1 [.tmp 14, .const (.int .i64 (1)), .const (.int .i64 (1000000))] rfl rfl VT.en26 (within_c _ _ _)<|Zc<|Zl2 rfl<|Za<|Zi<|Zo1 rfl (λ h16 => ?_)<|λ h16 => ?_
 .
  rw [if_pos h16] at hr
  refine Zb<|Zd<|Zc<|Zu2 (Zf2 [] [] VT.st52 rfl rfl rfl rfl ⟨rfl, rfl⟩) (le_res0)<|Zc<|Zx 0 VT.ty52 rfl rfl rfl rfl rfl<|Zc<|Zk rfl<|Zc<|Zk rfl<|Za<|Zi<|Zf1<|Zd1<|Zh1 rfl rfl (.cons (.agg (i := 0) VT.ty52 rfl rfl rfl)<|.cons (.tmp rfl)<|.cons (.tmp rfl)<|.nil) ?_
  rw [hr]; first | done | rfl
 rw [if_neg (by rw [h16]; decide)] at hr
 have hw := wi_iff.1 h16
 refine Zi1<|Zi<|Zb<|Zd<|Zc<|Zv 1 VT.ty50 rfl rfl rfl<|Zc<|Zl rfl<|Zc<|Zx1 [.tmp 18, .tmp 19] rfl rfl VT.en27 (Perform_c u fuel hu.u hw.1 hw.2)<|Zc<|Zg2 rfl rfl<|Zc<|Zg2 rfl rfl<|Zc<|Zg2 rfl rfl<|Zc<|Zx 0 VT.ty52 rfl rfl rfl rfl rfl<|Zc<|Zk rfl<|Zc<|Zk rfl<|Za<|Zi<|Zf1<|Zh1 rfl rfl (.cons (.agg (i := 0) VT.ty52 rfl rfl rfl)<|.cons (.tmp rfl)<|.cons (.tmp rfl)<|.nil) ?_
 rw [hr]; first | done | rfl
end Go.Proofs.YtpkbgamoboojaaaGreat.X9
end
section
namespace Go.Proofs.YtpkbgamoboojaaaGreat.X90
open Go.VL Go.SM Go.Proofs.YtpkbgamoboojaaaGreat X1 X2 X3 X4 X5 X6 X7 X8 X9
def topU : SUnit := ⟨[⟨-1, [⟨[], [⟨1, 0, 7, []⟩, ⟨2, 15, 0, [1]⟩, ⟨3, 0, 5, []⟩], ⟨0, 3, 0, [], []⟩⟩]⟩], 0⟩
theorem top_run : runF topU 4 = (⟨[7], 0, 5⟩, 4, 0) := by decide +kernel
theorem works_c : VPure Tryz.prog 5 [] (.bool true) := by
 refine V_start (nt := 46) Tryz.func5 rfl rfl rfl ?_
 refine Zb<|Zd<|Zc<|Zk rfl<|Za<|Zi<|Zb<|Zd<|Zc<|Zu2 (Zf2 [0, 1, 2] [.const (.int .i64 (1)), .const (.int .i64 (0)), .const (.int .i64 (7))] VT.st38 rfl rfl rfl rfl ⟨rfl, rfl⟩) ((V.le.agg (les_r rfl<|les_r rfl<|les_r rfl<|les_n 1<|les_0) : V.le _ (insV ⟨1, 0, 7, []⟩)))<|Zc<|Zk3 [.const (.int .i64 (1))] VT.sl36 rfl rfl rfl rfl rfl<|Zc<|Zu2 (Zf2 [0, 1, 3] [.const (.int .i64 (2)), .const (.int .i64 (15)), .tmp 6] VT.st38 rfl rfl rfl rfl ⟨rfl, rfl⟩) ((V.le.agg (les_r rfl<|les_r rfl<|les_r rfl<|les_r rfl<|les_0) : V.le _ (insV ⟨2, 15, 0, [1]⟩)))<|Zc<|Zu2 (Zf2 [0, 1, 2] [.const (.int .i64 (3)), .const (.int .i64 (0)), .const (.int .i64 (5))] VT.st38 rfl rfl rfl rfl ⟨rfl, rfl⟩) ((V.le.agg (les_r rfl<|les_r rfl<|les_r rfl<|les_n 1<|les_0) : V.le _ (insV ⟨3, 0, 5, []⟩)))<|Zc<|Zk3 [.tmp 5, .tmp 7, .tmp 8] VT.sl39 rfl rfl rfl rfl rfl<|Zc<|Zu2 (Zf2 [1] [.const (.int .i64 (3))] VT.st42 rfl rfl rfl rfl ⟨rfl, rfl⟩) ((V.le.agg (les_r rfl<|les_r rfl<|les_r rfl<|les_n 1<|les_n 2<|les_0) : V.le _ (termV ⟨0, 3, 0, [], []⟩)))<|Zc<|Zu2 (Zf2 [1, 2] [.tmp 9, .tmp 10] VT.st44 rfl rfl rfl rfl ⟨rfl, rfl⟩) ((V.le.agg (les_n 1<|les_r rfl<|les_r rfl<|les_r rfl<|les_r rfl<|les_r rfl<|les_r rfl<|les_0) : V.le _ (blockV ⟨[], [⟨1, 0, 7, []⟩, ⟨2, 15, 0, [1]⟩, ⟨3, 0, 5, []⟩], ⟨0, 3, 0, [], []⟩⟩)))<|Zc<|Zk3 [.tmp 11] VT.sl45 rfl rfl rfl rfl rfl<|Zc<|Zf2 [0, 1] [.const (.int .i64 (-1)), .tmp 12] VT.st47 rfl rfl rfl rfl<|Zc<|Zk3 [.tmp 13] VT.sl48 rfl rfl rfl rfl rfl<|Zc<|Zf2 [0] [.tmp 14] VT.st50 rfl rfl rfl rfl<|Zc<|Zb2 VT.zr50 _ rfl rfl<|λ g1 => (Zc<|Zx 0 VT.ty50 rfl rfl rfl rfl rfl<|Za<|Zi<|Zb<|Zd<|Zc<|Zv 0 VT.ty50 rfl rfl rfl<|Zc<|Zx1 [.tmp 17, .const (.int .i64 (4))] rfl rfl VT.en11 (Run_c topU 4)<|Zc<|Zu2 (Zl rfl ⟨rfl, rfl⟩) ((V.le.of_eq (by rw [top_run]) : V.le _ (.tup [resultV ⟨[7], 0, 5⟩, .int 4, .int 0])))<|Zc<|Zg2 rfl rfl<|Zc<|Zg2 rfl rfl<|Zc<|Zg2 rfl rfl<|Zc<|Zb2 VT.zr52 _ rfl rfl<|λ g2 => (Zc<|Zx 0 VT.ty52 rfl rfl rfl rfl rfl<|Zc<|Zk rfl<|Zc<|Zk rfl<|Za<|Zi<|Zb<|Zd<|Zc<|Zl rfl<|Zc<|Zj1 rfl rfl rfl<|Zc<|Zl rfl<|Zc (Zl rfl ?_)<|Zy1 rfl))
 refine Zc (Zj1 rfl rfl rfl ?_)<|Zy1 rfl
 refine Zc<|Zs1 rfl rfl rfl<|Zc<|Zl rfl<|Zc (Zj VT.fa52_0 rfl ?_)<|Zy1 rfl
 refine Zc (Zu 0 VT.ty36 rfl rfl rfl ?_)<|Zy1 rfl
 refine Zc (Ze2 Tryz.underlying36 rfl<|λ hl31 => ?_)<|Zy1 rfl
 refine Zc (Zj1 rfl rfl rfl ?_)<|Zy1 rfl
 refine Zc<|Zs1 rfl rfl rfl<|Zc<|Zl rfl<|Zc (Zj VT.fa52_0 rfl ?_)<|Zy1 rfl
 refine Zc (Zu 0 VT.ty36 rfl rfl rfl ?_)<|Zy1 rfl
 refine Zc (Zz (el := V.int 7) VT.sl36 rfl rfl (by omega) rfl<|λ a37 => ?_)<|Zy1 rfl
 refine Zc (Zz1 VT.ty3 rfl rfl ?_)<|Zy1 rfl
 refine Zc (Zj1 rfl rfl rfl ?_)<|Zy1 rfl
 refine Zc<|Zs1 rfl rfl rfl<|Zc<|Zl rfl<|Zc (Zj VT.fa52_2 rfl ?_)<|Zy1 rfl
 refine Zc (Zu 0 VT.ty3 rfl rfl rfl ?_)<|Zy1 rfl
 refine Zc (Zj1 rfl rfl rfl ?_)<|Zy1 rfl
 refine Zc<|Zs1 rfl rfl rfl<|Zc<|Zk rfl<|Za<|Zi<|Zf1<|Zg1 rfl (.tmp rfl) ?_
 rfl
end Go.Proofs.YtpkbgamoboojaaaGreat.X90
end
