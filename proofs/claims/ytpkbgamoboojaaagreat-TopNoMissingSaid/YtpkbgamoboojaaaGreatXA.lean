import Derived.Test.YtpkbgamoboojaaaGreatX6
set_option maxRecDepth 100000
set_option maxHeartbeats 32000000
open Go.VL.Drops renaming keep → Dk, drop → Dd
set_option linter.all false
open List renaming append_nil → Ya, length → Yb, mem_of_getElem? → Yc, append_assoc → Yd, replicate → Ye, getElem?_eq_getElem → Yf, perm_append_comm → Yg, length_append → Yh, length_map → Yi, getElem?_append_right → Yj, take_append_of_le_length → Yk
section
namespace Go.Proofs.YtpkbgamoboojaaaGreat.X7
open Go.VL Go.SM Go.Proofs.YtpkbgamoboojaaaGreat X1 X2 X3 X4 X5 X6
def allocNew (size : Val) (M : Mach) : Bool := decide (size.kind = 0) && decide (0 <= size.n) && decide (size.n <= 1024) && !(payF size.n M).short
theorem payF_heap (n : Int) (M : Mach) : (payF n M).heap = M.heap /\ (payF n M).out = M.out /\ (payF n M).stack = M.stack := by unfold payF; split <;> exact ⟨rfl, rfl, rfl⟩
theorem allocF_old {size fill : Val} {M : Mach} (h : allocNew size M = false) : (allocF size fill M).1.heap = M.heap := by
 unfold allocF
 split
 .rfl
 .rename_i h1
  split
  .rfl
  .rename_i h2
   split
   .exact (payF_heap _ _).1
   .rename_i h3
    have h1 := Classical.not_not.1 h1
    have : allocNew size M = true := by
     have h3 : (payF size.n M).short = false := by simpa using h3
     simp [allocNew, h1, h3]
     omega
    rw [h] at this
    cases this
theorem allocF_new {size fill : Val} {M : Mach} (h : allocNew size M = true) : allocF size fill M = ({ payF size.n M with heap := M.heap ++ [Ye size.n.toNat fill] }, .mk 3 0 [] (some M.heap.length), 0) := by
 simp only [allocNew, Bool.and_eq_true, decide_eq_true_eq, Bool.not_eq_true'] at h
 unfold allocF
 rw [if_neg (by simpa using h.1.1.1), if_neg (by omega), if_neg (by rw [h.2]; decide)]
theorem allocF_out (size fill : Val) (M : Mach) : (allocF size fill M).1.out = M.out := by
 unfold allocF
 split
 .rfl
 .split
  .rfl
  .split <;> exact (payF_heap _ _).2.1
theorem alloc0_c (gm : Nat) (u : SUnit) (stk ov : V) (M : Mach) (ρ : Nat -> Nat) (size fill : Val) (h2 : 0 <= M.left) (h3 : M.left <= 1000000) (h : allocNew size M = false) : VCalls Tryz.prog 125 [.ptr gm 0, valX ρ size, valX ρ fill] [mcells gm u stk ov M] λ r S' => r = .tup [valX ρ (allocF size fill M).2.1, .int (allocF size fill M).2.2] /\ S' = [mcells gm u stk ov (allocF size fill M).1] :=
 (allocate_c gm u stk ov M ρ size fill h2 h3).mono λ r S' hr => by
  rcases hr with ⟨h1, h4, _⟩ | ⟨ga, gr, _, _, h5, _⟩
  .exact ⟨h1, h4⟩
  .rw [allocF_old h] at h5
   have := congrArg Yb h5
   simp at this
theorem alloc1_c (gm : Nat) (u : SUnit) (stk ov : V) (M : Mach) (ρ : Nat -> Nat) (size fill : Val) (h2 : 0 <= M.left) (h3 : M.left <= 1000000) (h : allocNew size M = true) : VCalls Tryz.prog 125 [.ptr gm 0, valX ρ size, valX ρ fill] [mcells gm u stk ov M] λ r S' => ∃ ga gr, r = .tup [.agg [.int 3, .int 0, .sl 4 none [], .ptr ga 0], .int 0] /\ S' = [mcells gm u stk ov (allocF size fill M).1, acell ga gr size.n.toNat, arow ρ gr (Ye size.n.toNat fill)] :=
 (allocate_c gm u stk ov M ρ size fill h2 h3).mono λ r S' hr => by
  rcases hr with ⟨_, _, h5⟩ | ⟨ga, gr, h4, _, _, h6⟩
  .rw [allocF_new h] at h5
   have := congrArg Yb h5
   simp at this
  .exact ⟨ga, gr, h4, h6⟩
theorem arr_of {nf nh : Nat} {v : Val} (h : okV nf nh v = true) (hk : v.kind = 3) : ∃ k, v.arr = some k /\ k < nh := by
 have h := (okV_iff.1 h).1
 cases ha : v.arr with
 | none => rw [ha] at h; simp [okArr] at h; exact absurd hk h
 | some k => rw [ha] at h; simp [okArr] at h; exact ⟨k, rfl, h⟩
theorem get_argX {ρ : Nat -> Nat} {l : List Val} {k : Nat} (h : k < l.length) : (l.map (valX ρ))[k]? = some (valX ρ (argAt l k)) := by
 rw [List.getElem?_map, Yf h, argAt, Yf h]
 rfl
theorem effect1_c (gm : Nat) (u : SUnit) (stk : V) (tok : Tok) (M : Mach) (A : List (Nat × Nat)) (nf : Nat) (i : SIns) (args : List Val) (hA : A.length = M.heap.length) (hok : ∀ a ∈ args, okV nf M.heap.length a = true) (hH : ∀ l ∈ M.heap, l.length <= 1024 /\ ∀ v ∈ l, okV nf M.heap.length v = true) (h2 : 0 <= M.left) (h3 : M.left <= 1000000) (ho : M.out.length <= 1000) (hl1 : 1 <= args.length) (hl2 : i.op ≠ 15 /\ i.op ≠ 17 -> 2 <= args.length) (hl3 : i.op = 20 -> 3 <= args.length) (hop : elemJ i.op [15, 16, 17, 18, 19, 20] = true) (hnew : i.op = 16 /\ allocNew (argAt args 0) M = true) : VCalls Tryz.prog 112 [.ptr gm 0, insV i, valsX (rho A) args] (mcells gm u stk (outV tok M.out) M :: obuf tok M.out :: arrsS (rho A) A M.heap) λ r S' => ∃ A' tok', (∃ B, A' = A ++ B) /\ A'.length = (effectF i args M).1.heap.length /\ r = .tup [valX (rho A') (effectF i args M).2.1, .int (effectF i args M).2.2] /\ S' = mcells gm u stk (outV tok' (effectF i args M).1.out) (effectF i args M).1 :: obuf tok' (effectF i args M).1.out :: arrsS (rho A') A' (effectF i args M).1.heap := by
 refine VCalls_drops ?_
 have hr := effectF.eq_def i args M
 have hop2 : i.op = 15 \/ i.op = 16 \/ i.op = 17 \/ i.op = 18 \/ i.op = 19 \/ i.op = 20 := by simpa [elemJ] using hop
 refine V_start (nt := 137) Tryz.func112 rfl rfl rfl ?_
 refine Zb<|Zd<|Zc<|Zc2 rfl rfl<|λ g4 => (Zc<|Zb2 VT.zr159 _ rfl rfl<|λ g6 => (Zc<|Zk rfl<|Za<|Zi<|Zb<|Zb<|Zd<|Zc<|Zj VT.fa38_1 rfl<|Zc<|Zu 1 VT.ty3 rfl rfl rfl<|Za<|Zi<|Zs<|Zb<|Zd<|Zc<|Zj1 rfl rfl rfl<|Zc<|Zk rfl<|Za<|Zi<|Zl1 rfl (λ h12 => ?_)<|λ h12 => ?_))
 . exact absurd h12 (by omega)
 rw [if_neg h12] at hr
 refine Zb<|Zd<|Zc<|Zj1 rfl rfl rfl<|Zc<|Zk rfl<|Za<|Zi<|Zl1 rfl (λ h44 => ?_)<|λ h44 => ?_
 .
  rw [if_pos h44] at hr
  have hl4 := hl2 (by omega)
  refine Zb<|VW_drawR (G := (Nat × Nat)) [([], [0], []), ([], [2], []), ([1], [47], []), ([2, 1], [48], []), ([], [2], []), ([4], [50], []), ([5, 4], [51], []), (dn 7, [46, 49, 52], [0]), (dn 8, [53], [0]), (dn 8, [53], []), (dn 10, [6, 54], []), (dn 11, [55], [])] [7, 10] (twoSt _ (λ x => mcells gm u stk (outV tok M.out) (allocF (argAt args 0) (argAt args 1) M).1 :: acell x.1 x.2 (argAt args 0).n.toNat :: arow (rho A) x.2 (Ye (argAt args 0).n.toNat<|argAt args 1) :: .cells g6 159 VT.zs159 :: .cells g4 38 (insV i).leaves :: obuf tok M.out :: arrsS (rho A) A M.heap) (λ x _ => mcells gm u stk (outV tok M.out) (allocF (argAt args 0) (argAt args 1) M).1 :: acell x.1 x.2 (argAt args 0).n.toNat :: arow (rho A) x.2 (Ye (argAt args 0).n.toNat<|argAt args 1) :: .cells g6 159 [.int 3, .int 0, .sl 4 none [], .ptr x.1 0] :: .cells g4 38 (insV i).leaves :: obuf tok M.out :: arrsS (rho A) A M.heap)) [7] [7, 46, 47, 48, 49, 50, 51, 52, 53, 54, 55] rfl VT.mix<|Zp (Zm _) (Zo rfl rfl ⟨(λ γ => Zf (λ _ h0 => Ze (Zn rfl (Zl h0 z0)))), trivial⟩)<|Zp (Zm _) (Zo rfl rfl ⟨(λ γ => Zf (λ _ h2 => Ze (Zn rfl (Zl h2 z0)))), trivial⟩)<|Zp (Zb3 _) (Zo rfl rfl ⟨(λ γ => Zw 1 0 rfl (λ _ h47 => Ze (Zn rfl (Zz (el := valX (rho A) (argAt args 0)) VT.sl152 h47 rfl (by omega) (get_arg (by omega)) (λ a48 => ⟨⟨_, rfl⟩, rfl⟩))))), trivial⟩)<|Zp (Zm _) (Zo rfl rfl ⟨(λ γ => Zw 2 0 rfl (λ _ h48 => Ze (Zc3 h48 (λ a_48 e48 => Zn rfl (Za2 VT.ty159 e48 rfl z0))))), trivial⟩)<|Zp (Zm _) (Zo rfl rfl ⟨(λ γ => Zf (λ _ h2 => Ze (Zn rfl (Zl h2 z0)))), trivial⟩)<|Zp (Zb3 _) (Zo rfl rfl ⟨(λ γ => Zw 4 0 rfl (λ _ h50 => Ze (Zn rfl (Zz (el := valX (rho A) (argAt args 1)) VT.sl152 h50 rfl (by omega) (get_arg (by omega)) (λ a51 => ⟨⟨_, rfl⟩, rfl⟩))))), trivial⟩)<|Zp (Zm _) (Zo rfl rfl ⟨(λ γ => Zw 5 0 rfl (λ _ h51 => Ze (Zc3 h51 (λ a_51 e51 => Zn rfl (Za2 VT.ty159 e51 rfl z0))))), trivial⟩)<|Zp (Zw2<|λ x => .tup [.agg [.int 3, .int 0, .sl 4 none [], .ptr x.1 0], .int 0]) (Zo2 0 rfl<|λ γ => Zw 0 6 rfl<|λ _ h46 => Zw 3 3 rfl<|λ _ h49 => Zw 6 0 rfl<|λ _ h52 => Ze<|Zn rfl<|Zm3 [.tmp 46, .tmp 49, .tmp 52] [_] _ rfl (Zp2 h46<|Zp2 h49<|Zp2 h52 Zq2) VT.en125 (Zv2 (i := 2) rfl) (alloc1_c gm u stk (outV tok M.out) M (rho A) (argAt args 0) (argAt args 1) h2 h3 hnew.2) (λ r Sa h => by obtain ⟨ga, gr, h1, h2⟩ := h; subst h1 h2; exact ⟨(ga, gr), ⟨_, rfl, rfl⟩, rfl⟩))<|Zp (Zw2<|λ x => .agg [.int 3, .int 0, .sl 4 none [], .ptr x.1 0]) (Zo rfl rfl ⟨(λ γ => Zw 7 0 rfl (λ _ h53 => Ze (Zx2 h53 (λ e53 => Zn rfl (Zg2 e53 rfl ⟨⟨_, rfl, rfl⟩, rfl⟩))))), trivial⟩)<|Zp (Zm _) (Zo rfl rfl ⟨(λ γ => Zw 7 1 rfl (λ _ h53 => Ze (Zx2 h53 (λ e53 => Zn rfl (Zg2 e53 rfl z0))))), trivial⟩)<|Zp Za3 (Zo2 1 rfl<|λ γ => Zf<|λ _ h6 => Zw 8 1 rfl<|λ _ h54 => Ze<|Zx2 h54<|λ e54 => Zn rfl<|Zx 3 VT.ty159 h6 e54 rfl rfl rfl ⟨default, trivial, rfl⟩)<|Zp (Zm _) (Zo rfl rfl ⟨(λ γ => Zw 9 1 rfl (λ _ h55 => Ze (Zn rfl (Zk h55 z0)))), trivial⟩)<|DrawP_nil<|λ γ => Zw 11 0 rfl<|λ r7 h7 => Ze ?_
  have e7 : r7 = some _ := h7
  subst e7
  clear h7
  refine Zi<|Zf1<|Za1<|Zd1<|Zh1 rfl rfl (.cons (.agg (i := 3) VT.ty159 rfl rfl rfl)<|.cons (.tmp rfl)<|.nil) ?_
  have hn2 := allocF_new (fill := argAt args 1) hnew.2
  have he : valX (rho (A ++ [γ 0])) (.mk 3 0 [] (some M.heap.length)) = .agg [.int 3, .int 0, .sl 4 none [], .ptr (γ 0).1 0] := by rw [valX, Val.arr, arrV, <- hA, rho_new]; rfl
  have hx : arrsS (rho (A ++ [γ 0])) (A ++ [γ 0]) (M.heap ++ [Ye (argAt args 0).n.toNat (argAt args 1)]) = arrsS (rho A) A M.heap ++ [acell (γ 0).1 (γ 0).2 (argAt args 0).n.toNat, arow (rho A) (γ 0).2 (Ye (argAt args 0).n.toNat (argAt args 1))] := by rw [arrsS_snoc _ _ _ _ _ hA, <- arrsS_ext (rho_ext A [γ 0]) A λ l hl => by rw [hA]; exact (hH l hl).2]; rw [List.length_replicate, arow, arow, <- rowV_ext (rho_ext A [γ 0]) λ v hv => by rw [hA, (List.mem_replicate.1 hv).2]; exact argAt_ok hok 1]
  rw [hr]
  refine ⟨_, Dk ⟨[_, _], Yg (l₁ := [_, _])⟩, A ++ [γ 0], tok, ⟨_, rfl⟩, ?_, ?_, ?_⟩
  . rw [hn2, Yh, hA, Yh]; rfl
  . rw [hn2]; dsimp only; rw [he]; rfl
  rw [allocF_out, hn2]; dsimp only; rw [hx]; rfl
 exact absurd hnew.1 h44
theorem effect0_c (gm : Nat) (u : SUnit) (stk : V) (tok : Tok) (M : Mach) (A : List (Nat × Nat)) (nf : Nat) (i : SIns) (args : List Val) (hA : A.length = M.heap.length) (hok : ∀ a ∈ args, okV nf M.heap.length a = true) (hH : ∀ l ∈ M.heap, l.length <= 1024 /\ ∀ v ∈ l, okV nf M.heap.length v = true) (h2 : 0 <= M.left) (h3 : M.left <= 1000000) (ho : M.out.length <= 1000) (hl1 : 1 <= args.length) (hl2 : i.op ≠ 15 /\ i.op ≠ 17 -> 2 <= args.length) (hl3 : i.op = 20 -> 3 <= args.length) (hop : elemJ i.op [15, 16, 17, 18, 19, 20] = true) (hnew : i.op = 16 -> allocNew (argAt args 0) M = false) : VCalls Tryz.prog 112 [.ptr gm 0, insV i, valsX (rho A) args] (mcells gm u stk (outV tok M.out) M :: obuf tok M.out :: arrsS (rho A) A M.heap) λ r S' => ∃ A' tok', (∃ B, A' = A ++ B) /\ A'.length = (effectF i args M).1.heap.length /\ r = .tup [valX (rho A') (effectF i args M).2.1, .int (effectF i args M).2.2] /\ S' = mcells gm u stk (outV tok' (effectF i args M).1.out) (effectF i args M).1 :: obuf tok' (effectF i args M).1.out :: arrsS (rho A') A' (effectF i args M).1.heap := by
 refine VCalls_drops ?_
 have hr := effectF.eq_def i args M
 have hop2 : i.op = 15 \/ i.op = 16 \/ i.op = 17 \/ i.op = 18 \/ i.op = 19 \/ i.op = 20 := by simpa [elemJ] using hop
 refine V_start (nt := 137) Tryz.func112 rfl rfl rfl ?_
 refine Zb<|Zd<|Zc<|Zc2 rfl rfl<|λ g4 => (Zc<|Zb2 VT.zr159 _ rfl rfl<|λ g6 => (Zc<|Zk rfl<|Za<|Zi<|Zb<|Zb<|Zd<|Zc<|Zj VT.fa38_1 rfl<|Zc<|Zu 1 VT.ty3 rfl rfl rfl<|Za<|Zi<|Zs<|Zb<|Zd<|Zc<|Zj1 rfl rfl rfl<|Zc<|Zk rfl<|Za<|Zi<|Zl1 rfl (λ h12 => ?_)<|λ h12 => ?_))
 .
  rw [if_pos h12] at hr
  refine Zb<|Zb<|Zd<|Zc<|Zl rfl<|Zc<|Zz (el := valX (rho A) (argAt args 0)) VT.sl152 rfl rfl (by omega) (get_arg (by omega))<|λ a15 => (Zc<|Zw1 VT.fa159_0 rfl rfl<|Zc<|Zz1 VT.ty3 rfl rfl<|Zc<|Zj1 rfl rfl rfl<|Za<|Zi<|Zm1 rfl (λ h18 => ?_)<|λ h18 => ?_)
  .
   rw [if_pos h18] at hr
   refine Zb<|Zd<|Zc<|Zu2 (Zf2 [] [] VT.st159 rfl rfl rfl rfl ⟨rfl, rfl⟩) ((le_val (rho A) 0 0))<|Zc<|Zx 0 VT.ty159 rfl rfl rfl rfl rfl<|Zc<|Zk rfl<|Za<|Zi<|Zf1<|Zd1<|Za1<|Zd1<|Zh1 rfl rfl (.cons (.agg (i := 0) VT.ty159 rfl rfl rfl)<|.cons (.tmp rfl)<|.nil) ?_
   rw [hr]
   exact ⟨_, (Dd (Dd (Dk (Dk (Zt2 _))))), A, tok, ⟨[], (Ya _).symm⟩, hA, rfl, rfl⟩
  rw [if_neg (by omega)] at hr
  refine Zi1<|Zi<|Zb<|Zb<|Zd<|Zc<|Zl rfl<|Zc<|Zv1 rfl<|Zc<|Zj VT.fa121_5 rfl<|Zc<|Zj VT.fa52_0 rfl<|Zc<|Zu 2 VT.ty36 rfl rfl rfl<|Zc<|Zd2 (n := M.out.length) Tryz.underlying36 rfl (by simp)<|λ hl25 => (Zc<|Zj1 rfl rfl rfl<|Za<|Zi<|Zl1 rfl (λ h26 => ?_)<|λ h26 => ?_)
  .
   rw [if_pos h26] at hr
   refine Zb<|Zd<|Zc<|Zu2 (Zf2 [] [] VT.st159 rfl rfl rfl rfl ⟨rfl, rfl⟩) ((le_val (rho A) 0 0))<|Zc<|Zx 0 VT.ty159 rfl rfl rfl rfl rfl<|Zc<|Zk rfl<|Za<|Zi<|Zf1<|Zd1<|Za1<|Zd1<|Zh1 rfl rfl (.cons (.agg (i := 0) VT.ty159 rfl rfl rfl)<|.cons (.tmp rfl)<|.nil) ?_
   rw [hr]
   exact ⟨_, (Dd (Dd (Dk (Dk (Zt2 _))))), A, tok, ⟨[], (Ya _).symm⟩, hA, rfl, rfl⟩
  rw [if_neg h26] at hr
  refine Zi1<|Zi<|Zb<|VW_drawR (G := Tok) [([], [0], []), ([], [0], []), ([1], [29], []), ([2, 1], [30], []), ([3, 2, 1], [31], []), ([4, 3, 2, 1], [32], []), ([], [2], []), ([6], [34], []), ([7, 6], [35], []), ([8, 7, 6], [36], []), ([9, 8, 7, 6], [37], []), ([10, 9, 8, 7, 6, 5, 4, 3, 2, 1], [33, 38], [0]), (dn 12, [28], []), (dn 13, [40], []), (dn 14, [41], []), (dn 15, [42, 39], [])] [11, 15] (twoSt _ (λ x => .cells g6 159 VT.zs159 :: .cells g4 38 (insV i).leaves :: mcells gm u stk (outV tok M.out) M :: .buf x 3 1 (M.out.map V.int ++ [V.int (argAt args 0).n]).length :: arrsS (rho A) A M.heap) (λ x _ => .cells g6 159 VT.zs159 :: .cells g4 38 (insV i).leaves :: mcells gm u stk (.sl 1 (some x) (M.out.map V.int ++ [V.int (argAt args 0).n])) M :: .buf x 3 1 (M.out.map V.int ++ [V.int (argAt args 0).n]).length :: arrsS (rho A) A M.heap)) [] [28, 29, 30, 31, 32, 33, 34, 35, 36, 37, 38, 39, 40, 41, 42] rfl VT.mix<|Zp (Zm _) (Zm2 rfl<|λ _ => (λ γ => Zf<|λ _ h0 => Ze<|Zn rfl<|Zl h0 z0))<|Zp (Zm _) (Zo rfl rfl ⟨(λ γ => Zf (λ _ h0 => Ze (Zn rfl (Zl h0 z0)))), trivial⟩)<|Zp (Zm _) (Zo rfl rfl ⟨(λ γ => Zw 1 0 rfl (λ _ h29 => Ze (Zn rfl (Zv1 h29 z0)))), trivial⟩)<|Zp (Zm _) (Zo rfl rfl ⟨(λ γ => Zw 2 0 rfl (λ _ h30 => Ze (Zn rfl (Zj VT.fa121_5 h30 z0)))), trivial⟩)<|Zp (Zm _) (Zo rfl rfl ⟨(λ γ => Zw 3 0 rfl (λ _ h31 => Ze (Zn rfl (Zj VT.fa52_0 h31 z0)))), trivial⟩)<|Zp (Zm _) (Zo rfl rfl ⟨(λ γ => Zw 4 0 rfl (λ _ h32 => Ze (Zn rfl (Zu 2 VT.ty36 h32 rfl rfl z0)))), trivial⟩)<|Zp (Zm _) (Zo rfl rfl ⟨(λ γ => Zf (λ _ h2 => Ze (Zn rfl (Zl h2 z0)))), trivial⟩)<|Zp (Zb3 _) (Zo rfl rfl ⟨(λ γ => Zw 6 0 rfl (λ _ h34 => Ze (Zn rfl (Zz (el := valX (rho A) (argAt args 0)) VT.sl152 h34 rfl (by omega) (get_arg (by omega)) (λ a35 => ⟨⟨_, rfl⟩, rfl⟩))))), trivial⟩)<|Zp (Zb3 _) (Zo rfl rfl ⟨(λ γ => Zw 7 0 rfl (λ _ h35 => Ze (Zc3 h35 (λ a_35 e35 => Zn rfl (Zw1 VT.fa159_1 e35 rfl ⟨⟨_, rfl⟩, rfl⟩))))), trivial⟩)<|Zp (Zm _) (Zo rfl rfl ⟨(λ γ => Zw 8 0 rfl (λ _ h36 => Ze (Zc3 h36 (λ a_36 e36 => Zn rfl (Zz1 VT.ty3 e36 rfl z0))))), trivial⟩)<|Zp (Zm _) (Zo rfl rfl ⟨(λ γ => Zw 9 0 rfl (λ _ h37 => Ze (Zn rfl (Zk3 [.tmp 37] VT.sl36 rfl rfl rfl (Zp2 h37 Zq2) rfl z0)))), trivial⟩)<|Zp (Zw2<|λ x => .sl 1 (some x) (M.out.map V.int ++ [V.int (argAt args 0).n])) (Zo2 0 rfl<|λ γ => Zw 5 5 rfl<|λ _ h33 => Zw 10 0 rfl<|λ _ h38 => Ze<|Zn rfl<|Zi3 3 _ VT.sl36 h33 h38 rfl (by simp) (by simp; omega)<|λ t39 => ⟨t39, ⟨t39, rfl, rfl⟩, rfl⟩)<|Zp (Zm _) (Zo rfl rfl ⟨(λ γ => Zw 0 11 rfl (λ _ h28 => Ze (Zn rfl (Zv1 h28 z0)))), trivial⟩)<|Zp (Zm _) (Zo rfl rfl ⟨(λ γ => Zw 12 0 rfl (λ _ h40 => Ze (Zn rfl (Zj VT.fa121_5 h40 z0)))), trivial⟩)<|Zp (Zm _) (Zo rfl rfl ⟨(λ γ => Zw 13 0 rfl (λ _ h41 => Ze (Zn rfl (Zj VT.fa52_0 h41 z0)))), trivial⟩)<|Zp Za3 (Zo2 1 rfl<|λ γ => Zw 14 0 rfl<|λ _ h42 => Zw 11 3 rfl<|λ _ h39 => Ze<|Zx2 h39<|λ e39 => Zn rfl<|Zy 2 VT.ty36 h42 e39 rfl rfl rfl ⟨default, trivial, rfl⟩)<|DrawP_nil<|λ γ => Ze<|Zi<|Zb<|Zd<|Zc<|Zx1 [.const (.int .i64 (0))] rfl rfl VT.en107 (wordOf_c (rho A) _)<|Zc<|Zx 0 VT.ty159 rfl rfl rfl rfl rfl<|Zc<|Zk rfl<|Za<|Zi<|Zf1<|Za1<|Zd1<|Zh1 rfl rfl (.cons (.agg (i := 0) VT.ty159 rfl rfl rfl)<|.cons (.tmp rfl)<|.nil) ?_
  rw [hr]
  refine ⟨_, (Dd (Dd (Dk (Dk (Zt2 _))))), A, γ 0, ⟨[], (Ya _).symm⟩, hA, rfl, ?_⟩
  simp [outV, obuf, List.map_append]
 rw [if_neg h12] at hr
 refine Zb<|Zd<|Zc<|Zj1 rfl rfl rfl<|Zc<|Zk rfl<|Za<|Zi<|Zl1 rfl (λ h44 => ?_)<|λ h44 => ?_
 .
  rw [if_pos h44] at hr
  have hl4 := hl2 (by omega)
  have hnw := hnew h44
  refine Zb<|VW_drawR (G := Unit) [([], [0], []), ([], [2], []), ([1], [47], []), ([2, 1], [48], []), ([], [2], []), ([4], [50], []), ([5, 4], [51], []), (dn 7, [46, 49, 52], []), (dn 8, [53], []), (dn 8, [53], []), (dn 10, [6, 54], []), (dn 11, [55], [])] [7, 10] (twoSt _ (λ _ => mcells gm u stk (outV tok M.out) (allocF (argAt args 0) (argAt args 1) M).1 :: .cells g6 159 VT.zs159 :: .cells g4 38 (insV i).leaves :: obuf tok M.out :: arrsS (rho A) A M.heap) (λ _ _ => mcells gm u stk (outV tok M.out) (allocF (argAt args 0) (argAt args 1) M).1 :: .cells g6 159 (valX (rho A) (allocF (argAt args 0) (argAt args 1) M).2.1).leaves :: .cells g4 38 (insV i).leaves :: obuf tok M.out :: arrsS (rho A) A M.heap)) [7] [7, 46, 47, 48, 49, 50, 51, 52, 53, 54, 55] rfl VT.mix<|Zp (Zm _) (Zo rfl rfl ⟨(λ γ => Zf (λ _ h0 => Ze (Zn rfl (Zl h0 z0)))), trivial⟩)<|Zp (Zm _) (Zo rfl rfl ⟨(λ γ => Zf (λ _ h2 => Ze (Zn rfl (Zl h2 z0)))), trivial⟩)<|Zp (Zb3 _) (Zo rfl rfl ⟨(λ γ => Zw 1 0 rfl (λ _ h47 => Ze (Zn rfl (Zz (el := valX (rho A) (argAt args 0)) VT.sl152 h47 rfl (by omega) (get_arg (by omega)) (λ a48 => ⟨⟨_, rfl⟩, rfl⟩))))), trivial⟩)<|Zp (Zm _) (Zo rfl rfl ⟨(λ γ => Zw 2 0 rfl (λ _ h48 => Ze (Zc3 h48 (λ a_48 e48 => Zn rfl (Za2 VT.ty159 e48 rfl z0))))), trivial⟩)<|Zp (Zm _) (Zo rfl rfl ⟨(λ γ => Zf (λ _ h2 => Ze (Zn rfl (Zl h2 z0)))), trivial⟩)<|Zp (Zb3 _) (Zo rfl rfl ⟨(λ γ => Zw 4 0 rfl (λ _ h50 => Ze (Zn rfl (Zz (el := valX (rho A) (argAt args 1)) VT.sl152 h50 rfl (by omega) (get_arg (by omega)) (λ a51 => ⟨⟨_, rfl⟩, rfl⟩))))), trivial⟩)<|Zp (Zm _) (Zo rfl rfl ⟨(λ γ => Zw 5 0 rfl (λ _ h51 => Ze (Zc3 h51 (λ a_51 e51 => Zn rfl (Za2 VT.ty159 e51 rfl z0))))), trivial⟩)<|Zp (Zm<|.tup [valX (rho A) (allocF (argAt args 0) (argAt args 1) M).2.1, .int (allocF (argAt args 0) (argAt args 1) M).2.2]) (Zo2 0 rfl<|λ γ => Zw 0 6 rfl<|λ _ h46 => Zw 3 3 rfl<|λ _ h49 => Zw 6 0 rfl<|λ _ h52 => Ze<|Zn rfl<|Zm3 [.tmp 46, .tmp 49, .tmp 52] [_] _ rfl (Zp2 h46<|Zp2 h49<|Zp2 h52 Zq2) VT.en125 (Zv2 (i := 2) rfl) (alloc0_c gm u stk (outV tok M.out) M (rho A) (argAt args 0) (argAt args 1) h2 h3 hnw) (λ r Sa h => by obtain ⟨h1, h2⟩ := h; subst h1 h2; exact ⟨(), rfl, rfl⟩))<|Zp (Zm _) (Zo rfl rfl ⟨(λ γ => Zw 7 0 rfl (λ _ h53 => Ze (Zn rfl (Zg2 h53 rfl z0)))), trivial⟩)<|Zp (Zm _) (Zo rfl rfl ⟨(λ γ => Zw 7 1 rfl (λ _ h53 => Ze (Zn rfl (Zg2 h53 rfl z0)))), trivial⟩)<|Zp Za3 (Zo2 1 rfl<|λ γ => Zf<|λ _ h6 => Zw 8 1 rfl<|λ _ h54 => Ze<|Zn rfl<|Zx 1 VT.ty159 h6 h54 rfl rfl rfl ⟨(), trivial, rfl⟩)<|Zp (Zm _) (Zo rfl rfl ⟨(λ γ => Zw 9 1 rfl (λ _ h55 => Ze (Zn rfl (Zk h55 z0)))), trivial⟩)<|DrawP_nil<|λ γ => Zw 11 0 rfl<|λ r7 h7 => Ze ?_
  have e7 : r7 = some _ := h7
  subst e7
  clear h7
  refine Zi<|Zf1<|Za1<|Zd1<|Zh1 rfl rfl (.cons (.agg (i := 1) VT.ty159 rfl rfl rfl)<|.cons (.tmp rfl)<|.nil) ?_
  rw [hr]
  refine ⟨_, (Dk (Dd (Dd (Dk (Zt2 _))))), A, tok, ⟨[], (Ya _).symm⟩, ?_, rfl, ?_⟩
  . rw [allocF_old hnw]; exact hA
  rw [allocF_out, allocF_old hnw]
 rw [if_neg h44] at hr
 refine Zb<|Zd<|Zc<|Zj1 rfl rfl rfl<|Zc<|Zk rfl<|Za<|Zi<|Zl1 rfl (λ h56 => ?_)<|λ h56 => ?_
 .
  rw [if_pos h56] at hr
  have hl4 := hl2 (by omega)
  refine Zb<|Zb<|Zd<|Zc<|Zl rfl<|Zc<|Zx1 [.tmp 58, .const (.int .i64 (0))] rfl rfl VT.en108 (all_c (rho A) args _)<|Zc<|Zl2 rfl<|Za<|Zi<|Zo1 rfl (λ h60 => ?_)<|λ h60 => ?_
  .
   rw [if_pos h60] at hr
   refine Zb<|Zd<|Zc<|Zu2 (Zf2 [] [] VT.st159 rfl rfl rfl rfl ⟨rfl, rfl⟩) ((le_val (rho A) 0 0))<|Zc<|Zx 0 VT.ty159 rfl rfl rfl rfl rfl<|Zc<|Zk rfl<|Za<|Zi<|Zf1<|Zd1<|Za1<|Zd1<|Zh1 rfl rfl (.cons (.agg (i := 0) VT.ty159 rfl rfl rfl)<|.cons (.tmp rfl)<|.nil) ?_
   rw [hr]
   exact ⟨_, (Dd (Dd (Dk (Dk (Zt2 _))))), A, tok, ⟨[], (Ya _).symm⟩, hA, rfl, rfl⟩
  rw [if_neg (by rw [h60]; decide)] at hr
  refine Zi1<|Zi<|Zb<|Zb ?_
  rcases Bool.eq_false_or_eq_true (decide ((argAt args 0).n < 0)) with hq66 | hq66
  .
   refine VW_drawR (G := Unit) [([], [2], []), ([0], [62], []), ([1, 0], [63], []), ([2, 1, 0], [64], []), (dn 4, [65], []), (dn 5, [66], []), (dn 6, [2, 67], []), (dn 7, [68, 67], []), (dn 8, [69, 67], []), (dn 9, [70, 67], []), (dn 6, [2, 67], []), ([10, 5, 4, 3, 2, 1, 0], [72, 67], []), ([11, 10, 5, 4, 3, 2, 1, 0], [73, 67], []), ([12, 11, 10, 5, 4, 3, 2, 1, 0], [74, 67], []), (dn 14, [71, 75, 67], []), (dn 15, [67, 76], [])] [] (constSt _) [77] [62, 63, 64, 65, 66, 67, 68, 69, 70, 71, 72, 73, 74, 75, 76, 77] rfl VT.mix<|ZA (λ γ => Zf<|λ _ h2 => Ze<|Zn rfl<|Zl h2 z0)<|Zp (Zb3 _) (Zq<|λ γ => Zw 0 0 rfl<|λ _ h62 => Ze<|Zn rfl<|Zz (el := valX (rho A) (argAt args 0)) VT.sl152 h62 rfl (by omega) (get_arg (by omega))<|λ a63 => ⟨⟨_, rfl⟩, rfl⟩)<|Zp (Zb3 _) (Zq<|λ γ => Zw 1 0 rfl<|λ _ h63 => Ze<|Zc3 h63<|λ a_63 e63 => Zn rfl<|Zw1 VT.fa159_1 e63 rfl ⟨⟨_, rfl⟩, rfl⟩)<|ZA (λ γ => Zw 2 0 rfl<|λ _ h64 => Ze<|Zc3 h64<|λ a_64 e64 => Zn rfl<|Zz1 VT.ty3 e64 rfl z0)<|ZA (λ γ => Zw 3 0 rfl<|λ _ h65 => Ze<|Zn rfl<|Zj1 h65 rfl rfl z0)<|ZA (λ γ => Zw 4 0 rfl<|λ _ h66 => Ze<|Zn rfl<|Zl h66 z0)<|ZA (λ γ => Zf<|λ _ h2 => Zw 5 0 rfl<|λ _ h67 => Ze<|Zy2 (Zr rfl rfl h67 hq66) z0)<|ZA (λ γ => Zw 6 0 rfl<|λ _ h68 => Zw 5 1 rfl<|λ _ h67 => Ze<|Zy2 (Zr rfl rfl h67 hq66) z0)<|ZA (λ γ => Zw 7 0 rfl<|λ _ h69 => Zw 5 2 rfl<|λ _ h67 => Ze<|Zy2 (Zr rfl rfl h67 hq66) z0)<|ZA (λ γ => Zw 8 0 rfl<|λ _ h70 => Zw 5 3 rfl<|λ _ h67 => Ze<|Zy2 (Zr rfl rfl h67 hq66) z0)<|ZA (λ γ => Zf<|λ _ h2 => Zw 5 4 rfl<|λ _ h67 => Ze<|Zy2 (Zr rfl rfl h67 hq66) z0)<|ZA (λ γ => Zw 10 0 rfl<|λ _ h72 => Zw 5 5 rfl<|λ _ h67 => Ze<|Zy2 (Zr rfl rfl h67 hq66) z0)<|ZA (λ γ => Zw 11 0 rfl<|λ _ h73 => Zw 5 6 rfl<|λ _ h67 => Ze<|Zy2 (Zr rfl rfl h67 hq66) z0)<|ZA (λ γ => Zw 12 0 rfl<|λ _ h74 => Zw 5 7 rfl<|λ _ h67 => Ze<|Zy2 (Zr rfl rfl h67 hq66) z0)<|ZA (λ γ => Zw 9 4 rfl<|λ _ h71 => Zw 13 0 rfl<|λ _ h75 => Zw 5 8 rfl<|λ _ h67 => Ze<|Zy2 (Zr rfl rfl h67 hq66) z0)<|ZA (λ γ => Zw 5 9 rfl<|λ _ h67 => Zw 14 0 rfl<|λ _ h76 => Ze<|Zn rfl<|Zs1 h67 hq66 rfl z0)<|DrawP_nil<|λ γ => Zw 15 0 rfl<|λ r77 h77 => Ze ?_
   have e77 : r77 = some _ := h77
   subst e77
   clear h77
   refine Zi<|Zp1 rfl rfl ?_
   rw [if_pos (.inl (decT hq66))] at hr
   refine Zb<|Zd<|Zc<|Zu2 (Zf2 [] [] VT.st159 rfl rfl rfl rfl ⟨rfl, rfl⟩) ((le_val (rho A) 0 0))<|Zc<|Zx 0 VT.ty159 rfl rfl rfl rfl rfl<|Zc<|Zk rfl<|Za<|Zi<|Zf1<|Zd1<|Za1<|Zd1<|Zh1 rfl rfl (.cons (.agg (i := 0) VT.ty159 rfl rfl rfl)<|.cons (.tmp rfl)<|.nil) ?_
   rw [hr]
   exact ⟨_, (Dd (Dd (Dk (Dk (Zt2 _))))), A, tok, ⟨[], (Ya _).symm⟩, hA, rfl, rfl⟩
  refine VW_drawR (G := Unit) [([], [2], []), ([0], [62], []), ([1, 0], [63], []), ([2, 1, 0], [64], []), (dn 4, [65], []), (dn 5, [66], []), (dn 6, [2, 67], []), (dn 7, [68, 67], []), (dn 8, [69, 67], []), (dn 9, [70, 67], []), (dn 6, [2, 67], []), ([10, 5, 4, 3, 2, 1, 0], [72, 67], []), ([11, 10, 5, 4, 3, 2, 1, 0], [73, 67], []), ([12, 11, 10, 5, 4, 3, 2, 1, 0], [74, 67], []), (dn 14, [71, 75, 67], []), (dn 15, [67, 76], [])] [] (constSt _) [77] [62, 63, 64, 65, 66, 67, 68, 69, 70, 71, 72, 73, 74, 75, 76, 77] rfl VT.mix<|ZA (λ γ => Zf<|λ _ h2 => Ze<|Zn rfl<|Zl h2 z0)<|Zp (Zb3 _) (Zq<|λ γ => Zw 0 0 rfl<|λ _ h62 => Ze<|Zn rfl<|Zz (el := valX (rho A) (argAt args 0)) VT.sl152 h62 rfl (by omega) (get_arg (by omega))<|λ a63 => ⟨⟨_, rfl⟩, rfl⟩)<|Zp (Zb3 _) (Zq<|λ γ => Zw 1 0 rfl<|λ _ h63 => Ze<|Zc3 h63<|λ a_63 e63 => Zn rfl<|Zw1 VT.fa159_1 e63 rfl ⟨⟨_, rfl⟩, rfl⟩)<|ZA (λ γ => Zw 2 0 rfl<|λ _ h64 => Ze<|Zc3 h64<|λ a_64 e64 => Zn rfl<|Zz1 VT.ty3 e64 rfl z0)<|ZA (λ γ => Zw 3 0 rfl<|λ _ h65 => Ze<|Zn rfl<|Zj1 h65 rfl rfl z0)<|ZA (λ γ => Zw 4 0 rfl<|λ _ h66 => Ze<|Zn rfl<|Zl h66 z0)<|ZA (λ γ => Zf<|λ _ h2 => Zw 5 0 rfl<|λ _ h67 => Ze<|Zn (Zg rfl rfl h67 hq66)<|Zl h2 z0)<|Zp (Zb3 _) (Zq<|λ γ => Zw 6 0 rfl<|λ _ h68 => Zw 5 1 rfl<|λ _ h67 => Ze<|Zn (Zg rfl rfl h67 hq66)<|Zz (el := valX (rho A) (argAt args 0)) VT.sl152 h68 rfl (by omega) (get_arg (by omega))<|λ a69 => ⟨⟨_, rfl⟩, rfl⟩)<|Zp (Zb3 _) (Zq<|λ γ => Zw 7 0 rfl<|λ _ h69 => Zw 5 2 rfl<|λ _ h67 => Ze<|Zc3 h69<|λ a_69 e69 => Zn (Zg rfl rfl h67 hq66)<|Zw1 VT.fa159_1 e69 rfl ⟨⟨_, rfl⟩, rfl⟩)<|ZA (λ γ => Zw 8 0 rfl<|λ _ h70 => Zw 5 3 rfl<|λ _ h67 => Ze<|Zc3 h70<|λ a_70 e70 => Zn (Zg rfl rfl h67 hq66)<|Zz1 VT.ty3 e70 rfl z0)<|ZA (λ γ => Zf<|λ _ h2 => Zw 5 4 rfl<|λ _ h67 => Ze<|Zn (Zg rfl rfl h67 hq66)<|Zl h2 z0)<|Zp (Zb3 _) (Zq<|λ γ => Zw 10 0 rfl<|λ _ h72 => Zw 5 5 rfl<|λ _ h67 => Ze<|Zn (Zg rfl rfl h67 hq66)<|Zz (el := valX (rho A) (argAt args 1)) VT.sl152 h72 rfl (by omega) (get_arg (by omega))<|λ a73 => ⟨⟨_, rfl⟩, rfl⟩)<|Zp (Zb3 _) (Zq<|λ γ => Zw 11 0 rfl<|λ _ h73 => Zw 5 6 rfl<|λ _ h67 => Ze<|Zc3 h73<|λ a_73 e73 => Zn (Zg rfl rfl h67 hq66)<|Zw1 VT.fa159_1 e73 rfl ⟨⟨_, rfl⟩, rfl⟩)<|ZA (λ γ => Zw 12 0 rfl<|λ _ h74 => Zw 5 7 rfl<|λ _ h67 => Ze<|Zc3 h74<|λ a_74 e74 => Zn (Zg rfl rfl h67 hq66)<|Zz1 VT.ty3 e74 rfl z0)<|ZA (λ γ => Zw 9 4 rfl<|λ _ h71 => Zw 13 0 rfl<|λ _ h75 => Zw 5 8 rfl<|λ _ h67 => Ze<|Zn (Zg rfl rfl h67 hq66)<|Zj1 h71 h75 rfl z0)<|ZA (λ γ => Zw 5 9 rfl<|λ _ h67 => Zw 14 0 rfl<|λ _ h76 => Ze<|Zn rfl<|Zt1 h67 hq66 h76 z0)<|DrawP_nil<|λ γ => Zw 15 0 rfl<|λ r77 h77 => Ze ?_
  have e77 : r77 = some _ := h77
  subst e77
  clear h77
  refine Zi<|Zn1 rfl (λ h77 => ?_)<|λ h77 => ?_
  .
   rw [if_pos (.inr h77)] at hr
   refine Zb<|Zd<|Zc<|Zu2 (Zf2 [] [] VT.st159 rfl rfl rfl rfl ⟨rfl, rfl⟩) ((le_val (rho A) 0 0))<|Zc<|Zx 0 VT.ty159 rfl rfl rfl rfl rfl<|Zc<|Zk rfl<|Za<|Zi<|Zf1<|Zd1<|Za1<|Zd1<|Zh1 rfl rfl (.cons (.agg (i := 0) VT.ty159 rfl rfl rfl)<|.cons (.tmp rfl)<|.nil) ?_
   rw [hr]
   exact ⟨_, (Dd (Dd (Dk (Dk (Zt2 _))))), A, tok, ⟨[], (Ya _).symm⟩, hA, rfl, rfl⟩
  have hx66 := decF hq66
  rw [if_neg (by omega)] at hr
  refine Zi1<|Zi<|Zb<|Zd<|Zc<|Zx1 [.const (.int .i64 (0))] rfl rfl VT.en107 (wordOf_c (rho A) _)<|Zc<|Zx 0 VT.ty159 rfl rfl rfl rfl rfl<|Zc<|Zk rfl<|Za<|Zi<|Zf1<|Za1<|Zd1<|Zh1 rfl rfl (.cons (.agg (i := 0) VT.ty159 rfl rfl rfl)<|.cons (.tmp rfl)<|.nil) ?_
  rw [hr]
  exact ⟨_, (Dd (Dd (Dk (Dk (Zt2 _))))), A, tok, ⟨[], (Ya _).symm⟩, hA, rfl, rfl⟩
 rw [if_neg h56] at hr
 refine Zi1<|Zb1<|Zi<|Zb<|Zb<|Zd<|Zc<|Zl rfl<|Zc<|Zz (el := valX (rho A) (argAt args 0)) VT.sl152 rfl rfl (by omega) (get_arg (by omega))<|λ a81 => (Zc<|Zw1 VT.fa159_0 rfl rfl<|Zc<|Zz1 VT.ty3 rfl rfl<|Zc<|Zj1 rfl rfl rfl<|Zc<|Zl rfl<|Zj2 (q := 85) rfl (λ hq85 => ?_)<|λ hq85 => ?_)
 .
  have hx85 := bneT hq85
  refine Zk0 hq85<|Zk0 hq85<|Zk0 hq85<|Zk0 hq85<|Zh (.inr ⟨_, _, 89, rfl, rfl, rfl⟩) rfl<|Zh (.inr ⟨_, _, 89, rfl, rfl, rfl⟩) rfl<|Zh (.inr ⟨_, _, 89, rfl, rfl, rfl⟩) rfl<|Zh (.inr ⟨_, _, 89, rfl, rfl, rfl⟩) rfl<|Zh (.inr ⟨_, _, 89, rfl, rfl, rfl⟩) rfl<|Zk0 hq85<|Zc<|Zs1 rfl hq85 rfl<|Za<|Zi<|Zp1 rfl rfl ?_
  rw [if_pos (.inl hx85)] at hr
  refine Zb<|Zd<|Zc<|Zu2 (Zf2 [] [] VT.st159 rfl rfl rfl rfl ⟨rfl, rfl⟩) ((le_val (rho A) 0 0))<|Zc<|Zx 0 VT.ty159 rfl rfl rfl rfl rfl<|Zc<|Zk rfl<|Za<|Zi<|Zf1<|Zd1<|Zh1 rfl rfl (.cons (.agg (i := 0) VT.ty159 rfl rfl rfl)<|.cons (.tmp rfl)<|.nil) ?_
  rw [hr]
  exact ⟨_, (Dd (Dd (Dk (Dk (Zt2 _))))), A, tok, ⟨[], (Ya _).symm⟩, hA, rfl, rfl⟩
 have hx85 := bneF hq85
 refine Zc (Zj VT.fa38_1 rfl ?_)<|Zy0 hq85
 refine Zc (Zu 1 VT.ty3 rfl rfl rfl ?_)<|Zy0 hq85
 refine Zc (Zj1 rfl rfl rfl ?_)<|Zy0 hq85
 refine Zc (Zl rfl ?_)<|Zy0 hq85
 refine Zj2 (q := 89) rfl (λ hq89 => ?_)<|λ hq89 => ?_
 .
  have hx89 := bneT hq89
  have hl4 := hl2 (by omega)
  refine Zc (Zl rfl ?_)<|Zy1 hq89
  refine Zc (Zz (el := valX (rho A) (argAt args 1)) VT.sl152 rfl rfl (by omega) (get_arg (by omega))<|λ a91 => ?_)<|Zy1 hq89
  refine Zc (Zw1 VT.fa159_0 rfl rfl ?_)<|Zy1 hq89
  refine Zc (Zz1 VT.ty3 rfl rfl ?_)<|Zy1 hq89
  refine Zc (Zj1 rfl rfl rfl ?_)<|Zy1 hq89
  refine Zc (Zs1 rfl hq89 rfl ?_)<|Zy0 hq85
  refine Zc<|Zt1 rfl hq85 rfl<|Za<|Zi<|Zm1 rfl (λ h96 => ?_)<|λ h96 => ?_
  .
   rw [if_pos (.inr ⟨hx89, h96⟩)] at hr
   refine Zb<|Zd<|Zc<|Zu2 (Zf2 [] [] VT.st159 rfl rfl rfl rfl ⟨rfl, rfl⟩) ((le_val (rho A) 0 0))<|Zc<|Zx 0 VT.ty159 rfl rfl rfl rfl rfl<|Zc<|Zk rfl<|Za<|Zi<|Zf1<|Zd1<|Zh1 rfl rfl (.cons (.agg (i := 0) VT.ty159 rfl rfl rfl)<|.cons (.tmp rfl)<|.nil) ?_
   rw [hr]
   exact ⟨_, (Dd (Dd (Dk (Dk (Zt2 _))))), A, tok, ⟨[], (Ya _).symm⟩, hA, rfl, rfl⟩
  have hkw : (argAt args 1).kind = 0 := by omega
  rw [if_neg (by omega)] at hr
  refine Zi1<|Zi ?_
  obtain ⟨k, hk, hkl⟩ := arr_of (argAt_ok hok 0) hx85
  obtain ⟨x, hx⟩ : ∃ x, A[k]? = some x := ⟨_, Yf (by omega)⟩
  obtain ⟨l, hl⟩ : ∃ l, M.heap[k]? = some l := ⟨_, Yf hkl⟩
  have hll := (hH l (Yc hl)).1
  have hao : arrOf M (argAt args 0) = l := by rw [arrOf, hk]; simp [hl]
  rw [hao] at hr
  have hrk : arrV (rho A) (argAt args 0).arr = .ptr x.1 0 := by rw [hk, arrV, rho, hx]; rfl
  have hsa : ∀ L, setArr M (argAt args 0) L = { M with heap := M.heap.set k L } := λ L => by unfold setArr; rw [hk]
  refine VW_perm (((((arrsS_perm (rho A) hx hl).cons _).cons _).cons _).cons _)<|Zb<|Zd<|Zc<|Zl rfl<|Zc<|Zz (el := valX (rho A) (argAt args 0)) VT.sl152 rfl rfl (by omega) (get_arg (by omega))<|λ a99 => (Zc<|Zw1 VT.fa159_3 rfl rfl<|Zc<|Zu2 (Zz1 VT.ty157 rfl (arrV_leaf _ _) ⟨rfl, rfl⟩) ((V.le.of_eq hrk))<|Zc<|Zv1 rfl<|Zc<|Zu 4 VT.ty152 rfl rfl rfl<|Zc<|Zk rfl<|Za<|Zi<|Zb<|Zb<|Zd<|Zc<|Zj VT.fa38_1 rfl<|Zc<|Zu 1 VT.ty3 rfl rfl rfl<|Zc<|Zj1 rfl rfl rfl<|Za<|Zi<|Zl1 rfl (λ h106 => ?_)<|λ h106 => ?_)
  .
   rw [if_pos h106] at hr
   refine Zb<|Zd<|Zc<|Zl rfl<|Zc<|V_len_raw Tryz.underlying152 rfl<|Zc<|Zx1 [.tmp 108] rfl rfl VT.en107 (wordOf_c (rho A) _)<|Zc<|Zx 0 VT.ty159 rfl rfl rfl rfl rfl<|Zc<|Zk rfl<|Za<|Zi<|Zf1<|Zd1<|Zh1 rfl rfl (.cons (.agg (i := 0) VT.ty159 rfl rfl rfl)<|.cons (.tmp rfl)<|.nil) ?_
   rw [hr]
   exact ⟨_, Dd (Dd (Dk (Dk (Drops.of_perm (arrsS_perm (rho A) hx hl).symm)))), A, tok, ⟨[], (Ya _).symm⟩, hA, rfl, rfl⟩
  rw [if_neg h106] at hr
  have hl4 : 2 <= args.length := hl2 (by omega)
  refine Zi1<|Zi<|Zb<|Zd<|Zc<|Zl rfl<|Zc<|Zz (el := valX (rho A) (argAt args 1)) VT.sl152 rfl rfl (by omega) (get_arg (by omega))<|λ a111 => (Zc<|Zw1 VT.fa159_1 rfl rfl<|Zc<|Zz1 VT.ty3 rfl rfl<|Zc<|Zk rfl<|Za<|Zi<|Zb<|Zb<|Zd<|Zc<|Zl rfl<|Zc<|Zj1 rfl rfl rfl<|Zc<|Zl rfl<|Zj2 (q := 116) rfl (λ hq116 => ?_)<|λ hq116 => ?_)
  .
   have hx116 := decT hq116
   refine Zk0 hq116<|Zk0 hq116<|Zk0 hq116<|Zk0 hq116<|Zc<|Zs1 rfl hq116 rfl<|Za<|Zi<|Zp1 rfl rfl ?_
   rw [if_pos (.inl hx116)] at hr
   refine Zb<|Zd<|Zc<|Zu2 (Zf2 [] [] VT.st159 rfl rfl rfl rfl ⟨rfl, rfl⟩) ((le_val (rho A) 0 0))<|Zc<|Zx 0 VT.ty159 rfl rfl rfl rfl rfl<|Zc<|Zk rfl<|Za<|Zi<|Zf1<|Zd1<|Zh1 rfl rfl (.cons (.agg (i := 0) VT.ty159 rfl rfl rfl)<|.cons (.tmp rfl)<|.nil) ?_
   rw [hr]
   exact ⟨_, Dd (Dd (Dk (Dk (Drops.of_perm (arrsS_perm (rho A) hx hl).symm)))), A, tok, ⟨[], (Ya _).symm⟩, hA, rfl, rfl⟩
  have hx116 := decF hq116
  refine Zc (Zl rfl ?_)<|Zy0 hq116
  refine Zc (Zl rfl ?_)<|Zy0 hq116
  refine Zc (V_len_raw Tryz.underlying152 rfl ?_)<|Zy0 hq116
  refine Zc (Zj1 rfl rfl rfl ?_)<|Zy0 hq116
  refine Zc<|Zt1 rfl hq116 rfl<|Za<|Zi<|Zn1 rfl (λ h121 => ?_)<|λ h121 => ?_
  .
   rw [if_pos (.inr (by omega))] at hr
   refine Zb<|Zd<|Zc<|Zu2 (Zf2 [] [] VT.st159 rfl rfl rfl rfl ⟨rfl, rfl⟩) ((le_val (rho A) 0 0))<|Zc<|Zx 0 VT.ty159 rfl rfl rfl rfl rfl<|Zc<|Zk rfl<|Za<|Zi<|Zf1<|Zd1<|Zh1 rfl rfl (.cons (.agg (i := 0) VT.ty159 rfl rfl rfl)<|.cons (.tmp rfl)<|.nil) ?_
   rw [hr]
   exact ⟨_, Dd (Dd (Dk (Dk (Drops.of_perm (arrsS_perm (rho A) hx hl).symm)))), A, tok, ⟨[], (Ya _).symm⟩, hA, rfl, rfl⟩
  rw [if_neg (by omega)] at hr
  refine Zi1<|Zi<|Zb<|Zb<|Zd<|Zc<|Zj VT.fa38_1 rfl<|Zc<|Zu 1 VT.ty3 rfl rfl rfl<|Zc<|Zj1 rfl rfl rfl<|Za<|Zi<|Zl1 rfl (λ h125 => ?_)<|λ h125 => ?_
  .
   rw [if_pos h125] at hr
   refine Zb<|Zd<|Zc<|Zl rfl<|Zc<|Zl rfl<|Zc<|Zr2 VT.sl152 rfl rfl (by omega) (by omega)<|Zc<|Ze3 5 (argAt args 1).n.toNat VT.ty159 rfl (by simp) rfl (rowV_nil _ _) (vals_fit _ _) (get_argX (by omega))<|Zc<|Zx 0 VT.ty159 rfl rfl rfl rfl rfl<|Zc<|Zk rfl<|Za<|Zi<|Zf1<|Zd1<|Zh1 rfl rfl (.cons (.agg (i := 0) VT.ty159 rfl rfl rfl)<|.cons (.tmp rfl)<|.nil) ?_
   rw [hr]
   exact ⟨_, Dd (Dd (Dk (Dk (Drops.of_perm (arrsS_perm (rho A) hx hl).symm)))), A, tok, ⟨[], (Ya _).symm⟩, hA, rfl, rfl⟩
  rw [if_neg h125] at hr
  have hl5 := hl3 (by omega)
  refine Zi1<|Zi<|Zb<|Zd<|Zc<|Zl rfl<|Zc<|Zl rfl<|Zc<|Zl rfl<|Zc<|Zz (el := valX (rho A) (argAt args 2)) VT.sl152 rfl rfl (by omega) (get_arg (by omega))<|λ a133 => (Zc<|Za2 VT.ty159 rfl rfl<|Zc<|Zr2 VT.sl152 rfl rfl (by omega) (by omega)<|Zc<|Zg3 5 (argAt args 1).n.toNat VT.ty159 rfl (by simp) rfl rfl rfl (rowV_nil _ _) (vals_fit _ _) (by rw [Yi]; omega)<|Za<|Zi<|Zb<|Zd<|Zc<|Zx1 [.const (.int .i64 (0))] rfl rfl VT.en107 (wordOf_c (rho A) _)<|Zc<|Zx 0 VT.ty159 rfl rfl rfl rfl rfl<|Zc<|Zk rfl<|Za<|Zi<|Zf1<|Zh1 rfl rfl (.cons (.agg (i := 0) VT.ty159 rfl rfl rfl)<|.cons (.tmp rfl)<|.nil) ?_)
  rw [hsa] at hr
  rw [hr]
  refine ⟨_, Dd (Dd (Dk (Dk ((Dk (Drops.keepE (congrArg (Own.cells x.2 159) (rowV_set (rho A) l (argAt args 1).n.toNat (argAt args 2))) (Zt2 _))).trans (Drops.of_perm (arrsS_set (rho A) hx hl (by simp))))))), A, tok, ⟨[], (Ya _).symm⟩, ?_, rfl, rfl⟩
  simp [hA]
 have hx89 := bneF hq89
 refine Zk1 hq89<|Zk1 hq89<|Zk1 hq89<|Zk1 hq89<|Zk1 hq89<|Zc (Zt1 rfl hq89 rfl ?_)<|Zy0 hq85
 refine Zc<|Zt1 rfl hq85 rfl<|Za<|Zi<|Zq1 rfl rfl ?_
 rw [if_neg (by omega)] at hr
 refine Zi1<|Zi ?_
 obtain ⟨k, hk, hkl⟩ := arr_of (argAt_ok hok 0) hx85
 obtain ⟨x, hx⟩ : ∃ x, A[k]? = some x := ⟨_, Yf (by omega)⟩
 obtain ⟨l, hl⟩ : ∃ l, M.heap[k]? = some l := ⟨_, Yf hkl⟩
 have hll := (hH l (Yc hl)).1
 have hao : arrOf M (argAt args 0) = l := by rw [arrOf, hk]; simp [hl]
 rw [hao] at hr
 have hrk : arrV (rho A) (argAt args 0).arr = .ptr x.1 0 := by rw [hk, arrV, rho, hx]; rfl
 have hsa : ∀ L, setArr M (argAt args 0) L = { M with heap := M.heap.set k L } := λ L => by unfold setArr; rw [hk]
 refine VW_perm (((((arrsS_perm (rho A) hx hl).cons _).cons _).cons _).cons _)<|Zb<|Zd<|Zc<|Zl rfl<|Zc<|Zz (el := valX (rho A) (argAt args 0)) VT.sl152 rfl rfl (by omega) (get_arg (by omega))<|λ a99 => (Zc<|Zw1 VT.fa159_3 rfl rfl<|Zc<|Zu2 (Zz1 VT.ty157 rfl (arrV_leaf _ _) ⟨rfl, rfl⟩) ((V.le.of_eq hrk))<|Zc<|Zv1 rfl<|Zc<|Zu 4 VT.ty152 rfl rfl rfl<|Zc<|Zk rfl<|Za<|Zi<|Zb<|Zb<|Zd<|Zc<|Zj VT.fa38_1 rfl<|Zc<|Zu 1 VT.ty3 rfl rfl rfl<|Zc<|Zj1 rfl rfl rfl<|Za<|Zi<|Zl1 rfl (λ h106 => ?_)<|λ h106 => ?_)
 .
  rw [if_pos h106] at hr
  refine Zb<|Zd<|Zc<|Zl rfl<|Zc<|V_len_raw Tryz.underlying152 rfl<|Zc<|Zx1 [.tmp 108] rfl rfl VT.en107 (wordOf_c (rho A) _)<|Zc<|Zx 0 VT.ty159 rfl rfl rfl rfl rfl<|Zc<|Zk rfl<|Za<|Zi<|Zf1<|Zd1<|Zh1 rfl rfl (.cons (.agg (i := 0) VT.ty159 rfl rfl rfl)<|.cons (.tmp rfl)<|.nil) ?_
  rw [hr]
  exact ⟨_, Dd (Dd (Dk (Dk (Drops.of_perm (arrsS_perm (rho A) hx hl).symm)))), A, tok, ⟨[], (Ya _).symm⟩, hA, rfl, rfl⟩
 rw [if_neg h106] at hr
 have hl4 : 2 <= args.length := hl2 (by omega)
 refine Zi1<|Zi<|Zb<|Zd<|Zc<|Zl rfl<|Zc<|Zz (el := valX (rho A) (argAt args 1)) VT.sl152 rfl rfl (by omega) (get_arg (by omega))<|λ a111 => (Zc<|Zw1 VT.fa159_1 rfl rfl<|Zc<|Zz1 VT.ty3 rfl rfl<|Zc<|Zk rfl<|Za<|Zi<|Zb<|Zb<|Zd<|Zc<|Zl rfl<|Zc<|Zj1 rfl rfl rfl<|Zc<|Zl rfl<|Zj2 (q := 116) rfl (λ hq116 => ?_)<|λ hq116 => ?_)
 .
  have hx116 := decT hq116
  refine Zk0 hq116<|Zk0 hq116<|Zk0 hq116<|Zk0 hq116<|Zc<|Zs1 rfl hq116 rfl<|Za<|Zi<|Zp1 rfl rfl ?_
  rw [if_pos (.inl hx116)] at hr
  refine Zb<|Zd<|Zc<|Zu2 (Zf2 [] [] VT.st159 rfl rfl rfl rfl ⟨rfl, rfl⟩) ((le_val (rho A) 0 0))<|Zc<|Zx 0 VT.ty159 rfl rfl rfl rfl rfl<|Zc<|Zk rfl<|Za<|Zi<|Zf1<|Zd1<|Zh1 rfl rfl (.cons (.agg (i := 0) VT.ty159 rfl rfl rfl)<|.cons (.tmp rfl)<|.nil) ?_
  rw [hr]
  exact ⟨_, Dd (Dd (Dk (Dk (Drops.of_perm (arrsS_perm (rho A) hx hl).symm)))), A, tok, ⟨[], (Ya _).symm⟩, hA, rfl, rfl⟩
 have hx116 := decF hq116
 refine Zc (Zl rfl ?_)<|Zy0 hq116
 refine Zc (Zl rfl ?_)<|Zy0 hq116
 refine Zc (V_len_raw Tryz.underlying152 rfl ?_)<|Zy0 hq116
 refine Zc (Zj1 rfl rfl rfl ?_)<|Zy0 hq116
 refine Zc<|Zt1 rfl hq116 rfl<|Za<|Zi<|Zn1 rfl (λ h121 => ?_)<|λ h121 => ?_
 .
  rw [if_pos (.inr (by omega))] at hr
  refine Zb<|Zd<|Zc<|Zu2 (Zf2 [] [] VT.st159 rfl rfl rfl rfl ⟨rfl, rfl⟩) ((le_val (rho A) 0 0))<|Zc<|Zx 0 VT.ty159 rfl rfl rfl rfl rfl<|Zc<|Zk rfl<|Za<|Zi<|Zf1<|Zd1<|Zh1 rfl rfl (.cons (.agg (i := 0) VT.ty159 rfl rfl rfl)<|.cons (.tmp rfl)<|.nil) ?_
  rw [hr]
  exact ⟨_, Dd (Dd (Dk (Dk (Drops.of_perm (arrsS_perm (rho A) hx hl).symm)))), A, tok, ⟨[], (Ya _).symm⟩, hA, rfl, rfl⟩
 rw [if_neg (by omega)] at hr
 refine Zi1<|Zi<|Zb<|Zb<|Zd<|Zc<|Zj VT.fa38_1 rfl<|Zc<|Zu 1 VT.ty3 rfl rfl rfl<|Zc<|Zj1 rfl rfl rfl<|Za<|Zi<|Zl1 rfl (λ h125 => ?_)<|λ h125 => ?_
 .
  rw [if_pos h125] at hr
  refine Zb<|Zd<|Zc<|Zl rfl<|Zc<|Zl rfl<|Zc<|Zr2 VT.sl152 rfl rfl (by omega) (by omega)<|Zc<|Ze3 5 (argAt args 1).n.toNat VT.ty159 rfl (by simp) rfl (rowV_nil _ _) (vals_fit _ _) (get_argX (by omega))<|Zc<|Zx 0 VT.ty159 rfl rfl rfl rfl rfl<|Zc<|Zk rfl<|Za<|Zi<|Zf1<|Zd1<|Zh1 rfl rfl (.cons (.agg (i := 0) VT.ty159 rfl rfl rfl)<|.cons (.tmp rfl)<|.nil) ?_
  rw [hr]
  exact ⟨_, Dd (Dd (Dk (Dk (Drops.of_perm (arrsS_perm (rho A) hx hl).symm)))), A, tok, ⟨[], (Ya _).symm⟩, hA, rfl, rfl⟩
 rw [if_neg h125] at hr
 have hl5 := hl3 (by omega)
 refine Zi1<|Zi<|Zb<|Zd<|Zc<|Zl rfl<|Zc<|Zl rfl<|Zc<|Zl rfl<|Zc<|Zz (el := valX (rho A) (argAt args 2)) VT.sl152 rfl rfl (by omega) (get_arg (by omega))<|λ a133 => (Zc<|Za2 VT.ty159 rfl rfl<|Zc<|Zr2 VT.sl152 rfl rfl (by omega) (by omega)<|Zc<|Zg3 5 (argAt args 1).n.toNat VT.ty159 rfl (by simp) rfl rfl rfl (rowV_nil _ _) (vals_fit _ _) (by rw [Yi]; omega)<|Za<|Zi<|Zb<|Zd<|Zc<|Zx1 [.const (.int .i64 (0))] rfl rfl VT.en107 (wordOf_c (rho A) _)<|Zc<|Zx 0 VT.ty159 rfl rfl rfl rfl rfl<|Zc<|Zk rfl<|Za<|Zi<|Zf1<|Zh1 rfl rfl (.cons (.agg (i := 0) VT.ty159 rfl rfl rfl)<|.cons (.tmp rfl)<|.nil) ?_)
 rw [hsa] at hr
 rw [hr]
 refine ⟨_, Dd (Dd (Dk (Dk ((Dk (Drops.keepE (congrArg (Own.cells x.2 159) (rowV_set (rho A) l (argAt args 1).n.toNat (argAt args 2))) (Zt2 _))).trans (Drops.of_perm (arrsS_set (rho A) hx hl (by simp))))))), A, tok, ⟨[], (Ya _).symm⟩, ?_, rfl, rfl⟩
 simp [hA]
theorem effect_c (gm : Nat) (u : SUnit) (stk : V) (tok : Tok) (M : Mach) (A : List (Nat × Nat)) (nf : Nat) (i : SIns) (args : List Val) (hA : A.length = M.heap.length) (hok : ∀ a ∈ args, okV nf M.heap.length a = true) (hH : ∀ l ∈ M.heap, l.length <= 1024 /\ ∀ v ∈ l, okV nf M.heap.length v = true) (h2 : 0 <= M.left) (h3 : M.left <= 1000000) (ho : M.out.length <= 1000) (hl1 : 1 <= args.length) (hl2 : i.op ≠ 15 /\ i.op ≠ 17 -> 2 <= args.length) (hl3 : i.op = 20 -> 3 <= args.length) (hop : elemJ i.op [15, 16, 17, 18, 19, 20] = true) : VCalls Tryz.prog 112 [.ptr gm 0, insV i, valsX (rho A) args] (mcells gm u stk (outV tok M.out) M :: obuf tok M.out :: arrsS (rho A) A M.heap) λ r S' => ∃ A' tok', (∃ B, A' = A ++ B) /\ A'.length = (effectF i args M).1.heap.length /\ r = .tup [valX (rho A') (effectF i args M).2.1, .int (effectF i args M).2.2] /\ S' = mcells gm u stk (outV tok' (effectF i args M).1.out) (effectF i args M).1 :: obuf tok' (effectF i args M).1.out :: arrsS (rho A') A' (effectF i args M).1.heap := by
 cases h : allocNew (argAt args 0) M with
 | false => exact effect0_c gm u stk tok M A nf i args hA hok hH h2 h3 ho hl1 hl2 hl3 hop λ _ => h
 | true =>
  by_cases h16 : i.op = 16
  .exact effect1_c gm u stk tok M A nf i args hA hok hH h2 h3 ho hl1 hl2 hl3 hop ⟨h16, h⟩
  .exact effect0_c gm u stk tok M A nf i args hA hok hH h2 h3 ho hl1 hl2 hl3 hop λ h => absurd h h16
theorem exec_c (gm : Nat) (u : SUnit) (stk : V) (tok : Tok) (M : Mach) (A : List (Nat × Nat)) (nf : Nat) (i : SIns) (args : List Val) (hA : A.length = M.heap.length) (hok : ∀ a ∈ args, okV nf M.heap.length a = true) (hH : ∀ l ∈ M.heap, l.length <= 1024 /\ ∀ v ∈ l, okV nf M.heap.length v = true) (h2 : 0 <= M.left) (h3 : M.left <= 1000000) (ho : M.out.length <= 1000) (hi : OpOk i args.length) : VCalls Tryz.prog 88 [.ptr gm 0, insV i, valsX (rho A) args] (mcells gm u stk (outV tok M.out) M :: obuf tok M.out :: arrsS (rho A) A M.heap) λ r S' => ∃ A' tok', (∃ B, A' = A ++ B) /\ A'.length = (execF i args M).1.heap.length /\ r = .tup [valX (rho A') (execF i args M).2.1, .int (execF i args M).2.2] /\ S' = mcells gm u stk (outV tok' (execF i args M).1.out) (execF i args M).1 :: obuf tok' (execF i args M).1.out :: arrsS (rho A') A' (execF i args M).1.heap := by
 refine VCalls_drops ?_
 have hr := execF.eq_def i args M
 have hkn := by simpa [elemJ] using hi.known
 have ht := hi.two
 have ho1 := hi.one
 simp only [elemJ, Bool.or_false, Bool.or_eq_true, decide_eq_true_eq] at ht ho1
 have hm := hi.many
 refine V_start (nt := 82) Tryz.func88 rfl rfl rfl ?_
 refine Zb<|Zd<|Zc<|Zc2 rfl rfl<|λ g4 => (Zc<|Zb2 VT.zr159 _ rfl rfl<|λ g6 => (Zc<|Zk rfl<|Za<|Zi<|Zb<|Zb<|Zd<|Zc<|Zj VT.fa38_1 rfl<|Zc<|Zu 1 VT.ty3 rfl rfl rfl<|Za<|Zi<|Zs<|Zb<|Zd<|Zc<|Zj1 rfl rfl rfl<|Zc<|Zk rfl<|Za<|Zi<|Zl1 rfl (λ h10 => ?_)<|λ h10 => ?_))
 .
  rw [if_pos h10] at hr
  refine Zb<|Zd<|Zc<|Zj VT.fa38_2 rfl<|Zc<|Zu 1 VT.ty3 rfl rfl rfl<|Zc<|Zx1 [.tmp 13] rfl rfl VT.en107 (wordOf_c (rho A) _)<|Zc<|Zx 0 VT.ty159 rfl rfl rfl rfl rfl<|Zc<|Zk rfl<|Za<|Zi<|Zf1<|Za1<|Zd1<|Zh1 rfl rfl (.cons (.agg (i := 0) VT.ty159 rfl rfl rfl)<|.cons (.tmp rfl)<|.nil) ?_
  rw [hr]
  exact ⟨_, (Dd (Dd (Dk (Dk (Zt2 _))))), A, tok, ⟨[], (Ya _).symm⟩, hA, rfl, rfl⟩
 rw [if_neg h10] at hr
 refine Zb<|VW_or (q := 15) (x := 9) [(16, 1), (17, 2), (18, 3), (19, 4), (20, 5), (21, 6), (22, 7)] rfl rfl rfl<|Zi<|Zr1 rfl (λ h15 => ?_)<|λ h15 => ?_
 .
  have h15a : elemJ i.op [1, 2, 3, 4, 5, 6, 7] = true := h15
  rw [if_pos h15a] at hr
  have h15y := h15a
  simp only [elemJ, Bool.or_false, Bool.or_eq_true, decide_eq_true_eq] at h15y
  refine Zb<|Zb<|Zd<|Zc<|Zl rfl<|Zc<|Zx1 [.tmp 23, .const (.int .i64 (0))] rfl rfl VT.en108 (all_c (rho A) args _)<|Zc<|Zl2 rfl<|Za<|Zi<|Zo1 rfl (λ h25 => ?_)<|λ h25 => ?_
  .
   rw [if_pos h25] at hr
   refine Zb<|Zd<|Zc<|Zu2 (Zf2 [] [] VT.st159 rfl rfl rfl rfl ⟨rfl, rfl⟩) ((le_val (rho A) 0 0))<|Zc<|Zx 0 VT.ty159 rfl rfl rfl rfl rfl<|Zc<|Zk rfl<|Za<|Zi<|Zf1<|Zd1<|Za1<|Zd1<|Zh1 rfl rfl (.cons (.agg (i := 0) VT.ty159 rfl rfl rfl)<|.cons (.tmp rfl)<|.nil) ?_
   rw [hr]
   exact ⟨_, (Dd (Dd (Dk (Dk (Zt2 _))))), A, tok, ⟨[], (Ya _).symm⟩, hA, rfl, rfl⟩
  rw [if_neg (by rw [h25]; decide)] at hr
  refine Zi1<|Zi<|Zb<|VW_drawR (G := Unit) [([], [4], []), ([0], [27], []), ([], [2], []), ([2], [29], []), ([3, 2], [30], []), ([4, 3, 2], [31], []), ([], [2], []), ([6], [33], []), ([7, 6], [34], []), ([8, 7, 6], [35], []), (dn 10, [28, 32, 36], []), (dn 11, [37], []), (dn 11, [37], []), (dn 13, [6, 38], []), (dn 14, [39], [])] [13] (setSt _ 0<|λ _ => .cells g6 159 (valX (rho A) (binaryF i.op (argAt args 0).n (argAt args 1).n).1).leaves) [7] [7, 27, 28, 29, 30, 31, 32, 33, 34, 35, 36, 37, 38, 39] rfl VT.mix<|Zp (Zm _) (Zo rfl rfl ⟨(λ γ => Zf (λ _ h4 => Ze (Zn rfl (Zj VT.fa38_1 h4 z0)))), trivial⟩)<|Zp (Zm _) (Zo rfl rfl ⟨(λ γ => Zw 0 0 rfl (λ _ h27 => Ze (Zn rfl (Zu 1 VT.ty3 h27 rfl rfl z0)))), trivial⟩)<|Zp (Zm _) (Zo rfl rfl ⟨(λ γ => Zf (λ _ h2 => Ze (Zn rfl (Zl h2 z0)))), trivial⟩)<|Zp (Zb3 _) (Zo rfl rfl ⟨(λ γ => Zw 2 0 rfl (λ _ h29 => Ze (Zn rfl (Zz (el := valX (rho A) (argAt args 0)) VT.sl152 h29 rfl (by omega) (get_arg (by omega)) (λ a30 => ⟨⟨_, rfl⟩, rfl⟩))))), trivial⟩)<|Zp (Zb3 _) (Zo rfl rfl ⟨(λ γ => Zw 3 0 rfl (λ _ h30 => Ze (Zc3 h30 (λ a_30 e30 => Zn rfl (Zw1 VT.fa159_1 e30 rfl ⟨⟨_, rfl⟩, rfl⟩))))), trivial⟩)<|Zp (Zm _) (Zo rfl rfl ⟨(λ γ => Zw 4 0 rfl (λ _ h31 => Ze (Zc3 h31 (λ a_31 e31 => Zn rfl (Zz1 VT.ty3 e31 rfl z0))))), trivial⟩)<|Zp (Zm _) (Zo rfl rfl ⟨(λ γ => Zf (λ _ h2 => Ze (Zn rfl (Zl h2 z0)))), trivial⟩)<|Zp (Zb3 _) (Zo rfl rfl ⟨(λ γ => Zw 6 0 rfl (λ _ h33 => Ze (Zn rfl (Zz (el := valX (rho A) (argAt args 1)) VT.sl152 h33 rfl (by omega) (get_arg (by omega)) (λ a34 => ⟨⟨_, rfl⟩, rfl⟩))))), trivial⟩)<|Zp (Zb3 _) (Zo rfl rfl ⟨(λ γ => Zw 7 0 rfl (λ _ h34 => Ze (Zc3 h34 (λ a_34 e34 => Zn rfl (Zw1 VT.fa159_1 e34 rfl ⟨⟨_, rfl⟩, rfl⟩))))), trivial⟩)<|Zp (Zm _) (Zo rfl rfl ⟨(λ γ => Zw 8 0 rfl (λ _ h35 => Ze (Zc3 h35 (λ a_35 e35 => Zn rfl (Zz1 VT.ty3 e35 rfl z0))))), trivial⟩)<|Zp (Zm _) (Zo rfl rfl ⟨(λ γ => Zw 1 8 rfl (λ _ h28 => Zw 5 4 rfl (λ _ h32 => Zw 9 0 rfl (λ _ h36 => Ze (Zn rfl (Zx1 [.tmp 28, .tmp 32, .tmp 36] rfl (Zp2 h28 (Zp2 h32 (Zp2 h36 Zq2))) VT.en109 (binary_c (rho A) i.op (argAt args 0).n (argAt args 1).n) z0)))))), trivial⟩)<|Zp (Zm _) (Zo rfl rfl ⟨(λ γ => Zw 10 0 rfl (λ _ h37 => Ze (Zn rfl (Zg2 h37 rfl z0)))), trivial⟩)<|Zp (Zm _) (Zo rfl rfl ⟨(λ γ => Zw 10 1 rfl (λ _ h37 => Ze (Zn rfl (Zg2 h37 rfl z0)))), trivial⟩)<|Zp Za3 (Zn2 rfl<|λ γ => Zf<|λ _ h6 => Zw 11 1 rfl<|λ _ h38 => Ze<|Zn rfl<|Zx 0 VT.ty159 h6 h38 rfl rfl rfl ⟨default, trivial, rfl⟩)<|Zp (Zm _) (Zo rfl rfl ⟨(λ γ => Zw 12 1 rfl (λ _ h39 => Ze (Zn rfl (Zk h39 z0)))), trivial⟩)<|DrawP_nil<|λ γ => Zw 14 0 rfl<|λ r7 h7 => Ze ?_
  have e7 : r7 = some _ := h7
  subst e7
  clear h7
  refine Zi<|Zf1<|Za1<|Zd1<|Zh1 rfl rfl (.cons (.agg (i := 0) VT.ty159 rfl rfl rfl)<|.cons (.tmp rfl)<|.nil) ?_
  rw [hr]
  exact ⟨_, (Dd (Dd (Dk (Dk (Zt2 _))))), A, tok, ⟨[], (Ya _).symm⟩, hA, rfl, rfl⟩
 have h15a : elemJ i.op [1, 2, 3, 4, 5, 6, 7] = false := h15
 rw [if_neg (by rw [h15a]; exact Bool.false_ne_true)] at hr
 simp only [elemJ, Bool.or_false, Bool.or_eq_false_iff, decide_eq_false_iff_not] at h15a
 refine Zb<|Zd<|Zc<|Zj1 rfl rfl rfl<|Zc<|Zk rfl<|Za<|Zi<|Zl1 rfl (λ h40 => ?_)<|λ h40 => ?_
 .
  rw [if_pos h40] at hr
  refine Zb<|Zd<|Zc<|Zj VT.fa38_2 rfl<|Zc<|Zu 1 VT.ty3 rfl rfl rfl<|Zc<|Zl rfl<|Zc<|Zf2 [0, 1, 2] [.const (.int .i64 (1)), .tmp 43, .tmp 44] VT.st159 rfl rfl rfl rfl<|Zc<|Zx 0 VT.ty159 rfl rfl rfl rfl rfl<|Zc<|Zk rfl<|Za<|Zi<|Zf1<|Za1<|Zd1<|Zh1 rfl rfl (.cons (.agg (i := 0) VT.ty159 rfl rfl rfl)<|.cons (.tmp rfl)<|.nil) ?_
  rw [hr]
  exact ⟨_, (Dd (Dd (Dk (Dk (Zt2 _))))), A, tok, ⟨[], (Ya _).symm⟩, hA, rfl, rfl⟩
 rw [if_neg h40] at hr
 refine Zb<|Zd<|Zc<|Zj1 rfl rfl rfl<|Zc<|Zk rfl<|Za<|Zi<|Zl1 rfl (λ h46 => ?_)<|λ h46 => ?_
 .
  rw [if_pos h46] at hr
  refine Zb<|Zd<|Zc<|Zj VT.fa38_2 rfl<|Zc<|Zu 1 VT.ty3 rfl rfl rfl<|Zc<|Zl rfl<|Zc<|Zf2 [0, 1, 2] [.const (.int .i64 (2)), .tmp 49, .tmp 50] VT.st159 rfl rfl rfl rfl<|Zc<|Zx 0 VT.ty159 rfl rfl rfl rfl rfl<|Zc<|Zk rfl<|Za<|Zi<|Zf1<|Za1<|Zd1<|Zh1 rfl rfl (.cons (.agg (i := 0) VT.ty159 rfl rfl rfl)<|.cons (.tmp rfl)<|.nil) ?_
  rw [hr]
  exact ⟨_, (Dd (Dd (Dk (Dk (Zt2 _))))), A, tok, ⟨[], (Ya _).symm⟩, hA, rfl, rfl⟩
 rw [if_neg h46] at hr
 refine Zb<|VW_or (q := 52) (x := 9) [(53, 10), (54, 11), (55, 12), (56, 21)] rfl rfl rfl<|Zi<|Zr1 rfl (λ h52 => ?_)<|λ h52 => ?_
 .
  have h52a : elemJ i.op [10, 11, 12, 21] = true := h52
  rw [if_pos h52a] at hr
  have h52y := h52a
  simp only [elemJ, Bool.or_false, Bool.or_eq_true, decide_eq_true_eq] at h52y
  refine Zb<|Zd<|Zc<|Zv 1 VT.ty38 rfl rfl rfl<|Zc<|Zl rfl<|Zc<|Zx1 [.tmp 57, .tmp 58] rfl rfl VT.en110 (object_c (rho A) i args (by omega) h52a (λ h => by omega)<|λ h => hi.num<|.inl h)<|Zc<|Zg2 rfl rfl<|Zc<|Zg2 rfl rfl<|Zc<|Zx 0 VT.ty159 rfl rfl rfl rfl rfl<|Zc<|Zk rfl<|Za<|Zi<|Zf1<|Za1<|Zd1<|Zh1 rfl rfl (.cons (.agg (i := 0) VT.ty159 rfl rfl rfl)<|.cons (.tmp rfl)<|.nil) ?_
  rw [hr]
  exact ⟨_, (Dd (Dd (Dk (Dk (Zt2 _))))), A, tok, ⟨[], (Ya _).symm⟩, hA, rfl, rfl⟩
 have h52a : elemJ i.op [10, 11, 12, 21] = false := h52
 rw [if_neg (by rw [h52a]; exact Bool.false_ne_true)] at hr
 simp only [elemJ, Bool.or_false, Bool.or_eq_false_iff, decide_eq_false_iff_not] at h52a
 refine Zb<|VW_or (q := 62) (x := 9) [(63, 22), (64, 23), (65, 24)] rfl rfl rfl<|Zi<|Zr1 rfl (λ h62 => ?_)<|λ h62 => ?_
 .
  have h62a : elemJ i.op [22, 23, 24] = true := h62
  rw [if_pos h62a] at hr
  have h62y := h62a
  simp only [elemJ, Bool.or_false, Bool.or_eq_true, decide_eq_true_eq] at h62y
  refine Zb<|Zd<|Zc<|Zv 1 VT.ty38 rfl rfl rfl<|Zc<|Zl rfl<|Zc<|Zx1 [.tmp 66, .tmp 67] rfl rfl VT.en111 (vector_c (rho A) i args h62a (λ h => ⟨by omega, hi.num (.inr h)⟩) (λ h => by omega) hm<|λ v hv => (okV_iff.1<|hok v hv).2.2.1)<|Zc<|Zg2 rfl rfl<|Zc<|Zg2 rfl rfl<|Zc<|Zx 0 VT.ty159 rfl rfl rfl rfl rfl<|Zc<|Zk rfl<|Za<|Zi<|Zf1<|Za1<|Zd1<|Zh1 rfl rfl (.cons (.agg (i := 0) VT.ty159 rfl rfl rfl)<|.cons (.tmp rfl)<|.nil) ?_
  rw [hr]
  exact ⟨_, (Dd (Dd (Dk (Dk (Zt2 _))))), A, tok, ⟨[], (Ya _).symm⟩, hA, rfl, rfl⟩
 have h62a : elemJ i.op [22, 23, 24] = false := h62
 rw [if_neg (by rw [h62a]; exact Bool.false_ne_true)] at hr
 simp only [elemJ, Bool.or_false, Bool.or_eq_false_iff, decide_eq_false_iff_not] at h62a
 refine Zb<|Zd<|Zc<|Zj1 rfl rfl rfl<|Zc<|Zk rfl<|Za<|Zi<|Zl1 rfl (λ h71 => ?_)<|λ h71 => ?_
 .
  rw [if_pos h71] at hr
  refine Zb<|Zd<|Zc<|Zl rfl<|Zc<|Zz (el := valX (rho A) (argAt args 0)) VT.sl152 rfl rfl (by omega) (get_arg (by omega))<|λ a74 => (Zc<|Za2 VT.ty159 rfl rfl<|Zc<|Zx 0 VT.ty159 rfl rfl rfl rfl rfl<|Zc<|Zk rfl<|Za<|Zi<|Zf1<|Za1<|Zd1<|Zh1 rfl rfl (.cons (.agg (i := 0) VT.ty159 rfl rfl rfl)<|.cons (.tmp rfl)<|.nil) ?_)
  rw [hr]
  exact ⟨_, (Dd (Dd (Dk (Dk (Zt2 _))))), A, tok, ⟨[], (Ya _).symm⟩, hA, rfl, rfl⟩
 rw [if_neg h71] at hr
 refine Zi1<|Zb1<|Zi<|Zb<|Zd<|Zc<|Zl rfl<|Zc<|Zv 1 VT.ty38 rfl rfl rfl<|Zc<|Zl rfl<|Zc<|V_callB [.tmp 76, .tmp 77, .tmp 78] [_, _] _ rfl rfl VT.en112 (.refl _) ((effect_c gm u stk tok M A nf i args hA hok hH h2 h3 ho (by have := hi.three; omega) (λ h => by have := hi.three; omega) (λ h => by have := hi.three h; omega) (by simp only [elemJ, Bool.or_false, Bool.or_eq_true, decide_eq_true_eq]; omega))) ?_
 rintro r Sa ⟨A1, tok1, ⟨B1, rfl⟩, hA1, rfl, rfl⟩
 refine Zc<|Zg2 rfl rfl<|Zc<|Zg2 rfl rfl<|Zc<|Zx 0 VT.ty159 rfl rfl rfl rfl rfl<|Zc<|Zk rfl<|Za<|Zi<|Zf1<|Zh1 rfl rfl (.cons (.agg (i := 0) VT.ty159 rfl rfl rfl)<|.cons (.tmp rfl)<|.nil) ?_
 rw [hr]
 exact ⟨_, (Dd (Dd (Dk (Dk (Zt2 _))))), A ++ B1, tok1, ⟨B1, rfl⟩, hA1, rfl, rfl⟩
end Go.Proofs.YtpkbgamoboojaaaGreat.X7
end
section
namespace Go.Proofs.YtpkbgamoboojaaaGreat.X8
open Go.VL Go.SM Go.Proofs.YtpkbgamoboojaaaGreat X1 X2 X3 X4 X5 X6 X7
def framesS (ρ : Nat -> Nat) : List (Nat × Nat) -> List MFrame -> Store
 | p :: G, f :: fs => fcell p.1 p.2 f :: fmap ρ p.2 f.vals :: framesS ρ G fs
 | _, _ => []
def ptrsV (G : List (Nat × Nat)) : List V := (G.map λ p => V.ptr p.1 0).reverse
theorem ptrsV_cons (p : Nat × Nat) (G : List (Nat × Nat)) : ptrsV (p :: G) = ptrsV G ++ [V.ptr p.1 0] := by simp [ptrsV]
theorem ptrsV_len (G : List (Nat × Nat)) : (ptrsV G).length = G.length := by simp [ptrsV]
def EndPost (gm : Nat) (u : SUnit) (gs cap : Nat) (ov : V) (ρ : Nat -> Nat) (p : Nat × Nat) (G : List (Nat × Nat)) (ls : List V) (M1 : Mach) : V -> Store -> Prop := λ r S' => ∃ G1, (G1 = p :: G \/ G1 = G) /\ G1.length = M1.stack.length /\ S' = mcells gm u (stkV gs M1.stack.length cap) ov M1 :: srow gs ls :: framesS ρ G1 M1.stack
theorem perm_end {b m o r f v : Own} {X Y : Store} : (b :: m :: o :: r :: f :: v :: (X ++ Y)).Perm ((m :: r :: f :: v :: X) ++ (b :: o :: Y)) := by
 have h1 : (X ++ b :: o :: Y).Perm (b :: o :: (X ++ Y)) := List.perm_middle.trans (List.perm_middle.cons _)
 refine List.Perm.trans ?_<|(((h1.symm.cons v).cons f).cons r).cons m
 exact (perm_erase (i := 1) rfl).trans (.cons _ ((perm_erase (i := 2) rfl).trans (.cons _ ((perm_erase (i := 2) rfl).trans (.cons _ ((perm_erase (i := 2) rfl).trans (.cons _ (.refl _))))))))
theorem drop_end {b m o r : Own} {X Y : Store} : Drops ((m :: r :: X) ++ (b :: o :: Y)) (m :: o :: r :: (X ++ Y)) := by
 have h1 : (X ++ b :: o :: Y).Perm (b :: o :: (X ++ Y)) := List.perm_middle.trans (List.perm_middle.cons _)
 refine ⟨[b], ((h1.cons r).cons m).trans ?_⟩
 exact (perm_erase (i := 2) rfl).trans (.cons _ ((perm_erase (i := 0) rfl).trans (.cons _ ((perm_erase (i := 1) rfl).trans (.cons _ ((perm_erase (i := 0) rfl).trans (.cons _ (.refl _))))))))
theorem perm_exec {a b m o r f v : Own} {X Y : Store} : (a :: b :: m :: o :: r :: f :: v :: (X ++ Y)).Perm ((m :: o :: Y) ++ (a :: b :: r :: f :: v :: X)) := by
 have h1 : (a :: b :: r :: f :: v :: (X ++ Y)).Perm (Y ++ (a :: b :: r :: f :: v :: X)) := Yg (l₁ := a :: b :: r :: f :: v :: X) (l₂ := Y)
 refine List.Perm.trans ?_<|(h1.cons o).cons m
 exact (perm_erase (i := 2) rfl).trans (.cons _ ((perm_erase (i := 2) rfl).trans (.cons _ (.refl _))))
theorem drop_exec {a b m o r f v : Own} {X Y : Store} : Drops ((m :: o :: Y) ++ (a :: b :: r :: f :: v :: X)) (m :: o :: a :: b :: r :: f :: v :: (X ++ Y)) :=
 Drops.of_perm ((((Yg (l₁ := Y) (l₂ := a :: b :: r :: f :: v :: X))).cons o).cons m)
theorem framesS_ext {nf nh : Nat} {ρ ρ' : Nat -> Nat} (h : ∀ k, k < nh -> ρ k = ρ' k) : ∀ (G : List (Nat × Nat)) {fs : List MFrame}, (∀ f ∈ fs, ∀ e ∈ f.vals, okV nf nh e.2 = true) -> framesS ρ G fs = framesS ρ' G fs
 | p :: G, f :: fs, hv => by
  rw [framesS, framesS, framesS_ext h G λ g hg => hv g (List.mem_cons_of_mem _ hg)]
  unfold fmap
  rw [encV_ext h (hv f (List.mem_cons_self ..))]
 | [], _, _ => by simp [framesS]
 | _ :: _, [], _ => rfl
theorem termF_keeps (u : SUnit) (f : MFrame) (t : STerm) (fs : List MFrame) (M : Mach) : (termF u f t fs M).out = M.out /\ (termF u f t fs M).heap = M.heap /\ (termF u f t fs M).left = M.left := by
 unfold termF
 split
 .exact ⟨rfl, rfl, rfl⟩
 .split
  .exact ⟨rfl, rfl, rfl⟩
  .split
   .unfold leaveF
    cases fs <;> exact ⟨rfl, rfl, rfl⟩
   .split <;> exact ⟨rfl, rfl, rfl⟩
def MS (gm : Nat) (u : SUnit) (gs cap : Nat) (rest : List V) (tok : Tok) (G A : List (Nat × Nat)) (M : Mach) : Store := mcells gm u (stkV gs M.stack.length cap) (outV tok M.out) M :: obuf tok M.out :: srow gs (ptrsV G ++ rest) :: (framesS (rho A) G M.stack ++ arrsS (rho A) A M.heap)
def MSt (gm : Nat) (u : SUnit) (M : Mach) (S : Store) : Prop := ∃ gs cap rest tok G A, G.length = M.stack.length /\ A.length = M.heap.length /\ (ptrsV G ++ rest).length = cap /\ cap <= maxLen /\ S = MS gm u gs cap rest tok G A M
theorem end0_c (gm gf gv gs cap : Nat) (u : SUnit) (ov : V) (M : Mach) (ρ : Nat -> Nat) (f : MFrame) (t : STerm) (ls : List V) (hst : M.stack = f :: []) (hnc : 1 <= cap) (hcm : cap <= maxLen) (h0 : 0 <= f.fn) {fn : SFunc} (hf : u.fns[f.fn.toNat]? = some fn) (ht : TermOk fn t) : VCalls Tryz.prog 85 [.ptr gm 0, .ptr gf 0, termV t] (mcells gm u (stkV gs 1 cap) ov M :: srow gs ls :: fcell gf gv f :: fmap ρ gv f.vals :: []) (EndPost gm u gs cap ov ρ (gf, gv) [] ls (termF u f t [] M)) := by
 refine VCalls_drops ?_
 have hr := termF.eq_def u f t [] M
 refine V_start (nt := 53) Tryz.func85 rfl rfl rfl ?_
 refine Zb<|Zd<|Zc<|Zc2 rfl rfl<|λ g5 => (Za<|Zi<|Zb<|VW_drawR (G := Nat) [([], [1], []), ([0], [7], []), ([1, 0], [8], []), ([2, 1, 0], [9], []), ([], [5], []), ([4], [11], []), (dn 6, [10, 12], []), ([], [], [0]), (dn 8, [6, 13], [])] [7, 8] (twoSt _ (λ g6 => .cells g6 159 VT.zs159 :: .cells g5 42 [.int t.kind, .int t.arg, .int t.n, intsX t.cases, edgesX t.to] :: mcells gm u (stkV gs 1 cap) ov M :: srow gs ls :: fcell gf gv f :: fmap ρ gv f.vals :: []) (λ g6 _ => .cells g6 159 (valX ρ<|vget f.vals t.arg).leaves :: .cells g5 42 [.int t.kind, .int t.arg, .int t.n, intsX t.cases, edgesX t.to] :: mcells gm u (stkV gs 1 cap) ov M :: srow gs ls :: fcell gf gv f :: fmap ρ gv f.vals :: [])) [6] [6, 7, 8, 9, 10, 11, 12, 13] rfl VT.mix<|Zp (Zm _) (Zm2 rfl<|λ _ => (λ γ => Zf<|λ _ h1 => Ze<|Zn rfl<|Zl h1 z0))<|Zp (Zm _) (Zm2 rfl<|λ _ => (λ γ => Zw 0 0 rfl<|λ _ h7 => Ze<|Zn rfl<|Zv1 h7 z0))<|Zp (Zm _) (Zm2 rfl<|λ _ => (λ γ => Zw 1 0 rfl<|λ _ h8 => Ze<|Zn rfl<|Zj VT.fa156_4 h8 z0))<|Zp (Zm _) (Zo rfl rfl ⟨(λ γ => Zw 2 0 rfl (λ _ h9 => Ze (Zn rfl (Zu 3 VT.ty154 h9 rfl rfl z0)))), (λ γ => Zw 2 0 rfl (λ _ h9 => Ze (Zn rfl (Zu 4 VT.ty154 h9 rfl rfl z0)))), trivial⟩)<|Zp (Zm _) (Zm2 rfl<|λ _ => (λ γ => Zf<|λ _ h5 => Ze<|Zn rfl<|Zj VT.fa42_1 h5 z0))<|Zp (Zm _) (Zo rfl rfl ⟨(λ γ => Zw 4 0 rfl (λ _ h11 => Ze (Zn rfl (Zu 0 VT.ty3 h11 rfl rfl z0)))), (λ γ => Zw 4 0 rfl (λ _ h11 => Ze (Zn rfl (Zu 1 VT.ty3 h11 rfl rfl z0)))), trivial⟩)<|Zp (Zm _) (Zo rfl rfl ⟨(λ γ => Zw 3 2 rfl (λ _ h10 => Zw 5 0 rfl (λ _ h12 => Ze (Zn rfl (Zu2 (V_lookupD 4 (.agg VT.zs159) (λ m => ⟨rfl, _, rfl, by simp [Go.VL.RepL, VT.zs159, Rep]⟩) Tryz.underlying154 (key_int Tryz.underlying3) VT.zr159 h10 h12 rfl z0) ((kget_encV ρ t.arg f.vals)) z0))))), (λ γ => Zw 3 2 rfl (λ _ h10 => Zw 5 0 rfl (λ _ h12 => Ze (Zn rfl (Zu2 (V_lookupD 5 (.agg VT.zs159) (λ m => ⟨rfl, _, rfl, by simp [Go.VL.RepL, VT.zs159, Rep]⟩) Tryz.underlying154 (key_int Tryz.underlying3) VT.zr159 h10 h12 rfl z0) ((kget_encV ρ t.arg f.vals)) z0))))), trivial⟩)<|Zp (Zw2<|λ g6 => .ptr g6 0) (Zo2 0 rfl<|λ γ => Ze<|Zn rfl<|Zb2 VT.zr159 _ rfl rfl<|λ g6 => ⟨g6, ⟨g6, rfl, rfl⟩, rfl⟩)<|Zp Za3 (Zo2 1 rfl<|λ γ => Zw 7 0 rfl<|λ _ h6 => Zw 6 1 rfl<|λ _ h13 => Ze<|Zx2 h6<|λ e6 => Zn rfl<|Zx 0 VT.ty159 e6 h13 rfl rfl rfl ⟨default, trivial, rfl⟩)<|DrawP_nil<|λ γ => Zw 7 1 rfl<|λ r6 h6 => Ze ?_)
 have e6 : r6 = some _ := Zd3 h6
 subst e6
 clear h6
 refine Zi<|Zb<|Zd<|Zc<|Zj VT.fa42_0 rfl<|Zc<|Zu 1 VT.ty3 rfl rfl rfl<|Za<|Zi<|Zs<|Zb<|Zd<|Zc<|Zj1 rfl rfl rfl<|Zc<|Zk rfl<|Za<|Zi<|Zl1 rfl (λ h32 => ?_)<|λ h32 => ?_
 .
  rw [if_pos h32] at hr
  refine Zd<|Zc<|Zl rfl<|Zc<|Zj VT.fa42_2 rfl<|Zc<|Zu 1 VT.ty3 rfl rfl rfl<|Zc<|Zm3 [.tmp 34, .tmp 36, .const (.int .i64 (0))] [_] _ rfl rfl VT.en87 (Zv2 (i := 2) rfl) (stop_c gm u (stkV gs 1 cap) ov M t.n 0) ?_
  rintro r Sa rfl
  refine Za<|Zb1<|Zn3 rfl ?_
  have hst2 : (stopF t.n 0 M).stack = f :: [] := hst
  rw [hr]
  refine ⟨_, (Dk (Dd (Dd (Dk (Dk (Dk (Zt2 _))))))), (gf, gv) :: [], .inl rfl, ?_, ?_⟩
  . rw [hst2]; simp
  rw [hst2]; rfl
 rw [if_neg h32] at hr
 refine Zb<|Zd<|Zc<|Zj1 rfl rfl rfl<|Zc<|Zk rfl<|Za<|Zi<|Zl1 rfl (λ h38 => ?_)<|λ h38 => ?_
 .
  rw [if_pos h38] at hr
  have h1 := ht.one h38
  obtain ⟨e, he⟩ := get_of_lt t.to 0 (by omega)
  have hme := Yc he
  obtain ⟨he0, ⟨b, hb, hbl⟩, he2⟩ := ht.edges e hme
  have hee : edgeAt t 0 = e := by rw [edgeAt, he]; rfl
  rw [hee] at hr
  refine Zd<|Zc<|Zl rfl<|Zc<|Zl rfl<|Zc<|Zj VT.fa42_4 rfl<|Zc<|Zu 1 VT.ty40 rfl rfl rfl<|Zc<|Zz (el := edgeV e) VT.sl40 rfl rfl (by omega) (get_mapS _ he)<|λ a44 => (Zc<|Za2 VT.ty189 rfl rfl<|Zc<|Zm3 [.tmp 40, .tmp 41, .tmp 45] _ _ rfl rfl VT.en104 ((Zv2 (i := 2) rfl).trans<|.cons _<|(Zv2 (i := 3) rfl).trans<|.cons _<|(Zv2 (i := 3) rfl).trans<|.cons _<|.refl _) (follow_c gm gf gv u (stkV gs 1 cap) ov M ρ f e h0 he0 hf hb hbl he2) ?_)
  rintro r Sa rfl
  refine Za<|Zb1<|Zn3 rfl ?_
  rw [hr]
  refine ⟨_, (Drops.pick 0 rfl rfl (Drops.pick 4 rfl rfl (Drops.pick 0 rfl rfl (Drops.pick 0 rfl rfl (Drops.nil _))))), (gf, gv) :: [], .inl rfl, ?_, ?_⟩
  . show _ = Yb (followF u f e :: []); simp
  show _ = mcells gm u (stkV gs (Yb (followF u f e :: [])) cap) ov _ :: srow gs ls :: framesS ρ _ (followF u f e :: []); rfl
 rw [if_neg h38] at hr
 refine Zb<|Zd<|Zc<|Zj1 rfl rfl rfl<|Zc<|Zk rfl<|Za<|Zi<|Zl1 rfl (λ h47 => ?_)<|λ h47 => ?_
 .
  rw [if_pos h47] at hr
  refine Zd<|Zc<|Zl rfl<|Zc<|Zl rfl<|Zc<|Zv 0 VT.ty159 rfl rfl rfl<|Zc<|Zm3 [.tmp 49, .tmp 50, .tmp 51] _ _ rfl rfl VT.en105 ((Zv2 (i := 2) rfl).trans<|.cons _<|(Zv2 (i := 2) rfl).trans<|.cons _<|(Zv2 (i := 2) rfl).trans<|.cons _<|(Zv2 (i := 2) rfl).trans<|.cons _<|.refl _) (leave0_c gm gf gv gs 1 cap u ov M ρ f (vget f.vals t.arg) ls hnc hcm rfl) ?_
  rintro r Sa rfl
  refine Za<|Zb1<|Zn3 rfl ?_
  rw [hr]
  refine ⟨_, (Dk (Dk (Dd (Dd (Zt2 _))))), [], .inr rfl, rfl, rfl⟩
 rw [if_neg h47] at hr
 refine Zb<|Zb<|Zd<|Zc<|Zj VT.fa159_0 rfl<|Zc<|Zu 0 VT.ty3 rfl rfl rfl<|Zc<|Zj1 rfl rfl rfl<|Za<|Zi<|Zm1 rfl (λ h18 => ?_)<|λ h18 => ?_
 .
  rw [if_pos h18] at hr
  refine Zb<|Zd<|Zc<|Zl rfl<|Zc<|Zm3 [.tmp 19, .const (.int .i64 (5)), .const (.int .i64 (0))] [_] _ rfl rfl VT.en87 (Zv2 (i := 2) rfl) (stop_c gm u (stkV gs 1 cap) ov M 5 0) ?_
  rintro r Sa rfl
  refine Za<|Zi<|Zf1<|Zd1<|Za1<|Zh1 rfl rfl (.nil) ?_
  have hst2 : (stopF 5 0 M).stack = f :: [] := hst
  rw [hr]
  refine ⟨_, (Dk (Dd (Dd (Dk (Dk (Dk (Zt2 _))))))), (gf, gv) :: [], .inl rfl, ?_, ?_⟩
  . rw [hst2]; simp
  rw [hst2]; rfl
 rw [if_neg (by omega)] at hr
 obtain ⟨hc0, hc1⟩ := choice_lt ht (vget f.vals t.arg).n h47 h38 h32
 obtain ⟨e, he⟩ := get_of_lt t.to (choiceF t (vget f.vals t.arg).n).toNat (by omega)
 have hme := Yc he
 obtain ⟨he0, ⟨b, hb, hbl⟩, he2⟩ := ht.edges e hme
 have hee : edgeAt t (choiceF t (vget f.vals t.arg).n).toNat = e := by rw [edgeAt, he]; rfl
 rw [hee] at hr
 refine Zi1<|Zi<|VW_drawR (G := Unit) [([], [0], []), ([], [1], []), ([], [5], []), ([2], [23], []), ([], [5], []), ([], [6], []), ([5], [26], []), ([6, 5, 4], [25, 27], []), ([7, 6, 5, 4, 3, 2], [24, 28], []), ([8, 7, 6, 5, 4, 3, 2], [29], []), (dn 10, [21, 22, 30], [])] [10] (oneSt _ (λ _ => mcells gm u (stkV gs 1 cap) ov M :: fcell gf gv (followF u f e) :: fmap ρ gv (followF u f e).vals :: .cells (γ 0) 159 (valX ρ<|vget f.vals t.arg).leaves :: .cells g5 42 [.int t.kind, .int t.arg, .int t.n, intsX t.cases, edgesX t.to] :: srow gs ls :: [])) [] [21, 22, 23, 24, 25, 26, 27, 28, 29, 30, 31] rfl VT.mix<|Zp (Zm _) (Zo rfl rfl ⟨(λ γ => Zf (λ _ h0 => Ze (Zn rfl (Zl h0 z0)))), trivial⟩)<|Zp (Zm _) (Zo rfl rfl ⟨(λ γ => Zf (λ _ h1 => Ze (Zn rfl (Zl h1 z0)))), trivial⟩)<|Zp (Zm _) (Zo rfl rfl ⟨(λ γ => Zf (λ _ h5 => Ze (Zn rfl (Zj VT.fa42_4 h5 z0)))), trivial⟩)<|Zp (Zm _) (Zo rfl rfl ⟨(λ γ => Zw 2 0 rfl (λ _ h23 => Ze (Zn rfl (Zu 1 VT.ty40 h23 rfl rfl z0)))), trivial⟩)<|Zp (Zm _) (Zo rfl rfl ⟨(λ γ => Zf (λ _ h5 => Ze (Zn rfl (Zv 1 VT.ty42 h5 rfl rfl z0)))), trivial⟩)<|Zp (Zm _) (Zo rfl rfl ⟨(λ γ => Zf (λ _ h6 => Ze (Zn rfl (Zj VT.fa159_1 h6 z0)))), trivial⟩)<|Zp (Zm _) (Zo rfl rfl ⟨(λ γ => Zw 5 0 rfl (λ _ h26 => Ze (Zn rfl (Zu 0 VT.ty3 h26 rfl rfl z0)))), trivial⟩)<|Zp (Zm _) (Zo rfl rfl ⟨(λ γ => Zw 4 2 rfl (λ _ h25 => Zw 6 0 rfl (λ _ h27 => Ze (Zn rfl (Zx1 [.tmp 25, .tmp 27] rfl (Zp2 h25 (Zp2 h27 Zq2)) VT.en106 (choice_c t (vget f.vals t.arg).n) z0))))), trivial⟩)<|Zp (Zb3 _) (Zo rfl rfl ⟨(λ γ => Zw 3 4 rfl (λ _ h24 => Zw 7 0 rfl (λ _ h28 => Ze (Zn rfl (Zz (el := edgeV e) VT.sl40 h24 h28 (by omega) (get_mapS _ he) (λ a29 => ⟨⟨_, rfl⟩, rfl⟩)))))), trivial⟩)<|Zp (Zm _) (Zo rfl rfl ⟨(λ γ => Zw 8 0 rfl (λ _ h29 => Ze (Zc3 h29 (λ a_29 e29 => Zn rfl (Za2 VT.ty189 e29 rfl z0))))), trivial⟩)<|Zp Za3 (Zn2 rfl<|λ γ => Zw 0 9 rfl<|λ _ h21 => Zw 1 8 rfl<|λ _ h22 => Zw 9 0 rfl<|λ _ h30 => Ze<|Zn rfl<|Zm3 [.tmp 21, .tmp 22, .tmp 30] _ _ rfl (Zp2 h21<|Zp2 h22<|Zp2 h30 Zq2) VT.en104 ((Zv2 (i := 2) rfl).trans<|.cons _<|(Zv2 (i := 3) rfl).trans<|.cons _<|(Zv2 (i := 3) rfl).trans<|.cons _<|.refl _) (follow_c gm gf gv u (stkV gs 1 cap) ov M ρ f e h0 he0 hf hb hbl he2) (λ r Sa h => by subst h; exact ⟨(), trivial, rfl⟩))<|DrawP_nil<|λ γ => Ze<|Zb1<|Zn3 rfl ?_
 rw [hr]
 refine ⟨_, (Drops.pick 0 rfl rfl (Drops.pick 4 rfl rfl (Drops.pick 0 rfl rfl (Drops.pick 0 rfl rfl (Drops.nil _))))), (gf, gv) :: [], .inl rfl, ?_, ?_⟩
 . show _ = Yb (followF u f e :: []); simp
 show _ = mcells gm u (stkV gs (Yb (followF u f e :: [])) cap) ov _ :: srow gs ls :: framesS ρ _ (followF u f e :: []); rfl
theorem end1_c (gm gf gv gs cap : Nat) (gg ggv : Nat) (g : MFrame) (fs : List MFrame) (G : List (Nat × Nat)) (hGl : G.length = fs.length) (u : SUnit) (ov : V) (M : Mach) (ρ : Nat -> Nat) (f : MFrame) (t : STerm) (ls : List V) (hst : M.stack = f :: (g :: fs)) (hg : ls[fs.length]? = some (.ptr gg 0)) (hnc : (fs.length + 2) <= cap) (hcm : cap <= maxLen) (h0 : 0 <= f.fn) {fn : SFunc} (hf : u.fns[f.fn.toNat]? = some fn) (ht : TermOk fn t) : VCalls Tryz.prog 85 [.ptr gm 0, .ptr gf 0, termV t] (mcells gm u (stkV gs (fs.length + 2) cap) ov M :: srow gs ls :: fcell gf gv f :: fmap ρ gv f.vals :: fcell gg ggv g :: fmap ρ ggv g.vals :: framesS ρ G fs) (EndPost gm u gs cap ov ρ (gf, gv) ((gg, ggv) :: G) ls (termF u f t (g :: fs) M)) := by
 refine VCalls_drops ?_
 have hr := termF.eq_def u f t (g :: fs) M
 refine V_start (nt := 53) Tryz.func85 rfl rfl rfl ?_
 refine Zb<|Zd<|Zc<|Zc2 rfl rfl<|λ g5 => (Za<|Zi<|Zb<|VW_drawR (G := Nat) [([], [1], []), ([0], [7], []), ([1, 0], [8], []), ([2, 1, 0], [9], []), ([], [5], []), ([4], [11], []), (dn 6, [10, 12], []), ([], [], [0]), (dn 8, [6, 13], [])] [7, 8] (twoSt _ (λ g6 => .cells g6 159 VT.zs159 :: .cells g5 42 [.int t.kind, .int t.arg, .int t.n, intsX t.cases, edgesX t.to] :: mcells gm u (stkV gs (fs.length + 2) cap) ov M :: srow gs ls :: fcell gf gv f :: fmap ρ gv f.vals :: fcell gg ggv g :: fmap ρ ggv g.vals :: framesS ρ G fs) (λ g6 _ => .cells g6 159 (valX ρ<|vget f.vals t.arg).leaves :: .cells g5 42 [.int t.kind, .int t.arg, .int t.n, intsX t.cases, edgesX t.to] :: mcells gm u (stkV gs (fs.length + 2) cap) ov M :: srow gs ls :: fcell gf gv f :: fmap ρ gv f.vals :: fcell gg ggv g :: fmap ρ ggv g.vals :: framesS ρ G fs)) [6] [6, 7, 8, 9, 10, 11, 12, 13] rfl VT.mix<|Zp (Zm _) (Zm2 rfl<|λ _ => (λ γ => Zf<|λ _ h1 => Ze<|Zn rfl<|Zl h1 z0))<|Zp (Zm _) (Zm2 rfl<|λ _ => (λ γ => Zw 0 0 rfl<|λ _ h7 => Ze<|Zn rfl<|Zv1 h7 z0))<|Zp (Zm _) (Zm2 rfl<|λ _ => (λ γ => Zw 1 0 rfl<|λ _ h8 => Ze<|Zn rfl<|Zj VT.fa156_4 h8 z0))<|Zp (Zm _) (Zo rfl rfl ⟨(λ γ => Zw 2 0 rfl (λ _ h9 => Ze (Zn rfl (Zu 3 VT.ty154 h9 rfl rfl z0)))), (λ γ => Zw 2 0 rfl (λ _ h9 => Ze (Zn rfl (Zu 4 VT.ty154 h9 rfl rfl z0)))), trivial⟩)<|Zp (Zm _) (Zm2 rfl<|λ _ => (λ γ => Zf<|λ _ h5 => Ze<|Zn rfl<|Zj VT.fa42_1 h5 z0))<|Zp (Zm _) (Zo rfl rfl ⟨(λ γ => Zw 4 0 rfl (λ _ h11 => Ze (Zn rfl (Zu 0 VT.ty3 h11 rfl rfl z0)))), (λ γ => Zw 4 0 rfl (λ _ h11 => Ze (Zn rfl (Zu 1 VT.ty3 h11 rfl rfl z0)))), trivial⟩)<|Zp (Zm _) (Zo rfl rfl ⟨(λ γ => Zw 3 2 rfl (λ _ h10 => Zw 5 0 rfl (λ _ h12 => Ze (Zn rfl (Zu2 (V_lookupD 4 (.agg VT.zs159) (λ m => ⟨rfl, _, rfl, by simp [Go.VL.RepL, VT.zs159, Rep]⟩) Tryz.underlying154 (key_int Tryz.underlying3) VT.zr159 h10 h12 rfl z0) ((kget_encV ρ t.arg f.vals)) z0))))), (λ γ => Zw 3 2 rfl (λ _ h10 => Zw 5 0 rfl (λ _ h12 => Ze (Zn rfl (Zu2 (V_lookupD 5 (.agg VT.zs159) (λ m => ⟨rfl, _, rfl, by simp [Go.VL.RepL, VT.zs159, Rep]⟩) Tryz.underlying154 (key_int Tryz.underlying3) VT.zr159 h10 h12 rfl z0) ((kget_encV ρ t.arg f.vals)) z0))))), trivial⟩)<|Zp (Zw2<|λ g6 => .ptr g6 0) (Zo2 0 rfl<|λ γ => Ze<|Zn rfl<|Zb2 VT.zr159 _ rfl rfl<|λ g6 => ⟨g6, ⟨g6, rfl, rfl⟩, rfl⟩)<|Zp Za3 (Zo2 1 rfl<|λ γ => Zw 7 0 rfl<|λ _ h6 => Zw 6 1 rfl<|λ _ h13 => Ze<|Zx2 h6<|λ e6 => Zn rfl<|Zx 0 VT.ty159 e6 h13 rfl rfl rfl ⟨default, trivial, rfl⟩)<|DrawP_nil<|λ γ => Zw 7 1 rfl<|λ r6 h6 => Ze ?_)
 have e6 : r6 = some _ := Zd3 h6
 subst e6
 clear h6
 refine Zi<|Zb<|Zd<|Zc<|Zj VT.fa42_0 rfl<|Zc<|Zu 1 VT.ty3 rfl rfl rfl<|Za<|Zi<|Zs<|Zb<|Zd<|Zc<|Zj1 rfl rfl rfl<|Zc<|Zk rfl<|Za<|Zi<|Zl1 rfl (λ h32 => ?_)<|λ h32 => ?_
 .
  rw [if_pos h32] at hr
  refine Zd<|Zc<|Zl rfl<|Zc<|Zj VT.fa42_2 rfl<|Zc<|Zu 1 VT.ty3 rfl rfl rfl<|Zc<|Zm3 [.tmp 34, .tmp 36, .const (.int .i64 (0))] [_] _ rfl rfl VT.en87 (Zv2 (i := 2) rfl) (stop_c gm u (stkV gs (fs.length + 2) cap) ov M t.n 0) ?_
  rintro r Sa rfl
  refine Za<|Zb1<|Zn3 rfl ?_
  have hst2 : (stopF t.n 0 M).stack = f :: (g :: fs) := hst
  rw [hr]
  refine ⟨_, (Dk (Dd (Dd (Dk (Dk (Dk (Dk (Dk (Zt2 _))))))))), (gf, gv) :: ((gg, ggv) :: G), .inl rfl, ?_, ?_⟩
  . rw [hst2]; simp [hGl]
  rw [hst2]; rfl
 rw [if_neg h32] at hr
 refine Zb<|Zd<|Zc<|Zj1 rfl rfl rfl<|Zc<|Zk rfl<|Za<|Zi<|Zl1 rfl (λ h38 => ?_)<|λ h38 => ?_
 .
  rw [if_pos h38] at hr
  have h1 := ht.one h38
  obtain ⟨e, he⟩ := get_of_lt t.to 0 (by omega)
  have hme := Yc he
  obtain ⟨he0, ⟨b, hb, hbl⟩, he2⟩ := ht.edges e hme
  have hee : edgeAt t 0 = e := by rw [edgeAt, he]; rfl
  rw [hee] at hr
  refine Zd<|Zc<|Zl rfl<|Zc<|Zl rfl<|Zc<|Zj VT.fa42_4 rfl<|Zc<|Zu 1 VT.ty40 rfl rfl rfl<|Zc<|Zz (el := edgeV e) VT.sl40 rfl rfl (by omega) (get_mapS _ he)<|λ a44 => (Zc<|Za2 VT.ty189 rfl rfl<|Zc<|Zm3 [.tmp 40, .tmp 41, .tmp 45] _ _ rfl rfl VT.en104 ((Zv2 (i := 2) rfl).trans<|.cons _<|(Zv2 (i := 3) rfl).trans<|.cons _<|(Zv2 (i := 3) rfl).trans<|.cons _<|.refl _) (follow_c gm gf gv u (stkV gs (fs.length + 2) cap) ov M ρ f e h0 he0 hf hb hbl he2) ?_)
  rintro r Sa rfl
  refine Za<|Zb1<|Zn3 rfl ?_
  rw [hr]
  refine ⟨_, (Drops.pick 0 rfl rfl (Drops.pick 4 rfl rfl (Drops.pick 0 rfl rfl (Drops.pick 0 rfl rfl (Drops.pick 2 rfl rfl (Drops.pick 2 rfl rfl (Dd (Dd (Zt2 _))))))))), (gf, gv) :: ((gg, ggv) :: G), .inl rfl, ?_, ?_⟩
  . show _ = Yb (followF u f e :: (g :: fs)); simp [hGl]
  show _ = mcells gm u (stkV gs (Yb (followF u f e :: (g :: fs))) cap) ov _ :: srow gs ls :: framesS ρ _ (followF u f e :: (g :: fs)); rfl
 rw [if_neg h38] at hr
 refine Zb<|Zd<|Zc<|Zj1 rfl rfl rfl<|Zc<|Zk rfl<|Za<|Zi<|Zl1 rfl (λ h47 => ?_)<|λ h47 => ?_
 .
  rw [if_pos h47] at hr
  refine Zd<|Zc<|Zl rfl<|Zc<|Zl rfl<|Zc<|Zv 0 VT.ty159 rfl rfl rfl<|Zc<|Zm3 [.tmp 49, .tmp 50, .tmp 51] _ _ rfl rfl VT.en105 ((Zv2 (i := 2) rfl).trans<|.cons _<|(Zv2 (i := 2) rfl).trans<|.cons _<|(Zv2 (i := 2) rfl).trans<|.cons _<|(Zv2 (i := 2) rfl).trans<|.cons _<|(Zv2 (i := 2) rfl).trans<|.cons _<|(Zv2 (i := 2) rfl).trans<|.cons _<|.refl _) (leave_c gm gf gv gs (fs.length + 2) cap u ov M ρ f (vget f.vals t.arg) ls hnc hcm (by omega) gg ggv g hg) ?_
  rintro r Sa rfl
  refine Za<|Zb1<|Zn3 rfl ?_
  rw [hr]
  refine ⟨_, (Dk (Dk (Dk (Dk (Dd (Dd (Zt2 _))))))), (gg, ggv) :: G, .inr rfl, ?_, rfl⟩
  simp [leaveF, hGl]
 rw [if_neg h47] at hr
 refine Zb<|Zb<|Zd<|Zc<|Zj VT.fa159_0 rfl<|Zc<|Zu 0 VT.ty3 rfl rfl rfl<|Zc<|Zj1 rfl rfl rfl<|Za<|Zi<|Zm1 rfl (λ h18 => ?_)<|λ h18 => ?_
 .
  rw [if_pos h18] at hr
  refine Zb<|Zd<|Zc<|Zl rfl<|Zc<|Zm3 [.tmp 19, .const (.int .i64 (5)), .const (.int .i64 (0))] [_] _ rfl rfl VT.en87 (Zv2 (i := 2) rfl) (stop_c gm u (stkV gs (fs.length + 2) cap) ov M 5 0) ?_
  rintro r Sa rfl
  refine Za<|Zi<|Zf1<|Zd1<|Za1<|Zh1 rfl rfl (.nil) ?_
  have hst2 : (stopF 5 0 M).stack = f :: (g :: fs) := hst
  rw [hr]
  refine ⟨_, (Dk (Dd (Dd (Dk (Dk (Dk (Dk (Dk (Zt2 _))))))))), (gf, gv) :: ((gg, ggv) :: G), .inl rfl, ?_, ?_⟩
  . rw [hst2]; simp [hGl]
  rw [hst2]; rfl
 rw [if_neg (by omega)] at hr
 obtain ⟨hc0, hc1⟩ := choice_lt ht (vget f.vals t.arg).n h47 h38 h32
 obtain ⟨e, he⟩ := get_of_lt t.to (choiceF t (vget f.vals t.arg).n).toNat (by omega)
 have hme := Yc he
 obtain ⟨he0, ⟨b, hb, hbl⟩, he2⟩ := ht.edges e hme
 have hee : edgeAt t (choiceF t (vget f.vals t.arg).n).toNat = e := by rw [edgeAt, he]; rfl
 rw [hee] at hr
 refine Zi1<|Zi<|VW_drawR (G := Unit) [([], [0], []), ([], [1], []), ([], [5], []), ([2], [23], []), ([], [5], []), ([], [6], []), ([5], [26], []), ([6, 5, 4], [25, 27], []), ([7, 6, 5, 4, 3, 2], [24, 28], []), ([8, 7, 6, 5, 4, 3, 2], [29], []), (dn 10, [21, 22, 30], [])] [10] (oneSt _ (λ _ => mcells gm u (stkV gs (fs.length + 2) cap) ov M :: fcell gf gv (followF u f e) :: fmap ρ gv (followF u f e).vals :: .cells (γ 0) 159 (valX ρ<|vget f.vals t.arg).leaves :: .cells g5 42 [.int t.kind, .int t.arg, .int t.n, intsX t.cases, edgesX t.to] :: srow gs ls :: fcell gg ggv g :: fmap ρ ggv g.vals :: framesS ρ G fs)) [] [21, 22, 23, 24, 25, 26, 27, 28, 29, 30, 31] rfl VT.mix<|Zp (Zm _) (Zo rfl rfl ⟨(λ γ => Zf (λ _ h0 => Ze (Zn rfl (Zl h0 z0)))), trivial⟩)<|Zp (Zm _) (Zo rfl rfl ⟨(λ γ => Zf (λ _ h1 => Ze (Zn rfl (Zl h1 z0)))), trivial⟩)<|Zp (Zm _) (Zo rfl rfl ⟨(λ γ => Zf (λ _ h5 => Ze (Zn rfl (Zj VT.fa42_4 h5 z0)))), trivial⟩)<|Zp (Zm _) (Zo rfl rfl ⟨(λ γ => Zw 2 0 rfl (λ _ h23 => Ze (Zn rfl (Zu 1 VT.ty40 h23 rfl rfl z0)))), trivial⟩)<|Zp (Zm _) (Zo rfl rfl ⟨(λ γ => Zf (λ _ h5 => Ze (Zn rfl (Zv 1 VT.ty42 h5 rfl rfl z0)))), trivial⟩)<|Zp (Zm _) (Zo rfl rfl ⟨(λ γ => Zf (λ _ h6 => Ze (Zn rfl (Zj VT.fa159_1 h6 z0)))), trivial⟩)<|Zp (Zm _) (Zo rfl rfl ⟨(λ γ => Zw 5 0 rfl (λ _ h26 => Ze (Zn rfl (Zu 0 VT.ty3 h26 rfl rfl z0)))), trivial⟩)<|Zp (Zm _) (Zo rfl rfl ⟨(λ γ => Zw 4 2 rfl (λ _ h25 => Zw 6 0 rfl (λ _ h27 => Ze (Zn rfl (Zx1 [.tmp 25, .tmp 27] rfl (Zp2 h25 (Zp2 h27 Zq2)) VT.en106 (choice_c t (vget f.vals t.arg).n) z0))))), trivial⟩)<|Zp (Zb3 _) (Zo rfl rfl ⟨(λ γ => Zw 3 4 rfl (λ _ h24 => Zw 7 0 rfl (λ _ h28 => Ze (Zn rfl (Zz (el := edgeV e) VT.sl40 h24 h28 (by omega) (get_mapS _ he) (λ a29 => ⟨⟨_, rfl⟩, rfl⟩)))))), trivial⟩)<|Zp (Zm _) (Zo rfl rfl ⟨(λ γ => Zw 8 0 rfl (λ _ h29 => Ze (Zc3 h29 (λ a_29 e29 => Zn rfl (Za2 VT.ty189 e29 rfl z0))))), trivial⟩)<|Zp Za3 (Zn2 rfl<|λ γ => Zw 0 9 rfl<|λ _ h21 => Zw 1 8 rfl<|λ _ h22 => Zw 9 0 rfl<|λ _ h30 => Ze<|Zn rfl<|Zm3 [.tmp 21, .tmp 22, .tmp 30] _ _ rfl (Zp2 h21<|Zp2 h22<|Zp2 h30 Zq2) VT.en104 ((Zv2 (i := 2) rfl).trans<|.cons _<|(Zv2 (i := 3) rfl).trans<|.cons _<|(Zv2 (i := 3) rfl).trans<|.cons _<|.refl _) (follow_c gm gf gv u (stkV gs (fs.length + 2) cap) ov M ρ f e h0 he0 hf hb hbl he2) (λ r Sa h => by subst h; exact ⟨(), trivial, rfl⟩))<|DrawP_nil<|λ γ => Ze<|Zb1<|Zn3 rfl ?_
 rw [hr]
 refine ⟨_, (Drops.pick 0 rfl rfl (Drops.pick 4 rfl rfl (Drops.pick 0 rfl rfl (Drops.pick 0 rfl rfl (Drops.pick 2 rfl rfl (Drops.pick 2 rfl rfl (Dd (Dd (Zt2 _))))))))), (gf, gv) :: ((gg, ggv) :: G), .inl rfl, ?_, ?_⟩
 . show _ = Yb (followF u f e :: (g :: fs)); simp [hGl]
 show _ = mcells gm u (stkV gs (Yb (followF u f e :: (g :: fs))) cap) ov _ :: srow gs ls :: framesS ρ _ (followF u f e :: (g :: fs)); rfl
theorem end_c (gm gf gv gs cap : Nat) (u : SUnit) (ov : V) (M : Mach) (ρ : Nat -> Nat) (f : MFrame) (fs : List MFrame) (G : List (Nat × Nat)) (rest : List V) (t : STerm) (hst : M.stack = f :: fs) (hGl : G.length = fs.length) (hnc : fs.length + 1 <= cap) (hcm : cap <= maxLen) (h0 : 0 <= f.fn) {fn : SFunc} (hf : u.fns[f.fn.toNat]? = some fn) (ht : TermOk fn t) :
  VCalls Tryz.prog 85 [.ptr gm 0, .ptr gf 0, termV t] (mcells gm u (stkV gs (fs.length + 1) cap) ov M :: srow gs (ptrsV ((gf, gv) :: G) ++ rest) :: fcell gf gv f :: fmap ρ gv f.vals :: framesS ρ G fs) (EndPost gm u gs cap ov ρ (gf, gv) G (ptrsV ((gf, gv) :: G) ++ rest) (termF u f t fs M)) := by
 cases fs with
 | nil =>
  cases G with
  | nil => exact end0_c gm gf gv gs cap u ov M ρ f t _ hst hnc hcm h0 hf ht
  | cons p G => simp at hGl
 | cons g fs =>
  cases G with
  | nil => simp at hGl
  | cons p G =>
   simp at hGl
   refine end1_c gm gf gv gs cap p.1 p.2 g fs G hGl u ov M ρ f t _ hst ?_ hnc hcm h0 hf ht
   rw [ptrsV_cons, ptrsV_cons, Yd, Yd, Yj (by rw [ptrsV_len]; omega)]
   simp [ptrsV_len, hGl]
theorem step_g (gm gs cap gf gv : Nat) (u : SUnit) (rest : List V) (tok : Tok) (G A : List (Nat × Nat)) (M : Mach) (f : MFrame) (fs : List MFrame) (hU : UOk u) (hM : MOk u M) (hlf : M.left + (fs.length + 1) <= 1000000) (hst : M.stack = f :: fs) (hGl : G.length = fs.length) (hA : A.length = M.heap.length) (hcap : (ptrsV ((gf, gv) :: G) ++ rest).length = cap) (hcm : cap <= maxLen) : VCalls Tryz.prog 54 [.ptr gm 0] (mcells gm u (stkV gs (fs.length + 1) cap) (outV tok M.out) M :: obuf tok M.out :: srow gs (ptrsV ((gf, gv) :: G) ++ rest) :: fcell gf gv f :: fmap (rho A) gv f.vals :: (framesS (rho A) G fs ++ arrsS (rho A) A M.heap)) λ r S' => MSt gm u (stepF u M) S' := by
 refine VCalls_drops ?_
 have hfo := hM.frames f (by rw [hst]; exact List.mem_cons_self ..)
 obtain ⟨F, b, hF, hb, hat0, hat⟩ := hfo.code
 have h0 := hfo.fn0
 have hb0 := hfo.blk0
 have hblk : blockAt u f.fn f.block = b := by rw [blockAt, hF]; simp [hb]
 have hFm := Yc hF
 have hbm := Yc hb
 have hleft := hM.left0
 have hr : stepF u M = if f.at_ = (b.ins.length : Int) then termF u f b.term fs M else insF u { f with at_ := f.at_ + 1 } (b.ins[f.at_.toNat]?.getD default) fs { M with stack := { f with at_ := f.at_ + 1 } :: fs } := by rw [stepF, hst]; dsimp only; rw [hblk]
 have hp : (ptrsV ((gf, gv) :: G) ++ rest)[fs.length]? = some (V.ptr gf 0) := by rw [ptrsV_cons, Yd, Yj (by rw [ptrsV_len]; omega)]; simp [ptrsV_len, hGl]
 have hnc : fs.length + 1 <= cap := by rw [<- hcap, Yh, ptrsV_len]; simp; omega
 have hn1 : fs.length + 1 <= 1000001 := by omega
 have hvs : ∀ e ∈ f.vals, okV u.fns.length M.heap.length e.2 = true := hfo.vals
 have hve : ∀ B, encV (rho A) f.vals = encV (rho (A ++ B)) f.vals := λ B => encV_ext (rho_ext A B) (by rw [hA]; exact hvs)
 have hfe : ∀ B, framesS (rho A) G fs = framesS (rho (A ++ B)) G fs := λ B => framesS_ext (nf := u.fns.length) (rho_ext A B) G λ g hg => by rw [hA]; exact (hM.frames g (by rw [hst]; exact List.mem_cons_of_mem _ hg)).vals
 refine V_start (nt := 137) Tryz.func54 rfl rfl rfl ?_
 refine Zb<|VW_drawR (G := Unit) [([], [0], []), ([0], [9], []), ([1, 0], [10], []), ([2, 1, 0], [11], []), ([], [0], []), ([4], [13], []), ([5, 4], [14], []), ([6, 5, 4], [15], []), ([7, 6, 5, 4], [16], []), ([8, 7, 6, 5, 4], [17], []), (dn 10, [12, 18], []), (dn 11, [19], []), (dn 12, [20], [])] [] (constSt _) [2] [2, 9, 10, 11, 12, 13, 14, 15, 16, 17, 18, 19, 20] rfl VT.mix<|ZA (λ γ => Zf<|λ _ h0 => Ze<|Zn rfl<|Zl h0 z0)<|ZA (λ γ => Zw 0 0 rfl<|λ _ h9 => Ze<|Zn rfl<|Zv1 h9 z0)<|ZA (λ γ => Zw 1 0 rfl<|λ _ h10 => Ze<|Zn rfl<|Zj VT.fa121_1 h10 z0)<|ZA (λ γ => Zw 2 0 rfl<|λ _ h11 => Ze<|Zn rfl<|Zu 0 VT.ty119 h11 rfl rfl z0)<|ZA (λ γ => Zf<|λ _ h0 => Ze<|Zn rfl<|Zl h0 z0)<|ZA (λ γ => Zw 4 0 rfl<|λ _ h13 => Ze<|Zn rfl<|Zv1 h13 z0)<|ZA (λ γ => Zw 5 0 rfl<|λ _ h14 => Ze<|Zn rfl<|Zj VT.fa121_1 h14 z0)<|ZA (λ γ => Zw 6 0 rfl<|λ _ h15 => Ze<|Zn rfl<|Zu 0 VT.ty119 h15 rfl rfl z0)<|ZA (λ γ => Zw 7 0 rfl<|λ _ h16 => Ze<|Zn rfl<|V_len_raw Tryz.underlying119 h16 z0)<|ZA (λ γ => Zw 8 0 rfl<|λ _ h17 => Ze<|Zn rfl<|Zu2 (Zk2 h17 rfl (by omega) z0) (V.le.of_eq<|congrArg V.int (show ((fs.length + 1 : Nat) : Int) - 1 = (fs.length : Int) by omega)) z0)<|ZA (λ γ => Zw 3 6 rfl<|λ _ h12 => Zw 9 0 rfl<|λ _ h18 => Ze<|Zn rfl<|Zr2 VT.sl119 h12 h18 (by omega) (by omega) z0)<|ZA (λ γ => Zw 10 0 rfl<|λ _ h19 => Ze<|Zn rfl<|Zf3 2 fs.length VT.ty153 h19 (by omega) rfl (Ya _).symm hp z0)<|ZA (λ γ => Zw 11 0 rfl<|λ _ h20 => Ze<|Zn rfl<|Zk h20 z0)<|DrawP_nil<|λ γ => Zw 12 0 rfl<|λ r2 h2 => Ze ?_
 have e2 : r2 = some _ := h2
 subst e2
 clear h2
 refine Zi<|Zb<|VW_drawR (G := Nat) [([], [0], []), ([0], [21], []), ([1, 0], [22], []), ([2, 1, 0], [23], []), (dn 4, [24], []), ([], [2], []), ([5], [26], []), ([6, 5], [27], []), ([7, 6, 5], [28], []), (dn 9, [25, 29], []), (dn 10, [30], []), (dn 11, [31], []), ([], [2], []), ([12], [33], []), ([13, 12], [34], []), ([14, 13, 12], [35], []), (dn 16, [32, 36], []), (dn 17, [37], []), ([], [], [0]), (dn 19, [3, 38], [])] [18, 19] (twoSt _ (λ g3 => .cells g3 44 VT.zs44 :: mcells gm u (stkV gs (fs.length + 1) cap) (outV tok M.out) M :: obuf tok M.out :: srow gs (ptrsV ((gf, gv) :: G) ++ rest) :: fcell gf gv f :: fmap (rho A) gv f.vals :: (framesS (rho A) G fs ++ arrsS (rho A) A M.heap)) (λ g3 _ => .cells g3 44 (blockV b).leaves :: mcells gm u (stkV gs (fs.length + 1) cap) (outV tok M.out) M :: obuf tok M.out :: srow gs (ptrsV ((gf, gv) :: G) ++ rest) :: fcell gf gv f :: fmap (rho A) gv f.vals :: (framesS (rho A) G fs ++ arrsS (rho A) A M.heap))) [3] [3, 21, 22, 23, 24, 25, 26, 27, 28, 29, 30, 31, 32, 33, 34, 35, 36, 37, 38] rfl VT.mix<|Zp (Zm _) (Zm2 rfl<|λ _ => (λ γ => Zf<|λ _ h0 => Ze<|Zn rfl<|Zl h0 z0))<|Zp (Zm _) (Zm2 rfl<|λ _ => (λ γ => Zw 0 0 rfl<|λ _ h21 => Ze<|Zn rfl<|Zv1 h21 z0))<|Zp (Zm _) (Zm2 rfl<|λ _ => (λ γ => Zw 1 0 rfl<|λ _ h22 => Ze<|Zn rfl<|Zj VT.fa121_0 h22 z0))<|Zp (Zm _) (Zm2 rfl<|λ _ => (λ γ => Zw 2 0 rfl<|λ _ h23 => Ze<|Zn rfl<|Zj VT.fa50_0 h23 z0))<|Zp (Zm _) (Zo rfl rfl ⟨(λ γ => Zw 3 0 rfl (λ _ h24 => Ze (Zn rfl (Zu 0 VT.ty48 h24 rfl rfl z0)))), (λ γ => Zw 3 0 rfl (λ _ h24 => Ze (Zn rfl (Zu 1 VT.ty48 h24 rfl rfl z0)))), trivial⟩)<|Zp (Zm _) (Zm2 rfl<|λ _ => (λ γ => Zf<|λ _ h2 => Ze<|Zn rfl<|Zl h2 z0))<|Zp (Zm _) (Zm2 rfl<|λ _ => (λ γ => Zw 5 0 rfl<|λ _ h26 => Ze<|Zn rfl<|Zv1 h26 z0))<|Zp (Zm _) (Zm2 rfl<|λ _ => (λ γ => Zw 6 0 rfl<|λ _ h27 => Ze<|Zn rfl<|Zj VT.fa156_0 h27 z0))<|Zp (Zm _) (Zo rfl rfl ⟨(λ γ => Zw 7 0 rfl (λ _ h28 => Ze (Zn rfl (Zu 3 VT.ty3 h28 rfl rfl z0)))), (λ γ => Zw 7 0 rfl (λ _ h28 => Ze (Zn rfl (Zu 4 VT.ty3 h28 rfl rfl z0)))), trivial⟩)<|Zp (Zb3 _) (Zm2 rfl<|λ _ => (λ γ => Zw 4 4 rfl<|λ _ h25 => Zw 8 0 rfl<|λ _ h29 => Ze<|Zn rfl<|Zz (el := funcV F) VT.sl48 h25 h29 (by omega) (get_mapS _ hF)<|λ a30 => ⟨⟨_, rfl⟩, rfl⟩))<|Zp (Zb3 _) (Zm2 rfl<|λ _ => (λ γ => Zw 9 0 rfl<|λ _ h30 => Ze<|Zc3 h30<|λ a_30 e30 => Zn rfl<|Zw1 VT.fa47_1 e30 rfl ⟨⟨_, rfl⟩, rfl⟩))<|Zp (Zm _) (Zm2 rfl<|λ _ => (λ γ => Zw 10 0 rfl<|λ _ h31 => Ze<|Zc3 h31<|λ a_31 e31 => Zn rfl<|Zz1 VT.ty45 e31 rfl z0))<|Zp (Zm _) (Zm2 rfl<|λ _ => (λ γ => Zf<|λ _ h2 => Ze<|Zn rfl<|Zl h2 z0))<|Zp (Zm _) (Zm2 rfl<|λ _ => (λ γ => Zw 12 0 rfl<|λ _ h33 => Ze<|Zn rfl<|Zv1 h33 z0))<|Zp (Zm _) (Zm2 rfl<|λ _ => (λ γ => Zw 13 0 rfl<|λ _ h34 => Ze<|Zn rfl<|Zj VT.fa156_1 h34 z0))<|Zp (Zm _) (Zo rfl rfl ⟨(λ γ => Zw 14 0 rfl (λ _ h35 => Ze (Zn rfl (Zu 3 VT.ty3 h35 rfl rfl z0)))), (λ γ => Zw 14 0 rfl (λ _ h35 => Ze (Zn rfl (Zu 4 VT.ty3 h35 rfl rfl z0)))), trivial⟩)<|Zp (Zb3 _) (Zm2 rfl<|λ _ => (λ γ => Zw 11 4 rfl<|λ _ h32 => Zw 15 0 rfl<|λ _ h36 => Ze<|Zn rfl<|Zz (el := blockV b) VT.sl45 h32 h36 (by omega) (get_mapS _ hb)<|λ a37 => ⟨⟨_, rfl⟩, rfl⟩))<|Zp (Zm _) (Zm2 rfl<|λ _ => (λ γ => Zw 16 0 rfl<|λ _ h37 => Ze<|Zc3 h37<|λ a_37 e37 => Zn rfl<|Za2 VT.ty44 e37 rfl z0))<|Zp (Zw2<|λ g3 => .ptr g3 0) (Zo2 0 rfl<|λ γ => Ze<|Zn rfl<|Zb2 VT.zr44 _ rfl rfl<|λ g3 => ⟨g3, ⟨g3, rfl, rfl⟩, rfl⟩)<|Zp Za3 (Zo2 1 rfl<|λ γ => Zw 18 0 rfl<|λ _ h3 => Zw 17 1 rfl<|λ _ h38 => Ze<|Zx2 h3<|λ e3 => Zn rfl<|Zx 0 VT.ty44 e3 h38 rfl rfl rfl ⟨default, trivial, rfl⟩)<|DrawP_nil<|λ γ => Zw 18 1 rfl<|λ r3 h3 => Ze ?_
 have e3 : r3 = some _ := Zd3 h3
 subst e3
 clear h3
 refine Zi ?_
 let g3 : Nat := γ 0
 refine Zb<|Zb<|VW_drawR (G := Unit) [([], [2], []), ([0], [39], []), ([1, 0], [40], []), ([2, 1, 0], [41], []), ([], [3], []), ([4], [43], []), ([5, 4], [44], []), (dn 7, [42, 45], [])] [] (constSt _) [46] [39, 40, 41, 42, 43, 44, 45, 46] rfl VT.mix<|ZA (λ γ => Zf<|λ _ h2 => Ze<|Zn rfl<|Zl h2 z0)<|ZA (λ γ => Zw 0 0 rfl<|λ _ h39 => Ze<|Zn rfl<|Zv1 h39 z0)<|ZA (λ γ => Zw 1 0 rfl<|λ _ h40 => Ze<|Zn rfl<|Zj VT.fa156_2 h40 z0)<|ZA (λ γ => Zw 2 0 rfl<|λ _ h41 => Ze<|Zn rfl<|Zu 4 VT.ty3 h41 rfl rfl z0)<|ZA (λ γ => Zf<|λ _ h3 => Ze<|Zn rfl<|Zj VT.fa44_1 h3 z0)<|ZA (λ γ => Zw 4 0 rfl<|λ _ h43 => Ze<|Zn rfl<|Zu 0 VT.ty39 h43 rfl rfl z0)<|ZA (λ γ => Zw 5 0 rfl<|λ _ h44 => Ze<|Zn rfl<|Zd2 (n := b.ins.length) Tryz.underlying39 h44 (by simp)<|λ hl45 => z0)<|ZA (λ γ => Zw 3 3 rfl<|λ _ h42 => Zw 6 0 rfl<|λ _ h45 => Ze<|Zn rfl<|Zj1 h42 h45 rfl z0)<|DrawP_nil<|λ γ => Zw 7 0 rfl<|λ r46 h46 => Ze ?_
 have e46 : r46 = some _ := h46
 subst e46
 clear h46
 refine Zi<|Zl1 rfl (λ h46 => ?_)<|λ h46 => ?_
 .
  rw [if_pos h46] at hr
  refine Zb<|Zd<|Zc<|Zl rfl<|Zc<|Zl rfl<|Zc<|Zj VT.fa44_2 rfl<|Zc<|Zv 0 VT.ty42 rfl rfl rfl<|Zc<|V_callG [.tmp 47, .tmp 48, .tmp 50] (mcells gm u (stkV gs (fs.length + 1) cap) (outV tok M.out) M :: srow gs (ptrsV ((gf, gv) :: G) ++ rest) :: fcell gf gv f :: fmap (rho A) gv f.vals :: framesS (rho A) G fs) (_ :: obuf tok M.out :: arrsS (rho A) A M.heap) rfl rfl VT.en85 perm_end (end_c gm gf gv gs cap u (outV tok M.out) M (rho A) f fs G rest b.term hst hGl hnc hcm h0 hF<|hU.term F hFm b hbm) ?_
  rintro r Sa ⟨G1, hG1, hl1, rfl⟩
  refine ⟨_, drop_end, ?_⟩
  refine Za<|Zi<|Zf1<|Zd1<|Zh1 rfl rfl (.nil) ?_
  obtain ⟨hk1, hk2, hk3⟩ := termF_keeps u f b.term fs M
  rw [hr]
  rcases hG1 with rfl | rfl
  . refine ⟨_, Zt2 _, gs, cap, rest, tok, _, A, hl1, hA.trans (congrArg Yb hk2.symm), hcap, hcm, ?_⟩
    rw [MS, hk1, hk2]
  refine ⟨_, Zt2 _, gs, cap, [V.ptr gf 0] ++ rest, tok, _, A, hl1, hA.trans (congrArg Yb hk2.symm), ?_, hcm, ?_⟩
  . rw [<- hcap, ptrsV_cons, Yd]
  rw [MS, hk1, hk2, ptrsV_cons, Yd]
 rw [if_neg h46] at hr
 obtain ⟨i, hi⟩ := get_of_lt b.ins f.at_.toNat (by omega)
 rw [hi, Option.getD_some] at hr
 have him := Yc hi
 have hio := hU.ins F hFm b hbm i him
 have hmany := hio.many
 have hal : (takeF f.vals i.args).length = i.args.length := by rw [takeF, Yi]
 have hao : ∀ a ∈ (takeF f.vals i.args), okV u.fns.length M.heap.length a = true := λ a ha => by obtain ⟨x, _, rfl⟩ := List.mem_map.1 ha; exact vget_ok x hvs
 refine Zi1<|Zi<|Zb<|VW_drawR (G := Nat) [([], [3], []), ([0], [52], []), ([], [2], []), ([2], [54], []), ([3, 2], [55], []), ([4, 3, 2], [56], []), (dn 6, [53, 57], []), (dn 7, [58], []), ([], [], [0]), (dn 9, [4, 59], [])] [8, 9] (twoSt _ (λ g4 => .cells g4 38 VT.zs38 :: .cells g3 44 (blockV b).leaves :: mcells gm u (stkV gs (fs.length + 1) cap) (outV tok M.out) M :: obuf tok M.out :: srow gs (ptrsV ((gf, gv) :: G) ++ rest) :: fcell gf gv f :: fmap (rho A) gv f.vals :: (framesS (rho A) G fs ++ arrsS (rho A) A M.heap)) (λ g4 _ => .cells g4 38 (insV i).leaves :: .cells g3 44 (blockV b).leaves :: mcells gm u (stkV gs (fs.length + 1) cap) (outV tok M.out) M :: obuf tok M.out :: srow gs (ptrsV ((gf, gv) :: G) ++ rest) :: fcell gf gv f :: fmap (rho A) gv f.vals :: (framesS (rho A) G fs ++ arrsS (rho A) A M.heap))) [4] [4, 52, 53, 54, 55, 56, 57, 58, 59] rfl VT.mix<|Zp (Zm _) (Zm2 rfl<|λ _ => (λ γ => Zf<|λ _ h3 => Ze<|Zn rfl<|Zj VT.fa44_1 h3 z0))<|Zp (Zm _) (Zo rfl rfl ⟨(λ γ => Zw 0 0 rfl (λ _ h52 => Ze (Zn rfl (Zu 0 VT.ty39 h52 rfl rfl z0)))), (λ γ => Zw 0 0 rfl (λ _ h52 => Ze (Zn rfl (Zu 1 VT.ty39 h52 rfl rfl z0)))), trivial⟩)<|Zp (Zm _) (Zm2 rfl<|λ _ => (λ γ => Zf<|λ _ h2 => Ze<|Zn rfl<|Zl h2 z0))<|Zp (Zm _) (Zm2 rfl<|λ _ => (λ γ => Zw 2 0 rfl<|λ _ h54 => Ze<|Zn rfl<|Zv1 h54 z0))<|Zp (Zm _) (Zm2 rfl<|λ _ => (λ γ => Zw 3 0 rfl<|λ _ h55 => Ze<|Zn rfl<|Zj VT.fa156_2 h55 z0))<|Zp (Zm _) (Zo rfl rfl ⟨(λ γ => Zw 4 0 rfl (λ _ h56 => Ze (Zn rfl (Zu 4 VT.ty3 h56 rfl rfl z0)))), (λ γ => Zw 4 0 rfl (λ _ h56 => Ze (Zn rfl (Zu 5 VT.ty3 h56 rfl rfl z0)))), trivial⟩)<|Zp (Zb3 _) (Zm2 rfl<|λ _ => (λ γ => Zw 1 4 rfl<|λ _ h53 => Zw 5 0 rfl<|λ _ h57 => Ze<|Zn rfl<|Zz (el := insV i) VT.sl39 h53 h57 (by omega) (get_mapS _ hi)<|λ a58 => ⟨⟨_, rfl⟩, rfl⟩))<|Zp (Zm _) (Zm2 rfl<|λ _ => (λ γ => Zw 6 0 rfl<|λ _ h58 => Ze<|Zc3 h58<|λ a_58 e58 => Zn rfl<|Za2 VT.ty38 e58 rfl z0))<|Zp (Zw2<|λ g4 => .ptr g4 0) (Zo2 0 rfl<|λ γ => Ze<|Zn rfl<|Zb2 VT.zr38 _ rfl rfl<|λ g4 => ⟨g4, ⟨g4, rfl, rfl⟩, rfl⟩)<|Zp Za3 (Zo2 1 rfl<|λ γ => Zw 8 0 rfl<|λ _ h4 => Zw 7 1 rfl<|λ _ h59 => Ze<|Zx2 h4<|λ e4 => Zn rfl<|Zx 0 VT.ty38 e4 h59 rfl rfl rfl ⟨default, trivial, rfl⟩)<|DrawP_nil<|λ γ => Zw 8 1 rfl<|λ r4 h4 => Ze ?_
 have e4 : r4 = some _ := Zd3 h4
 subst e4
 clear h4
 refine Zi ?_
 let g4 : Nat := γ 0
 refine VW_cellLen 1 1 rfl rfl<|λ hbl => ?_
 have hbl : b.ins.length <= maxLen := by simpa using hbl
 rw [insF.eq_def] at hr
 dsimp only at hr
 refine Zb<|Zd<|Zc<|Zl rfl<|Zc<|Zv1 rfl<|Zc<|Zj VT.fa156_2 rfl<|Zc<|Zu 5 VT.ty3 rfl rfl rfl<|Zc<|Zh2 rfl rfl (by simp only [maxLen] at hbl; omega)<|Zc<|Zv1 rfl<|Zc<|Zj VT.fa156_2 rfl<|Zc<|Zy 5 VT.ty3 rfl rfl rfl rfl rfl<|Za<|Zi<|Zb<|Zd<|Zc<|Zl rfl<|Zc<|Zj VT.fa38_3 rfl<|Zc<|Zu 0 VT.ty36 rfl rfl rfl<|Zc<|Zl3 [.tmp 67, .tmp 69] [_, _] _ rfl rfl VT.en86 ((Zv2 (i := 5) rfl).trans<|.cons _<|(Zv2 (i := 5) rfl).trans<|.cons _<|.refl _) (take_c (rho A) gf gv { f with at_ := f.at_ + 1 } i.args hmany)<|Zc<|Zk rfl<|Za<|Zi<|Zb<|Zd<|Zc<|Zj VT.fa38_1 rfl<|Zc<|Zu 0 VT.ty3 rfl rfl rfl<|Za<|Zi<|Zs<|Zb<|Zd<|Zc<|Zj1 rfl rfl rfl<|Zc<|Zk rfl<|Za<|Zi<|Zl1 rfl (λ h92 => ?_)<|λ h92 => ?_
 .
  rw [if_pos h92] at hr
  obtain ⟨hc0, hc1, hc2⟩ := hio.call h92
  obtain ⟨F2, hF2⟩ := get_of_lt u.fns i.n.toNat (by omega)
  refine Zd<|Zc<|Zl rfl<|Zc<|Zj VT.fa38_2 rfl<|Zc<|Zu 0 VT.ty3 rfl rfl rfl<|Zc<|Zl rfl<|Zc<|Zj VT.fa38_0 rfl<|Zc<|Zu 0 VT.ty3 rfl rfl rfl<|Zc<|Zm3 [.tmp 94, .tmp 96, .tmp 97, .tmp 99] _ _ rfl rfl VT.en52 ((Zv2 (i := 2) rfl).trans<|.cons _<|(Zv2 (i := 3) rfl).trans<|.cons _<|.refl _) (enter_c gm u (outV tok M.out) M (rho A) i.n i.to (takeF f.vals i.args) gs (fs.length + 1) cap (ptrsV ((gf, gv) :: G) ++ rest) hcap hnc hcm hn1 hc0 hF2 (hU.ne F2<|Yc hF2) (by omega)) ?_
  rintro r Sa ⟨g1, g2, gs1, cap1, rest1, hc1, hm1, hl1, rfl⟩
  refine Za<|Zb1<|Zn3 rfl ?_
  rw [hr]
  have htk : (ptrsV ((gf, gv) :: G) ++ rest).take (fs.length + 1) = ptrsV ((gf, gv) :: G) := by rw [Yk (by rw [ptrsV_len]; simp; omega), List.take_of_length_le (by rw [ptrsV_len]; simp; omega)]
  have hpe : ptrsV ((gf, gv) :: G) ++ ([V.ptr g1 0] ++ rest1) = ptrsV ((g1, g2) :: (gf, gv) :: G) ++ rest1 := by rw [ptrsV_cons (g1, g2), Yd]
  rw [htk, hpe] at hl1
  refine ⟨_, (Drops.pick 0 rfl rfl (Drops.pick 5 rfl rfl (Drops.pick 0 rfl rfl (Drops.pick 0 rfl rfl (Drops.pick 0 rfl rfl (Drops.pick 2 rfl rfl (Drops.pick 2 rfl rfl (Dd (Dd (Zt2 _)))))))))), gs1, cap1, rest1, tok, (g1, g2) :: (gf, gv) :: G, A, ?_, hA, hl1, hm1, ?_⟩
  . simp [enterF, hGl]
  rw [htk, hpe]; rfl
 rw [if_neg h92] at hr
 refine Zb<|Zd<|Zc<|Zj1 rfl rfl rfl<|Zc<|Zk rfl<|Za<|Zi<|Zl1 rfl (λ h101 => ?_)<|λ h101 => ?_
 .
  rw [if_pos h101] at hr
  have hap := hio.app h101
  have hcv := (okV_iff.1 (argAt_ok hao 0)).2.1
  refine Zb<|Zd<|Zc<|Zl rfl<|Zc<|Zz (el := valX (rho A) (argAt (takeF f.vals i.args) 0)) VT.sl152 rfl rfl (by omega) (get_arg (l := (takeF f.vals i.args)) (k := 0) (by omega))<|λ a104 => (Zc<|Za2 VT.ty159 rfl rfl<|Zc<|Zb2 VT.zr159 _ rfl rfl<|λ g6 => (Zc<|Zx 0 VT.ty159 rfl rfl rfl rfl rfl<|Za<|Zi<|Zb ?_))
  rcases Bool.eq_false_or_eq_true (((argAt (takeF f.vals i.args) 0).kind == (2 : Int))) with hq108 | hq108
  .
   have hx108 := beqT hq108
   obtain ⟨hc0, hc1⟩ := hcv hx108
   obtain ⟨F2, hF2⟩ := get_of_lt u.fns (argAt (takeF f.vals i.args) 0).n.toNat (by omega)
   obtain ⟨b2, tl2, hb2⟩ := List.exists_cons_of_ne_nil (hU.ne F2 (Yc hF2))
   have hen : entryOf u (argAt (takeF f.vals i.args) 0).n = b2.params := by rw [entryOf, hF2]; simp [paramsOf, hb2]
   rw [hen] at hr
   refine VW_drawR (G := Unit) [([], [6], []), ([0], [106], []), ([1, 0], [107], []), ([2, 1, 0], [108], []), (dn 4, [0, 109], []), (dn 5, [110, 109], []), (dn 6, [111, 109], []), (dn 7, [112, 109], []), (dn 8, [113, 109], []), (dn 4, [6, 109], []), ([9, 3, 2, 1, 0], [115, 109], []), (dn 11, [114, 116, 109], []), (dn 12, [117, 109], []), (dn 13, [118, 109], []), (dn 14, [119, 109], []), (dn 15, [120, 109], []), (dn 16, [121, 109], []), (dn 17, [122, 109], []), (dn 4, [5, 109], []), ([18, 3, 2, 1, 0], [124, 109], []), (dn 20, [123, 125, 109], []), (dn 21, [109, 126], [])] [] (constSt _) [127] [106, 107, 108, 109, 110, 111, 112, 113, 114, 115, 116, 117, 118, 119, 120, 121, 122, 123, 124, 125, 126, 127] rfl VT.mix<|ZA (λ γ => Zf<|λ _ h6 => Ze<|Zn rfl<|Zj VT.fa159_0 h6 z0)<|ZA (λ γ => Zw 0 0 rfl<|λ _ h106 => Ze<|Zn rfl<|Zu 0 VT.ty3 h106 rfl rfl z0)<|ZA (λ γ => Zw 1 0 rfl<|λ _ h107 => Ze<|Zn rfl<|Zj1 h107 rfl rfl z0)<|ZA (λ γ => Zw 2 0 rfl<|λ _ h108 => Ze<|Zn rfl<|Zl h108 z0)<|ZA (λ γ => Zf<|λ _ h0 => Zw 3 0 rfl<|λ _ h109 => Ze<|Zn (Zg rfl rfl h109 hq108)<|Zl h0 z0)<|ZA (λ γ => Zw 4 0 rfl<|λ _ h110 => Zw 3 1 rfl<|λ _ h109 => Ze<|Zn (Zg rfl rfl h109 hq108)<|Zv1 h110 z0)<|ZA (λ γ => Zw 5 0 rfl<|λ _ h111 => Zw 3 2 rfl<|λ _ h109 => Ze<|Zn (Zg rfl rfl h109 hq108)<|Zj VT.fa121_0 h111 z0)<|ZA (λ γ => Zw 6 0 rfl<|λ _ h112 => Zw 3 3 rfl<|λ _ h109 => Ze<|Zn (Zg rfl rfl h109 hq108)<|Zj VT.fa50_0 h112 z0)<|ZA (λ γ => Zw 7 0 rfl<|λ _ h113 => Zw 3 4 rfl<|λ _ h109 => Ze<|Zn (Zg rfl rfl h109 hq108)<|Zu 3 VT.ty48 h113 rfl rfl z0)<|ZA (λ γ => Zf<|λ _ h6 => Zw 3 5 rfl<|λ _ h109 => Ze<|Zn (Zg rfl rfl h109 hq108)<|Zj VT.fa159_1 h6 z0)<|ZA (λ γ => Zw 9 0 rfl<|λ _ h115 => Zw 3 6 rfl<|λ _ h109 => Ze<|Zn (Zg rfl rfl h109 hq108)<|Zu 0 VT.ty3 h115 rfl rfl z0)<|Zp (Zb3 _) (Zq<|λ γ => Zw 8 2 rfl<|λ _ h114 => Zw 10 0 rfl<|λ _ h116 => Zw 3 7 rfl<|λ _ h109 => Ze<|Zn (Zg rfl rfl h109 hq108)<|Zz (el := funcV F2) VT.sl48 h114 h116 (by omega) (get_mapS _ hF2)<|λ a117 => ⟨⟨_, rfl⟩, rfl⟩)<|Zp (Zb3 _) (Zq<|λ γ => Zw 11 0 rfl<|λ _ h117 => Zw 3 8 rfl<|λ _ h109 => Ze<|Zc3 h117<|λ a_117 e117 => Zn (Zg rfl rfl h109 hq108)<|Zw1 VT.fa47_1 e117 rfl ⟨⟨_, rfl⟩, rfl⟩)<|ZA (λ γ => Zw 12 0 rfl<|λ _ h118 => Zw 3 9 rfl<|λ _ h109 => Ze<|Zc3 h118<|λ a_118 e118 => Zn (Zg rfl rfl h109 hq108)<|Zz1 VT.ty45 e118 rfl z0)<|Zp (Zb3 _) (Zq<|λ γ => Zw 13 0 rfl<|λ _ h119 => Zw 3 10 rfl<|λ _ h109 => Ze<|Zn (Zg rfl rfl h109 hq108)<|Zz (el := blockV b2) VT.sl45 h119 rfl (by omega) (by rw [hb2]; rfl)<|λ a120 => ⟨⟨_, rfl⟩, rfl⟩)<|Zp (Zb3 _) (Zq<|λ γ => Zw 14 0 rfl<|λ _ h120 => Zw 3 11 rfl<|λ _ h109 => Ze<|Zc3 h120<|λ a_120 e120 => Zn (Zg rfl rfl h109 hq108)<|Zw1 VT.fa44_0 e120 rfl ⟨⟨_, rfl⟩, rfl⟩)<|ZA (λ γ => Zw 15 0 rfl<|λ _ h121 => Zw 3 12 rfl<|λ _ h109 => Ze<|Zc3 h121<|λ a_121 e121 => Zn (Zg rfl rfl h109 hq108)<|Zz1 VT.ty36 e121 rfl z0)<|ZA (λ γ => Zw 16 0 rfl<|λ _ h122 => Zw 3 13 rfl<|λ _ h109 => Ze<|Zn (Zg rfl rfl h109 hq108)<|Zd2 (n := b2.params.length) Tryz.underlying36 h122 (by simp)<|λ hl123 => z0)<|ZA (λ γ => Zf<|λ _ h5 => Zw 3 14 rfl<|λ _ h109 => Ze<|Zn (Zg rfl rfl h109 hq108)<|Zl h5 z0)<|ZA (λ γ => Zw 18 0 rfl<|λ _ h124 => Zw 3 15 rfl<|λ _ h109 => Ze<|Zn (Zg rfl rfl h109 hq108)<|Zd2 (n := (takeF f.vals i.args).length) Tryz.underlying152 h124 (by simp)<|λ hl125 => z0)<|ZA (λ γ => Zw 17 2 rfl<|λ _ h123 => Zw 19 0 rfl<|λ _ h125 => Zw 3 16 rfl<|λ _ h109 => Ze<|Zn (Zg rfl rfl h109 hq108)<|Zj1 h123 h125 rfl z0)<|ZA (λ γ => Zw 3 17 rfl<|λ _ h109 => Zw 20 0 rfl<|λ _ h126 => Ze<|Zn rfl<|Zs1 h109 hq108 h126 z0)<|DrawP_nil<|λ γ => Zw 21 0 rfl<|λ r127 h127 => Ze ?_
   have e127 : r127 = some _ := h127
   subst e127
   clear h127
   refine Zi<|Zl1 rfl (λ h127 => ?_)<|λ h127 => ?_
   .
    rw [if_pos ⟨hx108, by omega⟩] at hr
    refine Zd<|Zc<|Zl rfl<|Zc<|Zj VT.fa159_1 rfl<|Zc<|Zu 0 VT.ty3 rfl rfl rfl<|Zc<|Zl rfl<|Zc<|Zj VT.fa38_0 rfl<|Zc<|Zu 1 VT.ty3 rfl rfl rfl<|Zc<|Zm3 [.tmp 128, .tmp 130, .tmp 131, .tmp 133] _ _ rfl rfl VT.en52 ((Zv2 (i := 3) rfl).trans<|.cons _<|(Zv2 (i := 4) rfl).trans<|.cons _<|.refl _) (enter_c gm u (outV tok M.out) M (rho A) (argAt (takeF f.vals i.args) 0).n i.to (takeF f.vals i.args) gs (fs.length + 1) cap (ptrsV ((gf, gv) :: G) ++ rest) hcap hnc hcm hn1 hc0 hF2 (hU.ne F2<|Yc hF2) (by rw [hen]; omega)) ?_
    rintro r Sa ⟨g1, g2, gs1, cap1, rest1, hc1, hm1, hl1, rfl⟩
    refine Za<|Zb1<|Zn3 rfl ?_
    rw [hr]
    have htk : (ptrsV ((gf, gv) :: G) ++ rest).take (fs.length + 1) = ptrsV ((gf, gv) :: G) := by rw [Yk (by rw [ptrsV_len]; simp; omega), List.take_of_length_le (by rw [ptrsV_len]; simp; omega)]
    have hpe : ptrsV ((gf, gv) :: G) ++ ([V.ptr g1 0] ++ rest1) = ptrsV ((g1, g2) :: (gf, gv) :: G) ++ rest1 := by rw [ptrsV_cons (g1, g2), Yd]
    rw [htk, hpe] at hl1
    refine ⟨_, (Drops.pick 0 rfl rfl (Drops.pick 6 rfl rfl (Drops.pick 0 rfl rfl (Drops.pick 0 rfl rfl (Drops.pick 0 rfl rfl (Drops.pick 3 rfl rfl (Drops.pick 3 rfl rfl (Dd (Dd (Dd (Zt2 _))))))))))), gs1, cap1, rest1, tok, (g1, g2) :: (gf, gv) :: G, A, ?_, hA, hl1, hm1, ?_⟩
    . simp [enterF, hGl]
    rw [htk, hpe]; rfl
   rw [if_neg (λ h => h127 (by have := h.2; omega))] at hr
   refine Zd<|Zc<|Zl rfl<|Zc<|Zm3 [.tmp 135, .const (.int .i64 (5)), .const (.int .i64 (0))] [_] _ rfl rfl VT.en87 (Zv2 (i := 3) rfl) (stop_c gm u (stkV gs (fs.length + 1) cap) (outV tok M.out) M 5 0) ?_
   rintro r Sa rfl
   refine Za<|Zb1<|Zn3 rfl ?_
   rw [hr]
   exact ⟨_, (Dk (Dd (Dd (Dd (Dk (Dk (Dk (Dk (Zt2 _))))))))), gs, cap, rest, tok, (gf, gv) :: G, A, by simp [stopF, hGl], hA, hcap, hcm, rfl⟩
  have hx108 := beqF hq108
  refine VW_drawR (G := Unit) [([], [6], []), ([0], [106], []), ([1, 0], [107], []), ([2, 1, 0], [108], []), (dn 4, [0, 109], []), (dn 5, [110, 109], []), (dn 6, [111, 109], []), (dn 7, [112, 109], []), (dn 8, [113, 109], []), (dn 4, [6, 109], []), ([9, 3, 2, 1, 0], [115, 109], []), (dn 11, [114, 116, 109], []), (dn 12, [117, 109], []), (dn 13, [118, 109], []), (dn 14, [119, 109], []), (dn 15, [120, 109], []), (dn 16, [121, 109], []), (dn 17, [122, 109], []), (dn 4, [5, 109], []), ([18, 3, 2, 1, 0], [124, 109], []), (dn 20, [123, 125, 109], []), (dn 21, [109, 126], [])] [] (constSt _) [127] [106, 107, 108, 109, 110, 111, 112, 113, 114, 115, 116, 117, 118, 119, 120, 121, 122, 123, 124, 125, 126, 127] rfl VT.mix<|ZA (λ γ => Zf<|λ _ h6 => Ze<|Zn rfl<|Zj VT.fa159_0 h6 z0)<|ZA (λ γ => Zw 0 0 rfl<|λ _ h106 => Ze<|Zn rfl<|Zu 0 VT.ty3 h106 rfl rfl z0)<|ZA (λ γ => Zw 1 0 rfl<|λ _ h107 => Ze<|Zn rfl<|Zj1 h107 rfl rfl z0)<|ZA (λ γ => Zw 2 0 rfl<|λ _ h108 => Ze<|Zn rfl<|Zl h108 z0)<|ZA (λ γ => Zf<|λ _ h0 => Zw 3 0 rfl<|λ _ h109 => Ze<|Zy2 (Zr rfl rfl h109 hq108) z0)<|ZA (λ γ => Zw 4 0 rfl<|λ _ h110 => Zw 3 1 rfl<|λ _ h109 => Ze<|Zy2 (Zr rfl rfl h109 hq108) z0)<|ZA (λ γ => Zw 5 0 rfl<|λ _ h111 => Zw 3 2 rfl<|λ _ h109 => Ze<|Zy2 (Zr rfl rfl h109 hq108) z0)<|ZA (λ γ => Zw 6 0 rfl<|λ _ h112 => Zw 3 3 rfl<|λ _ h109 => Ze<|Zy2 (Zr rfl rfl h109 hq108) z0)<|ZA (λ γ => Zw 7 0 rfl<|λ _ h113 => Zw 3 4 rfl<|λ _ h109 => Ze<|Zy2 (Zr rfl rfl h109 hq108) z0)<|ZA (λ γ => Zf<|λ _ h6 => Zw 3 5 rfl<|λ _ h109 => Ze<|Zy2 (Zr rfl rfl h109 hq108) z0)<|ZA (λ γ => Zw 9 0 rfl<|λ _ h115 => Zw 3 6 rfl<|λ _ h109 => Ze<|Zy2 (Zr rfl rfl h109 hq108) z0)<|ZA (λ γ => Zw 8 2 rfl<|λ _ h114 => Zw 10 0 rfl<|λ _ h116 => Zw 3 7 rfl<|λ _ h109 => Ze<|Zy2 (Zr rfl rfl h109 hq108) z0)<|ZA (λ γ => Zw 11 0 rfl<|λ _ h117 => Zw 3 8 rfl<|λ _ h109 => Ze<|Zy2 (Zr rfl rfl h109 hq108) z0)<|ZA (λ γ => Zw 12 0 rfl<|λ _ h118 => Zw 3 9 rfl<|λ _ h109 => Ze<|Zy2 (Zr rfl rfl h109 hq108) z0)<|ZA (λ γ => Zw 13 0 rfl<|λ _ h119 => Zw 3 10 rfl<|λ _ h109 => Ze<|Zy2 (Zr rfl rfl h109 hq108) z0)<|ZA (λ γ => Zw 14 0 rfl<|λ _ h120 => Zw 3 11 rfl<|λ _ h109 => Ze<|Zy2 (Zr rfl rfl h109 hq108) z0)<|ZA (λ γ => Zw 15 0 rfl<|λ _ h121 => Zw 3 12 rfl<|λ _ h109 => Ze<|Zy2 (Zr rfl rfl h109 hq108) z0)<|ZA (λ γ => Zw 16 0 rfl<|λ _ h122 => Zw 3 13 rfl<|λ _ h109 => Ze<|Zy2 (Zr rfl rfl h109 hq108) z0)<|ZA (λ γ => Zf<|λ _ h5 => Zw 3 14 rfl<|λ _ h109 => Ze<|Zy2 (Zr rfl rfl h109 hq108) z0)<|ZA (λ γ => Zw 18 0 rfl<|λ _ h124 => Zw 3 15 rfl<|λ _ h109 => Ze<|Zy2 (Zr rfl rfl h109 hq108) z0)<|ZA (λ γ => Zw 17 2 rfl<|λ _ h123 => Zw 19 0 rfl<|λ _ h125 => Zw 3 16 rfl<|λ _ h109 => Ze<|Zy2 (Zr rfl rfl h109 hq108) z0)<|ZA (λ γ => Zw 3 17 rfl<|λ _ h109 => Zw 20 0 rfl<|λ _ h126 => Ze<|Zn rfl<|Zt1 h109 hq108 rfl z0)<|DrawP_nil<|λ γ => Zw 21 0 rfl<|λ r127 h127 => Ze ?_
  have e127 : r127 = some _ := h127
  subst e127
  clear h127
  refine Zi<|Zq1 rfl rfl ?_
  rw [if_neg (λ h => hx108 h.1)] at hr
  refine Zd<|Zc<|Zl rfl<|Zc<|Zm3 [.tmp 135, .const (.int .i64 (5)), .const (.int .i64 (0))] [_] _ rfl rfl VT.en87 (Zv2 (i := 3) rfl) (stop_c gm u (stkV gs (fs.length + 1) cap) (outV tok M.out) M 5 0) ?_
  rintro r Sa rfl
  refine Za<|Zb1<|Zn3 rfl ?_
  rw [hr]
  exact ⟨_, (Dk (Dd (Dd (Dd (Dk (Dk (Dk (Dk (Zt2 _))))))))), gs, cap, rest, tok, (gf, gv) :: G, A, by simp [stopF, hGl], hA, hcap, hcm, rfl⟩
 rw [if_neg h101] at hr
 refine Zb<|Zd<|Zc<|Zl rfl<|Zc<|Zv 0 VT.ty38 rfl rfl rfl<|Zc<|Zl rfl<|Zc<|V_callG [.tmp 74, .tmp 75, .tmp 76] (mcells gm u (stkV gs (fs.length + 1) cap) (outV tok M.out) { M with stack := { f with at_ := f.at_ + 1 } :: fs } :: obuf tok M.out :: arrsS (rho A) A M.heap) (_ :: _ :: srow gs (ptrsV ((gf, gv) :: G) ++ rest) :: fcell gf gv { f with at_ := f.at_ + 1 } :: fmap (rho A) gv f.vals :: framesS (rho A) G fs) rfl rfl VT.en88 perm_exec (exec_c gm u (stkV gs (fs.length + 1) cap) tok { M with stack := { f with at_ := f.at_ + 1 } :: fs } A u.fns.length i (takeF f.vals i.args) hA hao hM.heap hleft (by show M.left <= _; omega) hM.out (by rw [hal]; exact hio.ops h92 h101)) ?_
 rintro r Sa ⟨A1, tok1, ⟨B1, rfl⟩, hA1, rfl, rfl⟩
 refine ⟨_, drop_exec, ?_⟩
 rw [fmap, hve B1, hfe B1]
 refine Zc<|Zl rfl<|Zc<|Zg2 rfl rfl<|Zc<|Zg2 rfl rfl<|Zc<|Zb2 VT.zr159 _ rfl rfl<|λ g7 => (Zc<|Zx 0 VT.ty159 rfl rfl rfl rfl rfl<|Zc<|Zk rfl<|Za<|Zi<|Zb<|Zb<|Zd<|Zc<|Zl rfl<|Zc<|Zj1 rfl rfl rfl<|Za<|Zi<|Zm1 rfl (λ h81 => ?_)<|λ h81 => ?_)
 .
  rw [if_pos h81] at hr
  refine Zd<|Zc<|Zl rfl<|Zc<|Zl rfl<|Zc<|Zm3 [.tmp 82, .tmp 83, .const (.int .i64 (0))] [_] _ rfl rfl VT.en87 (Zv2 (i := 1) rfl) (stop_c gm u (stkV gs (fs.length + 1) cap) (outV tok1 (execF i (takeF f.vals i.args) { M with stack := { f with at_ := f.at_ + 1 } :: fs }).1.out) (execF i (takeF f.vals i.args) { M with stack := { f with at_ := f.at_ + 1 } :: fs }).1 (execF i (takeF f.vals i.args) { M with stack := { f with at_ := f.at_ + 1 } :: fs }).2.2 0) ?_
  rintro r Sa rfl
  refine Za<|Zi<|VW_drawR (G := Unit) [([], [2], []), ([0], [85], []), ([1, 0], [86], []), ([2, 1, 0], [87], []), ([], [4], []), ([4], [89], []), ([], [7], []), (dn 7, [88, 90, 91], [])] [7] (setSt _ 7<|λ _ => .map gv<|kmap kint<|kput (encV (rho (A ++ B1)) f.vals) i.to<|valX (rho (A ++ B1)) (execF i (takeF f.vals i.args) { M with stack := { f with at_ := f.at_ + 1 } :: fs }).2.1) [] [85, 86, 87, 88, 89, 90, 91] rfl VT.mix<|Zp (Zm _) (Zo rfl rfl ⟨(λ γ => Zf (λ _ h2 => Ze (Zn rfl (Zl h2 z0)))), trivial⟩)<|Zp (Zm _) (Zo rfl rfl ⟨(λ γ => Zw 0 0 rfl (λ _ h85 => Ze (Zn rfl (Zv1 h85 z0)))), trivial⟩)<|Zp (Zm _) (Zo rfl rfl ⟨(λ γ => Zw 1 0 rfl (λ _ h86 => Ze (Zn rfl (Zj VT.fa156_4 h86 z0)))), trivial⟩)<|Zp (Zm _) (Zo rfl rfl ⟨(λ γ => Zw 2 0 rfl (λ _ h87 => Ze (Zn rfl (Zu 6 VT.ty154 h87 rfl rfl z0)))), trivial⟩)<|Zp (Zm _) (Zo rfl rfl ⟨(λ γ => Zf (λ _ h4 => Ze (Zn rfl (Zj VT.fa38_0 h4 z0)))), trivial⟩)<|Zp (Zm _) (Zo rfl rfl ⟨(λ γ => Zw 4 0 rfl (λ _ h89 => Ze (Zn rfl (Zu 3 VT.ty3 h89 rfl rfl z0)))), trivial⟩)<|Zp (Zm _) (Zo rfl rfl ⟨(λ γ => Zf (λ _ h7 => Ze (Zn rfl (Zv 1 VT.ty159 h7 rfl rfl z0)))), trivial⟩)<|Zp Za3 (Zn2 rfl<|λ γ => Zw 3 3 rfl<|λ _ h88 => Zw 5 1 rfl<|λ _ h90 => Zw 6 0 rfl<|λ _ h91 => Ze<|Zn rfl<|V_mapUpdate 7 Tryz.underlying154 (key_int Tryz.underlying3) h88 h90 h91 rfl ⟨default, trivial, rfl⟩)<|DrawP_nil<|λ γ => Ze<|Zb1<|Zn3 rfl ?_
  rw [hr]
  refine ⟨_, (Dk (Dd (Dk (Dd (Dd (Dk (Dk (Dk (Zt2 _))))))))), gs, cap, rest, tok1, (gf, gv) :: G, A ++ B1, by simp [stopF, hGl], hA1, hcap, hcm, ?_⟩
  have hke := kput_encV (rho (A ++ B1)) i.to (execF i (takeF f.vals i.args) { M with stack := { f with at_ := f.at_ + 1 } :: fs }).2.1 f.vals
  simp only [hke]
  rfl
 rw [if_neg (by omega)] at hr
 refine Zi1<|Zi<|VW_drawR (G := Unit) [([], [2], []), ([0], [85], []), ([1, 0], [86], []), ([2, 1, 0], [87], []), ([], [4], []), ([4], [89], []), ([], [7], []), (dn 7, [88, 90, 91], [])] [7] (setSt _ 7<|λ _ => .map gv<|kmap kint<|kput (encV (rho (A ++ B1)) f.vals) i.to<|valX (rho (A ++ B1)) (execF i (takeF f.vals i.args) { M with stack := { f with at_ := f.at_ + 1 } :: fs }).2.1) [] [85, 86, 87, 88, 89, 90, 91] rfl VT.mix<|Zp (Zm _) (Zo rfl rfl ⟨(λ γ => Zf (λ _ h2 => Ze (Zn rfl (Zl h2 z0)))), trivial⟩)<|Zp (Zm _) (Zo rfl rfl ⟨(λ γ => Zw 0 0 rfl (λ _ h85 => Ze (Zn rfl (Zv1 h85 z0)))), trivial⟩)<|Zp (Zm _) (Zo rfl rfl ⟨(λ γ => Zw 1 0 rfl (λ _ h86 => Ze (Zn rfl (Zj VT.fa156_4 h86 z0)))), trivial⟩)<|Zp (Zm _) (Zo rfl rfl ⟨(λ γ => Zw 2 0 rfl (λ _ h87 => Ze (Zn rfl (Zu 6 VT.ty154 h87 rfl rfl z0)))), trivial⟩)<|Zp (Zm _) (Zo rfl rfl ⟨(λ γ => Zf (λ _ h4 => Ze (Zn rfl (Zj VT.fa38_0 h4 z0)))), trivial⟩)<|Zp (Zm _) (Zo rfl rfl ⟨(λ γ => Zw 4 0 rfl (λ _ h89 => Ze (Zn rfl (Zu 3 VT.ty3 h89 rfl rfl z0)))), trivial⟩)<|Zp (Zm _) (Zo rfl rfl ⟨(λ γ => Zf (λ _ h7 => Ze (Zn rfl (Zv 0 VT.ty159 h7 rfl rfl z0)))), trivial⟩)<|Zp Za3 (Zn2 rfl<|λ γ => Zw 3 3 rfl<|λ _ h88 => Zw 5 1 rfl<|λ _ h90 => Zw 6 0 rfl<|λ _ h91 => Ze<|Zn rfl<|V_mapUpdate 7 Tryz.underlying154 (key_int Tryz.underlying3) h88 h90 h91 rfl ⟨default, trivial, rfl⟩)<|DrawP_nil<|λ γ => Ze<|Zb1<|Zn3 rfl ?_
 rw [hr]
 refine ⟨_, (Dd (Dk (Dk (Dd (Dd (Dk (Dk (Dk (Zt2 _))))))))), gs, cap, rest, tok1, (gf, gv) :: G, A ++ B1, by simp [stopF, hGl], hA1, hcap, hcm, ?_⟩
 have hke := kput_encV (rho (A ++ B1)) i.to (execF i (takeF f.vals i.args) { M with stack := { f with at_ := f.at_ + 1 } :: fs }).2.1 f.vals
 simp only [hke]
 rfl
end Go.Proofs.YtpkbgamoboojaaaGreat.X8
end
