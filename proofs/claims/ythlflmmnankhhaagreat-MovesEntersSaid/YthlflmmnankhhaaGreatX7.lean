import Derived.Test.YthlflmmnankhhaaGreatX6
set_option maxRecDepth 100000
set_option maxHeartbeats 16000000
open Go.VL.Drops renaming keep → Dk, drop → Dd
set_option linter.all false
open List renaming append_nil → Ya, replicate → Yb, getElem?_eq_getElem → Yc
namespace Go.Proofs.YthlflmmnankhhaaGreat.X7
open Go.VL Go.SM Go.Proofs.YthlflmmnankhhaaGreat X1 X2 X3 X4 X5 X6
def allocNew (size : Val) (M : Mach) : Bool := decide (size.kind = 0) && decide (0 <= size.n) && decide (size.n <= 1024) && !(payF size.n M).short
theorem payF_heap (n : Int) (M : Mach) : (payF n M).heap = M.heap /\ (payF n M).out = M.out /\ (payF n M).stack = M.stack := by unfold payF; split <;> exact ⟨rfl, rfl, rfl⟩
theorem allocF_old {size fill : Val} {M : Mach} (h : allocNew size M = false) : (allocF size fill M).1.heap = M.heap := by
  unfold allocF
  split
  . rfl
  . rename_i h1
    split
    . rfl
    . rename_i h2
      split
      . exact (payF_heap _ _).1
      . rename_i h3
        have h1 := Classical.not_not.1 h1
        have : allocNew size M = true := by
          have h3 : (payF size.n M).short = false := by simpa using h3
          simp [allocNew, h1, h3]
          omega
        rw [h] at this
        cases this
theorem allocF_new {size fill : Val} {M : Mach} (h : allocNew size M = true) : allocF size fill M = ({ payF size.n M with heap := M.heap ++ [Yb size.n.toNat fill] }, .mk 3 0 [] (some M.heap.length), 0) := by
  simp only [allocNew, Bool.and_eq_true, decide_eq_true_eq, Bool.not_eq_true'] at h
  unfold allocF
  rw [if_neg (by simpa using h.1.1.1), if_neg (by omega), if_neg (by rw [h.2]; decide)]
theorem allocF_out (size fill : Val) (M : Mach) : (allocF size fill M).1.out = M.out := by
  unfold allocF
  split
  . rfl
  . split
    . rfl
    . split <;> exact (payF_heap _ _).2.1
theorem alloc0_c (gm : Nat) (u : SUnit) (stk ov : V) (M : Mach) (ρ : Nat -> Nat) (size fill : Val) (h2 : 0 <= M.left) (h3 : M.left <= 1000000) (h : allocNew size M = false) : VCalls Tryz.prog 127 [.ptr gm 0, valX ρ size, valX ρ fill] [mcells gm u stk ov M] λ r S' => r = .tup [valX ρ (allocF size fill M).2.1, .int (allocF size fill M).2.2] /\ S' = [mcells gm u stk ov (allocF size fill M).1] :=
  (allocate_c gm u stk ov M ρ size fill h2 h3).mono λ r S' hr => by
    rcases hr with ⟨h1, h4, _⟩ | ⟨ga, gr, _, _, h5, _⟩
    . exact ⟨h1, h4⟩
    . rw [allocF_old h] at h5
      have := congrArg List.length h5
      simp at this
theorem alloc1_c (gm : Nat) (u : SUnit) (stk ov : V) (M : Mach) (ρ : Nat -> Nat) (size fill : Val) (h2 : 0 <= M.left) (h3 : M.left <= 1000000) (h : allocNew size M = true) : VCalls Tryz.prog 127 [.ptr gm 0, valX ρ size, valX ρ fill] [mcells gm u stk ov M] λ r S' => ∃ ga gr, r = .tup [.agg [.int 3, .int 0, .sl 4 none [], .ptr ga 0], .int 0] /\ S' = [mcells gm u stk ov (allocF size fill M).1, acell ga gr size.n.toNat, arow ρ gr (Yb size.n.toNat fill)] :=
  (allocate_c gm u stk ov M ρ size fill h2 h3).mono λ r S' hr => by
    rcases hr with ⟨_, _, h5⟩ | ⟨ga, gr, h4, _, _, h6⟩
    . rw [allocF_new h] at h5
      have := congrArg List.length h5
      simp at this
    . exact ⟨ga, gr, h4, h6⟩
theorem arr_of {nf nh : Nat} {v : Val} (h : okV nf nh v = true) (hk : v.kind = 3) : ∃ k, v.arr = some k /\ k < nh := by
  have h := (okV_iff.1 h).1
  cases ha : v.arr with
  | none => rw [ha] at h; simp [okArr] at h; exact absurd hk h
  | some k => rw [ha] at h; simp [okArr] at h; exact ⟨k, rfl, h⟩
theorem get_argX {ρ : Nat -> Nat} {l : List Val} {k : Nat} (h : k < l.length) : (l.map (valX ρ))[k]? = some (valX ρ (argAt l k)) := by
  rw [List.getElem?_map, Yc h, argAt, Yc h]
  rfl
theorem list_len {l : List Val} (h : l.length <= 1024) : (l.length : Int) <= 1024 := by omega
theorem effect1_c (gm : Nat) (u : SUnit) (stk : V) (tok : Tok) (M : Mach) (A : List (Nat × Nat)) (nf : Nat) (i : SIns) (args : List Val) (hA : A.length = M.heap.length) (hok : ∀ a ∈ args, okV nf M.heap.length a = true) (hH : ∀ l ∈ M.heap, l.length <= 1024 /\ ∀ v ∈ l, okV nf M.heap.length v = true) (h2 : 0 <= M.left) (h3 : M.left <= 1000000) (ho : M.out.length <= 1000) (hl1 : 1 <= args.length) (hl2 : i.op ≠ 15 /\ i.op ≠ 17 -> 2 <= args.length) (hl3 : i.op = 20 -> 3 <= args.length) (hop : elemJ i.op [15, 16, 17, 18, 19, 20] = true) (hnew : i.op = 16 /\ allocNew (argAt args 0) M = true) : VCalls Tryz.prog 110 [.ptr gm 0, insV i, valsX (rho A) args] (mcells gm u stk (outV tok M.out) M :: obuf tok M.out :: arrsS (rho A) A M.heap) λ r S' => ∃ A' tok', (∃ B, A' = A ++ B) /\ A'.length = (effectF i args M).1.heap.length /\ r = .tup [valX (rho A') (effectF i args M).2.1, .int (effectF i args M).2.2] /\ S' = mcells gm u stk (outV tok' (effectF i args M).1.out) (effectF i args M).1 :: obuf tok' (effectF i args M).1.out :: arrsS (rho A') A' (effectF i args M).1.heap := by
 refine VCalls_drops ?_
 have hr := effectF.eq_def i args M
 have hop2 : i.op = 15 \/ i.op = 16 \/ i.op = 17 \/ i.op = 18 \/ i.op = 19 \/ i.op = 20 := by simpa [elemJ] using hop
 refine V_start (nt := 137) Tryz.func110 rfl rfl rfl ?_
 refine Zb<|Zd<|Zc<|Zc2 rfl rfl<|λ g4 => (Zc<|Zb2 VT.zr146 _ rfl rfl<|λ g6 => (Zc<|Zk rfl<|Za<|Zi<|Zb<|Zb<|Zd<|Zc<|Zj VT.fa42_1 rfl<|Zc<|Zu 1 VT.ty3 rfl rfl rfl<|Za<|Zi<|Zs<|Zb<|Zd<|Zc<|Zj1 rfl rfl rfl<|Zc<|Zk rfl<|Za<|Zi<|Zl1 rfl (λ h12 => ?_)<|λ h12 => ?_))
 . exact absurd h12 (by omega)
 rw [if_neg h12] at hr
 refine Zb<|Zd<|Zc<|Zj1 rfl rfl rfl<|Zc<|Zk rfl<|Za<|Zi<|Zl1 rfl (λ h44 => ?_)<|λ h44 => ?_
 .
  rw [if_pos h44] at hr
  have hl4 := hl2 (by omega)
  refine Zb<|VW_drawR (G := (Nat × Nat)) [([], [0], []), ([], [2], []), ([1], [47], []), ([2, 1], [48], []), ([], [2], []), ([4], [50], []), ([5, 4], [51], []), (dn 7, [46, 49, 52], [0]), (dn 8, [53], [0]), (dn 8, [53], []), (dn 10, [6, 54], []), (dn 11, [55], [])] [7, 10] (twoSt _ (λ x => mcells gm u stk (outV tok M.out) (allocF (argAt args 0) (argAt args 1) M).1 :: acell x.1 x.2 (argAt args 0).n.toNat :: arow (rho A) x.2 (Yb (argAt args 0).n.toNat<|argAt args 1) :: .cells g6 146 VT.zs146 :: .cells g4 42 (insV i).leaves :: obuf tok M.out :: arrsS (rho A) A M.heap) (λ x _ => mcells gm u stk (outV tok M.out) (allocF (argAt args 0) (argAt args 1) M).1 :: acell x.1 x.2 (argAt args 0).n.toNat :: arow (rho A) x.2 (Yb (argAt args 0).n.toNat<|argAt args 1) :: .cells g6 146 [.int 3, .int 0, .sl 4 none [], .ptr x.1 0] :: .cells g4 42 (insV i).leaves :: obuf tok M.out :: arrsS (rho A) A M.heap)) [7] [7, 46, 47, 48, 49, 50, 51, 52, 53, 54, 55] rfl VT.mix<|Zp (Zm _) (Zo rfl rfl ⟨(λ γ => Zf (λ _ h0 => Ze (Zn rfl (Zl h0 z0)))), trivial⟩)<|Zp (Zm _) (Zo rfl rfl ⟨(λ γ => Zf (λ _ h2 => Ze (Zn rfl (Zl h2 z0)))), trivial⟩)<|Zp (Zb3 _) (Zo rfl rfl ⟨(λ γ => Zw 1 0 rfl (λ _ h47 => Ze (Zn rfl (Zz (el := valX (rho A) (argAt args 0)) VT.sl139 h47 rfl (by omega) (get_arg (by omega)) (λ a48 => ⟨⟨_, rfl⟩, rfl⟩))))), trivial⟩)<|Zp (Zm _) (Zo rfl rfl ⟨(λ γ => Zw 2 0 rfl (λ _ h48 => Ze (Zc3 h48 (λ a_48 e48 => Zn rfl (Za2 VT.ty146 e48 rfl z0))))), trivial⟩)<|Zp (Zm _) (Zo rfl rfl ⟨(λ γ => Zf (λ _ h2 => Ze (Zn rfl (Zl h2 z0)))), trivial⟩)<|Zp (Zb3 _) (Zo rfl rfl ⟨(λ γ => Zw 4 0 rfl (λ _ h50 => Ze (Zn rfl (Zz (el := valX (rho A) (argAt args 1)) VT.sl139 h50 rfl (by omega) (get_arg (by omega)) (λ a51 => ⟨⟨_, rfl⟩, rfl⟩))))), trivial⟩)<|Zp (Zm _) (Zo rfl rfl ⟨(λ γ => Zw 5 0 rfl (λ _ h51 => Ze (Zc3 h51 (λ a_51 e51 => Zn rfl (Za2 VT.ty146 e51 rfl z0))))), trivial⟩)<|Zp (Zw2<|λ x => .tup [.agg [.int 3, .int 0, .sl 4 none [], .ptr x.1 0], .int 0]) (Zo2 0 rfl<|λ γ => Zw 0 6 rfl<|λ _ h46 => Zw 3 3 rfl<|λ _ h49 => Zw 6 0 rfl<|λ _ h52 => Ze<|Zn rfl<|Zm3 [.tmp 46, .tmp 49, .tmp 52] [_] _ rfl (Zp2 h46<|Zp2 h49<|Zp2 h52 Zq2) VT.en127 (Zv2 (i := 2) rfl) (alloc1_c gm u stk (outV tok M.out) M (rho A) (argAt args 0) (argAt args 1) h2 h3 hnew.2) (λ r Sa h => by obtain ⟨ga, gr, h1, h2⟩ := h; subst h1 h2; exact ⟨(ga, gr), ⟨_, rfl, rfl⟩, rfl⟩))<|Zp (Zw2<|λ x => .agg [.int 3, .int 0, .sl 4 none [], .ptr x.1 0]) (Zo rfl rfl ⟨(λ γ => Zw 7 0 rfl (λ _ h53 => Ze (Zx2 h53 (λ e53 => Zn rfl (Zg2 e53 rfl ⟨⟨_, rfl, rfl⟩, rfl⟩))))), trivial⟩)<|Zp (Zm _) (Zo rfl rfl ⟨(λ γ => Zw 7 1 rfl (λ _ h53 => Ze (Zx2 h53 (λ e53 => Zn rfl (Zg2 e53 rfl z0))))), trivial⟩)<|Zp Za3 (Zo2 1 rfl<|λ γ => Zf<|λ _ h6 => Zw 8 1 rfl<|λ _ h54 => Ze<|Zx2 h54<|λ e54 => Zn rfl<|Zx 3 VT.ty146 h6 e54 rfl rfl rfl ⟨default, trivial, rfl⟩)<|Zp (Zm _) (Zo rfl rfl ⟨(λ γ => Zw 9 1 rfl (λ _ h55 => Ze (Zn rfl (Zk h55 z0)))), trivial⟩)<|DrawP_nil<|λ γ => Zw 11 0 rfl<|λ r7 h7 => Ze ?_
  have e7 : r7 = some _ := h7
  subst e7
  clear h7
  refine Zi<|Zf1<|Za1<|Zd1<|Zh1 rfl rfl (.cons (.agg (i := 3) VT.ty146 rfl rfl rfl)<|.cons (.tmp rfl)<|.nil) ?_
  have hn2 := allocF_new (fill := argAt args 1) hnew.2
  have he : valX (rho (A ++ [γ 0])) (.mk 3 0 [] (some M.heap.length)) = .agg [.int 3, .int 0, .sl 4 none [], .ptr (γ 0).1 0] := by rw [valX, Val.arr, arrV, <- hA, rho_new]; rfl
  have hx : arrsS (rho (A ++ [γ 0])) (A ++ [γ 0]) (M.heap ++ [Yb (argAt args 0).n.toNat (argAt args 1)]) = arrsS (rho A) A M.heap ++ [acell (γ 0).1 (γ 0).2 (argAt args 0).n.toNat, arow (rho A) (γ 0).2 (Yb (argAt args 0).n.toNat (argAt args 1))] := by rw [arrsS_snoc _ _ _ _ _ hA, <- arrsS_ext (rho_ext A [γ 0]) A λ l hl => by rw [hA]; exact (hH l hl).2]; rw [List.length_replicate, arow, arow, <- rowV_ext (rho_ext A [γ 0]) λ v hv => by rw [hA, (List.mem_replicate.1 hv).2]; exact argAt_ok hok 1]
  rw [hr]
  refine ⟨_, Dk ⟨[_, _], List.perm_append_comm (l₁ := [_, _])⟩, A ++ [γ 0], tok, ⟨_, rfl⟩, ?_, ?_, ?_⟩
  . rw [hn2, List.length_append, hA, List.length_append]; rfl
  . rw [hn2]; dsimp only; rw [he]; rfl
  . rw [allocF_out, hn2]; dsimp only; rw [hx]; rfl
 . exact absurd hnew.1 h44
theorem effect0_c (gm : Nat) (u : SUnit) (stk : V) (tok : Tok) (M : Mach) (A : List (Nat × Nat)) (nf : Nat) (i : SIns) (args : List Val) (hA : A.length = M.heap.length) (hok : ∀ a ∈ args, okV nf M.heap.length a = true) (hH : ∀ l ∈ M.heap, l.length <= 1024 /\ ∀ v ∈ l, okV nf M.heap.length v = true) (h2 : 0 <= M.left) (h3 : M.left <= 1000000) (ho : M.out.length <= 1000) (hl1 : 1 <= args.length) (hl2 : i.op ≠ 15 /\ i.op ≠ 17 -> 2 <= args.length) (hl3 : i.op = 20 -> 3 <= args.length) (hop : elemJ i.op [15, 16, 17, 18, 19, 20] = true) (hnew : i.op = 16 -> allocNew (argAt args 0) M = false) : VCalls Tryz.prog 110 [.ptr gm 0, insV i, valsX (rho A) args] (mcells gm u stk (outV tok M.out) M :: obuf tok M.out :: arrsS (rho A) A M.heap) λ r S' => ∃ A' tok', (∃ B, A' = A ++ B) /\ A'.length = (effectF i args M).1.heap.length /\ r = .tup [valX (rho A') (effectF i args M).2.1, .int (effectF i args M).2.2] /\ S' = mcells gm u stk (outV tok' (effectF i args M).1.out) (effectF i args M).1 :: obuf tok' (effectF i args M).1.out :: arrsS (rho A') A' (effectF i args M).1.heap := by
 refine VCalls_drops ?_
 have hr := effectF.eq_def i args M
 have hop2 : i.op = 15 \/ i.op = 16 \/ i.op = 17 \/ i.op = 18 \/ i.op = 19 \/ i.op = 20 := by simpa [elemJ] using hop
 refine V_start (nt := 137) Tryz.func110 rfl rfl rfl ?_
 refine Zb<|Zd<|Zc<|Zc2 rfl rfl<|λ g4 => (Zc<|Zb2 VT.zr146 _ rfl rfl<|λ g6 => (Zc<|Zk rfl<|Za<|Zi<|Zb<|Zb<|Zd<|Zc<|Zj VT.fa42_1 rfl<|Zc<|Zu 1 VT.ty3 rfl rfl rfl<|Za<|Zi<|Zs<|Zb<|Zd<|Zc<|Zj1 rfl rfl rfl<|Zc<|Zk rfl<|Za<|Zi<|Zl1 rfl (λ h12 => ?_)<|λ h12 => ?_))
 .
  rw [if_pos h12] at hr
  refine Zb<|Zb<|Zd<|Zc<|Zl rfl<|Zc<|Zz (el := valX (rho A) (argAt args 0)) VT.sl139 rfl rfl (by omega) (get_arg (by omega))<|λ a15 => (Zc<|Zw1 VT.fa146_0 rfl rfl<|Zc<|Zz1 VT.ty3 rfl rfl<|Zc<|Zj1 rfl rfl rfl<|Za<|Zi<|Zm1 rfl (λ h18 => ?_)<|λ h18 => ?_)
  .
   rw [if_pos h18] at hr
   refine Zb<|Zd<|Zc<|Zu2 (Zf2 [] [] VT.st146 rfl rfl rfl rfl ⟨rfl, rfl⟩) ((le_val (rho A) 0 0))<|Zc<|Zx 0 VT.ty146 rfl rfl rfl rfl rfl<|Zc<|Zk rfl<|Za<|Zi<|Zf1<|Zd1<|Za1<|Zd1<|Zh1 rfl rfl (.cons (.agg (i := 0) VT.ty146 rfl rfl rfl)<|.cons (.tmp rfl)<|.nil) ?_
   rw [hr]
   exact ⟨_, (Dd (Dd (Dk (Dk (Zt2 _))))), A, tok, ⟨[], (Ya _).symm⟩, hA, rfl, rfl⟩
  rw [if_neg (by omega)] at hr
  refine Zi1<|Zi<|Zb<|Zb<|Zd<|Zc<|Zl rfl<|Zc<|Zv1 rfl<|Zc<|Zj VT.fa97_5 rfl<|Zc<|Zj VT.fa46_0 rfl<|Zc<|Zu 2 VT.ty32 rfl rfl rfl<|Zc<|Zd2 (n := M.out.length) Tryz.underlying32 rfl (by simp)<|λ hl25 => (Zc<|Zj1 rfl rfl rfl<|Za<|Zi<|Zl1 rfl (λ h26 => ?_)<|λ h26 => ?_)
  .
   rw [if_pos h26] at hr
   refine Zb<|Zd<|Zc<|Zu2 (Zf2 [] [] VT.st146 rfl rfl rfl rfl ⟨rfl, rfl⟩) ((le_val (rho A) 0 0))<|Zc<|Zx 0 VT.ty146 rfl rfl rfl rfl rfl<|Zc<|Zk rfl<|Za<|Zi<|Zf1<|Zd1<|Za1<|Zd1<|Zh1 rfl rfl (.cons (.agg (i := 0) VT.ty146 rfl rfl rfl)<|.cons (.tmp rfl)<|.nil) ?_
   rw [hr]
   exact ⟨_, (Dd (Dd (Dk (Dk (Zt2 _))))), A, tok, ⟨[], (Ya _).symm⟩, hA, rfl, rfl⟩
  rw [if_neg h26] at hr
  refine Zi1<|Zi<|Zb<|VW_drawR (G := Tok) [([], [0], []), ([], [0], []), ([1], [29], []), ([2, 1], [30], []), ([3, 2, 1], [31], []), ([4, 3, 2, 1], [32], []), ([], [2], []), ([6], [34], []), ([7, 6], [35], []), ([8, 7, 6], [36], []), ([9, 8, 7, 6], [37], []), ([10, 9, 8, 7, 6, 5, 4, 3, 2, 1], [33, 38], [0]), (dn 12, [28], []), (dn 13, [40], []), (dn 14, [41], []), (dn 15, [42, 39], [])] [11, 15] (twoSt _ (λ x => .cells g6 146 VT.zs146 :: .cells g4 42 (insV i).leaves :: mcells gm u stk (outV tok M.out) M :: .buf x 3 1 (M.out.map V.int ++ [V.int (argAt args 0).n]).length :: arrsS (rho A) A M.heap) (λ x _ => .cells g6 146 VT.zs146 :: .cells g4 42 (insV i).leaves :: mcells gm u stk (.sl 1 (some x) (M.out.map V.int ++ [V.int (argAt args 0).n])) M :: .buf x 3 1 (M.out.map V.int ++ [V.int (argAt args 0).n]).length :: arrsS (rho A) A M.heap)) [] [28, 29, 30, 31, 32, 33, 34, 35, 36, 37, 38, 39, 40, 41, 42] rfl VT.mix<|Zp (Zm _) (Zm2 rfl<|λ _ => (λ γ => Zf<|λ _ h0 => Ze<|Zn rfl<|Zl h0 z0))<|Zp (Zm _) (Zo rfl rfl ⟨(λ γ => Zf (λ _ h0 => Ze (Zn rfl (Zl h0 z0)))), trivial⟩)<|Zp (Zm _) (Zo rfl rfl ⟨(λ γ => Zw 1 0 rfl (λ _ h29 => Ze (Zn rfl (Zv1 h29 z0)))), trivial⟩)<|Zp (Zm _) (Zo rfl rfl ⟨(λ γ => Zw 2 0 rfl (λ _ h30 => Ze (Zn rfl (Zj VT.fa97_5 h30 z0)))), trivial⟩)<|Zp (Zm _) (Zo rfl rfl ⟨(λ γ => Zw 3 0 rfl (λ _ h31 => Ze (Zn rfl (Zj VT.fa46_0 h31 z0)))), trivial⟩)<|Zp (Zm _) (Zo rfl rfl ⟨(λ γ => Zw 4 0 rfl (λ _ h32 => Ze (Zn rfl (Zu 2 VT.ty32 h32 rfl rfl z0)))), trivial⟩)<|Zp (Zm _) (Zo rfl rfl ⟨(λ γ => Zf (λ _ h2 => Ze (Zn rfl (Zl h2 z0)))), trivial⟩)<|Zp (Zb3 _) (Zo rfl rfl ⟨(λ γ => Zw 6 0 rfl (λ _ h34 => Ze (Zn rfl (Zz (el := valX (rho A) (argAt args 0)) VT.sl139 h34 rfl (by omega) (get_arg (by omega)) (λ a35 => ⟨⟨_, rfl⟩, rfl⟩))))), trivial⟩)<|Zp (Zb3 _) (Zo rfl rfl ⟨(λ γ => Zw 7 0 rfl (λ _ h35 => Ze (Zc3 h35 (λ a_35 e35 => Zn rfl (Zw1 VT.fa146_1 e35 rfl ⟨⟨_, rfl⟩, rfl⟩))))), trivial⟩)<|Zp (Zm _) (Zo rfl rfl ⟨(λ γ => Zw 8 0 rfl (λ _ h36 => Ze (Zc3 h36 (λ a_36 e36 => Zn rfl (Zz1 VT.ty3 e36 rfl z0))))), trivial⟩)<|Zp (Zm _) (Zo rfl rfl ⟨(λ γ => Zw 9 0 rfl (λ _ h37 => Ze (Zn rfl (Zk3 [.tmp 37] VT.sl32 rfl rfl rfl (Zp2 h37 Zq2) rfl z0)))), trivial⟩)<|Zp (Zw2<|λ x => .sl 1 (some x) (M.out.map V.int ++ [V.int (argAt args 0).n])) (Zo2 0 rfl<|λ γ => Zw 5 5 rfl<|λ _ h33 => Zw 10 0 rfl<|λ _ h38 => Ze<|Zn rfl<|Zi3 3 _ VT.sl32 h33 h38 rfl (by simp) (by simp; omega)<|λ t39 => ⟨t39, ⟨t39, rfl, rfl⟩, rfl⟩)<|Zp (Zm _) (Zo rfl rfl ⟨(λ γ => Zw 0 11 rfl (λ _ h28 => Ze (Zn rfl (Zv1 h28 z0)))), trivial⟩)<|Zp (Zm _) (Zo rfl rfl ⟨(λ γ => Zw 12 0 rfl (λ _ h40 => Ze (Zn rfl (Zj VT.fa97_5 h40 z0)))), trivial⟩)<|Zp (Zm _) (Zo rfl rfl ⟨(λ γ => Zw 13 0 rfl (λ _ h41 => Ze (Zn rfl (Zj VT.fa46_0 h41 z0)))), trivial⟩)<|Zp Za3 (Zo2 1 rfl<|λ γ => Zw 14 0 rfl<|λ _ h42 => Zw 11 3 rfl<|λ _ h39 => Ze<|Zx2 h39<|λ e39 => Zn rfl<|Zy 2 VT.ty32 h42 e39 rfl rfl rfl ⟨default, trivial, rfl⟩)<|DrawP_nil<|λ γ => Ze<|Zi<|Zb<|Zd<|Zc<|Zx1 [.const (.int .i64 (0))] rfl rfl VT.en105 (wordOf_c (rho A) _)<|Zc<|Zx 0 VT.ty146 rfl rfl rfl rfl rfl<|Zc<|Zk rfl<|Za<|Zi<|Zf1<|Za1<|Zd1<|Zh1 rfl rfl (.cons (.agg (i := 0) VT.ty146 rfl rfl rfl)<|.cons (.tmp rfl)<|.nil) ?_
  rw [hr]
  refine ⟨_, (Dd (Dd (Dk (Dk (Zt2 _))))), A, γ 0, ⟨[], (Ya _).symm⟩, hA, rfl, ?_⟩
  simp [outV, obuf, List.map_append]
 rw [if_neg h12] at hr
 refine Zb<|Zd<|Zc<|Zj1 rfl rfl rfl<|Zc<|Zk rfl<|Za<|Zi<|Zl1 rfl (λ h44 => ?_)<|λ h44 => ?_
 .
  rw [if_pos h44] at hr
  have hl4 := hl2 (by omega)
  have hnw := hnew h44
  refine Zb<|VW_drawR (G := Unit) [([], [0], []), ([], [2], []), ([1], [47], []), ([2, 1], [48], []), ([], [2], []), ([4], [50], []), ([5, 4], [51], []), (dn 7, [46, 49, 52], []), (dn 8, [53], []), (dn 8, [53], []), (dn 10, [6, 54], []), (dn 11, [55], [])] [7, 10] (twoSt _ (λ _ => mcells gm u stk (outV tok M.out) (allocF (argAt args 0) (argAt args 1) M).1 :: .cells g6 146 VT.zs146 :: .cells g4 42 (insV i).leaves :: obuf tok M.out :: arrsS (rho A) A M.heap) (λ _ _ => mcells gm u stk (outV tok M.out) (allocF (argAt args 0) (argAt args 1) M).1 :: .cells g6 146 (valX (rho A) (allocF (argAt args 0) (argAt args 1) M).2.1).leaves :: .cells g4 42 (insV i).leaves :: obuf tok M.out :: arrsS (rho A) A M.heap)) [7] [7, 46, 47, 48, 49, 50, 51, 52, 53, 54, 55] rfl VT.mix<|Zp (Zm _) (Zo rfl rfl ⟨(λ γ => Zf (λ _ h0 => Ze (Zn rfl (Zl h0 z0)))), trivial⟩)<|Zp (Zm _) (Zo rfl rfl ⟨(λ γ => Zf (λ _ h2 => Ze (Zn rfl (Zl h2 z0)))), trivial⟩)<|Zp (Zb3 _) (Zo rfl rfl ⟨(λ γ => Zw 1 0 rfl (λ _ h47 => Ze (Zn rfl (Zz (el := valX (rho A) (argAt args 0)) VT.sl139 h47 rfl (by omega) (get_arg (by omega)) (λ a48 => ⟨⟨_, rfl⟩, rfl⟩))))), trivial⟩)<|Zp (Zm _) (Zo rfl rfl ⟨(λ γ => Zw 2 0 rfl (λ _ h48 => Ze (Zc3 h48 (λ a_48 e48 => Zn rfl (Za2 VT.ty146 e48 rfl z0))))), trivial⟩)<|Zp (Zm _) (Zo rfl rfl ⟨(λ γ => Zf (λ _ h2 => Ze (Zn rfl (Zl h2 z0)))), trivial⟩)<|Zp (Zb3 _) (Zo rfl rfl ⟨(λ γ => Zw 4 0 rfl (λ _ h50 => Ze (Zn rfl (Zz (el := valX (rho A) (argAt args 1)) VT.sl139 h50 rfl (by omega) (get_arg (by omega)) (λ a51 => ⟨⟨_, rfl⟩, rfl⟩))))), trivial⟩)<|Zp (Zm _) (Zo rfl rfl ⟨(λ γ => Zw 5 0 rfl (λ _ h51 => Ze (Zc3 h51 (λ a_51 e51 => Zn rfl (Za2 VT.ty146 e51 rfl z0))))), trivial⟩)<|Zp (Zm<|.tup [valX (rho A) (allocF (argAt args 0) (argAt args 1) M).2.1, .int (allocF (argAt args 0) (argAt args 1) M).2.2]) (Zo2 0 rfl<|λ γ => Zw 0 6 rfl<|λ _ h46 => Zw 3 3 rfl<|λ _ h49 => Zw 6 0 rfl<|λ _ h52 => Ze<|Zn rfl<|Zm3 [.tmp 46, .tmp 49, .tmp 52] [_] _ rfl (Zp2 h46<|Zp2 h49<|Zp2 h52 Zq2) VT.en127 (Zv2 (i := 2) rfl) (alloc0_c gm u stk (outV tok M.out) M (rho A) (argAt args 0) (argAt args 1) h2 h3 hnw) (λ r Sa h => by obtain ⟨h1, h2⟩ := h; subst h1 h2; exact ⟨(), rfl, rfl⟩))<|Zp (Zm _) (Zo rfl rfl ⟨(λ γ => Zw 7 0 rfl (λ _ h53 => Ze (Zn rfl (Zg2 h53 rfl z0)))), trivial⟩)<|Zp (Zm _) (Zo rfl rfl ⟨(λ γ => Zw 7 1 rfl (λ _ h53 => Ze (Zn rfl (Zg2 h53 rfl z0)))), trivial⟩)<|Zp Za3 (Zo2 1 rfl<|λ γ => Zf<|λ _ h6 => Zw 8 1 rfl<|λ _ h54 => Ze<|Zn rfl<|Zx 1 VT.ty146 h6 h54 rfl rfl rfl ⟨(), trivial, rfl⟩)<|Zp (Zm _) (Zo rfl rfl ⟨(λ γ => Zw 9 1 rfl (λ _ h55 => Ze (Zn rfl (Zk h55 z0)))), trivial⟩)<|DrawP_nil<|λ γ => Zw 11 0 rfl<|λ r7 h7 => Ze ?_
  have e7 : r7 = some _ := h7
  subst e7
  clear h7
  refine Zi<|Zf1<|Za1<|Zd1<|Zh1 rfl rfl (.cons (.agg (i := 1) VT.ty146 rfl rfl rfl)<|.cons (.tmp rfl)<|.nil) ?_
  rw [hr]
  refine ⟨_, (Dk (Dd (Dd (Dk (Zt2 _))))), A, tok, ⟨[], (Ya _).symm⟩, ?_, rfl, ?_⟩
  . rw [allocF_old hnw]; exact hA
  . rw [allocF_out, allocF_old hnw]
 rw [if_neg h44] at hr
 refine Zb<|Zd<|Zc<|Zj1 rfl rfl rfl<|Zc<|Zk rfl<|Za<|Zi<|Zl1 rfl (λ h56 => ?_)<|λ h56 => ?_
 .
  rw [if_pos h56] at hr
  have hl4 := hl2 (by omega)
  refine Zb<|Zb<|Zd<|Zc<|Zl rfl<|Zc<|Zx1 [.tmp 58, .const (.int .i64 (0))] rfl rfl VT.en106 (all_c (rho A) args _)<|Zc<|Zl2 rfl<|Za<|Zi<|Zo1 rfl (λ h60 => ?_)<|λ h60 => ?_
  .
   rw [if_pos h60] at hr
   refine Zb<|Zd<|Zc<|Zu2 (Zf2 [] [] VT.st146 rfl rfl rfl rfl ⟨rfl, rfl⟩) ((le_val (rho A) 0 0))<|Zc<|Zx 0 VT.ty146 rfl rfl rfl rfl rfl<|Zc<|Zk rfl<|Za<|Zi<|Zf1<|Zd1<|Za1<|Zd1<|Zh1 rfl rfl (.cons (.agg (i := 0) VT.ty146 rfl rfl rfl)<|.cons (.tmp rfl)<|.nil) ?_
   rw [hr]
   exact ⟨_, (Dd (Dd (Dk (Dk (Zt2 _))))), A, tok, ⟨[], (Ya _).symm⟩, hA, rfl, rfl⟩
  rw [if_neg (by rw [h60]; decide)] at hr
  refine Zi1<|Zi<|Zb<|Zb ?_
  rcases Bool.eq_false_or_eq_true (decide ((argAt args 0).n < 0)) with hq66 | hq66
  .
   refine VW_drawR (G := Unit) [([], [2], []), ([0], [62], []), ([1, 0], [63], []), ([2, 1, 0], [64], []), (dn 4, [65], []), (dn 5, [66], []), (dn 6, [2, 67], []), (dn 7, [68, 67], []), (dn 8, [69, 67], []), (dn 9, [70, 67], []), (dn 6, [2, 67], []), ([10, 5, 4, 3, 2, 1, 0], [72, 67], []), ([11, 10, 5, 4, 3, 2, 1, 0], [73, 67], []), ([12, 11, 10, 5, 4, 3, 2, 1, 0], [74, 67], []), (dn 14, [71, 75, 67], []), (dn 15, [67, 76], [])] [] (constSt _) [77] [62, 63, 64, 65, 66, 67, 68, 69, 70, 71, 72, 73, 74, 75, 76, 77] rfl VT.mix<|ZA (λ γ => Zf<|λ _ h2 => Ze<|Zn rfl<|Zl h2 z0)<|Zp (Zb3 _) (Zq<|λ γ => Zw 0 0 rfl<|λ _ h62 => Ze<|Zn rfl<|Zz (el := valX (rho A) (argAt args 0)) VT.sl139 h62 rfl (by omega) (get_arg (by omega))<|λ a63 => ⟨⟨_, rfl⟩, rfl⟩)<|Zp (Zb3 _) (Zq<|λ γ => Zw 1 0 rfl<|λ _ h63 => Ze<|Zc3 h63<|λ a_63 e63 => Zn rfl<|Zw1 VT.fa146_1 e63 rfl ⟨⟨_, rfl⟩, rfl⟩)<|ZA (λ γ => Zw 2 0 rfl<|λ _ h64 => Ze<|Zc3 h64<|λ a_64 e64 => Zn rfl<|Zz1 VT.ty3 e64 rfl z0)<|ZA (λ γ => Zw 3 0 rfl<|λ _ h65 => Ze<|Zn rfl<|Zj1 h65 rfl rfl z0)<|ZA (λ γ => Zw 4 0 rfl<|λ _ h66 => Ze<|Zn rfl<|Zl h66 z0)<|ZA (λ γ => Zf<|λ _ h2 => Zw 5 0 rfl<|λ _ h67 => Ze<|Zy2 (Zr rfl rfl h67 hq66) z0)<|ZA (λ γ => Zw 6 0 rfl<|λ _ h68 => Zw 5 1 rfl<|λ _ h67 => Ze<|Zy2 (Zr rfl rfl h67 hq66) z0)<|ZA (λ γ => Zw 7 0 rfl<|λ _ h69 => Zw 5 2 rfl<|λ _ h67 => Ze<|Zy2 (Zr rfl rfl h67 hq66) z0)<|ZA (λ γ => Zw 8 0 rfl<|λ _ h70 => Zw 5 3 rfl<|λ _ h67 => Ze<|Zy2 (Zr rfl rfl h67 hq66) z0)<|ZA (λ γ => Zf<|λ _ h2 => Zw 5 4 rfl<|λ _ h67 => Ze<|Zy2 (Zr rfl rfl h67 hq66) z0)<|ZA (λ γ => Zw 10 0 rfl<|λ _ h72 => Zw 5 5 rfl<|λ _ h67 => Ze<|Zy2 (Zr rfl rfl h67 hq66) z0)<|ZA (λ γ => Zw 11 0 rfl<|λ _ h73 => Zw 5 6 rfl<|λ _ h67 => Ze<|Zy2 (Zr rfl rfl h67 hq66) z0)<|ZA (λ γ => Zw 12 0 rfl<|λ _ h74 => Zw 5 7 rfl<|λ _ h67 => Ze<|Zy2 (Zr rfl rfl h67 hq66) z0)<|ZA (λ γ => Zw 9 4 rfl<|λ _ h71 => Zw 13 0 rfl<|λ _ h75 => Zw 5 8 rfl<|λ _ h67 => Ze<|Zy2 (Zr rfl rfl h67 hq66) z0)<|ZA (λ γ => Zw 5 9 rfl<|λ _ h67 => Zw 14 0 rfl<|λ _ h76 => Ze<|Zn rfl<|Zs1 h67 hq66 rfl z0)<|DrawP_nil<|λ γ => Zw 15 0 rfl<|λ r77 h77 => Ze ?_
   have e77 : r77 = some _ := h77
   subst e77
   clear h77
   refine Zi<|Zp1 rfl rfl ?_
   rw [if_pos (.inl (decT hq66))] at hr
   refine Zb<|Zd<|Zc<|Zu2 (Zf2 [] [] VT.st146 rfl rfl rfl rfl ⟨rfl, rfl⟩) ((le_val (rho A) 0 0))<|Zc<|Zx 0 VT.ty146 rfl rfl rfl rfl rfl<|Zc<|Zk rfl<|Za<|Zi<|Zf1<|Zd1<|Za1<|Zd1<|Zh1 rfl rfl (.cons (.agg (i := 0) VT.ty146 rfl rfl rfl)<|.cons (.tmp rfl)<|.nil) ?_
   rw [hr]
   exact ⟨_, (Dd (Dd (Dk (Dk (Zt2 _))))), A, tok, ⟨[], (Ya _).symm⟩, hA, rfl, rfl⟩
  refine VW_drawR (G := Unit) [([], [2], []), ([0], [62], []), ([1, 0], [63], []), ([2, 1, 0], [64], []), (dn 4, [65], []), (dn 5, [66], []), (dn 6, [2, 67], []), (dn 7, [68, 67], []), (dn 8, [69, 67], []), (dn 9, [70, 67], []), (dn 6, [2, 67], []), ([10, 5, 4, 3, 2, 1, 0], [72, 67], []), ([11, 10, 5, 4, 3, 2, 1, 0], [73, 67], []), ([12, 11, 10, 5, 4, 3, 2, 1, 0], [74, 67], []), (dn 14, [71, 75, 67], []), (dn 15, [67, 76], [])] [] (constSt _) [77] [62, 63, 64, 65, 66, 67, 68, 69, 70, 71, 72, 73, 74, 75, 76, 77] rfl VT.mix<|ZA (λ γ => Zf<|λ _ h2 => Ze<|Zn rfl<|Zl h2 z0)<|Zp (Zb3 _) (Zq<|λ γ => Zw 0 0 rfl<|λ _ h62 => Ze<|Zn rfl<|Zz (el := valX (rho A) (argAt args 0)) VT.sl139 h62 rfl (by omega) (get_arg (by omega))<|λ a63 => ⟨⟨_, rfl⟩, rfl⟩)<|Zp (Zb3 _) (Zq<|λ γ => Zw 1 0 rfl<|λ _ h63 => Ze<|Zc3 h63<|λ a_63 e63 => Zn rfl<|Zw1 VT.fa146_1 e63 rfl ⟨⟨_, rfl⟩, rfl⟩)<|ZA (λ γ => Zw 2 0 rfl<|λ _ h64 => Ze<|Zc3 h64<|λ a_64 e64 => Zn rfl<|Zz1 VT.ty3 e64 rfl z0)<|ZA (λ γ => Zw 3 0 rfl<|λ _ h65 => Ze<|Zn rfl<|Zj1 h65 rfl rfl z0)<|ZA (λ γ => Zw 4 0 rfl<|λ _ h66 => Ze<|Zn rfl<|Zl h66 z0)<|ZA (λ γ => Zf<|λ _ h2 => Zw 5 0 rfl<|λ _ h67 => Ze<|Zn (Zg rfl rfl h67 hq66)<|Zl h2 z0)<|Zp (Zb3 _) (Zq<|λ γ => Zw 6 0 rfl<|λ _ h68 => Zw 5 1 rfl<|λ _ h67 => Ze<|Zn (Zg rfl rfl h67 hq66)<|Zz (el := valX (rho A) (argAt args 0)) VT.sl139 h68 rfl (by omega) (get_arg (by omega))<|λ a69 => ⟨⟨_, rfl⟩, rfl⟩)<|Zp (Zb3 _) (Zq<|λ γ => Zw 7 0 rfl<|λ _ h69 => Zw 5 2 rfl<|λ _ h67 => Ze<|Zc3 h69<|λ a_69 e69 => Zn (Zg rfl rfl h67 hq66)<|Zw1 VT.fa146_1 e69 rfl ⟨⟨_, rfl⟩, rfl⟩)<|ZA (λ γ => Zw 8 0 rfl<|λ _ h70 => Zw 5 3 rfl<|λ _ h67 => Ze<|Zc3 h70<|λ a_70 e70 => Zn (Zg rfl rfl h67 hq66)<|Zz1 VT.ty3 e70 rfl z0)<|ZA (λ γ => Zf<|λ _ h2 => Zw 5 4 rfl<|λ _ h67 => Ze<|Zn (Zg rfl rfl h67 hq66)<|Zl h2 z0)<|Zp (Zb3 _) (Zq<|λ γ => Zw 10 0 rfl<|λ _ h72 => Zw 5 5 rfl<|λ _ h67 => Ze<|Zn (Zg rfl rfl h67 hq66)<|Zz (el := valX (rho A) (argAt args 1)) VT.sl139 h72 rfl (by omega) (get_arg (by omega))<|λ a73 => ⟨⟨_, rfl⟩, rfl⟩)<|Zp (Zb3 _) (Zq<|λ γ => Zw 11 0 rfl<|λ _ h73 => Zw 5 6 rfl<|λ _ h67 => Ze<|Zc3 h73<|λ a_73 e73 => Zn (Zg rfl rfl h67 hq66)<|Zw1 VT.fa146_1 e73 rfl ⟨⟨_, rfl⟩, rfl⟩)<|ZA (λ γ => Zw 12 0 rfl<|λ _ h74 => Zw 5 7 rfl<|λ _ h67 => Ze<|Zc3 h74<|λ a_74 e74 => Zn (Zg rfl rfl h67 hq66)<|Zz1 VT.ty3 e74 rfl z0)<|ZA (λ γ => Zw 9 4 rfl<|λ _ h71 => Zw 13 0 rfl<|λ _ h75 => Zw 5 8 rfl<|λ _ h67 => Ze<|Zn (Zg rfl rfl h67 hq66)<|Zj1 h71 h75 rfl z0)<|ZA (λ γ => Zw 5 9 rfl<|λ _ h67 => Zw 14 0 rfl<|λ _ h76 => Ze<|Zn rfl<|Zt1 h67 hq66 h76 z0)<|DrawP_nil<|λ γ => Zw 15 0 rfl<|λ r77 h77 => Ze ?_
  have e77 : r77 = some _ := h77
  subst e77
  clear h77
  refine Zi<|Zn1 rfl (λ h77 => ?_)<|λ h77 => ?_
  .
   rw [if_pos (.inr h77)] at hr
   refine Zb<|Zd<|Zc<|Zu2 (Zf2 [] [] VT.st146 rfl rfl rfl rfl ⟨rfl, rfl⟩) ((le_val (rho A) 0 0))<|Zc<|Zx 0 VT.ty146 rfl rfl rfl rfl rfl<|Zc<|Zk rfl<|Za<|Zi<|Zf1<|Zd1<|Za1<|Zd1<|Zh1 rfl rfl (.cons (.agg (i := 0) VT.ty146 rfl rfl rfl)<|.cons (.tmp rfl)<|.nil) ?_
   rw [hr]
   exact ⟨_, (Dd (Dd (Dk (Dk (Zt2 _))))), A, tok, ⟨[], (Ya _).symm⟩, hA, rfl, rfl⟩
  have hx66 := decF hq66
  rw [if_neg (by omega)] at hr
  refine Zi1<|Zi<|Zb<|Zd<|Zc<|Zx1 [.const (.int .i64 (0))] rfl rfl VT.en105 (wordOf_c (rho A) _)<|Zc<|Zx 0 VT.ty146 rfl rfl rfl rfl rfl<|Zc<|Zk rfl<|Za<|Zi<|Zf1<|Za1<|Zd1<|Zh1 rfl rfl (.cons (.agg (i := 0) VT.ty146 rfl rfl rfl)<|.cons (.tmp rfl)<|.nil) ?_
  rw [hr]
  exact ⟨_, (Dd (Dd (Dk (Dk (Zt2 _))))), A, tok, ⟨[], (Ya _).symm⟩, hA, rfl, rfl⟩
 rw [if_neg h56] at hr
 refine Zi1<|Zb1<|Zi<|Zb<|Zb<|Zd<|Zc<|Zl rfl<|Zc<|Zz (el := valX (rho A) (argAt args 0)) VT.sl139 rfl rfl (by omega) (get_arg (by omega))<|λ a81 => (Zc<|Zw1 VT.fa146_0 rfl rfl<|Zc<|Zz1 VT.ty3 rfl rfl<|Zc<|Zj1 rfl rfl rfl<|Zc<|Zl rfl<|Zj2 (q := 85) rfl (λ hq85 => ?_)<|λ hq85 => ?_)
 .
  have hx85 := bneT hq85
  refine Zk0 hq85<|Zk0 hq85<|Zk0 hq85<|Zk0 hq85<|Zh (.inr ⟨_, _, 89, rfl, rfl, rfl⟩) rfl<|Zh (.inr ⟨_, _, 89, rfl, rfl, rfl⟩) rfl<|Zh (.inr ⟨_, _, 89, rfl, rfl, rfl⟩) rfl<|Zh (.inr ⟨_, _, 89, rfl, rfl, rfl⟩) rfl<|Zh (.inr ⟨_, _, 89, rfl, rfl, rfl⟩) rfl<|Zk0 hq85<|Zc<|Zs1 rfl hq85 rfl<|Za<|Zi<|Zp1 rfl rfl ?_
  rw [if_pos (.inl hx85)] at hr
  refine Zb<|Zd<|Zc<|Zu2 (Zf2 [] [] VT.st146 rfl rfl rfl rfl ⟨rfl, rfl⟩) ((le_val (rho A) 0 0))<|Zc<|Zx 0 VT.ty146 rfl rfl rfl rfl rfl<|Zc<|Zk rfl<|Za<|Zi<|Zf1<|Zd1<|Zh1 rfl rfl (.cons (.agg (i := 0) VT.ty146 rfl rfl rfl)<|.cons (.tmp rfl)<|.nil) ?_
  rw [hr]
  exact ⟨_, (Dd (Dd (Dk (Dk (Zt2 _))))), A, tok, ⟨[], (Ya _).symm⟩, hA, rfl, rfl⟩
 have hx85 := bneF hq85
 refine Zc (Zj VT.fa42_1 rfl ?_)<|Zy0 hq85
 refine Zc (Zu 1 VT.ty3 rfl rfl rfl ?_)<|Zy0 hq85
 refine Zc (Zj1 rfl rfl rfl ?_)<|Zy0 hq85
 refine Zc (Zl rfl ?_)<|Zy0 hq85
 refine Zj2 (q := 89) rfl (λ hq89 => ?_)<|λ hq89 => ?_
 .
  have hx89 := bneT hq89
  have hl4 := hl2 (by omega)
  refine Zc (Zl rfl ?_)<|Zy1 hq89
  refine Zc (Zz (el := valX (rho A) (argAt args 1)) VT.sl139 rfl rfl (by omega) (get_arg (by omega))<|λ a91 => ?_)<|Zy1 hq89
  refine Zc (Zw1 VT.fa146_0 rfl rfl ?_)<|Zy1 hq89
  refine Zc (Zz1 VT.ty3 rfl rfl ?_)<|Zy1 hq89
  refine Zc (Zj1 rfl rfl rfl ?_)<|Zy1 hq89
  refine Zc (Zs1 rfl hq89 rfl ?_)<|Zy0 hq85
  refine Zc<|Zt1 rfl hq85 rfl<|Za<|Zi<|Zm1 rfl (λ h96 => ?_)<|λ h96 => ?_
  .
   rw [if_pos (.inr ⟨hx89, h96⟩)] at hr
   refine Zb<|Zd<|Zc<|Zu2 (Zf2 [] [] VT.st146 rfl rfl rfl rfl ⟨rfl, rfl⟩) ((le_val (rho A) 0 0))<|Zc<|Zx 0 VT.ty146 rfl rfl rfl rfl rfl<|Zc<|Zk rfl<|Za<|Zi<|Zf1<|Zd1<|Zh1 rfl rfl (.cons (.agg (i := 0) VT.ty146 rfl rfl rfl)<|.cons (.tmp rfl)<|.nil) ?_
   rw [hr]
   exact ⟨_, (Dd (Dd (Dk (Dk (Zt2 _))))), A, tok, ⟨[], (Ya _).symm⟩, hA, rfl, rfl⟩
  have hkw : (argAt args 1).kind = 0 := by omega
  rw [if_neg (by omega)] at hr
  refine Zi1<|Zi ?_
  obtain ⟨k, hk, hkl⟩ := arr_of (argAt_ok hok 0) hx85
  obtain ⟨x, hx⟩ : ∃ x, A[k]? = some x := ⟨_, Yc (by omega)⟩
  obtain ⟨l, hl⟩ : ∃ l, M.heap[k]? = some l := ⟨_, Yc hkl⟩
  have hll := (hH l (List.mem_of_getElem? hl)).1
  have hao : arrOf M (argAt args 0) = l := by rw [arrOf, hk]; simp [hl]
  rw [hao] at hr
  have hrk : arrV (rho A) (argAt args 0).arr = .ptr x.1 0 := by rw [hk, arrV, rho, hx]; rfl
  have hsa : ∀ L, setArr M (argAt args 0) L = { M with heap := M.heap.set k L } := λ L => by unfold setArr; rw [hk]
  refine VW_perm (((((arrsS_perm (rho A) hx hl).cons _).cons _).cons _).cons _)<|Zb<|Zd<|Zc<|Zl rfl<|Zc<|Zz (el := valX (rho A) (argAt args 0)) VT.sl139 rfl rfl (by omega) (get_arg (by omega))<|λ a99 => (Zc<|Zw1 VT.fa146_3 rfl rfl<|Zc<|Zu2 (Zz1 VT.ty144 rfl (arrV_leaf _ _) ⟨rfl, rfl⟩) ((V.le.of_eq hrk))<|Zc<|Zv1 rfl<|Zc<|Zu 4 VT.ty139 rfl rfl rfl<|Zc<|Zk rfl<|Za<|Zi<|Zb<|Zb<|Zd<|Zc<|Zj VT.fa42_1 rfl<|Zc<|Zu 1 VT.ty3 rfl rfl rfl<|Zc<|Zj1 rfl rfl rfl<|Za<|Zi<|Zl1 rfl (λ h106 => ?_)<|λ h106 => ?_)
  .
   rw [if_pos h106] at hr
   refine Zb<|Zd<|Zc<|Zl rfl<|Zc<|V_len_raw Tryz.underlying139 rfl<|Zc<|Zx1 [.tmp 108] rfl rfl VT.en105 (wordOf_c (rho A) _)<|Zc<|Zx 0 VT.ty146 rfl rfl rfl rfl rfl<|Zc<|Zk rfl<|Za<|Zi<|Zf1<|Zd1<|Zh1 rfl rfl (.cons (.agg (i := 0) VT.ty146 rfl rfl rfl)<|.cons (.tmp rfl)<|.nil) ?_
   rw [hr]
   exact ⟨_, Dd (Dd (Dk (Dk (Drops.of_perm (arrsS_perm (rho A) hx hl).symm)))), A, tok, ⟨[], (Ya _).symm⟩, hA, rfl, rfl⟩
  rw [if_neg h106] at hr
  have hl4 : 2 <= args.length := hl2 (by omega)
  refine Zi1<|Zi<|Zb<|Zd<|Zc<|Zl rfl<|Zc<|Zz (el := valX (rho A) (argAt args 1)) VT.sl139 rfl rfl (by omega) (get_arg (by omega))<|λ a111 => (Zc<|Zw1 VT.fa146_1 rfl rfl<|Zc<|Zz1 VT.ty3 rfl rfl<|Zc<|Zk rfl<|Za<|Zi<|Zb<|Zb<|Zd<|Zc<|Zl rfl<|Zc<|Zj1 rfl rfl rfl<|Zc<|Zl rfl<|Zj2 (q := 116) rfl (λ hq116 => ?_)<|λ hq116 => ?_)
  .
   have hx116 := decT hq116
   refine Zk0 hq116<|Zk0 hq116<|Zk0 hq116<|Zk0 hq116<|Zc<|Zs1 rfl hq116 rfl<|Za<|Zi<|Zp1 rfl rfl ?_
   rw [if_pos (.inl hx116)] at hr
   refine Zb<|Zd<|Zc<|Zu2 (Zf2 [] [] VT.st146 rfl rfl rfl rfl ⟨rfl, rfl⟩) ((le_val (rho A) 0 0))<|Zc<|Zx 0 VT.ty146 rfl rfl rfl rfl rfl<|Zc<|Zk rfl<|Za<|Zi<|Zf1<|Zd1<|Zh1 rfl rfl (.cons (.agg (i := 0) VT.ty146 rfl rfl rfl)<|.cons (.tmp rfl)<|.nil) ?_
   rw [hr]
   exact ⟨_, Dd (Dd (Dk (Dk (Drops.of_perm (arrsS_perm (rho A) hx hl).symm)))), A, tok, ⟨[], (Ya _).symm⟩, hA, rfl, rfl⟩
  have hx116 := decF hq116
  refine Zc (Zl rfl ?_)<|Zy0 hq116
  refine Zc (Zl rfl ?_)<|Zy0 hq116
  refine Zc (V_len_raw Tryz.underlying139 rfl ?_)<|Zy0 hq116
  refine Zc (Zj1 rfl rfl rfl ?_)<|Zy0 hq116
  refine Zc<|Zt1 rfl hq116 rfl<|Za<|Zi<|Zn1 rfl (λ h121 => ?_)<|λ h121 => ?_
  .
   rw [if_pos (.inr (by omega))] at hr
   refine Zb<|Zd<|Zc<|Zu2 (Zf2 [] [] VT.st146 rfl rfl rfl rfl ⟨rfl, rfl⟩) ((le_val (rho A) 0 0))<|Zc<|Zx 0 VT.ty146 rfl rfl rfl rfl rfl<|Zc<|Zk rfl<|Za<|Zi<|Zf1<|Zd1<|Zh1 rfl rfl (.cons (.agg (i := 0) VT.ty146 rfl rfl rfl)<|.cons (.tmp rfl)<|.nil) ?_
   rw [hr]
   exact ⟨_, Dd (Dd (Dk (Dk (Drops.of_perm (arrsS_perm (rho A) hx hl).symm)))), A, tok, ⟨[], (Ya _).symm⟩, hA, rfl, rfl⟩
  rw [if_neg (by omega)] at hr
  refine Zi1<|Zi<|Zb<|Zb<|Zd<|Zc<|Zj VT.fa42_1 rfl<|Zc<|Zu 1 VT.ty3 rfl rfl rfl<|Zc<|Zj1 rfl rfl rfl<|Za<|Zi<|Zl1 rfl (λ h125 => ?_)<|λ h125 => ?_
  .
   rw [if_pos h125] at hr
   refine Zb<|Zd<|Zc<|Zl rfl<|Zc<|Zl rfl<|Zc<|Zr2 VT.sl139 rfl rfl (by omega) (by omega)<|Zc<|Ze3 5 (argAt args 1).n.toNat VT.ty146 rfl (by simp) rfl (rowV_nil _ _) (vals_fit _ _) (get_argX (by omega))<|Zc<|Zx 0 VT.ty146 rfl rfl rfl rfl rfl<|Zc<|Zk rfl<|Za<|Zi<|Zf1<|Zd1<|Zh1 rfl rfl (.cons (.agg (i := 0) VT.ty146 rfl rfl rfl)<|.cons (.tmp rfl)<|.nil) ?_
   rw [hr]
   exact ⟨_, Dd (Dd (Dk (Dk (Drops.of_perm (arrsS_perm (rho A) hx hl).symm)))), A, tok, ⟨[], (Ya _).symm⟩, hA, rfl, rfl⟩
  rw [if_neg h125] at hr
  have hl5 := hl3 (by omega)
  refine Zi1<|Zi<|Zb<|Zd<|Zc<|Zl rfl<|Zc<|Zl rfl<|Zc<|Zl rfl<|Zc<|Zz (el := valX (rho A) (argAt args 2)) VT.sl139 rfl rfl (by omega) (get_arg (by omega))<|λ a133 => (Zc<|Za2 VT.ty146 rfl rfl<|Zc<|Zr2 VT.sl139 rfl rfl (by omega) (by omega)<|Zc<|Zg3 5 (argAt args 1).n.toNat VT.ty146 rfl (by simp) rfl rfl rfl (rowV_nil _ _) (vals_fit _ _) (by rw [List.length_map]; omega)<|Za<|Zi<|Zb<|Zd<|Zc<|Zx1 [.const (.int .i64 (0))] rfl rfl VT.en105 (wordOf_c (rho A) _)<|Zc<|Zx 0 VT.ty146 rfl rfl rfl rfl rfl<|Zc<|Zk rfl<|Za<|Zi<|Zf1<|Zh1 rfl rfl (.cons (.agg (i := 0) VT.ty146 rfl rfl rfl)<|.cons (.tmp rfl)<|.nil) ?_)
  rw [hsa] at hr
  rw [hr]
  refine ⟨_, Dd (Dd (Dk (Dk ((Dk (Drops.keepE (congrArg (Own.cells x.2 146) (rowV_set (rho A) l (argAt args 1).n.toNat (argAt args 2))) (Zt2 _))).trans (Drops.of_perm (arrsS_set (rho A) hx hl (by simp))))))), A, tok, ⟨[], (Ya _).symm⟩, ?_, rfl, rfl⟩
  simp [hA]
 have hx89 := bneF hq89
 refine Zk1 hq89<|Zk1 hq89<|Zk1 hq89<|Zk1 hq89<|Zk1 hq89<|Zc (Zt1 rfl hq89 rfl ?_)<|Zy0 hq85
 refine Zc<|Zt1 rfl hq85 rfl<|Za<|Zi<|Zq1 rfl rfl ?_
 rw [if_neg (by omega)] at hr
 refine Zi1<|Zi ?_
 obtain ⟨k, hk, hkl⟩ := arr_of (argAt_ok hok 0) hx85
 obtain ⟨x, hx⟩ : ∃ x, A[k]? = some x := ⟨_, Yc (by omega)⟩
 obtain ⟨l, hl⟩ : ∃ l, M.heap[k]? = some l := ⟨_, Yc hkl⟩
 have hll := (hH l (List.mem_of_getElem? hl)).1
 have hao : arrOf M (argAt args 0) = l := by rw [arrOf, hk]; simp [hl]
 rw [hao] at hr
 have hrk : arrV (rho A) (argAt args 0).arr = .ptr x.1 0 := by rw [hk, arrV, rho, hx]; rfl
 have hsa : ∀ L, setArr M (argAt args 0) L = { M with heap := M.heap.set k L } := λ L => by unfold setArr; rw [hk]
 refine VW_perm (((((arrsS_perm (rho A) hx hl).cons _).cons _).cons _).cons _)<|Zb<|Zd<|Zc<|Zl rfl<|Zc<|Zz (el := valX (rho A) (argAt args 0)) VT.sl139 rfl rfl (by omega) (get_arg (by omega))<|λ a99 => (Zc<|Zw1 VT.fa146_3 rfl rfl<|Zc<|Zu2 (Zz1 VT.ty144 rfl (arrV_leaf _ _) ⟨rfl, rfl⟩) ((V.le.of_eq hrk))<|Zc<|Zv1 rfl<|Zc<|Zu 4 VT.ty139 rfl rfl rfl<|Zc<|Zk rfl<|Za<|Zi<|Zb<|Zb<|Zd<|Zc<|Zj VT.fa42_1 rfl<|Zc<|Zu 1 VT.ty3 rfl rfl rfl<|Zc<|Zj1 rfl rfl rfl<|Za<|Zi<|Zl1 rfl (λ h106 => ?_)<|λ h106 => ?_)
 .
  rw [if_pos h106] at hr
  refine Zb<|Zd<|Zc<|Zl rfl<|Zc<|V_len_raw Tryz.underlying139 rfl<|Zc<|Zx1 [.tmp 108] rfl rfl VT.en105 (wordOf_c (rho A) _)<|Zc<|Zx 0 VT.ty146 rfl rfl rfl rfl rfl<|Zc<|Zk rfl<|Za<|Zi<|Zf1<|Zd1<|Zh1 rfl rfl (.cons (.agg (i := 0) VT.ty146 rfl rfl rfl)<|.cons (.tmp rfl)<|.nil) ?_
  rw [hr]
  exact ⟨_, Dd (Dd (Dk (Dk (Drops.of_perm (arrsS_perm (rho A) hx hl).symm)))), A, tok, ⟨[], (Ya _).symm⟩, hA, rfl, rfl⟩
 rw [if_neg h106] at hr
 have hl4 : 2 <= args.length := hl2 (by omega)
 refine Zi1<|Zi<|Zb<|Zd<|Zc<|Zl rfl<|Zc<|Zz (el := valX (rho A) (argAt args 1)) VT.sl139 rfl rfl (by omega) (get_arg (by omega))<|λ a111 => (Zc<|Zw1 VT.fa146_1 rfl rfl<|Zc<|Zz1 VT.ty3 rfl rfl<|Zc<|Zk rfl<|Za<|Zi<|Zb<|Zb<|Zd<|Zc<|Zl rfl<|Zc<|Zj1 rfl rfl rfl<|Zc<|Zl rfl<|Zj2 (q := 116) rfl (λ hq116 => ?_)<|λ hq116 => ?_)
 .
  have hx116 := decT hq116
  refine Zk0 hq116<|Zk0 hq116<|Zk0 hq116<|Zk0 hq116<|Zc<|Zs1 rfl hq116 rfl<|Za<|Zi<|Zp1 rfl rfl ?_
  rw [if_pos (.inl hx116)] at hr
  refine Zb<|Zd<|Zc<|Zu2 (Zf2 [] [] VT.st146 rfl rfl rfl rfl ⟨rfl, rfl⟩) ((le_val (rho A) 0 0))<|Zc<|Zx 0 VT.ty146 rfl rfl rfl rfl rfl<|Zc<|Zk rfl<|Za<|Zi<|Zf1<|Zd1<|Zh1 rfl rfl (.cons (.agg (i := 0) VT.ty146 rfl rfl rfl)<|.cons (.tmp rfl)<|.nil) ?_
  rw [hr]
  exact ⟨_, Dd (Dd (Dk (Dk (Drops.of_perm (arrsS_perm (rho A) hx hl).symm)))), A, tok, ⟨[], (Ya _).symm⟩, hA, rfl, rfl⟩
 have hx116 := decF hq116
 refine Zc (Zl rfl ?_)<|Zy0 hq116
 refine Zc (Zl rfl ?_)<|Zy0 hq116
 refine Zc (V_len_raw Tryz.underlying139 rfl ?_)<|Zy0 hq116
 refine Zc (Zj1 rfl rfl rfl ?_)<|Zy0 hq116
 refine Zc<|Zt1 rfl hq116 rfl<|Za<|Zi<|Zn1 rfl (λ h121 => ?_)<|λ h121 => ?_
 .
  rw [if_pos (.inr (by omega))] at hr
  refine Zb<|Zd<|Zc<|Zu2 (Zf2 [] [] VT.st146 rfl rfl rfl rfl ⟨rfl, rfl⟩) ((le_val (rho A) 0 0))<|Zc<|Zx 0 VT.ty146 rfl rfl rfl rfl rfl<|Zc<|Zk rfl<|Za<|Zi<|Zf1<|Zd1<|Zh1 rfl rfl (.cons (.agg (i := 0) VT.ty146 rfl rfl rfl)<|.cons (.tmp rfl)<|.nil) ?_
  rw [hr]
  exact ⟨_, Dd (Dd (Dk (Dk (Drops.of_perm (arrsS_perm (rho A) hx hl).symm)))), A, tok, ⟨[], (Ya _).symm⟩, hA, rfl, rfl⟩
 rw [if_neg (by omega)] at hr
 refine Zi1<|Zi<|Zb<|Zb<|Zd<|Zc<|Zj VT.fa42_1 rfl<|Zc<|Zu 1 VT.ty3 rfl rfl rfl<|Zc<|Zj1 rfl rfl rfl<|Za<|Zi<|Zl1 rfl (λ h125 => ?_)<|λ h125 => ?_
 .
  rw [if_pos h125] at hr
  refine Zb<|Zd<|Zc<|Zl rfl<|Zc<|Zl rfl<|Zc<|Zr2 VT.sl139 rfl rfl (by omega) (by omega)<|Zc<|Ze3 5 (argAt args 1).n.toNat VT.ty146 rfl (by simp) rfl (rowV_nil _ _) (vals_fit _ _) (get_argX (by omega))<|Zc<|Zx 0 VT.ty146 rfl rfl rfl rfl rfl<|Zc<|Zk rfl<|Za<|Zi<|Zf1<|Zd1<|Zh1 rfl rfl (.cons (.agg (i := 0) VT.ty146 rfl rfl rfl)<|.cons (.tmp rfl)<|.nil) ?_
  rw [hr]
  exact ⟨_, Dd (Dd (Dk (Dk (Drops.of_perm (arrsS_perm (rho A) hx hl).symm)))), A, tok, ⟨[], (Ya _).symm⟩, hA, rfl, rfl⟩
 rw [if_neg h125] at hr
 have hl5 := hl3 (by omega)
 refine Zi1<|Zi<|Zb<|Zd<|Zc<|Zl rfl<|Zc<|Zl rfl<|Zc<|Zl rfl<|Zc<|Zz (el := valX (rho A) (argAt args 2)) VT.sl139 rfl rfl (by omega) (get_arg (by omega))<|λ a133 => (Zc<|Za2 VT.ty146 rfl rfl<|Zc<|Zr2 VT.sl139 rfl rfl (by omega) (by omega)<|Zc<|Zg3 5 (argAt args 1).n.toNat VT.ty146 rfl (by simp) rfl rfl rfl (rowV_nil _ _) (vals_fit _ _) (by rw [List.length_map]; omega)<|Za<|Zi<|Zb<|Zd<|Zc<|Zx1 [.const (.int .i64 (0))] rfl rfl VT.en105 (wordOf_c (rho A) _)<|Zc<|Zx 0 VT.ty146 rfl rfl rfl rfl rfl<|Zc<|Zk rfl<|Za<|Zi<|Zf1<|Zh1 rfl rfl (.cons (.agg (i := 0) VT.ty146 rfl rfl rfl)<|.cons (.tmp rfl)<|.nil) ?_)
 rw [hsa] at hr
 rw [hr]
 refine ⟨_, Dd (Dd (Dk (Dk ((Dk (Drops.keepE (congrArg (Own.cells x.2 146) (rowV_set (rho A) l (argAt args 1).n.toNat (argAt args 2))) (Zt2 _))).trans (Drops.of_perm (arrsS_set (rho A) hx hl (by simp))))))), A, tok, ⟨[], (Ya _).symm⟩, ?_, rfl, rfl⟩
 simp [hA]
theorem effect_c (gm : Nat) (u : SUnit) (stk : V) (tok : Tok) (M : Mach) (A : List (Nat × Nat)) (nf : Nat) (i : SIns) (args : List Val) (hA : A.length = M.heap.length) (hok : ∀ a ∈ args, okV nf M.heap.length a = true) (hH : ∀ l ∈ M.heap, l.length <= 1024 /\ ∀ v ∈ l, okV nf M.heap.length v = true) (h2 : 0 <= M.left) (h3 : M.left <= 1000000) (ho : M.out.length <= 1000) (hl1 : 1 <= args.length) (hl2 : i.op ≠ 15 /\ i.op ≠ 17 -> 2 <= args.length) (hl3 : i.op = 20 -> 3 <= args.length) (hop : elemJ i.op [15, 16, 17, 18, 19, 20] = true) : VCalls Tryz.prog 110 [.ptr gm 0, insV i, valsX (rho A) args] (mcells gm u stk (outV tok M.out) M :: obuf tok M.out :: arrsS (rho A) A M.heap) λ r S' => ∃ A' tok', (∃ B, A' = A ++ B) /\ A'.length = (effectF i args M).1.heap.length /\ r = .tup [valX (rho A') (effectF i args M).2.1, .int (effectF i args M).2.2] /\ S' = mcells gm u stk (outV tok' (effectF i args M).1.out) (effectF i args M).1 :: obuf tok' (effectF i args M).1.out :: arrsS (rho A') A' (effectF i args M).1.heap := by
  cases h : allocNew (argAt args 0) M with
  | false => exact effect0_c gm u stk tok M A nf i args hA hok hH h2 h3 ho hl1 hl2 hl3 hop λ _ => h
  | true =>
    by_cases h16 : i.op = 16
    . exact effect1_c gm u stk tok M A nf i args hA hok hH h2 h3 ho hl1 hl2 hl3 hop ⟨h16, h⟩
    . exact effect0_c gm u stk tok M A nf i args hA hok hH h2 h3 ho hl1 hl2 hl3 hop λ h => absurd h h16
theorem exec_c (gm : Nat) (u : SUnit) (stk : V) (tok : Tok) (M : Mach) (A : List (Nat × Nat)) (nf : Nat) (i : SIns) (args : List Val) (hA : A.length = M.heap.length) (hok : ∀ a ∈ args, okV nf M.heap.length a = true) (hH : ∀ l ∈ M.heap, l.length <= 1024 /\ ∀ v ∈ l, okV nf M.heap.length v = true) (h2 : 0 <= M.left) (h3 : M.left <= 1000000) (ho : M.out.length <= 1000) (hi : OpOk i args.length) : VCalls Tryz.prog 86 [.ptr gm 0, insV i, valsX (rho A) args] (mcells gm u stk (outV tok M.out) M :: obuf tok M.out :: arrsS (rho A) A M.heap) λ r S' => ∃ A' tok', (∃ B, A' = A ++ B) /\ A'.length = (execF i args M).1.heap.length /\ r = .tup [valX (rho A') (execF i args M).2.1, .int (execF i args M).2.2] /\ S' = mcells gm u stk (outV tok' (execF i args M).1.out) (execF i args M).1 :: obuf tok' (execF i args M).1.out :: arrsS (rho A') A' (execF i args M).1.heap := by
 refine VCalls_drops ?_
 have hr := execF.eq_def i args M
 have hkn := by simpa [elemJ] using hi.known
 have ht := hi.two
 have ho1 := hi.one
 simp only [elemJ, Bool.or_false, Bool.or_eq_true, decide_eq_true_eq] at ht ho1
 have hm := hi.many
 refine V_start (nt := 82) Tryz.func86 rfl rfl rfl ?_
 refine Zb<|Zd<|Zc<|Zc2 rfl rfl<|λ g4 => (Zc<|Zb2 VT.zr146 _ rfl rfl<|λ g6 => (Zc<|Zk rfl<|Za<|Zi<|Zb<|Zb<|Zd<|Zc<|Zj VT.fa42_1 rfl<|Zc<|Zu 1 VT.ty3 rfl rfl rfl<|Za<|Zi<|Zs<|Zb<|Zd<|Zc<|Zj1 rfl rfl rfl<|Zc<|Zk rfl<|Za<|Zi<|Zl1 rfl (λ h10 => ?_)<|λ h10 => ?_))
 .
  rw [if_pos h10] at hr
  refine Zb<|Zd<|Zc<|Zj VT.fa42_2 rfl<|Zc<|Zu 1 VT.ty3 rfl rfl rfl<|Zc<|Zx1 [.tmp 13] rfl rfl VT.en105 (wordOf_c (rho A) _)<|Zc<|Zx 0 VT.ty146 rfl rfl rfl rfl rfl<|Zc<|Zk rfl<|Za<|Zi<|Zf1<|Za1<|Zd1<|Zh1 rfl rfl (.cons (.agg (i := 0) VT.ty146 rfl rfl rfl)<|.cons (.tmp rfl)<|.nil) ?_
  rw [hr]
  exact ⟨_, (Dd (Dd (Dk (Dk (Zt2 _))))), A, tok, ⟨[], (Ya _).symm⟩, hA, rfl, rfl⟩
 rw [if_neg h10] at hr
 refine Zb<|VW_or (q := 15) (x := 9) [(16, 1), (17, 2), (18, 3), (19, 4), (20, 5), (21, 6), (22, 7)] rfl rfl rfl<|Zi<|Zr1 rfl (λ h15 => ?_)<|λ h15 => ?_
 .
  have h15a : elemJ i.op [1, 2, 3, 4, 5, 6, 7] = true := h15
  rw [if_pos h15a] at hr
  have h15y := h15a
  simp only [elemJ, Bool.or_false, Bool.or_eq_true, decide_eq_true_eq] at h15y
  refine Zb<|Zb<|Zd<|Zc<|Zl rfl<|Zc<|Zx1 [.tmp 23, .const (.int .i64 (0))] rfl rfl VT.en106 (all_c (rho A) args _)<|Zc<|Zl2 rfl<|Za<|Zi<|Zo1 rfl (λ h25 => ?_)<|λ h25 => ?_
  .
   rw [if_pos h25] at hr
   refine Zb<|Zd<|Zc<|Zu2 (Zf2 [] [] VT.st146 rfl rfl rfl rfl ⟨rfl, rfl⟩) ((le_val (rho A) 0 0))<|Zc<|Zx 0 VT.ty146 rfl rfl rfl rfl rfl<|Zc<|Zk rfl<|Za<|Zi<|Zf1<|Zd1<|Za1<|Zd1<|Zh1 rfl rfl (.cons (.agg (i := 0) VT.ty146 rfl rfl rfl)<|.cons (.tmp rfl)<|.nil) ?_
   rw [hr]
   exact ⟨_, (Dd (Dd (Dk (Dk (Zt2 _))))), A, tok, ⟨[], (Ya _).symm⟩, hA, rfl, rfl⟩
  rw [if_neg (by rw [h25]; decide)] at hr
  refine Zi1<|Zi<|Zb<|VW_drawR (G := Unit) [([], [4], []), ([0], [27], []), ([], [2], []), ([2], [29], []), ([3, 2], [30], []), ([4, 3, 2], [31], []), ([], [2], []), ([6], [33], []), ([7, 6], [34], []), ([8, 7, 6], [35], []), (dn 10, [28, 32, 36], []), (dn 11, [37], []), (dn 11, [37], []), (dn 13, [6, 38], []), (dn 14, [39], [])] [13] (setSt _ 0<|λ _ => .cells g6 146 (valX (rho A) (binaryF i.op (argAt args 0).n (argAt args 1).n).1).leaves) [7] [7, 27, 28, 29, 30, 31, 32, 33, 34, 35, 36, 37, 38, 39] rfl VT.mix<|Zp (Zm _) (Zo rfl rfl ⟨(λ γ => Zf (λ _ h4 => Ze (Zn rfl (Zj VT.fa42_1 h4 z0)))), trivial⟩)<|Zp (Zm _) (Zo rfl rfl ⟨(λ γ => Zw 0 0 rfl (λ _ h27 => Ze (Zn rfl (Zu 1 VT.ty3 h27 rfl rfl z0)))), trivial⟩)<|Zp (Zm _) (Zo rfl rfl ⟨(λ γ => Zf (λ _ h2 => Ze (Zn rfl (Zl h2 z0)))), trivial⟩)<|Zp (Zb3 _) (Zo rfl rfl ⟨(λ γ => Zw 2 0 rfl (λ _ h29 => Ze (Zn rfl (Zz (el := valX (rho A) (argAt args 0)) VT.sl139 h29 rfl (by omega) (get_arg (by omega)) (λ a30 => ⟨⟨_, rfl⟩, rfl⟩))))), trivial⟩)<|Zp (Zb3 _) (Zo rfl rfl ⟨(λ γ => Zw 3 0 rfl (λ _ h30 => Ze (Zc3 h30 (λ a_30 e30 => Zn rfl (Zw1 VT.fa146_1 e30 rfl ⟨⟨_, rfl⟩, rfl⟩))))), trivial⟩)<|Zp (Zm _) (Zo rfl rfl ⟨(λ γ => Zw 4 0 rfl (λ _ h31 => Ze (Zc3 h31 (λ a_31 e31 => Zn rfl (Zz1 VT.ty3 e31 rfl z0))))), trivial⟩)<|Zp (Zm _) (Zo rfl rfl ⟨(λ γ => Zf (λ _ h2 => Ze (Zn rfl (Zl h2 z0)))), trivial⟩)<|Zp (Zb3 _) (Zo rfl rfl ⟨(λ γ => Zw 6 0 rfl (λ _ h33 => Ze (Zn rfl (Zz (el := valX (rho A) (argAt args 1)) VT.sl139 h33 rfl (by omega) (get_arg (by omega)) (λ a34 => ⟨⟨_, rfl⟩, rfl⟩))))), trivial⟩)<|Zp (Zb3 _) (Zo rfl rfl ⟨(λ γ => Zw 7 0 rfl (λ _ h34 => Ze (Zc3 h34 (λ a_34 e34 => Zn rfl (Zw1 VT.fa146_1 e34 rfl ⟨⟨_, rfl⟩, rfl⟩))))), trivial⟩)<|Zp (Zm _) (Zo rfl rfl ⟨(λ γ => Zw 8 0 rfl (λ _ h35 => Ze (Zc3 h35 (λ a_35 e35 => Zn rfl (Zz1 VT.ty3 e35 rfl z0))))), trivial⟩)<|Zp (Zm _) (Zo rfl rfl ⟨(λ γ => Zw 1 8 rfl (λ _ h28 => Zw 5 4 rfl (λ _ h32 => Zw 9 0 rfl (λ _ h36 => Ze (Zn rfl (Zx1 [.tmp 28, .tmp 32, .tmp 36] rfl (Zp2 h28 (Zp2 h32 (Zp2 h36 Zq2))) VT.en107 (binary_c (rho A) i.op (argAt args 0).n (argAt args 1).n) z0)))))), trivial⟩)<|Zp (Zm _) (Zo rfl rfl ⟨(λ γ => Zw 10 0 rfl (λ _ h37 => Ze (Zn rfl (Zg2 h37 rfl z0)))), trivial⟩)<|Zp (Zm _) (Zo rfl rfl ⟨(λ γ => Zw 10 1 rfl (λ _ h37 => Ze (Zn rfl (Zg2 h37 rfl z0)))), trivial⟩)<|Zp Za3 (Zn2 rfl<|λ γ => Zf<|λ _ h6 => Zw 11 1 rfl<|λ _ h38 => Ze<|Zn rfl<|Zx 0 VT.ty146 h6 h38 rfl rfl rfl ⟨default, trivial, rfl⟩)<|Zp (Zm _) (Zo rfl rfl ⟨(λ γ => Zw 12 1 rfl (λ _ h39 => Ze (Zn rfl (Zk h39 z0)))), trivial⟩)<|DrawP_nil<|λ γ => Zw 14 0 rfl<|λ r7 h7 => Ze ?_
  have e7 : r7 = some _ := h7
  subst e7
  clear h7
  refine Zi<|Zf1<|Za1<|Zd1<|Zh1 rfl rfl (.cons (.agg (i := 0) VT.ty146 rfl rfl rfl)<|.cons (.tmp rfl)<|.nil) ?_
  rw [hr]
  exact ⟨_, (Dd (Dd (Dk (Dk (Zt2 _))))), A, tok, ⟨[], (Ya _).symm⟩, hA, rfl, rfl⟩
 have h15a : elemJ i.op [1, 2, 3, 4, 5, 6, 7] = false := h15
 rw [if_neg (by rw [h15a]; exact Bool.false_ne_true)] at hr
 simp only [elemJ, Bool.or_false, Bool.or_eq_false_iff, decide_eq_false_iff_not] at h15a
 refine Zb<|Zd<|Zc<|Zj1 rfl rfl rfl<|Zc<|Zk rfl<|Za<|Zi<|Zl1 rfl (λ h40 => ?_)<|λ h40 => ?_
 .
  rw [if_pos h40] at hr
  refine Zb<|Zd<|Zc<|Zj VT.fa42_2 rfl<|Zc<|Zu 1 VT.ty3 rfl rfl rfl<|Zc<|Zl rfl<|Zc<|Zf2 [0, 1, 2] [.const (.int .i64 (1)), .tmp 43, .tmp 44] VT.st146 rfl rfl rfl rfl<|Zc<|Zx 0 VT.ty146 rfl rfl rfl rfl rfl<|Zc<|Zk rfl<|Za<|Zi<|Zf1<|Za1<|Zd1<|Zh1 rfl rfl (.cons (.agg (i := 0) VT.ty146 rfl rfl rfl)<|.cons (.tmp rfl)<|.nil) ?_
  rw [hr]
  exact ⟨_, (Dd (Dd (Dk (Dk (Zt2 _))))), A, tok, ⟨[], (Ya _).symm⟩, hA, rfl, rfl⟩
 rw [if_neg h40] at hr
 refine Zb<|Zd<|Zc<|Zj1 rfl rfl rfl<|Zc<|Zk rfl<|Za<|Zi<|Zl1 rfl (λ h46 => ?_)<|λ h46 => ?_
 .
  rw [if_pos h46] at hr
  refine Zb<|Zd<|Zc<|Zj VT.fa42_2 rfl<|Zc<|Zu 1 VT.ty3 rfl rfl rfl<|Zc<|Zl rfl<|Zc<|Zf2 [0, 1, 2] [.const (.int .i64 (2)), .tmp 49, .tmp 50] VT.st146 rfl rfl rfl rfl<|Zc<|Zx 0 VT.ty146 rfl rfl rfl rfl rfl<|Zc<|Zk rfl<|Za<|Zi<|Zf1<|Za1<|Zd1<|Zh1 rfl rfl (.cons (.agg (i := 0) VT.ty146 rfl rfl rfl)<|.cons (.tmp rfl)<|.nil) ?_
  rw [hr]
  exact ⟨_, (Dd (Dd (Dk (Dk (Zt2 _))))), A, tok, ⟨[], (Ya _).symm⟩, hA, rfl, rfl⟩
 rw [if_neg h46] at hr
 refine Zb<|VW_or (q := 52) (x := 9) [(53, 10), (54, 11), (55, 12), (56, 21)] rfl rfl rfl<|Zi<|Zr1 rfl (λ h52 => ?_)<|λ h52 => ?_
 .
  have h52a : elemJ i.op [10, 11, 12, 21] = true := h52
  rw [if_pos h52a] at hr
  have h52y := h52a
  simp only [elemJ, Bool.or_false, Bool.or_eq_true, decide_eq_true_eq] at h52y
  refine Zb<|Zd<|Zc<|Zv 1 VT.ty42 rfl rfl rfl<|Zc<|Zl rfl<|Zc<|Zx1 [.tmp 57, .tmp 58] rfl rfl VT.en108 (object_c (rho A) i args (by omega) h52a (λ h => by omega)<|λ h => hi.num<|.inl h)<|Zc<|Zg2 rfl rfl<|Zc<|Zg2 rfl rfl<|Zc<|Zx 0 VT.ty146 rfl rfl rfl rfl rfl<|Zc<|Zk rfl<|Za<|Zi<|Zf1<|Za1<|Zd1<|Zh1 rfl rfl (.cons (.agg (i := 0) VT.ty146 rfl rfl rfl)<|.cons (.tmp rfl)<|.nil) ?_
  rw [hr]
  exact ⟨_, (Dd (Dd (Dk (Dk (Zt2 _))))), A, tok, ⟨[], (Ya _).symm⟩, hA, rfl, rfl⟩
 have h52a : elemJ i.op [10, 11, 12, 21] = false := h52
 rw [if_neg (by rw [h52a]; exact Bool.false_ne_true)] at hr
 simp only [elemJ, Bool.or_false, Bool.or_eq_false_iff, decide_eq_false_iff_not] at h52a
 refine Zb<|VW_or (q := 62) (x := 9) [(63, 22), (64, 23), (65, 24)] rfl rfl rfl<|Zi<|Zr1 rfl (λ h62 => ?_)<|λ h62 => ?_
 .
  have h62a : elemJ i.op [22, 23, 24] = true := h62
  rw [if_pos h62a] at hr
  have h62y := h62a
  simp only [elemJ, Bool.or_false, Bool.or_eq_true, decide_eq_true_eq] at h62y
  refine Zb<|Zd<|Zc<|Zv 1 VT.ty42 rfl rfl rfl<|Zc<|Zl rfl<|Zc<|Zx1 [.tmp 66, .tmp 67] rfl rfl VT.en109 (vector_c (rho A) i args h62a (λ h => ⟨by omega, hi.num (.inr h)⟩) (λ h => by omega) hm<|λ v hv => (okV_iff.1<|hok v hv).2.2.1)<|Zc<|Zg2 rfl rfl<|Zc<|Zg2 rfl rfl<|Zc<|Zx 0 VT.ty146 rfl rfl rfl rfl rfl<|Zc<|Zk rfl<|Za<|Zi<|Zf1<|Za1<|Zd1<|Zh1 rfl rfl (.cons (.agg (i := 0) VT.ty146 rfl rfl rfl)<|.cons (.tmp rfl)<|.nil) ?_
  rw [hr]
  exact ⟨_, (Dd (Dd (Dk (Dk (Zt2 _))))), A, tok, ⟨[], (Ya _).symm⟩, hA, rfl, rfl⟩
 have h62a : elemJ i.op [22, 23, 24] = false := h62
 rw [if_neg (by rw [h62a]; exact Bool.false_ne_true)] at hr
 simp only [elemJ, Bool.or_false, Bool.or_eq_false_iff, decide_eq_false_iff_not] at h62a
 refine Zb<|Zd<|Zc<|Zj1 rfl rfl rfl<|Zc<|Zk rfl<|Za<|Zi<|Zl1 rfl (λ h71 => ?_)<|λ h71 => ?_
 .
  rw [if_pos h71] at hr
  refine Zb<|Zd<|Zc<|Zl rfl<|Zc<|Zz (el := valX (rho A) (argAt args 0)) VT.sl139 rfl rfl (by omega) (get_arg (by omega))<|λ a74 => (Zc<|Za2 VT.ty146 rfl rfl<|Zc<|Zx 0 VT.ty146 rfl rfl rfl rfl rfl<|Zc<|Zk rfl<|Za<|Zi<|Zf1<|Za1<|Zd1<|Zh1 rfl rfl (.cons (.agg (i := 0) VT.ty146 rfl rfl rfl)<|.cons (.tmp rfl)<|.nil) ?_)
  rw [hr]
  exact ⟨_, (Dd (Dd (Dk (Dk (Zt2 _))))), A, tok, ⟨[], (Ya _).symm⟩, hA, rfl, rfl⟩
 rw [if_neg h71] at hr
 refine Zi1<|Zb1<|Zi<|Zb<|Zd<|Zc<|Zl rfl<|Zc<|Zv 1 VT.ty42 rfl rfl rfl<|Zc<|Zl rfl<|Zc<|V_callB [.tmp 76, .tmp 77, .tmp 78] [_, _] _ rfl rfl VT.en110 (.refl _) ((effect_c gm u stk tok M A nf i args hA hok hH h2 h3 ho (by have := hi.three; omega) (λ h => by have := hi.three; omega) (λ h => by have := hi.three h; omega) (by simp only [elemJ, Bool.or_false, Bool.or_eq_true, decide_eq_true_eq]; omega))) ?_
 rintro r Sa ⟨A1, tok1, ⟨B1, rfl⟩, hA1, rfl, rfl⟩
 refine Zc<|Zg2 rfl rfl<|Zc<|Zg2 rfl rfl<|Zc<|Zx 0 VT.ty146 rfl rfl rfl rfl rfl<|Zc<|Zk rfl<|Za<|Zi<|Zf1<|Zh1 rfl rfl (.cons (.agg (i := 0) VT.ty146 rfl rfl rfl)<|.cons (.tmp rfl)<|.nil) ?_
 rw [hr]
 exact ⟨_, (Dd (Dd (Dk (Dk (Zt2 _))))), A ++ B1, tok1, ⟨B1, rfl⟩, hA1, rfl, rfl⟩
end Go.Proofs.YthlflmmnankhhaaGreat.X7
