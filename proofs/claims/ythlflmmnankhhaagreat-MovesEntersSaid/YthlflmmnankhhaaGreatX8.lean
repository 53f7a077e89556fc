import Derived.Test.YthlflmmnankhhaaGreatX7
set_option maxRecDepth 100000
set_option maxHeartbeats 32000000
open Go.VL.Drops renaming keep → Dk, drop → Dd
set_option linter.all false
open List renaming mem_of_getElem? → Ya, length → Yb, append_assoc → Yc, getElem?_append_right → Yd, take_append_of_le_length → Ye
namespace Go.Proofs.YthlflmmnankhhaaGreat.X8
open Go.VL Go.SM Go.Proofs.YthlflmmnankhhaaGreat X1 X2 X3 X4 X5 X6 X7
def framesS (ρ : Nat -> Nat) : List (Nat × Nat) -> List MFrame -> Store
  | p :: G, f :: fs => fcell p.1 p.2 f :: fmap ρ p.2 f.vals :: framesS ρ G fs
  | _, _ => []
def ptrsV (G : List (Nat × Nat)) : List V := (G.map λ p => V.ptr p.1 0).reverse
theorem ptrsV_cons (p : Nat × Nat) (G : List (Nat × Nat)) : ptrsV (p :: G) = ptrsV G ++ [V.ptr p.1 0] := by simp [ptrsV]
theorem ptrsV_len (G : List (Nat × Nat)) : (ptrsV G).length = G.length := by simp [ptrsV]
def EndPost (gm : Nat) (u : SUnit) (gs cap : Nat) (ov : V) (ρ : Nat -> Nat) (p : Nat × Nat) (G : List (Nat × Nat)) (ls : List V) (M1 : Mach) : V -> Store -> Prop := λ r S' => ∃ G1, (G1 = p :: G \/ G1 = G) /\ G1.length = M1.stack.length /\ S' = mcells gm u (stkV gs M1.stack.length cap) ov M1 :: srow gs ls :: framesS ρ G1 M1.stack
theorem perm_end {b m o r f v : Own} {X Y : Store} : (b :: m :: o :: r :: f :: v :: (X ++ Y)).Perm ((m :: r :: f :: v :: X) ++ (b :: o :: Y)) := by
  have h1 : (X ++ b :: o :: Y).Perm (b :: o :: (X ++ Y)) := List.perm_middle.trans (List.perm_middle.cons _)
  refine List.Perm.trans ?_<|(((h1.symm.cons v).cons f).cons r).cons m
  exact (perm_erase (i := 1) rfl).trans (.cons _ ((perm_erase (i := 2) rfl).trans (.cons _ ((perm_erase (i := 2) rfl).trans (.cons _ ((perm_erase (i := 2) rfl).trans (.cons _ (.refl _))))))))
theorem drop_end {b m o r : Own} {X Y : Store} : Drops ((m :: r :: X) ++ (b :: o :: Y)) (m :: o :: r :: (X ++ Y)) := by
  have h1 : (X ++ b :: o :: Y).Perm (b :: o :: (X ++ Y)) := List.perm_middle.trans (List.perm_middle.cons _)
  refine ⟨[b], ((h1.cons r).cons m).trans ?_⟩
  exact (perm_erase (i := 2) rfl).trans (.cons _ ((perm_erase (i := 0) rfl).trans (.cons _ ((perm_erase (i := 1) rfl).trans (.cons _ ((perm_erase (i := 0) rfl).trans (.cons _ (.refl _))))))))
theorem perm_exec {a b m o r f v : Own} {X Y : Store} : (a :: b :: m :: o :: r :: f :: v :: (X ++ Y)).Perm ((m :: o :: Y) ++ (a :: b :: r :: f :: v :: X)) := by
  have h1 : (a :: b :: r :: f :: v :: (X ++ Y)).Perm (Y ++ (a :: b :: r :: f :: v :: X)) := List.perm_append_comm (l₁ := a :: b :: r :: f :: v :: X) (l₂ := Y)
  refine List.Perm.trans ?_<|(h1.cons o).cons m
  exact (perm_erase (i := 2) rfl).trans (.cons _ ((perm_erase (i := 2) rfl).trans (.cons _ (.refl _))))
theorem drop_exec {a b m o r f v : Own} {X Y : Store} : Drops ((m :: o :: Y) ++ (a :: b :: r :: f :: v :: X)) (m :: o :: a :: b :: r :: f :: v :: (X ++ Y)) :=
  Drops.of_perm ((((List.perm_append_comm (l₁ := Y) (l₂ := a :: b :: r :: f :: v :: X))).cons o).cons m)
theorem framesS_ext {nf nh : Nat} {ρ ρ' : Nat -> Nat} (h : ∀ k, k < nh -> ρ k = ρ' k) : ∀ (G : List (Nat × Nat)) {fs : List MFrame}, (∀ f ∈ fs, ∀ e ∈ f.vals, okV nf nh e.2 = true) -> framesS ρ G fs = framesS ρ' G fs
  | p :: G, f :: fs, hv => by
    rw [framesS, framesS, framesS_ext h G λ g hg => hv g (List.mem_cons_of_mem _ hg)]
    unfold fmap
    rw [encV_ext h (hv f (List.mem_cons_self ..))]
  | [], _, _ => by simp [framesS]
  | _ :: _, [], _ => rfl
theorem termF_keeps (u : SUnit) (f : MFrame) (t : STerm) (fs : List MFrame) (M : Mach) : (termF u f t fs M).out = M.out /\ (termF u f t fs M).heap = M.heap /\ (termF u f t fs M).left = M.left := by
  unfold termF
  split
  . exact ⟨rfl, rfl, rfl⟩
  . split
    . exact ⟨rfl, rfl, rfl⟩
    . split
      . unfold leaveF
        cases fs <;> exact ⟨rfl, rfl, rfl⟩
      . split <;> exact ⟨rfl, rfl, rfl⟩
def MS (gm : Nat) (u : SUnit) (gs cap : Nat) (rest : List V) (tok : Tok) (G A : List (Nat × Nat)) (M : Mach) : Store := mcells gm u (stkV gs M.stack.length cap) (outV tok M.out) M :: obuf tok M.out :: srow gs (ptrsV G ++ rest) :: (framesS (rho A) G M.stack ++ arrsS (rho A) A M.heap)
def MSt (gm : Nat) (u : SUnit) (M : Mach) (S : Store) : Prop := ∃ gs cap rest tok G A, G.length = M.stack.length /\ A.length = M.heap.length /\ (ptrsV G ++ rest).length = cap /\ cap <= maxLen /\ S = MS gm u gs cap rest tok G A M
theorem end0_c (gm gf gv gs cap : Nat) (u : SUnit) (ov : V) (M : Mach) (ρ : Nat -> Nat) (f : MFrame) (t : STerm) (ls : List V) (hst : M.stack = f :: []) (hnc : 1 <= cap) (hcm : cap <= maxLen) (h0 : 0 <= f.fn) {fn : SFunc} (hf : u.fns[f.fn.toNat]? = some fn) (ht : TermOk fn t) : VCalls Tryz.prog 83 [.ptr gm 0, .ptr gf 0, termV t] (mcells gm u (stkV gs 1 cap) ov M :: srow gs ls :: fcell gf gv f :: fmap ρ gv f.vals :: []) (EndPost gm u gs cap ov ρ (gf, gv) [] ls (termF u f t [] M)) := by
 refine VCalls_drops ?_
 have hr := termF.eq_def u f t [] M
 refine V_start (nt := 53) Tryz.func83 rfl rfl rfl ?_
 refine Zb<|Zd<|Zc<|Zc2 rfl rfl<|λ g5 => (Za<|Zi<|Zb<|VW_drawR (G := Nat) [([], [1], []), ([0], [7], []), ([1, 0], [8], []), ([2, 1, 0], [9], []), ([], [5], []), ([4], [11], []), (dn 6, [10, 12], []), ([], [], [0]), (dn 8, [6, 13], [])] [7, 8] (twoSt _ (λ g6 => .cells g6 146 VT.zs146 :: .cells g5 38 [.int t.kind, .int t.arg, .int t.n, intsX t.cases, edgesX t.to] :: mcells gm u (stkV gs 1 cap) ov M :: srow gs ls :: fcell gf gv f :: fmap ρ gv f.vals :: []) (λ g6 _ => .cells g6 146 (valX ρ<|vget f.vals t.arg).leaves :: .cells g5 38 [.int t.kind, .int t.arg, .int t.n, intsX t.cases, edgesX t.to] :: mcells gm u (stkV gs 1 cap) ov M :: srow gs ls :: fcell gf gv f :: fmap ρ gv f.vals :: [])) [6] [6, 7, 8, 9, 10, 11, 12, 13] rfl VT.mix<|Zp (Zm _) (Zm2 rfl<|λ _ => (λ γ => Zf<|λ _ h1 => Ze<|Zn rfl<|Zl h1 z0))<|Zp (Zm _) (Zm2 rfl<|λ _ => (λ γ => Zw 0 0 rfl<|λ _ h7 => Ze<|Zn rfl<|Zv1 h7 z0))<|Zp (Zm _) (Zm2 rfl<|λ _ => (λ γ => Zw 1 0 rfl<|λ _ h8 => Ze<|Zn rfl<|Zj VT.fa143_4 h8 z0))<|Zp (Zm _) (Zo rfl rfl ⟨(λ γ => Zw 2 0 rfl (λ _ h9 => Ze (Zn rfl (Zu 3 VT.ty141 h9 rfl rfl z0)))), (λ γ => Zw 2 0 rfl (λ _ h9 => Ze (Zn rfl (Zu 4 VT.ty141 h9 rfl rfl z0)))), trivial⟩)<|Zp (Zm _) (Zm2 rfl<|λ _ => (λ γ => Zf<|λ _ h5 => Ze<|Zn rfl<|Zj VT.fa38_1 h5 z0))<|Zp (Zm _) (Zo rfl rfl ⟨(λ γ => Zw 4 0 rfl (λ _ h11 => Ze (Zn rfl (Zu 0 VT.ty3 h11 rfl rfl z0)))), (λ γ => Zw 4 0 rfl (λ _ h11 => Ze (Zn rfl (Zu 1 VT.ty3 h11 rfl rfl z0)))), trivial⟩)<|Zp (Zm _) (Zo rfl rfl ⟨(λ γ => Zw 3 2 rfl (λ _ h10 => Zw 5 0 rfl (λ _ h12 => Ze (Zn rfl (Zu2 (V_lookupD 4 (.agg VT.zs146) (λ m => ⟨rfl, _, rfl, by simp [Go.VL.RepL, VT.zs146, Rep]⟩) Tryz.underlying141 (key_int Tryz.underlying3) VT.zr146 h10 h12 rfl z0) ((kget_encV ρ t.arg f.vals)) z0))))), (λ γ => Zw 3 2 rfl (λ _ h10 => Zw 5 0 rfl (λ _ h12 => Ze (Zn rfl (Zu2 (V_lookupD 5 (.agg VT.zs146) (λ m => ⟨rfl, _, rfl, by simp [Go.VL.RepL, VT.zs146, Rep]⟩) Tryz.underlying141 (key_int Tryz.underlying3) VT.zr146 h10 h12 rfl z0) ((kget_encV ρ t.arg f.vals)) z0))))), trivial⟩)<|Zp (Zw2<|λ g6 => .ptr g6 0) (Zo2 0 rfl<|λ γ => Ze<|Zn rfl<|Zb2 VT.zr146 _ rfl rfl<|λ g6 => ⟨g6, ⟨g6, rfl, rfl⟩, rfl⟩)<|Zp Za3 (Zo2 1 rfl<|λ γ => Zw 7 0 rfl<|λ _ h6 => Zw 6 1 rfl<|λ _ h13 => Ze<|Zx2 h6<|λ e6 => Zn rfl<|Zx 0 VT.ty146 e6 h13 rfl rfl rfl ⟨default, trivial, rfl⟩)<|DrawP_nil<|λ γ => Zw 7 1 rfl<|λ r6 h6 => Ze ?_)
 have e6 : r6 = some _ := Zd3 h6
 subst e6
 clear h6
 refine Zi<|Zb<|Zd<|Zc<|Zj VT.fa38_0 rfl<|Zc<|Zu 1 VT.ty3 rfl rfl rfl<|Za<|Zi<|Zs<|Zb<|Zd<|Zc<|Zj1 rfl rfl rfl<|Zc<|Zk rfl<|Za<|Zi<|Zl1 rfl (λ h32 => ?_)<|λ h32 => ?_
 .
  rw [if_pos h32] at hr
  refine Zd<|Zc<|Zl rfl<|Zc<|Zj VT.fa38_2 rfl<|Zc<|Zu 1 VT.ty3 rfl rfl rfl<|Zc<|Zm3 [.tmp 34, .tmp 36, .const (.int .i64 (0))] [_] _ rfl rfl VT.en85 (Zv2 (i := 2) rfl) (stop_c gm u (stkV gs 1 cap) ov M t.n 0) ?_
  rintro r Sa rfl
  refine Za<|Zb1<|Zn3 rfl ?_
  have hst2 : (stopF t.n 0 M).stack = f :: [] := hst
  rw [hr]
  refine ⟨_, (Dk (Dd (Dd (Dk (Dk (Dk (Zt2 _))))))), (gf, gv) :: [], .inl rfl, ?_, ?_⟩
  . rw [hst2]; simp
  . rw [hst2]; rfl
 rw [if_neg h32] at hr
 refine Zb<|Zd<|Zc<|Zj1 rfl rfl rfl<|Zc<|Zk rfl<|Za<|Zi<|Zl1 rfl (λ h38 => ?_)<|λ h38 => ?_
 .
  rw [if_pos h38] at hr
  have h1 := ht.one h38
  obtain ⟨e, he⟩ := get_of_lt t.to 0 (by omega)
  have hme := Ya he
  obtain ⟨he0, ⟨b, hb, hbl⟩, he2⟩ := ht.edges e hme
  have hee : edgeAt t 0 = e := by rw [edgeAt, he]; rfl
  rw [hee] at hr
  refine Zd<|Zc<|Zl rfl<|Zc<|Zl rfl<|Zc<|Zj VT.fa38_4 rfl<|Zc<|Zu 1 VT.ty36 rfl rfl rfl<|Zc<|Zz (el := edgeV e) VT.sl36 rfl rfl (by omega) (get_mapS _ he)<|λ a44 => (Zc<|Za2 VT.ty64 rfl rfl<|Zc<|Zm3 [.tmp 40, .tmp 41, .tmp 45] _ _ rfl rfl VT.en102 ((Zv2 (i := 2) rfl).trans<|.cons _<|(Zv2 (i := 3) rfl).trans<|.cons _<|(Zv2 (i := 3) rfl).trans<|.cons _<|.refl _) (follow_c gm gf gv u (stkV gs 1 cap) ov M ρ f e h0 he0 hf hb hbl he2) ?_)
  rintro r Sa rfl
  refine Za<|Zb1<|Zn3 rfl ?_
  rw [hr]
  refine ⟨_, (Drops.pick 0 rfl rfl (Drops.pick 4 rfl rfl (Drops.pick 0 rfl rfl (Drops.pick 0 rfl rfl (Drops.nil _))))), (gf, gv) :: [], .inl rfl, ?_, ?_⟩
  . show _ = Yb (followF u f e :: []); simp
  . show _ = mcells gm u (stkV gs (Yb (followF u f e :: [])) cap) ov _ :: srow gs ls :: framesS ρ _ (followF u f e :: []); rfl
 rw [if_neg h38] at hr
 refine Zb<|Zd<|Zc<|Zj1 rfl rfl rfl<|Zc<|Zk rfl<|Za<|Zi<|Zl1 rfl (λ h47 => ?_)<|λ h47 => ?_
 .
  rw [if_pos h47] at hr
  refine Zd<|Zc<|Zl rfl<|Zc<|Zl rfl<|Zc<|Zv 0 VT.ty146 rfl rfl rfl<|Zc<|Zm3 [.tmp 49, .tmp 50, .tmp 51] _ _ rfl rfl VT.en103 ((Zv2 (i := 2) rfl).trans<|.cons _<|(Zv2 (i := 2) rfl).trans<|.cons _<|(Zv2 (i := 2) rfl).trans<|.cons _<|(Zv2 (i := 2) rfl).trans<|.cons _<|.refl _) (leave0_c gm gf gv gs 1 cap u ov M ρ f (vget f.vals t.arg) ls hnc hcm rfl) ?_
  rintro r Sa rfl
  refine Za<|Zb1<|Zn3 rfl ?_
  rw [hr]
  refine ⟨_, (Dk (Dk (Dd (Dd (Zt2 _))))), [], .inr rfl, rfl, rfl⟩
 rw [if_neg h47] at hr
 refine Zb<|Zb<|Zd<|Zc<|Zj VT.fa146_0 rfl<|Zc<|Zu 0 VT.ty3 rfl rfl rfl<|Zc<|Zj1 rfl rfl rfl<|Za<|Zi<|Zm1 rfl (λ h18 => ?_)<|λ h18 => ?_
 .
  rw [if_pos h18] at hr
  refine Zb<|Zd<|Zc<|Zl rfl<|Zc<|Zm3 [.tmp 19, .const (.int .i64 (5)), .const (.int .i64 (0))] [_] _ rfl rfl VT.en85 (Zv2 (i := 2) rfl) (stop_c gm u (stkV gs 1 cap) ov M 5 0) ?_
  rintro r Sa rfl
  refine Za<|Zi<|Zf1<|Zd1<|Za1<|Zh1 rfl rfl (.nil) ?_
  have hst2 : (stopF 5 0 M).stack = f :: [] := hst
  rw [hr]
  refine ⟨_, (Dk (Dd (Dd (Dk (Dk (Dk (Zt2 _))))))), (gf, gv) :: [], .inl rfl, ?_, ?_⟩
  . rw [hst2]; simp
  . rw [hst2]; rfl
 rw [if_neg (by omega)] at hr
 obtain ⟨hc0, hc1⟩ := choice_lt ht (vget f.vals t.arg).n h47 h38 h32
 obtain ⟨e, he⟩ := get_of_lt t.to (choiceF t (vget f.vals t.arg).n).toNat (by omega)
 have hme := Ya he
 obtain ⟨he0, ⟨b, hb, hbl⟩, he2⟩ := ht.edges e hme
 have hee : edgeAt t (choiceF t (vget f.vals t.arg).n).toNat = e := by rw [edgeAt, he]; rfl
 rw [hee] at hr
 refine Zi1<|Zi<|VW_drawR (G := Unit) [([], [0], []), ([], [1], []), ([], [5], []), ([2], [23], []), ([], [5], []), ([], [6], []), ([5], [26], []), ([6, 5, 4], [25, 27], []), ([7, 6, 5, 4, 3, 2], [24, 28], []), ([8, 7, 6, 5, 4, 3, 2], [29], []), (dn 10, [21, 22, 30], [])] [10] (oneSt _ (λ _ => mcells gm u (stkV gs 1 cap) ov M :: fcell gf gv (followF u f e) :: fmap ρ gv (followF u f e).vals :: .cells (γ 0) 146 (valX ρ<|vget f.vals t.arg).leaves :: .cells g5 38 [.int t.kind, .int t.arg, .int t.n, intsX t.cases, edgesX t.to] :: srow gs ls :: [])) [] [21, 22, 23, 24, 25, 26, 27, 28, 29, 30, 31] rfl VT.mix<|Zp (Zm _) (Zo rfl rfl ⟨(λ γ => Zf (λ _ h0 => Ze (Zn rfl (Zl h0 z0)))), trivial⟩)<|Zp (Zm _) (Zo rfl rfl ⟨(λ γ => Zf (λ _ h1 => Ze (Zn rfl (Zl h1 z0)))), trivial⟩)<|Zp (Zm _) (Zo rfl rfl ⟨(λ γ => Zf (λ _ h5 => Ze (Zn rfl (Zj VT.fa38_4 h5 z0)))), trivial⟩)<|Zp (Zm _) (Zo rfl rfl ⟨(λ γ => Zw 2 0 rfl (λ _ h23 => Ze (Zn rfl (Zu 1 VT.ty36 h23 rfl rfl z0)))), trivial⟩)<|Zp (Zm _) (Zo rfl rfl ⟨(λ γ => Zf (λ _ h5 => Ze (Zn rfl (Zv 1 VT.ty38 h5 rfl rfl z0)))), trivial⟩)<|Zp (Zm _) (Zo rfl rfl ⟨(λ γ => Zf (λ _ h6 => Ze (Zn rfl (Zj VT.fa146_1 h6 z0)))), trivial⟩)<|Zp (Zm _) (Zo rfl rfl ⟨(λ γ => Zw 5 0 rfl (λ _ h26 => Ze (Zn rfl (Zu 0 VT.ty3 h26 rfl rfl z0)))), trivial⟩)<|Zp (Zm _) (Zo rfl rfl ⟨(λ γ => Zw 4 2 rfl (λ _ h25 => Zw 6 0 rfl (λ _ h27 => Ze (Zn rfl (Zx1 [.tmp 25, .tmp 27] rfl (Zp2 h25 (Zp2 h27 Zq2)) VT.en104 (choice_c t (vget f.vals t.arg).n) z0))))), trivial⟩)<|Zp (Zb3 _) (Zo rfl rfl ⟨(λ γ => Zw 3 4 rfl (λ _ h24 => Zw 7 0 rfl (λ _ h28 => Ze (Zn rfl (Zz (el := edgeV e) VT.sl36 h24 h28 (by omega) (get_mapS _ he) (λ a29 => ⟨⟨_, rfl⟩, rfl⟩)))))), trivial⟩)<|Zp (Zm _) (Zo rfl rfl ⟨(λ γ => Zw 8 0 rfl (λ _ h29 => Ze (Zc3 h29 (λ a_29 e29 => Zn rfl (Za2 VT.ty64 e29 rfl z0))))), trivial⟩)<|Zp Za3 (Zn2 rfl<|λ γ => Zw 0 9 rfl<|λ _ h21 => Zw 1 8 rfl<|λ _ h22 => Zw 9 0 rfl<|λ _ h30 => Ze<|Zn rfl<|Zm3 [.tmp 21, .tmp 22, .tmp 30] _ _ rfl (Zp2 h21<|Zp2 h22<|Zp2 h30 Zq2) VT.en102 ((Zv2 (i := 2) rfl).trans<|.cons _<|(Zv2 (i := 3) rfl).trans<|.cons _<|(Zv2 (i := 3) rfl).trans<|.cons _<|.refl _) (follow_c gm gf gv u (stkV gs 1 cap) ov M ρ f e h0 he0 hf hb hbl he2) (λ r Sa h => by subst h; exact ⟨(), trivial, rfl⟩))<|DrawP_nil<|λ γ => Ze<|Zb1<|Zn3 rfl ?_
 rw [hr]
 refine ⟨_, (Drops.pick 0 rfl rfl (Drops.pick 4 rfl rfl (Drops.pick 0 rfl rfl (Drops.pick 0 rfl rfl (Drops.nil _))))), (gf, gv) :: [], .inl rfl, ?_, ?_⟩
 . show _ = Yb (followF u f e :: []); simp
 . show _ = mcells gm u (stkV gs (Yb (followF u f e :: [])) cap) ov _ :: srow gs ls :: framesS ρ _ (followF u f e :: []); rfl
theorem end1_c (gm gf gv gs cap : Nat) (gg ggv : Nat) (g : MFrame) (fs : List MFrame) (G : List (Nat × Nat)) (hGl : G.length = fs.length) (u : SUnit) (ov : V) (M : Mach) (ρ : Nat -> Nat) (f : MFrame) (t : STerm) (ls : List V) (hst : M.stack = f :: (g :: fs)) (hg : ls[fs.length]? = some (.ptr gg 0)) (hnc : (fs.length + 2) <= cap) (hcm : cap <= maxLen) (h0 : 0 <= f.fn) {fn : SFunc} (hf : u.fns[f.fn.toNat]? = some fn) (ht : TermOk fn t) : VCalls Tryz.prog 83 [.ptr gm 0, .ptr gf 0, termV t] (mcells gm u (stkV gs (fs.length + 2) cap) ov M :: srow gs ls :: fcell gf gv f :: fmap ρ gv f.vals :: fcell gg ggv g :: fmap ρ ggv g.vals :: framesS ρ G fs) (EndPost gm u gs cap ov ρ (gf, gv) ((gg, ggv) :: G) ls (termF u f t (g :: fs) M)) := by
 refine VCalls_drops ?_
 have hr := termF.eq_def u f t (g :: fs) M
 refine V_start (nt := 53) Tryz.func83 rfl rfl rfl ?_
 refine Zb<|Zd<|Zc<|Zc2 rfl rfl<|λ g5 => (Za<|Zi<|Zb<|VW_drawR (G := Nat) [([], [1], []), ([0], [7], []), ([1, 0], [8], []), ([2, 1, 0], [9], []), ([], [5], []), ([4], [11], []), (dn 6, [10, 12], []), ([], [], [0]), (dn 8, [6, 13], [])] [7, 8] (twoSt _ (λ g6 => .cells g6 146 VT.zs146 :: .cells g5 38 [.int t.kind, .int t.arg, .int t.n, intsX t.cases, edgesX t.to] :: mcells gm u (stkV gs (fs.length + 2) cap) ov M :: srow gs ls :: fcell gf gv f :: fmap ρ gv f.vals :: fcell gg ggv g :: fmap ρ ggv g.vals :: framesS ρ G fs) (λ g6 _ => .cells g6 146 (valX ρ<|vget f.vals t.arg).leaves :: .cells g5 38 [.int t.kind, .int t.arg, .int t.n, intsX t.cases, edgesX t.to] :: mcells gm u (stkV gs (fs.length + 2) cap) ov M :: srow gs ls :: fcell gf gv f :: fmap ρ gv f.vals :: fcell gg ggv g :: fmap ρ ggv g.vals :: framesS ρ G fs)) [6] [6, 7, 8, 9, 10, 11, 12, 13] rfl VT.mix<|Zp (Zm _) (Zm2 rfl<|λ _ => (λ γ => Zf<|λ _ h1 => Ze<|Zn rfl<|Zl h1 z0))<|Zp (Zm _) (Zm2 rfl<|λ _ => (λ γ => Zw 0 0 rfl<|λ _ h7 => Ze<|Zn rfl<|Zv1 h7 z0))<|Zp (Zm _) (Zm2 rfl<|λ _ => (λ γ => Zw 1 0 rfl<|λ _ h8 => Ze<|Zn rfl<|Zj VT.fa143_4 h8 z0))<|Zp (Zm _) (Zo rfl rfl ⟨(λ γ => Zw 2 0 rfl (λ _ h9 => Ze (Zn rfl (Zu 3 VT.ty141 h9 rfl rfl z0)))), (λ γ => Zw 2 0 rfl (λ _ h9 => Ze (Zn rfl (Zu 4 VT.ty141 h9 rfl rfl z0)))), trivial⟩)<|Zp (Zm _) (Zm2 rfl<|λ _ => (λ γ => Zf<|λ _ h5 => Ze<|Zn rfl<|Zj VT.fa38_1 h5 z0))<|Zp (Zm _) (Zo rfl rfl ⟨(λ γ => Zw 4 0 rfl (λ _ h11 => Ze (Zn rfl (Zu 0 VT.ty3 h11 rfl rfl z0)))), (λ γ => Zw 4 0 rfl (λ _ h11 => Ze (Zn rfl (Zu 1 VT.ty3 h11 rfl rfl z0)))), trivial⟩)<|Zp (Zm _) (Zo rfl rfl ⟨(λ γ => Zw 3 2 rfl (λ _ h10 => Zw 5 0 rfl (λ _ h12 => Ze (Zn rfl (Zu2 (V_lookupD 4 (.agg VT.zs146) (λ m => ⟨rfl, _, rfl, by simp [Go.VL.RepL, VT.zs146, Rep]⟩) Tryz.underlying141 (key_int Tryz.underlying3) VT.zr146 h10 h12 rfl z0) ((kget_encV ρ t.arg f.vals)) z0))))), (λ γ => Zw 3 2 rfl (λ _ h10 => Zw 5 0 rfl (λ _ h12 => Ze (Zn rfl (Zu2 (V_lookupD 5 (.agg VT.zs146) (λ m => ⟨rfl, _, rfl, by simp [Go.VL.RepL, VT.zs146, Rep]⟩) Tryz.underlying141 (key_int Tryz.underlying3) VT.zr146 h10 h12 rfl z0) ((kget_encV ρ t.arg f.vals)) z0))))), trivial⟩)<|Zp (Zw2<|λ g6 => .ptr g6 0) (Zo2 0 rfl<|λ γ => Ze<|Zn rfl<|Zb2 VT.zr146 _ rfl rfl<|λ g6 => ⟨g6, ⟨g6, rfl, rfl⟩, rfl⟩)<|Zp Za3 (Zo2 1 rfl<|λ γ => Zw 7 0 rfl<|λ _ h6 => Zw 6 1 rfl<|λ _ h13 => Ze<|Zx2 h6<|λ e6 => Zn rfl<|Zx 0 VT.ty146 e6 h13 rfl rfl rfl ⟨default, trivial, rfl⟩)<|DrawP_nil<|λ γ => Zw 7 1 rfl<|λ r6 h6 => Ze ?_)
 have e6 : r6 = some _ := Zd3 h6
 subst e6
 clear h6
 refine Zi<|Zb<|Zd<|Zc<|Zj VT.fa38_0 rfl<|Zc<|Zu 1 VT.ty3 rfl rfl rfl<|Za<|Zi<|Zs<|Zb<|Zd<|Zc<|Zj1 rfl rfl rfl<|Zc<|Zk rfl<|Za<|Zi<|Zl1 rfl (λ h32 => ?_)<|λ h32 => ?_
 .
  rw [if_pos h32] at hr
  refine Zd<|Zc<|Zl rfl<|Zc<|Zj VT.fa38_2 rfl<|Zc<|Zu 1 VT.ty3 rfl rfl rfl<|Zc<|Zm3 [.tmp 34, .tmp 36, .const (.int .i64 (0))] [_] _ rfl rfl VT.en85 (Zv2 (i := 2) rfl) (stop_c gm u (stkV gs (fs.length + 2) cap) ov M t.n 0) ?_
  rintro r Sa rfl
  refine Za<|Zb1<|Zn3 rfl ?_
  have hst2 : (stopF t.n 0 M).stack = f :: (g :: fs) := hst
  rw [hr]
  refine ⟨_, (Dk (Dd (Dd (Dk (Dk (Dk (Dk (Dk (Zt2 _))))))))), (gf, gv) :: ((gg, ggv) :: G), .inl rfl, ?_, ?_⟩
  . rw [hst2]; simp [hGl]
  . rw [hst2]; rfl
 rw [if_neg h32] at hr
 refine Zb<|Zd<|Zc<|Zj1 rfl rfl rfl<|Zc<|Zk rfl<|Za<|Zi<|Zl1 rfl (λ h38 => ?_)<|λ h38 => ?_
 .
  rw [if_pos h38] at hr
  have h1 := ht.one h38
  obtain ⟨e, he⟩ := get_of_lt t.to 0 (by omega)
  have hme := Ya he
  obtain ⟨he0, ⟨b, hb, hbl⟩, he2⟩ := ht.edges e hme
  have hee : edgeAt t 0 = e := by rw [edgeAt, he]; rfl
  rw [hee] at hr
  refine Zd<|Zc<|Zl rfl<|Zc<|Zl rfl<|Zc<|Zj VT.fa38_4 rfl<|Zc<|Zu 1 VT.ty36 rfl rfl rfl<|Zc<|Zz (el := edgeV e) VT.sl36 rfl rfl (by omega) (get_mapS _ he)<|λ a44 => (Zc<|Za2 VT.ty64 rfl rfl<|Zc<|Zm3 [.tmp 40, .tmp 41, .tmp 45] _ _ rfl rfl VT.en102 ((Zv2 (i := 2) rfl).trans<|.cons _<|(Zv2 (i := 3) rfl).trans<|.cons _<|(Zv2 (i := 3) rfl).trans<|.cons _<|.refl _) (follow_c gm gf gv u (stkV gs (fs.length + 2) cap) ov M ρ f e h0 he0 hf hb hbl he2) ?_)
  rintro r Sa rfl
  refine Za<|Zb1<|Zn3 rfl ?_
  rw [hr]
  refine ⟨_, (Drops.pick 0 rfl rfl (Drops.pick 4 rfl rfl (Drops.pick 0 rfl rfl (Drops.pick 0 rfl rfl (Drops.pick 2 rfl rfl (Drops.pick 2 rfl rfl (Dd (Dd (Zt2 _))))))))), (gf, gv) :: ((gg, ggv) :: G), .inl rfl, ?_, ?_⟩
  . show _ = Yb (followF u f e :: (g :: fs)); simp [hGl]
  . show _ = mcells gm u (stkV gs (Yb (followF u f e :: (g :: fs))) cap) ov _ :: srow gs ls :: framesS ρ _ (followF u f e :: (g :: fs)); rfl
 rw [if_neg h38] at hr
 refine Zb<|Zd<|Zc<|Zj1 rfl rfl rfl<|Zc<|Zk rfl<|Za<|Zi<|Zl1 rfl (λ h47 => ?_)<|λ h47 => ?_
 .
  rw [if_pos h47] at hr
  refine Zd<|Zc<|Zl rfl<|Zc<|Zl rfl<|Zc<|Zv 0 VT.ty146 rfl rfl rfl<|Zc<|Zm3 [.tmp 49, .tmp 50, .tmp 51] _ _ rfl rfl VT.en103 ((Zv2 (i := 2) rfl).trans<|.cons _<|(Zv2 (i := 2) rfl).trans<|.cons _<|(Zv2 (i := 2) rfl).trans<|.cons _<|(Zv2 (i := 2) rfl).trans<|.cons _<|(Zv2 (i := 2) rfl).trans<|.cons _<|(Zv2 (i := 2) rfl).trans<|.cons _<|.refl _) (leave_c gm gf gv gs (fs.length + 2) cap u ov M ρ f (vget f.vals t.arg) ls hnc hcm (by omega) gg ggv g hg) ?_
  rintro r Sa rfl
  refine Za<|Zb1<|Zn3 rfl ?_
  rw [hr]
  refine ⟨_, (Dk (Dk (Dk (Dk (Dd (Dd (Zt2 _))))))), (gg, ggv) :: G, .inr rfl, ?_, rfl⟩
  simp [leaveF, hGl]
 rw [if_neg h47] at hr
 refine Zb<|Zb<|Zd<|Zc<|Zj VT.fa146_0 rfl<|Zc<|Zu 0 VT.ty3 rfl rfl rfl<|Zc<|Zj1 rfl rfl rfl<|Za<|Zi<|Zm1 rfl (λ h18 => ?_)<|λ h18 => ?_
 .
  rw [if_pos h18] at hr
  refine Zb<|Zd<|Zc<|Zl rfl<|Zc<|Zm3 [.tmp 19, .const (.int .i64 (5)), .const (.int .i64 (0))] [_] _ rfl rfl VT.en85 (Zv2 (i := 2) rfl) (stop_c gm u (stkV gs (fs.length + 2) cap) ov M 5 0) ?_
  rintro r Sa rfl
  refine Za<|Zi<|Zf1<|Zd1<|Za1<|Zh1 rfl rfl (.nil) ?_
  have hst2 : (stopF 5 0 M).stack = f :: (g :: fs) := hst
  rw [hr]
  refine ⟨_, (Dk (Dd (Dd (Dk (Dk (Dk (Dk (Dk (Zt2 _))))))))), (gf, gv) :: ((gg, ggv) :: G), .inl rfl, ?_, ?_⟩
  . rw [hst2]; simp [hGl]
  . rw [hst2]; rfl
 rw [if_neg (by omega)] at hr
 obtain ⟨hc0, hc1⟩ := choice_lt ht (vget f.vals t.arg).n h47 h38 h32
 obtain ⟨e, he⟩ := get_of_lt t.to (choiceF t (vget f.vals t.arg).n).toNat (by omega)
 have hme := Ya he
 obtain ⟨he0, ⟨b, hb, hbl⟩, he2⟩ := ht.edges e hme
 have hee : edgeAt t (choiceF t (vget f.vals t.arg).n).toNat = e := by rw [edgeAt, he]; rfl
 rw [hee] at hr
 refine Zi1<|Zi<|VW_drawR (G := Unit) [([], [0], []), ([], [1], []), ([], [5], []), ([2], [23], []), ([], [5], []), ([], [6], []), ([5], [26], []), ([6, 5, 4], [25, 27], []), ([7, 6, 5, 4, 3, 2], [24, 28], []), ([8, 7, 6, 5, 4, 3, 2], [29], []), (dn 10, [21, 22, 30], [])] [10] (oneSt _ (λ _ => mcells gm u (stkV gs (fs.length + 2) cap) ov M :: fcell gf gv (followF u f e) :: fmap ρ gv (followF u f e).vals :: .cells (γ 0) 146 (valX ρ<|vget f.vals t.arg).leaves :: .cells g5 38 [.int t.kind, .int t.arg, .int t.n, intsX t.cases, edgesX t.to] :: srow gs ls :: fcell gg ggv g :: fmap ρ ggv g.vals :: framesS ρ G fs)) [] [21, 22, 23, 24, 25, 26, 27, 28, 29, 30, 31] rfl VT.mix<|Zp (Zm _) (Zo rfl rfl ⟨(λ γ => Zf (λ _ h0 => Ze (Zn rfl (Zl h0 z0)))), trivial⟩)<|Zp (Zm _) (Zo rfl rfl ⟨(λ γ => Zf (λ _ h1 => Ze (Zn rfl (Zl h1 z0)))), trivial⟩)<|Zp (Zm _) (Zo rfl rfl ⟨(λ γ => Zf (λ _ h5 => Ze (Zn rfl (Zj VT.fa38_4 h5 z0)))), trivial⟩)<|Zp (Zm _) (Zo rfl rfl ⟨(λ γ => Zw 2 0 rfl (λ _ h23 => Ze (Zn rfl (Zu 1 VT.ty36 h23 rfl rfl z0)))), trivial⟩)<|Zp (Zm _) (Zo rfl rfl ⟨(λ γ => Zf (λ _ h5 => Ze (Zn rfl (Zv 1 VT.ty38 h5 rfl rfl z0)))), trivial⟩)<|Zp (Zm _) (Zo rfl rfl ⟨(λ γ => Zf (λ _ h6 => Ze (Zn rfl (Zj VT.fa146_1 h6 z0)))), trivial⟩)<|Zp (Zm _) (Zo rfl rfl ⟨(λ γ => Zw 5 0 rfl (λ _ h26 => Ze (Zn rfl (Zu 0 VT.ty3 h26 rfl rfl z0)))), trivial⟩)<|Zp (Zm _) (Zo rfl rfl ⟨(λ γ => Zw 4 2 rfl (λ _ h25 => Zw 6 0 rfl (λ _ h27 => Ze (Zn rfl (Zx1 [.tmp 25, .tmp 27] rfl (Zp2 h25 (Zp2 h27 Zq2)) VT.en104 (choice_c t (vget f.vals t.arg).n) z0))))), trivial⟩)<|Zp (Zb3 _) (Zo rfl rfl ⟨(λ γ => Zw 3 4 rfl (λ _ h24 => Zw 7 0 rfl (λ _ h28 => Ze (Zn rfl (Zz (el := edgeV e) VT.sl36 h24 h28 (by omega) (get_mapS _ he) (λ a29 => ⟨⟨_, rfl⟩, rfl⟩)))))), trivial⟩)<|Zp (Zm _) (Zo rfl rfl ⟨(λ γ => Zw 8 0 rfl (λ _ h29 => Ze (Zc3 h29 (λ a_29 e29 => Zn rfl (Za2 VT.ty64 e29 rfl z0))))), trivial⟩)<|Zp Za3 (Zn2 rfl<|λ γ => Zw 0 9 rfl<|λ _ h21 => Zw 1 8 rfl<|λ _ h22 => Zw 9 0 rfl<|λ _ h30 => Ze<|Zn rfl<|Zm3 [.tmp 21, .tmp 22, .tmp 30] _ _ rfl (Zp2 h21<|Zp2 h22<|Zp2 h30 Zq2) VT.en102 ((Zv2 (i := 2) rfl).trans<|.cons _<|(Zv2 (i := 3) rfl).trans<|.cons _<|(Zv2 (i := 3) rfl).trans<|.cons _<|.refl _) (follow_c gm gf gv u (stkV gs (fs.length + 2) cap) ov M ρ f e h0 he0 hf hb hbl he2) (λ r Sa h => by subst h; exact ⟨(), trivial, rfl⟩))<|DrawP_nil<|λ γ => Ze<|Zb1<|Zn3 rfl ?_
 rw [hr]
 refine ⟨_, (Drops.pick 0 rfl rfl (Drops.pick 4 rfl rfl (Drops.pick 0 rfl rfl (Drops.pick 0 rfl rfl (Drops.pick 2 rfl rfl (Drops.pick 2 rfl rfl (Dd (Dd (Zt2 _))))))))), (gf, gv) :: ((gg, ggv) :: G), .inl rfl, ?_, ?_⟩
 . show _ = Yb (followF u f e :: (g :: fs)); simp [hGl]
 . show _ = mcells gm u (stkV gs (Yb (followF u f e :: (g :: fs))) cap) ov _ :: srow gs ls :: framesS ρ _ (followF u f e :: (g :: fs)); rfl
theorem end_c (gm gf gv gs cap : Nat) (u : SUnit) (ov : V) (M : Mach) (ρ : Nat -> Nat) (f : MFrame) (fs : List MFrame) (G : List (Nat × Nat)) (rest : List V) (t : STerm) (hst : M.stack = f :: fs) (hGl : G.length = fs.length) (hnc : fs.length + 1 <= cap) (hcm : cap <= maxLen) (h0 : 0 <= f.fn) {fn : SFunc} (hf : u.fns[f.fn.toNat]? = some fn) (ht : TermOk fn t) :
    VCalls Tryz.prog 83 [.ptr gm 0, .ptr gf 0, termV t] (mcells gm u (stkV gs (fs.length + 1) cap) ov M :: srow gs (ptrsV ((gf, gv) :: G) ++ rest) :: fcell gf gv f :: fmap ρ gv f.vals :: framesS ρ G fs) (EndPost gm u gs cap ov ρ (gf, gv) G (ptrsV ((gf, gv) :: G) ++ rest) (termF u f t fs M)) := by
  cases fs with
  | nil =>
    cases G with
    | nil => exact end0_c gm gf gv gs cap u ov M ρ f t _ hst hnc hcm h0 hf ht
    | cons p G => simp at hGl
  | cons g fs =>
    cases G with
    | nil => simp at hGl
    | cons p G =>
      simp at hGl
      refine end1_c gm gf gv gs cap p.1 p.2 g fs G hGl u ov M ρ f t _ hst ?_ hnc hcm h0 hf ht
      rw [ptrsV_cons, ptrsV_cons, Yc, Yc, Yd (by rw [ptrsV_len]; omega)]
      simp [ptrsV_len, hGl]
theorem step_g (gm gs cap gf gv : Nat) (u : SUnit) (rest : List V) (tok : Tok) (G A : List (Nat × Nat)) (M : Mach) (f : MFrame) (fs : List MFrame) (hU : UOk u) (hM : MOk u M) (hlf : M.left + (fs.length + 1) <= 1000000) (hst : M.stack = f :: fs) (hGl : G.length = fs.length) (hA : A.length = M.heap.length) (hcap : (ptrsV ((gf, gv) :: G) ++ rest).length = cap) (hcm : cap <= maxLen) : VCalls Tryz.prog 51 [.ptr gm 0] (mcells gm u (stkV gs (fs.length + 1) cap) (outV tok M.out) M :: obuf tok M.out :: srow gs (ptrsV ((gf, gv) :: G) ++ rest) :: fcell gf gv f :: fmap (rho A) gv f.vals :: (framesS (rho A) G fs ++ arrsS (rho A) A M.heap)) λ r S' => MSt gm u (stepF u M) S' := by
 refine VCalls_drops ?_
 have hfo := hM.frames f (by rw [hst]; exact List.mem_cons_self ..)
 obtain ⟨F, b, hF, hb, hat0, hat⟩ := hfo.code
 have h0 := hfo.fn0
 have hb0 := hfo.blk0
 have hblk : blockAt u f.fn f.block = b := by rw [blockAt, hF]; simp [hb]
 have hFm := Ya hF
 have hbm := Ya hb
 have hleft := hM.left0
 have hr : stepF u M = if f.at_ = (b.ins.length : Int) then termF u f b.term fs M else insF u { f with at_ := f.at_ + 1 } (b.ins[f.at_.toNat]?.getD default) fs { M with stack := { f with at_ := f.at_ + 1 } :: fs } := by rw [stepF, hst]; dsimp only; rw [hblk]
 have hp : (ptrsV ((gf, gv) :: G) ++ rest)[fs.length]? = some (V.ptr gf 0) := by rw [ptrsV_cons, Yc, Yd (by rw [ptrsV_len]; omega)]; simp [ptrsV_len, hGl]
 have hnc : fs.length + 1 <= cap := by rw [<- hcap, List.length_append, ptrsV_len]; simp; omega
 have hn1 : fs.length + 1 <= 1000001 := by omega
 have hvs : ∀ e ∈ f.vals, okV u.fns.length M.heap.length e.2 = true := hfo.vals
 have hve : ∀ B, encV (rho A) f.vals = encV (rho (A ++ B)) f.vals := λ B => encV_ext (rho_ext A B) (by rw [hA]; exact hvs)
 have hfe : ∀ B, framesS (rho A) G fs = framesS (rho (A ++ B)) G fs := λ B => framesS_ext (nf := u.fns.length) (rho_ext A B) G λ g hg => by rw [hA]; exact (hM.frames g (by rw [hst]; exact List.mem_cons_of_mem _ hg)).vals
 refine V_start (nt := 137) Tryz.func51 rfl rfl rfl ?_
 refine Zb<|VW_drawR (G := Unit) [([], [0], []), ([0], [9], []), ([1, 0], [10], []), ([2, 1, 0], [11], []), ([], [0], []), ([4], [13], []), ([5, 4], [14], []), ([6, 5, 4], [15], []), ([7, 6, 5, 4], [16], []), ([8, 7, 6, 5, 4], [17], []), (dn 10, [12, 18], []), (dn 11, [19], []), (dn 12, [20], [])] [] (constSt _) [2] [2, 9, 10, 11, 12, 13, 14, 15, 16, 17, 18, 19, 20] rfl VT.mix<|ZA (λ γ => Zf<|λ _ h0 => Ze<|Zn rfl<|Zl h0 z0)<|ZA (λ γ => Zw 0 0 rfl<|λ _ h9 => Ze<|Zn rfl<|Zv1 h9 z0)<|ZA (λ γ => Zw 1 0 rfl<|λ _ h10 => Ze<|Zn rfl<|Zj VT.fa97_1 h10 z0)<|ZA (λ γ => Zw 2 0 rfl<|λ _ h11 => Ze<|Zn rfl<|Zu 0 VT.ty95 h11 rfl rfl z0)<|ZA (λ γ => Zf<|λ _ h0 => Ze<|Zn rfl<|Zl h0 z0)<|ZA (λ γ => Zw 4 0 rfl<|λ _ h13 => Ze<|Zn rfl<|Zv1 h13 z0)<|ZA (λ γ => Zw 5 0 rfl<|λ _ h14 => Ze<|Zn rfl<|Zj VT.fa97_1 h14 z0)<|ZA (λ γ => Zw 6 0 rfl<|λ _ h15 => Ze<|Zn rfl<|Zu 0 VT.ty95 h15 rfl rfl z0)<|ZA (λ γ => Zw 7 0 rfl<|λ _ h16 => Ze<|Zn rfl<|V_len_raw Tryz.underlying95 h16 z0)<|ZA (λ γ => Zw 8 0 rfl<|λ _ h17 => Ze<|Zn rfl<|Zu2 (Zk2 h17 rfl (by omega) z0) (V.le.of_eq<|congrArg V.int (show ((fs.length + 1 : Nat) : Int) - 1 = (fs.length : Int) by omega)) z0)<|ZA (λ γ => Zw 3 6 rfl<|λ _ h12 => Zw 9 0 rfl<|λ _ h18 => Ze<|Zn rfl<|Zr2 VT.sl95 h12 h18 (by omega) (by omega) z0)<|ZA (λ γ => Zw 10 0 rfl<|λ _ h19 => Ze<|Zn rfl<|Zf3 2 fs.length VT.ty140 h19 (by omega) rfl (List.append_nil _).symm hp z0)<|ZA (λ γ => Zw 11 0 rfl<|λ _ h20 => Ze<|Zn rfl<|Zk h20 z0)<|DrawP_nil<|λ γ => Zw 12 0 rfl<|λ r2 h2 => Ze ?_
 have e2 : r2 = some _ := h2
 subst e2
 clear h2
 refine Zi<|Zb<|VW_drawR (G := Nat) [([], [0], []), ([0], [21], []), ([1, 0], [22], []), ([2, 1, 0], [23], []), (dn 4, [24], []), ([], [2], []), ([5], [26], []), ([6, 5], [27], []), ([7, 6, 5], [28], []), (dn 9, [25, 29], []), (dn 10, [30], []), (dn 11, [31], []), ([], [2], []), ([12], [33], []), ([13, 12], [34], []), ([14, 13, 12], [35], []), (dn 16, [32, 36], []), (dn 17, [37], []), ([], [], [0]), (dn 19, [3, 38], [])] [18, 19] (twoSt _ (λ g3 => .cells g3 40 VT.zs40 :: mcells gm u (stkV gs (fs.length + 1) cap) (outV tok M.out) M :: obuf tok M.out :: srow gs (ptrsV ((gf, gv) :: G) ++ rest) :: fcell gf gv f :: fmap (rho A) gv f.vals :: (framesS (rho A) G fs ++ arrsS (rho A) A M.heap)) (λ g3 _ => .cells g3 40 (blockV b).leaves :: mcells gm u (stkV gs (fs.length + 1) cap) (outV tok M.out) M :: obuf tok M.out :: srow gs (ptrsV ((gf, gv) :: G) ++ rest) :: fcell gf gv f :: fmap (rho A) gv f.vals :: (framesS (rho A) G fs ++ arrsS (rho A) A M.heap))) [3] [3, 21, 22, 23, 24, 25, 26, 27, 28, 29, 30, 31, 32, 33, 34, 35, 36, 37, 38] rfl VT.mix<|Zp (Zm _) (Zm2 rfl<|λ _ => (λ γ => Zf<|λ _ h0 => Ze<|Zn rfl<|Zl h0 z0))<|Zp (Zm _) (Zm2 rfl<|λ _ => (λ γ => Zw 0 0 rfl<|λ _ h21 => Ze<|Zn rfl<|Zv1 h21 z0))<|Zp (Zm _) (Zm2 rfl<|λ _ => (λ γ => Zw 1 0 rfl<|λ _ h22 => Ze<|Zn rfl<|Zj VT.fa97_0 h22 z0))<|Zp (Zm _) (Zm2 rfl<|λ _ => (λ γ => Zw 2 0 rfl<|λ _ h23 => Ze<|Zn rfl<|Zj VT.fa24_0 h23 z0))<|Zp (Zm _) (Zo rfl rfl ⟨(λ γ => Zw 3 0 rfl (λ _ h24 => Ze (Zn rfl (Zu 0 VT.ty22 h24 rfl rfl z0)))), (λ γ => Zw 3 0 rfl (λ _ h24 => Ze (Zn rfl (Zu 1 VT.ty22 h24 rfl rfl z0)))), trivial⟩)<|Zp (Zm _) (Zm2 rfl<|λ _ => (λ γ => Zf<|λ _ h2 => Ze<|Zn rfl<|Zl h2 z0))<|Zp (Zm _) (Zm2 rfl<|λ _ => (λ γ => Zw 5 0 rfl<|λ _ h26 => Ze<|Zn rfl<|Zv1 h26 z0))<|Zp (Zm _) (Zm2 rfl<|λ _ => (λ γ => Zw 6 0 rfl<|λ _ h27 => Ze<|Zn rfl<|Zj VT.fa143_0 h27 z0))<|Zp (Zm _) (Zo rfl rfl ⟨(λ γ => Zw 7 0 rfl (λ _ h28 => Ze (Zn rfl (Zu 3 VT.ty3 h28 rfl rfl z0)))), (λ γ => Zw 7 0 rfl (λ _ h28 => Ze (Zn rfl (Zu 4 VT.ty3 h28 rfl rfl z0)))), trivial⟩)<|Zp (Zb3 _) (Zm2 rfl<|λ _ => (λ γ => Zw 4 4 rfl<|λ _ h25 => Zw 8 0 rfl<|λ _ h29 => Ze<|Zn rfl<|Zz (el := funcV F) VT.sl22 h25 h29 (by omega) (get_mapS _ hF)<|λ a30 => ⟨⟨_, rfl⟩, rfl⟩))<|Zp (Zb3 _) (Zm2 rfl<|λ _ => (λ γ => Zw 9 0 rfl<|λ _ h30 => Ze<|Zc3 h30<|λ a_30 e30 => Zn rfl<|Zw1 VT.fa31_1 e30 rfl ⟨⟨_, rfl⟩, rfl⟩))<|Zp (Zm _) (Zm2 rfl<|λ _ => (λ γ => Zw 10 0 rfl<|λ _ h31 => Ze<|Zc3 h31<|λ a_31 e31 => Zn rfl<|Zz1 VT.ty29 e31 rfl z0))<|Zp (Zm _) (Zm2 rfl<|λ _ => (λ γ => Zf<|λ _ h2 => Ze<|Zn rfl<|Zl h2 z0))<|Zp (Zm _) (Zm2 rfl<|λ _ => (λ γ => Zw 12 0 rfl<|λ _ h33 => Ze<|Zn rfl<|Zv1 h33 z0))<|Zp (Zm _) (Zm2 rfl<|λ _ => (λ γ => Zw 13 0 rfl<|λ _ h34 => Ze<|Zn rfl<|Zj VT.fa143_1 h34 z0))<|Zp (Zm _) (Zo rfl rfl ⟨(λ γ => Zw 14 0 rfl (λ _ h35 => Ze (Zn rfl (Zu 3 VT.ty3 h35 rfl rfl z0)))), (λ γ => Zw 14 0 rfl (λ _ h35 => Ze (Zn rfl (Zu 4 VT.ty3 h35 rfl rfl z0)))), trivial⟩)<|Zp (Zb3 _) (Zm2 rfl<|λ _ => (λ γ => Zw 11 4 rfl<|λ _ h32 => Zw 15 0 rfl<|λ _ h36 => Ze<|Zn rfl<|Zz (el := blockV b) VT.sl29 h32 h36 (by omega) (get_mapS _ hb)<|λ a37 => ⟨⟨_, rfl⟩, rfl⟩))<|Zp (Zm _) (Zm2 rfl<|λ _ => (λ γ => Zw 16 0 rfl<|λ _ h37 => Ze<|Zc3 h37<|λ a_37 e37 => Zn rfl<|Za2 VT.ty40 e37 rfl z0))<|Zp (Zw2<|λ g3 => .ptr g3 0) (Zo2 0 rfl<|λ γ => Ze<|Zn rfl<|Zb2 VT.zr40 _ rfl rfl<|λ g3 => ⟨g3, ⟨g3, rfl, rfl⟩, rfl⟩)<|Zp Za3 (Zo2 1 rfl<|λ γ => Zw 18 0 rfl<|λ _ h3 => Zw 17 1 rfl<|λ _ h38 => Ze<|Zx2 h3<|λ e3 => Zn rfl<|Zx 0 VT.ty40 e3 h38 rfl rfl rfl ⟨default, trivial, rfl⟩)<|DrawP_nil<|λ γ => Zw 18 1 rfl<|λ r3 h3 => Ze ?_
 have e3 : r3 = some _ := Zd3 h3
 subst e3
 clear h3
 refine Zi ?_
 let g3 : Nat := γ 0
 refine Zb<|Zb<|VW_drawR (G := Unit) [([], [2], []), ([0], [39], []), ([1, 0], [40], []), ([2, 1, 0], [41], []), ([], [3], []), ([4], [43], []), ([5, 4], [44], []), (dn 7, [42, 45], [])] [] (constSt _) [46] [39, 40, 41, 42, 43, 44, 45, 46] rfl VT.mix<|ZA (λ γ => Zf<|λ _ h2 => Ze<|Zn rfl<|Zl h2 z0)<|ZA (λ γ => Zw 0 0 rfl<|λ _ h39 => Ze<|Zn rfl<|Zv1 h39 z0)<|ZA (λ γ => Zw 1 0 rfl<|λ _ h40 => Ze<|Zn rfl<|Zj VT.fa143_2 h40 z0)<|ZA (λ γ => Zw 2 0 rfl<|λ _ h41 => Ze<|Zn rfl<|Zu 4 VT.ty3 h41 rfl rfl z0)<|ZA (λ γ => Zf<|λ _ h3 => Ze<|Zn rfl<|Zj VT.fa40_1 h3 z0)<|ZA (λ γ => Zw 4 0 rfl<|λ _ h43 => Ze<|Zn rfl<|Zu 0 VT.ty35 h43 rfl rfl z0)<|ZA (λ γ => Zw 5 0 rfl<|λ _ h44 => Ze<|Zn rfl<|Zd2 (n := b.ins.length) Tryz.underlying35 h44 (by simp)<|λ hl45 => z0)<|ZA (λ γ => Zw 3 3 rfl<|λ _ h42 => Zw 6 0 rfl<|λ _ h45 => Ze<|Zn rfl<|Zj1 h42 h45 rfl z0)<|DrawP_nil<|λ γ => Zw 7 0 rfl<|λ r46 h46 => Ze ?_
 have e46 : r46 = some _ := h46
 subst e46
 clear h46
 refine Zi<|Zl1 rfl (λ h46 => ?_)<|λ h46 => ?_
 .
  rw [if_pos h46] at hr
  refine Zb<|Zd<|Zc<|Zl rfl<|Zc<|Zl rfl<|Zc<|Zj VT.fa40_2 rfl<|Zc<|Zv 0 VT.ty38 rfl rfl rfl<|Zc<|V_callG [.tmp 47, .tmp 48, .tmp 50] (mcells gm u (stkV gs (fs.length + 1) cap) (outV tok M.out) M :: srow gs (ptrsV ((gf, gv) :: G) ++ rest) :: fcell gf gv f :: fmap (rho A) gv f.vals :: framesS (rho A) G fs) (_ :: obuf tok M.out :: arrsS (rho A) A M.heap) rfl rfl VT.en83 perm_end (end_c gm gf gv gs cap u (outV tok M.out) M (rho A) f fs G rest b.term hst hGl hnc hcm h0 hF<|hU.term F hFm b hbm) ?_
  rintro r Sa ⟨G1, hG1, hl1, rfl⟩
  refine ⟨_, drop_end, ?_⟩
  refine Za<|Zi<|Zf1<|Zd1<|Zh1 rfl rfl (.nil) ?_
  obtain ⟨hk1, hk2, hk3⟩ := termF_keeps u f b.term fs M
  rw [hr]
  rcases hG1 with rfl | rfl
  . refine ⟨_, Zt2 _, gs, cap, rest, tok, _, A, hl1, hA.trans (congrArg Yb hk2.symm), hcap, hcm, ?_⟩
    rw [MS, hk1, hk2]
  . refine ⟨_, Zt2 _, gs, cap, [V.ptr gf 0] ++ rest, tok, _, A, hl1, hA.trans (congrArg Yb hk2.symm), ?_, hcm, ?_⟩
    . rw [<- hcap, ptrsV_cons, Yc]
    . rw [MS, hk1, hk2, ptrsV_cons, Yc]
 rw [if_neg h46] at hr
 obtain ⟨i, hi⟩ := get_of_lt b.ins f.at_.toNat (by omega)
 rw [hi, Option.getD_some] at hr
 have him := Ya hi
 have hio := hU.ins F hFm b hbm i him
 have hmany := hio.many
 have hal : (takeF f.vals i.args).length = i.args.length := by rw [takeF, List.length_map]
 have hao : ∀ a ∈ (takeF f.vals i.args), okV u.fns.length M.heap.length a = true := λ a ha => by obtain ⟨x, _, rfl⟩ := List.mem_map.1 ha; exact vget_ok x hvs
 refine Zi1<|Zi<|Zb<|VW_drawR (G := Nat) [([], [3], []), ([0], [52], []), ([], [2], []), ([2], [54], []), ([3, 2], [55], []), ([4, 3, 2], [56], []), (dn 6, [53, 57], []), (dn 7, [58], []), ([], [], [0]), (dn 9, [4, 59], [])] [8, 9] (twoSt _ (λ g4 => .cells g4 42 VT.zs42 :: .cells g3 40 (blockV b).leaves :: mcells gm u (stkV gs (fs.length + 1) cap) (outV tok M.out) M :: obuf tok M.out :: srow gs (ptrsV ((gf, gv) :: G) ++ rest) :: fcell gf gv f :: fmap (rho A) gv f.vals :: (framesS (rho A) G fs ++ arrsS (rho A) A M.heap)) (λ g4 _ => .cells g4 42 (insV i).leaves :: .cells g3 40 (blockV b).leaves :: mcells gm u (stkV gs (fs.length + 1) cap) (outV tok M.out) M :: obuf tok M.out :: srow gs (ptrsV ((gf, gv) :: G) ++ rest) :: fcell gf gv f :: fmap (rho A) gv f.vals :: (framesS (rho A) G fs ++ arrsS (rho A) A M.heap))) [4] [4, 52, 53, 54, 55, 56, 57, 58, 59] rfl VT.mix<|Zp (Zm _) (Zm2 rfl<|λ _ => (λ γ => Zf<|λ _ h3 => Ze<|Zn rfl<|Zj VT.fa40_1 h3 z0))<|Zp (Zm _) (Zo rfl rfl ⟨(λ γ => Zw 0 0 rfl (λ _ h52 => Ze (Zn rfl (Zu 0 VT.ty35 h52 rfl rfl z0)))), (λ γ => Zw 0 0 rfl (λ _ h52 => Ze (Zn rfl (Zu 1 VT.ty35 h52 rfl rfl z0)))), trivial⟩)<|Zp (Zm _) (Zm2 rfl<|λ _ => (λ γ => Zf<|λ _ h2 => Ze<|Zn rfl<|Zl h2 z0))<|Zp (Zm _) (Zm2 rfl<|λ _ => (λ γ => Zw 2 0 rfl<|λ _ h54 => Ze<|Zn rfl<|Zv1 h54 z0))<|Zp (Zm _) (Zm2 rfl<|λ _ => (λ γ => Zw 3 0 rfl<|λ _ h55 => Ze<|Zn rfl<|Zj VT.fa143_2 h55 z0))<|Zp (Zm _) (Zo rfl rfl ⟨(λ γ => Zw 4 0 rfl (λ _ h56 => Ze (Zn rfl (Zu 4 VT.ty3 h56 rfl rfl z0)))), (λ γ => Zw 4 0 rfl (λ _ h56 => Ze (Zn rfl (Zu 5 VT.ty3 h56 rfl rfl z0)))), trivial⟩)<|Zp (Zb3 _) (Zm2 rfl<|λ _ => (λ γ => Zw 1 4 rfl<|λ _ h53 => Zw 5 0 rfl<|λ _ h57 => Ze<|Zn rfl<|Zz (el := insV i) VT.sl35 h53 h57 (by omega) (get_mapS _ hi)<|λ a58 => ⟨⟨_, rfl⟩, rfl⟩))<|Zp (Zm _) (Zm2 rfl<|λ _ => (λ γ => Zw 6 0 rfl<|λ _ h58 => Ze<|Zc3 h58<|λ a_58 e58 => Zn rfl<|Za2 VT.ty42 e58 rfl z0))<|Zp (Zw2<|λ g4 => .ptr g4 0) (Zo2 0 rfl<|λ γ => Ze<|Zn rfl<|Zb2 VT.zr42 _ rfl rfl<|λ g4 => ⟨g4, ⟨g4, rfl, rfl⟩, rfl⟩)<|Zp Za3 (Zo2 1 rfl<|λ γ => Zw 8 0 rfl<|λ _ h4 => Zw 7 1 rfl<|λ _ h59 => Ze<|Zx2 h4<|λ e4 => Zn rfl<|Zx 0 VT.ty42 e4 h59 rfl rfl rfl ⟨default, trivial, rfl⟩)<|DrawP_nil<|λ γ => Zw 8 1 rfl<|λ r4 h4 => Ze ?_
 have e4 : r4 = some _ := Zd3 h4
 subst e4
 clear h4
 refine Zi ?_
 let g4 : Nat := γ 0
 refine VW_cellLen 1 1 rfl rfl<|λ hbl => ?_
 have hbl : b.ins.length <= maxLen := by simpa using hbl
 rw [insF.eq_def] at hr
 dsimp only at hr
 refine Zb<|Zd<|Zc<|Zl rfl<|Zc<|Zv1 rfl<|Zc<|Zj VT.fa143_2 rfl<|Zc<|Zu 5 VT.ty3 rfl rfl rfl<|Zc<|Zh2 rfl rfl (by simp only [maxLen] at hbl; omega)<|Zc<|Zv1 rfl<|Zc<|Zj VT.fa143_2 rfl<|Zc<|Zy 5 VT.ty3 rfl rfl rfl rfl rfl<|Za<|Zi<|Zb<|Zd<|Zc<|Zl rfl<|Zc<|Zj VT.fa42_3 rfl<|Zc<|Zu 0 VT.ty32 rfl rfl rfl<|Zc<|Zl3 [.tmp 67, .tmp 69] [_, _] _ rfl rfl VT.en84 ((Zv2 (i := 5) rfl).trans<|.cons _<|(Zv2 (i := 5) rfl).trans<|.cons _<|.refl _) (take_c (rho A) gf gv { f with at_ := f.at_ + 1 } i.args hmany)<|Zc<|Zk rfl<|Za<|Zi<|Zb<|Zd<|Zc<|Zj VT.fa42_1 rfl<|Zc<|Zu 0 VT.ty3 rfl rfl rfl<|Za<|Zi<|Zs<|Zb<|Zd<|Zc<|Zj1 rfl rfl rfl<|Zc<|Zk rfl<|Za<|Zi<|Zl1 rfl (λ h92 => ?_)<|λ h92 => ?_
 .
  rw [if_pos h92] at hr
  obtain ⟨hc0, hc1, hc2⟩ := hio.call h92
  obtain ⟨F2, hF2⟩ := get_of_lt u.fns i.n.toNat (by omega)
  refine Zd<|Zc<|Zl rfl<|Zc<|Zj VT.fa42_2 rfl<|Zc<|Zu 0 VT.ty3 rfl rfl rfl<|Zc<|Zl rfl<|Zc<|Zj VT.fa42_0 rfl<|Zc<|Zu 0 VT.ty3 rfl rfl rfl<|Zc<|Zm3 [.tmp 94, .tmp 96, .tmp 97, .tmp 99] _ _ rfl rfl VT.en49 ((Zv2 (i := 2) rfl).trans<|.cons _<|(Zv2 (i := 3) rfl).trans<|.cons _<|.refl _) (enter_c gm u (outV tok M.out) M (rho A) i.n i.to (takeF f.vals i.args) gs (fs.length + 1) cap (ptrsV ((gf, gv) :: G) ++ rest) hcap hnc hcm hn1 hc0 hF2 (hU.ne F2<|Ya hF2) (by omega)) ?_
  rintro r Sa ⟨g1, g2, gs1, cap1, rest1, hc1, hm1, hl1, rfl⟩
  refine Za<|Zb1<|Zn3 rfl ?_
  rw [hr]
  have htk : (ptrsV ((gf, gv) :: G) ++ rest).take (fs.length + 1) = ptrsV ((gf, gv) :: G) := by rw [Ye (by rw [ptrsV_len]; simp; omega), List.take_of_length_le (by rw [ptrsV_len]; simp; omega)]
  have hpe : ptrsV ((gf, gv) :: G) ++ ([V.ptr g1 0] ++ rest1) = ptrsV ((g1, g2) :: (gf, gv) :: G) ++ rest1 := by rw [ptrsV_cons (g1, g2), Yc]
  rw [htk, hpe] at hl1
  refine ⟨_, (Drops.pick 0 rfl rfl (Drops.pick 5 rfl rfl (Drops.pick 0 rfl rfl (Drops.pick 0 rfl rfl (Drops.pick 0 rfl rfl (Drops.pick 2 rfl rfl (Drops.pick 2 rfl rfl (Dd (Dd (Zt2 _)))))))))), gs1, cap1, rest1, tok, (g1, g2) :: (gf, gv) :: G, A, ?_, hA, hl1, hm1, ?_⟩
  . simp [enterF, hGl]
  . rw [htk, hpe]; rfl
 rw [if_neg h92] at hr
 refine Zb<|Zd<|Zc<|Zj1 rfl rfl rfl<|Zc<|Zk rfl<|Za<|Zi<|Zl1 rfl (λ h101 => ?_)<|λ h101 => ?_
 .
  rw [if_pos h101] at hr
  have hap := hio.app h101
  have hcv := (okV_iff.1 (argAt_ok hao 0)).2.1
  refine Zb<|Zd<|Zc<|Zl rfl<|Zc<|Zz (el := valX (rho A) (argAt (takeF f.vals i.args) 0)) VT.sl139 rfl rfl (by omega) (get_arg (l := (takeF f.vals i.args)) (k := 0) (by omega))<|λ a104 => (Zc<|Za2 VT.ty146 rfl rfl<|Zc<|Zb2 VT.zr146 _ rfl rfl<|λ g6 => (Zc<|Zx 0 VT.ty146 rfl rfl rfl rfl rfl<|Za<|Zi<|Zb ?_))
  rcases Bool.eq_false_or_eq_true (((argAt (takeF f.vals i.args) 0).kind == (2 : Int))) with hq108 | hq108
  .
   have hx108 := beqT hq108
   obtain ⟨hc0, hc1⟩ := hcv hx108
   obtain ⟨F2, hF2⟩ := get_of_lt u.fns (argAt (takeF f.vals i.args) 0).n.toNat (by omega)
   obtain ⟨b2, tl2, hb2⟩ := List.exists_cons_of_ne_nil (hU.ne F2 (Ya hF2))
   have hen : entryOf u (argAt (takeF f.vals i.args) 0).n = b2.params := by rw [entryOf, hF2]; simp [paramsOf, hb2]
   rw [hen] at hr
   refine VW_drawR (G := Unit) [([], [6], []), ([0], [106], []), ([1, 0], [107], []), ([2, 1, 0], [108], []), (dn 4, [0, 109], []), (dn 5, [110, 109], []), (dn 6, [111, 109], []), (dn 7, [112, 109], []), (dn 8, [113, 109], []), (dn 4, [6, 109], []), ([9, 3, 2, 1, 0], [115, 109], []), (dn 11, [114, 116, 109], []), (dn 12, [117, 109], []), (dn 13, [118, 109], []), (dn 14, [119, 109], []), (dn 15, [120, 109], []), (dn 16, [121, 109], []), (dn 17, [122, 109], []), (dn 4, [5, 109], []), ([18, 3, 2, 1, 0], [124, 109], []), (dn 20, [123, 125, 109], []), (dn 21, [109, 126], [])] [] (constSt _) [127] [106, 107, 108, 109, 110, 111, 112, 113, 114, 115, 116, 117, 118, 119, 120, 121, 122, 123, 124, 125, 126, 127] rfl VT.mix<|ZA (λ γ => Zf<|λ _ h6 => Ze<|Zn rfl<|Zj VT.fa146_0 h6 z0)<|ZA (λ γ => Zw 0 0 rfl<|λ _ h106 => Ze<|Zn rfl<|Zu 0 VT.ty3 h106 rfl rfl z0)<|ZA (λ γ => Zw 1 0 rfl<|λ _ h107 => Ze<|Zn rfl<|Zj1 h107 rfl rfl z0)<|ZA (λ γ => Zw 2 0 rfl<|λ _ h108 => Ze<|Zn rfl<|Zl h108 z0)<|ZA (λ γ => Zf<|λ _ h0 => Zw 3 0 rfl<|λ _ h109 => Ze<|Zn (Zg rfl rfl h109 hq108)<|Zl h0 z0)<|ZA (λ γ => Zw 4 0 rfl<|λ _ h110 => Zw 3 1 rfl<|λ _ h109 => Ze<|Zn (Zg rfl rfl h109 hq108)<|Zv1 h110 z0)<|ZA (λ γ => Zw 5 0 rfl<|λ _ h111 => Zw 3 2 rfl<|λ _ h109 => Ze<|Zn (Zg rfl rfl h109 hq108)<|Zj VT.fa97_0 h111 z0)<|ZA (λ γ => Zw 6 0 rfl<|λ _ h112 => Zw 3 3 rfl<|λ _ h109 => Ze<|Zn (Zg rfl rfl h109 hq108)<|Zj VT.fa24_0 h112 z0)<|ZA (λ γ => Zw 7 0 rfl<|λ _ h113 => Zw 3 4 rfl<|λ _ h109 => Ze<|Zn (Zg rfl rfl h109 hq108)<|Zu 3 VT.ty22 h113 rfl rfl z0)<|ZA (λ γ => Zf<|λ _ h6 => Zw 3 5 rfl<|λ _ h109 => Ze<|Zn (Zg rfl rfl h109 hq108)<|Zj VT.fa146_1 h6 z0)<|ZA (λ γ => Zw 9 0 rfl<|λ _ h115 => Zw 3 6 rfl<|λ _ h109 => Ze<|Zn (Zg rfl rfl h109 hq108)<|Zu 0 VT.ty3 h115 rfl rfl z0)<|Zp (Zb3 _) (Zq<|λ γ => Zw 8 2 rfl<|λ _ h114 => Zw 10 0 rfl<|λ _ h116 => Zw 3 7 rfl<|λ _ h109 => Ze<|Zn (Zg rfl rfl h109 hq108)<|Zz (el := funcV F2) VT.sl22 h114 h116 (by omega) (get_mapS _ hF2)<|λ a117 => ⟨⟨_, rfl⟩, rfl⟩)<|Zp (Zb3 _) (Zq<|λ γ => Zw 11 0 rfl<|λ _ h117 => Zw 3 8 rfl<|λ _ h109 => Ze<|Zc3 h117<|λ a_117 e117 => Zn (Zg rfl rfl h109 hq108)<|Zw1 VT.fa31_1 e117 rfl ⟨⟨_, rfl⟩, rfl⟩)<|ZA (λ γ => Zw 12 0 rfl<|λ _ h118 => Zw 3 9 rfl<|λ _ h109 => Ze<|Zc3 h118<|λ a_118 e118 => Zn (Zg rfl rfl h109 hq108)<|Zz1 VT.ty29 e118 rfl z0)<|Zp (Zb3 _) (Zq<|λ γ => Zw 13 0 rfl<|λ _ h119 => Zw 3 10 rfl<|λ _ h109 => Ze<|Zn (Zg rfl rfl h109 hq108)<|Zz (el := blockV b2) VT.sl29 h119 rfl (by omega) (by rw [hb2]; rfl)<|λ a120 => ⟨⟨_, rfl⟩, rfl⟩)<|Zp (Zb3 _) (Zq<|λ γ => Zw 14 0 rfl<|λ _ h120 => Zw 3 11 rfl<|λ _ h109 => Ze<|Zc3 h120<|λ a_120 e120 => Zn (Zg rfl rfl h109 hq108)<|Zw1 VT.fa40_0 e120 rfl ⟨⟨_, rfl⟩, rfl⟩)<|ZA (λ γ => Zw 15 0 rfl<|λ _ h121 => Zw 3 12 rfl<|λ _ h109 => Ze<|Zc3 h121<|λ a_121 e121 => Zn (Zg rfl rfl h109 hq108)<|Zz1 VT.ty32 e121 rfl z0)<|ZA (λ γ => Zw 16 0 rfl<|λ _ h122 => Zw 3 13 rfl<|λ _ h109 => Ze<|Zn (Zg rfl rfl h109 hq108)<|Zd2 (n := b2.params.length) Tryz.underlying32 h122 (by simp)<|λ hl123 => z0)<|ZA (λ γ => Zf<|λ _ h5 => Zw 3 14 rfl<|λ _ h109 => Ze<|Zn (Zg rfl rfl h109 hq108)<|Zl h5 z0)<|ZA (λ γ => Zw 18 0 rfl<|λ _ h124 => Zw 3 15 rfl<|λ _ h109 => Ze<|Zn (Zg rfl rfl h109 hq108)<|Zd2 (n := (takeF f.vals i.args).length) Tryz.underlying139 h124 (by simp)<|λ hl125 => z0)<|ZA (λ γ => Zw 17 2 rfl<|λ _ h123 => Zw 19 0 rfl<|λ _ h125 => Zw 3 16 rfl<|λ _ h109 => Ze<|Zn (Zg rfl rfl h109 hq108)<|Zj1 h123 h125 rfl z0)<|ZA (λ γ => Zw 3 17 rfl<|λ _ h109 => Zw 20 0 rfl<|λ _ h126 => Ze<|Zn rfl<|Zs1 h109 hq108 h126 z0)<|DrawP_nil<|λ γ => Zw 21 0 rfl<|λ r127 h127 => Ze ?_
   have e127 : r127 = some _ := h127
   subst e127
   clear h127
   refine Zi<|Zl1 rfl (λ h127 => ?_)<|λ h127 => ?_
   .
    rw [if_pos ⟨hx108, by omega⟩] at hr
    refine Zd<|Zc<|Zl rfl<|Zc<|Zj VT.fa146_1 rfl<|Zc<|Zu 0 VT.ty3 rfl rfl rfl<|Zc<|Zl rfl<|Zc<|Zj VT.fa42_0 rfl<|Zc<|Zu 1 VT.ty3 rfl rfl rfl<|Zc<|Zm3 [.tmp 128, .tmp 130, .tmp 131, .tmp 133] _ _ rfl rfl VT.en49 ((Zv2 (i := 3) rfl).trans<|.cons _<|(Zv2 (i := 4) rfl).trans<|.cons _<|.refl _) (enter_c gm u (outV tok M.out) M (rho A) (argAt (takeF f.vals i.args) 0).n i.to (takeF f.vals i.args) gs (fs.length + 1) cap (ptrsV ((gf, gv) :: G) ++ rest) hcap hnc hcm hn1 hc0 hF2 (hU.ne F2<|Ya hF2) (by rw [hen]; omega)) ?_
    rintro r Sa ⟨g1, g2, gs1, cap1, rest1, hc1, hm1, hl1, rfl⟩
    refine Za<|Zb1<|Zn3 rfl ?_
    rw [hr]
    have htk : (ptrsV ((gf, gv) :: G) ++ rest).take (fs.length + 1) = ptrsV ((gf, gv) :: G) := by rw [Ye (by rw [ptrsV_len]; simp; omega), List.take_of_length_le (by rw [ptrsV_len]; simp; omega)]
    have hpe : ptrsV ((gf, gv) :: G) ++ ([V.ptr g1 0] ++ rest1) = ptrsV ((g1, g2) :: (gf, gv) :: G) ++ rest1 := by rw [ptrsV_cons (g1, g2), Yc]
    rw [htk, hpe] at hl1
    refine ⟨_, (Drops.pick 0 rfl rfl (Drops.pick 6 rfl rfl (Drops.pick 0 rfl rfl (Drops.pick 0 rfl rfl (Drops.pick 0 rfl rfl (Drops.pick 3 rfl rfl (Drops.pick 3 rfl rfl (Dd (Dd (Dd (Zt2 _))))))))))), gs1, cap1, rest1, tok, (g1, g2) :: (gf, gv) :: G, A, ?_, hA, hl1, hm1, ?_⟩
    . simp [enterF, hGl]
    . rw [htk, hpe]; rfl
   rw [if_neg (λ h => h127 (by have := h.2; omega))] at hr
   refine Zd<|Zc<|Zl rfl<|Zc<|Zm3 [.tmp 135, .const (.int .i64 (5)), .const (.int .i64 (0))] [_] _ rfl rfl VT.en85 (Zv2 (i := 3) rfl) (stop_c gm u (stkV gs (fs.length + 1) cap) (outV tok M.out) M 5 0) ?_
   rintro r Sa rfl
   refine Za<|Zb1<|Zn3 rfl ?_
   rw [hr]
   exact ⟨_, (Dk (Dd (Dd (Dd (Dk (Dk (Dk (Dk (Zt2 _))))))))), gs, cap, rest, tok, (gf, gv) :: G, A, by simp [stopF, hGl], hA, hcap, hcm, rfl⟩
  have hx108 := beqF hq108
  refine VW_drawR (G := Unit) [([], [6], []), ([0], [106], []), ([1, 0], [107], []), ([2, 1, 0], [108], []), (dn 4, [0, 109], []), (dn 5, [110, 109], []), (dn 6, [111, 109], []), (dn 7, [112, 109], []), (dn 8, [113, 109], []), (dn 4, [6, 109], []), ([9, 3, 2, 1, 0], [115, 109], []), (dn 11, [114, 116, 109], []), (dn 12, [117, 109], []), (dn 13, [118, 109], []), (dn 14, [119, 109], []), (dn 15, [120, 109], []), (dn 16, [121, 109], []), (dn 17, [122, 109], []), (dn 4, [5, 109], []), ([18, 3, 2, 1, 0], [124, 109], []), (dn 20, [123, 125, 109], []), (dn 21, [109, 126], [])] [] (constSt _) [127] [106, 107, 108, 109, 110, 111, 112, 113, 114, 115, 116, 117, 118, 119, 120, 121, 122, 123, 124, 125, 126, 127] rfl VT.mix<|ZA (λ γ => Zf<|λ _ h6 => Ze<|Zn rfl<|Zj VT.fa146_0 h6 z0)<|ZA (λ γ => Zw 0 0 rfl<|λ _ h106 => Ze<|Zn rfl<|Zu 0 VT.ty3 h106 rfl rfl z0)<|ZA (λ γ => Zw 1 0 rfl<|λ _ h107 => Ze<|Zn rfl<|Zj1 h107 rfl rfl z0)<|ZA (λ γ => Zw 2 0 rfl<|λ _ h108 => Ze<|Zn rfl<|Zl h108 z0)<|ZA (λ γ => Zf<|λ _ h0 => Zw 3 0 rfl<|λ _ h109 => Ze<|Zy2 (Zr rfl rfl h109 hq108) z0)<|ZA (λ γ => Zw 4 0 rfl<|λ _ h110 => Zw 3 1 rfl<|λ _ h109 => Ze<|Zy2 (Zr rfl rfl h109 hq108) z0)<|ZA (λ γ => Zw 5 0 rfl<|λ _ h111 => Zw 3 2 rfl<|λ _ h109 => Ze<|Zy2 (Zr rfl rfl h109 hq108) z0)<|ZA (λ γ => Zw 6 0 rfl<|λ _ h112 => Zw 3 3 rfl<|λ _ h109 => Ze<|Zy2 (Zr rfl rfl h109 hq108) z0)<|ZA (λ γ => Zw 7 0 rfl<|λ _ h113 => Zw 3 4 rfl<|λ _ h109 => Ze<|Zy2 (Zr rfl rfl h109 hq108) z0)<|ZA (λ γ => Zf<|λ _ h6 => Zw 3 5 rfl<|λ _ h109 => Ze<|Zy2 (Zr rfl rfl h109 hq108) z0)<|ZA (λ γ => Zw 9 0 rfl<|λ _ h115 => Zw 3 6 rfl<|λ _ h109 => Ze<|Zy2 (Zr rfl rfl h109 hq108) z0)<|ZA (λ γ => Zw 8 2 rfl<|λ _ h114 => Zw 10 0 rfl<|λ _ h116 => Zw 3 7 rfl<|λ _ h109 => Ze<|Zy2 (Zr rfl rfl h109 hq108) z0)<|ZA (λ γ => Zw 11 0 rfl<|λ _ h117 => Zw 3 8 rfl<|λ _ h109 => Ze<|Zy2 (Zr rfl rfl h109 hq108) z0)<|ZA (λ γ => Zw 12 0 rfl<|λ _ h118 => Zw 3 9 rfl<|λ _ h109 => Ze<|Zy2 (Zr rfl rfl h109 hq108) z0)<|ZA (λ γ => Zw 13 0 rfl<|λ _ h119 => Zw 3 10 rfl<|λ _ h109 => Ze<|Zy2 (Zr rfl rfl h109 hq108) z0)<|ZA (λ γ => Zw 14 0 rfl<|λ _ h120 => Zw 3 11 rfl<|λ _ h109 => Ze<|Zy2 (Zr rfl rfl h109 hq108) z0)<|ZA (λ γ => Zw 15 0 rfl<|λ _ h121 => Zw 3 12 rfl<|λ _ h109 => Ze<|Zy2 (Zr rfl rfl h109 hq108) z0)<|ZA (λ γ => Zw 16 0 rfl<|λ _ h122 => Zw 3 13 rfl<|λ _ h109 => Ze<|Zy2 (Zr rfl rfl h109 hq108) z0)<|ZA (λ γ => Zf<|λ _ h5 => Zw 3 14 rfl<|λ _ h109 => Ze<|Zy2 (Zr rfl rfl h109 hq108) z0)<|ZA (λ γ => Zw 18 0 rfl<|λ _ h124 => Zw 3 15 rfl<|λ _ h109 => Ze<|Zy2 (Zr rfl rfl h109 hq108) z0)<|ZA (λ γ => Zw 17 2 rfl<|λ _ h123 => Zw 19 0 rfl<|λ _ h125 => Zw 3 16 rfl<|λ _ h109 => Ze<|Zy2 (Zr rfl rfl h109 hq108) z0)<|ZA (λ γ => Zw 3 17 rfl<|λ _ h109 => Zw 20 0 rfl<|λ _ h126 => Ze<|Zn rfl<|Zt1 h109 hq108 rfl z0)<|DrawP_nil<|λ γ => Zw 21 0 rfl<|λ r127 h127 => Ze ?_
  have e127 : r127 = some _ := h127
  subst e127
  clear h127
  refine Zi<|Zq1 rfl rfl ?_
  rw [if_neg (λ h => hx108 h.1)] at hr
  refine Zd<|Zc<|Zl rfl<|Zc<|Zm3 [.tmp 135, .const (.int .i64 (5)), .const (.int .i64 (0))] [_] _ rfl rfl VT.en85 (Zv2 (i := 3) rfl) (stop_c gm u (stkV gs (fs.length + 1) cap) (outV tok M.out) M 5 0) ?_
  rintro r Sa rfl
  refine Za<|Zb1<|Zn3 rfl ?_
  rw [hr]
  exact ⟨_, (Dk (Dd (Dd (Dd (Dk (Dk (Dk (Dk (Zt2 _))))))))), gs, cap, rest, tok, (gf, gv) :: G, A, by simp [stopF, hGl], hA, hcap, hcm, rfl⟩
 rw [if_neg h101] at hr
 refine Zb<|Zd<|Zc<|Zl rfl<|Zc<|Zv 0 VT.ty42 rfl rfl rfl<|Zc<|Zl rfl<|Zc<|V_callG [.tmp 74, .tmp 75, .tmp 76] (mcells gm u (stkV gs (fs.length + 1) cap) (outV tok M.out) { M with stack := { f with at_ := f.at_ + 1 } :: fs } :: obuf tok M.out :: arrsS (rho A) A M.heap) (_ :: _ :: srow gs (ptrsV ((gf, gv) :: G) ++ rest) :: fcell gf gv { f with at_ := f.at_ + 1 } :: fmap (rho A) gv f.vals :: framesS (rho A) G fs) rfl rfl VT.en86 perm_exec (exec_c gm u (stkV gs (fs.length + 1) cap) tok { M with stack := { f with at_ := f.at_ + 1 } :: fs } A u.fns.length i (takeF f.vals i.args) hA hao hM.heap hleft (by show M.left <= _; omega) hM.out (by rw [hal]; exact hio.ops h92 h101)) ?_
 rintro r Sa ⟨A1, tok1, ⟨B1, rfl⟩, hA1, rfl, rfl⟩
 refine ⟨_, drop_exec, ?_⟩
 rw [fmap, hve B1, hfe B1]
 refine Zc<|Zl rfl<|Zc<|Zg2 rfl rfl<|Zc<|Zg2 rfl rfl<|Zc<|Zb2 VT.zr146 _ rfl rfl<|λ g7 => (Zc<|Zx 0 VT.ty146 rfl rfl rfl rfl rfl<|Zc<|Zk rfl<|Za<|Zi<|Zb<|Zb<|Zd<|Zc<|Zl rfl<|Zc<|Zj1 rfl rfl rfl<|Za<|Zi<|Zm1 rfl (λ h81 => ?_)<|λ h81 => ?_)
 .
  rw [if_pos h81] at hr
  refine Zd<|Zc<|Zl rfl<|Zc<|Zl rfl<|Zc<|Zm3 [.tmp 82, .tmp 83, .const (.int .i64 (0))] [_] _ rfl rfl VT.en85 (Zv2 (i := 1) rfl) (stop_c gm u (stkV gs (fs.length + 1) cap) (outV tok1 (execF i (takeF f.vals i.args) { M with stack := { f with at_ := f.at_ + 1 } :: fs }).1.out) (execF i (takeF f.vals i.args) { M with stack := { f with at_ := f.at_ + 1 } :: fs }).1 (execF i (takeF f.vals i.args) { M with stack := { f with at_ := f.at_ + 1 } :: fs }).2.2 0) ?_
  rintro r Sa rfl
  refine Za<|Zi<|VW_drawR (G := Unit) [([], [2], []), ([0], [85], []), ([1, 0], [86], []), ([2, 1, 0], [87], []), ([], [4], []), ([4], [89], []), ([], [7], []), (dn 7, [88, 90, 91], [])] [7] (setSt _ 7<|λ _ => .map gv<|kmap kint<|kput (encV (rho (A ++ B1)) f.vals) i.to<|valX (rho (A ++ B1)) (execF i (takeF f.vals i.args) { M with stack := { f with at_ := f.at_ + 1 } :: fs }).2.1) [] [85, 86, 87, 88, 89, 90, 91] rfl VT.mix<|Zp (Zm _) (Zo rfl rfl ⟨(λ γ => Zf (λ _ h2 => Ze (Zn rfl (Zl h2 z0)))), trivial⟩)<|Zp (Zm _) (Zo rfl rfl ⟨(λ γ => Zw 0 0 rfl (λ _ h85 => Ze (Zn rfl (Zv1 h85 z0)))), trivial⟩)<|Zp (Zm _) (Zo rfl rfl ⟨(λ γ => Zw 1 0 rfl (λ _ h86 => Ze (Zn rfl (Zj VT.fa143_4 h86 z0)))), trivial⟩)<|Zp (Zm _) (Zo rfl rfl ⟨(λ γ => Zw 2 0 rfl (λ _ h87 => Ze (Zn rfl (Zu 6 VT.ty141 h87 rfl rfl z0)))), trivial⟩)<|Zp (Zm _) (Zo rfl rfl ⟨(λ γ => Zf (λ _ h4 => Ze (Zn rfl (Zj VT.fa42_0 h4 z0)))), trivial⟩)<|Zp (Zm _) (Zo rfl rfl ⟨(λ γ => Zw 4 0 rfl (λ _ h89 => Ze (Zn rfl (Zu 3 VT.ty3 h89 rfl rfl z0)))), trivial⟩)<|Zp (Zm _) (Zo rfl rfl ⟨(λ γ => Zf (λ _ h7 => Ze (Zn rfl (Zv 1 VT.ty146 h7 rfl rfl z0)))), trivial⟩)<|Zp Za3 (Zn2 rfl<|λ γ => Zw 3 3 rfl<|λ _ h88 => Zw 5 1 rfl<|λ _ h90 => Zw 6 0 rfl<|λ _ h91 => Ze<|Zn rfl<|V_mapUpdate 7 Tryz.underlying141 (key_int Tryz.underlying3) h88 h90 h91 rfl ⟨default, trivial, rfl⟩)<|DrawP_nil<|λ γ => Ze<|Zb1<|Zn3 rfl ?_
  rw [hr]
  refine ⟨_, (Dk (Dd (Dk (Dd (Dd (Dk (Dk (Dk (Zt2 _))))))))), gs, cap, rest, tok1, (gf, gv) :: G, A ++ B1, by simp [stopF, hGl], hA1, hcap, hcm, ?_⟩
  have hke := kput_encV (rho (A ++ B1)) i.to (execF i (takeF f.vals i.args) { M with stack := { f with at_ := f.at_ + 1 } :: fs }).2.1 f.vals
  simp only [hke]
  rfl
 rw [if_neg (by omega)] at hr
 refine Zi1<|Zi<|VW_drawR (G := Unit) [([], [2], []), ([0], [85], []), ([1, 0], [86], []), ([2, 1, 0], [87], []), ([], [4], []), ([4], [89], []), ([], [7], []), (dn 7, [88, 90, 91], [])] [7] (setSt _ 7<|λ _ => .map gv<|kmap kint<|kput (encV (rho (A ++ B1)) f.vals) i.to<|valX (rho (A ++ B1)) (execF i (takeF f.vals i.args) { M with stack := { f with at_ := f.at_ + 1 } :: fs }).2.1) [] [85, 86, 87, 88, 89, 90, 91] rfl VT.mix<|Zp (Zm _) (Zo rfl rfl ⟨(λ γ => Zf (λ _ h2 => Ze (Zn rfl (Zl h2 z0)))), trivial⟩)<|Zp (Zm _) (Zo rfl rfl ⟨(λ γ => Zw 0 0 rfl (λ _ h85 => Ze (Zn rfl (Zv1 h85 z0)))), trivial⟩)<|Zp (Zm _) (Zo rfl rfl ⟨(λ γ => Zw 1 0 rfl (λ _ h86 => Ze (Zn rfl (Zj VT.fa143_4 h86 z0)))), trivial⟩)<|Zp (Zm _) (Zo rfl rfl ⟨(λ γ => Zw 2 0 rfl (λ _ h87 => Ze (Zn rfl (Zu 6 VT.ty141 h87 rfl rfl z0)))), trivial⟩)<|Zp (Zm _) (Zo rfl rfl ⟨(λ γ => Zf (λ _ h4 => Ze (Zn rfl (Zj VT.fa42_0 h4 z0)))), trivial⟩)<|Zp (Zm _) (Zo rfl rfl ⟨(λ γ => Zw 4 0 rfl (λ _ h89 => Ze (Zn rfl (Zu 3 VT.ty3 h89 rfl rfl z0)))), trivial⟩)<|Zp (Zm _) (Zo rfl rfl ⟨(λ γ => Zf (λ _ h7 => Ze (Zn rfl (Zv 0 VT.ty146 h7 rfl rfl z0)))), trivial⟩)<|Zp Za3 (Zn2 rfl<|λ γ => Zw 3 3 rfl<|λ _ h88 => Zw 5 1 rfl<|λ _ h90 => Zw 6 0 rfl<|λ _ h91 => Ze<|Zn rfl<|V_mapUpdate 7 Tryz.underlying141 (key_int Tryz.underlying3) h88 h90 h91 rfl ⟨default, trivial, rfl⟩)<|DrawP_nil<|λ γ => Ze<|Zb1<|Zn3 rfl ?_
 rw [hr]
 refine ⟨_, (Dd (Dk (Dk (Dd (Dd (Dk (Dk (Dk (Zt2 _))))))))), gs, cap, rest, tok1, (gf, gv) :: G, A ++ B1, by simp [stopF, hGl], hA1, hcap, hcm, ?_⟩
 have hke := kput_encV (rho (A ++ B1)) i.to (execF i (takeF f.vals i.args) { M with stack := { f with at_ := f.at_ + 1 } :: fs }).2.1 f.vals
 simp only [hke]
 rfl
end Go.Proofs.YthlflmmnankhhaaGreat.X8
