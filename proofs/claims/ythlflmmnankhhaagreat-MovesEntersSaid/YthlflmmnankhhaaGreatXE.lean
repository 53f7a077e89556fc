import Derived.Test.YthlflmmnankhhaaGreatDZ
import Derived.Test.YthlflmmnankhhaaGreatXD
set_option maxRecDepth 100000
set_option maxHeartbeats 8000000
open Go.VL.Drops renaming keep → Dk
set_option linter.all false
open List renaming append_nil → Ya, replicate → Yb, mem_of_getElem? → Yc, length_append → Yd, length_map → Ye, map_set → Yf, flatMap_cons → Yg, length_set → Yh, append_assoc → Yi, perm_append_comm → Yj, getElem?_eq_none → Yk, mem_singleton → Yl, getElem?_append_right → Ym, take_append_of_le_length → Yn
open Nat renaming le_refl → Yo, mul_one → Yp
section
namespace Go.Proofs.YthlflmmnankhhaaGreat.X12
open Go.VL Go.SM Go.Proofs.YthlflmmnankhhaaGreat X1 X2 X3 X4 X5 X6 X7 X8 X9 X10
theorem ints_flat (P : List (List Int)) : P.map intsX = (P.map intsX).flatMap V.leaves ++ [] := by
 rw [Ya]
 induction P with
 | nil => rfl
 | cons a P ih => rw [List.map_cons, Yg, <- ih]; rfl
theorem ints_fits (P : List (List Int)) : ∀ x ∈ P.map intsX, x.fits 1 = true /\ ((∃ ls, x = .agg ls) \/ x.leaf = true) := λ x hx => by
 obtain ⟨l, _, rfl⟩ := List.mem_map.1 hx
 exact ⟨rfl, .inr rfl⟩
theorem at_preds {P : List (List Int)} {t : Nat} {l : List Int} (h : P[t]? = some l) (k : Nat) (e : SEdge) (ht : e.block.toNat = t) : predE k P e = P.set t (l ++ [(k : Int)]) := by
 rw [predE, ht, h]
 rfl
theorem len_total {P : List (List Int)} {l : List Int} (h : l ∈ P) : l.length <= total P := by
 induction P with
 | nil => cases h
 | cons a P ih =>
  rcases List.mem_cons.1 h with rfl | h
  .simp [total]
  .have := ih h
   simp [total] at this ⊢
   omega
theorem Preds_c (f : SFunc) : VPure Tryz.prog 34 [funcV f] (.tup [rowsX (if funcF f = 0 then predsF f.blocks else []), .int (funcF f)]) := by
 refine V_start (nt := 50) Tryz.func34 rfl rfl rfl ?_
 refine Zb<|Zd<|Zc<|Zc2 rfl rfl<|λ g1 => (Zc<|Zk rfl<|Zc<|Zk rfl<|Za<|Zi<|Zb<|Zb<|Zd<|Zc<|Zv 0 VT.ty31 rfl rfl rfl<|Zc<|Zx1 [.tmp 10] rfl rfl VT.en25 (CheckFunc_c f)<|Zc<|Zk rfl<|Za<|Zi<|Zb<|Zd<|Zc<|Zl rfl<|Zc<|Zj1 rfl rfl rfl<|Za<|Zi<|Zm1 rfl (λ h13 => ?_)<|λ h13 => ?_)
 .
  refine Zb<|Zd<|Zc<|Zl rfl<|Zc<|Zu2 (Zk rfl ⟨rfl, rfl⟩) ((V.le.nil 1 : V.le _ (rowsX [])))<|Zc<|Zk rfl<|Za<|Zi<|Zf1<|Zd1<|Zh1 rfl rfl (.cons (.tmp rfl)<|.cons (.tmp rfl)<|.nil) ?_
  rw [if_neg h13]
  rfl
 have hok := func_ok h13
 have hpos := hok.pos
 have hE := hok.edges
 have h128 := hok.len
 refine Zi1<|Zi<|Zb<|Zd<|Zc<|Zj VT.fa31_1 rfl<|Zc<|Zu 0 VT.ty29 rfl rfl rfl<|Zc<|Zd2 (n := f.blocks.length) Tryz.underlying29 rfl (by simp)<|λ hl17 => (Zc<|V_makeRow (.raw<|.slice none 0 0) (λ m => rfl) rfl VT.sl69 rfl rfl (by omega) (by omega)<|λ g18 => (Zc<|Zk rfl<|Za<|Zi<|VW_cells 0 (ls' := rowP (Yb f.blocks.length .nil) (Yb f.blocks.length [])) rfl (by rw [flat_nil]; exact les_nilRow _)<|VW_nilBufs 3 1 f.blocks.length ?_))
 rw [<- bufsP_nil 3 f.blocks.length]
 refine Zb<|Zb<|Zd<|Zc<|Zj VT.fa31_1 rfl<|Zc<|Zu 1 VT.ty29 rfl rfl rfl<|Zc<|Zd2 (n := f.blocks.length) Tryz.underlying29 rfl (by simp)<|λ hl21 => (Zc<|Zl rfl<|Za<|Zi<|Zs<|Zi2 (ι := Nat × List Tok × List (List Int)) (λ (k, toks, P) => f.blocks.length - k) (λ (k, toks, P) => [(1, some (.ptr g1 0)), (5, some (.raw (.slice (some ⟨g18, 0, none⟩) f.blocks.length f.blocks.length))), (20, some (blocksX f.blocks)), (21, some (.int f.blocks.length)), (22, some (.int k))]) (λ (k, toks, P) => .cells g18 32 (rowP toks P) :: .cells g1 31 [.int f.name, blocksX f.blocks] :: bufsP 3 toks P) (λ (k, toks, P) => k <= f.blocks.length /\ predL k (f.blocks.drop k) P = predsF f.blocks /\ toks.length = P.length /\ P.length = f.blocks.length /\ total P = edgesN (f.blocks.take k)) (0, Yb f.blocks.length .nil, Yb f.blocks.length []) ⟨Nat.zero_le _, rfl, by simp, by simp, total_zero _⟩ ⟨rfl, rfl, rfl, rfl, rfl, trivial⟩ (Dk<|Dk<|Zt2 _) ?_)
 rintro ⟨k, toks, P⟩ hA
 change k <= f.blocks.length /\ predL k (f.blocks.drop k) P = predsF f.blocks /\ toks.length = P.length /\ P.length = f.blocks.length /\ total P = edgesN (f.blocks.take k) at hA
 obtain ⟨hk, hq, htk, hPl, htot⟩ := hA
 refine Zb<|Zd<|Zc<|Zj1 rfl rfl rfl<|Za<|Zi<|Zb<|Zn1 rfl (λ h23 => ?_)<|λ h23 => ?_
 .
  obtain ⟨b, hb⟩ := get_of_lt f.blocks k h23
  have hbm := Yc hb
  have hEb := hE b hbm
  refine Zi1<|Zi<|Zb<|Zs<|Zb<|Zd<|Zc<|Zl rfl<|Zc<|Zz (el := blockV b) VT.sl29 rfl rfl (by omega) (get_mapS _ hb)<|λ a25 => (Zc<|Za2 VT.ty40 rfl rfl<|Zc<|Zb2 VT.zr40 _ rfl rfl<|λ g7 => (Zc<|Zk rfl<|Zc<|Zx 0 VT.ty40 rfl rfl rfl rfl rfl<|Za<|Zi<|Zb<|Zd<|Zc<|Zj VT.fa40_2 rfl<|Zc<|Zj VT.fa38_4 rfl<|Zc<|Zu 0 VT.ty36 rfl rfl rfl<|Zc<|Zd2 (n := b.term.to.length) Tryz.underlying36 rfl (by simp)<|λ hl30 => (Zc<|Zl rfl<|Za<|Zi<|Zs<|Zi2 (ι := Nat × List Tok × List (List Int)) (λ (j, toks1, Q) => b.term.to.length - j) (λ (j, toks1, Q) => [(1, some (.ptr g1 0)), (5, some (.raw (.slice (some ⟨g18, 0, none⟩) f.blocks.length f.blocks.length))), (6, some (.int k)), (20, some (blocksX f.blocks)), (21, some (.int f.blocks.length)), (22, some (.int k)), (29, some (edgesX b.term.to)), (30, some (.int b.term.to.length)), (31, some (.int j))]) (λ (j, toks1, Q) => .cells g18 32 (rowP toks1 Q) :: .cells g1 31 [.int f.name, blocksX f.blocks] :: bufsP 3 toks1 Q) (λ (j, toks1, Q) => j <= b.term.to.length /\ (b.term.to.drop j).foldl (predE k) Q = predB k P b /\ toks1.length = Q.length /\ Q.length = f.blocks.length /\ total Q = edgesN (f.blocks.take k) + j) (0, toks, P) ⟨Nat.zero_le _, rfl, htk, hPl, htot⟩ ⟨rfl, rfl, rfl, rfl, rfl, rfl, rfl, rfl, rfl, trivial⟩ (Drops.drop<|Dk<|Dk<|Zt2 _) ?_)))
  rintro ⟨j, toks1, Q⟩ hA2
  change j <= b.term.to.length /\ (b.term.to.drop j).foldl (predE k) Q = predB k P b /\ toks1.length = Q.length /\ Q.length = f.blocks.length /\ total Q = edgesN (f.blocks.take k) + j at hA2
  obtain ⟨hj, hq1, htk1, hQl, htotQ⟩ := hA2
  refine Zb<|Zd<|Zc<|Zj1 rfl rfl rfl<|Za<|Zi<|Zb<|Zn1 rfl (λ h32 => ?_)<|λ h32 => ?_
  .
   obtain ⟨e, he⟩ := get_of_lt b.term.to j h32
   obtain ⟨he1, he2⟩ := hEb e (Yc he)
   obtain ⟨l, hl⟩ := get_of_lt Q e.block.toNat (by omega)
   obtain ⟨t, ht⟩ := get_of_lt toks1 e.block.toNat (by omega)
   have hpe := at_preds hl k e rfl
   have hlt := len_total (Yc hl)
   have hsm := edges_small hok
   have hte := term_edges hok hbm
   have htk2 := edgesN_take hb
   have hle3 := edgesN_takele f.blocks (k + 1)
   refine Zi1<|Zi<|Zb<|Zs<|Zb<|Zd<|Zc<|Zz (el := edgeV e) VT.sl36 rfl rfl (by omega) (get_mapS _ he)<|λ a33 => (Zc<|Za2 VT.ty64 rfl rfl<|Zc<|Zb2 VT.zr64 _ rfl rfl<|λ g9 => (Zc<|Zx 0 VT.ty64 rfl rfl rfl rfl rfl<|Za<|Zi<|VW_perm ((((bufsP_perm 3 ht hl).cons _).cons _).cons _)<|VW_drawR (G := Tok) [([], [5], []), ([], [9], []), ([1], [36], []), ([], [5], []), ([], [9], []), ([4], [39], []), ([5, 4, 3], [38, 40], []), ([6, 5, 4, 3], [41], []), ([], [6], []), ([8], [43], []), ([9, 8, 7, 6, 5, 4, 3], [42, 44], [0]), (dn 11, [35, 37], []), (dn 12, [46, 45], [])] [10, 12] (twoSt _ (λ x => (.cells g9 64 [.int e.block, intsX e.args] :: .cells g18 32 (rowP toks1 Q) :: .cells g1 31 [.int f.name, blocksX f.blocks] :: .buf x 3 1 (l.map V.int ++ [V.int k]).length :: bufsP 3 (toks1.eraseIdx e.block.toNat) (Q.eraseIdx e.block.toNat)))<|λ x _ => (.cells g9 64 [.int e.block, intsX e.args] :: .cells g18 32 ((rowP toks1 Q).set e.block.toNat (.sl 1 (some x) (l.map V.int ++ [V.int k])) ++ []) :: .cells g1 31 [.int f.name, blocksX f.blocks] :: .buf x 3 1 (l.map V.int ++ [V.int k]).length :: bufsP 3 (toks1.eraseIdx e.block.toNat) (Q.eraseIdx e.block.toNat))) [] [35, 36, 37, 38, 39, 40, 41, 42, 43, 44, 45, 46] rfl VT.mix<|Zp (Zm _) (Zm2 rfl<|λ _ => (λ γ => Zf<|λ _ h5 => Ze<|Zn rfl<|Zl h5 z0))<|Zp (Zm _) (Zm2 rfl<|λ _ => (λ γ => Zf<|λ _ h9 => Ze<|Zn rfl<|Zj VT.fa64_0 h9 z0))<|Zp (Zm _) (Zo rfl rfl ⟨(λ γ => Zw 1 0 rfl (λ _ h36 => Ze (Zn rfl (Zu 0 VT.ty3 h36 rfl rfl z0)))), (λ γ => Zw 1 0 rfl (λ _ h36 => Ze (Zn rfl (Zu 0 VT.ty3 h36 rfl rfl z0)))), trivial⟩)<|Zp (Zm _) (Zo rfl rfl ⟨(λ γ => Zf (λ _ h5 => Ze (Zn rfl (Zl h5 z0)))), trivial⟩)<|Zp (Zm _) (Zo rfl rfl ⟨(λ γ => Zf (λ _ h9 => Ze (Zn rfl (Zj VT.fa64_0 h9 z0)))), trivial⟩)<|Zp (Zm _) (Zo rfl rfl ⟨(λ γ => Zw 4 0 rfl (λ _ h39 => Ze (Zn rfl (Zu 0 VT.ty3 h39 rfl rfl z0)))), trivial⟩)<|Zp (Zm _) (Zo rfl rfl ⟨(λ γ => Zw 3 2 rfl (λ _ h38 => Zw 5 0 rfl (λ _ h40 => Ze (Zn rfl (Zr2 VT.sl69 h38 h40 (by omega) (by omega) z0))))), trivial⟩)<|Zp (Zm _) (Zo rfl rfl ⟨(λ γ => Zw 6 0 rfl (λ _ h41 => Ze (Zn rfl (Zf3 1 e.block.toNat VT.ty32 h41 (by simp) rfl (Ya _).symm (rowP_get ht hl) z0)))), trivial⟩)<|Zp (Zm _) (Zo rfl rfl ⟨(λ γ => Zf (λ _ h6 => Ze (Zn rfl (Zl h6 z0)))), trivial⟩)<|Zp (Zm _) (Zo rfl rfl ⟨(λ γ => Zw 8 0 rfl (λ _ h43 => Ze (Zn rfl (Zk3 [.tmp 43] VT.sl32 rfl rfl rfl (Zp2 h43 Zq2) rfl z0)))), trivial⟩)<|Zp (Zw2<|λ x => .sl 1 (some x) (l.map V.int ++ [V.int k])) (Zo2 0 rfl<|λ γ => Zw 7 2 rfl<|λ _ h42 => Zw 9 0 rfl<|λ _ h44 => Ze<|Zn rfl<|Zi3 3 _ VT.sl32 h42 h44 rfl (by simp) (by simp; omega)<|λ t45 => ⟨t45, ⟨t45, rfl, rfl⟩, rfl⟩)<|Zp (Zm _) (Zo rfl rfl ⟨(λ γ => Zw 0 10 rfl (λ _ h35 => Zw 2 8 rfl (λ _ h37 => Ze (Zn rfl (Zr2 VT.sl69 h35 h37 (by omega) (by omega) z0))))), trivial⟩)<|Zp Za3 (Zo2 1 rfl<|λ γ => Zw 11 0 rfl<|λ _ h46 => Zw 10 1 rfl<|λ _ h45 => Ze<|Zx2 h45<|λ e45 => Zn rfl<|Zh3 1 e.block.toNat VT.ty32 h46 (by simp) e45 rfl rfl (Ya _).symm (by rw [rowP_len htk1]; omega) ⟨default, trivial, rfl⟩)<|DrawP_nil<|λ γ => Ze<|Zb1<|Zi ?_))
   let tk : Tok := γ 0
   refine VW_drops (Drops.drop<|Drops.keepE (congrArg (Own.cells g18 32)<|rowP_snoc toks1 Q e.block.toNat tk l k)<|Dk<|(Drops.keepE (by simp; rfl)<|Zt2 _).trans<|Drops.of_perm<|bufsP_set (t' := tk) (l' := l ++ [(k : Int)]) 3 ht hl) ?_
   rw [<- hpe]
   refine Zd<|Zc<|Zh2 rfl rfl (by omega)<|Zc<|Zl rfl<|Za<|Zi ?_
   exact ⟨(j + 1, toks1.set e.block.toNat tk, predE k Q e), (by (try simp only []); omega), ⟨by omega, by rw [<- hq1, drop_cons he, List.foldl_cons], by rw [Yh, predE_len]; exact htk1, by rw [predE_len]; exact hQl, by rw [hpe, total_set2 hl]; omega⟩, ⟨rfl, rfl, rfl, rfl, rfl, rfl, rfl, rfl, rfl, trivial⟩, (Dk (Dk (Zt2 _)))⟩
  have hje : j = b.term.to.length := by omega
  subst hje
  rw [List.drop_length, List.foldl_nil] at hq1
  subst hq1
  have htot1 : total (predB k P b) = edgesN (f.blocks.take (k + 1)) := by rw [htotQ, edgesN_take hb]
  refine Zt<|Ze1<|Ze1<|Zc1<|Zb1<|Zi<|Zd<|Zc<|Zh2 rfl rfl (by omega)<|Zc<|Zl rfl<|Za<|Zi ?_
  exact ⟨(k + 1, toks1, predB k P b), (by (try simp only []); omega), ⟨by omega, by rw [<- hq, drop_cons hb, predL], htk1, by rw [predB, foldl_len, hPl], htot1⟩, ⟨rfl, rfl, rfl, rfl, rfl, trivial⟩, (Dk (Dk (Zt2 _)))⟩
 have hke : k = f.blocks.length := by omega
 subst hke
 rw [List.drop_length, predL] at hq
 refine Zt<|Ze1<|Ze1<|Zc1<|Zi<|VW_cells 0 (ls' := P.map intsX) rfl (rowP_les toks P htk)<|VW_freeze 0 (q := 5) (rest := []) (P.map intsX) rfl rfl (ints_flat P) (by simp [hPl]) (Yo _) (by simp only [maxLen]; omega) (ints_fits P)<|Zb<|Zd<|Zc<|Zl rfl<|Zc<|Zk rfl<|Zc<|Zk rfl<|Za<|Zi<|Zf1<|Zh1 rfl rfl (.cons (.tmp rfl)<|.cons (.tmp rfl)<|.nil) ?_
 rw [if_pos h13, h13, <- hq]; first | done | rfl
end Go.Proofs.YthlflmmnankhhaaGreat.X12
end
section
namespace Go.Proofs.YthlflmmnankhhaaGreat.X13
open Go.VL Go.SM Go.Proofs.YthlflmmnankhhaaGreat X1 X2 X3 X4 X5 X6 X7 X8 X9 X10 X12
def stk0 (st : List (Nat × Nat)) : List V := st.reverse.flatMap λ p => [V.int p.1, V.int p.2]
def stkL (st : List (Nat × Nat)) (rest : List V) : List V := stk0 st ++ rest
theorem stk0_cons (b e : Nat) (tl : List (Nat × Nat)) : stk0 ((b, e) :: tl) = stk0 tl ++ [V.int b, V.int e] := by simp [stk0]
theorem stk0_len : ∀ st : List (Nat × Nat), (stk0 st).length = st.length * 2
 | [] => rfl
 | (b, e) :: st => by simp only [stk0_cons, Yd, stk0_len st, List.length_cons, List.length_nil]; omega
theorem flat_false (n : Nat) : (Yb n (V.raw (.bool false))).flatMap V.leaves = Yb n (V.bool false) := by
 induction n with
 | zero => rfl
 | succ n ih => rw [List.replicate_succ, Yg, ih]; rfl
theorem stkL_cons (b e : Nat) (tl : List (Nat × Nat)) (rest : List V) : stkL ((b, e) :: tl) rest = stk0 tl ++ ([V.int b, V.int e] ++ rest) := by rw [stkL, stk0_cons, Yi]
theorem stk_get0 (b e : Nat) (tl : List (Nat × Nat)) (rest : List V) : (stkL ((b, e) :: tl) rest)[tl.length * 2]? = some (V.int b) := by
 rw [stkL_cons, Ym (by rw [stk0_len]; exact Yo _), stk0_len, Nat.sub_self]
 rfl
theorem stk_get1 (b e : Nat) (tl : List (Nat × Nat)) (rest : List V) : (stkL ((b, e) :: tl) rest)[tl.length * 2 + 1]? = some (V.int e) := by
 rw [stkL_cons, Ym (by rw [stk0_len]; omega), stk0_len, show tl.length * 2 + 1 - tl.length * 2 = 1 by omega]
 rfl
theorem stk_ble (b e : Nat) (tl : List (Nat × Nat)) (rest : List V) : Nat.ble (tl.length * 2 + 1 + 1) (stkL ((b, e) :: tl) rest).length = true := Nat.ble_eq_true_of_le (by rw [stkL_cons, Yd, stk0_len]; simp; omega)
theorem stk_set (b e : Nat) (tl : List (Nat × Nat)) (rest : List V) : (stkL ((b, e) :: tl) rest).set (tl.length * 2 + 1) (V.int ((e : Int) + 1)) = stkL ((b, e + 1) :: tl) rest := by
 rw [stkL_cons, stkL_cons, List.set_append_right _ _ (by rw [stk0_len]; omega), stk0_len, show tl.length * 2 + 1 - tl.length * 2 = 1 by omega]
 rfl
theorem stk_pop (b e : Nat) (tl : List (Nat × Nat)) (rest : List V) : stkL ((b, e) :: tl) rest = stkL tl ([V.int b, V.int e] ++ rest) := by rw [stkL_cons, stkL]
theorem stk_push (n : Int) (k : Nat) (hk : n = k) (st : List (Nat × Nat)) (rest rest' : List V) : (stkL st rest).take (st.length * 2) ++ ([V.int n, V.int 0] ++ rest') = stkL ((k, 0) :: st) rest' := by
 subst hk
 rw [stkL_cons, stkL, Yn (by rw [stk0_len]; exact Yo _), List.take_of_length_le (by rw [stk0_len]; exact Yo _)]
 rfl
theorem stkL_len (st : List (Nat × Nat)) (rest : List V) : (stkL st rest).length = st.length * 2 + rest.length := by rw [stkL, Yd, stk0_len]
theorem bools_set (l : List Bool) (k : Nat) (b : Bool) : (l.map V.bool).set k (V.bool b) ++ [] = (l.set k b).map V.bool := by rw [Ya, Yf]
theorem get_bool {l : List Bool} {k : Nat} {b : Bool} (h : l[k]? = some b) : (l.map V.bool)[k]? = some (V.bool b) := by simp [h]
theorem perm_clo {m o r : Own} {O : Store} : (m :: o :: r :: O).Perm (O ++ [m, o, r]) := Yj (l₁ := [m, o, r])
theorem drop_clo {m o r : Own} {O : Store} : Drops (O ++ [m, o, r]) (m :: o :: r :: O) := Drops.of_perm (Yj (l₂ := [m, o, r]))
def natsX (l : List Nat) : List V := (l.map λ (k : Nat) => (k : Int)).map V.int
theorem natsX_len (l : List Nat) : (natsX l).length = l.length := by simp [natsX]
theorem natsX_app (l : List Nat) (k : Nat) : natsX (l ++ [k]) = natsX l ++ [V.int k] := by simp [natsX]
def ordS (g : Nat) : Option (Nat × Nat × List V) -> List Nat -> Store
 | none, l => [.cells g 32 [.raw (.slice none 0 0)]]
 | some (gs, cap, rest), l => [.cells g 32 [.raw (.slice (some ⟨gs, 0, none⟩) l.length cap)], .cells gs 3 (natsX l ++ rest)]
def ordOk : Option (Nat × Nat × List V) -> List Nat -> Prop
 | none, l => l = []
 | some (gs, cap, rest), l => (natsX l ++ rest).length = cap /\ l.length <= cap /\ cap <= maxLen
theorem ordOk_some {x : Option (Nat × Nat × List V)} {l : List Nat} (h : ordOk x l) (hl : l ≠ []) : ∃ y, x = some y := by
 cases x with
 | none => exact absurd h hl
 | some y => exact ⟨y, rfl⟩
theorem rev_step {l c : List Int} {i : Nat} {x y : Int} (hc : c.length = l.length) (hget : ∀ t, t < l.length -> c[t]? = if t < i \/ l.length - i <= t then l[l.length - 1 - t]? else l[t]?) (hi : i < l.length - 1 - i) (hx : c[i]? = some x) (hy : c[l.length - 1 - i]? = some y) :
  ∀ t, t < l.length -> ((c.set i y).set (l.length - 1 - i) x)[t]? = if t < i + 1 \/ l.length - (i + 1) <= t then l[l.length - 1 - t]? else l[t]? := λ t ht => by
 rw [hget i (by omega), if_neg (by omega)] at hx
 rw [hget _ (by omega), if_neg (by omega)] at hy
 rw [List.getElem?_set]
 split
 .rename_i e
  subst e
  rw [if_pos (by rw [Yh, hc]; omega), if_pos (by omega), <- hx]
  congr 1
  omega
 .rw [List.getElem?_set]
  split
  .rename_i e
   subst e
   rw [if_pos (by omega), if_pos (by omega), <- hy]
  .rw [hget t ht]
   by_cases h : t < i \/ l.length - i <= t
   .rw [if_pos h, if_pos (by omega)]
   .rw [if_neg h, if_neg (by omega)]
theorem rev_done {l c : List Int} {i : Nat} (hc : c.length = l.length) (hget : ∀ t, t < l.length -> c[t]? = if t < i \/ l.length - i <= t then l[l.length - 1 - t]? else l[t]?) (hi : l.length - 1 - i <= i) : c = l.reverse := by
 apply List.ext_getElem?
 intro t
 by_cases ht : t < l.length
 .rw [hget t ht, List.getElem?_reverse ht]
  split
  .rfl
  .congr 1
   omega
 .rw [Yk (by omega), Yk (by rw [List.length_reverse]; omega)]
theorem flat_ints (l : List Int) : (l.map V.int).flatMap V.leaves = l.map V.int := by
 induction l with
 | nil => rfl
 | cons a l ih => rw [List.map_cons, Yg, ih]; rfl
theorem flat_fits (l : List Int) : ∀ x ∈ l.map V.int, x.fits 1 = true /\ ((∃ ls, x = .agg ls) \/ x.leaf = true) := λ x hx => by
 obtain ⟨n, _, rfl⟩ := List.mem_map.1 hx
 exact ⟨rfl, .inr rfl⟩
theorem leave0_c (g : Nat) (k : Nat) : VCalls Tryz.prog 39 [.int k, .ptr g 0] (ordS g none []) λ r S' => ∃ x, S' = ordS g (some x) [k] /\ ordOk (some x) [k] := by
 refine VCalls_drops<|V_start (nt := 7) Tryz.func39 rfl rfl rfl ?_
 refine Zd<|Zc<|Zu 0 VT.ty32 rfl rfl rfl<|Zc<|Zl rfl<|Zc<|Zk3 [.tmp 4] VT.sl32 rfl rfl rfl rfl rfl<|Zc<|V_appendRowL VT.sl32 (by decide) rfl rfl (by simp) (by simp) (by intro y hy; rw [Yl.1 hy]; rfl)<|λ g6 cap6 rest6 hc6 hm6 hl6 => (Zc<|Zy 1 VT.ty32 rfl rfl rfl rfl rfl<|Za<|Zn3 rfl<|⟨_, (Drops.pick 1 rfl rfl (Drops.pick 0 rfl rfl (Drops.nil _))), (g6, cap6, rest6), rfl, ?_, hc6, hm6⟩)
 exact hl6.trans (Yp _)
theorem leave1_c (g gs cap : Nat) (rest : List V) (l : List Nat) (k : Nat) (hl : l.length <= 1000000) (hok : ordOk (some (gs, cap, rest)) l) : VCalls Tryz.prog 39 [.int k, .ptr g 0] (ordS g (some (gs, cap, rest)) l) λ r S' => ∃ x, S' = ordS g (some x) (l ++ [k]) /\ ordOk (some x) (l ++ [k]) := by
 refine VCalls_drops ?_
 obtain ⟨hll, hlc, hcm⟩ := hok
 have htk : (natsX l ++ rest).take (l.length * 1) = natsX l := by rw [Yp, Yn (by rw [natsX_len]; exact Yo _), List.take_of_length_le (by rw [natsX_len]; exact Yo _)]
 refine V_start (nt := 7) Tryz.func39 rfl rfl rfl ?_
 refine Zd<|Zc<|Zu 0 VT.ty32 rfl rfl rfl<|Zc<|Zl rfl<|Zc<|Zk3 [.tmp 4] VT.sl32 rfl rfl rfl rfl rfl<|Zc<|V_appendRaw 1 VT.sl32 (by decide) rfl rfl rfl (by rw [hll, Yp]) hlc hcm (by simp; omega) (by intro y hy; rw [Yl.1 hy]; rfl)<|λ g6 cap6 rest6 hc6 hm6 hl6 => (Zc<|Zy 0 VT.ty32 rfl rfl rfl rfl rfl<|Za<|Zn3 rfl ?_)
 rw [htk] at hl6
 refine ⟨_, (Dk (Dk (Zt2 _))), (g6, cap6, rest6), ?_, ?_, ?_, hm6⟩
 . rw [htk, ordS, natsX_app, Yi, Yd]; rfl
 . rw [natsX_app, Yi]; exact hl6.trans (Yp _)
 . rw [Yd]; exact hc6
theorem leave_c (g : Nat) (x : Option (Nat × Nat × List V)) (l : List Nat) (k : Nat) (h : ordOk x l) (hl : l.length <= 128) : VCalls Tryz.prog 39 [.int k, .ptr g 0] (ordS g x l) λ r S' => ∃ x, S' = ordS g x (l ++ [k]) /\ ordOk x (l ++ [k]) := by
 cases x with
 | none =>
  have h : l = [] := h
  subst h
  exact (leave0_c g k).mono λ r S' ⟨x, h1, h2⟩ => ⟨some x, h1, h2⟩
 | some x => exact (leave1_c g x.1 x.2.1 x.2.2 l k (Nat.le_trans hl (by omega)) h).mono λ r S' ⟨x, h1, h2⟩ => ⟨some x, h1, h2⟩
theorem search_c (name : Int) (bs : List SBlock) (h0 : 0 < bs.length) (h128 : bs.length <= 128) (hE : ∀ b ∈ bs, ∀ e ∈ b.term.to, 1 <= e.block /\ e.block < bs.length) {c : FuncId} {caps : List V} (hen : Enters Tryz.prog c) {ι : Type} (O : ι -> List Nat -> Store) (Ok : ι -> List Nat -> Prop) (tok0 : ι) (hok0 : Ok tok0 []) (hc : ∀ tok l k, Ok tok l -> l.length <= 128 -> VCalls Tryz.prog c (.int (k : Nat) :: caps) (O tok l) λ r S' => ∃ tok', S' = O tok' (l ++ [k]) /\ Ok tok' (l ++ [k])) : VCalls Tryz.prog 38 [.agg [.int name, blocksX bs], .clo (.func c) caps] (O tok0 []) λ r S' => ∃ tok', S' = O tok' (postF bs) /\ Ok tok' (postF bs) := by
 refine VCalls_drops<|V_start (nt := 81) Tryz.func38 rfl rfl rfl ?_
 refine Zb<|Zd<|Zc<|Zc2 rfl rfl<|λ g2 => (Za<|Zi<|Zb<|Zd<|Zc<|Zj VT.fa31_1 rfl<|Zc<|Zu 0 VT.ty29 rfl rfl rfl<|Zc<|Zd2 (n := bs.length) Tryz.underlying29 rfl (by simp)<|λ hl11 => (Zc<|V_makeRow (.raw<|.bool false) (λ m => rfl) rfl VT.sl103 rfl rfl (by omega) (by omega)<|λ g12 => (Zc<|Zk rfl<|Za<|Zi ?_)))
 rw [flat_false, Int.toNat_natCast]
 refine Zb<|Zd<|Zc<|Zl rfl<|Zc<|Zr2 VT.sl103 rfl rfl (by omega) (by omega)<|Zc<|Zh3 0 0 VT.ty4 rfl (by simp) rfl rfl rfl (Ya _).symm (by simp; omega)<|Za<|Zi<|Zb<|Zd<|Zc<|Zf2 [] [] VT.st111 rfl rfl rfl rfl<|Zc<|V_litRow [.tmp 15] VT.sl112 rfl rfl rfl rfl rfl<|λ g16 => (Zc<|Zk rfl<|Za<|Zi<|Zs<|Zi2 (ι := Nat × DState × Nat × Nat × List V × ι) (λ (m, s, gs, cap, rest, tok) => m) (λ (m, s, gs, cap, rest, tok) => [(1, some (.clo (.func c) caps)), (2, some (.ptr g2 0)), (4, some (.raw (.slice (some ⟨g12, 0, none⟩) bs.length bs.length))), (5, some (.raw (.slice (some ⟨gs, 0, none⟩) s.stack.length cap)))]) (λ (m, s, gs, cap, rest, tok) => .cells gs 111 (stkL s.stack rest) :: .cells g12 4 (s.seen.map V.bool) :: .cells g2 31 [.int name, blocksX bs] :: O tok s.out) (λ (m, s, gs, cap, rest, tok) => (dfsRun bs m s).out = postF bs /\ DfsInv bs s /\ dfsW bs s <= m /\ (stkL s.stack rest).length = cap * 2 /\ s.stack.length <= cap /\ cap <= maxLen /\ Ok tok s.out) (edgesN bs + bs.length, dfsStart bs.length, g16, 1, [], tok0) ⟨rfl, start_inv h0, by rw [start_weight h0]; exact Yo _, rfl, Yo _, by simp only [maxLen]; omega, hok0⟩ ⟨rfl, rfl, rfl, rfl, trivial⟩ (Dk<|Drops.keepE (congrArg (Own.cells g12 4) (by rw [Ya]; simp [dfsStart, Yf]))<|Dk<|Zt2 _) ?_)
 rintro ⟨m, ⟨seen, stack, out⟩, gs, cap, rest, tok⟩ hA
 obtain ⟨hgo, hI, hw, hll, hlc, hcm, hok⟩ := hA
 dsimp only at hgo hI hw hll hlc hcm hok
 have hsl := (dfs_small hI).1
 have hol := Nat.le_trans (dfs_small hI).2 h128
 refine Zb<|Zb<|Zd<|Zc<|Zl rfl<|Zc<|Zu2 (V_len_raw Tryz.underlying112 rfl ⟨rfl, rfl⟩) ((V.le.refl _ : V.le _ (.int (stack.length : Int))))<|Zc<|Zj1 rfl rfl rfl<|Za<|Zi<|Zn1 rfl (λ h19 => ?_)<|λ h19 => ?_
 .
  obtain ⟨p, tl, rfl⟩ := List.exists_cons_of_ne_nil (l := stack) (λ e => by subst e; simp at h19)
  obtain ⟨b, e⟩ := p
  have hp := hI.stk (b, e) (List.mem_cons_self ..)
  dsimp only at hp
  obtain ⟨bl, hbl⟩ := get_of_lt bs b (by omega)
  have hto := toAt_get hbl
  rw [hto] at hp
  have hne : (DState.mk seen ((b, e) :: tl) out).stack ≠ [] := by simp
  have hw1 := step_w hI.toDfsInv0 hne
  obtain ⟨m, rfl⟩ : ∃ j, m = j + 1 := ⟨m - 1, by omega⟩
  rw [dfsRun, if_neg hne] at hgo
  have hI2 := step_inv hE hI
  have hse : dfsStep bs ⟨seen, (b, e) :: tl, out⟩ = _ := dfsStep.eq_def bs ⟨seen, (b, e) :: tl, out⟩
  dsimp only at hse
  rw [hto] at hse
  simp only [List.length_cons] at hlc hsl
  refine Zi1<|Zi<|Zs<|Zb<|Zd<|Zc<|Zl rfl<|Zc<|Zl rfl<|Zc<|Zu2 (V_len_raw Tryz.underlying112 rfl ⟨rfl, rfl⟩) ((V.le.refl _ : V.le _ (.int ((tl.length + 1 : Nat) : Int))))<|Zc<|Zu2 (Zk2 rfl rfl (by omega) ⟨rfl, rfl⟩) ((V.le.of_eq (congrArg V.int (show ((tl.length + 1 : Nat) : Int) - 1 = (tl.length : Int) by omega)) : V.le _ (.int (tl.length : Int))))<|Zc<|Zu2 (Zr2 VT.sl112 rfl rfl (by omega) (by show (tl.length : Int) < ((tl.length + 1 : Nat) : Int); omega) ⟨rfl, rfl⟩) ((V.le.of_eq (congrArg (V.ptr gs) (by simp)) : V.le _ (.ptr gs (tl.length * 2))))<|Zc<|Zk rfl<|Za<|Zi<|Zb<|VW_drawR (G := Unit) [([], [2], []), ([0], [25], []), ([], [6], []), ([2], [27], []), ([3, 2], [28], []), ([4, 3, 2], [29], []), (dn 6, [26, 30], []), (dn 7, [31], []), (dn 8, [32], []), (dn 9, [33], []), (dn 10, [34], [])] [] (constSt _) [7] [7, 25, 26, 27, 28, 29, 30, 31, 32, 33, 34] rfl VT.mix<|ZA (λ γ => Zf<|λ _ h2 => Ze<|Zn rfl<|Zj VT.fa31_1 h2 z0)<|ZA (λ γ => Zw 0 0 rfl<|λ _ h25 => Ze<|Zn rfl<|Zu 2 VT.ty29 h25 rfl rfl z0)<|ZA (λ γ => Zf<|λ _ h6 => Ze<|Zn rfl<|Zl h6 z0)<|ZA (λ γ => Zw 2 0 rfl<|λ _ h27 => Ze<|Zn rfl<|Zv1 h27 z0)<|ZA (λ γ => Zw 3 0 rfl<|λ _ h28 => Ze<|Zn rfl<|Zj VT.fa111_0 h28 z0)<|ZA (λ γ => Zw 4 0 rfl<|λ _ h29 => Ze<|Zn rfl<|Zu 0 VT.ty3 h29 rfl (stk_get0 b e tl rest) z0)<|Zp (Zb3 _) (Zq<|λ γ => Zw 1 4 rfl<|λ _ h26 => Zw 5 0 rfl<|λ _ h30 => Ze<|Zn rfl<|Zz (el := blockV bl) VT.sl29 h26 h30 (by omega) (get_mapS _ hbl)<|λ a31 => ⟨⟨_, rfl⟩, rfl⟩)<|Zp (Zb3 _) (Zq<|λ γ => Zw 6 0 rfl<|λ _ h31 => Ze<|Zc3 h31<|λ a_31 e31 => Zn rfl<|Zs2 VT.fa40_2 e31 ⟨⟨_, rfl⟩, rfl⟩)<|Zp (Zb3 _) (Zq<|λ γ => Zw 7 0 rfl<|λ _ h32 => Ze<|Zc3 h32<|λ a_32 e32 => Zn rfl<|Zw1 VT.fa38_4 e32 rfl ⟨⟨_, rfl⟩, rfl⟩)<|ZA (λ γ => Zw 8 0 rfl<|λ _ h33 => Ze<|Zc3 h33<|λ a_33 e33 => Zn rfl<|Zz1 VT.ty36 e33 rfl z0)<|ZA (λ γ => Zw 9 0 rfl<|λ _ h34 => Ze<|Zn rfl<|Zk h34 z0)<|DrawP_nil<|λ γ => Zw 10 0 rfl<|λ r7 h7 => Ze ?_
  have e7 : r7 = some _ := h7
  subst e7
  clear h7
  refine Zi<|Zb<|Zb<|Zd<|Zc<|Zl rfl<|Zc<|Zv1 rfl<|Zc<|Zj VT.fa111_1 rfl<|Zc<|Zu 0 VT.ty3 rfl rfl (stk_get1 b e tl rest)<|Zc<|Zl rfl<|Zc<|Zd2 (n := bl.term.to.length) Tryz.underlying36 rfl (by simp)<|λ hl40 => (Zc<|Zj1 rfl rfl rfl<|Za<|Zi<|Zl1 rfl (λ h41 => ?_)<|λ h41 => ?_)
  .
   have hnone : bl.term.to[e]? = none := Yk (by omega)
   rw [hnone] at hse
   dsimp only at hse
   rw [hse] at hgo hI2 hw1
   have hll2 := hll
   rw [stk_pop] at hll2
   have hle2 : tl.length <= cap := by omega
   have hcm2 := hcm
   refine Zb<|Zd<|Zc<|Zl rfl<|Zc<|Zl rfl<|Zc<|Zv1 rfl<|Zc<|Zj VT.fa111_0 rfl<|Zc<|Zu 0 VT.ty3 rfl rfl (stk_get0 b e tl rest)<|Zc<|V_callCloG [.tmp 46] (O tok out) [_, _, _] rfl rfl rfl hen perm_clo (hc tok out b hok hol) ?_
   rintro r Sa ⟨tok2, rfl, hok2⟩
   refine ⟨_, drop_clo, ?_⟩
   refine Za<|Zi<|Zb<|Zd<|Zc<|Zl rfl<|Zc<|Zl rfl<|Zc<|Zu2 (V_len_raw Tryz.underlying112 rfl ⟨rfl, rfl⟩) ((V.le.refl _ : V.le _ (.int ((tl.length + 1 : Nat) : Int))))<|Zc<|Zu2 (Zk2 rfl rfl (by omega) ⟨rfl, rfl⟩) ((V.le.of_eq (congrArg V.int (show ((tl.length + 1 : Nat) : Int) - 1 = (tl.length : Int) by omega)) : V.le _ (.int (tl.length : Int))))<|Zc<|V_slice_rawTo VT.sl112 rfl rfl (by omega) (by omega)<|Zc<|Zk rfl<|Za<|Zi<|Zt<|Ze1<|Zc1<|Zi ?_
   exact ⟨(m, ⟨seen, tl, out ++ [b]⟩, gs, cap, [V.int b, V.int e] ++ rest, tok2), (by (try simp only []); omega), ⟨hgo, hI2, by omega, hll2, hle2, hcm2, hok2⟩, ⟨rfl, rfl, rfl, rfl, trivial⟩, (Drops.keepE (by first | rfl | exact congrArg (Own.cells gs 111) (stk_pop b e tl rest) | exact congrArg (Own.cells g80 111) hpush) (Drops.keepE (by first | rfl | exact congrArg (Own.cells g12 4) (bools_set _ _ _)) (Dk (Zt2 _))))⟩
  obtain ⟨x, hx⟩ := get_of_lt bl.term.to e (by omega)
  obtain ⟨hx1, hx2⟩ := hE bl (Yc hbl) x (Yc hx)
  rw [hx] at hse
  dsimp only at hse
  obtain ⟨sb, hsb⟩ : ∃ v, seen[x.block.toNat]? = some v := ⟨_, List.getElem?_eq_getElem (by rw [hI.len]; omega)⟩
  refine Zi1<|Zi<|Zb<|Zd<|Zc<|Zl rfl<|Zc<|Zl rfl<|Zc<|Zv1 rfl<|Zc<|Zj VT.fa111_1 rfl<|Zc<|Zu 0 VT.ty3 rfl rfl (stk_get1 b e tl rest)<|Zc<|Zz (el := edgeV x) VT.sl36 rfl rfl (by omega) (get_mapS _ hx)<|λ a58 => (Zc<|Zw1 VT.fa64_0 rfl rfl<|Zc<|Zz1 VT.ty3 rfl rfl<|Zc<|Zk rfl<|Za<|Zi<|Zb<|Zd<|Zc<|Zl rfl<|Zc<|Zv1 rfl<|Zc<|Zj VT.fa111_1 rfl<|Zc<|Zu 0 VT.ty3 rfl rfl (stk_get1 b e tl rest)<|Zc<|Zh2 rfl rfl (by omega)<|Zc<|Zv1 rfl<|Zc<|Zj VT.fa111_1 rfl<|Zc<|Zy 0 VT.ty3 rfl rfl rfl rfl (stk_ble b e tl rest)<|Za<|Zi ?_)
  rw [stk_set b e tl rest]
  refine Zb<|Zd<|Zc<|Zl rfl<|Zc<|Zl rfl<|Zc<|Zr2 VT.sl103 rfl rfl (by omega) (by omega)<|Zc<|Zf3 1 x.block.toNat VT.ty4 rfl (by simp) rfl (Ya _).symm (get_bool hsb)<|Zc<|Zl2 rfl<|Za<|Zi<|Zo1 rfl (λ h72 => ?_)<|λ h72 => ?_
  .
   subst h72
   rw [if_pos hsb] at hse
   rw [hse] at hgo hI2 hw1
   refine Zb<|Zd<|Zc<|Zl rfl<|Zc<|Zl rfl<|Zc<|Zr2 VT.sl103 rfl rfl (by omega) (by omega)<|Zc<|Zh3 1 x.block.toNat VT.ty4 rfl (by simp) rfl rfl rfl (Ya _).symm (by rw [Ye, hI.len]; omega)<|Za<|Zi<|Zd<|Zc<|Zl rfl<|Zc<|Zl rfl<|Zc<|Zf2 [0] [.tmp 77] VT.st111 rfl rfl rfl rfl<|Zc<|Zk3 [.tmp 78] VT.sl112 rfl rfl rfl rfl rfl<|Zc<|V_appendRaw 0 VT.sl112 (by decide) rfl rfl rfl (by rw [stkL_len] at hll ⊢; exact hll) hlc hcm (by simp; omega) (by intro y hy; rw [Yl.1 hy]; rfl)<|λ g80 cap80 rest80 hc80 hm80 hl80 => ?_
   have hpush := stk_push x.block x.block.toNat (by omega) ((b, e + 1) :: tl) rest rest80
   have hll2 : (stkL ((x.block.toNat, 0) :: (b, e + 1) :: tl) rest80).length = cap80 * 2 := (congrArg List.length hpush).symm.trans hl80
   have hle2 : tl.length + 1 + 1 <= cap80 := hc80
   have hcm2 := hm80
   have hok2 := hok
   refine Zc<|Zk rfl<|Za<|Zb1<|Zi ?_
   exact ⟨(m, ⟨seen.set x.block.toNat true, (x.block.toNat, 0) :: (b, e + 1) :: tl, out⟩, g80, cap80, rest80, tok), (by (try simp only []); omega), ⟨hgo, hI2, by omega, hll2, hle2, hcm2, hok2⟩, ⟨rfl, rfl, rfl, rfl, trivial⟩, (Drops.keepE (by first | rfl | exact congrArg (Own.cells gs 111) (stk_pop b e tl rest) | exact congrArg (Own.cells g80 111) hpush) (Drops.keepE (by first | rfl | exact congrArg (Own.cells g12 4) (bools_set _ _ _)) (Dk (Zt2 _))))⟩
  have hok2 := hok
  subst h72
  rw [if_neg (by rw [hsb]; decide)] at hse
  rw [hse] at hgo hI2 hw1
  have hll2 : (stkL ((b, e + 1) :: tl) rest).length = cap * 2 := by rw [stkL_len] at hll ⊢; exact hll
  have hle2 : tl.length + 1 <= cap := hlc
  have hcm2 := hcm
  refine Zi1<|Zb1<|Zi ?_
  exact ⟨(m, ⟨seen, (b, e + 1) :: tl, out⟩, gs, cap, rest, tok), (by (try simp only []); omega), ⟨hgo, hI2, by omega, hll2, hle2, hcm2, hok2⟩, ⟨rfl, rfl, rfl, rfl, trivial⟩, (Drops.keepE (by first | rfl | exact congrArg (Own.cells gs 111) (stk_pop b e tl rest) | exact congrArg (Own.cells g80 111) hpush) (Drops.keepE (by first | rfl | exact congrArg (Own.cells g12 4) (bools_set _ _ _)) (Dk (Zt2 _))))⟩
 have hse : stack = [] := List.length_eq_zero_iff.1 (by omega)
 subst hse
 have hpo : postF bs = out := by rw [<- hgo]; cases m <;> simp [dfsRun]
 refine Zt<|Ze1<|Ze1<|Zc1<|Zn3 rfl ?_
 exact ⟨_, Drops.drop (Drops.drop (Drops.drop (Zt2 _))), tok, by rw [hpo], by rw [hpo]; exact hok⟩
theorem Reverse_c (gs cap : Nat) (l : List Int) (rest : List V) (hl : l.length <= 1000000) : VCalls Tryz.prog 40 [.raw (.slice (some ⟨gs, 0, none⟩) l.length cap)] [.cells gs 3 (l.map V.int ++ rest)] λ r S' => S' = [.cells gs 3 (l.reverse.map V.int ++ rest)] := by
 refine VCalls_drops<|V_start (nt := 28) Tryz.func40 rfl rfl rfl ?_
 refine Zb<|Zd<|Zc<|Zl rfl<|Zc<|V_len_raw Tryz.underlying32 rfl<|Zc<|Zk2 rfl rfl (by omega)<|Zc<|Zk rfl<|Zc<|Zk rfl<|Za<|Zi<|Zs<|Zi2 (ι := Nat × List Int) (λ (i, c) => l.length - i) (λ (i, c) => [(0, some (.raw (.slice (some ⟨gs, 0, none⟩) l.length cap))), (2, some (.int i)), (3, some (.int ((l.length : Int) - 1 - i)))]) (λ (i, c) => [.cells gs 3 (c.map V.int ++ rest)]) (λ (i, c) => c.length = l.length /\ 2 * i <= l.length + 1 /\ ∀ t, t < l.length -> c[t]? = if t < i \/ l.length - i <= t then l[l.length - 1 - t]? else l[t]?) (0, l) ⟨rfl, by omega, λ t ht => by rw [if_neg (by omega)]⟩ ⟨rfl, rfl, (congrArg (λ n : Int => some (V.int n)) (by omega)), trivial⟩ (Dk<|Zt2 _) ?_
 rintro ⟨i, c⟩ hA
 change c.length = l.length /\ 2 * i <= l.length + 1 /\ ∀ t, t < l.length -> c[t]? = if t < i \/ l.length - i <= t then l[l.length - 1 - t]? else l[t]? at hA
 obtain ⟨hc, hi, hget⟩ := hA
 refine Zb<|Zb<|Zd<|Zc<|Zl rfl<|Zc<|Zl rfl<|Zc<|Zj1 rfl rfl rfl<|Za<|Zi<|Zn1 rfl (λ h9 => ?_)<|λ h9 => ?_
 .
  obtain ⟨x, hx⟩ := get_of_lt c i (by omega)
  obtain ⟨y, hy⟩ := get_of_lt c (l.length - 1 - i) (by omega)
  have hjj : ((l.length : Int) - 1 - i).toNat = l.length - 1 - i := by omega
  refine Zi1<|Zi<|Zb<|Zs<|VW_drawR (G := Unit) [([], [0], []), ([], [2], []), ([], [0], []), ([], [3], []), ([], [0], []), ([], [3], []), ([5, 4], [18, 19], []), ([6, 5, 4], [20], []), ([], [0], []), ([], [2], []), ([9, 8], [22, 23], []), ([10, 9, 8], [24], []), ([11, 10, 9, 8, 7, 6, 5, 4, 1, 0], [14, 15], []), ([12, 11, 10, 9, 8, 7, 6, 5, 4, 1, 0], [26, 21], []), (dn 14, [16, 17], []), (dn 15, [27, 25], [])] [13, 15] (twoSt _ (λ _ => [.cells gs 3 ((c.map V.int).set i (V.int y) ++ rest)])<|λ _ _ => [.cells gs 3 (((c.map V.int).set i (V.int y)).set (l.length - 1 - i) (V.int x) ++ rest)]) [] [14, 15, 16, 17, 18, 19, 20, 21, 22, 23, 24, 25, 26, 27] rfl VT.mix<|Zp (Zm _) (Zo rfl rfl ⟨(λ γ => Zf (λ _ h0 => Ze (Zn rfl (Zl h0 z0)))), trivial⟩)<|Zp (Zm _) (Zo rfl rfl ⟨(λ γ => Zf (λ _ h2 => Ze (Zn rfl (Zl h2 z0)))), trivial⟩)<|Zp (Zm _) (Zm2 rfl<|λ _ => (λ γ => Zf<|λ _ h0 => Ze<|Zn rfl<|Zl h0 z0))<|Zp (Zm _) (Zm2 rfl<|λ _ => (λ γ => Zf<|λ _ h3 => Ze<|Zn rfl<|Zl h3 z0))<|Zp (Zm _) (Zo rfl rfl ⟨(λ γ => Zf (λ _ h0 => Ze (Zn rfl (Zl h0 z0)))), trivial⟩)<|Zp (Zm _) (Zo rfl rfl ⟨(λ γ => Zf (λ _ h3 => Ze (Zn rfl (Zl h3 z0)))), trivial⟩)<|Zp (Zm _) (Zo rfl rfl ⟨(λ γ => Zw 4 1 rfl (λ _ h18 => Zw 5 0 rfl (λ _ h19 => Ze (Zn rfl (Zu2 (Zr2 VT.sl32 h18 h19 (by omega) (by omega) z0) ((V.le.of_eq (congrArg (V.ptr gs) (by omega)) : V.le _ (.ptr gs (l.length - 1 - i)))) z0))))), trivial⟩)<|Zp (Zm _) (Zo rfl rfl ⟨(λ γ => Zw 6 0 rfl (λ _ h20 => Ze (Zn rfl (Zf3 0 (l.length - 1 - i) VT.ty3 h20 rfl rfl rfl (get_int hy) z0)))), trivial⟩)<|Zp (Zm _) (Zo rfl rfl ⟨(λ γ => Zf (λ _ h0 => Ze (Zn rfl (Zl h0 z0)))), trivial⟩)<|Zp (Zm _) (Zo rfl rfl ⟨(λ γ => Zf (λ _ h2 => Ze (Zn rfl (Zl h2 z0)))), trivial⟩)<|Zp (Zm _) (Zo rfl rfl ⟨(λ γ => Zw 8 1 rfl (λ _ h22 => Zw 9 0 rfl (λ _ h23 => Ze (Zn rfl (Zu2 (Zr2 VT.sl32 h22 h23 (by omega) (by omega) z0) ((V.le.of_eq (congrArg (V.ptr gs) (by omega)) : V.le _ (.ptr gs i))) z0))))), trivial⟩)<|Zp (Zm _) (Zo rfl rfl ⟨(λ γ => Zw 10 0 rfl (λ _ h24 => Ze (Zn rfl (Zf3 0 i VT.ty3 h24 rfl rfl rfl (get_int hx) z0)))), trivial⟩)<|Zp (Zm _) (Zo rfl rfl ⟨(λ γ => Zw 0 11 rfl (λ _ h14 => Zw 1 10 rfl (λ _ h15 => Ze (Zn rfl (Zu2 (Zr2 VT.sl32 h14 h15 (by omega) (by omega) z0) ((V.le.of_eq (congrArg (V.ptr gs) (by omega)) : V.le _ (.ptr gs i))) z0))))), trivial⟩)<|Zp Za3 (Zo2 0 rfl<|λ γ => Zw 12 0 rfl<|λ _ h26 => Zw 7 5 rfl<|λ _ h21 => Ze<|Zn rfl<|Zh3 0 i VT.ty3 h26 rfl h21 rfl rfl rfl (by rw [Ye]; omega) ⟨default, trivial, rfl⟩)<|Zp (Zm _) (Zo rfl rfl ⟨(λ γ => Zw 2 11 rfl (λ _ h16 => Zw 3 10 rfl (λ _ h17 => Ze (Zn rfl (Zu2 (Zr2 VT.sl32 h16 h17 (by omega) (by omega) z0) ((V.le.of_eq (congrArg (V.ptr gs) (by omega)) : V.le _ (.ptr gs (l.length - 1 - i)))) z0))))), trivial⟩)<|Zp Za3 (Zo2 1 rfl<|λ γ => Zw 14 0 rfl<|λ _ h27 => Zw 11 3 rfl<|λ _ h25 => Ze<|Zn rfl<|Zh3 0 (l.length - 1 - i) VT.ty3 h27 rfl h25 rfl rfl rfl (by rw [Yh, Ye]; omega) ⟨default, trivial, rfl⟩)<|DrawP_nil<|λ γ => Ze<|Zb1<|Zi<|Zd<|Zc<|Zl rfl<|Zc<|Zh2 rfl rfl (by omega)<|Zc<|Zl rfl<|Zc<|Zk2 rfl rfl (by omega)<|Zc<|Zk rfl<|Zc<|Zk rfl<|Za<|Zi ?_
  exact ⟨(i + 1, (c.set i y).set (l.length - 1 - i) x), (by (try simp only []); omega), ⟨by simp [hc], by omega, rev_step hc hget (by omega) hx hy⟩, ⟨rfl, rfl, (congrArg (λ n : Int => some (V.int n)) (by omega)), trivial⟩, (Drops.keepE (congrArg (Own.cells gs 3) (by rw [Yf, Yf])) (Zt2 _))⟩
 have hrv := rev_done hc hget (by omega)
 subst hrv
 refine Zt<|Ze1<|Ze1<|Zc1<|Zn3 rfl ?_
 exact ⟨_, Zt2 _, rfl⟩
theorem Order_c (f : SFunc) : VPure Tryz.prog 20 [funcV f] (.tup [intsX ((if funcF f = 0 then orderF f.blocks else []).map λ k : Nat => (k : Int)), .int (funcF f)]) := by
 refine V_start (nt := 17) Tryz.func20 rfl rfl rfl ?_
 refine Zb<|Zd<|Zc<|Zc2 rfl rfl<|λ g1 => (Zc<|Zk rfl<|Zc<|Zk rfl<|Za<|Zi<|Zb<|Zb<|Zd<|Zc<|Zv 0 VT.ty31 rfl rfl rfl<|Zc<|Zx1 [.tmp 6] rfl rfl VT.en25 (CheckFunc_c f)<|Zc<|Zk rfl<|Za<|Zi<|Zb<|Zd<|Zc<|Zl rfl<|Zc<|Zj1 rfl rfl rfl<|Za<|Zi<|Zm1 rfl (λ h9 => ?_)<|λ h9 => ?_)
 .
  refine Zb<|Zd<|Zc<|Zl rfl<|Zc<|Zu2 (Zk rfl ⟨rfl, rfl⟩) ((V.le.nil 1 : V.le _ (intsX [])))<|Zc<|Zk rfl<|Za<|Zi<|Zf1<|Zd1<|Zh1 rfl rfl (.cons (.tmp rfl)<|.cons (.tmp rfl)<|.nil) ?_
  rw [if_neg h9]
  rfl
 have hok := func_ok h9
 have hne : postF f.blocks ≠ [] := λ e => by have := (order_ok hok.pos hok.edges).zero; rw [orderF, e] at this; cases this
 have hpl := post_len hok.pos hok.edges
 have h128 := hok.len
 refine Zi1<|Zi<|Zb<|Zd<|Zc<|Zb2 VT.zr32 _ rfl rfl<|λ g5 => (Za<|Zi<|VW_perm (S' := .cells g1 31 [.int f.name, blocksX f.blocks] :: ordS g5 none []) (List.Perm.swap _ _ _)<|Zb<|Zd<|Zc<|Zv 0 VT.ty31 rfl rfl rfl<|Zc<|V_makeFunc [.tmp 5] rfl rfl<|Zc<|V_callG [.tmp 11, .tmp 12] (ordS g5 none []) [_] rfl rfl VT.en38 (Yj (l₁ := [_])) (search_c f.name f.blocks hok.pos hok.len hok.edges VT.en39 (λ x l => ordS g5 x l) ordOk none rfl<|λ x l k h hl => leave_c g5 x l k h hl) ?_)
 rintro r Sa ⟨x, rfl, hx⟩
 obtain ⟨⟨gs, cap, rest⟩, rfl⟩ := ordOk_some hx hne
 obtain ⟨hll, hlc, hcm⟩ := hx
 refine ⟨_, Zt2 _, ?_⟩
 refine Za<|Zi<|Zb<|Zd<|Zc<|Zu2 (Zu 0 VT.ty32 rfl rfl rfl ⟨rfl, rfl⟩) ((V.le.of_eq (by rw [Ye]) : V.le _ (.raw<|.slice (some ⟨gs, 0, none⟩) ((postF f.blocks).map λ k : Nat => (k : Int)).length cap)))<|Zc<|Zm3 [.tmp 14] [_] _ rfl rfl VT.en40 (Zv2 (i := 1) rfl) (Reverse_c gs cap ((postF f.blocks).map λ k : Nat => (k : Int)) rest (by rw [Ye]; omega)) ?_
 rintro r Sa rfl
 refine Za<|Zi<|Zb<|Zd<|Zc<|Zu 1 VT.ty32 rfl rfl rfl<|Zc<|Zk rfl<|Zc<|Zk rfl<|Za<|Zi<|VW_freeze 0 (q := 2) (rest := rest) (((postF f.blocks).map λ k : Nat => (k : Int)).reverse.map V.int) rfl rfl (by rw [flat_ints]) (by simp) hlc hcm (flat_fits _)<|Zf1<|Zh1 rfl rfl (.cons (.tmp rfl)<|.cons (.tmp rfl)<|.nil) ?_
 rw [if_pos h9, h9, orderF, List.map_reverse (f := λ k : Nat => (k : Int))]
 rfl
end Go.Proofs.YthlflmmnankhhaaGreat.X13
end
