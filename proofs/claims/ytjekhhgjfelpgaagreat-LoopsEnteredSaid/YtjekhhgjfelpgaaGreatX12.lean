import Derived.Test.YtjekhhgjfelpgaaGreatDZ
import Derived.Test.YtjekhhgjfelpgaaGreatXD
set_option linter.all false
open List renaming replicate → Ya, append_nil → Yb, mem_of_getElem? → Yc
namespace Go.Proofs.YtjekhhgjfelpgaaGreat.X12
open Go.VL Go.SM Go.Proofs.YtjekhhgjfelpgaaGreat X1 X2 X3 X4 X5 X6 X7 X8 X9 X10
theorem ints_flat (P : List (List Int)) : P.map intsX = (P.map intsX).flatMap V.leaves ++ [] := by
  rw [Yb]
  induction P with
  | nil => rfl
  | cons a P ih => rw [List.map_cons, List.flatMap_cons, ← ih]; rfl
theorem ints_fits (P : List (List Int)) : ∀ x ∈ P.map intsX, x.fits 1 = true ∧ ((∃ ls, x = .agg ls) ∨ x.leaf = true) := fun x hx => by
  obtain ⟨l, _, rfl⟩ := List.mem_map.1 hx
  exact ⟨rfl, .inr rfl⟩
theorem at_preds {P : List (List Int)} {t : Nat} {l : List Int} (h : P[t]? = some l) (k : Nat) (e : SEdge) (ht : e.block.toNat = t) : predE k P e = P.set t (l ++ [(k : Int)]) := by
  rw [predE, ht, h]
  rfl
theorem len_total {P : List (List Int)} {l : List Int} (h : l ∈ P) : l.length ≤ total P := by
  induction P with
  | nil => cases h
  | cons a P ih =>
    rcases List.mem_cons.1 h with rfl | h
    · simp [total]
    · have := ih h
      simp [total] at this ⊢
      omega
set_option maxRecDepth 100000 in
set_option maxHeartbeats 8000000 in
theorem Preds_c (f : SFunc) : VPure Tryz.prog 11 [funcV f] (.tup [rowsX (if funcF f = 0 then predsF f.blocks else []), .int (funcF f)]) := by
 refine V_start (nt := 50) Tryz.func11 rfl rfl rfl ?_
 refine Zb (Zd ?_)
 refine Zc (Zc2 rfl rfl (fun g1 => ?_))
 refine Zc (Zk rfl (Zc (Zk rfl (Za (Zi (Zb (Zb (Zd (Zc (Zv 0 VT.ty34 rfl rfl rfl ?_))))))))))
 refine Zc (Zx1 [.tmp 10] rfl rfl VT.en23 (CheckFunc_c f) ?_)
 refine Zc (Zk rfl (Za (Zi (Zb (Zd (Zc (Zl rfl (Zc (Zj1 rfl rfl rfl (Za (Zi ?_)))))))))))
 refine Zm1 rfl (fun h13 => ?_) (fun h13 => ?_)
 ·
  refine Zb (Zd (Zc (Zl rfl ?_)))
  refine Zc (Zu2 (Zk rfl ⟨rfl, rfl⟩) ((V.le.nil 1 : V.le _ (rowsX []))) ?_)
  refine Zc (Zk rfl (Za (Zi (Zf1 ?_))))
  refine Zd1 (Zh1 rfl rfl (.cons (.tmp rfl) (.cons (.tmp rfl) (.nil))) ?_)
  rw [if_neg h13]
  rfl
 ·
  have hok := func_ok h13
  have hpos := hok.pos
  have hE := hok.edges
  have h128 := hok.len
  refine Zi1 (Zi (Zb (Zd (Zc (Zj VT.fa34_1 rfl (Zc (Zu 0 VT.ty32 rfl rfl rfl ?_)))))))
  refine Zc (Zd2 (n := f.blocks.length) Tryz.underlying32 rfl (by simp) (fun hl17 => ?_))
  refine Zc (V_makeRow (.raw (.slice none 0 0)) (fun m => rfl) rfl VT.sl38 rfl rfl (by omega) (by omega) (fun g18 => ?_))
  refine Zc (Zk rfl (Za (Zi ?_)))
  refine VW_cells 0 (ls' := rowP (Ya f.blocks.length .nil) (Ya f.blocks.length [])) rfl (by rw [flat_nil]; exact les_nilRow _) ?_
  refine VW_nilBufs 3 1 f.blocks.length ?_
  rw [← bufsP_nil 3 f.blocks.length]
  refine Zb (Zb (Zd (Zc (Zj VT.fa34_1 rfl (Zc (Zu 1 VT.ty32 rfl rfl rfl ?_))))))
  refine Zc (Zd2 (n := f.blocks.length) Tryz.underlying32 rfl (by simp) (fun hl21 => ?_))
  refine Zc (Zl rfl (Za (Zi (Zs ?_))))
  refine Zi2 (ι := Nat × List Tok × List (List Int)) (fun (k, toks, P) => f.blocks.length - k) (fun (k, toks, P) => [(1, some (.ptr g1 0)), (5, some (.raw (.slice (some ⟨g18, 0, none⟩) f.blocks.length f.blocks.length))), (20, some (blocksX f.blocks)), (21, some (.int f.blocks.length)), (22, some (.int k))]) (fun (k, toks, P) => .cells g18 41 (rowP toks P) :: .cells g1 34 [.int f.name, blocksX f.blocks] :: bufsP 3 toks P) (fun (k, toks, P) => k ≤ f.blocks.length ∧ predL k (f.blocks.drop k) P = predsF f.blocks ∧ toks.length = P.length ∧ P.length = f.blocks.length ∧ total P = edgesN (f.blocks.take k)) (0, Ya f.blocks.length .nil, Ya f.blocks.length []) ⟨Nat.zero_le _, rfl, by simp, by simp, total_zero _⟩ ⟨rfl, rfl, rfl, rfl, rfl, trivial⟩ (Drops.keep (Drops.keep (Zt2 _))) ?_
  rintro ⟨k, toks, P⟩ hA
  change k ≤ f.blocks.length ∧ predL k (f.blocks.drop k) P = predsF f.blocks ∧ toks.length = P.length ∧ P.length = f.blocks.length ∧ total P = edgesN (f.blocks.take k) at hA
  obtain ⟨hk, hq, htk, hPl, htot⟩ := hA
  refine Zb (Zd (Zc (Zj1 rfl rfl rfl (Za (Zi (Zb ?_))))))
  refine Zn1 rfl (fun h23 => ?_) (fun h23 => ?_)
  ·
   obtain ⟨b, hb⟩ := get_of_lt f.blocks k h23
   have hbm := Yc hb
   have hEb := hE b hbm
   refine Zi1 (Zi (Zb (Zs (Zb (Zd (Zc (Zl rfl ?_)))))))
   refine Zc (Zz (el := blockV b) VT.sl32 rfl rfl (by omega) (get_mapS _ hb) (fun a25 => ?_))
   refine Zc (Za2 VT.ty50 rfl rfl ?_)
   refine Zc (Zb2 VT.zr50 _ rfl rfl (fun g7 => ?_))
   refine Zc (Zk rfl (Zc (Zx 0 VT.ty50 rfl rfl rfl rfl rfl (Za (Zi (Zb (Zd (Zc (Zj VT.fa50_2 rfl (Zc (Zj VT.fa47_4 rfl (Zc (Zu 0 VT.ty45 rfl rfl rfl ?_)))))))))))))
   refine Zc (Zd2 (n := b.term.to.length) Tryz.underlying45 rfl (by simp) (fun hl30 => ?_))
   refine Zc (Zl rfl (Za (Zi (Zs ?_))))
   refine Zi2 (ι := Nat × List Tok × List (List Int)) (fun (j, toks1, Q) => b.term.to.length - j) (fun (j, toks1, Q) => [(1, some (.ptr g1 0)), (5, some (.raw (.slice (some ⟨g18, 0, none⟩) f.blocks.length f.blocks.length))), (6, some (.int k)), (20, some (blocksX f.blocks)), (21, some (.int f.blocks.length)), (22, some (.int k)), (29, some (edgesX b.term.to)), (30, some (.int b.term.to.length)), (31, some (.int j))]) (fun (j, toks1, Q) => .cells g18 41 (rowP toks1 Q) :: .cells g1 34 [.int f.name, blocksX f.blocks] :: bufsP 3 toks1 Q) (fun (j, toks1, Q) => j ≤ b.term.to.length ∧ (b.term.to.drop j).foldl (predE k) Q = predB k P b ∧ toks1.length = Q.length ∧ Q.length = f.blocks.length ∧ total Q = edgesN (f.blocks.take k) + j) (0, toks, P) ⟨Nat.zero_le _, rfl, htk, hPl, htot⟩ ⟨rfl, rfl, rfl, rfl, rfl, rfl, rfl, rfl, rfl, trivial⟩ (Drops.drop (Drops.keep (Drops.keep (Zt2 _)))) ?_
   rintro ⟨j, toks1, Q⟩ hA2
   change j ≤ b.term.to.length ∧ (b.term.to.drop j).foldl (predE k) Q = predB k P b ∧ toks1.length = Q.length ∧ Q.length = f.blocks.length ∧ total Q = edgesN (f.blocks.take k) + j at hA2
   obtain ⟨hj, hq1, htk1, hQl, htotQ⟩ := hA2
   refine Zb (Zd (Zc (Zj1 rfl rfl rfl (Za (Zi (Zb ?_))))))
   refine Zn1 rfl (fun h32 => ?_) (fun h32 => ?_)
   ·
    obtain ⟨e, he⟩ := get_of_lt b.term.to j h32
    obtain ⟨he1, he2⟩ := hEb e (Yc he)
    obtain ⟨l, hl⟩ := get_of_lt Q e.block.toNat (by omega)
    obtain ⟨t, ht⟩ := get_of_lt toks1 e.block.toNat (by omega)
    have hpe := at_preds hl k e rfl
    have hlt := len_total (Yc hl)
    have hsm := edges_small hok
    have hte := term_edges hok hbm
    have htk2 := edgesN_take hb
    have hle3 := edgesN_takele f.blocks (k + 1)
    refine Zi1 (Zi (Zb (Zs (Zb (Zd ?_)))))
    refine Zc (Zz (el := edgeV e) VT.sl45 rfl rfl (by omega) (get_mapS _ he) (fun a33 => ?_))
    refine Zc (Za2 VT.ty79 rfl rfl ?_)
    refine Zc (Zb2 VT.zr79 _ rfl rfl (fun g9 => ?_))
    refine Zc (Zx 0 VT.ty79 rfl rfl rfl rfl rfl (Za (Zi ?_)))
    refine VW_perm ((((bufsP_perm 3 ht hl).cons _).cons _).cons _) ?_
    refine VW_drawR (G := Tok) [([], [5], []), ([], [9], []), ([1], [36], []), ([], [5], []), ([], [9], []), ([4], [39], []), ([5, 4, 3], [38, 40], []), ([6, 5, 4, 3], [41], []), ([], [6], []), ([8], [43], []), ([9, 8, 7, 6, 5, 4, 3], [42, 44], [0]), (dn 11, [35, 37], []), (dn 12, [46, 45], [])] [10, 12] (twoSt _ (fun x => (.cells g9 79 [.int e.block, intsX e.args] :: .cells g18 41 (rowP toks1 Q) :: .cells g1 34 [.int f.name, blocksX f.blocks] :: .buf x 3 1 (l.map V.int ++ [V.int k]).length :: bufsP 3 (toks1.eraseIdx e.block.toNat) (Q.eraseIdx e.block.toNat))) (fun x _ => (.cells g9 79 [.int e.block, intsX e.args] :: .cells g18 41 ((rowP toks1 Q).set e.block.toNat (.sl 1 (some x) (l.map V.int ++ [V.int k])) ++ []) :: .cells g1 34 [.int f.name, blocksX f.blocks] :: .buf x 3 1 (l.map V.int ++ [V.int k]).length :: bufsP 3 (toks1.eraseIdx e.block.toNat) (Q.eraseIdx e.block.toNat)))) [] [35, 36, 37, 38, 39, 40, 41, 42, 43, 44, 45, 46] rfl VT.mix ?_
    refine Zp (Zm _) (Zm2 rfl (fun _ => (fun γ => Zf (fun _ h5 => Ze (Zn rfl (Zl h5 z0)))))) ?_
    refine Zp (Zm _) (Zm2 rfl (fun _ => (fun γ => Zf (fun _ h9 => Ze (Zn rfl (Zj VT.fa79_0 h9 z0)))))) ?_
    refine Zp (Zm _) (Zo rfl rfl ⟨(fun γ => Zw 1 0 rfl (fun _ h36 => Ze (Zn rfl (Zu 0 VT.ty3 h36 rfl rfl z0)))), (fun γ => Zw 1 0 rfl (fun _ h36 => Ze (Zn rfl (Zu 0 VT.ty3 h36 rfl rfl z0)))), trivial⟩) ?_
    refine Zp (Zm _) (Zo rfl rfl ⟨(fun γ => Zf (fun _ h5 => Ze (Zn rfl (Zl h5 z0)))), trivial⟩) ?_
    refine Zp (Zm _) (Zo rfl rfl ⟨(fun γ => Zf (fun _ h9 => Ze (Zn rfl (Zj VT.fa79_0 h9 z0)))), trivial⟩) ?_
    refine Zp (Zm _) (Zo rfl rfl ⟨(fun γ => Zw 4 0 rfl (fun _ h39 => Ze (Zn rfl (Zu 0 VT.ty3 h39 rfl rfl z0)))), trivial⟩) ?_
    refine Zp (Zm _) (Zo rfl rfl ⟨(fun γ => Zw 3 2 rfl (fun _ h38 => Zw 5 0 rfl (fun _ h40 => Ze (Zn rfl (Zr2 VT.sl38 h38 h40 (by omega) (by omega) z0))))), trivial⟩) ?_
    refine Zp (Zm _) (Zo rfl rfl ⟨(fun γ => Zw 6 0 rfl (fun _ h41 => Ze (Zn rfl (Zf3 1 e.block.toNat VT.ty41 h41 (by simp) rfl (Yb _).symm (rowP_get ht hl) z0)))), trivial⟩) ?_
    refine Zp (Zm _) (Zo rfl rfl ⟨(fun γ => Zf (fun _ h6 => Ze (Zn rfl (Zl h6 z0)))), trivial⟩) ?_
    refine Zp (Zm _) (Zo rfl rfl ⟨(fun γ => Zw 8 0 rfl (fun _ h43 => Ze (Zn rfl (Zk3 [.tmp 43] VT.sl41 rfl rfl rfl (Zp2 h43 Zq2) rfl z0)))), trivial⟩) ?_
    refine Zp (Zw2 (fun x => .sl 1 (some x) (l.map V.int ++ [V.int k]))) (Zo2 0 rfl (fun γ => Zw 7 2 rfl (fun _ h42 => Zw 9 0 rfl (fun _ h44 => Ze (Zn rfl (Zi3 3 _ VT.sl41 h42 h44 rfl (by simp) (by simp; omega) (fun t45 => ⟨t45, ⟨t45, rfl, rfl⟩, rfl⟩))))))) ?_
    refine Zp (Zm _) (Zo rfl rfl ⟨(fun γ => Zw 0 10 rfl (fun _ h35 => Zw 2 8 rfl (fun _ h37 => Ze (Zn rfl (Zr2 VT.sl38 h35 h37 (by omega) (by omega) z0))))), trivial⟩) ?_
    refine Zp Za3 (Zo2 1 rfl (fun γ => Zw 11 0 rfl (fun _ h46 => Zw 10 1 rfl (fun _ h45 => Ze (Zx2 h45 (fun e45 => Zn rfl (Zh3 1 e.block.toNat VT.ty41 h46 (by simp) e45 rfl rfl (Yb _).symm (by rw [rowP_len htk1]; omega) ⟨default, trivial, rfl⟩))))))) ?_
    refine DrawP_nil (fun γ => Ze ?_)
    refine Zb1 (Zi ?_)
    let tk : Tok := γ 0
    refine VW_drops (Drops.drop (Drops.keepE (congrArg (Own.cells g18 41) (rowP_snoc toks1 Q e.block.toNat tk l k)) (Drops.keep ((Drops.keepE (by simp; rfl) (Zt2 _)).trans (Drops.of_perm (bufsP_set (t' := tk) (l' := l ++ [(k : Int)]) 3 ht hl)))))) ?_
    rw [← hpe]
    refine Zd ?_
    refine Zc (Zh2 rfl rfl (by omega) ?_)
    refine Zc (Zl rfl (Za (Zi ?_)))
    exact ⟨(j + 1, toks1.set e.block.toNat tk, predE k Q e), (by (try simp only []); omega), ⟨by omega, by rw [← hq1, drop_cons he, List.foldl_cons], by rw [List.length_set, predE_len]; exact htk1, by rw [predE_len]; exact hQl, by rw [hpe, total_set2 hl]; omega⟩, ⟨rfl, rfl, rfl, rfl, rfl, rfl, rfl, rfl, rfl, trivial⟩, (Drops.keep (Drops.keep (Zt2 _)))⟩
   ·
    have hje : j = b.term.to.length := by omega
    subst hje
    rw [List.drop_length, List.foldl_nil] at hq1
    subst hq1
    have htot1 : total (predB k P b) = edgesN (f.blocks.take (k + 1)) := by rw [htotQ, edgesN_take hb]
    refine Zt (Ze1 (Ze1 (Zc1 (Zb1 (Zi (Zd ?_))))))
    refine Zc (Zh2 rfl rfl (by omega) ?_)
    refine Zc (Zl rfl (Za (Zi ?_)))
    exact ⟨(k + 1, toks1, predB k P b), (by (try simp only []); omega), ⟨by omega, by rw [← hq, drop_cons hb, predL], htk1, by rw [predB, foldl_len, hPl], htot1⟩, ⟨rfl, rfl, rfl, rfl, rfl, trivial⟩, (Drops.keep (Drops.keep (Zt2 _)))⟩
  ·
   have hke : k = f.blocks.length := by omega
   subst hke
   rw [List.drop_length, predL] at hq
   refine Zt (Ze1 (Ze1 (Zc1 (Zi ?_))))
   refine VW_cells 0 (ls' := P.map intsX) rfl (rowP_les toks P htk) ?_
   refine VW_freeze 0 (q := 5) (rest := []) (P.map intsX) rfl rfl (ints_flat P) (by simp [hPl]) (Nat.le_refl _) (by simp only [maxLen]; omega) (ints_fits P) ?_
   refine Zb (Zd (Zc (Zl rfl (Zc (Zk rfl (Zc (Zk rfl (Za (Zi (Zf1 ?_))))))))))
   refine Zh1 rfl rfl (.cons (.tmp rfl) (.cons (.tmp rfl) (.nil))) ?_
   rw [if_pos h13, h13, ← hq]; first | done | rfl
end Go.Proofs.YtjekhhgjfelpgaaGreat.X12
