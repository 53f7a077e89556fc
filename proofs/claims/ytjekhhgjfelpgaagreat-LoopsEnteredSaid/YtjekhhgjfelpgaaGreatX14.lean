import Derived.Test.YtjekhhgjfelpgaaGreatVF
import Derived.Test.YtjekhhgjfelpgaaGreatX13
set_option linter.all false
open List renaming replicate → Ya, length_take → Yb, append_nil → Yc, length_map → Yd, getElem?_eq_some_iff → Ye
open Nat renaming ble_eq_true_of_le → Yf
namespace Go.Proofs.YtjekhhgjfelpgaaGreat.X14
open Go.VL Go.SM Go.Proofs.YtjekhhgjfelpgaaGreat X1 X2 X3 X4 X5 X6 X7 X8 X9 X10 X12 X13
theorem flat_zero (n : Nat) : (Ya n (V.raw (.int .i64 0))).flatMap V.leaves = Ya n (V.int 0) := by
  induction n with
  | zero => rfl
  | succ n ih => rw [List.replicate_succ, List.flatMap_cons, ih]; rfl
theorem flat_ints2 (l : List Int) : (l.map V.int).flatMap V.leaves = l.map V.int := by
  induction l with
  | nil => rfl
  | cons a l ih => rw [List.map_cons, List.flatMap_cons, ih]; rfl
theorem fill_set {l z : List Int} {k : Nat} {x : Int} (h : l.length = z.length) (hx : l[k]? = some x) : ((l.take k ++ z.drop k).map V.int).set k (V.int x) = (l.take (k + 1) ++ z.drop (k + 1)).map V.int := by
  have hk := (Ye.1 hx).1
  obtain ⟨y, hy⟩ : ∃ y, z[k]? = some y := ⟨_, List.getElem?_eq_getElem (by omega)⟩
  rw [← List.map_set, List.set_append_right _ _ (by rw [Yb]; omega), Yb, Nat.min_eq_left (by omega), Nat.sub_self, drop_cons hy, List.set_cons_zero, take_snoc hx, List.append_assoc]
  rfl
theorem fill_zero {l z : List Int} : (l.take 0 ++ z.drop 0) = z := by simp
theorem fill_end {l z : List Int} {k : Nat} (h : l.length = z.length) (hk : ¬ k < l.length) : (l.take k ++ z.drop k) = l := by
  rw [List.take_of_length_le (by omega), List.drop_of_length_le (by omega), Yc]
theorem fill_len {l z : List Int} {k : Nat} (h : l.length = z.length) : (l.take k ++ z.drop k).length = z.length := by
  rw [List.length_append, Yb, List.length_drop]
  omega
theorem place_at {bs : List SBlock} {k : Nat} (hk : k < bs.length) : (placeZ bs)[k]? = some (idxOf (fun x => decide ((k : Int) = x)) (ordZ bs)) := by
  unfold placeZ placeF
  rw [List.getElem?_map, List.getElem?_range hk]
  rfl
theorem rep_at {n k : Nat} (hk : k < n) : (Ya n (-1 : Int))[k]? = some (-1) := by
  rw [List.getElem?_replicate, if_pos hk]
theorem fits_ints (l : List Int) : ∀ x ∈ l.map V.int, x.fits 1 = true ∧ ((∃ ls, x = .agg ls) ∨ x.leaf = true) := fun x hx => by
  obtain ⟨n, _, rfl⟩ := List.mem_map.1 hx
  exact ⟨rfl, .inr rfl⟩
theorem iter_end (bs : List SBlock) (pl ord : List Int) (n : Nat) (s : TState) (h : s.again = false) : treeIter bs pl ord n s = s := by
  cases n with
  | zero => rfl
  | succ n => rw [treeIter, if_neg (by rw [h]; decide)]
theorem get_ordZ {bs : List SBlock} {k v : Nat} (h : (orderF bs)[k]? = some v) : ((ordZ bs).map V.int)[k]? = some (V.int (v : Int)) := by simp [ordZ, h]
set_option maxRecDepth 100000 in
theorem meetR_c {bs : List SBlock} (ho : OrderOk bs (orderF bs)) {ov : List Int} (hT : Tree bs ov) (g : Nat) (m a b : Nat) (ha : InT bs ov a) (hb : InT bs ov b) (hn : pos bs a + pos bs b + 1 ≤ m) : VKeep Tryz.prog 96 [.agg [.raw (.slice (some ⟨g, 0, none⟩) bs.length bs.length), intsX (placeZ bs)], .int a, .int b] [.cells g 3 (ov.map V.int)] (.int (meetF ov (placeZ bs) m a b)) := by
 have hpl := place_len bs
 have hol := hT.len
 refine VKeep.drops ?_
 refine V_start (nt := 32) Tryz.func96 rfl rfl rfl ?_
 refine Zb (Zd ?_)
 refine Zc (Zc2 rfl rfl (fun g3 => ?_))
 refine Zc (Zk rfl (Za (Zi (Zb (Zs ?_)))))
 refine Zi2 (ι := Nat × Nat × Nat) (fun (n, x, y) => n) (fun (n, x, y) => [(1, some (.int (x : Nat))), (2, some (.int (y : Nat))), (3, some (.ptr g3 0))]) (fun (n, x, y) => [.cells g3 135 [.raw (.slice (some ⟨g, 0, none⟩) bs.length bs.length), intsX (placeZ bs)], .cells g 3 (ov.map V.int)]) (fun (n, x, y) => InT bs ov x ∧ InT bs ov y ∧ pos bs x + pos bs y + 1 ≤ n ∧ meetF ov (placeZ bs) n x y = meetF ov (placeZ bs) m a b) (m, a, b) ⟨ha, hb, hn, rfl⟩ ⟨rfl, rfl, rfl, trivial⟩ (Drops.keep (Drops.keep (Zt2 _))) ?_
 rintro ⟨n, x, y⟩ hA
 change InT bs ov x ∧ InT bs ov y ∧ pos bs x + pos bs y + 1 ≤ n ∧ meetF ov (placeZ bs) n x y = meetF ov (placeZ bs) m a b at hA
 obtain ⟨hx, hy, hn2, hq⟩ := hA
 refine Zb (Zb (Zd (Zc (Zl rfl (Zc (Zl rfl (Zc (Zj1 rfl rfl rfl (Za (Zi ?_))))))))))
 refine Zm1 rfl (fun h9 => ?_) (fun h9 => ?_)
 ·
  obtain ⟨n, p, r, rfl, hp, hr, hgt, hle⟩ := meet_walk ho hT hx hy hn2 h9
  have hxl := ho.lt x hx.1
  have hyl := ho.lt y hy.1
  refine Zi1 (Zi (Zs (Zb ?_)))
  refine VW_drawR (G := Unit) [([], [3], []), ([0], [10], []), ([], [1], []), ([2, 1, 0], [11, 12], []), (dn 4, [13], []), ([], [3], []), ([5], [15], []), ([], [2], []), ([7, 6, 5], [16, 17], []), ([8, 7, 6, 5], [18], []), (dn 10, [14, 19], [])] [] (constSt _) [20] [10, 11, 12, 13, 14, 15, 16, 17, 18, 19, 20] rfl VT.mix ?_
  refine ZA (fun γ => Zf (fun _ h3 => Ze (Zn rfl (Zj VT.fa135_1 h3 z0)))) ?_
  refine ZA (fun γ => Zw 0 0 rfl (fun _ h10 => Ze (Zn rfl (Zu 0 VT.ty41 h10 rfl rfl z0)))) ?_
  refine ZA (fun γ => Zf (fun _ h1 => Ze (Zn rfl (Zl h1 z0)))) ?_
  refine Zp (Zb3 _) (Zq (fun γ => Zw 1 1 rfl (fun _ h11 => Zw 2 0 rfl (fun _ h12 => Ze (Zn rfl (Zz (el := V.int p) VT.sl41 h11 h12 (by omega) (get_int hp) (fun a13 => ⟨⟨_, rfl⟩, rfl⟩))))))) ?_
  refine ZA (fun γ => Zw 3 0 rfl (fun _ h13 => Ze (Zc3 h13 (fun a_13 e13 => Zn rfl (Zz1 VT.ty3 e13 rfl z0))))) ?_
  refine ZA (fun γ => Zf (fun _ h3 => Ze (Zn rfl (Zj VT.fa135_1 h3 z0)))) ?_
  refine ZA (fun γ => Zw 5 0 rfl (fun _ h15 => Ze (Zn rfl (Zu 0 VT.ty41 h15 rfl rfl z0)))) ?_
  refine ZA (fun γ => Zf (fun _ h2 => Ze (Zn rfl (Zl h2 z0)))) ?_
  refine Zp (Zb3 _) (Zq (fun γ => Zw 6 1 rfl (fun _ h16 => Zw 7 0 rfl (fun _ h17 => Ze (Zn rfl (Zz (el := V.int r) VT.sl41 h16 h17 (by omega) (get_int hr) (fun a18 => ⟨⟨_, rfl⟩, rfl⟩))))))) ?_
  refine ZA (fun γ => Zw 8 0 rfl (fun _ h18 => Ze (Zc3 h18 (fun a_18 e18 => Zn rfl (Zz1 VT.ty3 e18 rfl z0))))) ?_
  refine ZA (fun γ => Zw 4 5 rfl (fun _ h14 => Zw 9 0 rfl (fun _ h19 => Ze (Zn rfl (Zj1 h14 h19 rfl z0))))) ?_
  refine DrawP_nil (fun γ => Zw 10 0 rfl (fun r20 h20 => Ze ?_))
  have e20 : r20 = some _ := h20
  subst e20
  clear h20
  refine Zi ?_
  refine Zn1 rfl (fun h20 => ?_) (fun h20 => ?_)
  ·
   obtain ⟨q, hq1, hq2, hq3, hq4⟩ := hgt h20
   rw [hq4] at hq
   have hA2 := And.intro hq2 (And.intro hy (And.intro hq3 hq))
   refine Zd (Zc (Zj VT.fa135_0 rfl (Zc (Zu 0 VT.ty41 rfl rfl rfl (Zc (Zl rfl ?_))))))
   refine Zc (Zu2 (Zr2 VT.sl41 rfl rfl (by omega) (by omega) ⟨rfl, rfl⟩) ((V.le.of_eq (congrArg (V.ptr g) (by omega)) : V.le _ (.ptr g x))) ?_)
   refine Zc (Zu 1 VT.ty3 rfl rfl (get_int hq1) ?_)
   refine Zc (Zk rfl (Za (Zb1 (Zi ?_))))
   exact ⟨(n, q, y), (by (try simp only []); omega), hA2, ⟨rfl, rfl, rfl, trivial⟩, (Drops.keep (Drops.keep (Zt2 _)))⟩
  ·
   obtain ⟨q, hq1, hq2, hq3, hq4⟩ := hle h20
   rw [hq4] at hq
   have hA2 := And.intro hx (And.intro hq2 (And.intro hq3 hq))
   refine Zd (Zc (Zj VT.fa135_0 rfl (Zc (Zu 0 VT.ty41 rfl rfl rfl (Zc (Zl rfl ?_))))))
   refine Zc (Zu2 (Zr2 VT.sl41 rfl rfl (by omega) (by omega) ⟨rfl, rfl⟩) ((V.le.of_eq (congrArg (V.ptr g) (by omega)) : V.le _ (.ptr g y))) ?_)
   refine Zc (Zu 1 VT.ty3 rfl rfl (get_int hq1) ?_)
   refine Zc (Zk rfl (Za (Zb1 (Zi ?_))))
   exact ⟨(n, x, q), (by (try simp only []); omega), hA2, ⟨rfl, rfl, rfl, trivial⟩, (Drops.keep (Drops.keep (Zt2 _)))⟩
 ·
  have hxy : x = y := by omega
  subst hxy
  rw [meet_same] at hq
  refine Zt (Ze1 (Ze1 (Zc1 (Zi (Zb (Zd (Zc (Zl rfl (Zc (Zk rfl (Za (Zi (Zf1 ?_)))))))))))))
  refine Zg1 rfl (.tmp rfl) ?_
  exact ⟨by rw [← hq], Drops.drop (Zt2 _)⟩
set_option maxRecDepth 100000 in
set_option maxHeartbeats 16000000 in
theorem Build_c (f : SFunc) : VPure Tryz.prog 71 [funcV f] (.tup [graphV f, .int (funcF f)]) := by
 refine V_start (nt := 116) Tryz.func71 rfl rfl rfl ?_
 refine Zb (Zd ?_)
 refine Zc (Zc2 rfl rfl (fun g1 => ?_))
 refine Zc (Zb2 VT.zr135 _ rfl rfl (fun g2 => ?_))
 refine Zc (Zk rfl (Za (Zi (Zb (Zd (Zc (Zv 1 VT.ty34 rfl rfl rfl ?_)))))))
 refine Zc (Zx1 [.tmp 17] rfl rfl VT.en54 (Order_c f) ?_)
 refine Zc (Zl rfl (Zc (Zg2 rfl rfl (Zc (Zg2 rfl rfl (Zc (Zk rfl (Zc (Zk rfl (Za (Zi (Zb (Zb (Zd (Zc (Zl rfl (Zc (Zj1 rfl rfl rfl (Za (Zi ?_))))))))))))))))))))
 refine Zm1 rfl (fun h22 => ?_) (fun h22 => ?_)
 ·
  rw [if_neg h22]
  refine Zb (Zd ?_)
  refine Zc (Zu2 (Zf2 [] [] VT.st135 rfl rfl rfl rfl ⟨rfl, rfl⟩) ((V.le.agg ⟨V.le.nil 1, rfl, V.le.nil 1, rfl, trivial⟩ : V.le (.agg [V.nilSl, V.nilSl]) (.agg [intsX [], intsX []]))) ?_)
  refine Zc (Zl rfl (Zc (Zx 0 VT.ty135 rfl rfl rfl rfl rfl (Zc (Zk rfl (Za (Zi (Zf1 ?_))))))))
  refine Zd1 (Zh1 rfl rfl (.cons (.agg (i := 0) VT.ty135 rfl rfl rfl) (.cons (.tmp rfl) (.nil))) ?_)
  rw [graphV, if_neg h22, if_neg h22]
  rfl
 ·
  rw [if_pos h22]
  have hok := func_ok h22
  have ho := order_ok hok.pos hok.edges
  have hPl := predsF_len f.blocks
  have hol := nodup_lt ho.nodup ho.lt
  have h128 := hok.len
  have hpl := place_len f.blocks
  have hP0 := edges_small hok
  have hPt := preds_total hok.edges
  have hne : 0 < (orderF f.blocks).length := (Ye.1 ho.zero).1
  refine Zi1 (Zi (Zb (Zd (Zc (Zv 1 VT.ty34 rfl rfl rfl ?_)))))
  refine Zc (Zx1 [.tmp 26] rfl rfl VT.en11 (Preds_c f) ?_)
  refine Zc (Zl rfl (Zc (Zg2 rfl rfl (Zc (Zg2 rfl rfl (Zc (Zk rfl (Zc (Zk rfl (Za (Zi ?_)))))))))))
  rw [if_pos h22]
  refine Zb ?_
  refine VW_drawA (G := Nat) [([], [1], []), ([0], [30], []), ([1, 0], [31], []), ([2, 1, 0], [32], [0]), ([], [1], []), ([4], [34], []), ([5, 4], [35], []), ([6, 5, 4], [36], [1]), (dn 8, [33, 37], [0, 1]), ([], [], [2]), (dn 10, [8, 38], [])] [3, 7, 9, 10] 3 (fun p g => match p with | 0 => .cells g 3 (Ya f.blocks.length (V.int 0)) | 1 => .cells g 3 (Ya f.blocks.length (V.int 0)) | _ => .cells g 135 VT.zs135) (fun l => match l with | [a, b, c] => [.cells a 3 (Ya f.blocks.length (V.int 0)), .cells b 3 (Ya f.blocks.length (V.int 0)), .cells c 135 [.raw (.slice (some ⟨a, 0, none⟩) f.blocks.length f.blocks.length), .raw (.slice (some ⟨b, 0, none⟩) f.blocks.length f.blocks.length)], .cells g2 135 VT.zs135, .cells g1 34 [.int f.name, blocksX f.blocks]] | _ => []) [8] [8, 30, 31, 32, 33, 34, 35, 36, 37, 38] VT.mix ?_
  refine ZpM (Zm _) (goodAM (by kernel_rfl) (fun _ => (fun γ => Zf (fun _ h1 => Ze (Zn rfl (Zj VT.fa34_1 h1 z0)))))) ?_
  refine ZpM (Zm _) (goodSM (l := [[], [1], [2], [1, 2]]) (by kernel_rfl) (by kernel_rfl) ⟨(fun γ => Zw 0 0 rfl (fun _ h30 => Ze (Zn rfl (Zu 1 VT.ty32 h30 rfl rfl z0)))), (fun γ => Zw 0 0 rfl (fun _ h30 => Ze (Zn rfl (Zu 2 VT.ty32 h30 rfl rfl z0)))), (fun γ => Zw 0 0 rfl (fun _ h30 => Ze (Zn rfl (Zu 2 VT.ty32 h30 rfl rfl z0)))), (fun γ => Zw 0 0 rfl (fun _ h30 => Ze (Zn rfl (Zu 3 VT.ty32 h30 rfl rfl z0)))), trivial⟩) ?_
  refine ZpM (Zm _) (goodAM (by kernel_rfl) (fun _ => (fun γ => Zw 1 0 rfl (fun _ h31 => Ze (Zn rfl (Zd2 (n := f.blocks.length) Tryz.underlying32 h31 (by simp) (fun hl32 => z0))))))) ?_
  refine ZpM (Zw2 (fun g => .raw (.slice (some ⟨g, 0, none⟩) f.blocks.length f.blocks.length))) (goodAdd (q := 0) (by kernel_rfl) (by kernel_rfl) (by kernel_rfl) (fun _ => (fun γ => Zw 2 0 rfl (fun _ h32 => Ze (Zn rfl (V_makeRow (.raw (.int .i64 0)) (fun m => rfl) rfl VT.sl41 h32 h32 (by omega) (by omega) (fun g33 => ⟨g33, ⟨g33, rfl, rfl⟩, cons_cells (flat_zero _)⟩))))))) ?_
  refine ZpM (Zm _) (goodAM (by kernel_rfl) (fun _ => (fun γ => Zf (fun _ h1 => Ze (Zn rfl (Zj VT.fa34_1 h1 z0)))))) ?_
  refine ZpM (Zm _) (goodSM (l := [[], [0], [2], [0, 2]]) (by kernel_rfl) (by kernel_rfl) ⟨(fun γ => Zw 4 0 rfl (fun _ h34 => Ze (Zn rfl (Zu 1 VT.ty32 h34 rfl rfl z0)))), (fun γ => Zw 4 0 rfl (fun _ h34 => Ze (Zn rfl (Zu 2 VT.ty32 h34 rfl rfl z0)))), (fun γ => Zw 4 0 rfl (fun _ h34 => Ze (Zn rfl (Zu 2 VT.ty32 h34 rfl rfl z0)))), (fun γ => Zw 4 0 rfl (fun _ h34 => Ze (Zn rfl (Zu 3 VT.ty32 h34 rfl rfl z0)))), trivial⟩) ?_
  refine ZpM (Zm _) (goodAM (by kernel_rfl) (fun _ => (fun γ => Zw 5 0 rfl (fun _ h35 => Ze (Zn rfl (Zd2 (n := f.blocks.length) Tryz.underlying32 h35 (by simp) (fun hl36 => z0))))))) ?_
  refine ZpM (Zw2 (fun g => .raw (.slice (some ⟨g, 0, none⟩) f.blocks.length f.blocks.length))) (goodAdd (q := 1) (by kernel_rfl) (by kernel_rfl) (by kernel_rfl) (fun _ => (fun γ => Zw 6 0 rfl (fun _ h36 => Ze (Zn rfl (V_makeRow (.raw (.int .i64 0)) (fun m => rfl) rfl VT.sl41 h36 h36 (by omega) (by omega) (fun g37 => ⟨g37, ⟨g37, rfl, rfl⟩, cons_cells (flat_zero _)⟩))))))) ?_
  refine ZpM (twoRes (fun a b => .agg [.raw (.slice (some ⟨a, 0, none⟩) f.blocks.length f.blocks.length), .raw (.slice (some ⟨b, 0, none⟩) f.blocks.length f.blocks.length)])) (goodAM (by kernel_rfl) (fun _ => (fun γ => Zw 3 4 rfl (fun _ h33 => Zw 7 0 rfl (fun _ h37 => Ze (Zx2 h33 (fun e33 => Zx2 h37 (fun e37 => Zn rfl (Zf2 [0, 1] [.tmp 33, .tmp 37] VT.st135 rfl rfl (Zp2 e33 (Zp2 e37 Zq2)) rfl ⟨⟨_, _, rfl, rfl⟩, rfl⟩))))))))) ?_
  refine ZpM (Zw2 (fun g => .ptr g 0)) (goodAdd (q := 2) (by kernel_rfl) (by kernel_rfl) (by kernel_rfl) (fun _ => (fun γ => Ze (Zn rfl (Zb2 VT.zr135 _ rfl rfl (fun g8 => ⟨g8, ⟨g8, rfl, rfl⟩, rfl⟩)))))) ?_
  refine ZpM Za3 (goodFin (by kernel_rfl) (by kernel_rfl) (by kernel_rfl) (fun γ => Zw 9 0 rfl (fun _ h8 => Zw 8 1 rfl (fun _ h38 => Ze (Zx2 h8 (fun e8 => twoE h38 (fun e38 => Zn rfl (Zx 2 VT.ty135 e8 e38 rfl rfl rfl ⟨default, trivial, rfl⟩)))))))) ?_
  refine DrawM_nil (fun δ => Zw 9 1 rfl (fun r8 h8 => Ze ?_))
  have e8 : r8 = some _ := Zd3 h8
  subst e8
  clear h8
  refine Zi (Zb (Zb (Zd (Zc (Zj VT.fa135_0 rfl (Zc (Zu 2 VT.ty41 rfl rfl rfl ?_)))))))
  refine Zc (V_len_raw Tryz.underlying41 rfl ?_)
  refine Zc (Zl rfl (Za (Zi (Zs ?_))))
  refine Zi2 (ι := Nat) (fun k => f.blocks.length - k) (fun k => [(1, some (.ptr g1 0)), (2, some (.ptr g2 0)), (4, some (intsX (ordZ f.blocks))), (6, some (rowsX (predsF f.blocks))), (8, some (.ptr (δ 2) 0)), (41, some (.int f.blocks.length)), (42, some (.int k))]) (fun k => [.cells (δ 0) 3 (((Ya f.blocks.length (-1)).take k ++ (Ya f.blocks.length 0).drop k).map V.int), .cells (δ 1) 3 (((placeZ f.blocks).take k ++ (Ya f.blocks.length 0).drop k).map V.int), .cells (δ 2) 135 [.raw (.slice (some ⟨δ 0, 0, none⟩) f.blocks.length f.blocks.length), .raw (.slice (some ⟨δ 1, 0, none⟩) f.blocks.length f.blocks.length)], .cells g2 135 VT.zs135, .cells g1 34 [.int f.name, blocksX f.blocks]]) (fun k => k ≤ f.blocks.length) 0 (Nat.zero_le _) ⟨rfl, rfl, rfl, rfl, rfl, rfl, rfl, trivial⟩ (Drops.keepE (congrArg (Own.cells (δ 0) 3) (by rw [fill_zero, List.map_replicate])) (Drops.keepE (congrArg (Own.cells (δ 1) 3) (by rw [fill_zero, List.map_replicate])) (Drops.keep (Drops.keep (Drops.keep (Zt2 _)))))) ?_
  rintro k hk
  change k ≤ f.blocks.length at hk
  refine Zb (Zd (Zc (Zj1 rfl rfl rfl (Za (Zi (Zb ?_))))))
  refine Zn1 rfl (fun h43 => ?_) (fun h43 => ?_)
  ·
   refine Zi1 (Zi (Zb (Zs (Zb (Zd (Zc (Zl rfl (Zc (Zk rfl (Za (Zi ?_)))))))))))
   refine VW_drawR (G := Unit) [([], [8], []), ([0], [45], []), ([], [9], []), ([], [8], []), ([3], [48], []), ([], [9], []), ([], [4], []), ([], [9], []), ([7, 6], [51, 52], []), ([8, 7, 6, 2, 1, 0], [46, 47], []), ([9, 8, 7, 6, 2, 1, 0], [54], []), (dn 11, [49, 50], []), (dn 12, [55, 53], [])] [10, 12] (twoSt _ (fun _ => [.cells (δ 0) 3 ((((Ya f.blocks.length (-1)).take k ++ (Ya f.blocks.length 0).drop k).map V.int).set k (V.int (-1))), .cells (δ 1) 3 (((placeZ f.blocks).take k ++ (Ya f.blocks.length 0).drop k).map V.int), .cells (δ 2) 135 [.raw (.slice (some ⟨δ 0, 0, none⟩) f.blocks.length f.blocks.length), .raw (.slice (some ⟨δ 1, 0, none⟩) f.blocks.length f.blocks.length)], .cells g2 135 VT.zs135, .cells g1 34 [.int f.name, blocksX f.blocks]]) (fun _ _ => [.cells (δ 0) 3 ((((Ya f.blocks.length (-1)).take k ++ (Ya f.blocks.length 0).drop k).map V.int).set k (V.int (-1))), .cells (δ 1) 3 ((((placeZ f.blocks).take k ++ (Ya f.blocks.length 0).drop k).map V.int).set k (V.int (idxOf (fun x => decide ((k : Int) = x)) (ordZ f.blocks)))), .cells (δ 2) 135 [.raw (.slice (some ⟨δ 0, 0, none⟩) f.blocks.length f.blocks.length), .raw (.slice (some ⟨δ 1, 0, none⟩) f.blocks.length f.blocks.length)], .cells g2 135 VT.zs135, .cells g1 34 [.int f.name, blocksX f.blocks]])) [] [45, 46, 47, 48, 49, 50, 51, 52, 53, 54, 55] rfl VT.mix ?_
   refine Zp (Zm _) (Zo rfl rfl ⟨(fun γ => Zf (fun _ h8 => Ze (Zn rfl (Zj VT.fa135_0 h8 z0)))), trivial⟩) ?_
   refine Zp (Zm _) (Zo rfl rfl ⟨(fun γ => Zw 0 0 rfl (fun _ h45 => Ze (Zn rfl (Zu 2 VT.ty41 h45 rfl rfl z0)))), trivial⟩) ?_
   refine Zp (Zm _) (Zo rfl rfl ⟨(fun γ => Zf (fun _ h9 => Ze (Zn rfl (Zl h9 z0)))), trivial⟩) ?_
   refine Zp (Zm _) (Zm2 rfl (fun _ => (fun γ => Zf (fun _ h8 => Ze (Zn rfl (Zj VT.fa135_1 h8 z0)))))) ?_
   refine Zp (Zm _) (Zo rfl rfl ⟨(fun γ => Zw 3 0 rfl (fun _ h48 => Ze (Zn rfl (Zu 2 VT.ty41 h48 rfl rfl z0)))), (fun γ => Zw 3 0 rfl (fun _ h48 => Ze (Zn rfl (Zu 2 VT.ty41 h48 rfl rfl z0)))), trivial⟩) ?_
   refine Zp (Zm _) (Zm2 rfl (fun _ => (fun γ => Zf (fun _ h9 => Ze (Zn rfl (Zl h9 z0)))))) ?_
   refine Zp (Zm _) (Zo rfl rfl ⟨(fun γ => Zf (fun _ h4 => Ze (Zn rfl (Zl h4 z0)))), trivial⟩) ?_
   refine Zp (Zm _) (Zo rfl rfl ⟨(fun γ => Zf (fun _ h9 => Ze (Zn rfl (Zl h9 z0)))), trivial⟩) ?_
   refine Zp (Zm _) (Zo rfl rfl ⟨(fun γ => Zw 6 1 rfl (fun _ h51 => Zw 7 0 rfl (fun _ h52 => Ze (Zn rfl (Zx1 [.tmp 51, .tmp 52] rfl (Zp2 h51 (Zp2 h52 Zq2)) VT.en57 (intIndex_c (ordZ f.blocks) none (k : Int)) z0))))), trivial⟩) ?_
   refine Zp (Zm _) (Zo rfl rfl ⟨(fun γ => Zw 1 7 rfl (fun _ h46 => Zw 2 6 rfl (fun _ h47 => Ze (Zn rfl (Zu2 (Zr2 VT.sl41 h46 h47 (by omega) (by omega) z0) ((V.le.of_eq (congrArg (V.ptr (δ 0)) (by omega)) : V.le _ (.ptr (δ 0) k))) z0))))), trivial⟩) ?_
   refine Zp Za3 (Zo2 0 rfl (fun γ => Zw 9 0 rfl (fun _ h54 => Ze (Zn rfl (Zy 0 VT.ty3 h54 rfl rfl rfl (Yf (by rw [Yd, fill_len (by simp)]; simp; omega)) ⟨default, trivial, rfl⟩))))) ?_
   refine Zp (Zm _) (Zo rfl rfl ⟨(fun γ => Zw 4 6 rfl (fun _ h49 => Zw 5 5 rfl (fun _ h50 => Ze (Zn rfl (Zu2 (Zr2 VT.sl41 h49 h50 (by omega) (by omega) z0) ((V.le.of_eq (congrArg (V.ptr (δ 1)) (by omega)) : V.le _ (.ptr (δ 1) k))) z0))))), trivial⟩) ?_
   refine Zp Za3 (Zo2 1 rfl (fun γ => Zw 11 0 rfl (fun _ h55 => Zw 8 3 rfl (fun _ h53 => Ze (Zn rfl (Zy 1 VT.ty3 h55 h53 rfl rfl (Yf (by rw [Yd, fill_len (by simp [hpl])]; simp; omega)) ⟨default, trivial, rfl⟩)))))) ?_
   refine DrawP_nil (fun γ => Ze ?_)
   refine Zb1 (Zi (Zd ?_))
   refine Zc (Zh2 rfl rfl (by omega) ?_)
   refine Zc (Zl rfl (Za (Zi ?_)))
   exact ⟨k + 1, (by (try simp only []); omega), (by omega), ⟨rfl, rfl, rfl, rfl, rfl, rfl, rfl, trivial⟩, (Drops.keepE (congrArg (Own.cells (δ 0) 3) (fill_set (by simp) (rep_at (by omega)))) (Drops.keepE (congrArg (Own.cells (δ 1) 3) (fill_set (by simp [hpl]) (place_at (by omega)))) (Drops.keep (Drops.keep (Drops.keep (Zt2 _))))))⟩
  ·
   have hkn : ¬ k < f.blocks.length := by omega
   rw [fill_end (l := (Ya f.blocks.length (-1))) (z := (Ya f.blocks.length 0)) (by simp) (by simpa using hkn), fill_end (l := (placeZ f.blocks)) (z := (Ya f.blocks.length 0)) (by simp [hpl]) (by rw [hpl]; exact hkn)]
   refine Zt (Ze1 (Ze1 (Zc1 (Zi ?_))))
   refine VW_freezeC 1 1 1 (sz := 1) (rest := []) ((placeZ f.blocks).map V.int) rfl rfl rfl (by rw [flat_ints2, Yc]) (by simp [hpl]) (Nat.le_refl _) (by simp only [maxLen]; omega) (fits_ints _) ?_
   refine Zb (Zb (Zd (Zc (Zk rfl (Za (Zi (Zs ?_)))))))
   refine Zi2 (ι := Nat × List Int × Bool) (fun (n, ov, ag) => n) (fun (n, ov, ag) => [(1, some (.ptr g1 0)), (2, some (.ptr g2 0)), (4, some (intsX (ordZ f.blocks))), (6, some (rowsX (predsF f.blocks))), (8, some (.ptr (δ 2) 0)), (10, some (.bool ag))]) (fun (n, ov, ag) => [.cells (δ 0) 3 (ov.map V.int), .cells (δ 2) 135 [.raw (.slice (some ⟨δ 0, 0, none⟩) f.blocks.length f.blocks.length), intsX (placeZ f.blocks)], .cells g2 135 VT.zs135, .cells g1 34 [.int f.name, blocksX f.blocks]]) (fun (n, ov, ag) => TInv f.blocks ov 1 ∧ treeW f.blocks ov + (if ag = true then 1 else 0) ≤ n ∧ (treeIter f.blocks (placeZ f.blocks) (ordZ f.blocks) n ⟨ov, ag⟩).ov = (treeIter f.blocks (placeZ f.blocks) (ordZ f.blocks) (f.blocks.length * f.blocks.length + 2) ⟨(Ya f.blocks.length (-1)), true⟩).ov) (f.blocks.length * f.blocks.length + 2, (Ya f.blocks.length (-1)), true) ⟨tree_start ho, by rw [treeW_start ho, if_pos rfl]; omega, rfl⟩ ⟨rfl, rfl, rfl, rfl, rfl, rfl, trivial⟩ (Drops.keep (Drops.keep (Drops.keep (Drops.keep (Zt2 _))))) ?_
   rintro ⟨n, ov, ag⟩ hA
   change TInv f.blocks ov 1 ∧ treeW f.blocks ov + (if ag = true then 1 else 0) ≤ n ∧ (treeIter f.blocks (placeZ f.blocks) (ordZ f.blocks) n ⟨ov, ag⟩).ov = (treeIter f.blocks (placeZ f.blocks) (ordZ f.blocks) (f.blocks.length * f.blocks.length + 2) ⟨(Ya f.blocks.length (-1)), true⟩).ov at hA
   obtain ⟨hI, hw, hq⟩ := hA
   refine Zb (Zb (Zd (Zc (Zl rfl (Za (Zi ?_))))))
   refine Zr1 rfl (fun h57 => ?_) (fun h57 => ?_)
   ·
    subst h57
    rw [if_pos rfl] at hw
    obtain ⟨n, rfl, h1, h2, h3⟩ := tree_round (s := ⟨ov, true⟩) ho hok.edges hI rfl hw
    rw [h1] at hq
    dsimp only at h2 h3 hq
    refine Zi1 (Zi (Zs (Zb (Zd (Zc (Zk rfl (Za (Zi (Zb (Zd (Zc (Zl rfl ?_))))))))))))
    refine Zc (Zu2 (V_sliceFrom VT.sl41 rfl rfl (by omega) (by simp [ordZ]; omega) ⟨rfl, rfl⟩) (V.le.of_eq (v' := intsX ((ordZ f.blocks).drop 1)) (by rw [intsX, List.map_drop]; rfl)) ?_)
    refine Zc (Zd2 (n := ((ordZ f.blocks).drop 1).length) Tryz.underlying41 rfl (by simp) (fun hl60 => ?_))
    refine Zc (Zl rfl (Za (Zi (Zs ?_))))
    refine Zi2 (ι := Nat × List Int × Bool) (fun (j, ow, ag2) => (orderF f.blocks).length - j) (fun (j, ow, ag2) => [(1, some (.ptr g1 0)), (2, some (.ptr g2 0)), (4, some (intsX (ordZ f.blocks))), (6, some (rowsX (predsF f.blocks))), (8, some (.ptr (δ 2) 0)), (10, some (.bool ag2)), (59, some (intsX ((ordZ f.blocks).drop 1))), (60, some (.int ((ordZ f.blocks).drop 1).length)), (61, some (.int j))]) (fun (j, ow, ag2) => [.cells (δ 0) 3 (ow.map V.int), .cells (δ 2) 135 [.raw (.slice (some ⟨δ 0, 0, none⟩) f.blocks.length f.blocks.length), intsX (placeZ f.blocks)], .cells g2 135 VT.zs135, .cells g1 34 [.int f.name, blocksX f.blocks]]) (fun (j, ow, ag2) => TInv f.blocks ow (j + 1) ∧ treePass f.blocks (placeZ f.blocks) ((ordZ f.blocks).drop (j + 1)) ⟨ow, ag2⟩ = treePass f.blocks (placeZ f.blocks) ((ordZ f.blocks).drop 1) ⟨ov, false⟩ ∧ j + 1 ≤ (orderF f.blocks).length) (0, ov, false) ⟨hI, rfl, hne⟩ ⟨rfl, rfl, rfl, rfl, rfl, rfl, rfl, rfl, rfl, trivial⟩ (Drops.keep (Drops.keep (Drops.keep (Drops.keep (Zt2 _))))) ?_
    rintro ⟨j, ow, ag2⟩ hA2
    change TInv f.blocks ow (j + 1) ∧ treePass f.blocks (placeZ f.blocks) ((ordZ f.blocks).drop (j + 1)) ⟨ow, ag2⟩ = treePass f.blocks (placeZ f.blocks) ((ordZ f.blocks).drop 1) ⟨ov, false⟩ ∧ j + 1 ≤ (orderF f.blocks).length at hA2
    obtain ⟨hI2, hq2, hj⟩ := hA2
    refine Zb (Zd (Zc (Zj1 rfl rfl rfl (Za (Zi (Zb ?_))))))
    refine Zn1 rfl (fun h62 => ?_) (fun h62 => ?_)
    ·
     have hjl : j + 1 < (orderF f.blocks).length := by simp [ordZ] at h62; omega
     obtain ⟨v, hv⟩ := get_of_lt (orderF f.blocks) (j + 1) (by omega)
     have hvl := ho.lt v (List.mem_of_getElem? hv)
     obtain ⟨P, hP⟩ := get_of_lt (predsF f.blocks) v (by omega)
     obtain ⟨hT3, _⟩ := node_step ho hok.edges (a := ag2) hI2 (by omega) hv
     have hdc : (ordZ f.blocks).drop (j + 1) = (v : Int) :: (ordZ f.blocks).drop (j + 1 + 1) := drop_cons (by simp [ordZ, hv])
     rw [hdc, treePass] at hq2
     have hol2 := hI2.tree.len
     have hPt1 := preds_nat ho hok.edges (v := v)
     rw [hP, Option.getD_some] at hPt1
     skip
     refine Zi1 (Zi (Zb (Zs (Zb (Zd ?_)))))
     refine Zc (Zz (el := V.int (v : Int)) VT.sl41 rfl rfl (by omega) (by rw [List.map_drop, List.getElem?_drop, Int.toNat_natCast, Nat.add_comm 1 j]; exact get_ordZ hv) (fun a63 => ?_))
     refine Zc (Zz1 VT.ty3 rfl rfl (Zc (Zk rfl (Za (Zi (Zb (Zd (Zc (Zk rfl (Za (Zi (Zb (Zb (Zd (Zc (Zl rfl (Zc (Zl rfl ?_))))))))))))))))))
     refine Zc (Zz (el := intsX P) VT.sl38 rfl rfl (by omega) (get_mapS _ hP) (fun a67 => ?_))
     refine Zc (Zz1 VT.ty41 rfl rfl ?_)
     refine Zc (Zd2 (n := P.length) Tryz.underlying41 rfl (by simp) (fun hl69 => ?_))
     refine Zc (Zl rfl (Za (Zi (Zs ?_))))
     refine Zi2 (ι := Nat × Int) (fun (q, cur) => P.length - q) (fun (q, cur) => [(1, some (.ptr g1 0)), (2, some (.ptr g2 0)), (4, some (intsX (ordZ f.blocks))), (6, some (rowsX (predsF f.blocks))), (8, some (.ptr (δ 2) 0)), (10, some (.bool ag2)), (12, some (.int (v : Nat))), (13, some (.int cur)), (59, some (intsX ((ordZ f.blocks).drop 1))), (60, some (.int ((ordZ f.blocks).drop 1).length)), (61, some (.int j)), (68, some (intsX P)), (69, some (.int P.length)), (70, some (.int q))]) (fun (q, cur) => [.cells (δ 0) 3 (ow.map V.int), .cells (δ 2) 135 [.raw (.slice (some ⟨δ 0, 0, none⟩) f.blocks.length f.blocks.length), intsX (placeZ f.blocks)], .cells g2 135 VT.zs135, .cells g1 34 [.int f.name, blocksX f.blocks]]) (fun (q, cur) => q ≤ P.length ∧ nextL ow (placeZ f.blocks) (2 * f.blocks.length + 1) cur (P.drop q) = nextL ow (placeZ f.blocks) (2 * f.blocks.length + 1) (-1) P ∧ (cur = -1 ∨ ∃ c : Nat, cur = c ∧ InT f.blocks ow c)) (0, -1) ⟨Nat.zero_le _, rfl, .inl rfl⟩ ⟨rfl, rfl, rfl, rfl, rfl, rfl, rfl, rfl, rfl, rfl, rfl, rfl, rfl, rfl, trivial⟩ (Drops.keep (Drops.keep (Drops.keep (Drops.keep (Zt2 _))))) ?_
     rintro ⟨q, cur⟩ hA3
     change q ≤ P.length ∧ nextL ow (placeZ f.blocks) (2 * f.blocks.length + 1) cur (P.drop q) = nextL ow (placeZ f.blocks) (2 * f.blocks.length + 1) (-1) P ∧ (cur = -1 ∨ ∃ c : Nat, cur = c ∧ InT f.blocks ow c) at hA3
     obtain ⟨hql, hq3, hcur⟩ := hA3
     refine Zb (Zd (Zc (Zj1 rfl rfl rfl (Za (Zi (Zb ?_))))))
     refine Zn1 rfl (fun h71 => ?_) (fun h71 => ?_)
     ·
      obtain ⟨p, hp⟩ := get_of_lt P q h71
      obtain ⟨pk, rfl, hpk⟩ := hPt1 p (List.mem_of_getElem? hp)
      rw [drop_cons hp, nextL] at hq3
      obtain ⟨x, hx⟩ := get_of_lt (placeZ f.blocks) pk (by omega)
      obtain ⟨y, hy⟩ := get_of_lt ow pk (by omega)
      have hsk := skip_eq hx hy
      refine Zi1 (Zi (Zb (Zs (Zb (Zd ?_)))))
      refine Zc (Zz (el := V.int (pk : Nat)) VT.sl41 rfl rfl (by omega) (get_int hp) (fun a72 => ?_))
      refine Zc (Zz1 VT.ty3 rfl rfl (Zc (Zk rfl (Za (Zi (Zs (Zb (Zd (Zc (Zj VT.fa135_1 rfl (Zc (Zu 1 VT.ty41 rfl rfl rfl (Zc (Zl rfl ?_))))))))))))))
      refine Zc (Zz (el := V.int x) VT.sl41 rfl rfl (by omega) (get_int hx) (fun a82 => ?_))
      refine Zc (Zz1 VT.ty3 rfl rfl (Zc (Zj1 rfl rfl rfl (Zc (Zl rfl ?_)))))
      refine Zj2 (q := 85) rfl (fun hq85 => ?_) (fun hq85 => ?_)
      ·
       refine Zk0 hq85 ?_
       refine Zk0 hq85 ?_
       refine Zk0 hq85 ?_
       refine Zh (.inr ⟨_, _, 88, rfl, rfl, rfl⟩) rfl ?_
       refine Zh (.inr ⟨_, _, 88, rfl, rfl, rfl⟩) rfl ?_
       refine Zh (.inr ⟨_, _, 88, rfl, rfl, rfl⟩) rfl ?_
       refine Zh (.inr ⟨_, _, 88, rfl, rfl, rfl⟩) rfl ?_
       refine Zh (.inr ⟨_, _, 88, rfl, rfl, rfl⟩) rfl ?_
       refine Zh (.inr ⟨_, _, 88, rfl, rfl, rfl⟩) rfl ?_
       refine Zk0 hq85 ?_
       refine Zc (Zs1 rfl hq85 rfl ?_)
       refine Zc (Zk rfl (Za (Zi ?_)))
       refine Zp1 rfl rfl ?_
       have hs : skipP ow (placeZ f.blocks) (pk : Int) = true := by rw [hsk, hq85]; rfl
       rw [hs, if_pos rfl] at hq3
       have hA4 := And.intro (show q + 1 ≤ P.length by omega) (And.intro hq3 hcur)
       refine Zi1 (Zb1 (Zb1 (Zi (Zd ?_))))
       refine Zc (Zh2 rfl rfl (by omega) ?_)
       refine Zc (Zl rfl (Za (Zi ?_)))
       exact ⟨(q + 1, cur), (by (try simp only []); omega), hA4, ⟨rfl, rfl, rfl, rfl, rfl, rfl, rfl, rfl, rfl, rfl, rfl, rfl, rfl, rfl, trivial⟩, (Drops.keep (Drops.keep (Drops.keep (Drops.keep (Zt2 _)))))⟩
      ·
       refine Zc (Zl rfl ?_) (Zy0 hq85)
       refine Zc (Zj1 rfl rfl rfl ?_) (Zy0 hq85)
       refine Zc (Zl rfl ?_) (Zy0 hq85)
       refine Zj2 (q := 88) rfl (fun hq88 => ?_) (fun hq88 => ?_)
       ·
        have hx88 := bneT hq88
        refine Zc (Zj VT.fa135_0 rfl ?_) (Zy1 hq88)
        refine Zc (Zu 1 VT.ty41 rfl rfl rfl ?_) (Zy1 hq88)
        refine Zc (Zl rfl ?_) (Zy1 hq88)
        refine Zc (Zu2 (Zr2 VT.sl41 rfl rfl (by omega) (by omega) ⟨rfl, rfl⟩) ((V.le.of_eq (congrArg (V.ptr (δ 0)) (by omega)) : V.le _ (.ptr (δ 0) pk))) ?_) (Zy1 hq88)
        refine Zc (Zu 0 VT.ty3 rfl rfl (get_int hy) ?_) (Zy1 hq88)
        refine Zc (Zj1 rfl rfl rfl ?_) (Zy1 hq88)
        refine Zc (Zs1 rfl hq88 rfl ?_) (Zy0 hq85)
        refine Zc (Zt1 rfl hq85 rfl ?_)
        refine Zc (Zk rfl (Za (Zi ?_)))
        refine Zn1 rfl (fun h78 => ?_) (fun h78 => ?_)
        ·
         have hs : skipP ow (placeZ f.blocks) (pk : Int) = true := by rw [hsk, hq85, decide_eq_true hx88, decide_eq_true h78]; rfl
         rw [hs, if_pos rfl] at hq3
         have hA4 := And.intro (show q + 1 ≤ P.length by omega) (And.intro hq3 hcur)
         refine Zi1 (Zb1 (Zb1 (Zi (Zd ?_))))
         refine Zc (Zh2 rfl rfl (by omega) ?_)
         refine Zc (Zl rfl (Za (Zi ?_)))
         exact ⟨(q + 1, cur), (by (try simp only []); omega), hA4, ⟨rfl, rfl, rfl, rfl, rfl, rfl, rfl, rfl, rfl, rfl, rfl, rfl, rfl, rfl, trivial⟩, (Drops.keep (Drops.keep (Drops.keep (Drops.keep (Zt2 _)))))⟩
        ·
         have hs : skipP ow (placeZ f.blocks) (pk : Int) = false := by rw [hsk, hq85, decide_eq_true hx88, decide_eq_false h78]; rfl
         rw [hs, if_neg (by decide)] at hq3
         have hiT := skip_inT ho hI2.tree hpk hs
         refine Zb (Zd (Zc (Zl rfl (Zc (Zj1 rfl rfl rfl (Zc (Zk rfl (Za (Zi ?_)))))))))
         refine Zn1 rfl (fun h97 => ?_) (fun h97 => ?_)
         ·
          rw [if_pos h97] at hq3
          have hA4 := And.intro (show q + 1 ≤ P.length by omega) (And.intro hq3 (Or.inr ⟨pk, rfl, hiT⟩ : (pk : Int) = -1 ∨ ∃ c : Nat, (pk : Int) = c ∧ InT f.blocks ow c))
          refine Zd (Zc (Zl rfl (Zc (Zk rfl (Za (Zb1 (Zb1 (Zi (Zd ?_)))))))))
          refine Zc (Zh2 rfl rfl (by omega) ?_)
          refine Zc (Zl rfl (Za (Zi ?_)))
          exact ⟨(q + 1, (pk : Int)), (by (try simp only []); omega), hA4, ⟨rfl, rfl, rfl, rfl, rfl, rfl, rfl, rfl, rfl, rfl, rfl, rfl, rfl, rfl, trivial⟩, (Drops.keep (Drops.keep (Drops.keep (Drops.keep (Zt2 _)))))⟩
         ·
          rw [if_neg h97] at hq3
          obtain ⟨c, rfl, hc⟩ : ∃ c : Nat, cur = c ∧ InT f.blocks ow c := by rcases hcur with h | h; exact absurd (by rw [h]; decide) h97; exact h
          have hf1 := InT.fuel ho hc
          have hf2 := InT.fuel ho hiT
          obtain ⟨d, hd1, hd2, _⟩ := meet_ok ho hI2.tree (2 * f.blocks.length + 1) c pk hc hiT (by omega)
          have hA4 := And.intro (show q + 1 ≤ P.length by omega) (And.intro hq3 (Or.inr ⟨d, hd1, hd2⟩ : meetF ow (placeZ f.blocks) (2 * f.blocks.length + 1) c pk = -1 ∨ ∃ e : Nat, meetF ow (placeZ f.blocks) (2 * f.blocks.length + 1) c pk = e ∧ InT f.blocks ow e))
          refine Zd (Zc (Zv 1 VT.ty135 rfl rfl rfl (Zc (Zl rfl (Zc (Zl rfl ?_))))))
          refine Zc (Zl3 [.tmp 74, .tmp 75, .tmp 76] [_] _ rfl rfl VT.en96 (.refl _) (meetR_c ho hI2.tree (δ 0) (2 * f.blocks.length + 1) c pk hc hiT (by omega)) ?_)
          refine Zc (Zk rfl (Za (Zb1 (Zb1 (Zi (Zd ?_))))))
          refine Zc (Zh2 rfl rfl (by omega) ?_)
          refine Zc (Zl rfl (Za (Zi ?_)))
          exact ⟨(q + 1, meetF ow (placeZ f.blocks) (2 * f.blocks.length + 1) c pk), (by (try simp only []); omega), hA4, ⟨rfl, rfl, rfl, rfl, rfl, rfl, rfl, rfl, rfl, rfl, rfl, rfl, rfl, rfl, trivial⟩, (Drops.keep (Drops.keep (Drops.keep (Drops.keep (Zt2 _)))))⟩
       ·
        have hx88 := bneF hq88
        refine Zk1 hq88 ?_
        refine Zk1 hq88 ?_
        refine Zk1 hq88 ?_
        refine Zk1 hq88 ?_
        refine Zk1 hq88 ?_
        refine Zk1 hq88 ?_
        refine Zc (Zt1 rfl hq88 rfl ?_) (Zy0 hq85)
        refine Zc (Zt1 rfl hq85 rfl ?_)
        refine Zc (Zk rfl (Za (Zi ?_)))
        refine Zq1 rfl rfl ?_
        have hs : skipP ow (placeZ f.blocks) (pk : Int) = false := by rw [hsk, hq85, decide_eq_false (fun h => h hx88)]; rfl
        rw [hs, if_neg (by decide)] at hq3
        have hiT := skip_inT ho hI2.tree hpk hs
        refine Zb (Zd (Zc (Zl rfl (Zc (Zj1 rfl rfl rfl (Zc (Zk rfl (Za (Zi ?_)))))))))
        refine Zn1 rfl (fun h97 => ?_) (fun h97 => ?_)
        ·
         rw [if_pos h97] at hq3
         have hA4 := And.intro (show q + 1 ≤ P.length by omega) (And.intro hq3 (Or.inr ⟨pk, rfl, hiT⟩ : (pk : Int) = -1 ∨ ∃ c : Nat, (pk : Int) = c ∧ InT f.blocks ow c))
         refine Zd (Zc (Zl rfl (Zc (Zk rfl (Za (Zb1 (Zb1 (Zi (Zd ?_)))))))))
         refine Zc (Zh2 rfl rfl (by omega) ?_)
         refine Zc (Zl rfl (Za (Zi ?_)))
         exact ⟨(q + 1, (pk : Int)), (by (try simp only []); omega), hA4, ⟨rfl, rfl, rfl, rfl, rfl, rfl, rfl, rfl, rfl, rfl, rfl, rfl, rfl, rfl, trivial⟩, (Drops.keep (Drops.keep (Drops.keep (Drops.keep (Zt2 _)))))⟩
        ·
         rw [if_neg h97] at hq3
         obtain ⟨c, rfl, hc⟩ : ∃ c : Nat, cur = c ∧ InT f.blocks ow c := by rcases hcur with h | h; exact absurd (by rw [h]; decide) h97; exact h
         have hf1 := InT.fuel ho hc
         have hf2 := InT.fuel ho hiT
         obtain ⟨d, hd1, hd2, _⟩ := meet_ok ho hI2.tree (2 * f.blocks.length + 1) c pk hc hiT (by omega)
         have hA4 := And.intro (show q + 1 ≤ P.length by omega) (And.intro hq3 (Or.inr ⟨d, hd1, hd2⟩ : meetF ow (placeZ f.blocks) (2 * f.blocks.length + 1) c pk = -1 ∨ ∃ e : Nat, meetF ow (placeZ f.blocks) (2 * f.blocks.length + 1) c pk = e ∧ InT f.blocks ow e))
         refine Zd (Zc (Zv 1 VT.ty135 rfl rfl rfl (Zc (Zl rfl (Zc (Zl rfl ?_))))))
         refine Zc (Zl3 [.tmp 74, .tmp 75, .tmp 76] [_] _ rfl rfl VT.en96 (.refl _) (meetR_c ho hI2.tree (δ 0) (2 * f.blocks.length + 1) c pk hc hiT (by omega)) ?_)
         refine Zc (Zk rfl (Za (Zb1 (Zb1 (Zi (Zd ?_))))))
         refine Zc (Zh2 rfl rfl (by omega) ?_)
         refine Zc (Zl rfl (Za (Zi ?_)))
         exact ⟨(q + 1, meetF ow (placeZ f.blocks) (2 * f.blocks.length + 1) c pk), (by (try simp only []); omega), hA4, ⟨rfl, rfl, rfl, rfl, rfl, rfl, rfl, rfl, rfl, rfl, rfl, rfl, rfl, rfl, trivial⟩, (Drops.keep (Drops.keep (Drops.keep (Drops.keep (Zt2 _)))))⟩
     ·
      have hqe : q = P.length := by omega
      subst hqe
      rw [List.drop_length, nextL] at hq3
      obtain ⟨z, hz⟩ := get_of_lt ow v (by omega)
      have hnode : treeNode f.blocks (placeZ f.blocks) ⟨ow, ag2⟩ (v : Int) = if cur ≠ z then ⟨ow.set v cur, true⟩ else ⟨ow, ag2⟩ := by unfold treeNode; dsimp only; rw [Int.toNat_natCast, hP, Option.getD_some, gI_get ho hz, ← hq3]
      refine Zt (Ze1 (Ze1 (Zc1 (Zi (Zb (Zd (Zc (Zl rfl (Zc (Zj VT.fa135_0 rfl (Zc (Zu 1 VT.ty41 rfl rfl rfl (Zc (Zl rfl ?_))))))))))))))
      refine Zc (Zu2 (Zr2 VT.sl41 rfl rfl (by omega) (by omega) ⟨rfl, rfl⟩) ((V.le.of_eq (congrArg (V.ptr (δ 0)) (by omega)) : V.le _ (.ptr (δ 0) v))) ?_)
      refine Zc (Zu 0 VT.ty3 rfl rfl (get_int hz) ?_)
      refine Zc (Zj1 rfl rfl rfl (Za (Zi ?_)))
      refine Zm1 rfl (fun h108 => ?_) (fun h108 => ?_)
      ·
       rw [hnode, if_pos h108] at hT3 hq2
       refine Zd (Zc (Zj VT.fa135_0 rfl (Zc (Zu 1 VT.ty41 rfl rfl rfl (Zc (Zl rfl (Zc (Zl rfl ?_))))))))
       refine Zc (Zu2 (Zr2 VT.sl41 rfl rfl (by omega) (by omega) ⟨rfl, rfl⟩) ((V.le.of_eq (congrArg (V.ptr (δ 0)) (by omega)) : V.le _ (.ptr (δ 0) v))) ?_)
       refine Zc (Zy 0 VT.ty3 rfl rfl rfl rfl (Yf (by rw [Yd, hI2.tree.len]; omega)) ?_)
       refine Zc (Zk rfl (Za (Zb1 (Zi (Zd ?_)))))
       refine Zc (Zh2 rfl rfl (by omega) ?_)
       refine Zc (Zl rfl (Za (Zi ?_)))
       exact ⟨(j + 1, ow.set v cur, true), (by (try simp only []); omega), ⟨hT3, hq2, by omega⟩, ⟨rfl, rfl, rfl, rfl, rfl, rfl, rfl, rfl, rfl, trivial⟩, (Drops.keepE (congrArg (Own.cells (δ 0) 3) (by first | rfl | (rw [List.map_set]))) (Drops.keep (Drops.keep (Drops.keep (Zt2 _)))))⟩
      ·
       rw [hnode, if_neg (fun h => h h108)] at hT3 hq2
       refine Zi1 (Zb1 (Zi (Zd ?_)))
       refine Zc (Zh2 rfl rfl (by omega) ?_)
       refine Zc (Zl rfl (Za (Zi ?_)))
       exact ⟨(j + 1, ow, ag2), (by (try simp only []); omega), ⟨hT3, hq2, by omega⟩, ⟨rfl, rfl, rfl, rfl, rfl, rfl, rfl, rfl, rfl, trivial⟩, (Drops.keepE (congrArg (Own.cells (δ 0) 3) (by first | rfl | (rw [List.map_set]))) (Drops.keep (Drops.keep (Drops.keep (Zt2 _)))))⟩
    ·
     have hdn : (ordZ f.blocks).drop (j + 1) = [] := List.drop_of_length_le (by simp [ordZ] at h62 ⊢; omega)
     rw [hdn, treePass] at hq2
     rw [← hq2] at h2 h3 hq
     refine Zt (Ze1 (Ze1 (Zc1 (Zb1 (Zi ?_)))))
     exact ⟨(n, ow, ag2), (by (try simp only []); omega), ⟨h2, h3, hq⟩, ⟨rfl, rfl, rfl, rfl, rfl, rfl, trivial⟩, (Drops.keep (Drops.keep (Drops.keep (Drops.keep (Zt2 _)))))⟩
   ·
    subst h57
    rw [iter_end _ _ _ _ _ rfl] at hq
    have hovl := hI.tree.len
    refine Zt (Ze1 (Ze1 (Zc1 (Zi ?_))))
    refine VW_freezeC 0 0 0 (sz := 1) (rest := []) (ov.map V.int) rfl rfl rfl (by rw [flat_ints2, Yc]) (by simp [hovl]) (Nat.le_refl _) (by simp only [maxLen]; omega) (fits_ints _) ?_
    refine Zb (Zd (Zc (Zv 0 VT.ty135 rfl rfl rfl (Zc (Zx 1 VT.ty135 rfl rfl rfl rfl rfl (Zc (Zk rfl (Za (Zi (Zf1 ?_))))))))))
    refine Zh1 rfl rfl (.cons (.agg (i := 1) VT.ty135 rfl rfl rfl) (.cons (.tmp rfl) (.nil))) ?_
    have e : treeF f.blocks = ov := hq.symm
    rw [graphV, if_pos h22, if_pos h22, h22, e]
    rfl
set_option maxRecDepth 100000 in
theorem Tree_c (f : SFunc) : VPure Tryz.prog 52 [funcV f] (.tup [intsX (if funcF f = 0 then treeF f.blocks else []), .int (funcF f)]) := by
 refine V_start (nt := 14) Tryz.func52 rfl rfl rfl ?_
 refine Zb (Zd ?_)
 refine Zc (Zc2 rfl rfl (fun g1 => ?_))
 refine Zc (Zu2 (Zk rfl ⟨rfl, rfl⟩) ((V.le.nil 1 : V.le _ (intsX []))) ?_)
 refine Zc (Zk rfl (Za (Zi (Zb (Zd (Zc (Zv 0 VT.ty34 rfl rfl rfl ?_)))))))
 refine Zc (Zx1 [.tmp 7] rfl rfl VT.en71 (Build_c f) ?_)
 refine Zc (Zl rfl (Zc (Zg2 rfl rfl (Zc (Zg2 rfl rfl ?_)))))
 refine Zc (Zb2 VT.zr135 _ rfl rfl (fun g4 => ?_))
 refine Zc (Zx 0 VT.ty135 rfl rfl rfl rfl rfl (Zc (Zk rfl (Za (Zi (Zb (Zd (Zc (Zj VT.fa135_0 rfl (Zc (Zu 0 VT.ty41 rfl rfl rfl (Zc (Zl rfl (Zc (Zk rfl (Zc (Zk rfl (Za (Zi (Zf1 ?_))))))))))))))))))))
 refine Zh1 rfl rfl (.cons (.tmp rfl) (.cons (.tmp rfl) (.nil))) ?_
 rfl
end Go.Proofs.YtjekhhgjfelpgaaGreat.X14
