import Derived.Test.YtmmmgamhffbkbaaVT
import Derived.Test.YtmmmgamhffbkbaaS2
import Derived.Test.YtmmmgamhffbkbaaVO
import Derived.Test.YtmmmgamhffbkbaaDZ
import Derived.Test.YtmmmgamhffbkbaaX1
import Derived.Test.YtmmmgamhffbkbaaX2
import Derived.Test.YtmmmgamhffbkbaaX3
import Derived.Test.YtmmmgamhffbkbaaX4
import Derived.Test.YtmmmgamhffbkbaaX5
import Derived.Test.YtmmmgamhffbkbaaX6
import Derived.Test.YtmmmgamhffbkbaaX7
import Derived.Test.YtmmmgamhffbkbaaX8
import Derived.Test.YtmmmgamhffbkbaaX9
import Derived.Test.YtmmmgamhffbkbaaX10
import Derived.Test.YtmmmgamhffbkbaaXW
import Derived.Test.YtmmmgamhffbkbaaX25
import Derived.Test.YtmmmgamhffbkbaaX26
set_option linter.unusedVariables false
set_option linter.unusedSimpArgs false
namespace Go.Proofs.Ytmmmgamhffbkbaa.X34
open Go.VL Go.SM Go.Proofs.Ytmmmgamhffbkbaa Go.Proofs.Ytmmmgamhffbkbaa.X1 Go.Proofs.Ytmmmgamhffbkbaa.X2 Go.Proofs.Ytmmmgamhffbkbaa.X3 Go.Proofs.Ytmmmgamhffbkbaa.X4 Go.Proofs.Ytmmmgamhffbkbaa.X5 Go.Proofs.Ytmmmgamhffbkbaa.X6 Go.Proofs.Ytmmmgamhffbkbaa.X7 Go.Proofs.Ytmmmgamhffbkbaa.X8 Go.Proofs.Ytmmmgamhffbkbaa.X9 Go.Proofs.Ytmmmgamhffbkbaa.X10 Go.Proofs.Ytmmmgamhffbkbaa.XW Go.Proofs.Ytmmmgamhffbkbaa.X25 Go.Proofs.Ytmmmgamhffbkbaa.X26
open Go.VL renaming VOps_nil → Za, VW_seq → Zb, VW_region → Zd, Needs_nil → Ze, Then_n → Zi, V_fieldAddr → Zj, V_move → Zl, eqRes → Zm, vopT → Zn, goodS → Zo, VW_block → Zs, VW_exit → Zt, V_load → Zu, V_load_agg → Zv, V_store_agg → Zx, V_store → Zy, V_indexAddr → Zz, InBlock_n → Zb1, InBlock_hit → Zc1, Then_e → Ze1, VW_ret → Zf1, VRet_one → Zg1, VW_skip → Zi1, V_bin → Zj1, VW_condP → Zn1, V_load_ep_agg → Za2, V_alloc → Zb2, V_box → Zc2, V_lenN → Zd2, V_build → Zf2, V_add → Zh2, VW_loopF → Zi2, goodA → Zm2, goodU → Zo2, evs_cons → Zp2, evs_nil → Zq2, Drops.refl → Zt2, oneRes → Zw2, oneE → Zx2, anyRes → Za3, oneY → Zd3, V_appendN → Zi3, V_lit → Zk3
set_option maxRecDepth 100000 in
set_option maxHeartbeats 16000000 in
theorem CopyFunc_c {f : SFunc} (hc : CpOk f) : VCalls Try.prog 18 [funcV f] [] fun r S' => ∃ rows, RowsOk f.blocks rows ∧ r = .agg [.int f.name, .sl 7 none (cpL f.blocks rows)] ∧ S' = eOwn rows := by
 refine VCalls_drops ?_
 have hmany := hc.many
 refine V_start (nt := 87) Try.func18 rfl rfl rfl ?_
 refine Zb (Zd ?_)
 refine Zc (Zc2 rfl rfl (fun g1 => ?_))
 refine Zc (Zb2 VT.zr37 _ rfl rfl (fun g2 => ?_))
 refine Za (Zi (Zb (Zd (Zc (Zj VT.fa37_0 rfl (Zc (Zu 1 VT.ty3 rfl rfl rfl ?_)))))))
 refine Zc (Zf2 [0] [.tmp 12] VT.st37 rfl rfl rfl rfl ?_)
 refine Zc (Zb2 VT.zr37 _ rfl rfl (fun g3 => ?_))
 refine Zc (Zx 0 VT.ty37 rfl rfl rfl rfl rfl (Za (Zi ?_)))
 refine VW_cells 0 (ls' := [.int f.name, .sl 7 (some .nil) []]) rfl ⟨V.le.refl _, rfl, V.le.nilTok 7, rfl, trivial⟩ ?_
 refine VW_nilBuf 44 7 ?_
 refine Zb (Zb (Zd (Zc (Zj VT.fa37_1 rfl (Zc (Zu 3 VT.ty35 rfl rfl rfl ?_))))))
 refine Zc (Zd2 (n := f.blocks.length) Try.underlying35 rfl (by simp) (fun hl16 => ?_))
 refine Zc (Zl rfl (Za (Zi (Zs ?_))))
 refine Zi2 (ι := Nat × Tok × List (Option XRow)) (fun (k, tok, rows) => f.blocks.length - k) (fun (k, tok, rows) => [(1, some (.ptr g1 0)), (2, some (.ptr g2 0)), (3, some (.ptr g3 0)), (15, some (blocksX f.blocks)), (16, some (.int f.blocks.length)), (17, some (.int k))]) (fun (k, tok, rows) => .buf tok 44 7 k :: .cells g3 37 [.int f.name, .sl 7 (some tok) (cpL (f.blocks.take k) rows)] :: .cells g2 37 VT.zs37 :: .cells g1 37 [.int f.name, blocksX f.blocks] :: eOwn rows) (fun (k, tok, rows) => k ≤ f.blocks.length ∧ RowsOk (f.blocks.take k) rows) (0, .nil, []) ⟨Nat.zero_le _, rows_nil⟩ ⟨rfl, rfl, rfl, rfl, rfl, rfl, trivial⟩ (Zt2 _) ?_
 rintro ⟨k, tok, rows⟩ hA
 change k ≤ f.blocks.length ∧ RowsOk (f.blocks.take k) rows at hA
 obtain ⟨hk, hR⟩ := hA
 refine Zb (Zd (Zc (Zj1 rfl rfl rfl (Za (Zi (Zb ?_))))))
 refine Zn1 rfl (fun h18 => ?_) (fun h18 => ?_)
 ·
  obtain ⟨b, hb⟩ := get_of_lt f.blocks k h18
  obtain ⟨c1, c2, c3, c4, c5, c6⟩ := hc.block b (List.mem_of_getElem? hb)
  have hkl : (cpL (f.blocks.take k) rows).length = k := by rw [cpL_len hR, List.length_take]; omega
  refine Zi1 (Zi (Zb (Zs (Zb (Zd ?_)))))
  refine Zc (Zz (el := blockV b) VT.sl35 rfl rfl (by omega) (get_mapS _ hb) (fun a19 => ?_))
  refine Zc (Za2 VT.ty44 rfl rfl ?_)
  refine Zc (Zb2 VT.zr44 _ rfl rfl (fun g5 => ?_))
  refine Zc (Zx 0 VT.ty44 rfl rfl rfl rfl rfl (Za (Zi (Zb ?_))))
  refine VW_drawR (G := Nat) [([], [], []), ([], [5], []), ([1], [22], []), ([2, 1, 0], [21, 23], []), ([], [5], []), ([4], [25], []), (dn 6, [24, 26], []), ([], [], [0]), (dn 8, [6, 27], [])] [7, 8] (twoSt _ (fun x => .cells x 44 VT.zs44 :: .cells g5 44 [intsX b.params, inssX b.ins, .int b.term.kind, .int b.term.arg, .int b.term.n, intsX b.term.cases, edgesX b.term.to] :: .buf tok 44 7 k :: .cells g3 37 [.int f.name, .sl 7 (some tok) (cpL (f.blocks.take k) rows)] :: .cells g2 37 VT.zs37 :: .cells g1 37 [.int f.name, blocksX f.blocks] :: (eOwn rows)) (fun x _ => .cells x 44 [intsX b.params, V.nilSl, .int b.term.kind, .int b.term.arg, .int b.term.n, intsX b.term.cases, edgesX b.term.to] :: .cells g5 44 [intsX b.params, inssX b.ins, .int b.term.kind, .int b.term.arg, .int b.term.n, intsX b.term.cases, edgesX b.term.to] :: .buf tok 44 7 k :: .cells g3 37 [.int f.name, .sl 7 (some tok) (cpL (f.blocks.take k) rows)] :: .cells g2 37 VT.zs37 :: .cells g1 37 [.int f.name, blocksX f.blocks] :: (eOwn rows))) [6] [6, 21, 22, 23, 24, 25, 26, 27] rfl VT.mix ?_
  refine Zp (Zm _) (Zo rfl rfl ⟨(fun γ => Ze (Zn rfl (V_lit0 [] VT.sl26 rfl rfl rfl Zq2 rfl rfl ⟨rfl, rfl⟩))), (fun γ => Ze (Zn rfl (V_lit0 [] VT.sl26 rfl rfl rfl Zq2 rfl rfl ⟨rfl, rfl⟩))), trivial⟩) ?_
  refine Zp (Zm _) (Zm2 rfl (fun _ => (fun γ => Zf (fun _ h5 => Ze (Zn rfl (Zj VT.fa44_0 h5 ⟨rfl, rfl⟩)))))) ?_
  refine Zp (Zm _) (Zo rfl rfl ⟨(fun γ => Zw 1 0 rfl (fun _ h22 => Ze (Zn rfl (Zu 0 VT.ty26 h22 rfl rfl ⟨rfl, rfl⟩)))), (fun γ => Zw 1 0 rfl (fun _ h22 => Ze (Zn rfl (Zu 1 VT.ty26 h22 rfl rfl ⟨rfl, rfl⟩)))), trivial⟩) ?_
  refine Zp (Zm _) (Zo rfl rfl ⟨(fun γ => Zw 0 2 rfl (fun _ h21 => Zw 2 0 rfl (fun _ h23 => Ze (Zn rfl (V_append0D VT.sl26 h21 h23 (by rw [List.length_map]; omega) ⟨rfl, rfl⟩))))), (fun γ => Zw 0 2 rfl (fun _ h21 => Zw 2 0 rfl (fun _ h23 => Ze (Zn rfl (V_append0D VT.sl26 h21 h23 (by rw [List.length_map]; omega) ⟨rfl, rfl⟩))))), trivial⟩) ?_
  refine Zp (Zm _) (Zm2 rfl (fun _ => (fun γ => Zf (fun _ h5 => Ze (Zn rfl (Zj VT.fa44_2 h5 ⟨rfl, rfl⟩)))))) ?_
  refine Zp (Zm _) (Zo rfl rfl ⟨(fun γ => Zw 4 0 rfl (fun _ h25 => Ze (Zn rfl (Zv 0 VT.ty42 h25 rfl rfl ⟨rfl, rfl⟩)))), (fun γ => Zw 4 0 rfl (fun _ h25 => Ze (Zn rfl (Zv 1 VT.ty42 h25 rfl rfl ⟨rfl, rfl⟩)))), trivial⟩) ?_
  refine Zp (Zm _) (Zm2 rfl (fun _ => (fun γ => Zw 3 2 rfl (fun _ h24 => Zw 5 0 rfl (fun _ h26 => Ze (Zn rfl (Zf2 [0, 2] [.tmp 24, .tmp 26] VT.st44 rfl rfl (Zp2 h24 (Zp2 h26 Zq2)) rfl ⟨rfl, rfl⟩))))))) ?_
  refine Zp (Zw2 (fun g => .ptr g 0)) (Zo2 0 rfl (fun γ => Ze (Zn rfl (Zb2 VT.zr44 _ rfl rfl (fun g6 => ⟨g6, ⟨g6, rfl, rfl⟩, rfl⟩))))) ?_
  refine Zp Za3 (Zo2 1 rfl (fun γ => Zw 7 0 rfl (fun _ h6 => Zw 6 1 rfl (fun _ h27 => Ze (Zx2 h6 (fun e6 => Zn rfl (Zx 0 VT.ty44 e6 h27 rfl rfl rfl ⟨default, trivial, rfl⟩))))))) ?_
  refine DrawP_nil (fun γ => Zw 7 1 rfl (fun r6 h6 => Ze ?_))
  have e6 : r6 = some _ := Zd3 h6
  subst e6
  clear h6
  refine Zi ?_
  refine VW_cells 0 (ls' := [intsX b.params, .sl 4 (some .nil) [], .int b.term.kind, .int b.term.arg, .int b.term.n, intsX b.term.cases, edgesX b.term.to]) rfl ⟨V.le.refl _, rfl, V.le.nilTok 4, rfl, V.le.refl _, rfl, V.le.refl _, rfl, V.le.refl _, rfl, V.le.refl _, rfl, V.le.refl _, rfl, trivial⟩ ?_
  refine VW_nilBuf 46 4 ?_
  generalize hg6 : γ 0 = g6
  refine Zb (Zb (Zd (Zc (Zj VT.fa44_1 rfl (Zc (Zu 2 VT.ty39 rfl rfl rfl ?_))))))
  refine Zc (Zd2 (n := b.ins.length) Try.underlying39 rfl (by simp) (fun hl30 => ?_))
  refine Zc (Zl rfl (Za (Zi (Zs ?_))))
  refine Zi2 (ι := Nat × Tok) (fun (j, ti) => b.ins.length - j) (fun (j, ti) => [(1, some (.ptr g1 0)), (2, some (.ptr g2 0)), (3, some (.ptr g3 0)), (15, some (blocksX f.blocks)), (16, some (.int f.blocks.length)), (17, some (.int k)), (5, some (.ptr g5 0)), (6, some (.ptr g6 0)), (29, some (inssX b.ins)), (30, some (.int b.ins.length)), (31, some (.int j))]) (fun (j, ti) => .buf ti 46 4 j :: .cells g6 44 [intsX b.params, .sl 4 (some ti) ((b.ins.take j).map insV), .int b.term.kind, .int b.term.arg, .int b.term.n, intsX b.term.cases, edgesX b.term.to] :: .cells g5 44 [intsX b.params, inssX b.ins, .int b.term.kind, .int b.term.arg, .int b.term.n, intsX b.term.cases, edgesX b.term.to] :: .buf tok 44 7 k :: .cells g3 37 [.int f.name, .sl 7 (some tok) (cpL (f.blocks.take k) rows)] :: .cells g2 37 VT.zs37 :: .cells g1 37 [.int f.name, blocksX f.blocks] :: eOwn rows) (fun (j, ti) => j ≤ b.ins.length) (0, .nil) (Nat.zero_le _) ⟨rfl, rfl, rfl, rfl, rfl, rfl, rfl, rfl, rfl, rfl, rfl, trivial⟩ (Zt2 _) ?_
  rintro ⟨j, ti⟩ hj
  change j ≤ b.ins.length at hj
  refine Zb (Zd (Zc (Zj1 rfl rfl rfl (Za (Zi (Zb ?_))))))
  refine Zn1 rfl (fun h32 => ?_) (fun h32 => ?_)
  ·
   obtain ⟨i, hi⟩ := get_of_lt b.ins j h32
   have hia := c5 i (List.mem_of_getElem? hi)
   refine Zi1 (Zi (Zb (Zs (Zb (Zd ?_)))))
   refine Zc (Zz (el := insV i) VT.sl39 rfl rfl (by omega) (get_mapS _ hi) (fun a33 => ?_))
   refine Zc (Za2 VT.ty46 rfl rfl ?_)
   refine Zc (Zb2 VT.zr46 _ rfl rfl (fun g8 => ?_))
   refine Zc (Zx 0 VT.ty46 rfl rfl rfl rfl rfl (Za (Zi (Zb (Zd ?_)))))
   refine Zc (V_lit0 [] VT.sl26 rfl rfl rfl rfl rfl rfl ?_)
   refine Zc (Zj VT.fa46_3 rfl (Zc (Zu 0 VT.ty26 rfl rfl rfl ?_)))
   refine Zc (V_append0D VT.sl26 rfl rfl (by rw [List.length_map]; omega) ?_)
   refine Zc (Zj VT.fa46_3 rfl (Zc (Zy 0 VT.ty26 rfl rfl rfl rfl rfl (Za (Zi (Zd (Zc (Zj VT.fa44_1 rfl (Zc (Zu 2 VT.ty39 rfl rfl rfl (Zc (Zv 0 VT.ty46 rfl rfl rfl ?_))))))))))))
   refine Zc (Zk3 [.tmp 42] VT.sl39 rfl rfl rfl rfl rfl ?_)
   refine Zc (Zi3 1 _ VT.sl39 rfl rfl rfl (by simp; omega) (by simp; omega) (fun t44 => ?_))
   refine Zc (Zj VT.fa44_1 rfl (Zc (Zy 2 VT.ty39 rfl rfl rfl rfl rfl (Za (Zb1 (Zi (Zd ?_)))))))
   refine Zc (Zh2 rfl rfl (by omega) ?_)
   refine Zc (Zl rfl (Za (Zi ?_)))
   exact ⟨(j + 1, t44), (by (try simp only []); omega), (by omega), ⟨rfl, rfl, rfl, rfl, rfl, rfl, rfl, rfl, rfl, rfl, rfl, trivial⟩, (Drops.drop (Drops.buf (by simp; omega) (Drops.keepE (congrArg (fun l => Own.cells g6 44 [intsX b.params, .sl 4 (some t44) l, .int b.term.kind, .int b.term.arg, .int b.term.n, intsX b.term.cases, edgesX b.term.to]) (by rw [take_snoc hi, List.map_append]; rfl)) (Drops.keep (Drops.buf (by simp) (Drops.keep (Drops.keep (Drops.keep (Zt2 _)))))))))⟩
  ·
   have hje : j = b.ins.length := by omega
   subst hje
   have hsi : V.le (.sl 4 (some ti) ((b.ins.take b.ins.length).map insV)) (inssX b.ins) := by rw [List.take_length]; exact V.le.strip
   refine Zt (Ze1 (Ze1 (Zc1 (Zi ?_))))
   refine VW_cells 1 (ls' := [intsX b.params, inssX b.ins, .int b.term.kind, .int b.term.arg, .int b.term.n, intsX b.term.cases, edgesX b.term.to]) rfl ⟨V.le.refl _, rfl, hsi, rfl, V.le.refl _, rfl, V.le.refl _, rfl, V.le.refl _, rfl, V.le.refl _, rfl, V.le.refl _, rfl, trivial⟩ ?_
   refine Zb (Zd ?_)
   refine Zc (V_lit0 [] VT.sl26 rfl rfl rfl rfl rfl rfl ?_)
   refine Zc (Zj VT.fa44_2 rfl (Zc (Zj VT.fa42_3 rfl (Zc (Zu 2 VT.ty26 rfl rfl rfl ?_)))))
   refine Zc (V_append0D VT.sl26 rfl rfl (by rw [List.length_map]; omega) ?_)
   refine Zc (Zj VT.fa44_2 rfl (Zc (Zj VT.fa42_3 rfl (Zc (Zy 1 VT.ty26 rfl rfl rfl rfl rfl (Za (Zi (Zb (Zd (Zc (Zj VT.fa44_2 rfl (Zc (Zj VT.fa42_4 rfl (Zc (Zy 1 VT.ty40 rfl rfl rfl rfl rfl (Za (Zi (Zb (Zb (Zd (Zc (Zj VT.fa44_2 rfl (Zc (Zj VT.fa42_4 rfl ?_))))))))))))))))))))))))
   refine Zc (Zu 2 VT.ty40 rfl rfl rfl ?_)
   refine Zc (Zd2 (n := b.term.to.length) Try.underlying40 rfl (by simp) (fun hl59 => ?_))
   refine Zc (Zl rfl (Za (Zi (Zs ?_))))
   refine Zi2 (ι := Nat × Option XRow) (fun (j, o) => b.term.to.length - j) (fun (j, o) => [(1, some (.ptr g1 0)), (2, some (.ptr g2 0)), (3, some (.ptr g3 0)), (15, some (blocksX f.blocks)), (16, some (.int f.blocks.length)), (17, some (.int k)), (5, some (.ptr g5 0)), (6, some (.ptr g6 0)), (58, some (edgesX b.term.to)), (59, some (.int b.term.to.length)), (60, some (.int j))]) (fun (j, o) => .cells g6 44 [intsX b.params, inssX b.ins, .int b.term.kind, .int b.term.arg, .int b.term.n, intsX b.term.cases, xLeaf o] :: .cells g5 44 [intsX b.params, inssX b.ins, .int b.term.kind, .int b.term.arg, .int b.term.n, intsX b.term.cases, edgesX b.term.to] :: .buf tok 44 7 k :: .cells g3 37 [.int f.name, .sl 7 (some tok) (cpL (f.blocks.take k) rows)] :: .cells g2 37 VT.zs37 :: .cells g1 37 [.int f.name, blocksX f.blocks] :: (xOwn 48 o ++ (eOwn rows))) (fun (j, o) => j ≤ b.term.to.length ∧ xl o = (b.term.to.take j).map edgeV ∧ xOk 2 o) (0, none) ⟨Nat.zero_le _, rfl, trivial⟩ ⟨rfl, rfl, rfl, rfl, rfl, rfl, rfl, rfl, rfl, rfl, rfl, trivial⟩ (Drops.drop (Drops.keep (Drops.keep (Drops.buf (by simp) (Drops.keep (Drops.keep (Drops.keep (Zt2 _)))))))) ?_
   rintro ⟨j, o⟩ hB
   change j ≤ b.term.to.length ∧ xl o = (b.term.to.take j).map edgeV ∧ xOk 2 o at hB
   obtain ⟨hj, hxo, hoo⟩ := hB
   refine Zb (Zd (Zc (Zj1 rfl rfl rfl (Za (Zi (Zb ?_))))))
   refine Zn1 rfl (fun h61 => ?_) (fun h61 => ?_)
   ·
    obtain ⟨e, he⟩ := get_of_lt b.term.to j h61
    have hea := c6 e (List.mem_of_getElem? he)
    have hxl : (xl o).length = j := by rw [hxo, List.length_map, List.length_take]; omega
    have hxs : xl o ++ [edgeV e] = ((b.term.to.take (j + 1)).map edgeV) := by rw [hxo, take_snoc he, List.map_append]; rfl
    refine Zi1 (Zi (Zb (Zs (Zb (Zd ?_)))))
    refine Zc (Zz (el := edgeV e) VT.sl40 rfl rfl (by omega) (get_mapS _ he) (fun a62 => ?_))
    refine Zc (Za2 VT.ty48 rfl rfl ?_)
    refine Zc (Zb2 VT.zr48 _ rfl rfl (fun g10 => ?_))
    refine Zc (Zx 0 VT.ty48 rfl rfl rfl rfl rfl (Za (Zi ?_)))
    refine VW_drawR (G := (Option XRow)) [([], [6], []), ([0], [64], []), ([1, 0], [65], []), ([], [10], []), ([3], [67], []), ([], [], []), ([], [10], []), ([6], [70], []), ([7, 6, 5], [69, 71], []), ([8, 7, 6, 5, 4, 3], [68, 72], []), ([9, 8, 7, 6, 5, 4, 3], [73], []), (dn 11, [66, 74], [0]), (dn 12, [6], []), (dn 13, [76], []), (dn 14, [77, 75], [])] [11, 14] (twoSt _ (fun x => (.cells g10 48 [.int e.block, intsX e.args] :: .cells g6 44 [intsX b.params, inssX b.ins, .int b.term.kind, .int b.term.arg, .int b.term.n, intsX b.term.cases, xLeaf o] :: .cells g5 44 [intsX b.params, inssX b.ins, .int b.term.kind, .int b.term.arg, .int b.term.n, intsX b.term.cases, edgesX b.term.to] :: .buf tok 44 7 k :: .cells g3 37 [.int f.name, .sl 7 (some tok) (cpL (f.blocks.take k) rows)] :: .cells g2 37 VT.zs37 :: .cells g1 37 [.int f.name, blocksX f.blocks] :: (xOwn 48 (nrmX 2 ((b.term.to.take (j + 1)).map edgeV) x) ++ (eOwn rows)))) (fun x _ => (.cells g10 48 [.int e.block, intsX e.args] :: .cells g6 44 [intsX b.params, inssX b.ins, .int b.term.kind, .int b.term.arg, .int b.term.n, intsX b.term.cases, xLeaf (nrmX 2 ((b.term.to.take (j + 1)).map edgeV) x)] :: .cells g5 44 [intsX b.params, inssX b.ins, .int b.term.kind, .int b.term.arg, .int b.term.n, intsX b.term.cases, edgesX b.term.to] :: .buf tok 44 7 k :: .cells g3 37 [.int f.name, .sl 7 (some tok) (cpL (f.blocks.take k) rows)] :: .cells g2 37 VT.zs37 :: .cells g1 37 [.int f.name, blocksX f.blocks] :: (xOwn 48 (nrmX 2 ((b.term.to.take (j + 1)).map edgeV) x) ++ (eOwn rows))))) [] [64, 65, 66, 67, 68, 69, 70, 71, 72, 73, 74, 75, 76, 77] rfl VT.mix ?_
    refine Zp (Zm _) (Zo rfl rfl ⟨(fun γ => Zf (fun _ h6 => Ze (Zn rfl (Zj VT.fa44_2 h6 ⟨rfl, rfl⟩)))), trivial⟩) ?_
    refine Zp (Zm _) (Zo rfl rfl ⟨(fun γ => Zw 0 0 rfl (fun _ h64 => Ze (Zn rfl (Zj VT.fa42_4 h64 ⟨rfl, rfl⟩)))), trivial⟩) ?_
    refine Zp (Zm _) (Zo rfl rfl ⟨(fun γ => Zw 1 0 rfl (fun _ h65 => Ze (Zn rfl (Zu 1 VT.ty40 h65 rfl rfl ⟨rfl, rfl⟩)))), trivial⟩) ?_
    refine Zp (Zm _) (Zo rfl rfl ⟨(fun γ => Zf (fun _ h10 => Ze (Zn rfl (Zj VT.fa48_0 h10 ⟨rfl, rfl⟩)))), trivial⟩) ?_
    refine Zp (Zm _) (Zo rfl rfl ⟨(fun γ => Zw 3 0 rfl (fun _ h67 => Ze (Zn rfl (Zu 0 VT.ty3 h67 rfl rfl ⟨rfl, rfl⟩)))), trivial⟩) ?_
    refine Zp (Zm _) (Zo rfl rfl ⟨(fun γ => Ze (Zn rfl (V_lit0 [] VT.sl26 rfl rfl rfl Zq2 rfl rfl ⟨rfl, rfl⟩))), trivial⟩) ?_
    refine Zp (Zm _) (Zo rfl rfl ⟨(fun γ => Zf (fun _ h10 => Ze (Zn rfl (Zj VT.fa48_1 h10 ⟨rfl, rfl⟩)))), trivial⟩) ?_
    refine Zp (Zm _) (Zo rfl rfl ⟨(fun γ => Zw 6 0 rfl (fun _ h70 => Ze (Zn rfl (Zu 0 VT.ty26 h70 rfl rfl ⟨rfl, rfl⟩)))), trivial⟩) ?_
    refine Zp (Zm _) (Zo rfl rfl ⟨(fun γ => Zw 5 2 rfl (fun _ h69 => Zw 7 0 rfl (fun _ h71 => Ze (Zn rfl (V_append0D VT.sl26 h69 h71 (by rw [List.length_map]; omega) ⟨rfl, rfl⟩))))), trivial⟩) ?_
    refine Zp (Zm _) (Zo rfl rfl ⟨(fun γ => Zw 4 4 rfl (fun _ h68 => Zw 8 0 rfl (fun _ h72 => Ze (Zn rfl (Zf2 [0, 1] [.tmp 68, .tmp 72] VT.st48 rfl rfl (Zp2 h68 (Zp2 h72 Zq2)) rfl ⟨rfl, rfl⟩))))), trivial⟩) ?_
    refine Zp (Zm _) (Zo rfl rfl ⟨(fun γ => Zw 9 0 rfl (fun _ h73 => Ze (Zn rfl (Zk3 [.tmp 73] VT.sl40 rfl rfl rfl (Zp2 h73 Zq2) rfl ⟨rfl, rfl⟩)))), trivial⟩) ?_
    refine Zp (Zw2 (fun x => xLeaf (nrmX 2 ((b.term.to.take (j + 1)).map edgeV) x))) (Zo2 0 rfl (fun γ => Zw 2 8 rfl (fun _ h66 => Zw 10 0 rfl (fun _ h74 => Ze (Zn rfl (V_appendOT (o := o) ([.cells g10 48 [.int e.block, intsX e.args], .cells g6 44 [intsX b.params, inssX b.ins, .int b.term.kind, .int b.term.arg, .int b.term.n, intsX b.term.cases, xLeaf o], .cells g5 44 [intsX b.params, inssX b.ins, .int b.term.kind, .int b.term.arg, .int b.term.n, intsX b.term.cases, edgesX b.term.to], .buf tok 44 7 k, .cells g3 37 [.int f.name, .sl 7 (some tok) (cpL (f.blocks.take k) rows)], .cells g2 37 VT.zs37, .cells g1 37 [.int f.name, blocksX f.blocks]] ++ (eOwn rows)) (fun o' => (.cells g10 48 [.int e.block, intsX e.args] :: .cells g6 44 [intsX b.params, inssX b.ins, .int b.term.kind, .int b.term.arg, .int b.term.n, intsX b.term.cases, xLeaf o] :: .cells g5 44 [intsX b.params, inssX b.ins, .int b.term.kind, .int b.term.arg, .int b.term.n, intsX b.term.cases, edgesX b.term.to] :: .buf tok 44 7 k :: .cells g3 37 [.int f.name, .sl 7 (some tok) (cpL (f.blocks.take k) rows)] :: .cells g2 37 VT.zs37 :: .cells g1 37 [.int f.name, blocksX f.blocks] :: (xOwn 48 o' ++ (eOwn rows)))) VT.sl40 (by decide) h66 h74 (pullC [.cells g10 48 [.int e.block, intsX e.args], .cells g6 44 [intsX b.params, inssX b.ins, .int b.term.kind, .int b.term.arg, .int b.term.n, intsX b.term.cases, xLeaf o], .cells g5 44 [intsX b.params, inssX b.ins, .int b.term.kind, .int b.term.arg, .int b.term.n, intsX b.term.cases, edgesX b.term.to], .buf tok 44 7 k, .cells g3 37 [.int f.name, .sl 7 (some tok) (cpL (f.blocks.take k) rows)], .cells g2 37 VT.zs37, .cells g1 37 [.int f.name, blocksX f.blocks]]) (fun o' => (pullC [.cells g10 48 [.int e.block, intsX e.args], .cells g6 44 [intsX b.params, inssX b.ins, .int b.term.kind, .int b.term.arg, .int b.term.n, intsX b.term.cases, xLeaf o], .cells g5 44 [intsX b.params, inssX b.ins, .int b.term.kind, .int b.term.arg, .int b.term.n, intsX b.term.cases, edgesX b.term.to], .buf tok 44 7 k, .cells g3 37 [.int f.name, .sl 7 (some tok) (cpL (f.blocks.take k) rows)], .cells g2 37 VT.zs37, .cells g1 37 [.int f.name, blocksX f.blocks]]).symm) hoo (edges_2 hxo) (fun _ => List.cons_ne_nil _ _) (by rw [hxl, List.length_singleton]; omega) (eflat_1 rfl) (fun o75 e75_1 e75_2 e75_3 => ⟨o75, ⟨_, rfl, (by show some (xLeaf o75) = some (xLeaf (nrmX 2 ((b.term.to.take (j + 1)).map edgeV) o75)); rw [nrmX_eq (e75_1.trans hxs) e75_2])⟩, (by show ((Own.cells g10 48 [.int e.block, intsX e.args] :: .cells g6 44 [intsX b.params, inssX b.ins, .int b.term.kind, .int b.term.arg, .int b.term.n, intsX b.term.cases, xLeaf o] :: .cells g5 44 [intsX b.params, inssX b.ins, .int b.term.kind, .int b.term.arg, .int b.term.n, intsX b.term.cases, edgesX b.term.to] :: .buf tok 44 7 k :: .cells g3 37 [.int f.name, .sl 7 (some tok) (cpL (f.blocks.take k) rows)] :: .cells g2 37 VT.zs37 :: .cells g1 37 [.int f.name, blocksX f.blocks] :: (xOwn 48 o75 ++ (eOwn rows))) : Store) = (.cells g10 48 [.int e.block, intsX e.args] :: .cells g6 44 [intsX b.params, inssX b.ins, .int b.term.kind, .int b.term.arg, .int b.term.n, intsX b.term.cases, xLeaf o] :: .cells g5 44 [intsX b.params, inssX b.ins, .int b.term.kind, .int b.term.arg, .int b.term.n, intsX b.term.cases, edgesX b.term.to] :: .buf tok 44 7 k :: .cells g3 37 [.int f.name, .sl 7 (some tok) (cpL (f.blocks.take k) rows)] :: .cells g2 37 VT.zs37 :: .cells g1 37 [.int f.name, blocksX f.blocks] :: (xOwn 48 (nrmX 2 ((b.term.to.take (j + 1)).map edgeV) o75) ++ (eOwn rows))); rw [nrmX_eq (e75_1.trans hxs) e75_2])⟩))))))) ?_
    refine Zp (Zm _) (Zo rfl rfl ⟨(fun γ => Zf (fun _ h6 => Ze (Zn rfl (Zj VT.fa44_2 h6 ⟨rfl, rfl⟩)))), trivial⟩) ?_
    refine Zp (Zm _) (Zo rfl rfl ⟨(fun γ => Zw 12 0 rfl (fun _ h76 => Ze (Zn rfl (Zj VT.fa42_4 h76 ⟨rfl, rfl⟩)))), trivial⟩) ?_
    refine Zp Za3 (Zo2 1 rfl (fun γ => Zw 13 0 rfl (fun _ h77 => Zw 11 2 rfl (fun _ h75 => Ze (Zx2 h75 (fun e75 => Zn rfl (Zy 1 VT.ty40 h77 e75 (xLeaf_leaf _) rfl rfl ⟨default, trivial, rfl⟩))))))) ?_
    refine DrawP_nil (fun γ => Ze ?_)
    refine Zb1 (Zi ?_)
    obtain ⟨n1, n2⟩ := nrmX_ok (sz := 2) (xs := ((b.term.to.take (j + 1)).map edgeV)) (edges_2 rfl) (by rw [List.length_map, List.length_take]; simp only [maxLen]; omega) (γ 0)
    refine Zd ?_
    refine Zc (Zh2 rfl rfl (by omega) ?_)
    refine Zc (Zl rfl (Za (Zi ?_)))
    exact ⟨(j + 1, nrmX 2 ((b.term.to.take (j + 1)).map edgeV) (γ 0)), (by (try simp only []); omega), ⟨by omega, n1, n2⟩, ⟨rfl, rfl, rfl, rfl, rfl, rfl, rfl, rfl, rfl, rfl, rfl, trivial⟩, (Drops.drop (Drops.keep (Drops.keep (Drops.buf (by simp) (Drops.keep (Drops.keep (Drops.keep (Zt2 _))))))))⟩
   ·
    have hje : j = b.term.to.length := by omega
    subst hje
    rw [List.take_length] at hxo
    have hR2 := rows_snoc hR hb hxo hoo
    refine Zt (Ze1 (Ze1 (Zc1 (Zi (Zd (Zc (Zj VT.fa37_1 rfl (Zc (Zu 3 VT.ty35 rfl rfl rfl (Zc (Zv 0 VT.ty44 rfl rfl rfl ?_)))))))))))
    refine Zc (Zk3 [.tmp 81] VT.sl35 rfl rfl rfl rfl (cpV_fit b o) ?_)
    refine Zc (Zi3 2 _ VT.sl35 rfl rfl rfl hkl.symm (by rw [hkl, List.length_singleton]; omega) (fun t83 => ?_))
    refine Zc (Zj VT.fa37_1 rfl (Zc (Zy 3 VT.ty35 rfl rfl rfl rfl rfl (Za (Zb1 (Zi ?_))))))
    refine VW_drops (S' := .buf t83 44 7 (k + 1) :: .cells g3 37 [.int f.name, .sl 7 (some t83) (cpL (f.blocks.take (k + 1)) (rows ++ [o]))] :: .cells g2 37 VT.zs37 :: .cells g1 37 [.int f.name, blocksX f.blocks] :: (eOwn (rows ++ [o]))) (.drop (.drop ?_)) ?_
    · rw [← cpL_snoc o hR hb]; exact Drops.buf (by rw [List.length_append, hkl]; rfl) (.keep (.keep (.keep (.of_perm (eown_snoc rows o)))))
    refine Zd ?_
    refine Zc (Zh2 rfl rfl (by omega) ?_)
    refine Zc (Zl rfl (Za (Zi ?_)))
    exact ⟨(k + 1, t83, rows ++ [o]), (by (try simp only []); omega), ⟨by omega, hR2⟩, ⟨rfl, rfl, rfl, rfl, rfl, rfl, trivial⟩, (Drops.buf (by simp) (Drops.keep (Drops.keep (Drops.keep (Zt2 _)))))⟩
 ·
  have hke : k = f.blocks.length := by omega
  subst hke
  have hst : V.le (.sl 7 (some tok) (cpL (f.blocks.take f.blocks.length) rows)) (.sl 7 none (cpL f.blocks rows)) := by rw [List.take_length]; exact V.le.strip
  rw [List.take_length] at hR
  refine Zt (Ze1 (Ze1 (Zc1 (Zi ?_))))
  refine VW_cells 1 (ls' := [.int f.name, .sl 7 none (cpL f.blocks rows)]) rfl ⟨V.le.refl _, rfl, hst, rfl, trivial⟩ ?_
  refine Zb (Zd (Zc (Zv 1 VT.ty37 rfl rfl rfl (Zc (Zx 2 VT.ty37 rfl rfl rfl rfl rfl (Za (Zi (Zf1 ?_))))))))
  refine Zg1 rfl (.agg (i := 2) VT.ty37 rfl rfl rfl) ?_
  exact ⟨_, .drop (.drop (.drop (.drop (.refl _)))), rows, hR, rfl, rfl⟩
def URows (fs : List SFunc) (Rs : List (List (Option XRow))) : Prop := Rs.length = fs.length ∧ ∀ (k : Nat) (f : SFunc) (rows : List (Option XRow)), fs[k]? = some f → Rs[k]? = some rows → RowsOk f.blocks rows
def cuV (f : SFunc) (rows : List (Option XRow)) : V := .agg [.int f.name, .sl 7 none (cpL f.blocks rows)]
def cuL (fs : List SFunc) (Rs : List (List (Option XRow))) : List V := List.zipWith cuV fs Rs
abbrev uOwn (Rs : List (List (Option XRow))) : Store := Rs.flatMap eOwn
open Classical in
noncomputable def nrmR (bs : List SBlock) (rows : List (Option XRow)) : List (Option XRow) := if RowsOk bs rows then rows else bs.map fun b => some ⟨0, b.term.to.length, b.term.to.map edgeV, []⟩
theorem nrmR_eq {bs : List SBlock} {rows : List (Option XRow)} (h : RowsOk bs rows) : nrmR bs rows = rows := if_pos h
theorem nrmR_ok {bs : List SBlock} (hm : ∀ b ∈ bs, b.term.to.length ≤ 10000) (rows : List (Option XRow)) : RowsOk bs (nrmR bs rows) := by
  unfold nrmR
  split
  · assumption
  · refine ⟨List.length_map .., fun k b o hb ho => ?_⟩
    rw [List.getElem?_map, hb] at ho
    injection ho with ho
    subst ho
    have := hm b (List.mem_of_getElem? hb)
    refine ⟨rfl, by show (b.term.to.map edgeV).length ≤ b.term.to.length; rw [List.length_map]; exact Nat.le_refl _, by show b.term.to.length ≤ maxLen; simp only [maxLen]; omega, ?_⟩
    show ((b.term.to.map edgeV).flatMap V.leaves ++ []).length = b.term.to.length * 2
    rw [List.append_nil, flat_len (edges_2 rfl), List.length_map]
theorem urows_nil : URows [] [] := ⟨rfl, fun k f rows h => by simp at h⟩
theorem urows_snoc {fs : List SFunc} {Rs : List (List (Option XRow))} {k : Nat} {f : SFunc} {rows : List (Option XRow)} (h : URows (fs.take k) Rs) (hf : fs[k]? = some f) (hr : RowsOk f.blocks rows) : URows (fs.take (k + 1)) (Rs ++ [rows]) := by
  obtain ⟨h1, h2⟩ := h
  rw [take_snoc hf]
  refine ⟨by rw [List.length_append, List.length_append, h1]; rfl, fun j g R hg hR => ?_⟩
  by_cases hj : j < Rs.length
  · rw [List.getElem?_append_left hj] at hR
    rw [List.getElem?_append_left (by rw [← h1]; exact hj)] at hg
    exact h2 j g R hg hR
  · rw [List.getElem?_append_right (by omega)] at hR
    rw [List.getElem?_append_right (by rw [← h1]; omega), ← h1] at hg
    have hj0 : j - Rs.length = 0 := by
      have := (List.getElem?_eq_some_iff.1 hR).1
      simp at this
      omega
    rw [hj0] at hg hR
    have hg : f = g := by simpa using hg
    have hR : rows = R := by simpa using hR
    subst hg hR
    exact hr
theorem cuL_snoc {fs : List SFunc} {Rs : List (List (Option XRow))} {k : Nat} {f : SFunc} {rows : List (Option XRow)} (h : URows (fs.take k) Rs) (hf : fs[k]? = some f) : cuL (fs.take k) Rs ++ [cuV f rows] = cuL (fs.take (k + 1)) (Rs ++ [rows]) := by
  unfold cuL
  rw [take_snoc hf, List.zipWith_append h.1.symm]
  rfl
theorem cuL_len {fs : List SFunc} {Rs : List (List (Option XRow))} (h : URows fs Rs) : (cuL fs Rs).length = fs.length := by
  unfold cuL
  rw [List.length_zipWith, h.1, Nat.min_self]
theorem cuL_get {fs : List SFunc} {Rs : List (List (Option XRow))} {k : Nat} {f : SFunc} {rows : List (Option XRow)} (hf : fs[k]? = some f) (hr : Rs[k]? = some rows) : (cuL fs Rs)[k]? = some (cuV f rows) := by
  unfold cuL
  rw [List.getElem?_zipWith, hf, hr]
theorem uown_snoc (Rs : List (List (Option XRow))) (rows : List (Option XRow)) : uOwn (Rs ++ [rows]) = uOwn Rs ++ eOwn rows := by
  unfold uOwn
  rw [List.flatMap_append, List.flatMap_singleton]
set_option maxRecDepth 100000 in
set_option maxHeartbeats 16000000 in
theorem CopyUnit_c {u : SUnit} (hc : ∀ f ∈ u.fns, CpOk f) (hl : u.fns.length ≤ 256) : VCalls Try.prog 8 [unitV u] [] fun r S' => ∃ Rs, URows u.fns Rs ∧ r = .agg [.sl 2 none (cuL u.fns Rs), .int u.main] ∧ S' = uOwn Rs := by
 refine VCalls_drops ?_
 refine V_start (nt := 25) Try.func8 rfl rfl rfl ?_
 refine Zb (Zd ?_)
 refine Zc (Zc2 rfl rfl (fun g1 => ?_))
 refine Zc (Zb2 VT.zr24 _ rfl rfl (fun g2 => ?_))
 refine Za (Zi (Zb (Zd (Zc (Zj VT.fa24_1 rfl (Zc (Zu 1 VT.ty3 rfl rfl rfl ?_)))))))
 refine Zc (Zf2 [1] [.tmp 7] VT.st24 rfl rfl rfl rfl ?_)
 refine Zc (Zb2 VT.zr24 _ rfl rfl (fun g3 => ?_))
 refine Zc (Zx 0 VT.ty24 rfl rfl rfl rfl rfl (Za (Zi ?_)))
 refine VW_cells 0 (ls' := [.sl 2 (some .nil) [], .int u.main]) rfl ⟨V.le.nilTok 2, rfl, V.le.refl _, rfl, trivial⟩ ?_
 refine VW_nilBuf 37 2 ?_
 refine Zb (Zb (Zd (Zc (Zj VT.fa24_0 rfl (Zc (Zu 3 VT.ty22 rfl rfl rfl ?_))))))
 refine Zc (Zd2 (n := u.fns.length) Try.underlying22 rfl (by simp) (fun hl11 => ?_))
 refine Zc (Zl rfl (Za (Zi (Zs ?_))))
 refine Zi2 (ι := Nat × Tok × List (List (Option XRow))) (fun (k, tok, Rs) => u.fns.length - k) (fun (k, tok, Rs) => [(1, some (.ptr g1 0)), (2, some (.ptr g2 0)), (3, some (.ptr g3 0)), (10, some (funcsX u.fns)), (11, some (.int u.fns.length)), (12, some (.int k))]) (fun (k, tok, Rs) => .buf tok 37 2 k :: .cells g3 24 [.sl 2 (some tok) (cuL (u.fns.take k) Rs), .int u.main] :: .cells g2 24 VT.zs24 :: .cells g1 24 [funcsX u.fns, .int u.main] :: uOwn Rs) (fun (k, tok, Rs) => k ≤ u.fns.length ∧ URows (u.fns.take k) Rs) (0, .nil, []) ⟨Nat.zero_le _, urows_nil⟩ ⟨rfl, rfl, rfl, rfl, rfl, rfl, trivial⟩ (Zt2 _) ?_
 rintro ⟨k, tok, Rs⟩ hA
 change k ≤ u.fns.length ∧ URows (u.fns.take k) Rs at hA
 obtain ⟨hk, hR⟩ := hA
 refine Zb (Zd (Zc (Zj1 rfl rfl rfl (Za (Zi (Zb ?_))))))
 refine Zn1 rfl (fun h13 => ?_) (fun h13 => ?_)
 ·
  obtain ⟨f, hf⟩ := get_of_lt u.fns k h13
  have hcf := hc f (List.mem_of_getElem? hf)
  have hcb : ∀ b ∈ f.blocks, b.term.to.length ≤ 10000 := fun b hb => (hcf.block b hb).2.2.2.1
  have hkl : (cuL (u.fns.take k) Rs).length = k := by rw [cuL_len hR, List.length_take]; omega
  refine Zi1 (Zi (Zb (Zs (Zb (Zd ?_)))))
  refine Zc (Zz (el := funcV f) VT.sl22 rfl rfl (by omega) (get_mapS _ hf) (fun a14 => ?_))
  refine Zc (Za2 VT.ty37 rfl rfl ?_)
  refine Zc (Zb2 VT.zr37 _ rfl rfl (fun g5 => ?_))
  refine Zc (Zx 0 VT.ty37 rfl rfl rfl rfl rfl (Za (Zi ?_)))
  refine VW_drawR (G := (List (Option XRow) × Tok)) [([], [3], []), ([0], [16], []), ([], [5], []), ([2], [18], [0]), ([3, 2], [19], [0]), (dn 5, [17, 20], [1]), (dn 6, [3], []), (dn 7, [22, 21], [])] [3, 5, 7] (fourSt (.cells g5 37 [.int f.name, blocksX f.blocks] :: .buf tok 37 2 k :: .cells g3 24 [.sl 2 (some tok) (cuL (u.fns.take k) Rs), .int u.main] :: .cells g2 24 VT.zs24 :: .cells g1 24 [funcsX u.fns, .int u.main] :: (uOwn Rs)) (fun x => .cells g5 37 [.int f.name, blocksX f.blocks] :: .buf tok 37 2 k :: .cells g3 24 [.sl 2 (some tok) (cuL (u.fns.take k) Rs), .int u.main] :: .cells g2 24 VT.zs24 :: .cells g1 24 [funcsX u.fns, .int u.main] :: (uOwn Rs ++ eOwn (nrmR f.blocks x.1))) (fun x y => .cells g5 37 [.int f.name, blocksX f.blocks] :: .buf y.2 37 2 (cuL (u.fns.take k) Rs ++ [cuV f (nrmR f.blocks y.1)]).length :: .cells g3 24 [.sl 2 (some tok) (cuL (u.fns.take k) Rs), .int u.main] :: .cells g2 24 VT.zs24 :: .cells g1 24 [funcsX u.fns, .int u.main] :: (uOwn Rs ++ eOwn (nrmR f.blocks y.1))) (fun x y _ => .cells g5 37 [.int f.name, blocksX f.blocks] :: .buf y.2 37 2 (cuL (u.fns.take k) Rs ++ [cuV f (nrmR f.blocks y.1)]).length :: .cells g3 24 [.sl 2 (some y.2) (cuL (u.fns.take k) Rs ++ [cuV f (nrmR f.blocks y.1)]), .int u.main] :: .cells g2 24 VT.zs24 :: .cells g1 24 [funcsX u.fns, .int u.main] :: (uOwn Rs ++ eOwn (nrmR f.blocks y.1)))) [] [16, 17, 18, 19, 20, 21, 22] rfl VT.mix ?_
  refine Zp (Zm _) (Zm2 rfl (fun _ => (fun γ => Zf (fun _ h3 => Ze (Zn rfl (Zj VT.fa24_0 h3 ⟨rfl, rfl⟩)))))) ?_
  refine Zp (Zm _) (Zo rfl rfl ⟨(fun γ => Zw 0 0 rfl (fun _ h16 => Ze (Zn rfl (Zu 2 VT.ty22 h16 rfl rfl ⟨rfl, rfl⟩)))), (fun γ => Zw 0 0 rfl (fun _ h16 => Ze (Zn rfl (Zu 2 VT.ty22 h16 rfl rfl ⟨rfl, rfl⟩)))), trivial⟩) ?_
  refine Zp (Zm _) (Zo rfl rfl ⟨(fun γ => Zf (fun _ h5 => Ze (Zn rfl (Zv 0 VT.ty37 h5 rfl rfl ⟨rfl, rfl⟩)))), trivial⟩) ?_
  refine Zp (Zw2 (fun x => cuV f (nrmR f.blocks x.1))) (Zo2 0 rfl (fun γ => Zw 2 0 rfl (fun _ h18 => Ze (Zn rfl (V_callG [.tmp 18] [] _ rfl (Zp2 h18 Zq2) VT.en18 (.refl _) (CopyFunc_c hcf) (fun r Sa ⟨rows, hr, e1, e2⟩ => ⟨_, Drops.of_perm List.perm_append_comm, (rows, Tok.nil), ⟨_, rfl, (by rw [e1]; show some (cuV f rows) = some (cuV f (nrmR f.blocks rows)); rw [nrmR_eq hr])⟩, (by rw [e2]; show _ = (Own.cells g5 37 [.int f.name, blocksX f.blocks] :: Own.buf tok 37 2 k :: Own.cells g3 24 [.sl 2 (some tok) (cuL (u.fns.take k) Rs), .int u.main] :: Own.cells g2 24 VT.zs24 :: Own.cells g1 24 [funcsX u.fns, .int u.main] :: (uOwn Rs ++ eOwn (nrmR f.blocks (rows, Tok.nil).1)) : Store); rw [nrmR_eq hr]; rfl)⟩)))))) ?_
  refine Zp (Zw2 (fun x => .sl 2 none [cuV f (nrmR f.blocks x.1)])) (Zo rfl rfl ⟨(fun γ => Zw 3 0 rfl (fun _ h19 => Ze (Zx2 h19 (fun e19 => Zn rfl (Zk3 [.tmp 19] VT.sl22 rfl rfl rfl (Zp2 e19 Zq2) rfl ⟨⟨_, rfl, rfl⟩, rfl⟩))))), trivial⟩) ?_
  refine Zp (Zw2 (fun y => .sl 2 (some y.2) (cuL (u.fns.take k) Rs ++ [cuV f (nrmR f.blocks y.1)]))) (Zo2 1 rfl (fun γ => Zw 1 3 rfl (fun _ h17 => Zw 4 0 rfl (fun _ h20 => Ze (Zx2 h20 (fun e20 => Zn rfl (Zi3 1 _ VT.sl22 h17 e20 rfl hkl.symm (by rw [hkl, List.length_singleton]; omega) (fun t21 => ⟨((γ 0).1, t21), ⟨_, rfl, rfl⟩, rfl⟩)))))))) ?_
  refine Zp (Zm _) (Zo rfl rfl ⟨(fun γ => Zf (fun _ h3 => Ze (Zn rfl (Zj VT.fa24_0 h3 ⟨rfl, rfl⟩)))), trivial⟩) ?_
  refine Zp Za3 (Zo2 2 rfl (fun γ => Zw 6 0 rfl (fun _ h22 => Zw 5 1 rfl (fun _ h21 => Ze (Zx2 h21 (fun e21 => Zn rfl (Zy 2 VT.ty22 h22 e21 rfl rfl rfl ⟨default, trivial, rfl⟩))))))) ?_
  refine DrawP_nil (fun γ => Ze ?_)
  refine Zb1 (Zi ?_)
  have hn := nrmR_ok hcb (γ 1).1
  skip
  refine VW_drops (S' := .buf (γ 1).2 37 2 (k + 1) :: .cells g3 24 [.sl 2 (some (γ 1).2) (cuL (u.fns.take (k + 1)) (Rs ++ [(nrmR f.blocks (γ 1).1)])), .int u.main] :: .cells g2 24 VT.zs24 :: .cells g1 24 [funcsX u.fns, .int u.main] :: (uOwn (Rs ++ [(nrmR f.blocks (γ 1).1)]))) (.drop ?_) ?_
  · rw [uown_snoc, ← cuL_snoc (rows := (nrmR f.blocks (γ 1).1)) hR hf]; exact Drops.buf (by rw [List.length_append, hkl]; rfl) (.refl _)
  refine Zd ?_
  refine Zc (Zh2 rfl rfl (by omega) ?_)
  refine Zc (Zl rfl (Za (Zi ?_)))
  exact ⟨(k + 1, (γ 1).2, Rs ++ [(nrmR f.blocks (γ 1).1)]), (by (try simp only []); omega), ⟨by omega, urows_snoc hR hf hn⟩, ⟨rfl, rfl, rfl, rfl, rfl, rfl, trivial⟩, (Drops.buf (by simp) (Drops.keep (Drops.keep (Drops.keep (Zt2 _)))))⟩
 ·
  have hke : k = u.fns.length := by omega
  subst hke
  rw [List.take_length] at hR
  have hst : V.le (.sl 2 (some tok) (cuL (u.fns.take u.fns.length) Rs)) (.sl 2 none (cuL u.fns Rs)) := by rw [List.take_length]; exact V.le.strip
  refine Zt (Ze1 (Ze1 (Zc1 (Zi ?_))))
  refine VW_cells 1 (ls' := [.sl 2 none (cuL u.fns Rs), .int u.main]) rfl ⟨hst, rfl, V.le.refl _, rfl, trivial⟩ ?_
  refine Zb (Zd (Zc (Zv 1 VT.ty24 rfl rfl rfl (Zc (Zx 2 VT.ty24 rfl rfl rfl rfl rfl (Za (Zi (Zf1 ?_))))))))
  refine Zg1 rfl (.agg (i := 2) VT.ty24 rfl rfl rfl) ?_
  exact ⟨_, .drop (.drop (.drop (.drop (.refl _)))), Rs, hR, rfl, rfl⟩
end Go.Proofs.Ytmmmgamhffbkbaa.X34
