import Derived.Test.YtjekhhgjfelpgaaVT
import Derived.Test.YtjekhhgjfelpgaaS2
import Derived.Test.YtjekhhgjfelpgaaVU
import Derived.Test.YtjekhhgjfelpgaaDZ
import Derived.Test.YtjekhhgjfelpgaaX1
import Derived.Test.YtjekhhgjfelpgaaX2
import Derived.Test.YtjekhhgjfelpgaaX3
import Derived.Test.YtjekhhgjfelpgaaX4
import Derived.Test.YtjekhhgjfelpgaaX5
import Derived.Test.YtjekhhgjfelpgaaX6
import Derived.Test.YtjekhhgjfelpgaaX7
import Derived.Test.YtjekhhgjfelpgaaX8
import Derived.Test.YtjekhhgjfelpgaaX9
import Derived.Test.YtjekhhgjfelpgaaX10
import Derived.Test.YtjekhhgjfelpgaaXS
import Derived.Test.YtjekhhgjfelpgaaX12
import Derived.Test.YtjekhhgjfelpgaaX13
import Derived.Test.YtjekhhgjfelpgaaX20
import Derived.Test.YtjekhhgjfelpgaaX25
import Derived.Test.YtjekhhgjfelpgaaX26
import Derived.Test.YtjekhhgjfelpgaaX34
import Derived.Test.YtjekhhgjfelpgaaX36
set_option linter.unusedVariables false
set_option linter.unusedSimpArgs false
namespace Go.Proofs.Ytjekhhgjfelpgaa.X44
open Go.VL Go.SM Go.Proofs.Ytjekhhgjfelpgaa Go.Proofs.Ytjekhhgjfelpgaa.X1 Go.Proofs.Ytjekhhgjfelpgaa.X2 Go.Proofs.Ytjekhhgjfelpgaa.X3 Go.Proofs.Ytjekhhgjfelpgaa.X4 Go.Proofs.Ytjekhhgjfelpgaa.X5 Go.Proofs.Ytjekhhgjfelpgaa.X6 Go.Proofs.Ytjekhhgjfelpgaa.X7 Go.Proofs.Ytjekhhgjfelpgaa.X8 Go.Proofs.Ytjekhhgjfelpgaa.X9 Go.Proofs.Ytjekhhgjfelpgaa.X10 Go.Proofs.Ytjekhhgjfelpgaa.XS Go.Proofs.Ytjekhhgjfelpgaa.X12 Go.Proofs.Ytjekhhgjfelpgaa.X13 Go.Proofs.Ytjekhhgjfelpgaa.X20 Go.Proofs.Ytjekhhgjfelpgaa.X25 Go.Proofs.Ytjekhhgjfelpgaa.X26 Go.Proofs.Ytjekhhgjfelpgaa.X34 Go.Proofs.Ytjekhhgjfelpgaa.X36
theorem flat_bools (n : Nat) : (List.replicate n (V.raw (.bool false))).flatMap V.leaves = List.replicate n (V.bool false) := by
  induction n with
  | zero => rfl
  | succ n ih => rw [List.replicate_succ, List.flatMap_cons, ih]; rfl
open Go.VL renaming VOps_nil → Za, VW_seq → Zb, VW_region → Zd, Needs_nil → Ze, want_of → Zg, Then_n → Zi, V_fieldAddr → Zj, V_assign → Zk, V_move → Zl, eqRes → Zm, vopT → Zn, goodS → Zo, skip_of → Zr, VW_block → Zs, VW_exit → Zt, V_load → Zu, V_load_agg → Zv, V_store_agg → Zx, V_store → Zy, V_indexAddr → Zz, InBlock_r → Za1, InBlock_n → Zb1, InBlock_hit → Zc1, Then_r → Zd1, Then_e → Ze1, VW_ret → Zf1, VRet_one → Zg1, VRet_many → Zh1, VW_skip → Zi1, V_bin → Zj1, VW_condNe → Zm1, VW_condP → Zn1, VW_condN → Zo1, VW_condF → Zq1, VW_cond → Zr1, V_pickT → Zs1, V_pickF → Zt1, V_fieldAddr_ep → Zw1, V_callP → Zx1, V_load_ep → Zz1, V_load_ep_agg → Za2, V_alloc → Zb2, V_box → Zc2, V_lenN → Zd2, V_extract → Zg2, V_add → Zh2, VW_loopF → Zi2, VOps_split → Zj2, V_not → Zl2, goodA → Zm2, goodU1 → Zn2, evs_cons → Zp2, evs_nil → Zq2, V_indexAddr_row → Zr2, V_fieldAddr_ep_agg → Zs2, Drops.refl → Zt2, VOp_as → Zu2, vopF → Zy2, anyRes → Za3
set_option maxRecDepth 100000 in
set_option maxHeartbeats 4000000 in
theorem run_c (u : SUnit) (fuel : Int) : VPure Try.prog 5 [unitV u, .int fuel] (.tup [resultV (runF u fuel).1, .int (runF u fuel).2.1, .bool ((runF u fuel).2.2 == 0 && (runF u fuel).1.fin != 5)]) := by
 refine V_start (nt := 26) Try.func5 rfl rfl rfl ?_
 refine Zb (Zd ?_)
 refine Zc (Zc2 rfl rfl (fun g2 => ?_))
 refine Zc (Zb2 VT.zr28 _ rfl rfl (fun g4 => ?_))
 refine Zc (Zk rfl (Zc (Zk rfl (Za (Zi (Zb (Zd (Zc (Zv 1 VT.ty24 rfl rfl rfl (Zc (Zl rfl ?_)))))))))))
 refine Zc (Zx1 [.tmp 11, .tmp 12] rfl rfl VT.en11 (Run_c u fuel) ?_)
 refine Zc (Zl rfl (Zc (Zg2 rfl rfl (Zc (Zg2 rfl rfl (Zc (Zg2 rfl rfl ?_)))))))
 refine Zc (Zb2 VT.zr28 _ rfl rfl (fun g7 => ?_))
 refine Zc (Zx 0 VT.ty28 rfl rfl rfl rfl rfl (Zc (Zk rfl (Zc (Zk rfl (Za (Zi (Zb ?_))))))))
 rcases Bool.eq_false_or_eq_true ((runF u fuel).2.2 == 0) with hq21 | hq21
 ·
  refine VW_drawR (G := Unit) [([], [7], []), ([], [8], []), ([], [9], []), ([2], [19], []), ([3, 2], [20], []), ([4, 3, 2], [7, 21], []), ([5, 4, 3, 2], [22, 21], []), ([6, 5, 4, 3, 2], [23, 21], []), ([7, 6, 5, 4, 3, 2], [21, 24], []), ([4, 3, 2, 0], [4, 17], []), ([9, 4, 3, 2, 1, 0], [18], []), (dn 11, [25], [])] [9] (setSt _ 1 (fun _ => .cells g4 28 (resultV (runF u fuel).1).leaves)) [5, 6] [5, 6, 17, 18, 19, 20, 21, 22, 23, 24, 25] rfl VT.mix ?_
  refine Zp (Zm _) (Zo rfl rfl ⟨(fun γ => Zf (fun _ h7 => Ze (Zn rfl (Zv 0 VT.ty28 h7 rfl rfl ⟨rfl, rfl⟩)))), trivial⟩) ?_
  refine Zp (Zm _) (Zm2 rfl (fun _ => (fun γ => Zf (fun _ h8 => Ze (Zn rfl (Zl h8 ⟨rfl, rfl⟩)))))) ?_
  refine Zp (Zm _) (Zo rfl rfl ⟨(fun γ => Zf (fun _ h9 => Ze (Zn rfl (Zl h9 ⟨rfl, rfl⟩)))), trivial⟩) ?_
  refine Zp (Zm _) (Zo rfl rfl ⟨(fun γ => Zw 2 0 rfl (fun _ h19 => Ze (Zn rfl (Zj1 h19 rfl rfl ⟨rfl, rfl⟩)))), trivial⟩) ?_
  refine Zp (Zm _) (Zo rfl rfl ⟨(fun γ => Zw 3 0 rfl (fun _ h20 => Ze (Zn rfl (Zl h20 ⟨rfl, rfl⟩)))), trivial⟩) ?_
  refine Zp (Zm _) (Zm2 rfl (fun _ => (fun γ => Zf (fun _ h7 => Zw 4 0 rfl (fun _ h21 => Ze (Zn (Zg rfl rfl h21 hq21) (Zj VT.fa28_1 h7 ⟨rfl, rfl⟩))))))) ?_
  refine Zp (Zm _) (Zo rfl rfl ⟨(fun γ => Zw 5 0 rfl (fun _ h22 => Zw 4 1 rfl (fun _ h21 => Ze (Zn (Zg rfl rfl h21 hq21) (Zu 0 VT.ty3 h22 rfl rfl ⟨rfl, rfl⟩))))), (fun γ => Zw 5 0 rfl (fun _ h22 => Zw 4 1 rfl (fun _ h21 => Ze (Zn (Zg rfl rfl h21 hq21) (Zu 0 VT.ty3 h22 rfl rfl ⟨rfl, rfl⟩))))), trivial⟩) ?_
  refine Zp (Zm _) (Zm2 rfl (fun _ => (fun γ => Zw 6 0 rfl (fun _ h23 => Zw 4 2 rfl (fun _ h21 => Ze (Zn (Zg rfl rfl h21 hq21) (Zj1 h23 rfl rfl ⟨rfl, rfl⟩))))))) ?_
  refine Zp (Zm _) (Zm2 rfl (fun _ => (fun γ => Zw 4 3 rfl (fun _ h21 => Zw 7 0 rfl (fun _ h24 => Ze (Zn rfl (Zs1 h21 hq21 h24 ⟨rfl, rfl⟩))))))) ?_
  refine Zp Za3 (Zn2 rfl (fun γ => Zf (fun _ h4 => Zw 0 8 rfl (fun _ h17 => Ze (Zn rfl (Zx 1 VT.ty28 h4 h17 rfl rfl rfl ⟨default, trivial, rfl⟩)))))) ?_
  refine Zp (Zm _) (Zo rfl rfl ⟨(fun γ => Zw 1 8 rfl (fun _ h18 => Ze (Zn rfl (Zk h18 ⟨rfl, rfl⟩)))), trivial⟩) ?_
  refine Zp (Zm _) (Zo rfl rfl ⟨(fun γ => Zw 8 2 rfl (fun _ h25 => Ze (Zn rfl (Zk h25 ⟨rfl, rfl⟩)))), trivial⟩) ?_
  refine DrawP_nil (fun γ => Zw 10 1 rfl (fun r5 h5 => Zw 11 0 rfl (fun r6 h6 => Ze ?_)))
  have e5 : r5 = some _ := h5
  subst e5
  clear h5
  have e6 : r6 = some _ := h6
  subst e6
  clear h6
  refine Zi (Zf1 ?_)
  refine Zh1 rfl rfl (.cons (.agg (i := 1) VT.ty28 rfl rfl rfl) (.cons (.tmp rfl) (.cons (.tmp rfl) (.nil)))) ?_
  rw [hq21]
  rfl
 ·
  refine VW_drawR (G := Unit) [([], [7], []), ([], [8], []), ([], [9], []), ([2], [19], []), ([3, 2], [20], []), ([4, 3, 2], [7, 21], []), ([5, 4, 3, 2], [22, 21], []), ([6, 5, 4, 3, 2], [23, 21], []), ([7, 6, 5, 4, 3, 2], [21, 24], []), ([4, 3, 2, 0], [4, 17], []), ([9, 4, 3, 2, 1, 0], [18], []), (dn 11, [25], [])] [9] (setSt _ 1 (fun _ => .cells g4 28 (resultV (runF u fuel).1).leaves)) [5, 6] [5, 6, 17, 18, 19, 20, 21, 22, 23, 24, 25] rfl VT.mix ?_
  refine Zp (Zm _) (Zo rfl rfl ⟨(fun γ => Zf (fun _ h7 => Ze (Zn rfl (Zv 0 VT.ty28 h7 rfl rfl ⟨rfl, rfl⟩)))), trivial⟩) ?_
  refine Zp (Zm _) (Zm2 rfl (fun _ => (fun γ => Zf (fun _ h8 => Ze (Zn rfl (Zl h8 ⟨rfl, rfl⟩)))))) ?_
  refine Zp (Zm _) (Zo rfl rfl ⟨(fun γ => Zf (fun _ h9 => Ze (Zn rfl (Zl h9 ⟨rfl, rfl⟩)))), trivial⟩) ?_
  refine Zp (Zm _) (Zo rfl rfl ⟨(fun γ => Zw 2 0 rfl (fun _ h19 => Ze (Zn rfl (Zj1 h19 rfl rfl ⟨rfl, rfl⟩)))), trivial⟩) ?_
  refine Zp (Zm _) (Zo rfl rfl ⟨(fun γ => Zw 3 0 rfl (fun _ h20 => Ze (Zn rfl (Zl h20 ⟨rfl, rfl⟩)))), trivial⟩) ?_
  refine Zp (Zm _) (Zm2 rfl (fun _ => (fun γ => Zf (fun _ h7 => Zw 4 0 rfl (fun _ h21 => Ze (Zy2 (Zr rfl rfl h21 hq21) ⟨rfl, rfl⟩)))))) ?_
  refine Zp (Zm _) (Zm2 rfl (fun _ => (fun γ => Zw 5 0 rfl (fun _ h22 => Zw 4 1 rfl (fun _ h21 => Ze (Zy2 (Zr rfl rfl h21 hq21) ⟨rfl, rfl⟩)))))) ?_
  refine Zp (Zm _) (Zm2 rfl (fun _ => (fun γ => Zw 6 0 rfl (fun _ h23 => Zw 4 2 rfl (fun _ h21 => Ze (Zy2 (Zr rfl rfl h21 hq21) ⟨rfl, rfl⟩)))))) ?_
  refine Zp (Zm _) (Zm2 rfl (fun _ => (fun γ => Zw 4 3 rfl (fun _ h21 => Zw 7 0 rfl (fun _ h24 => Ze (Zn rfl (Zt1 h21 hq21 rfl ⟨rfl, rfl⟩))))))) ?_
  refine Zp Za3 (Zn2 rfl (fun γ => Zf (fun _ h4 => Zw 0 8 rfl (fun _ h17 => Ze (Zn rfl (Zx 1 VT.ty28 h4 h17 rfl rfl rfl ⟨default, trivial, rfl⟩)))))) ?_
  refine Zp (Zm _) (Zo rfl rfl ⟨(fun γ => Zw 1 8 rfl (fun _ h18 => Ze (Zn rfl (Zk h18 ⟨rfl, rfl⟩)))), trivial⟩) ?_
  refine Zp (Zm _) (Zo rfl rfl ⟨(fun γ => Zw 8 2 rfl (fun _ h25 => Ze (Zn rfl (Zk h25 ⟨rfl, rfl⟩)))), trivial⟩) ?_
  refine DrawP_nil (fun γ => Zw 10 1 rfl (fun r5 h5 => Zw 11 0 rfl (fun r6 h6 => Ze ?_)))
  have e5 : r5 = some _ := h5
  subst e5
  clear h5
  have e6 : r6 = some _ := h6
  subst e6
  clear h6
  refine Zi (Zf1 ?_)
  refine Zh1 rfl rfl (.cons (.agg (i := 1) VT.ty28 rfl rfl rfl) (.cons (.tmp rfl) (.cons (.tmp rfl) (.nil)))) ?_
  rw [hq21]
  rfl
set_option maxRecDepth 100000 in
set_option maxHeartbeats 4000000 in
theorem numeric_c (op : Int) : VPure Try.prog 16 [.int op] (.bool (numF op)) := by
 refine V_start (nt := 20) Try.func16 rfl rfl rfl ?_
 refine Zb (Zd (Zc (Zk rfl (Za (Zi (Zb (Zb (Zd (Zc (Zl rfl (Za (Zi (Zs (Zb ?_))))))))))))))
 refine VW_or (q := 4) (x := 3) [(5, 0), (6, 1), (7, 2), (8, 3), (9, 4), (10, 5), (11, 6), (12, 7), (13, 10), (14, 12), (15, 17), (16, 24), (17, 15), (18, 20), (19, 18)] rfl rfl rfl ?_
 refine Zi ?_
 refine Zr1 rfl (fun h4 => ?_) (fun h4 => ?_)
 ·
  have hn : numF op = true := h4
  refine Zb (Zd (Zc (Zk rfl (Za (Zi (Zf1 ?_))))))
  refine Za1 (Zd1 (Zg1 rfl (.tmp rfl) ?_))
  rw [hn]
 ·
  have hn : numF op = false := h4
  refine Zi1 (Zb1 (Zi (Zb (Zd (Zc (Zk rfl (Za (Zi (Zf1 ?_)))))))))
  refine Zg1 rfl (.tmp rfl) ?_
  rw [hn]
set_option maxRecDepth 100000 in
set_option maxHeartbeats 16000000 in
theorem Words_c {f : SFunc} {n : Nat} (h0 : funcF f = 0) (hn : freshF f.blocks = (n : Int)) : VCalls Try.prog 8 [funcV f] [] fun r S' => ∃ g W, W.length = n ∧ WordsOk f W ∧ r = .tup [.raw (.slice (some ⟨g, 0, none⟩) n n), .int 0] ∧ S' = [.cells g 4 (W.map V.bool)] := by
 refine VCalls_drops ?_
 have hok := func_ok h0
 have hcb := (cp_ok h0).block
 have h128 := hok.len
 have hf4 := (fresh_ok hok).2.1
 have hvk : ∀ v ∈ valuesL f.blocks, 0 ≤ v ∧ v.toNat < n := fun v hv => by have h1 := values_keys hok v hv; have h2 := (fresh_ok hok).2.2 v hv; omega
 have ho := order_ok hok.pos hok.edges
 have hrl : (reachN f).length ≤ 128 := by have h9 := congrArg List.length (reach_eq (f := f) ho); rw [List.length_map, reach_len] at h9; have := nodup_lt ho.nodup ho.lt; omega
 have hrr := range_ok hok (many := n) (by omega)
 have hsl := start_len f n
 have hrN : (reachL f).length = (reachN f).length := by rw [reach_eq ho, List.length_map]
 have hrg : ∀ (i kk : Nat), (reachN f)[i]? = some kk → ((reachL f).map V.int)[i]? = some (V.int (kk : Int)) := fun i kk h => by rw [reach_eq ho, List.getElem?_map, List.getElem?_map, h]; rfl
 refine V_start (nt := 122) Try.func8 rfl rfl rfl ?_
 refine Zb (Zd ?_)
 refine Zc (Zc2 rfl rfl (fun g1 => ?_))
 refine Zc (Zk rfl (Zc (Zk rfl (Za (Zi (Zb (Zd (Zc (Zv 0 VT.ty36 rfl rfl rfl ?_)))))))))
 refine Zc (Zx1 [.tmp 21] rfl rfl VT.en15 (Reachable_c h0) ?_)
 refine Zc (Zl rfl (Zc (Zg2 rfl rfl (Zc (Zg2 rfl rfl (Zc (Zk rfl (Zc (Zk rfl (Za (Zi (Zb (Zb (Zd (Zc (Zl rfl (Zc (Zj1 rfl rfl rfl (Za (Zi ?_))))))))))))))))))))
 refine Zm1 rfl (fun h26 => ?_) (fun h26 => ?_)
 · exact absurd rfl h26
 ·
  refine Zi1 (Zi (Zb (Zd (Zc (Zv 0 VT.ty36 rfl rfl rfl ?_)))))
  refine Zc (Zu2 (Zx1 [.tmp 28] rfl rfl VT.en9 (Fresh_c h0) ⟨rfl, rfl⟩) ((V.le.of_eq (congrArg V.int hn) : V.le _ (.int (n : Int)))) ?_)
  refine Zc (V_makeRow (.raw (.bool false)) (fun m => rfl) rfl VT.sl37 rfl rfl (by omega) (by omega) (fun g30 => ?_))
  refine Zc (Zu2 (Zk rfl ⟨rfl, rfl⟩) ((V.le.of_eq (by rw [Int.toNat_natCast]) : V.le _ (.raw (.slice (some ⟨g30, 0, none⟩) n n)))) ?_)
  refine Za (Zi ?_)
  refine VW_perm (S' := [.cells g30 4 ((setsB [] (List.replicate n false)).map V.bool), .cells g1 36 [.int f.name, blocksX f.blocks]]) (by rw [show ((setsB [] (List.replicate n false)).map V.bool : List V) = List.replicate n (V.bool false) from List.map_replicate, Int.toNat_natCast]; rw [flat_bools]; exact .refl _) ?_
  refine Zb (Zb (Zd (Zc (Zj VT.fa36_1 rfl (Zc (Zu 1 VT.ty34 rfl rfl rfl ?_))))))
  refine Zc (Zd2 (n := f.blocks.length) Try.underlying34 rfl (by simp) (fun hl33 => ?_))
  refine Zc (Zl rfl (Za (Zi (Zs ?_))))
  refine Zi2 (ι := Nat) (fun k => f.blocks.length - k) (fun k => [(1, some (.ptr g1 0)), (4, some (intsX (reachL f))), (6, some (.raw (.slice (some ⟨g30, 0, none⟩) n n))), (32, some (blocksX f.blocks)), (33, some (.int f.blocks.length)), (34, some (.int k))]) (fun k => [.cells g30 4 ((setsB (asgL 0 (f.blocks.take k)) (List.replicate n false)).map V.bool), .cells g1 36 [.int f.name, blocksX f.blocks]]) (fun k => k ≤ f.blocks.length) 0 (Nat.zero_le _) ⟨rfl, rfl, rfl, rfl, rfl, rfl, trivial⟩ (Zt2 _) ?_
  rintro k hk
  change k ≤ f.blocks.length at hk
  refine Zb (Zd (Zc (Zj1 rfl rfl rfl (Za (Zi (Zb ?_))))))
  refine Zn1 rfl (fun h35 => ?_) (fun h35 => ?_)
  ·
   obtain ⟨b, hb⟩ := get_of_lt f.blocks k h35
   have hbm := List.mem_of_getElem? hb
   obtain ⟨c1, c2, c3, c4, c5, c6⟩ := hcb b hbm
   have hpv : ∀ v ∈ b.params, 0 ≤ v ∧ v.toNat < n := fun v hv => hvk v (List.mem_flatMap.2 ⟨b, hbm, List.mem_append_left _ hv⟩)
   have hiv : ∀ i ∈ b.ins, 0 ≤ i.to ∧ i.to.toNat < n := fun i hi => hvk i.to (List.mem_flatMap.2 ⟨b, hbm, List.mem_append_right _ (List.mem_map.2 ⟨i, hi, rfl⟩)⟩)
   refine Zi1 (Zi (Zb (Zs (Zb (Zd (Zc (Zl rfl ?_)))))))
   refine Zc (Zz (el := blockV b) VT.sl34 rfl rfl (by omega) (get_mapS _ hb) (fun a37 => ?_))
   refine Zc (Za2 VT.ty48 rfl rfl ?_)
   refine Zc (Zb2 VT.zr48 _ rfl rfl (fun g8 => ?_))
   refine Zc (Zk rfl (Zc (Zx 0 VT.ty48 rfl rfl rfl rfl rfl (Za (Zi (Zb (Zb (Zd (Zc (Zj VT.fa48_0 rfl (Zc (Zu 0 VT.ty26 rfl rfl rfl ?_))))))))))))
   refine Zc (Zd2 (n := b.params.length) Try.underlying26 rfl (by simp) (fun hl41 => ?_))
   refine Zc (Zl rfl (Za (Zi (Zs ?_))))
   refine Zi2 (ι := Nat) (fun j => b.params.length - j) (fun j => [(1, some (.ptr g1 0)), (4, some (intsX (reachL f))), (6, some (.raw (.slice (some ⟨g30, 0, none⟩) n n))), (32, some (blocksX f.blocks)), (33, some (.int f.blocks.length)), (34, some (.int k)), (7, some (.int k)), (8, some (.ptr g8 0)), (40, some (intsX b.params)), (41, some (.int b.params.length)), (42, some (.int j))]) (fun j => [.cells g8 48 (blockV b).leaves, .cells g30 4 ((setsB ((asgL 0 (f.blocks.take k)) ++ asgP k (b.params.take j)) (List.replicate n false)).map V.bool), .cells g1 36 [.int f.name, blocksX f.blocks]]) (fun j => j ≤ b.params.length) 0 (Nat.zero_le _) ⟨rfl, rfl, rfl, rfl, rfl, rfl, rfl, rfl, rfl, rfl, rfl, trivial⟩ (Drops.of_perm (by rw [show ((asgL 0 (f.blocks.take k)) ++ asgP k (b.params.take 0)) = (asgL 0 (f.blocks.take k)) from List.append_nil _]; first | done | exact .refl _)) ?_
   rintro j hj
   change j ≤ b.params.length at hj
   refine Zb (Zd (Zc (Zj1 rfl rfl rfl (Za (Zi (Zb ?_))))))
   refine Zn1 rfl (fun h43 => ?_) (fun h43 => ?_)
   ·
    obtain ⟨v, hv⟩ := get_of_lt b.params j h43
    have hvv := hpv v (List.mem_of_getElem? hv)
    refine Zi1 (Zi (Zb (Zs (Zb (Zd ?_)))))
    refine Zc (Zz (el := V.int v) VT.sl26 rfl rfl (by omega) (get_int hv) (fun a44 => ?_))
    refine Zc (Zz1 VT.ty3 rfl rfl (Zc (Zk rfl (Za (Zi (Zd (Zc (Zl rfl (Zc (Zl rfl (Zc (Zl rfl (Zc (Zj1 rfl rfl rfl ?_))))))))))))))
    refine Zc (Zu2 (Zr2 VT.sl37 rfl rfl (by omega) (by omega) ⟨rfl, rfl⟩) ((V.le.of_eq (congrArg (V.ptr g30) (by omega)) : V.le _ (.ptr g30 v.toNat))) ?_)
    refine Zc (Zy 1 VT.ty4 rfl rfl rfl rfl (Nat.ble_eq_true_of_le (by rw [List.length_map, setsB_len, List.length_replicate]; omega)) ?_)
    refine Za (Zb1 (Zi (Zd ?_)))
    refine Zc (Zh2 rfl rfl (by omega) ?_)
    refine Zc (Zl rfl (Za (Zi ?_)))
    exact ⟨j + 1, (by (try simp only []); omega), (by omega), ⟨rfl, rfl, rfl, rfl, rfl, rfl, rfl, rfl, rfl, rfl, rfl, trivial⟩, (Drops.keep (Drops.keepE (by rw [rowB_set, List.append_assoc, ← asgP_snoc hv]) (Drops.keep (Zt2 _))))⟩
   ·
    have hje : j = b.params.length := by omega
    subst hje
    refine Zt (Ze1 (Ze1 (Zc1 (Zi (Zb (Zd (Zc (Zj VT.fa48_1 rfl (Zc (Zu 0 VT.ty43 rfl rfl rfl ?_))))))))))
    refine Zc (Zd2 (n := b.ins.length) Try.underlying43 rfl (by simp) (fun hl54 => ?_))
    refine Zc (Zl rfl (Za (Zi (Zs ?_))))
    refine Zi2 (ι := Nat) (fun j => b.ins.length - j) (fun j => [(1, some (.ptr g1 0)), (4, some (intsX (reachL f))), (6, some (.raw (.slice (some ⟨g30, 0, none⟩) n n))), (32, some (blocksX f.blocks)), (33, some (.int f.blocks.length)), (34, some (.int k)), (7, some (.int k)), (8, some (.ptr g8 0)), (53, some (inssX b.ins)), (54, some (.int b.ins.length)), (55, some (.int j))]) (fun j => [.cells g8 48 (blockV b).leaves, .cells g30 4 ((setsB ((asgL 0 (f.blocks.take k)) ++ asgP k b.params ++ asgI (b.ins.take j)) (List.replicate n false)).map V.bool), .cells g1 36 [.int f.name, blocksX f.blocks]]) (fun j => j ≤ b.ins.length) 0 (Nat.zero_le _) ⟨rfl, rfl, rfl, rfl, rfl, rfl, rfl, rfl, rfl, rfl, rfl, trivial⟩ (Drops.of_perm (by rw [List.take_length, show ((asgL 0 (f.blocks.take k)) ++ asgP k b.params ++ asgI (b.ins.take 0)) = (asgL 0 (f.blocks.take k)) ++ asgP k b.params from List.append_nil _]; first | done | exact .refl _)) ?_
    rintro j hj2
    change j ≤ b.ins.length at hj2
    refine Zb (Zd (Zc (Zj1 rfl rfl rfl (Za (Zi (Zb ?_))))))
    refine Zn1 rfl (fun h56 => ?_) (fun h56 => ?_)
    ·
     obtain ⟨i, hi⟩ := get_of_lt b.ins j h56
     have hii := hiv i (List.mem_of_getElem? hi)
     refine Zi1 (Zi (Zb (Zs (Zb (Zd ?_)))))
     refine Zc (Zz (el := insV i) VT.sl43 rfl rfl (by omega) (get_mapS _ hi) (fun a57 => ?_))
     refine Zc (Za2 VT.ty50 rfl rfl ?_)
     refine Zc (Zb2 VT.zr50 _ rfl rfl (fun g12 => ?_))
     refine Zc (Zx 0 VT.ty50 rfl rfl rfl rfl rfl (Za (Zi ?_)))
     refine VW_drawR (G := Unit) [([], [6], []), ([], [12], []), ([1], [60], []), ([], [12], []), ([3], [62], []), ([4, 3], [63], []), (dn 6, [59, 61], []), (dn 7, [65, 64], [])] [7] (setSt _ 2 (fun _ => .cells g30 4 (((setsB ((asgL 0 (f.blocks.take k)) ++ asgP k b.params ++ asgI (b.ins.take j)) (List.replicate n false)).map V.bool).set i.to.toNat (V.bool (numF i.op))))) [] [59, 60, 61, 62, 63, 64, 65] rfl VT.mix ?_
     refine Zp (Zm _) (Zo rfl rfl ⟨(fun γ => Zf (fun _ h6 => Ze (Zn rfl (Zl h6 ⟨rfl, rfl⟩)))), trivial⟩) ?_
     refine Zp (Zm _) (Zo rfl rfl ⟨(fun γ => Zf (fun _ h12 => Ze (Zn rfl (Zj VT.fa50_0 h12 ⟨rfl, rfl⟩)))), trivial⟩) ?_
     refine Zp (Zm _) (Zo rfl rfl ⟨(fun γ => Zw 1 0 rfl (fun _ h60 => Ze (Zn rfl (Zu 0 VT.ty3 h60 rfl rfl ⟨rfl, rfl⟩)))), trivial⟩) ?_
     refine Zp (Zm _) (Zo rfl rfl ⟨(fun γ => Zf (fun _ h12 => Ze (Zn rfl (Zj VT.fa50_1 h12 ⟨rfl, rfl⟩)))), trivial⟩) ?_
     refine Zp (Zm _) (Zo rfl rfl ⟨(fun γ => Zw 3 0 rfl (fun _ h62 => Ze (Zn rfl (Zu 0 VT.ty3 h62 rfl rfl ⟨rfl, rfl⟩)))), trivial⟩) ?_
     refine Zp (Zm _) (Zo rfl rfl ⟨(fun γ => Zw 4 0 rfl (fun _ h63 => Ze (Zn rfl (Zx1 [.tmp 63] rfl (Zp2 h63 Zq2) VT.en16 (numeric_c i.op) ⟨rfl, rfl⟩)))), trivial⟩) ?_
     refine Zp (Zm _) (Zo rfl rfl ⟨(fun γ => Zw 0 5 rfl (fun _ h59 => Zw 2 3 rfl (fun _ h61 => Ze (Zn rfl (Zu2 (Zr2 VT.sl37 h59 h61 (by omega) (by omega) ⟨rfl, rfl⟩) ((V.le.of_eq (congrArg (V.ptr g30) (by omega)) : V.le _ (.ptr g30 i.to.toNat))) ⟨rfl, rfl⟩))))), trivial⟩) ?_
     refine Zp Za3 (Zn2 rfl (fun γ => Zw 6 0 rfl (fun _ h65 => Zw 5 1 rfl (fun _ h64 => Ze (Zn rfl (Zy 2 VT.ty4 h65 h64 rfl rfl (Nat.ble_eq_true_of_le (by rw [List.length_map, setsB_len, List.length_replicate]; omega)) ⟨default, trivial, rfl⟩)))))) ?_
     refine DrawP_nil (fun γ => Ze ?_)
     refine Zb1 (Zi ?_)
     refine VW_drops (S' := [.cells g8 48 (blockV b).leaves, .cells g30 4 ((setsB ((asgL 0 (f.blocks.take k)) ++ asgP k b.params ++ asgI (b.ins.take (j + 1))) (List.replicate n false)).map V.bool), .cells g1 36 [.int f.name, blocksX f.blocks]]) ?_ ?_
     · show Drops [_, .cells g8 48 (blockV b).leaves, .cells g30 4 (((setsB ((asgL 0 (f.blocks.take k)) ++ asgP k b.params ++ asgI (b.ins.take j)) (List.replicate n false)).map V.bool).set i.to.toNat (V.bool (numF i.op))), .cells g1 36 [.int f.name, blocksX f.blocks]] _; rw [rowB_set, List.append_assoc ((asgL 0 (f.blocks.take k)) ++ asgP k b.params), ← asgI_snoc hi]; exact .drop (.refl _)
     refine Zd ?_
     refine Zc (Zh2 rfl rfl (by omega) ?_)
     refine Zc (Zl rfl (Za (Zi ?_)))
     exact ⟨j + 1, (by (try simp only []); omega), (by omega), ⟨rfl, rfl, rfl, rfl, rfl, rfl, rfl, rfl, rfl, rfl, rfl, trivial⟩, (Drops.keep (Drops.keep (Drops.keep (Zt2 _))))⟩
    ·
     have hje2 : j = b.ins.length := by omega
     subst hje2
     refine VW_drops (S' := [.cells g30 4 ((setsB (asgL 0 (f.blocks.take (k + 1))) (List.replicate n false)).map V.bool), .cells g1 36 [.int f.name, blocksX f.blocks]]) (.drop (.of_perm (by rw [asgL_take hb, List.take_length, List.append_assoc, Nat.zero_add]; first | done | exact .refl _))) ?_
     refine Zt (Ze1 (Ze1 (Zc1 (Zb1 (Zi (Zd ?_))))))
     refine Zc (Zh2 rfl rfl (by omega) ?_)
     refine Zc (Zl rfl (Za (Zi ?_)))
     exact ⟨k + 1, (by (try simp only []); omega), (by omega), ⟨rfl, rfl, rfl, rfl, rfl, rfl, trivial⟩, (Drops.keep (Drops.keep (Zt2 _)))⟩
  ·
   have hke : k = f.blocks.length := by omega
   subst hke
   refine Zt (Ze1 (Ze1 (Zc1 (Zi ?_))))
   have hr0 : setsB (asgL 0 (f.blocks.take f.blocks.length)) (List.replicate n false) = (startW f n) := by rw [List.take_length]; rfl
   refine VW_perm (S' := [.cells g30 4 ((startW f n).map V.bool), .cells g1 36 [.int f.name, blocksX f.blocks]]) (by rw [hr0]) ?_
   refine Zb (Zb (Zd (Zc (Zk rfl (Za (Zi (Zs ?_)))))))
   refine Zi2 (ι := List Bool × Bool) (fun (W, ag) => 2 * cntW W + b2n ag) (fun (W, ag) => [(1, some (.ptr g1 0)), (4, some (intsX (reachL f))), (6, some (.raw (.slice (some ⟨g30, 0, none⟩) n n))), (13, some (.bool ag))]) (fun (W, ag) => [.cells g30 4 (W.map V.bool), .cells g1 36 [.int f.name, blocksX f.blocks]]) (fun (W, ag) => LeW W (startW f n) ∧ (ag = false → ∀ x ∈ conR f.blocks (reachN f), okC W x)) ((startW f n), true) ⟨le_refl_W _, fun h => by cases h⟩ ⟨rfl, rfl, rfl, rfl, trivial⟩ (Zt2 _) ?_
   rintro ⟨W, ag⟩ hA
   change LeW W (startW f n) ∧ (ag = false → ∀ x ∈ conR f.blocks (reachN f), okC W x) at hA
   obtain ⟨hle, hcl⟩ := hA
   refine Zb (Zb (Zd (Zc (Zl rfl (Za (Zi ?_))))))
   refine Zr1 rfl (fun h68 => ?_) (fun h68 => ?_)
   ·
    refine Zi1 (Zi (Zs (Zb (Zd (Zc (Zk rfl (Za (Zi (Zb (Zd (Zc (Zl rfl ?_))))))))))))
    refine Zc (Zd2 (n := (reachL f).length) Try.underlying26 rfl (by simp) (fun hl70 => ?_))
    refine Zc (Zl rfl (Za (Zi (Zs ?_))))
    refine Zi2 (ι := Nat × List Bool × Bool) (fun (i, W2, a2) => (reachN f).length - i) (fun (i, W2, a2) => [(1, some (.ptr g1 0)), (4, some (intsX (reachL f))), (6, some (.raw (.slice (some ⟨g30, 0, none⟩) n n))), (13, some (.bool a2)), (69, some (intsX (reachL f))), (70, some (.int (reachL f).length)), (71, some (.int i))]) (fun (i, W2, a2) => [.cells g30 4 (W2.map V.bool), .cells g1 36 [.int f.name, blocksX f.blocks]]) (fun (i, W2, a2) => i ≤ (reachN f).length ∧ PassOk (startW f n) (cntW W) W2 a2 (conR f.blocks ((reachN f).take i))) (0, W, false) ⟨Nat.zero_le _, pass_nil hle⟩ ⟨rfl, rfl, rfl, rfl, rfl, rfl, rfl, trivial⟩ (Zt2 _) ?_
    rintro ⟨i, W2, a2⟩ hB
    change i ≤ (reachN f).length ∧ PassOk (startW f n) (cntW W) W2 a2 (conR f.blocks ((reachN f).take i)) at hB
    obtain ⟨hi, hP2⟩ := hB
    refine Zb (Zd (Zc (Zj1 rfl rfl rfl (Za (Zi (Zb ?_))))))
    refine Zn1 rfl (fun h72 => ?_) (fun h72 => ?_)
    ·
     obtain ⟨kk, hkk⟩ := get_of_lt (reachN f) i (by rw [← hrN]; exact h72)
     have hkr := (reachN_mem ho).1 (List.mem_of_getElem? hkk)
     obtain ⟨b, hb⟩ := get_of_lt f.blocks kk (by have := ho.lt kk hkr; omega)
     have hbm := List.mem_of_getElem? hb
     obtain ⟨c1, c2, c3, c4, c5, c6⟩ := hcb b hbm
     have hkl := (List.getElem?_eq_some_iff.1 hb).1
     refine Zi1 (Zi (Zb (Zs (Zb (Zd ?_)))))
     refine Zc (Zz (el := V.int (kk : Int)) VT.sl26 rfl rfl (by omega) (hrg i kk hkk) (fun a73 => ?_))
     refine Zc (Zz1 VT.ty3 rfl rfl (Zc (Zk rfl (Za (Zi (Zb (Zd (Zc (Zj VT.fa36_1 rfl (Zc (Zu 1 VT.ty34 rfl rfl rfl (Zc (Zl rfl ?_)))))))))))))
     refine Zc (Zz (el := blockV b) VT.sl34 rfl rfl (by omega) (get_mapS _ hb) (fun a78 => ?_))
     refine Zc (Zs2 VT.fa48_2 rfl (Zc (Zw1 VT.fa46_4 rfl rfl (Zc (Zz1 VT.ty44 rfl rfl ?_)))))
     refine Zc (Zd2 (n := b.term.to.length) Try.underlying44 rfl (by simp) (fun hl82 => ?_))
     refine Zc (Zl rfl (Za (Zi (Zs ?_))))
     refine Zi2 (ι := Nat × List Bool × Bool) (fun (j, W3, a3) => b.term.to.length - j) (fun (j, W3, a3) => [(1, some (.ptr g1 0)), (4, some (intsX (reachL f))), (6, some (.raw (.slice (some ⟨g30, 0, none⟩) n n))), (13, some (.bool a3)), (69, some (intsX (reachL f))), (70, some (.int (reachL f).length)), (71, some (.int i)), (81, some (edgesX b.term.to)), (82, some (.int b.term.to.length)), (83, some (.int j))]) (fun (j, W3, a3) => [.cells g30 4 (W3.map V.bool), .cells g1 36 [.int f.name, blocksX f.blocks]]) (fun (j, W3, a3) => j ≤ b.term.to.length ∧ PassOk (startW f n) (cntW W) W3 a3 ((conR f.blocks ((reachN f).take i)) ++ (b.term.to.take j).flatMap (conE f.blocks))) (0, W2, a2) ⟨Nat.zero_le _, pass_con hP2 (List.append_nil _).symm⟩ ⟨rfl, rfl, rfl, rfl, rfl, rfl, rfl, rfl, rfl, rfl, trivial⟩ (Zt2 _) ?_
     rintro ⟨j, W3, a3⟩ hB3
     change j ≤ b.term.to.length ∧ PassOk (startW f n) (cntW W) W3 a3 ((conR f.blocks ((reachN f).take i)) ++ (b.term.to.take j).flatMap (conE f.blocks)) at hB3
     obtain ⟨hj, hP3⟩ := hB3
     refine Zb (Zd (Zc (Zj1 rfl rfl rfl (Za (Zi (Zb ?_))))))
     refine Zn1 rfl (fun h84 => ?_) (fun h84 => ?_)
     ·
      obtain ⟨e, he⟩ := get_of_lt b.term.to j h84
      have hem := List.mem_of_getElem? he
      have hE := hok.edges b hbm e hem
      obtain ⟨c, hc⟩ := get_of_lt f.blocks e.block.toNat (by omega)
      have hcm := List.mem_of_getElem? hc
      have hcp := (hcb c hcm).1
      have hCe : conE f.blocks e = c.params.zip e.args := by unfold conE; rw [paramsOf_get hc]
      have hea : e.args.length = c.params.length := by have h9 := ((endF_ok ((func_iff.1 h0).block b hbm).2).edges e hem).2.2; rw [paramsOf_get hc] at h9; exact h9
      refine Zi1 (Zi (Zb (Zs (Zb (Zd ?_)))))
      refine Zc (Zz (el := edgeV e) VT.sl44 rfl rfl (by omega) (get_mapS _ he) (fun a85 => ?_))
      refine Zc (Za2 VT.ty61 rfl rfl ?_)
      refine Zc (Zb2 VT.zr61 _ rfl rfl (fun g17 => ?_))
      refine Zc (Zx 0 VT.ty61 rfl rfl rfl rfl rfl (Za (Zi (Zb (Zd (Zc (Zj VT.fa36_1 rfl (Zc (Zu 2 VT.ty34 rfl rfl rfl (Zc (Zj VT.fa61_0 rfl (Zc (Zu 0 VT.ty3 rfl rfl rfl ?_)))))))))))))
      refine Zc (Zz (el := blockV c) VT.sl34 rfl rfl (by omega) (get_mapS _ hc) (fun a91 => ?_))
      refine Zc (Zw1 VT.fa48_0 rfl rfl (Zc (Zz1 VT.ty26 rfl rfl ?_)))
      refine Zc (Zd2 (n := c.params.length) Try.underlying26 rfl (by simp) (fun hl94 => ?_))
      refine Zc (Zl rfl (Za (Zi (Zs ?_))))
      refine Zi2 (ι := Nat × List Bool × Bool) (fun (m, W4, a4) => c.params.length - m) (fun (m, W4, a4) => [(1, some (.ptr g1 0)), (4, some (intsX (reachL f))), (6, some (.raw (.slice (some ⟨g30, 0, none⟩) n n))), (13, some (.bool a4)), (69, some (intsX (reachL f))), (70, some (.int (reachL f).length)), (71, some (.int i)), (81, some (edgesX b.term.to)), (82, some (.int b.term.to.length)), (83, some (.int j)), (17, some (.ptr g17 0)), (93, some (intsX c.params)), (94, some (.int c.params.length)), (95, some (.int m))]) (fun (m, W4, a4) => [.cells g17 61 [.int e.block, intsX e.args], .cells g30 4 (W4.map V.bool), .cells g1 36 [.int f.name, blocksX f.blocks]]) (fun (m, W4, a4) => m ≤ c.params.length ∧ PassOk (startW f n) (cntW W) W4 a4 (((conR f.blocks ((reachN f).take i)) ++ (b.term.to.take j).flatMap (conE f.blocks)) ++ (conE f.blocks e).take m)) (0, W3, a3) ⟨Nat.zero_le _, pass_con hP3 (List.append_nil _).symm⟩ ⟨rfl, rfl, rfl, rfl, rfl, rfl, rfl, rfl, rfl, rfl, rfl, rfl, rfl, rfl, trivial⟩ (Zt2 _) ?_
      rintro ⟨m, W4, a4⟩ hB4
      change m ≤ c.params.length ∧ PassOk (startW f n) (cntW W) W4 a4 (((conR f.blocks ((reachN f).take i)) ++ (b.term.to.take j).flatMap (conE f.blocks)) ++ (conE f.blocks e).take m) at hB4
      obtain ⟨hm, hP4⟩ := hB4
      have hWl : W4.length = n := by rw [hP4.le.1, hsl]
      refine Zb (Zd (Zc (Zj1 rfl rfl rfl (Za (Zi (Zb ?_))))))
      refine Zn1 rfl (fun h96 => ?_) (fun h96 => ?_)
      ·
       obtain ⟨v, hv⟩ := get_of_lt c.params m h96
       obtain ⟨a, ha⟩ := get_of_lt e.args m (by omega)
       have hvv := hvk v (List.mem_flatMap.2 ⟨c, hcm, List.mem_append_left _ (List.mem_of_getElem? hv)⟩)
       have haa := hrr.eargs b hbm e hem a (List.mem_of_getElem? ha)
       have hz : (conE f.blocks e)[m]? = some (v, a) := by rw [hCe]; exact List.getElem?_zip_eq_some.2 ⟨hv, ha⟩
       have hC : (((conR f.blocks ((reachN f).take i)) ++ (b.term.to.take j).flatMap (conE f.blocks)) ++ (conE f.blocks e).take m) ++ [(v, a)] = (((conR f.blocks ((reachN f).take i)) ++ (b.term.to.take j).flatMap (conE f.blocks)) ++ (conE f.blocks e).take (m + 1)) := by rw [take_snoc hz, List.append_assoc]
       refine Zi1 (Zi (Zb (Zs (Zb (Zd (Zc (Zl rfl ?_)))))))
       refine Zc (Zz (el := V.int v) VT.sl26 rfl rfl (by omega) (get_int hv) (fun a98 => ?_))
       refine Zc (Zz1 VT.ty3 rfl rfl (Zc (Zk rfl (Zc (Zk rfl (Za (Zi (Zb (Zd (Zc (Zl rfl (Zc (Zl rfl ?_)))))))))))))
       refine Zc (Zu2 (Zr2 VT.sl37 rfl rfl (by omega) (by omega) ⟨rfl, rfl⟩) ((V.le.of_eq (congrArg (V.ptr g30) (by omega)) : V.le _ (.ptr g30 v.toNat))) ?_)
       refine Zc (Zu 1 VT.ty4 rfl rfl (rowB_get hvv.1 (by omega)) ?_)
       refine Zc (Zl rfl ?_)
       refine Zj2 (q := 104) rfl (fun hq104 => ?_) (fun hq104 => ?_)
       ·
        refine Zc (Zl rfl ?_) (Zy1 hq104)
        refine Zc (Zj VT.fa61_1 rfl ?_) (Zy1 hq104)
        refine Zc (Zu 0 VT.ty26 rfl rfl rfl ?_) (Zy1 hq104)
        refine Zc (Zl rfl ?_) (Zy1 hq104)
        refine Zc (Zz (el := V.int a) VT.sl26 rfl rfl (by omega) (get_int ha) (fun a109 => ?_)) (Zy1 hq104)
        refine Zc (Zz1 VT.ty3 rfl rfl ?_) (Zy1 hq104)
        refine Zc (Zu2 (Zr2 VT.sl37 rfl rfl (by omega) (by omega) ⟨rfl, rfl⟩) ((V.le.of_eq (congrArg (V.ptr g30) (by omega)) : V.le _ (.ptr g30 a.toNat))) ?_) (Zy1 hq104)
        refine Zc (Zu 1 VT.ty4 rfl rfl (rowB_get haa.1 (by omega)) ?_) (Zy1 hq104)
        refine Zc (Zl2 rfl ?_) (Zy1 hq104)
        refine Zc (Zs1 rfl hq104 rfl ?_)
        refine Za (Zi ?_)
        refine Zo1 rfl (fun h114 => ?_) (fun h114 => ?_)
        ·
         have hN : m + 1 ≤ c.params.length ∧ PassOk (startW f n) (cntW W) (W4.set v.toNat false) true (((conR f.blocks ((reachN f).take i)) ++ (b.term.to.take j).flatMap (conE f.blocks)) ++ (conE f.blocks e).take (m + 1)) := ⟨by omega, pass_set hP4 hq104 _⟩
         refine Zd (Zc (Zl rfl (Zc (Zl rfl ?_))))
         refine Zc (Zu2 (Zr2 VT.sl37 rfl rfl (by omega) (by omega) ⟨rfl, rfl⟩) ((V.le.of_eq (congrArg (V.ptr g30) (by omega)) : V.le _ (.ptr g30 v.toNat))) ?_)
         refine Zc (Zy 1 VT.ty4 rfl rfl rfl rfl (Nat.ble_eq_true_of_le (by rw [List.length_map]; omega)) ?_)
         refine Zc (Zk rfl (Za (Zb1 (Zi ?_))))
         refine VW_perm (S' := [.cells g17 61 [.int e.block, intsX e.args], .cells g30 4 ((W4.set v.toNat false).map V.bool), .cells g1 36 [.int f.name, blocksX f.blocks]]) (by rw [List.map_set]; exact .refl _) ?_
         refine Zd ?_
         refine Zc (Zh2 rfl rfl (by omega) ?_)
         refine Zc (Zl rfl (Za (Zi ?_)))
         exact ⟨(m + 1, W4.set v.toNat false, true), (by (try simp only []); omega), hN, ⟨rfl, rfl, rfl, rfl, rfl, rfl, rfl, rfl, rfl, rfl, rfl, rfl, rfl, rfl, trivial⟩, (Drops.keep (Drops.keep (Drops.keep (Zt2 _))))⟩
        ·
         have hN : m + 1 ≤ c.params.length ∧ PassOk (startW f n) (cntW W) W4 a4 (((conR f.blocks ((reachN f).take i)) ++ (b.term.to.take j).flatMap (conE f.blocks)) ++ (conE f.blocks e).take (m + 1)) := ⟨by omega, pass_con (pass_keep hP4 (fun _ => by simpa using h114)) hC⟩
         refine Zi1 (Zb1 (Zi (Zd ?_)))
         refine Zc (Zh2 rfl rfl (by omega) ?_)
         refine Zc (Zl rfl (Za (Zi ?_)))
         exact ⟨(m + 1, W4, a4), (by (try simp only []); omega), hN, ⟨rfl, rfl, rfl, rfl, rfl, rfl, rfl, rfl, rfl, rfl, rfl, rfl, rfl, rfl, trivial⟩, (Drops.keep (Drops.keep (Drops.keep (Zt2 _))))⟩
       ·
        refine Zk1 hq104 ?_
        refine Zk1 hq104 ?_
        refine Zk1 hq104 ?_
        refine Zk1 hq104 ?_
        refine Zk1 hq104 ?_
        refine Zk1 hq104 ?_
        refine Zk1 hq104 ?_
        refine Zk1 hq104 ?_
        refine Zk1 hq104 ?_
        refine Zc (Zt1 rfl hq104 rfl ?_)
        refine Za (Zi ?_)
        refine Zq1 rfl rfl ?_
        have hN : m + 1 ≤ c.params.length ∧ PassOk (startW f n) (cntW W) W4 a4 (((conR f.blocks ((reachN f).take i)) ++ (b.term.to.take j).flatMap (conE f.blocks)) ++ (conE f.blocks e).take (m + 1)) := ⟨by omega, pass_con (pass_keep hP4 (fun h => absurd h (by show ¬ wAt W4 v = true; rw [hq104]; decide))) hC⟩
        refine Zi1 (Zb1 (Zi (Zd ?_)))
        refine Zc (Zh2 rfl rfl (by omega) ?_)
        refine Zc (Zl rfl (Za (Zi ?_)))
        exact ⟨(m + 1, W4, a4), (by (try simp only []); omega), hN, ⟨rfl, rfl, rfl, rfl, rfl, rfl, rfl, rfl, rfl, rfl, rfl, rfl, rfl, rfl, trivial⟩, (Drops.keep (Drops.keep (Drops.keep (Zt2 _))))⟩
      ·
       have hme : m = c.params.length := by omega
       subst hme
       have htk : (conE f.blocks e).take c.params.length = conE f.blocks e := List.take_of_length_le (by rw [hCe, List.length_zip]; omega)
       have hC4 : (((conR f.blocks ((reachN f).take i)) ++ (b.term.to.take j).flatMap (conE f.blocks)) ++ (conE f.blocks e).take c.params.length) = ((conR f.blocks ((reachN f).take i)) ++ (b.term.to.take (j + 1)).flatMap (conE f.blocks)) := by rw [htk, take_snoc he, List.flatMap_append, List.flatMap_singleton, List.append_assoc]
       refine VW_drops (S' := [.cells g30 4 (W4.map V.bool), .cells g1 36 [.int f.name, blocksX f.blocks]]) (.drop (.refl _)) ?_
       refine Zt (Ze1 (Ze1 (Zc1 (Zb1 (Zi (Zd ?_))))))
       refine Zc (Zh2 rfl rfl (by omega) ?_)
       refine Zc (Zl rfl (Za (Zi ?_)))
       exact ⟨(j + 1, W4, a4), (by (try simp only []); omega), ⟨by omega, pass_con hP4 hC4⟩, ⟨rfl, rfl, rfl, rfl, rfl, rfl, rfl, rfl, rfl, rfl, trivial⟩, (Drops.keep (Drops.keep (Zt2 _)))⟩
     ·
      have hje : j = b.term.to.length := by omega
      subst hje
      have hC3 : ((conR f.blocks ((reachN f).take i)) ++ (b.term.to.take b.term.to.length).flatMap (conE f.blocks)) = (conR f.blocks ((reachN f).take (i + 1))) := by rw [List.take_length, take_snoc hkk]; unfold conR; rw [List.flatMap_append, List.flatMap_singleton]; unfold conK; rw [toAt_get hb]
      refine Zt (Ze1 (Ze1 (Zc1 (Zb1 (Zi (Zd ?_))))))
      refine Zc (Zh2 rfl rfl (by omega) ?_)
      refine Zc (Zl rfl (Za (Zi ?_)))
      exact ⟨(i + 1, W3, a3), (by (try simp only []); omega), ⟨by omega, pass_con hP3 hC3⟩, ⟨rfl, rfl, rfl, rfl, rfl, rfl, rfl, trivial⟩, (Drops.keep (Drops.keep (Zt2 _)))⟩
    ·
     have hie : i = (reachN f).length := by omega
     subst hie
     rw [List.take_length] at hP2
     refine Zt (Ze1 (Ze1 (Zc1 (Zb1 (Zi ?_)))))
     exact ⟨(W2, a2), (by have h9 := hP2.cnt; show 2 * cntW W2 + b2n a2 < 2 * cntW W + b2n ag; rw [h68]; cases a2 <;> simp [b2n] at h9 ⊢ <;> omega), ⟨hP2.le, fun h => hP2.con h⟩, ⟨rfl, rfl, rfl, rfl, trivial⟩, (Drops.keep (Drops.keep (Zt2 _)))⟩
   ·
    have hcl := hcl h68
    refine Zt (Ze1 (Ze1 (Zc1 (Zi (Zb (Zd (Zc (Zl rfl (Zc (Zk rfl (Zc (Zk rfl (Za (Zi (Zf1 ?_)))))))))))))))
    refine Zh1 rfl rfl (.cons (.tmp rfl) (.cons (.tmp rfl) (.nil))) ?_
    exact ⟨_, .keep (.drop (.refl _)), g30, W, by rw [hle.1, hsl], words_ok h0 hn hle hcl, rfl, rfl⟩
end Go.Proofs.Ytjekhhgjfelpgaa.X44
