/- Walks, printed by walk.py. -/
import Derived.Test.YtaklonfdckgdbaaVT
import Derived.Test.YtaklonfdckgdbaaS2
import Derived.Test.YtaklonfdckgdbaaXS
import Derived.Test.YtaklonfdckgdbaaD4
import Derived.Test.YtaklonfdckgdbaaX1
import Derived.Test.YtaklonfdckgdbaaX2
import Derived.Test.YtaklonfdckgdbaaX3
import Derived.Test.YtaklonfdckgdbaaX4
import Derived.Test.YtaklonfdckgdbaaX5
import Derived.Test.YtaklonfdckgdbaaX6
import Derived.Test.YtaklonfdckgdbaaX7
import Derived.Test.YtaklonfdckgdbaaX8
import Derived.Test.YtaklonfdckgdbaaX9
import Derived.Test.YtaklonfdckgdbaaX10
import Derived.Test.YtaklonfdckgdbaaXW
import Derived.Test.YtaklonfdckgdbaaX12
import Derived.Test.YtaklonfdckgdbaaX13
import Derived.Test.YtaklonfdckgdbaaX14
set_option linter.unusedVariables false
set_option linter.unusedSimpArgs false
namespace Go.Proofs.Ytaklonfdckgdbaa.X20
open Go.VL Go.SM Go.Proofs.Ytaklonfdckgdbaa Go.Proofs.Ytaklonfdckgdbaa.XS Go.Proofs.Ytaklonfdckgdbaa.X1 Go.Proofs.Ytaklonfdckgdbaa.X2 Go.Proofs.Ytaklonfdckgdbaa.X3 Go.Proofs.Ytaklonfdckgdbaa.X4 Go.Proofs.Ytaklonfdckgdbaa.X5 Go.Proofs.Ytaklonfdckgdbaa.X6 Go.Proofs.Ytaklonfdckgdbaa.X7 Go.Proofs.Ytaklonfdckgdbaa.X8 Go.Proofs.Ytaklonfdckgdbaa.X9 Go.Proofs.Ytaklonfdckgdbaa.X10 Go.Proofs.Ytaklonfdckgdbaa.XW Go.Proofs.Ytaklonfdckgdbaa.X12 Go.Proofs.Ytaklonfdckgdbaa.X13 Go.Proofs.Ytaklonfdckgdbaa.X14


theorem climb_next {bs : List SBlock} (ho : OrderOk bs (orderF bs)) {ov : List Int} (h : Tree bs ov) {v m : Nat} {y : Int} (hv : InT bs ov v) (hy : ov[v]? = some y) (hp : pos bs v < m + 1) : y = -1 ∨ ∃ w : Nat, y = w ∧ InT bs ov w ∧ pos bs w < m := by
  by_cases h0 : v = 0
  · subst h0
    rw [h.root] at hy
    injection hy with hy
    exact .inl hy.symm
  · obtain ⟨q, hq, hi, hp2⟩ := h.parent ho hv h0
    rw [hq] at hy
    injection hy with hy
    exact .inr ⟨q, hy.symm, hi, by omega⟩

theorem has_reach {f : SFunc} {v : Nat} (h : ((reachL f).any fun x => decide (x = (v : Int))) = true) : v ∈ orderF f.blocks := by
  obtain ⟨x, hx, e⟩ := List.any_eq_true.1 h
  rw [of_decide_eq_true e] at hx
  exact reach_mem.1 hx

theorem rel_last {f : SFunc} {a b : Nat} (l4 : domsF f a b = true → domsF f b a = true → a = b) (h1 : ((a : Int) == (b : Int)) = false) (h2 : domsF f a b = true) : V.bool (!domsF f b a) = V.bool true := by
  refine congrArg V.bool ?_
  cases h8 : domsF f b a with
  | false => rfl
  | true =>
    rw [l4 h2 h8] at h1
    simp at h1

open Go.VL renaming VOps_nil → Za, VW_seq → Zb, VW_region → Zd, Then_n → Zi, V_fieldAddr → Zj, V_assign → Zk, V_move → Zl, VW_block → Zs, VW_exit → Zt, V_load → Zu, V_load_agg → Zv, V_store_agg → Zx, V_indexAddr → Zz, InBlock_n → Zb1, InBlock_hit → Zc1, Then_r → Zd1, Then_e → Ze1, VW_ret → Zf1, VRet_one → Zg1, VRet_many → Zh1, VW_skip → Zi1, V_bin → Zj1, VW_condNe → Zm1, VW_condP → Zn1, VW_condN → Zo1, VW_condT → Zp1, VW_condF → Zq1, V_pickT → Zs1, V_pickF → Zt1, V_callP → Zx1, V_load_ep → Zz1, V_alloc → Zb2, V_box → Zc2, V_lenN → Zd2, V_extract → Zg2, VW_loopF → Zi2, VOps_split → Zj2, V_not → Zl2, Drops.refl → Zt2, VOp_as → Zu2, perm_erase → Zv2, V_lit → Zk3, V_call → Zm3
set_option maxRecDepth 100000 in
set_option maxHeartbeats 4000000 in
theorem OrderRow_c {f : SFunc} (h0 : funcF f = 0) : VCalls Try.prog 21 [funcV f] [] fun r S' => ∃ g cap rest, (ordZ f.blocks).length ≤ cap ∧ cap ≤ maxLen ∧ r = .tup [.raw (.slice (some ⟨g, 0, none⟩) (ordZ f.blocks).length cap), .int 0] ∧ S' = [.cells g 3 ((ordZ f.blocks).map V.int ++ rest)] := by
 refine VCalls_drops ?_
 refine V_start (nt := 17) Try.func21 rfl rfl rfl ?_
 refine Zb (Zd ?_)
 refine Zc (Zc2 rfl rfl (fun g1 => ?_))
 refine Zc (Zk rfl (Zc (Zk rfl (Za (Zi (Zb (Zb (Zd (Zc (Zv 0 VT.ty24 rfl rfl rfl ?_))))))))))
 refine Zc (Zx1 [.tmp 6] rfl rfl VT.en6 (CheckFunc_c f) ?_)
 refine Zc (Zk rfl (Za (Zi (Zb (Zd (Zc (Zl rfl (Zc (Zj1 rfl rfl rfl (Za (Zi ?_)))))))))))
 refine Zm1 rfl (fun h9 => ?_) (fun h9 => ?_)
 · exact absurd h0 h9
 ·
  have hok := func_ok h9
  have hne : postF f.blocks ≠ [] := fun e => by have := (order_ok hok.pos hok.edges).zero; rw [orderF, e] at this; cases this
  have hpl := post_len hok.pos hok.edges
  have h128 := hok.len
  have hoz : ordZ f.blocks = ((postF f.blocks).map fun k : Nat => (k : Int)).reverse := by rw [ordZ, orderF, List.map_reverse]
  refine Zi1 (Zi (Zb (Zd ?_)))
  refine Zc (Zb2 VT.zr29 _ rfl rfl (fun g5 => ?_))
  refine Za (Zi ?_)
  refine VW_perm (S' := .cells g1 24 [.int f.name, blocksX f.blocks] :: ordS g5 none []) (List.Perm.swap _ _ _) ?_
  refine Zb (Zd (Zc (Zv 0 VT.ty24 rfl rfl rfl ?_)))
  refine Zc (V_makeFunc [.tmp 5] rfl rfl ?_)
  refine Zc (V_callG [.tmp 11, .tmp 12] (ordS g5 none []) [_] rfl rfl VT.en39 (List.perm_append_comm (l₁ := [_])) (search_c f.name f.blocks hok.pos hok.len hok.edges VT.en40 (fun x l => ordS g5 x l) ordOk none rfl (fun x l k h hl => leave_c g5 x l k h hl)) ?_)
  rintro r Sa ⟨x, rfl, hx⟩
  obtain ⟨⟨gs, cap, rest⟩, rfl⟩ := ordOk_some hx hne
  obtain ⟨hll, hlc, hcm⟩ := hx
  refine ⟨_, Zt2 _, ?_⟩
  refine Za (Zi (Zb (Zd ?_)))
  refine Zc (Zu2 (Zu 0 VT.ty29 rfl rfl rfl ⟨rfl, rfl⟩) ((V.le.of_eq (by rw [List.length_map]) : V.le _ (.raw (.slice (some ⟨gs, 0, none⟩) ((postF f.blocks).map fun k : Nat => (k : Int)).length cap)))) ?_)
  refine Zc (Zm3 [.tmp 14] [_] _ rfl rfl VT.en41 (Zv2 (i := 1) rfl) (Reverse_c gs cap ((postF f.blocks).map fun k : Nat => (k : Int)) rest (by rw [List.length_map]; omega)) ?_)
  rintro r Sa rfl
  refine Za (Zi (Zb (Zd (Zc (Zu 1 VT.ty29 rfl rfl rfl (Zc (Zk rfl (Zc (Zk rfl (Za (Zi (Zf1 ?_))))))))))))
  refine Zh1 rfl rfl (.cons (.tmp rfl) (.cons (.tmp rfl) (.nil))) ?_
  refine ⟨_, (Drops.keep (Drops.drop (Drops.drop (Zt2 _)))), gs, cap, rest, by rw [hoz, List.length_reverse, List.length_map]; exact hlc, hcm, ?_, ?_⟩
  · rw [hoz, List.length_reverse, List.length_map]
  · rw [hoz]


set_option maxRecDepth 100000 in
set_option maxHeartbeats 2000000 in
theorem Reachable_c {f : SFunc} (h0 : funcF f = 0) : VPure Try.prog 8 [funcV f] (.tup [intsX (reachL f), .int 0]) := by
 have hok := func_ok h0
 have ho := order_ok hok.pos hok.edges
 have h128 := hok.len
 have hzl : (ordZ f.blocks).length ≤ 128 := by rw [ordZ, List.length_map]; exact Nat.le_trans (nodup_lt ho.nodup ho.lt) h128
 refine V_start (nt := 15) Try.func8 rfl rfl rfl ?_
 refine Zb (Zd ?_)
 refine Zc (Zc2 rfl rfl (fun g1 => ?_))
 refine Zc (Zk rfl (Zc (Zk rfl (Za (Zi (Zb (Zd (Zc (Zv 0 VT.ty24 rfl rfl rfl ?_)))))))))
 refine Zc (Zm3 [.tmp 7] [] _ rfl rfl VT.en21 (.refl _) (OrderRow_c h0) ?_)
 rintro r Sa ⟨g, cap, rest, hlc, hcm, rfl, rfl⟩
 refine Zc (Zl rfl (Zc (Zg2 rfl rfl (Zc (Zg2 rfl rfl (Zc (Zk rfl (Zc (Zk rfl (Za (Zi (Zb (Zd (Zc (Zl rfl ?_)))))))))))))))
 refine Zc (Zm3 [.tmp 11] [_] _ rfl rfl VT.en22 (Zv2 (i := 0) rfl) (Sort_c g cap 3 (ordZ f.blocks) rest (by omega)) ?_)
 rintro r Sa rfl
 refine Za (Zi ?_)
 refine VW_freeze 0 (q := 4) (rest := rest) ((reachL f).map V.int) rfl rfl (by rw [flat_ints]; rfl) (by rw [List.length_map, reachL, List.length_mergeSort]) hlc hcm (flat_fits _) ?_
 refine Zb (Zd (Zc (Zl rfl (Zc (Zl rfl (Zc (Zk rfl (Zc (Zk rfl (Za (Zi (Zf1 ?_))))))))))))
 refine Zh1 rfl rfl (.cons (.tmp rfl) (.cons (.tmp rfl) (.nil))) ?_
 rfl


set_option maxRecDepth 100000 in
theorem dominates_c {f : SFunc} (h : funcF f = 0) {a b : Nat} (ha : a < f.blocks.length) (hb : b < f.blocks.length) : VPure Try.prog 25 [graphV f, .int a, .int b] (.bool (domsF f a b)) := by
 have hok := func_ok h
 have ho := order_ok hok.pos hok.edges
 have ht := tree_ok ho hok.edges
 have hgv : graphV f = .agg [intsX (treeF f.blocks), intsX (placeZ f.blocks)] := by rw [graphV, if_pos h, if_pos h]
 rw [hgv]
 have hpl := place_len f.blocks
 have htl := ht.inv.tree.len
 obtain ⟨pb, hpb⟩ := get_of_lt (placeZ f.blocks) b (by omega)
 have hgp : gI (placeZ f.blocks) b = pb := gI_get ho hpb
 have hr := domsF.eq_def f a b
 rw [hgp] at hr
 refine V_start (nt := 28) Try.func25 rfl rfl rfl ?_
 refine Zb (Zd ?_)
 refine Zc (Zc2 rfl rfl (fun g3 => ?_))
 refine Zc (Zk rfl (Za (Zi (Zb (Zb (Zd (Zc (Zj VT.fa66_1 rfl (Zc (Zu 0 VT.ty29 rfl rfl rfl (Zc (Zl rfl ?_))))))))))))
 refine Zc (Zz (el := V.int pb) VT.sl29 rfl rfl (by omega) (get_int hpb) (fun a10 => ?_))
 refine Zc (Zz1 VT.ty3 rfl rfl (Zc (Zj1 rfl rfl rfl (Za (Zi ?_)))))
 refine Zn1 rfl (fun h12 => ?_) (fun h12 => ?_)
 ·
  rw [if_pos h12] at hr
  refine Zb (Zd (Zc (Zk rfl (Za (Zi (Zf1 ?_))))))
  refine Zd1 (Zg1 rfl (.tmp rfl) ?_)
  rw [hr]
 ·
  rw [if_neg h12] at hr
  have hin : InT f.blocks (treeF f.blocks) b := place_inT ho ht hb (by rw [hgp]; exact h12)
  refine Zi1 (Zi (Zb (Zs ?_)))
  refine Zi2 (ι := Nat × Int) (fun (n, x) => n) (fun (n, x) => [(1, some (.int a)), (2, some (.int x)), (3, some (.ptr g3 0))]) (fun (n, x) => [.cells g3 66 [intsX (treeF f.blocks), intsX (placeZ f.blocks)]]) (fun (n, x) => climbB (treeF f.blocks) n a x = domsF f a b ∧ (x = -1 ∨ ∃ v : Nat, x = v ∧ InT f.blocks (treeF f.blocks) v ∧ pos f.blocks v < n)) (f.blocks.length + 1, (b : Int)) ⟨hr.symm, .inr ⟨b, rfl, hin, by have := pos_lt ho hin.1; omega⟩⟩ ⟨rfl, rfl, rfl, trivial⟩ (Drops.keep (Zt2 _)) ?_
  rintro ⟨n, x⟩ hA
  change climbB (treeF f.blocks) n a x = domsF f a b ∧ (x = -1 ∨ ∃ v : Nat, x = v ∧ InT f.blocks (treeF f.blocks) v ∧ pos f.blocks v < n) at hA
  obtain ⟨hq, hx⟩ := hA
  refine Zb (Zb (Zd (Zc (Zl rfl (Zc (Zj1 rfl rfl rfl (Zc (Zl rfl ?_))))))))
  refine Zj2 (q := 15) rfl (fun hq15 => ?_) (fun hq15 => ?_)
  ·
   have h15 : x ≥ 0 := of_decide_eq_true hq15
   refine Zc (Zl rfl ?_) (Zy1 hq15)
   refine Zc (Zl rfl ?_) (Zy1 hq15)
   refine Zc (Zj1 rfl rfl rfl ?_) (Zy1 hq15)
   refine Zc (Zs1 rfl hq15 rfl ?_)
   refine Za (Zi ?_)
   refine Zm1 rfl (fun h19 => ?_) (fun h19 => ?_)
   ·
    obtain ⟨v, rfl, hin2, hpv⟩ := hx.resolve_left (by omega)
    obtain ⟨m, rfl⟩ : ∃ m, n = m + 1 := ⟨n - 1, by omega⟩
    rw [climbB, if_pos ⟨h15, h19⟩] at hq
    obtain ⟨y, hy⟩ := get_of_lt (treeF f.blocks) v (by have := ho.lt v hin2.1; omega)
    have hgy := gI_get ho hy
    rw [hgy] at hq
    have hq2 := hq
    have hy2 : y = -1 ∨ ∃ w : Nat, y = w ∧ InT f.blocks (treeF f.blocks) w ∧ pos f.blocks w < m := climb_next ho ht.inv.tree hin2 hy hpv
    refine Zi1 (Zi (Zs (Zd (Zc (Zj VT.fa66_0 rfl (Zc (Zu 0 VT.ty29 rfl rfl rfl (Zc (Zl rfl ?_)))))))))
    refine Zc (Zz (el := V.int y) VT.sl29 rfl rfl (by omega) (get_int hy) (fun a23 => ?_))
    refine Zc (Zz1 VT.ty3 rfl rfl (Zc (Zk rfl (Za (Zb1 (Zi ?_))))))
    exact ⟨(m, y), (by (try simp only []); omega), ⟨hq2, hy2⟩, ⟨rfl, rfl, rfl, trivial⟩, (Drops.keep (Zt2 _))⟩
   ·
    have hfin : domsF f a b = decide (x = (a : Int)) := by rw [← hq]; cases n with
        | zero => rfl
        | succ n => rw [climbB, if_neg (fun h => h.2 h19)]
    refine Zt (Ze1 (Ze1 (Zc1 (Zi (Zb (Zd (Zc (Zl rfl (Zc (Zl rfl (Zc (Zj1 rfl rfl rfl (Zc (Zk rfl (Za (Zi (Zf1 ?_)))))))))))))))))
    refine Zg1 rfl (.tmp rfl) ?_
    rw [hfin]; exact congrArg V.bool (by rw [Bool.eq_iff_iff]; simp)
  ·
   have h15 : ¬ x ≥ 0 := of_decide_eq_false hq15
   refine Zk1 hq15 ?_
   refine Zk1 hq15 ?_
   refine Zk1 hq15 ?_
   refine Zc (Zt1 rfl hq15 rfl ?_)
   refine Za (Zi ?_)
   refine Zq1 rfl rfl ?_
   have hfin : domsF f a b = decide (x = (a : Int)) := by rw [← hq]; cases n with
        | zero => rfl
        | succ n => rw [climbB, if_neg (fun h => h15 h.1)]
   refine Zt (Ze1 (Ze1 (Zc1 (Zi (Zb (Zd (Zc (Zl rfl (Zc (Zl rfl (Zc (Zj1 rfl rfl rfl (Zc (Zk rfl (Za (Zi (Zf1 ?_)))))))))))))))))
   refine Zg1 rfl (.tmp rfl) ?_
   rw [hfin]; exact congrArg V.bool (by rw [Bool.eq_iff_iff]; simp)


set_option maxRecDepth 100000 in
set_option maxHeartbeats 2000000 in
theorem Dominates_c {f : SFunc} (h : funcF f = 0) {a b : Nat} (ha : a < f.blocks.length) (hb : b < f.blocks.length) : VPure Try.prog 11 [funcV f, .int a, .int b] (.tup [.bool (domsF f a b), .int 0]) := by
 refine V_start (nt := 30) Try.func11 rfl rfl rfl ?_
 refine Zb (Zd ?_)
 refine Zc (Zc2 rfl rfl (fun g3 => ?_))
 refine Zc (Zk rfl (Zc (Zk rfl (Za (Zi (Zb (Zd (Zc (Zv 0 VT.ty24 rfl rfl rfl ?_)))))))))
 refine Zc (Zx1 [.tmp 11] rfl rfl VT.en23 (Build_c f) ?_)
 refine Zc (Zl rfl (Zc (Zg2 rfl rfl (Zc (Zg2 rfl rfl ?_)))))
 refine Zc (Zb2 VT.zr66 _ rfl rfl (fun g8 => ?_))
 refine Zc (Zx 0 VT.ty66 rfl rfl rfl rfl rfl (Zc (Zk rfl (Za (Zi (Zb (Zs (Zb (Zd (Zc (Zl rfl (Zc (Zj1 rfl rfl rfl (Zc (Zk rfl (Za (Zi ?_)))))))))))))))))
 refine Zm1 rfl (fun h15 => ?_) (fun h15 => ?_)
 · exact absurd h h15
 ·
  refine Zb (Zd (Zc (Zv 1 VT.ty24 rfl rfl rfl (Zc (Zl rfl (Zc (Zl rfl ?_)))))))
  refine Zc (Zk3 [.tmp 21, .tmp 22] VT.sl29 rfl rfl rfl rfl rfl ?_)
  refine Zc (Zx1 [.tmp 20, .tmp 23] rfl rfl VT.en24 (isBlock_c f [(a : Int), (b : Int)]) ?_)
  refine Zc (Zl2 rfl (Zc (Zk rfl (Za (Zi ?_)))))
  refine Zo1 rfl (fun h19 => ?_) (fun h19 => ?_)
  · rw [isB_pair.2 ⟨⟨by omega, by omega⟩, by omega, by omega⟩] at h19; cases h19
  ·
   refine Zi1 (Zb1 (Zi (Zb (Zd (Zc (Zv 0 VT.ty66 rfl rfl rfl (Zc (Zl rfl (Zc (Zl rfl ?_))))))))))
   refine Zc (Zx1 [.tmp 26, .tmp 27, .tmp 28] rfl rfl VT.en25 (dominates_c h ha hb) ?_)
   refine Zc (Zk rfl (Zc (Zk rfl (Za (Zi (Zf1 ?_))))))
   refine Zh1 rfl rfl (.cons (.tmp rfl) (.cons (.tmp rfl) (.nil))) ?_
   rfl


set_option maxRecDepth 100000 in
theorem rel1_c {f : SFunc} (h : funcF f = 0) {a b : Nat} (ha : a < f.blocks.length) (hb : b < f.blocks.length) (g : Nat) : VKeep Try.prog 10 [.int a, .int b, .ptr g 0] [.cells g 24 [.int f.name, blocksX f.blocks]] (.bool (domsF f a b)) := by
 refine VKeep.drops ?_
 refine V_start (nt := 20) Try.func10 rfl rfl rfl ?_
 refine Zb (Zd (Zc (Zk rfl (Za (Zi (Zb (Zd (Zc (Zv 0 VT.ty24 rfl rfl rfl (Zc (Zl rfl (Zc (Zl rfl ?_)))))))))))))
 refine Zc (Zx1 [.tmp 9, .tmp 10, .tmp 11] rfl rfl VT.en11 (Dominates_c h ha hb) ?_)
 refine Zc (Zl rfl (Zc (Zg2 rfl rfl (Zc (Zg2 rfl rfl (Zc (Zk rfl (Zc (Zk rfl (Za (Zi (Zb (Zd (Zc (Zl rfl (Zc (Zj1 rfl rfl rfl (Zc (Zl rfl ?_)))))))))))))))))))
 refine Zj2 (q := 17) rfl (fun hq17 => ?_) (fun hq17 => ?_)
 ·
  refine Zc (Zl rfl ?_) (Zy1 hq17)
  refine Zc (Zs1 rfl hq17 rfl ?_)
  refine Zc (Zk rfl (Za (Zi (Zf1 ?_))))
  refine Zg1 rfl (.tmp rfl) ?_
  exact ⟨rfl, (Drops.keep (Zt2 _))⟩
 · exact absurd hq17 (by decide)


set_option maxRecDepth 100000 in
set_option maxHeartbeats 8000000 in
theorem domRelation_c (f : SFunc) (a0 b0 c0 : Int) : VPure Try.prog 3 [funcV f, .int a0, .int b0, .int c0] (.bool true) := by
 refine V_start (nt := 100) Try.func3 rfl rfl rfl ?_
 refine Zb (Zd ?_)
 refine Zc (Zc2 rfl rfl (fun g4 => ?_))
 refine Zc (Zk rfl (Za (Zi (Zb (Zb (Zd ?_))))))
 refine Zc (Zx1 [] rfl rfl VT.en5 (works_c) ?_)
 refine Zc (Zl2 rfl (Za (Zi ?_)))
 refine Zq1 rfl (rfl) ?_
 refine Zi1 (Zi (Zb (Zb (Zd (Zc (Zv 0 VT.ty24 rfl rfl rfl ?_))))))
 refine Zc (Zx1 [.tmp 15] rfl rfl VT.en6 (CheckFunc_c f) ?_)
 refine Zc (Zj1 rfl rfl rfl (Za (Zi ?_)))
 refine Zm1 rfl (fun h17 => ?_) (fun h17 => ?_)
 ·
  refine Zb (Zd (Zc (Zk rfl (Za (Zi (Zf1 ?_))))))
  refine Zd1 (Zg1 rfl (.tmp rfl) ?_)
  first | rfl | exact rel_last l4 hq85 (by simpa using hq92)
 ·
  have h0 : funcF f = 0 := h17
  have hok := func_ok h0
  have hbp := hok.pos
  have h128 := hok.len
  obtain ⟨a, ha1, ha⟩ : ∃ k : Nat, withinF a0 f.blocks.length = k ∧ k < f.blocks.length := within_ok hbp
  obtain ⟨b, hb1, hb⟩ : ∃ k : Nat, withinF b0 f.blocks.length = k ∧ k < f.blocks.length := within_ok hbp
  obtain ⟨c, hc1, hc⟩ : ∃ k : Nat, withinF c0 f.blocks.length = k ∧ k < f.blocks.length := within_ok hbp
  refine Zi1 (Zi (Zb (Zd (Zc (Zj VT.fa24_1 rfl (Zc (Zu 0 VT.ty22 rfl rfl rfl ?_)))))))
  refine Zc (Zd2 (n := f.blocks.length) Try.underlying22 rfl (by simp) (fun hl20 => ?_))
  refine Zc (Zk rfl (Za (Zi (Zb (Zd (Zc (Zl rfl (Zc (Zl rfl ?_)))))))))
  refine Zc (Zu2 (Zx1 [.tmp 21, .tmp 22] rfl rfl VT.en7 (within_c a0 f.blocks.length (by omega) (by omega)) ⟨rfl, rfl⟩) ((V.le.of_eq (congrArg V.int ha1) : V.le _ (.int (a : Int)))) ?_)
  refine Zc (Zl rfl (Zc (Zl rfl ?_)))
  refine Zc (Zu2 (Zx1 [.tmp 24, .tmp 25] rfl rfl VT.en7 (within_c b0 f.blocks.length (by omega) (by omega)) ⟨rfl, rfl⟩) ((V.le.of_eq (congrArg V.int hb1) : V.le _ (.int (b : Int)))) ?_)
  refine Zc (Zl rfl (Zc (Zl rfl ?_)))
  refine Zc (Zu2 (Zx1 [.tmp 27, .tmp 28] rfl rfl VT.en7 (within_c c0 f.blocks.length (by omega) (by omega)) ⟨rfl, rfl⟩) ((V.le.of_eq (congrArg V.int hc1) : V.le _ (.int (c : Int)))) ?_)
  refine Zc (Zk rfl (Zc (Zk rfl (Zc (Zk rfl (Za (Zi (Zb (Zd (Zc (Zv 0 VT.ty24 rfl rfl rfl ?_)))))))))))
  refine Zc (Zx1 [.tmp 31] rfl rfl VT.en8 (Reachable_c h0) ?_)
  refine Zc (Zl rfl (Zc (Zg2 rfl rfl (Zc (Zg2 rfl rfl (Zc (Zk rfl (Zc (Zk rfl (Za (Zi (Zb (Zb (Zd (Zc (Zl rfl (Zc (Zl rfl ?_))))))))))))))))))
  refine Zc (Zx1 [.tmp 35, .tmp 36] rfl rfl VT.en9 (HasInt_c (reachL f) none (a : Int)) ?_)
  refine Zc (Zl2 rfl (Zc (Zl rfl ?_)))
  refine Zj2 (q := 39) rfl (fun hq39 => ?_) (fun hq39 => ?_)
  ·
   refine Zk0 hq39 ?_
   refine Zk0 hq39 ?_
   refine Zk0 hq39 ?_
   refine Zk0 hq39 ?_
   refine Zc (Zs1 rfl hq39 rfl ?_)
   refine Zc (Zl rfl ?_)
   refine Zk0 rfl ?_
   refine Zk0 rfl ?_
   refine Zk0 rfl ?_
   refine Zk0 rfl ?_
   refine Zc (Zs1 rfl rfl rfl (Za (Zi ?_)))
   refine Zp1 rfl rfl ?_
   refine Zb (Zd (Zc (Zk rfl (Za (Zi (Zf1 ?_))))))
   refine Zd1 (Zg1 rfl (.tmp rfl) ?_)
   first | rfl | exact rel_last l4 hq85 (by simpa using hq92)
  ·
   have hma := has_reach (by simpa using hq39)
   refine Zc (Zl rfl ?_) (Zy0 hq39)
   refine Zc (Zl rfl ?_) (Zy0 hq39)
   refine Zc (Zx1 [.tmp 40, .tmp 41] rfl rfl VT.en9 (HasInt_c (reachL f) none (b : Int)) ?_) (Zy0 hq39)
   refine Zc (Zl2 rfl ?_) (Zy0 hq39)
   refine Zc (Zt1 rfl hq39 rfl ?_)
   refine Zc (Zl rfl ?_)
   refine Zj2 (q := 45) rfl (fun hq45 => ?_) (fun hq45 => ?_)
   ·
    refine Zk0 hq45 ?_
    refine Zk0 hq45 ?_
    refine Zk0 hq45 ?_
    refine Zk0 hq45 ?_
    refine Zc (Zs1 rfl hq45 rfl ?_)
    refine Za (Zi ?_)
    refine Zp1 rfl rfl ?_
    refine Zb (Zd (Zc (Zk rfl (Za (Zi (Zf1 ?_))))))
    refine Zd1 (Zg1 rfl (.tmp rfl) ?_)
    first | rfl | exact rel_last l4 hq85 (by simpa using hq92)
   ·
    have hmb := has_reach (by simpa using hq45)
    refine Zc (Zl rfl ?_) (Zy0 hq45)
    refine Zc (Zl rfl ?_) (Zy0 hq45)
    refine Zc (Zx1 [.tmp 46, .tmp 47] rfl rfl VT.en9 (HasInt_c (reachL f) none (c : Int)) ?_) (Zy0 hq45)
    refine Zc (Zl2 rfl ?_) (Zy0 hq45)
    refine Zc (Zt1 rfl hq45 rfl ?_)
    refine Za (Zi ?_)
    refine Zo1 rfl (fun h50 => ?_) (fun h50 => ?_)
    ·
     refine Zb (Zd (Zc (Zk rfl (Za (Zi (Zf1 ?_))))))
     refine Zd1 (Zg1 rfl (.tmp rfl) ?_)
     first | rfl | exact rel_last l4 hq85 (by simpa using hq92)
    ·
     have hmc := has_reach h50
     obtain ⟨l1, l2, l3, l4⟩ := relation_law hok hma hmb hmc
     refine Zi1 (Zi (Zb (Zd ?_)))
     refine Zc (V_makeFunc [.tmp 4] rfl rfl ?_)
     refine Zc (Zk rfl (Za (Zi (Zb (Zd (Zc (Zl rfl (Zc (Zl rfl (Zc (Zl rfl ?_)))))))))))
     refine Zc (V_callCloKs [.tmp 53, .tmp 54] [_] _ rfl rfl rfl VT.en10 (.refl _) (rel1_c h0 (a := a) (b := a) ha ha g4) ?_)
     refine Zc (Zl rfl ?_)
     refine Zj2 (q := 56) rfl (fun hq56 => ?_) (fun hq56 => ?_)
     ·
      refine Zc (Zl rfl ?_) (Zy1 hq56)
      refine Zc (Zl rfl ?_) (Zy1 hq56)
      refine Zc (V_callCloKs [.const (.int .i64 (0)), .tmp 58] [_] _ rfl rfl rfl VT.en10 (.refl _) (rel1_c h0 (a := 0) (b := a) hbp ha g4) ?_) (Zy1 hq56)
      refine Zc (Zs1 rfl hq56 rfl ?_)
      refine Zc (Zl rfl ?_)
      refine Zj2 (q := 61) rfl (fun hq61 => ?_) (fun hq61 => ?_)
      ·
       refine Zc (Zl rfl ?_) (Zy1 hq61)
       refine Zc (Zl rfl ?_) (Zy1 hq61)
       refine Zc (Zl rfl ?_) (Zy1 hq61)
       refine Zc (V_callCloKs [.tmp 63, .tmp 64] [_] _ rfl rfl rfl VT.en10 (.refl _) (rel1_c h0 (a := a) (b := b) ha hb g4) ?_) (Zy1 hq61)
       refine Zc (Zl2 rfl ?_) (Zy1 hq61)
       refine Zc (Zl rfl ?_) (Zy1 hq61)
       refine Zj2 (q := 67) rfl (fun hq67 => ?_) (fun hq67 => ?_)
       ·
        refine Zk0 hq67 ?_
        refine Zk0 hq67 ?_
        refine Zk0 hq67 ?_
        refine Zk0 hq67 ?_
        refine Zk0 hq67 ?_
        refine Zc (Zs1 rfl hq67 rfl ?_) (Zy1 hq61)
        refine Zc (Zl rfl ?_) (Zy1 hq61)
        refine Zk0 rfl ?_
        refine Zk0 rfl ?_
        refine Zk0 rfl ?_
        refine Zk0 rfl ?_
        refine Zc (Zs1 rfl rfl rfl ?_) (Zy1 hq61)
        refine Zc (Zs1 rfl hq61 rfl ?_)
        refine Zc (Zl rfl ?_)
        refine Zc (Zl rfl ?_) (Zy1 rfl)
        refine Zc (Zl rfl ?_) (Zy1 rfl)
        refine Zc (Zj1 rfl rfl rfl ?_) (Zy1 rfl)
        refine Zc (Zl rfl ?_) (Zy1 rfl)
        refine Zj2 (q := 85) rfl (fun hq85 => ?_) (fun hq85 => ?_)
        ·
         refine Zk0 hq85 ?_
         refine Zk0 hq85 ?_
         refine Zk0 hq85 ?_
         refine Zk0 hq85 ?_
         refine Zk0 hq85 ?_
         refine Zc (Zs1 rfl hq85 rfl ?_) (Zy1 rfl)
         refine Zc (Zl rfl ?_) (Zy1 rfl)
         refine Zk0 rfl ?_
         refine Zk0 rfl ?_
         refine Zk0 rfl ?_
         refine Zk0 rfl ?_
         refine Zk0 rfl ?_
         refine Zc (Zs1 rfl rfl rfl ?_) (Zy1 rfl)
         refine Zc (Zs1 rfl rfl rfl (Zc (Zk rfl (Za (Zi (Zf1 ?_))))))
         refine Zg1 rfl (.tmp rfl) ?_
         first | rfl | exact rel_last l4 hq85 (by simpa using hq92)
        ·
         refine Zc (Zl rfl ?_) (Zy0 hq85)
         refine Zc (Zl rfl ?_) (Zy0 hq85)
         refine Zc (Zl rfl ?_) (Zy0 hq85)
         refine Zc (V_callCloKs [.tmp 87, .tmp 88] [_] _ rfl rfl rfl VT.en10 (.refl _) (rel1_c h0 (a := a) (b := b) ha hb g4) ?_) (Zy0 hq85)
         refine Zc (Zl2 rfl ?_) (Zy0 hq85)
         refine Zc (Zt1 rfl hq85 rfl ?_) (Zy1 rfl)
         refine Zc (Zl rfl ?_) (Zy1 rfl)
         refine Zj2 (q := 92) rfl (fun hq92 => ?_) (fun hq92 => ?_)
         ·
          refine Zk0 hq92 ?_
          refine Zk0 hq92 ?_
          refine Zk0 hq92 ?_
          refine Zk0 hq92 ?_
          refine Zk0 hq92 ?_
          refine Zc (Zs1 rfl hq92 rfl ?_) (Zy1 rfl)
          refine Zc (Zs1 rfl rfl rfl (Zc (Zk rfl (Za (Zi (Zf1 ?_))))))
          refine Zg1 rfl (.tmp rfl) ?_
          first | rfl | exact rel_last l4 hq85 (by simpa using hq92)
         ·
          refine Zc (Zl rfl ?_) (Zy0 hq92)
          refine Zc (Zl rfl ?_) (Zy0 hq92)
          refine Zc (Zl rfl ?_) (Zy0 hq92)
          refine Zc (V_callCloKs [.tmp 94, .tmp 95] [_] _ rfl rfl rfl VT.en10 (.refl _) (rel1_c h0 (a := b) (b := a) hb ha g4) ?_) (Zy0 hq92)
          refine Zc (Zl2 rfl ?_) (Zy0 hq92)
          refine Zc (Zt1 rfl hq92 rfl ?_) (Zy1 rfl)
          refine Zc (Zs1 rfl rfl rfl (Zc (Zk rfl (Za (Zi (Zf1 ?_))))))
          refine Zg1 rfl (.tmp rfl) ?_
          first | rfl | exact rel_last l4 hq85 (by simpa using hq92)
       ·
        refine Zc (Zl rfl ?_) (Zy0 hq67)
        refine Zc (Zl rfl ?_) (Zy0 hq67)
        refine Zc (Zl rfl ?_) (Zy0 hq67)
        refine Zc (V_callCloKs [.tmp 69, .tmp 70] [_] _ rfl rfl rfl VT.en10 (.refl _) (rel1_c h0 (a := b) (b := c) hb hc g4) ?_) (Zy0 hq67)
        refine Zc (Zl2 rfl ?_) (Zy0 hq67)
        refine Zc (Zt1 rfl hq67 rfl ?_) (Zy1 hq61)
        refine Zc (Zl rfl ?_) (Zy1 hq61)
        refine Zj2 (q := 74) rfl (fun hq74 => ?_) (fun hq74 => ?_)
        ·
         refine Zk0 hq74 ?_
         refine Zk0 hq74 ?_
         refine Zk0 hq74 ?_
         refine Zk0 hq74 ?_
         refine Zc (Zs1 rfl hq74 rfl ?_) (Zy1 hq61)
         refine Zc (Zs1 rfl hq61 rfl ?_)
         refine Zc (Zl rfl ?_)
         refine Zc (Zl rfl ?_) (Zy1 rfl)
         refine Zc (Zl rfl ?_) (Zy1 rfl)
         refine Zc (Zj1 rfl rfl rfl ?_) (Zy1 rfl)
         refine Zc (Zl rfl ?_) (Zy1 rfl)
         refine Zj2 (q := 85) rfl (fun hq85 => ?_) (fun hq85 => ?_)
         ·
          refine Zk0 hq85 ?_
          refine Zk0 hq85 ?_
          refine Zk0 hq85 ?_
          refine Zk0 hq85 ?_
          refine Zk0 hq85 ?_
          refine Zc (Zs1 rfl hq85 rfl ?_) (Zy1 rfl)
          refine Zc (Zl rfl ?_) (Zy1 rfl)
          refine Zk0 rfl ?_
          refine Zk0 rfl ?_
          refine Zk0 rfl ?_
          refine Zk0 rfl ?_
          refine Zk0 rfl ?_
          refine Zc (Zs1 rfl rfl rfl ?_) (Zy1 rfl)
          refine Zc (Zs1 rfl rfl rfl (Zc (Zk rfl (Za (Zi (Zf1 ?_))))))
          refine Zg1 rfl (.tmp rfl) ?_
          first | rfl | exact rel_last l4 hq85 (by simpa using hq92)
         ·
          refine Zc (Zl rfl ?_) (Zy0 hq85)
          refine Zc (Zl rfl ?_) (Zy0 hq85)
          refine Zc (Zl rfl ?_) (Zy0 hq85)
          refine Zc (V_callCloKs [.tmp 87, .tmp 88] [_] _ rfl rfl rfl VT.en10 (.refl _) (rel1_c h0 (a := a) (b := b) ha hb g4) ?_) (Zy0 hq85)
          refine Zc (Zl2 rfl ?_) (Zy0 hq85)
          refine Zc (Zt1 rfl hq85 rfl ?_) (Zy1 rfl)
          refine Zc (Zl rfl ?_) (Zy1 rfl)
          refine Zj2 (q := 92) rfl (fun hq92 => ?_) (fun hq92 => ?_)
          ·
           refine Zk0 hq92 ?_
           refine Zk0 hq92 ?_
           refine Zk0 hq92 ?_
           refine Zk0 hq92 ?_
           refine Zk0 hq92 ?_
           refine Zc (Zs1 rfl hq92 rfl ?_) (Zy1 rfl)
           refine Zc (Zs1 rfl rfl rfl (Zc (Zk rfl (Za (Zi (Zf1 ?_))))))
           refine Zg1 rfl (.tmp rfl) ?_
           first | rfl | exact rel_last l4 hq85 (by simpa using hq92)
          ·
           refine Zc (Zl rfl ?_) (Zy0 hq92)
           refine Zc (Zl rfl ?_) (Zy0 hq92)
           refine Zc (Zl rfl ?_) (Zy0 hq92)
           refine Zc (V_callCloKs [.tmp 94, .tmp 95] [_] _ rfl rfl rfl VT.en10 (.refl _) (rel1_c h0 (a := b) (b := a) hb ha g4) ?_) (Zy0 hq92)
           refine Zc (Zl2 rfl ?_) (Zy0 hq92)
           refine Zc (Zt1 rfl hq92 rfl ?_) (Zy1 rfl)
           refine Zc (Zs1 rfl rfl rfl (Zc (Zk rfl (Za (Zi (Zf1 ?_))))))
           refine Zg1 rfl (.tmp rfl) ?_
           first | rfl | exact rel_last l4 hq85 (by simpa using hq92)
        ·
         refine Zc (Zl rfl ?_) (Zy0 hq74)
         refine Zc (Zl rfl ?_) (Zy0 hq74)
         refine Zc (Zl rfl ?_) (Zy0 hq74)
         refine Zc (V_callCloKs [.tmp 76, .tmp 77] [_] _ rfl rfl rfl VT.en10 (.refl _) (rel1_c h0 (a := a) (b := c) ha hc g4) ?_) (Zy0 hq74)
         refine Zc (Zt1 rfl hq74 rfl ?_) (Zy1 hq61)
         refine Zc (Zs1 rfl hq61 rfl ?_)
         refine Zc (Zl rfl ?_)
         refine Zj2 (q := 81) rfl (fun hq81 => ?_) (fun hq81 => ?_)
         ·
          refine Zc (Zl rfl ?_) (Zy1 hq81)
          refine Zc (Zl rfl ?_) (Zy1 hq81)
          refine Zc (Zj1 rfl rfl rfl ?_) (Zy1 hq81)
          refine Zc (Zl rfl ?_) (Zy1 hq81)
          refine Zj2 (q := 85) rfl (fun hq85 => ?_) (fun hq85 => ?_)
          ·
           refine Zk0 hq85 ?_
           refine Zk0 hq85 ?_
           refine Zk0 hq85 ?_
           refine Zk0 hq85 ?_
           refine Zk0 hq85 ?_
           refine Zc (Zs1 rfl hq85 rfl ?_) (Zy1 hq81)
           refine Zc (Zl rfl ?_) (Zy1 hq81)
           refine Zk0 rfl ?_
           refine Zk0 rfl ?_
           refine Zk0 rfl ?_
           refine Zk0 rfl ?_
           refine Zk0 rfl ?_
           refine Zc (Zs1 rfl rfl rfl ?_) (Zy1 hq81)
           refine Zc (Zs1 rfl hq81 rfl ?_)
           refine Zc (Zk rfl (Za (Zi (Zf1 ?_))))
           refine Zg1 rfl (.tmp rfl) ?_
           first | rfl | exact rel_last l4 hq85 (by simpa using hq92)
          ·
           refine Zc (Zl rfl ?_) (Zy0 hq85)
           refine Zc (Zl rfl ?_) (Zy0 hq85)
           refine Zc (Zl rfl ?_) (Zy0 hq85)
           refine Zc (V_callCloKs [.tmp 87, .tmp 88] [_] _ rfl rfl rfl VT.en10 (.refl _) (rel1_c h0 (a := a) (b := b) ha hb g4) ?_) (Zy0 hq85)
           refine Zc (Zl2 rfl ?_) (Zy0 hq85)
           refine Zc (Zt1 rfl hq85 rfl ?_) (Zy1 hq81)
           refine Zc (Zl rfl ?_) (Zy1 hq81)
           refine Zj2 (q := 92) rfl (fun hq92 => ?_) (fun hq92 => ?_)
           ·
            refine Zk0 hq92 ?_
            refine Zk0 hq92 ?_
            refine Zk0 hq92 ?_
            refine Zk0 hq92 ?_
            refine Zk0 hq92 ?_
            refine Zc (Zs1 rfl hq92 rfl ?_) (Zy1 hq81)
            refine Zc (Zs1 rfl hq81 rfl ?_)
            refine Zc (Zk rfl (Za (Zi (Zf1 ?_))))
            refine Zg1 rfl (.tmp rfl) ?_
            first | rfl | exact rel_last l4 hq85 (by simpa using hq92)
           ·
            refine Zc (Zl rfl ?_) (Zy0 hq92)
            refine Zc (Zl rfl ?_) (Zy0 hq92)
            refine Zc (Zl rfl ?_) (Zy0 hq92)
            refine Zc (V_callCloKs [.tmp 94, .tmp 95] [_] _ rfl rfl rfl VT.en10 (.refl _) (rel1_c h0 (a := b) (b := a) hb ha g4) ?_) (Zy0 hq92)
            refine Zc (Zl2 rfl ?_) (Zy0 hq92)
            refine Zc (Zt1 rfl hq92 rfl ?_) (Zy1 hq81)
            refine Zc (Zs1 rfl hq81 rfl ?_)
            refine Zc (Zk rfl (Za (Zi (Zf1 ?_))))
            refine Zg1 rfl (.tmp rfl) ?_
            first | rfl | exact rel_last l4 hq85 (by simpa using hq92)
         · exact absurd hq81 (by rw [l3 (by simpa using hq67) (by simpa using hq74)]; decide)
      · exact absurd hq61 (by rw [l2]; decide)
     · exact absurd hq56 (by rw [l1]; decide)


end Go.Proofs.Ytaklonfdckgdbaa.X20
