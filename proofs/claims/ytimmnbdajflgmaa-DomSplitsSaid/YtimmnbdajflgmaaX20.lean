import Derived.Test.YtimmnbdajflgmaaVT
import Derived.Test.YtimmnbdajflgmaaS2
import Derived.Test.YtimmnbdajflgmaaXS
import Derived.Test.YtimmnbdajflgmaaDZ
import Derived.Test.YtimmnbdajflgmaaX1
import Derived.Test.YtimmnbdajflgmaaX2
import Derived.Test.YtimmnbdajflgmaaX3
import Derived.Test.YtimmnbdajflgmaaX4
import Derived.Test.YtimmnbdajflgmaaX5
import Derived.Test.YtimmnbdajflgmaaX6
import Derived.Test.YtimmnbdajflgmaaX7
import Derived.Test.YtimmnbdajflgmaaX8
import Derived.Test.YtimmnbdajflgmaaX9
import Derived.Test.YtimmnbdajflgmaaX10
import Derived.Test.YtimmnbdajflgmaaXW
import Derived.Test.YtimmnbdajflgmaaX12
import Derived.Test.YtimmnbdajflgmaaX13
import Derived.Test.YtimmnbdajflgmaaX14
set_option linter.unusedVariables false
set_option linter.unusedSimpArgs false
namespace Go.Proofs.Ytimmnbdajflgmaa.X20
open Go.VL Go.SM Go.Proofs.Ytimmnbdajflgmaa Go.Proofs.Ytimmnbdajflgmaa.XS Go.Proofs.Ytimmnbdajflgmaa.X1 Go.Proofs.Ytimmnbdajflgmaa.X2 Go.Proofs.Ytimmnbdajflgmaa.X3 Go.Proofs.Ytimmnbdajflgmaa.X4 Go.Proofs.Ytimmnbdajflgmaa.X5 Go.Proofs.Ytimmnbdajflgmaa.X6 Go.Proofs.Ytimmnbdajflgmaa.X7 Go.Proofs.Ytimmnbdajflgmaa.X8 Go.Proofs.Ytimmnbdajflgmaa.X9 Go.Proofs.Ytimmnbdajflgmaa.X10 Go.Proofs.Ytimmnbdajflgmaa.XW Go.Proofs.Ytimmnbdajflgmaa.X12 Go.Proofs.Ytimmnbdajflgmaa.X13 Go.Proofs.Ytimmnbdajflgmaa.X14
theorem climb_next {bs : List SBlock} (ho : OrderOk bs (orderF bs)) {ov : List Int} (h : Tree bs ov) {v m : Nat} {y : Int} (hv : InT bs ov v) (hy : ov[v]? = some y) (hp : pos bs v < m + 1) : y = -1 ∨ ∃ w : Nat, y = w ∧ InT bs ov w ∧ pos bs w < m := by
  by_cases h0 : v = 0
  · subst h0
    rw [h.root] at hy
    injection hy with hy
    exact .inl hy.symm
  · obtain ⟨q, hq, hi, hp2⟩ := h.parent ho hv h0
    rw [hq] at hy
    injection hy with hy
    exact .inr ⟨q, hy.symm, hi, by omega⟩
open Go.VL renaming VOps_nil → Za, VW_seq → Zb, VW_region → Zd, Then_n → Zi, V_fieldAddr → Zj, V_assign → Zk, V_move → Zl, VW_block → Zs, VW_exit → Zt, V_load → Zu, V_load_agg → Zv, V_store_agg → Zx, V_indexAddr → Zz, InBlock_n → Zb1, InBlock_hit → Zc1, Then_r → Zd1, Then_e → Ze1, VW_ret → Zf1, VRet_one → Zg1, VRet_many → Zh1, VW_skip → Zi1, V_bin → Zj1, VW_condNe → Zm1, VW_condP → Zn1, VW_condN → Zo1, VW_condF → Zq1, V_pickT → Zs1, V_pickF → Zt1, V_callP → Zx1, V_load_ep → Zz1, V_alloc → Zb2, V_box → Zc2, V_extract → Zg2, VW_loopF → Zi2, VOps_split → Zj2, V_not → Zl2, Drops.refl → Zt2, VOp_as → Zu2, perm_erase → Zv2, V_lit → Zk3, V_call → Zm3
set_option maxRecDepth 100000 in
theorem dominates_c {f : SFunc} (h : funcF f = 0) {a b : Nat} (ha : a < f.blocks.length) (hb : b < f.blocks.length) : VPure Try.prog 23 [graphV f, .int a, .int b] (.bool (domsF f a b)) := by
 have hok := func_ok h
 have ho := order_ok hok.pos hok.edges
 have ht := tree_ok ho hok.edges
 have hgv : graphV f = .agg [intsX (treeF f.blocks), intsX (placeZ f.blocks)] := by rw [graphV, if_pos h, if_pos h]
 rw [hgv]
 have hpl := place_len f.blocks
 have htl := ht.inv.tree.len
 obtain ⟨pb, hpb⟩ := get_of_lt (placeZ f.blocks) b (by omega)
 have hgp : gI (placeZ f.blocks) b = pb := gI_get ho hpb
 have hr := domsF.eq_def f a b
 rw [hgp] at hr
 refine V_start (nt := 28) Try.func23 rfl rfl rfl ?_
 refine Zb (Zd ?_)
 refine Zc (Zc2 rfl rfl (fun g3 => ?_))
 refine Zc (Zk rfl (Za (Zi (Zb (Zb (Zd (Zc (Zj VT.fa65_1 rfl (Zc (Zu 0 VT.ty36 rfl rfl rfl (Zc (Zl rfl ?_))))))))))))
 refine Zc (Zz (el := V.int pb) VT.sl36 rfl rfl (by omega) (get_int hpb) (fun a10 => ?_))
 refine Zc (Zz1 VT.ty3 rfl rfl (Zc (Zj1 rfl rfl rfl (Za (Zi ?_)))))
 refine Zn1 rfl (fun h12 => ?_) (fun h12 => ?_)
 ·
  rw [if_pos h12] at hr
  refine Zb (Zd (Zc (Zk rfl (Za (Zi (Zf1 ?_))))))
  refine Zd1 (Zg1 rfl (.tmp rfl) ?_)
  rw [hr]
 ·
  rw [if_neg h12] at hr
  have hin : InT f.blocks (treeF f.blocks) b := place_inT ho ht hb (by rw [hgp]; exact h12)
  refine Zi1 (Zi (Zb (Zs ?_)))
  refine Zi2 (ι := Nat × Int) (fun (n, x) => n) (fun (n, x) => [(1, some (.int a)), (2, some (.int x)), (3, some (.ptr g3 0))]) (fun (n, x) => [.cells g3 65 [intsX (treeF f.blocks), intsX (placeZ f.blocks)]]) (fun (n, x) => climbB (treeF f.blocks) n a x = domsF f a b ∧ (x = -1 ∨ ∃ v : Nat, x = v ∧ InT f.blocks (treeF f.blocks) v ∧ pos f.blocks v < n)) (f.blocks.length + 1, (b : Int)) ⟨hr.symm, .inr ⟨b, rfl, hin, by have := pos_lt ho hin.1; omega⟩⟩ ⟨rfl, rfl, rfl, trivial⟩ (Drops.keep (Zt2 _)) ?_
  rintro ⟨n, x⟩ hA
  change climbB (treeF f.blocks) n a x = domsF f a b ∧ (x = -1 ∨ ∃ v : Nat, x = v ∧ InT f.blocks (treeF f.blocks) v ∧ pos f.blocks v < n) at hA
  obtain ⟨hq, hx⟩ := hA
  refine Zb (Zb (Zd (Zc (Zl rfl (Zc (Zj1 rfl rfl rfl (Zc (Zl rfl ?_))))))))
  refine Zj2 (q := 15) rfl (fun hq15 => ?_) (fun hq15 => ?_)
  ·
   have h15 : x ≥ 0 := of_decide_eq_true hq15
   refine Zc (Zl rfl ?_) (Zy1 hq15)
   refine Zc (Zl rfl ?_) (Zy1 hq15)
   refine Zc (Zj1 rfl rfl rfl ?_) (Zy1 hq15)
   refine Zc (Zs1 rfl hq15 rfl ?_)
   refine Za (Zi ?_)
   refine Zm1 rfl (fun h19 => ?_) (fun h19 => ?_)
   ·
    obtain ⟨v, rfl, hin2, hpv⟩ := hx.resolve_left (by omega)
    obtain ⟨m, rfl⟩ : ∃ m, n = m + 1 := ⟨n - 1, by omega⟩
    rw [climbB, if_pos ⟨h15, h19⟩] at hq
    obtain ⟨y, hy⟩ := get_of_lt (treeF f.blocks) v (by have := ho.lt v hin2.1; omega)
    have hgy := gI_get ho hy
    rw [hgy] at hq
    have hq2 := hq
    have hy2 : y = -1 ∨ ∃ w : Nat, y = w ∧ InT f.blocks (treeF f.blocks) w ∧ pos f.blocks w < m := climb_next ho ht.inv.tree hin2 hy hpv
    refine Zi1 (Zi (Zs (Zd (Zc (Zj VT.fa65_0 rfl (Zc (Zu 0 VT.ty36 rfl rfl rfl (Zc (Zl rfl ?_)))))))))
    refine Zc (Zz (el := V.int y) VT.sl36 rfl rfl (by omega) (get_int hy) (fun a23 => ?_))
    refine Zc (Zz1 VT.ty3 rfl rfl (Zc (Zk rfl (Za (Zb1 (Zi ?_))))))
    exact ⟨(m, y), (by (try simp only []); omega), ⟨hq2, hy2⟩, ⟨rfl, rfl, rfl, trivial⟩, (Drops.keep (Zt2 _))⟩
   ·
    have hfin : domsF f a b = decide (x = (a : Int)) := by rw [← hq]; cases n with
        | zero => rfl
        | succ n => rw [climbB, if_neg (fun h => h.2 h19)]
    refine Zt (Ze1 (Ze1 (Zc1 (Zi (Zb (Zd (Zc (Zl rfl (Zc (Zl rfl (Zc (Zj1 rfl rfl rfl (Zc (Zk rfl (Za (Zi (Zf1 ?_)))))))))))))))))
    refine Zg1 rfl (.tmp rfl) ?_
    rw [hfin]; exact congrArg V.bool (by rw [Bool.eq_iff_iff]; simp)
  ·
   have h15 : ¬ x ≥ 0 := of_decide_eq_false hq15
   refine Zk1 hq15 ?_
   refine Zk1 hq15 ?_
   refine Zk1 hq15 ?_
   refine Zc (Zt1 rfl hq15 rfl ?_)
   refine Za (Zi ?_)
   refine Zq1 rfl rfl ?_
   have hfin : domsF f a b = decide (x = (a : Int)) := by rw [← hq]; cases n with
        | zero => rfl
        | succ n => rw [climbB, if_neg (fun h => h15 h.1)]
   refine Zt (Ze1 (Ze1 (Zc1 (Zi (Zb (Zd (Zc (Zl rfl (Zc (Zl rfl (Zc (Zj1 rfl rfl rfl (Zc (Zk rfl (Za (Zi (Zf1 ?_)))))))))))))))))
   refine Zg1 rfl (.tmp rfl) ?_
   rw [hfin]; exact congrArg V.bool (by rw [Bool.eq_iff_iff]; simp)
set_option maxRecDepth 100000 in
set_option maxHeartbeats 2000000 in
theorem Dominates_c {f : SFunc} (h : funcF f = 0) {a b : Nat} (ha : a < f.blocks.length) (hb : b < f.blocks.length) : VPure Try.prog 10 [funcV f, .int a, .int b] (.tup [.bool (domsF f a b), .int 0]) := by
 refine V_start (nt := 30) Try.func10 rfl rfl rfl ?_
 refine Zb (Zd ?_)
 refine Zc (Zc2 rfl rfl (fun g3 => ?_))
 refine Zc (Zk rfl (Zc (Zk rfl (Za (Zi (Zb (Zd (Zc (Zv 0 VT.ty24 rfl rfl rfl ?_)))))))))
 refine Zc (Zx1 [.tmp 11] rfl rfl VT.en21 (Build_c f) ?_)
 refine Zc (Zl rfl (Zc (Zg2 rfl rfl (Zc (Zg2 rfl rfl ?_)))))
 refine Zc (Zb2 VT.zr65 _ rfl rfl (fun g8 => ?_))
 refine Zc (Zx 0 VT.ty65 rfl rfl rfl rfl rfl (Zc (Zk rfl (Za (Zi (Zb (Zs (Zb (Zd (Zc (Zl rfl (Zc (Zj1 rfl rfl rfl (Zc (Zk rfl (Za (Zi ?_)))))))))))))))))
 refine Zm1 rfl (fun h15 => ?_) (fun h15 => ?_)
 · exact absurd h h15
 ·
  refine Zb (Zd (Zc (Zv 1 VT.ty24 rfl rfl rfl (Zc (Zl rfl (Zc (Zl rfl ?_)))))))
  refine Zc (Zk3 [.tmp 21, .tmp 22] VT.sl36 rfl rfl rfl rfl rfl ?_)
  refine Zc (Zx1 [.tmp 20, .tmp 23] rfl rfl VT.en22 (isBlock_c f [(a : Int), (b : Int)]) ?_)
  refine Zc (Zl2 rfl (Zc (Zk rfl (Za (Zi ?_)))))
  refine Zo1 rfl (fun h19 => ?_) (fun h19 => ?_)
  · rw [isB_pair.2 ⟨⟨by omega, by omega⟩, by omega, by omega⟩] at h19; cases h19
  ·
   refine Zi1 (Zb1 (Zi (Zb (Zd (Zc (Zv 0 VT.ty65 rfl rfl rfl (Zc (Zl rfl (Zc (Zl rfl ?_))))))))))
   refine Zc (Zx1 [.tmp 26, .tmp 27, .tmp 28] rfl rfl VT.en23 (dominates_c h ha hb) ?_)
   refine Zc (Zk rfl (Zc (Zk rfl (Za (Zi (Zf1 ?_))))))
   refine Zh1 rfl rfl (.cons (.tmp rfl) (.cons (.tmp rfl) (.nil))) ?_
   rfl
end Go.Proofs.Ytimmnbdajflgmaa.X20
