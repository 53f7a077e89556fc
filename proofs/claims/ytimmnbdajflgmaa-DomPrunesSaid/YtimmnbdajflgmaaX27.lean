import Derived.Test.YtimmnbdajflgmaaVT
import Derived.Test.YtimmnbdajflgmaaS2
import Derived.Test.YtimmnbdajflgmaaVM
import Derived.Test.YtimmnbdajflgmaaDZ
import Derived.Test.YtimmnbdajflgmaaXS
import Derived.Test.YtimmnbdajflgmaaX1
import Derived.Test.YtimmnbdajflgmaaX2
import Derived.Test.YtimmnbdajflgmaaX3
import Derived.Test.YtimmnbdajflgmaaX4
import Derived.Test.YtimmnbdajflgmaaX5
import Derived.Test.YtimmnbdajflgmaaX6
import Derived.Test.YtimmnbdajflgmaaX7
import Derived.Test.YtimmnbdajflgmaaX8
import Derived.Test.YtimmnbdajflgmaaX9
import Derived.Test.YtimmnbdajflgmaaX10
import Derived.Test.YtimmnbdajflgmaaXW
import Derived.Test.YtimmnbdajflgmaaX12
import Derived.Test.YtimmnbdajflgmaaX13
import Derived.Test.YtimmnbdajflgmaaX14
import Derived.Test.YtimmnbdajflgmaaX20
import Derived.Test.YtimmnbdajflgmaaX25
import Derived.Test.YtimmnbdajflgmaaX26
set_option linter.unusedVariables false
set_option linter.unusedSimpArgs false
namespace Go.Proofs.Ytimmnbdajflgmaa.X27
open Go.VL Go.SM Go.Proofs.Ytimmnbdajflgmaa Go.Proofs.Ytimmnbdajflgmaa.XS Go.Proofs.Ytimmnbdajflgmaa.X1 Go.Proofs.Ytimmnbdajflgmaa.X2 Go.Proofs.Ytimmnbdajflgmaa.X3 Go.Proofs.Ytimmnbdajflgmaa.X4 Go.Proofs.Ytimmnbdajflgmaa.X5 Go.Proofs.Ytimmnbdajflgmaa.X6 Go.Proofs.Ytimmnbdajflgmaa.X7 Go.Proofs.Ytimmnbdajflgmaa.X8 Go.Proofs.Ytimmnbdajflgmaa.X9 Go.Proofs.Ytimmnbdajflgmaa.X10 Go.Proofs.Ytimmnbdajflgmaa.XW Go.Proofs.Ytimmnbdajflgmaa.X12 Go.Proofs.Ytimmnbdajflgmaa.X13 Go.Proofs.Ytimmnbdajflgmaa.X14 Go.Proofs.Ytimmnbdajflgmaa.X20 Go.Proofs.Ytimmnbdajflgmaa.X25 Go.Proofs.Ytimmnbdajflgmaa.X26
open Go.VL renaming VOps_nil → Za, VW_seq → Zb, VW_region → Zd, VOps_skipU → Zh, Then_n → Zi, V_assign → Zk, V_move → Zl, VW_block → Zs, VW_exit → Zt, V_load_agg → Zv, V_store_agg → Zx, V_indexAddr → Zz, InBlock_n → Zb1, InBlock_hit → Zc1, Then_r → Zd1, Then_e → Ze1, VW_ret → Zf1, VRet_one → Zg1, VW_skip → Zi1, V_bin → Zj1, VW_condNe → Zm1, VW_condP → Zn1, VW_condF → Zq1, V_pickT → Zs1, V_pickF → Zt1, V_callP → Zx1, V_load_ep → Zz1, V_alloc → Zb2, V_box → Zc2, V_lenN → Zd2, V_extract → Zg2, V_add → Zh2, VW_loopF → Zi2, VOps_split → Zj2, V_not → Zl2
set_option maxRecDepth 100000 in
set_option maxHeartbeats 8000000 in
theorem domPrunes_c (f : SFunc) : VPure Try.prog 5 [funcV f] (.bool true) := by
 refine V_start (nt := 94) Try.func5 rfl rfl rfl ?_
 refine Zb (Zd ?_)
 refine Zc (Zc2 rfl rfl (fun g1 => ?_))
 refine Zc (Zk rfl (Za (Zi (Zb (Zb (Zd ?_))))))
 refine Zc (Zx1 [] rfl rfl VT.en7 (works_c) ?_)
 refine Zc (Zl2 rfl (Za (Zi ?_)))
 refine Zq1 rfl (rfl) ?_
 refine Zi1 (Zi (Zb (Zd (Zc (Zv 0 VT.ty24 rfl rfl rfl ?_)))))
 by_cases h0 : funcF f = 0
 ·
  have hok := func_ok h0
  have ho := order_ok hok.pos hok.edges
  have ht := tree_ok ho hok.edges
  have htl := ht.inv.tree.len
  have hal := at_len f
  have h128 := hok.len
  refine Zc (Zx1 [.tmp 16] rfl rfl VT.en12 (Prune_c0 h0) ?_)
  refine Zc (Zl rfl (Zc (Zg2 rfl rfl (Zc (Zg2 rfl rfl (Zc (Zg2 rfl rfl ?_)))))))
  refine Zc (Zb2 VT.zr24 _ rfl rfl (fun g3 => ?_))
  refine Zc (Zx 0 VT.ty24 rfl rfl rfl rfl rfl (Zc (Zk rfl (Zc (Zk rfl (Za (Zi (Zb (Zb (Zd (Zc (Zl rfl (Zc (Zj1 rfl rfl rfl (Za (Zi ?_))))))))))))))))
  refine Zm1 rfl (fun h22 => ?_) (fun h22 => ?_)
  · exact absurd rfl h22
  ·
   refine Zi1 (Zi (Zb (Zd (Zc (Zv 1 VT.ty24 rfl rfl rfl ?_)))))
   refine Zc (Zx1 [.tmp 27] rfl rfl VT.en15 (Tree_c0 h0) ?_)
   refine Zc (Zl rfl (Zc (Zg2 rfl rfl (Zc (Zg2 rfl rfl (Zc (Zk rfl (Zc (Zk rfl (Za (Zi (Zb (Zd (Zc (Zv 0 VT.ty24 rfl rfl rfl ?_)))))))))))))))
   refine Zc (Zx1 [.tmp 32] rfl rfl VT.en15 (Tree_c0 (prune_ok h0)) ?_)
   refine Zc (Zl rfl (Zc (Zg2 rfl rfl (Zc (Zg2 rfl rfl (Zc (Zk rfl (Zc (Zk rfl (Za (Zi (Zb (Zb (Zd (Zc (Zl rfl (Zc (Zj1 rfl rfl rfl (Zc (Zl rfl ?_))))))))))))))))))))
   refine Zj2 (q := 38) rfl (fun hq38 => ?_) (fun hq38 => ?_)
   · exact absurd hq38 (by decide)
   ·
    refine Zc (Zl rfl ?_) (Zy0 hq38)
    refine Zc (Zj1 rfl rfl rfl ?_) (Zy0 hq38)
    refine Zc (Zt1 rfl hq38 rfl ?_)
    refine Zc (Zl rfl ?_)
    refine Zj2 (q := 42) rfl (fun hq42 => ?_) (fun hq42 => ?_)
    · exact absurd hq42 (by decide)
    ·
     refine Zc (Zl rfl ?_) (Zy0 hq42)
     refine Zc (Zd2 (n := (treeF f.blocks).length) Try.underlying36 rfl (by simp) (fun hl44 => ?_)) (Zy0 hq42)
     refine Zc (Zl rfl ?_) (Zy0 hq42)
     refine Zc (Zd2 (n := (atF f).length) Try.underlying36 rfl (by simp) (fun hl46 => ?_)) (Zy0 hq42)
     refine Zc (Zj1 rfl rfl rfl ?_) (Zy0 hq42)
     refine Zc (Zt1 rfl hq42 rfl ?_)
     refine Za (Zi ?_)
     refine Zm1 rfl (fun h48 => ?_) (fun h48 => ?_)
     · exact absurd (by rw [htl, hal]) h48
     ·
      refine Zi1 (Zi (Zb (Zb (Zd (Zc (Zl rfl ?_))))))
      refine Zc (Zd2 (n := (atF f).length) Try.underlying36 rfl (by simp) (fun hl50 => ?_))
      refine Zc (Zl rfl (Za (Zi (Zs ?_))))
      refine Zi2 (ι := Nat) (fun k => (atF f).length - k) (fun k => [(4, some (intsX (atF f))), (6, some (intsX (treeF f.blocks))), (8, some (intsX (treeF (pruneF f).blocks))), (49, some (intsX (atF f))), (50, some (.int (atF f).length)), (51, some (.int k))]) (fun k => []) (fun k => k ≤ (atF f).length) 0 (Nat.zero_le _) ⟨rfl, rfl, rfl, rfl, rfl, rfl, trivial⟩ (Drops.nil _) ?_
      rintro k hk
      change k ≤ (atF f).length at hk
      refine Zb (Zd (Zc (Zj1 rfl rfl rfl (Za (Zi (Zb ?_))))))
      refine Zn1 rfl (fun h52 => ?_) (fun h52 => ?_)
      ·
       obtain ⟨a, ha⟩ := get_of_lt (treeF f.blocks) k (by omega)
       have hlaw := tree_law h0 (by omega) ha
       refine Zi1 (Zi (Zb (Zs (Zb (Zd (Zc (Zl rfl ?_)))))))
       refine Zc (Zz (el := V.int (gI (atF f) (k : Int))) VT.sl36 rfl rfl (by omega) (get_int (at_get (by omega) (by omega))) (fun a54 => ?_))
       refine Zc (Zz1 VT.ty3 rfl rfl (Zc (Zk rfl (Zc (Zk rfl (Za (Zi (Zb (Zd (Zc (Zk rfl (Za (Zi (Zb (Zb (Zd (Zc (Zl rfl (Zc (Zl rfl ?_))))))))))))))))))))
       refine Zc (Zz (el := V.int a) VT.sl36 rfl rfl (by omega) (get_int ha) (fun a58 => ?_))
       refine Zc (Zz1 VT.ty3 rfl rfl (Zc (Zj1 rfl rfl rfl (Zc (Zl rfl ?_)))))
       refine Zj2 (q := 61) rfl (fun hq61 => ?_) (fun hq61 => ?_)
       ·
        have hx61 : a ≥ 0 := of_decide_eq_true hq61
        refine Zc (Zl rfl ?_) (Zy1 hq61)
        refine Zc (Zl rfl ?_) (Zy1 hq61)
        refine Zc (Zz (el := V.int a) VT.sl36 rfl rfl (by omega) (get_int ha) (fun a64 => ?_)) (Zy1 hq61)
        refine Zc (Zz1 VT.ty3 rfl rfl ?_) (Zy1 hq61)
        refine Zc (Zl rfl ?_) (Zy1 hq61)
        refine Zc (Zd2 (n := (atF f).length) Try.underlying36 rfl (by simp) (fun hl67 => ?_)) (Zy1 hq61)
        refine Zc (Zj1 rfl rfl rfl ?_) (Zy1 hq61)
        refine Zc (Zs1 rfl hq61 rfl ?_)
        refine Za (Zi ?_)
        refine Zn1 rfl (fun h69 => ?_) (fun h69 => ?_)
        ·
         have hw0 : (if 0 ≤ a ∧ a < (f.blocks.length : Int) then gI (atF f) a else -1) = gI (atF f) a := if_pos ⟨hx61, by omega⟩
         refine Zd (Zc (Zl rfl (Zc (Zl rfl (Zc (Zl rfl ?_))))))
         refine Zc (Zz (el := V.int a) VT.sl36 rfl rfl (by omega) (get_int ha) (fun a73 => ?_))
         refine Zc (Zz1 VT.ty3 rfl rfl ?_)
         refine Zc (Zz (el := V.int (gI (atF f) a)) VT.sl36 rfl rfl (by omega) (get_int (at_get (by omega) (by omega))) (fun a75 => ?_))
         refine Zc (Zz1 VT.ty3 rfl rfl (Zc (Zk rfl (Za (Zi (Zb (Zd (Zc (Zl rfl (Zc (Zj1 rfl rfl rfl (Zc (Zl rfl ?_)))))))))))))
         refine Zj2 (q := 79) rfl (fun hq79 => ?_) (fun hq79 => ?_)
         ·
          obtain ⟨hn, hlt, hw⟩ := hlaw.resolve_left (by have := of_decide_eq_true hq79; omega)
          refine Zc (Zl rfl ?_) (Zy1 hq79)
          refine Zc (Zl rfl ?_) (Zy1 hq79)
          refine Zc (Zd2 (n := (treeF (pruneF f).blocks).length) Try.underlying36 rfl (by simp) (fun hl82 => ?_)) (Zy1 hq79)
          refine Zc (Zj1 rfl rfl rfl ?_) (Zy1 hq79)
          refine Zc (Zl rfl ?_) (Zy1 hq79)
          refine Zj2 (q := 84) rfl (fun hq84 => ?_) (fun hq84 => ?_)
          · exact absurd (of_decide_eq_true hq84) (by omega)
          ·
           refine Zc (Zl rfl ?_) (Zy0 hq84)
           refine Zc (Zl rfl ?_) (Zy0 hq84)
           refine Zc (Zz (el := V.int (if 0 ≤ a ∧ a < (f.blocks.length : Int) then gI (atF f) a else -1)) VT.sl36 rfl rfl (by omega) (by rw [hn, Int.toNat_natCast]; exact get_int hw) (fun a87 => ?_)) (Zy0 hq84)
           refine Zc (Zz1 VT.ty3 rfl rfl ?_) (Zy0 hq84)
           refine Zc (Zl rfl ?_) (Zy0 hq84)
           refine Zc (Zj1 rfl rfl rfl ?_) (Zy0 hq84)
           refine Zc (Zt1 rfl hq84 rfl ?_) (Zy1 hq79)
           refine Zc (Zs1 rfl hq79 rfl ?_)
           refine Za (Zi ?_)
           refine Zm1 rfl (fun h92 => ?_) (fun h92 => ?_)
           · exact absurd hw0 h92
           ·
            refine Zi1 (Zb1 (Zi (Zd ?_)))
            refine Zc (Zh2 rfl rfl (by omega) ?_)
            refine Zc (Zl rfl (Za (Zi ?_)))
            exact ⟨k + 1, (by (try simp only []); omega), (by omega), ⟨rfl, rfl, rfl, rfl, rfl, rfl, trivial⟩, (Drops.nil _)⟩
         ·
          refine Zk1 hq79 ?_
          refine Zk1 hq79 ?_
          refine Zk1 hq79 ?_
          refine Zk1 hq79 ?_
          refine Zk1 hq79 ?_
          refine Zh (.inr ⟨_, _, 84, rfl, rfl, rfl⟩) rfl ?_
          refine Zh (.inr ⟨_, _, 84, rfl, rfl, rfl⟩) rfl ?_
          refine Zh (.inr ⟨_, _, 84, rfl, rfl, rfl⟩) rfl ?_
          refine Zh (.inr ⟨_, _, 84, rfl, rfl, rfl⟩) rfl ?_
          refine Zh (.inr ⟨_, _, 84, rfl, rfl, rfl⟩) rfl ?_
          refine Zh (.inr ⟨_, _, 84, rfl, rfl, rfl⟩) rfl ?_
          refine Zk1 hq79 ?_
          refine Zc (Zt1 rfl hq79 rfl ?_)
          refine Za (Zi ?_)
          refine Zq1 rfl rfl ?_
          refine Zi1 (Zb1 (Zi (Zd ?_)))
          refine Zc (Zh2 rfl rfl (by omega) ?_)
          refine Zc (Zl rfl (Za (Zi ?_)))
          exact ⟨k + 1, (by (try simp only []); omega), (by omega), ⟨rfl, rfl, rfl, rfl, rfl, rfl, trivial⟩, (Drops.nil _)⟩
        ·
         have hw0 : (if 0 ≤ a ∧ a < (f.blocks.length : Int) then gI (atF f) a else -1) = -1 := if_neg (fun h => by omega)
         refine Zi1 (Zi (Zb (Zd (Zc (Zl rfl (Zc (Zj1 rfl rfl rfl (Zc (Zl rfl ?_)))))))))
         refine Zj2 (q := 79) rfl (fun hq79 => ?_) (fun hq79 => ?_)
         ·
          obtain ⟨hn, hlt, hw⟩ := hlaw.resolve_left (by have := of_decide_eq_true hq79; omega)
          refine Zc (Zl rfl ?_) (Zy1 hq79)
          refine Zc (Zl rfl ?_) (Zy1 hq79)
          refine Zc (Zd2 (n := (treeF (pruneF f).blocks).length) Try.underlying36 rfl (by simp) (fun hl82 => ?_)) (Zy1 hq79)
          refine Zc (Zj1 rfl rfl rfl ?_) (Zy1 hq79)
          refine Zc (Zl rfl ?_) (Zy1 hq79)
          refine Zj2 (q := 84) rfl (fun hq84 => ?_) (fun hq84 => ?_)
          · exact absurd (of_decide_eq_true hq84) (by omega)
          ·
           refine Zc (Zl rfl ?_) (Zy0 hq84)
           refine Zc (Zl rfl ?_) (Zy0 hq84)
           refine Zc (Zz (el := V.int (if 0 ≤ a ∧ a < (f.blocks.length : Int) then gI (atF f) a else -1)) VT.sl36 rfl rfl (by omega) (by rw [hn, Int.toNat_natCast]; exact get_int hw) (fun a87 => ?_)) (Zy0 hq84)
           refine Zc (Zz1 VT.ty3 rfl rfl ?_) (Zy0 hq84)
           refine Zc (Zl rfl ?_) (Zy0 hq84)
           refine Zc (Zj1 rfl rfl rfl ?_) (Zy0 hq84)
           refine Zc (Zt1 rfl hq84 rfl ?_) (Zy1 hq79)
           refine Zc (Zs1 rfl hq79 rfl ?_)
           refine Za (Zi ?_)
           refine Zm1 rfl (fun h92 => ?_) (fun h92 => ?_)
           · exact absurd hw0 h92
           ·
            refine Zi1 (Zb1 (Zi (Zd ?_)))
            refine Zc (Zh2 rfl rfl (by omega) ?_)
            refine Zc (Zl rfl (Za (Zi ?_)))
            exact ⟨k + 1, (by (try simp only []); omega), (by omega), ⟨rfl, rfl, rfl, rfl, rfl, rfl, trivial⟩, (Drops.nil _)⟩
         ·
          refine Zk1 hq79 ?_
          refine Zk1 hq79 ?_
          refine Zk1 hq79 ?_
          refine Zk1 hq79 ?_
          refine Zk1 hq79 ?_
          refine Zh (.inr ⟨_, _, 84, rfl, rfl, rfl⟩) rfl ?_
          refine Zh (.inr ⟨_, _, 84, rfl, rfl, rfl⟩) rfl ?_
          refine Zh (.inr ⟨_, _, 84, rfl, rfl, rfl⟩) rfl ?_
          refine Zh (.inr ⟨_, _, 84, rfl, rfl, rfl⟩) rfl ?_
          refine Zh (.inr ⟨_, _, 84, rfl, rfl, rfl⟩) rfl ?_
          refine Zh (.inr ⟨_, _, 84, rfl, rfl, rfl⟩) rfl ?_
          refine Zk1 hq79 ?_
          refine Zc (Zt1 rfl hq79 rfl ?_)
          refine Za (Zi ?_)
          refine Zq1 rfl rfl ?_
          refine Zi1 (Zb1 (Zi (Zd ?_)))
          refine Zc (Zh2 rfl rfl (by omega) ?_)
          refine Zc (Zl rfl (Za (Zi ?_)))
          exact ⟨k + 1, (by (try simp only []); omega), (by omega), ⟨rfl, rfl, rfl, rfl, rfl, rfl, trivial⟩, (Drops.nil _)⟩
       ·
        have hx61 : ¬ a ≥ 0 := of_decide_eq_false hq61
        refine Zk1 hq61 ?_
        refine Zk1 hq61 ?_
        refine Zk1 hq61 ?_
        refine Zk1 hq61 ?_
        refine Zk1 hq61 ?_
        refine Zk1 hq61 ?_
        refine Zk1 hq61 ?_
        refine Zc (Zt1 rfl hq61 rfl ?_)
        refine Za (Zi ?_)
        refine Zq1 rfl rfl ?_
        have hw0 : (if 0 ≤ a ∧ a < (f.blocks.length : Int) then gI (atF f) a else -1) = -1 := if_neg (fun h => by omega)
        refine Zi1 (Zi (Zb (Zd (Zc (Zl rfl (Zc (Zj1 rfl rfl rfl (Zc (Zl rfl ?_)))))))))
        refine Zj2 (q := 79) rfl (fun hq79 => ?_) (fun hq79 => ?_)
        ·
         obtain ⟨hn, hlt, hw⟩ := hlaw.resolve_left (by have := of_decide_eq_true hq79; omega)
         refine Zc (Zl rfl ?_) (Zy1 hq79)
         refine Zc (Zl rfl ?_) (Zy1 hq79)
         refine Zc (Zd2 (n := (treeF (pruneF f).blocks).length) Try.underlying36 rfl (by simp) (fun hl82 => ?_)) (Zy1 hq79)
         refine Zc (Zj1 rfl rfl rfl ?_) (Zy1 hq79)
         refine Zc (Zl rfl ?_) (Zy1 hq79)
         refine Zj2 (q := 84) rfl (fun hq84 => ?_) (fun hq84 => ?_)
         · exact absurd (of_decide_eq_true hq84) (by omega)
         ·
          refine Zc (Zl rfl ?_) (Zy0 hq84)
          refine Zc (Zl rfl ?_) (Zy0 hq84)
          refine Zc (Zz (el := V.int (if 0 ≤ a ∧ a < (f.blocks.length : Int) then gI (atF f) a else -1)) VT.sl36 rfl rfl (by omega) (by rw [hn, Int.toNat_natCast]; exact get_int hw) (fun a87 => ?_)) (Zy0 hq84)
          refine Zc (Zz1 VT.ty3 rfl rfl ?_) (Zy0 hq84)
          refine Zc (Zl rfl ?_) (Zy0 hq84)
          refine Zc (Zj1 rfl rfl rfl ?_) (Zy0 hq84)
          refine Zc (Zt1 rfl hq84 rfl ?_) (Zy1 hq79)
          refine Zc (Zs1 rfl hq79 rfl ?_)
          refine Za (Zi ?_)
          refine Zm1 rfl (fun h92 => ?_) (fun h92 => ?_)
          · exact absurd hw0 h92
          ·
           refine Zi1 (Zb1 (Zi (Zd ?_)))
           refine Zc (Zh2 rfl rfl (by omega) ?_)
           refine Zc (Zl rfl (Za (Zi ?_)))
           exact ⟨k + 1, (by (try simp only []); omega), (by omega), ⟨rfl, rfl, rfl, rfl, rfl, rfl, trivial⟩, (Drops.nil _)⟩
        ·
         refine Zk1 hq79 ?_
         refine Zk1 hq79 ?_
         refine Zk1 hq79 ?_
         refine Zk1 hq79 ?_
         refine Zk1 hq79 ?_
         refine Zh (.inr ⟨_, _, 84, rfl, rfl, rfl⟩) rfl ?_
         refine Zh (.inr ⟨_, _, 84, rfl, rfl, rfl⟩) rfl ?_
         refine Zh (.inr ⟨_, _, 84, rfl, rfl, rfl⟩) rfl ?_
         refine Zh (.inr ⟨_, _, 84, rfl, rfl, rfl⟩) rfl ?_
         refine Zh (.inr ⟨_, _, 84, rfl, rfl, rfl⟩) rfl ?_
         refine Zh (.inr ⟨_, _, 84, rfl, rfl, rfl⟩) rfl ?_
         refine Zk1 hq79 ?_
         refine Zc (Zt1 rfl hq79 rfl ?_)
         refine Za (Zi ?_)
         refine Zq1 rfl rfl ?_
         refine Zi1 (Zb1 (Zi (Zd ?_)))
         refine Zc (Zh2 rfl rfl (by omega) ?_)
         refine Zc (Zl rfl (Za (Zi ?_)))
         exact ⟨k + 1, (by (try simp only []); omega), (by omega), ⟨rfl, rfl, rfl, rfl, rfl, rfl, trivial⟩, (Drops.nil _)⟩
      ·
       refine Zt (Ze1 (Ze1 (Zc1 (Zi (Zb (Zd (Zc (Zk rfl (Za (Zi (Zf1 ?_)))))))))))
       refine Zg1 rfl (.tmp rfl) ?_
       rfl
 ·
  refine Zc (Zx1 [.tmp 16] rfl rfl VT.en12 (Prune_e h0) ?_)
  refine Zc (Zl rfl (Zc (Zg2 rfl rfl (Zc (Zg2 rfl rfl (Zc (Zg2 rfl rfl ?_)))))))
  refine Zc (Zb2 VT.zr24 _ rfl rfl (fun g3 => ?_))
  refine Zc (Zx 0 VT.ty24 rfl rfl rfl rfl rfl (Zc (Zk rfl (Zc (Zk rfl (Za (Zi (Zb (Zb (Zd (Zc (Zl rfl (Zc (Zj1 rfl rfl rfl (Za (Zi ?_))))))))))))))))
  refine Zm1 rfl (fun h22 => ?_) (fun h22 => ?_)
  ·
   refine Zb (Zd (Zc (Zl rfl ?_)))
   refine Zc (Zd2 (n := 0) Try.underlying36 rfl (by simp) (fun hl24 => ?_))
   refine Zc (Zj1 rfl rfl rfl (Zc (Zk rfl (Za (Zi (Zf1 ?_))))))
   refine Zd1 (Zg1 rfl (.tmp rfl) ?_)
   rfl
  · exact absurd h22 h0
end Go.Proofs.Ytimmnbdajflgmaa.X27
