import Derived.Test.YtimmnbdajflgmaaVT
import Derived.Test.YtimmnbdajflgmaaS2
import Derived.Test.YtimmnbdajflgmaaVM
import Derived.Test.YtimmnbdajflgmaaDZ
import Derived.Test.YtimmnbdajflgmaaXS
import Derived.Test.YtimmnbdajflgmaaX1
import Derived.Test.YtimmnbdajflgmaaX2
import Derived.Test.YtimmnbdajflgmaaX3
import Derived.Test.YtimmnbdajflgmaaX4
import Derived.Test.YtimmnbdajflgmaaX5
import Derived.Test.YtimmnbdajflgmaaX6
import Derived.Test.YtimmnbdajflgmaaX7
import Derived.Test.YtimmnbdajflgmaaX8
import Derived.Test.YtimmnbdajflgmaaX9
import Derived.Test.YtimmnbdajflgmaaX10
import Derived.Test.YtimmnbdajflgmaaXW
import Derived.Test.YtimmnbdajflgmaaX12
import Derived.Test.YtimmnbdajflgmaaX13
import Derived.Test.YtimmnbdajflgmaaX14
import Derived.Test.YtimmnbdajflgmaaX20
import Derived.Test.YtimmnbdajflgmaaX25
import Derived.Test.YtimmnbdajflgmaaX26
import Derived.Test.YtimmnbdajflgmaaX30
set_option linter.unusedVariables false
set_option linter.unusedSimpArgs false
namespace Go.Proofs.Ytimmnbdajflgmaa.X31
open Go.VL Go.SM Go.Proofs.Ytimmnbdajflgmaa Go.Proofs.Ytimmnbdajflgmaa.XS Go.Proofs.Ytimmnbdajflgmaa.X1 Go.Proofs.Ytimmnbdajflgmaa.X2 Go.Proofs.Ytimmnbdajflgmaa.X3 Go.Proofs.Ytimmnbdajflgmaa.X4 Go.Proofs.Ytimmnbdajflgmaa.X5 Go.Proofs.Ytimmnbdajflgmaa.X6 Go.Proofs.Ytimmnbdajflgmaa.X7 Go.Proofs.Ytimmnbdajflgmaa.X8 Go.Proofs.Ytimmnbdajflgmaa.X9 Go.Proofs.Ytimmnbdajflgmaa.X10 Go.Proofs.Ytimmnbdajflgmaa.XW Go.Proofs.Ytimmnbdajflgmaa.X12 Go.Proofs.Ytimmnbdajflgmaa.X13 Go.Proofs.Ytimmnbdajflgmaa.X14 Go.Proofs.Ytimmnbdajflgmaa.X20 Go.Proofs.Ytimmnbdajflgmaa.X25 Go.Proofs.Ytimmnbdajflgmaa.X26 Go.Proofs.Ytimmnbdajflgmaa.X30
open Go.VL renaming VOps_nil → Za, VW_seq → Zb, VW_region → Zd, Needs_nil → Ze, Then_n → Zi, V_fieldAddr → Zj, V_assign → Zk, V_move → Zl, eqRes → Zm, vopT → Zn, good0 → Zq, V_load → Zu, V_load_agg → Zv, V_store_agg → Zx, Then_r → Zd1, VW_ret → Zf1, VRet_one → Zg1, VW_skip → Zi1, V_bin → Zj1, VW_condNe → Zm1, VW_condF → Zq1, V_pickT → Zs1, V_callP → Zx1, V_alloc → Zb2, V_box → Zc2, V_lenN → Zd2, V_extract → Zg2, VOps_split → Zj2, V_not → Zl2, evs_cons → Zp2, evs_nil → Zq2, VOp_as → Zu2
set_option maxRecDepth 100000 in
set_option maxHeartbeats 8000000 in
theorem domSplits_c (f : SFunc) (a0 b0 : Int) : VPure Try.prog 3 [funcV f, .int a0, .int b0] (.bool true) := by
 refine V_start (nt := 61) Try.func3 rfl rfl rfl ?_
 refine Zb (Zd ?_)
 refine Zc (Zc2 rfl rfl (fun g3 => ?_))
 refine Zc (Zk rfl (Za (Zi (Zb (Zb (Zd ?_))))))
 refine Zc (Zx1 [] rfl rfl VT.en7 (works_c) ?_)
 refine Zc (Zl2 rfl (Za (Zi ?_)))
 refine Zq1 rfl (rfl) ?_
 refine Zi1 (Zi (Zb (Zd (Zc (Zv 0 VT.ty24 rfl rfl rfl ?_)))))
 by_cases h0 : funcF f = 0
 by_cases hl : 128 < ((splitF f).blocks.length : Int)
 ·
  refine Zc (Zx1 [.tmp 16] rfl rfl VT.en8 (Split_big h0 hl) ?_)
  refine Zc (Zl rfl (Zc (Zg2 rfl rfl (Zc (Zg2 rfl rfl ?_)))))
  refine Zc (Zb2 VT.zr24 _ rfl rfl (fun g7 => ?_))
  refine Zc (Zx 0 VT.ty24 rfl rfl rfl rfl rfl (Zc (Zk rfl (Za (Zi (Zb (Zb (Zd (Zc (Zl rfl (Zc (Zj1 rfl rfl rfl (Za (Zi ?_))))))))))))))
  refine Zm1 rfl (fun h21 => ?_) (fun h21 => ?_)
  ·
   refine Zb (Zd (Zc (Zj VT.fa24_1 rfl (Zc (Zu 0 VT.ty22 rfl rfl rfl ?_)))))
   refine Zc (V_len_raw Try.underlying22 rfl ?_)
   refine Zc (Zj1 rfl rfl rfl (Zc (Zk rfl (Za (Zi (Zf1 ?_))))))
   refine Zd1 (Zg1 rfl (.tmp rfl) ?_)
   first | rfl | (rw [hlaw]; exact congrArg V.bool (by simp))
  · exact absurd h21 (by decide)
 ·
  have hok := func_ok h0
  have hbp := hok.pos
  have h128 := hok.len
  have g0 := split_ok h0 (by omega)
  have hcl := (split_is f).len
  obtain ⟨a, ha1, ha⟩ : ∃ k : Nat, withinF a0 f.blocks.length = k ∧ k < f.blocks.length := within_ok hbp
  obtain ⟨b, hb1, hb⟩ : ∃ k : Nat, withinF b0 f.blocks.length = k ∧ k < f.blocks.length := within_ok hbp
  have hlaw := split_law h0 (by omega) ha hb
  refine Zc (Zx1 [.tmp 16] rfl rfl VT.en8 (Split_0 h0 hl) ?_)
  refine Zc (Zl rfl (Zc (Zg2 rfl rfl (Zc (Zg2 rfl rfl ?_)))))
  refine Zc (Zb2 VT.zr24 _ rfl rfl (fun g7 => ?_))
  refine Zc (Zx 0 VT.ty24 rfl rfl rfl rfl rfl (Zc (Zk rfl (Za (Zi (Zb (Zb (Zd (Zc (Zl rfl (Zc (Zj1 rfl rfl rfl (Za (Zi ?_))))))))))))))
  refine Zm1 rfl (fun h21 => ?_) (fun h21 => ?_)
  · exact absurd rfl h21
  ·
   refine Zi1 (Zi (Zb ?_))
   refine VW_drawR (G := Unit) [([], [1], []), ([], [3], []), ([1], [27], []), ([2, 1], [28], []), (dn 4, [26, 29], []), ([], [2], []), ([], [3], []), ([6], [32], []), ([7, 6], [33], []), (dn 9, [31, 34], []), (dn 10, [30], []), (dn 11, [35], [])] [] (constSt _) [1, 2] [1, 2, 26, 27, 28, 29, 30, 31, 32, 33, 34, 35] rfl VT.mix ?_
   refine Zp (Zm _) (Zq (fun γ => Zf (fun _ h1 => Ze (Zn rfl (Zl h1 ⟨rfl, rfl⟩))))) ?_
   refine Zp (Zm _) (Zq (fun γ => Zf (fun _ h3 => Ze (Zn rfl (Zj VT.fa24_1 h3 ⟨rfl, rfl⟩))))) ?_
   refine Zp (Zm _) (Zq (fun γ => Zw 1 0 rfl (fun _ h27 => Ze (Zn rfl (Zu 1 VT.ty22 h27 rfl rfl ⟨rfl, rfl⟩))))) ?_
   refine Zp (Zm _) (Zq (fun γ => Zw 2 0 rfl (fun _ h28 => Ze (Zn rfl (Zd2 (n := f.blocks.length) Try.underlying22 h28 (by simp) (fun hl29 => ⟨rfl, rfl⟩)))))) ?_
   refine Zp (Zm _) (Zq (fun γ => Zw 0 3 rfl (fun _ h26 => Zw 3 0 rfl (fun _ h29 => Ze (Zn rfl (Zu2 (Zx1 [.tmp 26, .tmp 29] rfl (Zp2 h26 (Zp2 h29 Zq2)) VT.en9 (within_c a0 f.blocks.length (by omega) (by omega)) ⟨rfl, rfl⟩) ((V.le.of_eq (congrArg V.int ha1) : V.le _ (.int (a : Int)))) ⟨rfl, rfl⟩)))))) ?_
   refine Zp (Zm _) (Zq (fun γ => Zf (fun _ h2 => Ze (Zn rfl (Zl h2 ⟨rfl, rfl⟩))))) ?_
   refine Zp (Zm _) (Zq (fun γ => Zf (fun _ h3 => Ze (Zn rfl (Zj VT.fa24_1 h3 ⟨rfl, rfl⟩))))) ?_
   refine Zp (Zm _) (Zq (fun γ => Zw 6 0 rfl (fun _ h32 => Ze (Zn rfl (Zu 1 VT.ty22 h32 rfl rfl ⟨rfl, rfl⟩))))) ?_
   refine Zp (Zm _) (Zq (fun γ => Zw 7 0 rfl (fun _ h33 => Ze (Zn rfl (Zd2 (n := f.blocks.length) Try.underlying22 h33 (by simp) (fun hl34 => ⟨rfl, rfl⟩)))))) ?_
   refine Zp (Zm _) (Zq (fun γ => Zw 5 3 rfl (fun _ h31 => Zw 8 0 rfl (fun _ h34 => Ze (Zn rfl (Zu2 (Zx1 [.tmp 31, .tmp 34] rfl (Zp2 h31 (Zp2 h34 Zq2)) VT.en9 (within_c b0 f.blocks.length (by omega) (by omega)) ⟨rfl, rfl⟩) ((V.le.of_eq (congrArg V.int hb1) : V.le _ (.int (b : Int)))) ⟨rfl, rfl⟩)))))) ?_
   refine Zp (Zm _) (Zq (fun γ => Zw 4 5 rfl (fun _ h30 => Ze (Zn rfl (Zk h30 ⟨rfl, rfl⟩))))) ?_
   refine Zp (Zm _) (Zq (fun γ => Zw 9 1 rfl (fun _ h35 => Ze (Zn rfl (Zk h35 ⟨rfl, rfl⟩))))) ?_
   refine DrawP_nil (fun γ => Zw 10 1 rfl (fun r1 h1 => Zw 11 0 rfl (fun r2 h2 => Ze ?_)))
   have e1 : r1 = some _ := h1
   subst e1
   clear h1
   have e2 : r2 = some _ := h2
   subst e2
   clear h2
   refine Zi (Zb (Zd (Zc (Zv 1 VT.ty24 rfl rfl rfl (Zc (Zl rfl (Zc (Zl rfl ?_))))))))
   refine Zc (Zx1 [.tmp 37, .tmp 38, .tmp 39] rfl rfl VT.en10 (Dominates_c h0 ha hb) ?_)
   refine Zc (Zl rfl (Zc (Zg2 rfl rfl (Zc (Zg2 rfl rfl (Zc (Zk rfl (Zc (Zk rfl (Za (Zi (Zb (Zd (Zc (Zv 0 VT.ty24 rfl rfl rfl (Zc (Zl rfl (Zc (Zl rfl ?_)))))))))))))))))))
   refine Zc (Zx1 [.tmp 44, .tmp 45, .tmp 46] rfl rfl VT.en10 (Dominates_c g0 (by omega) (by omega)) ?_)
   refine Zc (Zl rfl (Zc (Zg2 rfl rfl (Zc (Zg2 rfl rfl (Zc (Zk rfl (Zc (Zk rfl (Za (Zi (Zb (Zd (Zc (Zl rfl (Zc (Zj1 rfl rfl rfl (Zc (Zl rfl ?_)))))))))))))))))))
   refine Zj2 (q := 52) rfl (fun hq52 => ?_) (fun hq52 => ?_)
   ·
    refine Zc (Zl rfl ?_) (Zy1 hq52)
    refine Zc (Zj1 rfl rfl rfl ?_) (Zy1 hq52)
    refine Zc (Zs1 rfl hq52 rfl ?_)
    refine Zc (Zl rfl ?_)
    refine Zj2 (q := 56) rfl (fun hq56 => ?_) (fun hq56 => ?_)
    ·
     refine Zc (Zl rfl ?_) (Zy1 hq56)
     refine Zc (Zl rfl ?_) (Zy1 hq56)
     refine Zc (V_booleq Try.underlying4 rfl rfl ?_) (Zy1 hq56)
     refine Zc (Zs1 rfl hq56 rfl ?_)
     refine Zc (Zk rfl (Za (Zi (Zf1 ?_))))
     refine Zg1 rfl (.tmp rfl) ?_
     first | rfl | (rw [hlaw]; exact congrArg V.bool (by simp))
    · exact absurd hq56 (by decide)
   · exact absurd hq52 (by decide)
 ·
  refine Zc (Zx1 [.tmp 16] rfl rfl VT.en8 (Split_e h0) ?_)
  refine Zc (Zl rfl (Zc (Zg2 rfl rfl (Zc (Zg2 rfl rfl ?_)))))
  refine Zc (Zb2 VT.zr24 _ rfl rfl (fun g7 => ?_))
  refine Zc (Zx 0 VT.ty24 rfl rfl rfl rfl rfl (Zc (Zk rfl (Za (Zi (Zb (Zb (Zd (Zc (Zl rfl (Zc (Zj1 rfl rfl rfl (Za (Zi ?_))))))))))))))
  refine Zm1 rfl (fun h21 => ?_) (fun h21 => ?_)
  ·
   refine Zb (Zd (Zc (Zj VT.fa24_1 rfl (Zc (Zu 0 VT.ty22 rfl rfl rfl ?_)))))
   refine Zc (V_len_raw Try.underlying22 rfl ?_)
   refine Zc (Zj1 rfl rfl rfl (Zc (Zk rfl (Za (Zi (Zf1 ?_))))))
   refine Zd1 (Zg1 rfl (.tmp rfl) ?_)
   first | rfl | (rw [hlaw]; exact congrArg V.bool (by simp))
  · exact absurd h21 h0
end Go.Proofs.Ytimmnbdajflgmaa.X31
