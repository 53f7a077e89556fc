import Derived.Test.YtigkaadmobgfnaaVT
import Derived.Test.YtigkaadmobgfnaaS2
import Derived.Test.YtigkaadmobgfnaaVO
import Derived.Test.YtigkaadmobgfnaaDZ
import Derived.Test.YtigkaadmobgfnaaX1
import Derived.Test.YtigkaadmobgfnaaX2
import Derived.Test.YtigkaadmobgfnaaX3
import Derived.Test.YtigkaadmobgfnaaX4
import Derived.Test.YtigkaadmobgfnaaX5
import Derived.Test.YtigkaadmobgfnaaX6
import Derived.Test.YtigkaadmobgfnaaX7
import Derived.Test.YtigkaadmobgfnaaX8
import Derived.Test.YtigkaadmobgfnaaX9
import Derived.Test.YtigkaadmobgfnaaX10
import Derived.Test.YtigkaadmobgfnaaX12
import Derived.Test.YtigkaadmobgfnaaX15
import Derived.Test.YtigkaadmobgfnaaX17
import Derived.Test.YtigkaadmobgfnaaX25
import Derived.Test.YtigkaadmobgfnaaX26
import Derived.Test.YtigkaadmobgfnaaX30
import Derived.Test.YtigkaadmobgfnaaX36
import Derived.Test.YtigkaadmobgfnaaX38
import Derived.Test.YtigkaadmobgfnaaX39
import Derived.Test.YtigkaadmobgfnaaX40
set_option linter.unusedVariables false
set_option linter.unusedSimpArgs false
namespace Go.Proofs.Ytigkaadmobgfnaa.X41
open Go.VL Go.SM Go.Proofs.Ytigkaadmobgfnaa Go.Proofs.Ytigkaadmobgfnaa.X1 Go.Proofs.Ytigkaadmobgfnaa.X2 Go.Proofs.Ytigkaadmobgfnaa.X3 Go.Proofs.Ytigkaadmobgfnaa.X4 Go.Proofs.Ytigkaadmobgfnaa.X5 Go.Proofs.Ytigkaadmobgfnaa.X6 Go.Proofs.Ytigkaadmobgfnaa.X7 Go.Proofs.Ytigkaadmobgfnaa.X8 Go.Proofs.Ytigkaadmobgfnaa.X9 Go.Proofs.Ytigkaadmobgfnaa.X10 Go.Proofs.Ytigkaadmobgfnaa.X12 Go.Proofs.Ytigkaadmobgfnaa.X15 Go.Proofs.Ytigkaadmobgfnaa.X17 Go.Proofs.Ytigkaadmobgfnaa.X25 Go.Proofs.Ytigkaadmobgfnaa.X26 Go.Proofs.Ytigkaadmobgfnaa.X30 Go.Proofs.Ytigkaadmobgfnaa.X36 Go.Proofs.Ytigkaadmobgfnaa.X38 Go.Proofs.Ytigkaadmobgfnaa.X39 Go.Proofs.Ytigkaadmobgfnaa.X40
open Go.VL renaming VOps_nil → Za, VW_seq → Zb, VW_region → Zd, VOps_skipU → Zh, Then_n → Zi, V_fieldAddr → Zj, V_assign → Zk, V_move → Zl, VW_block → Zs, VW_exit → Zt, V_load → Zu, V_load_agg → Zv, V_store_agg → Zx, V_indexAddr → Zz, InBlock_n → Zb1, InBlock_hit → Zc1, Then_r → Zd1, Then_e → Ze1, VW_ret → Zf1, VRet_one → Zg1, VW_skip → Zi1, V_bin → Zj1, VW_condEq → Zl1, VW_condNe → Zm1, VW_condP → Zn1, VW_condN → Zo1, VW_condT → Zp1, VW_condF → Zq1, V_pickT → Zs1, V_pickF → Zt1, V_callP → Zx1, V_load_ep_agg → Za2, V_alloc → Zb2, V_box → Zc2, V_lenN → Zd2, V_extract → Zg2, V_add → Zh2, VW_loopF → Zi2, VOps_split → Zj2, V_not → Zl2, Drops.refl → Zt2, VOp_as → Zu2, V_call → Zm3
set_option maxRecDepth 100000 in
set_option maxHeartbeats 4000000 in
theorem simpleA_c (u : SUnit) : VCalls Try.prog 8 [unitV u] [] fun r S' => S' = [] ∧ ∃ b : Bool, r = .bool b := by
 refine VCalls_drops ?_
 refine V_start (nt := 38) Try.func8 rfl rfl rfl ?_
 refine Zb (Zd ?_)
 refine Zc (Zc2 rfl rfl (fun g1 => ?_))
 refine Zc (Zk rfl (Za (Zi (Zb (Zd (Zc (Zk rfl (Za (Zi (Zb (Zb (Zd (Zc (Zj VT.fa24_0 rfl (Zc (Zu 0 VT.ty22 rfl rfl rfl ?_))))))))))))))))
 refine Zc (Zd2 (n := u.fns.length) Try.underlying22 rfl (by simp) (fun hl10 => ?_))
 refine Zc (Zl rfl (Za (Zi (Zs ?_))))
 refine Zi2 (ι := Nat × Int) (fun (i, m) => u.fns.length - i) (fun (i, m) => [(1, some (.ptr g1 0)), (9, some (funcsX u.fns)), (10, some (.int u.fns.length)), (11, some (.int i)), (3, some (.int m))]) (fun (i, m) => [.cells g1 24 [funcsX u.fns, .int u.main]]) (fun (i, m) => i ≤ u.fns.length) (0, 0) (Nat.zero_le _) ⟨rfl, rfl, rfl, rfl, rfl, trivial⟩ (Drops.keep (Zt2 _)) ?_
 rintro ⟨i, m⟩ hi
 change i ≤ u.fns.length at hi
 refine Zb (Zd (Zc (Zj1 rfl rfl rfl (Za (Zi (Zb ?_))))))
 refine Zn1 rfl (fun h12 => ?_) (fun h12 => ?_)
 ·
  obtain ⟨f, hf⟩ := get_of_lt u.fns i h12
  refine Zi1 (Zi (Zb (Zs (Zb (Zd ?_)))))
  refine Zc (Zz (el := funcV f) VT.sl22 rfl rfl (by omega) (get_mapS _ hf) (fun a13 => ?_))
  refine Zc (Za2 VT.ty31 rfl rfl ?_)
  refine Zc (Zb2 VT.zr31 _ rfl rfl (fun g5 => ?_))
  refine Zc (Zx 0 VT.ty31 rfl rfl rfl rfl rfl (Za (Zi (Zb (Zd (Zc (Zj VT.fa31_1 rfl (Zc (Zu 0 VT.ty29 rfl rfl rfl ?_)))))))))
  refine Zc (Zd2 (n := f.blocks.length) Try.underlying29 rfl (by simp) (fun hl17 => ?_))
  refine Zc (Zl rfl (Za (Zi (Zs ?_))))
  refine Zi2 (ι := Nat × Int) (fun (j, m2) => f.blocks.length - j) (fun (j, m2) => [(1, some (.ptr g1 0)), (9, some (funcsX u.fns)), (10, some (.int u.fns.length)), (11, some (.int i)), (3, some (.int m2)), (16, some (blocksX f.blocks)), (17, some (.int f.blocks.length)), (18, some (.int j))]) (fun (j, m2) => [.cells g1 24 [funcsX u.fns, .int u.main]]) (fun (j, m2) => j ≤ f.blocks.length) (0, m) (Nat.zero_le _) ⟨rfl, rfl, rfl, rfl, rfl, rfl, rfl, rfl, trivial⟩ (Drops.drop (Drops.keep (Zt2 _))) ?_
  rintro ⟨j, m2⟩ hj
  change j ≤ f.blocks.length at hj
  refine Zb (Zd (Zc (Zj1 rfl rfl rfl (Za (Zi (Zb ?_))))))
  refine Zn1 rfl (fun h19 => ?_) (fun h19 => ?_)
  ·
   obtain ⟨b, hb⟩ := get_of_lt f.blocks j h19
   refine Zi1 (Zi (Zb (Zs (Zb (Zd ?_)))))
   refine Zc (Zz (el := blockV b) VT.sl29 rfl rfl (by omega) (get_mapS _ hb) (fun a20 => ?_))
   refine Zc (Za2 VT.ty38 rfl rfl ?_)
   refine Zc (Zb2 VT.zr38 _ rfl rfl (fun g7 => ?_))
   refine Zc (Zx 0 VT.ty38 rfl rfl rfl rfl rfl (Za (Zi (Zd (Zc (Zl rfl (Zc (Zj VT.fa38_1 rfl (Zc (Zu 0 VT.ty33 rfl rfl rfl ?_))))))))))
   refine Zc (Zd2 (n := b.ins.length) Try.underlying33 rfl (by simp) (fun hl25 => ?_))
   refine Zc (Zj1 rfl rfl rfl (Zc (Zj1 rfl rfl rfl (Zc (Zk rfl (Za (Zb1 (Zi (Zd ?_)))))))))
   refine Zc (Zh2 rfl rfl (by omega) ?_)
   refine Zc (Zl rfl (Za (Zi ?_)))
   exact ⟨(j + 1, IntKind.i64.wrap (m2 + IntKind.i64.wrap (b.ins.length + 1))), (by (try simp only []); omega), (by omega), ⟨rfl, rfl, rfl, rfl, rfl, rfl, rfl, rfl, trivial⟩, (Drops.drop (Drops.keep (Zt2 _)))⟩
  ·
   refine Zt (Ze1 (Ze1 (Zc1 (Zb1 (Zi (Zd ?_))))))
   refine Zc (Zh2 rfl rfl (by omega) ?_)
   refine Zc (Zl rfl (Za (Zi ?_)))
   exact ⟨(i + 1, m2), (by (try simp only []); omega), (by omega), ⟨rfl, rfl, rfl, rfl, rfl, trivial⟩, (Drops.keep (Zt2 _))⟩
 ·
  refine Zt (Ze1 (Ze1 (Zc1 (Zi (Zb (Zd (Zc (Zl rfl (Zc (Zj1 rfl rfl rfl (Zc (Zl rfl ?_))))))))))))
  refine Zj2 (q := 32) rfl (fun hq32 => ?_) (fun hq32 => ?_)
  ·
   refine Zc (Zj VT.fa24_0 rfl ?_) (Zy1 hq32)
   refine Zc (Zu 0 VT.ty22 rfl rfl rfl ?_) (Zy1 hq32)
   refine Zc (Zd2 (n := u.fns.length) Try.underlying22 rfl (by simp) (fun hl35 => ?_)) (Zy1 hq32)
   refine Zc (Zj1 rfl rfl rfl ?_) (Zy1 hq32)
   refine Zc (Zs1 rfl hq32 rfl ?_)
   refine Zc (Zk rfl (Za (Zi (Zf1 ?_))))
   refine Zg1 rfl (.tmp rfl) ?_
   exact ⟨[], Drops.nil _, rfl, _, rfl⟩
  ·
   refine Zk1 hq32 ?_
   refine Zk1 hq32 ?_
   refine Zk1 hq32 ?_
   refine Zk1 hq32 ?_
   refine Zc (Zt1 rfl hq32 rfl ?_)
   refine Zc (Zk rfl (Za (Zi (Zf1 ?_))))
   refine Zg1 rfl (.tmp rfl) ?_
   exact ⟨[], Drops.nil _, rfl, _, rfl⟩
set_option maxRecDepth 100000 in
theorem enough_c (n : Int) (h : 0 ≤ n ∧ n ≤ 1500) : VPure Try.prog 13 [.int n] (.bool (decide (5000 * (n + 1) ≤ 1000000))) := by
 refine V_start (nt := 7) Try.func13 rfl rfl rfl ?_
 refine Zb (Zd (Zc (Zk rfl (Za (Zi (Zb (Zd (Zc (Zl rfl ?_)))))))))
 refine Zc (Zh2 rfl rfl (by omega) ?_)
 refine Zc (Zu2 (Zj1 rfl rfl rfl ⟨rfl, rfl⟩) ((V.le.of_eq (congrArg V.int (IntWalk.i64_in _ (by omega))) : V.le _ (.int (5000 * (n + 1))))) ?_)
 refine Zc (Zj1 rfl rfl rfl (Zc (Zk rfl (Za (Zi (Zf1 ?_))))))
 refine Zg1 rfl (.tmp rfl) ?_
 rfl
set_option maxRecDepth 100000 in
set_option maxHeartbeats 8000000 in
theorem movesLeaves_c (u : SUnit) : VPure Try.prog 4 [unitV u] (.bool true) := by
 refine V_start (nt := 77) Try.func4 rfl rfl rfl ?_
 refine Zb (Zd ?_)
 refine Zc (Zc2 rfl rfl (fun g1 => ?_))
 refine Zc (Zk rfl (Za (Zi (Zb (Zb (Zd ?_))))))
 refine Zc (Zx1 [] rfl rfl VT.en5 (works_c) ?_)
 refine Zc (Zl2 rfl (Za (Zi ?_)))
 refine Zq1 rfl (rfl) ?_
 refine Zi1 (Zi (Zb (Zb (Zd (Zc (Zv 0 VT.ty24 rfl rfl rfl ?_))))))
 refine Zc (Zm3 [.tmp 14] [] _ rfl rfl VT.en8 (.refl _) (simpleA_c u) ?_)
 rintro _ _ ⟨rfl, sb, rfl⟩
 refine Zc (Zl2 rfl (Za (Zi ?_)))
 refine Zo1 rfl (fun h16 => ?_) (fun h16 => ?_)
 ·
  refine Zb (Zd (Zc (Zk rfl (Za (Zi (Zf1 ?_))))))
  refine Zd1 (Zg1 rfl (.tmp rfl) ?_)
  first | rfl | exact congrArg V.bool (by rw [hr2 hx63]; exact sameOut_iff.2 rfl)
 ·
  refine Zi1 (Zi (Zb (Zd (Zc (Zv 0 VT.ty24 rfl rfl rfl ?_)))))
  by_cases hE : lvErr u = 0
  ·
   obtain ⟨hU, hS, hM⟩ := lvErr_ok hE
   have hC := Check_c u
   rw [hU] at hC
   have hC2 := MCheck_c (lvU u)
   rw [hM] at hC2
   refine Zc (Zx1 [.tmp 18] rfl rfl VT.en6 (Leave_0 hE) ?_)
   refine Zc (Zl rfl (Zc (Zg2 rfl rfl (Zc (Zg2 rfl rfl ?_)))))
   refine Zc (Zb2 VT.zr24 _ rfl rfl (fun g3 => ?_))
   refine Zc (Zx 0 VT.ty24 rfl rfl rfl rfl rfl (Zc (Zk rfl (Za (Zi (Zb (Zb (Zd (Zc (Zv 1 VT.ty24 rfl rfl rfl ?_))))))))))
   refine Zc (Zx1 [.tmp 22] rfl rfl VT.en9 (hC) ?_)
   refine Zc (Zk rfl (Za (Zi (Zb (Zd (Zc (Zl rfl (Zc (Zj1 rfl rfl rfl (Za (Zi ?_)))))))))))
   refine Zm1 rfl (fun h25 => ?_) (fun h25 => ?_)
   · exact absurd rfl h25
   ·
    refine Zi1 (Zi (Zb (Zb (Zd (Zc (Zl rfl (Zc (Zj1 rfl rfl rfl (Za (Zi ?_))))))))))
    refine Zm1 rfl (fun h36 => ?_) (fun h36 => ?_)
    · exact absurd rfl h36
    ·
     refine Zi1 (Zi (Zb (Zb (Zd (Zc (Zv 0 VT.ty24 rfl rfl rfl ?_))))))
     refine Zc (Zx1 [.tmp 39] rfl rfl VT.en10 (hC2) ?_)
     refine Zc (Zj1 rfl rfl rfl (Za (Zi ?_)))
     refine Zm1 rfl (fun h41 => ?_) (fun h41 => ?_)
     · exact absurd rfl h41
     ·
      refine Zi1 (Zi (Zb (Zd (Zc (Zv 1 VT.ty24 rfl rfl rfl ?_)))))
      refine Zc (Zx1 [.tmp 43, .const (.int .i64 (1500))] rfl rfl VT.en11 (Run_c u 1500) ?_)
      refine Zc (Zl rfl (Zc (Zg2 rfl rfl (Zc (Zg2 rfl rfl (Zc (Zg2 rfl rfl ?_)))))))
      refine Zc (Zb2 VT.zr47 _ rfl rfl (fun g6 => ?_))
      refine Zc (Zx 0 VT.ty47 rfl rfl rfl rfl rfl (Zc (Zk rfl (Zc (Zk rfl (Za (Zi (Zb (Zb (Zd (Zc (Zl rfl (Zc (Zj1 rfl rfl rfl (Zc (Zl rfl ?_))))))))))))))))
      refine Zj2 (q := 50) rfl (fun hq50 => ?_) (fun hq50 => ?_)
      ·
       refine Zk0 hq50 ?_
       refine Zk0 hq50 ?_
       refine Zk0 hq50 ?_
       refine Zc (Zs1 rfl hq50 rfl ?_)
       refine Za (Zi ?_)
       refine Zp1 rfl rfl ?_
       refine Zb (Zd (Zc (Zk rfl (Za (Zi (Zf1 ?_))))))
       refine Zd1 (Zg1 rfl (.tmp rfl) ?_)
       first | rfl | exact congrArg V.bool (by rw [hr2 hx63]; exact sameOut_iff.2 rfl)
      ·
       have hx0 : (runF u 1500).2.2 = 0 := by simpa using hq50
       refine Zc (Zj VT.fa47_1 rfl ?_) (Zy0 hq50)
       refine Zc (Zu 0 VT.ty3 rfl rfl rfl ?_) (Zy0 hq50)
       refine Zc (Zj1 rfl rfl rfl ?_) (Zy0 hq50)
       refine Zc (Zt1 rfl hq50 rfl ?_)
       refine Za (Zi ?_)
       refine Zl1 rfl (fun h54 => ?_) (fun h54 => ?_)
       ·
        refine Zb (Zd (Zc (Zk rfl (Za (Zi (Zf1 ?_))))))
        refine Zd1 (Zg1 rfl (.tmp rfl) ?_)
        first | rfl | exact congrArg V.bool (by rw [hr2 hx63]; exact sameOut_iff.2 rfl)
       ·
        obtain ⟨hr1, hr2, hr3, hr4, hr5⟩ := lv_run hU hS hM hx0 h54
        refine Zi1 (Zi (Zb (Zd (Zc (Zv 1 VT.ty24 rfl rfl rfl ?_)))))
        refine Zc (Zx1 [.tmp 56, .const (.int .i64 (1000000))] rfl rfl VT.en12 (MRun_c (lvU u) 1000000) ?_)
        refine Zc (Zl rfl (Zc (Zg2 rfl rfl (Zc (Zg2 rfl rfl (Zc (Zg2 rfl rfl ?_)))))))
        refine Zc (Zb2 VT.zr47 _ rfl rfl (fun g9 => ?_))
        refine Zc (Zx 0 VT.ty47 rfl rfl rfl rfl rfl (Zc (Zk rfl (Zc (Zk rfl (Za (Zi (Zb (Zd (Zc (Zl rfl (Zc (Zj1 rfl rfl rfl (Zc (Zl rfl ?_)))))))))))))))
        refine Zj2 (q := 63) rfl (fun hq63 => ?_) (fun hq63 => ?_)
        ·
         have hx63 : (mrunF (lvU u) 1000000).2.2 = 13 := by simpa using hq63
         refine Zc (Zl rfl ?_) (Zy1 hq63)
         refine Zc (Zx1 [.tmp 64] rfl rfl VT.en13 (enough_c _ ⟨hr4, hr5⟩) ?_) (Zy1 hq63)
         refine Zc (Zl2 rfl ?_) (Zy1 hq63)
         refine Zc (Zs1 rfl hq63 rfl ?_)
         refine Zc (Zl rfl ?_)
         refine Zj2 (q := 68) rfl (fun hq68 => ?_) (fun hq68 => ?_)
         ·
          refine Zk0 hq68 ?_
          refine Zk0 hq68 ?_
          refine Zk0 hq68 ?_
          refine Zh (.inr ⟨_, _, 71, rfl, rfl, rfl⟩) rfl ?_
          refine Zh (.inr ⟨_, _, 71, rfl, rfl, rfl⟩) rfl ?_
          refine Zh (.inr ⟨_, _, 71, rfl, rfl, rfl⟩) rfl ?_
          refine Zk0 hq68 ?_
          refine Zc (Zs1 rfl hq68 rfl ?_)
          refine Zc (Zk rfl (Za (Zi (Zf1 ?_))))
          refine Zg1 rfl (.tmp rfl) ?_
          first | rfl | exact congrArg V.bool (by rw [hr2 hx63]; exact sameOut_iff.2 rfl)
         · exact absurd (hr1 (by simpa using hq68)) (by omega)
        ·
         have hx63 : (mrunF (lvU u) 1000000).2.2 = 0 := hr3.resolve_right (by simpa using hq63)
         refine Zk1 hq63 ?_
         refine Zk1 hq63 ?_
         refine Zk1 hq63 ?_
         refine Zc (Zt1 rfl hq63 rfl ?_)
         refine Zc (Zl rfl ?_)
         refine Zc (Zl rfl ?_) (Zy0 rfl)
         refine Zc (Zj1 rfl rfl rfl ?_) (Zy0 rfl)
         refine Zc (Zl rfl ?_) (Zy0 rfl)
         refine Zj2 (q := 71) rfl (fun hq71 => ?_) (fun hq71 => ?_)
         ·
          refine Zc (Zv 1 VT.ty47 rfl rfl rfl ?_) (Zy1 hq71)
          refine Zc (Zv 0 VT.ty47 rfl rfl rfl ?_) (Zy1 hq71)
          refine Zc (Zx1 [.tmp 72, .tmp 73] rfl rfl VT.en14 (SameResult_c (runF u 1500).1 (mrunF (lvU u) 1000000).1) ?_) (Zy1 hq71)
          refine Zc (Zs1 rfl hq71 rfl ?_) (Zy0 rfl)
          refine Zc (Zt1 rfl rfl rfl (Zc (Zk rfl (Za (Zi (Zf1 ?_))))))
          refine Zg1 rfl (.tmp rfl) ?_
          first | rfl | exact congrArg V.bool (by rw [hr2 hx63]; exact sameOut_iff.2 rfl)
         · exact absurd hq71 (by rw [hx63]; decide)
  ·
   refine Zc (Zx1 [.tmp 18] rfl rfl VT.en6 (Leave_e hE) ?_)
   refine Zc (Zl rfl (Zc (Zg2 rfl rfl (Zc (Zg2 rfl rfl ?_)))))
   refine Zc (Zb2 VT.zr24 _ rfl rfl (fun g3 => ?_))
   refine Zc (Zx 0 VT.ty24 rfl rfl rfl rfl rfl (Zc (Zk rfl (Za (Zi (Zb (Zb (Zd (Zc (Zv 1 VT.ty24 rfl rfl rfl ?_))))))))))
   by_cases hU : unitF u = 0
   ·
    have hC := Check_c u
    rw [hU] at hC
    refine Zc (Zx1 [.tmp 22] rfl rfl VT.en9 (hC) ?_)
    refine Zc (Zk rfl (Za (Zi (Zb (Zd (Zc (Zl rfl (Zc (Zj1 rfl rfl rfl (Za (Zi ?_)))))))))))
    refine Zm1 rfl (fun h25 => ?_) (fun h25 => ?_)
    · exact absurd rfl h25
    ·
     refine Zi1 (Zi (Zb (Zb (Zd (Zc (Zl rfl (Zc (Zj1 rfl rfl rfl (Za (Zi ?_))))))))))
     refine Zm1 rfl (fun h36 => ?_) (fun h36 => ?_)
     ·
      refine Zb (Zd (Zc (Zl rfl (Zc (Zj1 rfl rfl rfl (Zc (Zk rfl (Za (Zi (Zf1 ?_))))))))))
      refine Zd1 (Zg1 rfl (.tmp rfl) ?_)
      rw [lvErr_bad hE hU]
      rfl
     · exact absurd (by simpa using h36) hE
   ·
    have hEU : lvErr u = unitF u := by unfold lvErr; rw [if_pos hU]
    refine Zc (Zx1 [.tmp 22] rfl rfl VT.en9 (Check_c u) ?_)
    refine Zc (Zk rfl (Za (Zi (Zb (Zd (Zc (Zl rfl (Zc (Zj1 rfl rfl rfl (Za (Zi ?_)))))))))))
    refine Zm1 rfl (fun h25 => ?_) (fun h25 => ?_)
    ·
     refine Zb (Zd (Zc (Zl rfl (Zc (Zl rfl (Zc (Zj1 rfl rfl rfl (Zc (Zl rfl ?_)))))))))
     refine Zj2 (q := 29) rfl (fun hq29 => ?_) (fun hq29 => ?_)
     ·
      refine Zc (Zj VT.fa24_0 rfl ?_) (Zy1 hq29)
      refine Zc (Zu 0 VT.ty22 rfl rfl rfl ?_) (Zy1 hq29)
      refine Zc (V_len_raw Try.underlying22 rfl ?_) (Zy1 hq29)
      refine Zc (Zj1 rfl rfl rfl ?_) (Zy1 hq29)
      refine Zc (Zs1 rfl hq29 rfl ?_)
      refine Zc (Zk rfl (Za (Zi (Zf1 ?_))))
      refine Zd1 (Zg1 rfl (.tmp rfl) ?_)
      rfl
     · exact absurd hq29 (by rw [hEU]; simp)
    · exact absurd (by simpa using h25) hU
end Go.Proofs.Ytigkaadmobgfnaa.X41
