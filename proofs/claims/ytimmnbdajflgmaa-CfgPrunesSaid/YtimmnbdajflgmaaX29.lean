import Derived.Test.YtimmnbdajflgmaaVT
import Derived.Test.YtimmnbdajflgmaaS2
import Derived.Test.YtimmnbdajflgmaaVM
import Derived.Test.YtimmnbdajflgmaaDZ
import Derived.Test.YtimmnbdajflgmaaXS
import Derived.Test.YtimmnbdajflgmaaX1
import Derived.Test.YtimmnbdajflgmaaX2
import Derived.Test.YtimmnbdajflgmaaX3
import Derived.Test.YtimmnbdajflgmaaX4
import Derived.Test.YtimmnbdajflgmaaX5
import Derived.Test.YtimmnbdajflgmaaX6
import Derived.Test.YtimmnbdajflgmaaX7
import Derived.Test.YtimmnbdajflgmaaX8
import Derived.Test.YtimmnbdajflgmaaX9
import Derived.Test.YtimmnbdajflgmaaX10
import Derived.Test.YtimmnbdajflgmaaXW
import Derived.Test.YtimmnbdajflgmaaX12
import Derived.Test.YtimmnbdajflgmaaX13
import Derived.Test.YtimmnbdajflgmaaX14
import Derived.Test.YtimmnbdajflgmaaX20
import Derived.Test.YtimmnbdajflgmaaX25
import Derived.Test.YtimmnbdajflgmaaX26
set_option linter.unusedVariables false
set_option linter.unusedSimpArgs false
namespace Go.Proofs.Ytimmnbdajflgmaa.X29
open Go.VL Go.SM Go.Proofs.Ytimmnbdajflgmaa Go.Proofs.Ytimmnbdajflgmaa.XS Go.Proofs.Ytimmnbdajflgmaa.X1 Go.Proofs.Ytimmnbdajflgmaa.X2 Go.Proofs.Ytimmnbdajflgmaa.X3 Go.Proofs.Ytimmnbdajflgmaa.X4 Go.Proofs.Ytimmnbdajflgmaa.X5 Go.Proofs.Ytimmnbdajflgmaa.X6 Go.Proofs.Ytimmnbdajflgmaa.X7 Go.Proofs.Ytimmnbdajflgmaa.X8 Go.Proofs.Ytimmnbdajflgmaa.X9 Go.Proofs.Ytimmnbdajflgmaa.X10 Go.Proofs.Ytimmnbdajflgmaa.XW Go.Proofs.Ytimmnbdajflgmaa.X12 Go.Proofs.Ytimmnbdajflgmaa.X13 Go.Proofs.Ytimmnbdajflgmaa.X14 Go.Proofs.Ytimmnbdajflgmaa.X20 Go.Proofs.Ytimmnbdajflgmaa.X25 Go.Proofs.Ytimmnbdajflgmaa.X26
theorem unit_len {u : SUnit} (h : unitF u = 0) : u.fns.length ≤ 256 := by
  unfold unitF at h
  split at h
  · cases h
  · split at h
    · cases h
    · omega
theorem cnt_same {f : SFunc} {k : Nat} {x : Int} (hx : x = gI (atF f) k) (h0 : funcF f = 0) (hk : k < f.blocks.length) (h : x ≥ 0) : x = (cntF f k : Int) ∧ cntF f (k + 1) = cntF f k + 1 := by
  rcases cnt_step h0 hk with ⟨h1, _⟩ | h1
  · omega
  · exact ⟨hx.trans h1.1, h1.2⟩
theorem cnt_skip {f : SFunc} {k : Nat} {x : Int} (hx : x = gI (atF f) k) (h0 : funcF f = 0) (hk : k < f.blocks.length) (h : ¬ x ≥ 0) : cntF f (k + 1) = cntF f k := by
  rcases cnt_step h0 hk with h1 | ⟨h1, _⟩
  · exact h1.2
  · omega
open Go.VL renaming VOps_nil → Za, VW_seq → Zb, VW_region → Zd, Then_n → Zi, V_fieldAddr → Zj, V_assign → Zk, V_move → Zl, VW_block → Zs, VW_exit → Zt, V_load → Zu, V_load_agg → Zv, V_store_agg → Zx, V_store → Zy, V_indexAddr → Zz, InBlock_n → Zb1, InBlock_hit → Zc1, Then_r → Zd1, Then_e → Ze1, VW_ret → Zf1, VRet_one → Zg1, VW_skip → Zi1, V_bin → Zj1, VW_condNe → Zm1, VW_condP → Zn1, VW_condF → Zq1, V_pickT → Zs1, V_pickF → Zt1, V_callP → Zx1, V_load_ep → Zz1, V_load_ep_agg → Za2, V_alloc → Zb2, V_box → Zc2, V_lenN → Zd2, V_build → Zf2, V_extract → Zg2, V_add → Zh2, VW_loopF → Zi2, VOps_split → Zj2, V_not → Zl2, Drops.refl → Zt2, VOp_as → Zu2, V_appendN → Zi3, V_lit → Zk3
set_option maxRecDepth 100000 in
set_option maxHeartbeats 16000000 in
theorem cfgPrunes_c (u : SUnit) : VPure Try.prog 4 [unitV u] (.bool true) := by
 refine V_start (nt := 113) Try.func4 rfl rfl rfl ?_
 refine Zb (Zd ?_)
 refine Zc (Zc2 rfl rfl (fun g1 => ?_))
 refine Zc (Zk rfl (Za (Zi (Zb (Zb (Zd ?_))))))
 refine Zc (Zx1 [] rfl rfl VT.en7 (works_c) ?_)
 refine Zc (Zl2 rfl (Za (Zi ?_)))
 refine Zq1 rfl (rfl) ?_
 refine Zi1 (Zi (Zb (Zd (Zc (Zv 0 VT.ty35 rfl rfl rfl ?_)))))
 refine Zc (Zx1 [.tmp 22, .const (.int .i64 (1500))] rfl rfl VT.en11 (Run_c u 1500) ?_)
 refine Zc (Zl rfl (Zc (Zg2 rfl rfl (Zc (Zg2 rfl rfl (Zc (Zg2 rfl rfl ?_)))))))
 refine Zc (Zb2 VT.zr38 _ rfl rfl (fun g3 => ?_))
 refine Zc (Zx 0 VT.ty38 rfl rfl rfl rfl rfl (Zc (Zk rfl (Zc (Zk rfl (Za (Zi (Zb (Zb (Zd (Zc (Zl rfl (Zc (Zj1 rfl rfl rfl (Za (Zi ?_))))))))))))))))
 refine Zm1 rfl (fun h28 => ?_) (fun h28 => ?_)
 ·
  refine Zb (Zd (Zc (Zk rfl (Za (Zi (Zf1 ?_))))))
  refine Zd1 (Zg1 rfl (.tmp rfl) ?_)
  rfl
 ·
  have hx0 : (runF u 1500).2.2 = 0 := h28
  have hU := run_unit hx0
  have hfs := unit_fns hU
  have hul := unit_len hU
  have hrun := prune_run hx0
  have g0 := prune_unit hU
  refine Zi1 (Zi (Zb (Zd (Zc (Zj VT.fa35_1 rfl (Zc (Zu 1 VT.ty3 rfl rfl rfl ?_)))))))
  refine Zc (Zf2 [1] [.tmp 30] VT.st35 rfl rfl rfl rfl ?_)
  refine Zc (Zb2 VT.zr35 _ rfl rfl (fun g6 => ?_))
  refine Zc (Zx 0 VT.ty35 rfl rfl rfl rfl rfl (Za (Zi ?_)))
  refine VW_cells 0 (ls' := [.sl 2 (some .nil) [], .int u.main]) rfl ⟨V.le.nilTok 2, rfl, V.le.refl _, rfl, trivial⟩ ?_
  refine VW_nilBuf 24 2 ?_
  refine Zb (Zb (Zd (Zc (Zj VT.fa35_0 rfl (Zc (Zu 3 VT.ty33 rfl rfl rfl ?_))))))
  refine Zc (Zd2 (n := u.fns.length) Try.underlying33 rfl (by simp) (fun hl34 => ?_))
  refine Zc (Zl rfl (Za (Zi (Zs ?_))))
  refine Zi2 (ι := Nat × Tok) (fun (i, tok) => u.fns.length - i) (fun (i, tok) => [(1, some (.ptr g1 0)), (3, some (.ptr g3 0)), (4, some (.int (runF u 1500).2.1)), (6, some (.ptr g6 0)), (33, some (funcsX u.fns)), (34, some (.int u.fns.length)), (35, some (.int i))]) (fun (i, tok) => [.buf tok 24 2 i, .cells g6 35 [.sl 2 (some tok) ((u.fns.take i).map fun f => funcV (pruneF f)), .int u.main], .cells g3 38 (resultV (runF u 1500).1).leaves, .cells g1 35 [funcsX u.fns, .int u.main]]) (fun (i, tok) => i ≤ u.fns.length) (0, .nil) (Nat.zero_le _) ⟨rfl, rfl, rfl, rfl, rfl, rfl, rfl, trivial⟩ (Drops.buf (by simp) (Drops.keep (Drops.keep (Drops.keep (Zt2 _))))) ?_
  rintro ⟨i, tok⟩ hi
  change i ≤ u.fns.length at hi
  refine Zb (Zd (Zc (Zj1 rfl rfl rfl (Za (Zi (Zb ?_))))))
  refine Zn1 rfl (fun h36 => ?_) (fun h36 => ?_)
  ·
   obtain ⟨f, hf⟩ := get_of_lt u.fns i h36
   have h0 := hfs f (List.mem_of_getElem? hf)
   have gf0 := prune_ok h0
   have hal := at_len f
   have h128 := (func_ok h0).len
   have hpa := prune_all h0
   refine Zi1 (Zi (Zb (Zs (Zb (Zd ?_)))))
   refine Zc (Zz (el := funcV f) VT.sl33 rfl rfl (by omega) (get_mapS _ hf) (fun a37 => ?_))
   refine Zc (Za2 VT.ty24 rfl rfl ?_)
   refine Zc (Zb2 VT.zr24 _ rfl rfl (fun g8 => ?_))
   refine Zc (Zx 0 VT.ty24 rfl rfl rfl rfl rfl (Za (Zi (Zb (Zd (Zc (Zv 0 VT.ty24 rfl rfl rfl ?_)))))))
   refine Zc (Zx1 [.tmp 40] rfl rfl VT.en12 (Prune_c0 h0) ?_)
   refine Zc (Zl rfl (Zc (Zg2 rfl rfl (Zc (Zg2 rfl rfl (Zc (Zg2 rfl rfl ?_)))))))
   refine Zc (Zb2 VT.zr24 _ rfl rfl (fun g9 => ?_))
   refine Zc (Zx 0 VT.ty24 rfl rfl rfl rfl rfl (Zc (Zk rfl (Zc (Zk rfl (Za (Zi (Zb (Zb (Zd (Zc (Zl rfl (Zc (Zj1 rfl rfl rfl (Zc (Zl rfl ?_))))))))))))))))
   refine Zj2 (q := 47) rfl (fun hq47 => ?_) (fun hq47 => ?_)
   · exact absurd hq47 (by decide)
   ·
    refine Zc (Zl rfl ?_) (Zy0 hq47)
    refine Zc (Zd2 (n := (atF f).length) Try.underlying36 rfl (by simp) (fun hl49 => ?_)) (Zy0 hq47)
    refine Zc (Zj VT.fa24_1 rfl ?_) (Zy0 hq47)
    refine Zc (Zu 1 VT.ty22 rfl rfl rfl ?_) (Zy0 hq47)
    refine Zc (Zd2 (n := f.blocks.length) Try.underlying22 rfl (by simp) (fun hl52 => ?_)) (Zy0 hq47)
    refine Zc (Zj1 rfl rfl rfl ?_) (Zy0 hq47)
    refine Zc (Zt1 rfl hq47 rfl ?_)
    refine Za (Zi ?_)
    refine Zm1 rfl (fun h54 => ?_) (fun h54 => ?_)
    · exact absurd (by rw [hal]) h54
    ·
     refine Zi1 (Zi (Zb (Zd (Zc (Zv 0 VT.ty24 rfl rfl rfl ?_)))))
     refine Zc (Zx1 [.tmp 56] rfl rfl VT.en13 (Reachable_c gf0) ?_)
     refine Zc (Zl rfl (Zc (Zg2 rfl rfl (Zc (Zg2 rfl rfl (Zc (Zk rfl (Zc (Zk rfl (Za (Zi (Zb (Zb (Zd (Zc (Zl rfl (Zc (Zj1 rfl rfl rfl (Zc (Zl rfl ?_))))))))))))))))))))
     refine Zj2 (q := 62) rfl (fun hq62 => ?_) (fun hq62 => ?_)
     · exact absurd hq62 (by decide)
     ·
      refine Zc (Zl rfl ?_) (Zy0 hq62)
      refine Zc (Zd2 (n := (reachL (pruneF f)).length) Try.underlying36 rfl (by simp) (fun hl64 => ?_)) (Zy0 hq62)
      refine Zc (Zj VT.fa24_1 rfl ?_) (Zy0 hq62)
      refine Zc (Zu 0 VT.ty22 rfl rfl rfl ?_) (Zy0 hq62)
      refine Zc (Zd2 (n := (pruneF f).blocks.length) Try.underlying22 rfl (by simp) (fun hl67 => ?_)) (Zy0 hq62)
      refine Zc (Zj1 rfl rfl rfl ?_) (Zy0 hq62)
      refine Zc (Zt1 rfl hq62 rfl ?_)
      refine Za (Zi ?_)
      refine Zm1 rfl (fun h69 => ?_) (fun h69 => ?_)
      · exact absurd (by rw [hpa]) h69
      ·
       refine Zi1 (Zi (Zb (Zd (Zc (Zk rfl (Za (Zi (Zb (Zb (Zd (Zc (Zl rfl ?_))))))))))))
       refine Zc (Zd2 (n := (atF f).length) Try.underlying36 rfl (by simp) (fun hl71 => ?_))
       refine Zc (Zl rfl (Za (Zi (Zs ?_))))
       refine Zi2 (ι := Nat) (fun k => (atF f).length - k) (fun k => [(1, some (.ptr g1 0)), (3, some (.ptr g3 0)), (4, some (.int (runF u 1500).2.1)), (6, some (.ptr g6 0)), (33, some (funcsX u.fns)), (34, some (.int u.fns.length)), (35, some (.int i)), (9, some (.ptr g9 0)), (10, some (intsX (atF f))), (13, some (.int (cntF f k : Nat))), (70, some (intsX (atF f))), (71, some (.int (atF f).length)), (72, some (.int k))]) (fun k => [.cells g9 24 [.int (pruneF f).name, blocksX (pruneF f).blocks], .buf tok 24 2 i, .cells g6 35 [.sl 2 (some tok) ((u.fns.take i).map fun f => funcV (pruneF f)), .int u.main], .cells g3 38 (resultV (runF u 1500).1).leaves, .cells g1 35 [funcsX u.fns, .int u.main]]) (fun k => k ≤ (atF f).length) 0 (Nat.zero_le _) ⟨rfl, rfl, rfl, rfl, rfl, rfl, rfl, rfl, rfl, rfl, rfl, rfl, rfl, trivial⟩ (Drops.keep (Drops.drop (Drops.buf (by simp) (Drops.keep (Drops.keep (Drops.keep (Zt2 _))))))) ?_
       rintro k hk
       change k ≤ (atF f).length at hk
       refine Zb (Zd (Zc (Zj1 rfl rfl rfl (Za (Zi (Zb ?_))))))
       refine Zn1 rfl (fun h73 => ?_) (fun h73 => ?_)
       ·
        obtain ⟨x, hx⟩ := get_of_lt (atF f) k h73
        have hxg : x = gI (atF f) k := (gI_get (order_ok (func_ok h0).pos (func_ok h0).edges) hx).symm
        have hcl := cntF_le f k
        refine Zi1 (Zi (Zb (Zs (Zb (Zd ?_)))))
        refine Zc (Zz (el := V.int x) VT.sl36 rfl rfl (by omega) (get_int hx) (fun a74 => ?_))
        refine Zc (Zz1 VT.ty3 rfl rfl (Zc (Zk rfl (Za (Zi (Zb (Zb (Zd (Zc (Zl rfl (Zc (Zj1 rfl rfl rfl (Zc (Zl rfl ?_))))))))))))))
        refine Zj2 (q := 78) rfl (fun hq78 => ?_) (fun hq78 => ?_)
        ·
         have hx78 : x ≥ 0 := of_decide_eq_true hq78
         obtain ⟨hc1, hc2⟩ := cnt_same hxg h0 (by omega) hx78
         refine Zc (Zl rfl ?_) (Zy1 hq78)
         refine Zc (Zl rfl ?_) (Zy1 hq78)
         refine Zc (Zj1 rfl rfl rfl ?_) (Zy1 hq78)
         refine Zc (Zs1 rfl hq78 rfl ?_)
         refine Za (Zi ?_)
         refine Zm1 rfl (fun h82 => ?_) (fun h82 => ?_)
         · exact absurd hc1 h82
         ·
          refine Zi1 (Zi (Zb (Zd (Zc (Zl rfl (Zc (Zj1 rfl rfl rfl (Za (Zi ?_)))))))))
          refine Zn1 rfl (fun h84 => ?_) (fun h84 => ?_)
          ·
           have hcs : ((cntF f (k + 1) : Nat) : Int) = (cntF f k : Int) + 1 := by omega
           refine Zd (Zc (Zl rfl ?_))
           refine Zc (Zh2 rfl rfl (by omega) ?_)
           refine Zc (Zk rfl (Za (Zb1 (Zi (Zd ?_)))))
           refine Zc (Zh2 rfl rfl (by omega) ?_)
           refine Zc (Zl rfl (Za (Zi ?_)))
           exact ⟨k + 1, (by (try simp only []); omega), (by omega), ⟨rfl, rfl, rfl, rfl, rfl, rfl, rfl, rfl, rfl, (by rw [hcs]; rfl), rfl, rfl, rfl, trivial⟩, (Drops.keep (Drops.buf (by simp) (Drops.keep (Drops.keep (Drops.keep (Zt2 _))))))⟩
          ·
           have hcs : cntF f (k + 1) = cntF f k := by omega
           refine Zi1 (Zb1 (Zi (Zd ?_)))
           refine Zc (Zh2 rfl rfl (by omega) ?_)
           refine Zc (Zl rfl (Za (Zi ?_)))
           exact ⟨k + 1, (by (try simp only []); omega), (by omega), ⟨rfl, rfl, rfl, rfl, rfl, rfl, rfl, rfl, rfl, (by rw [hcs]; rfl), rfl, rfl, rfl, trivial⟩, (Drops.keep (Drops.buf (by simp) (Drops.keep (Drops.keep (Drops.keep (Zt2 _))))))⟩
        ·
         have hx78 : ¬ x ≥ 0 := of_decide_eq_false hq78
         have hc2 := cnt_skip hxg h0 (by omega) hx78
         refine Zk1 hq78 ?_
         refine Zk1 hq78 ?_
         refine Zk1 hq78 ?_
         refine Zc (Zt1 rfl hq78 rfl ?_)
         refine Za (Zi ?_)
         refine Zq1 rfl rfl ?_
         refine Zi1 (Zi (Zb (Zd (Zc (Zl rfl (Zc (Zj1 rfl rfl rfl (Za (Zi ?_)))))))))
         refine Zn1 rfl (fun h84 => ?_) (fun h84 => ?_)
         ·
          have hcs : ((cntF f (k + 1) : Nat) : Int) = (cntF f k : Int) + 1 := by omega
          refine Zd (Zc (Zl rfl ?_))
          refine Zc (Zh2 rfl rfl (by omega) ?_)
          refine Zc (Zk rfl (Za (Zb1 (Zi (Zd ?_)))))
          refine Zc (Zh2 rfl rfl (by omega) ?_)
          refine Zc (Zl rfl (Za (Zi ?_)))
          exact ⟨k + 1, (by (try simp only []); omega), (by omega), ⟨rfl, rfl, rfl, rfl, rfl, rfl, rfl, rfl, rfl, (by rw [hcs]; rfl), rfl, rfl, rfl, trivial⟩, (Drops.keep (Drops.buf (by simp) (Drops.keep (Drops.keep (Drops.keep (Zt2 _))))))⟩
         ·
          have hcs : cntF f (k + 1) = cntF f k := by omega
          refine Zi1 (Zb1 (Zi (Zd ?_)))
          refine Zc (Zh2 rfl rfl (by omega) ?_)
          refine Zc (Zl rfl (Za (Zi ?_)))
          exact ⟨k + 1, (by (try simp only []); omega), (by omega), ⟨rfl, rfl, rfl, rfl, rfl, rfl, rfl, rfl, rfl, (by rw [hcs]; rfl), rfl, rfl, rfl, trivial⟩, (Drops.keep (Drops.buf (by simp) (Drops.keep (Drops.keep (Drops.keep (Zt2 _))))))⟩
       ·
        refine Zt (Ze1 (Ze1 (Zc1 (Zi (Zd (Zc (Zj VT.fa35_0 rfl (Zc (Zu 2 VT.ty33 rfl rfl rfl (Zc (Zv 0 VT.ty24 rfl rfl rfl ?_)))))))))))
        refine Zc (Zk3 [.tmp 90] VT.sl33 rfl rfl rfl rfl rfl ?_)
        refine Zc (Zi3 1 _ VT.sl33 rfl rfl rfl (by simp; omega) (by simp; omega) (fun t92 => ?_))
        refine Zc (Zj VT.fa35_0 rfl (Zc (Zy 2 VT.ty33 rfl rfl rfl rfl rfl (Za (Zb1 (Zi (Zd ?_)))))))
        refine Zc (Zh2 rfl rfl (by omega) ?_)
        refine Zc (Zl rfl (Za (Zi ?_)))
        exact ⟨(i + 1, t92), (by (try simp only []); omega), (by omega), ⟨rfl, rfl, rfl, rfl, rfl, rfl, rfl, trivial⟩, (Drops.drop (Drops.buf (by simp; omega) (Drops.keepE (congrArg (fun l => Own.cells g6 35 [.sl 2 (some t92) l, .int u.main]) (by rw [take_snoc hf, List.map_append]; rfl)) (Drops.keep (Drops.keep (Zt2 _))))))⟩
  ·
   have hie : i = u.fns.length := by omega
   subst hie
   have hst : V.le (.sl 2 (some tok) ((u.fns.take u.fns.length).map fun f => funcV (pruneF f))) (funcsX (pruneU u).fns) := by rw [List.take_length]; show V.le _ (.sl 2 none ((u.fns.map pruneF).map funcV)); rw [List.map_map]; exact V.le.strip
   refine Zt (Ze1 (Ze1 (Zc1 (Zi ?_))))
   refine VW_cells 1 (ls' := [funcsX (pruneU u).fns, .int u.main]) rfl ⟨hst, rfl, V.le.refl _, rfl, trivial⟩ ?_
   refine Zb (Zd (Zc (Zv 1 VT.ty35 rfl rfl rfl ?_)))
   refine Zc (Zu2 (Zx1 [.tmp 96, .const (.int .i64 (1500))] rfl rfl VT.en11 (Run_c (pruneU u) 1500) ⟨rfl, rfl⟩) ((V.le.of_eq (by rw [hrun, hx0]) : V.le _ (.tup [resultV (runF u 1500).1, .int (runF u 1500).2.1, .int 0]))) ?_)
   refine Zc (Zl rfl (Zc (Zg2 rfl rfl (Zc (Zg2 rfl rfl (Zc (Zg2 rfl rfl ?_)))))))
   refine Zc (Zb2 VT.zr38 _ rfl rfl (fun g16 => ?_))
   refine Zc (Zx 0 VT.ty38 rfl rfl rfl rfl rfl (Zc (Zk rfl (Zc (Zk rfl (Za (Zi (Zb (Zd (Zc (Zl rfl (Zc (Zj1 rfl rfl rfl (Zc (Zl rfl ?_)))))))))))))))
   refine Zj2 (q := 103) rfl (fun hq103 => ?_) (fun hq103 => ?_)
   ·
    refine Zc (Zl rfl ?_) (Zy1 hq103)
    refine Zc (Zl rfl ?_) (Zy1 hq103)
    refine Zc (Zj1 rfl rfl rfl ?_) (Zy1 hq103)
    refine Zc (Zs1 rfl hq103 rfl ?_)
    refine Zc (Zl rfl ?_)
    refine Zj2 (q := 108) rfl (fun hq108 => ?_) (fun hq108 => ?_)
    ·
     refine Zc (Zv 3 VT.ty38 rfl rfl rfl ?_) (Zy1 hq108)
     refine Zc (Zv 0 VT.ty38 rfl rfl rfl ?_) (Zy1 hq108)
     refine Zc (Zx1 [.tmp 109, .tmp 110] rfl rfl VT.en14 (SameResult_c (runF u 1500).1 (runF u 1500).1) ?_) (Zy1 hq108)
     refine Zc (Zs1 rfl hq108 rfl ?_)
     refine Zc (Zk rfl (Za (Zi (Zf1 ?_))))
     refine Zg1 rfl (.tmp rfl) ?_
     first | rfl | exact congrArg V.bool (sameOut_iff.2 rfl)
    · exact absurd hq108 (by simp)
   · exact absurd hq103 (by decide)
end Go.Proofs.Ytimmnbdajflgmaa.X29
