import Derived.Test.YtimmnbdajflgmaaVT
import Derived.Test.YtimmnbdajflgmaaS2
import Derived.Test.YtimmnbdajflgmaaVM
import Derived.Test.YtimmnbdajflgmaaDZ
import Derived.Test.YtimmnbdajflgmaaXS
import Derived.Test.YtimmnbdajflgmaaX1
import Derived.Test.YtimmnbdajflgmaaX2
import Derived.Test.YtimmnbdajflgmaaX3
import Derived.Test.YtimmnbdajflgmaaX4
import Derived.Test.YtimmnbdajflgmaaX5
import Derived.Test.YtimmnbdajflgmaaX6
import Derived.Test.YtimmnbdajflgmaaX7
import Derived.Test.YtimmnbdajflgmaaX8
import Derived.Test.YtimmnbdajflgmaaX9
import Derived.Test.YtimmnbdajflgmaaX10
import Derived.Test.YtimmnbdajflgmaaXW
import Derived.Test.YtimmnbdajflgmaaX12
import Derived.Test.YtimmnbdajflgmaaX13
import Derived.Test.YtimmnbdajflgmaaX14
import Derived.Test.YtimmnbdajflgmaaX16
import Derived.Test.YtimmnbdajflgmaaX20
import Derived.Test.YtimmnbdajflgmaaX25
import Derived.Test.YtimmnbdajflgmaaX26
set_option linter.unusedVariables false
set_option linter.unusedSimpArgs false
namespace Go.Proofs.Ytimmnbdajflgmaa.X28
open Go.VL Go.SM Go.Proofs.Ytimmnbdajflgmaa Go.Proofs.Ytimmnbdajflgmaa.XS Go.Proofs.Ytimmnbdajflgmaa.X1 Go.Proofs.Ytimmnbdajflgmaa.X2 Go.Proofs.Ytimmnbdajflgmaa.X3 Go.Proofs.Ytimmnbdajflgmaa.X4 Go.Proofs.Ytimmnbdajflgmaa.X5 Go.Proofs.Ytimmnbdajflgmaa.X6 Go.Proofs.Ytimmnbdajflgmaa.X7 Go.Proofs.Ytimmnbdajflgmaa.X8 Go.Proofs.Ytimmnbdajflgmaa.X9 Go.Proofs.Ytimmnbdajflgmaa.X10 Go.Proofs.Ytimmnbdajflgmaa.XW Go.Proofs.Ytimmnbdajflgmaa.X12 Go.Proofs.Ytimmnbdajflgmaa.X13 Go.Proofs.Ytimmnbdajflgmaa.X14 Go.Proofs.Ytimmnbdajflgmaa.X16 Go.Proofs.Ytimmnbdajflgmaa.X20 Go.Proofs.Ytimmnbdajflgmaa.X25 Go.Proofs.Ytimmnbdajflgmaa.X26
theorem setAt_get {s : Sets} {k : Nat} {o : Option (List Bool)} (h : s[k]? = some o) : setAt s k = o.getD [] := by rw [setAt, h]; rfl
theorem same_T {a b : List Int} (h : a = b) : sameI a b = true := by
  subst h
  simp [sameI]
theorem live_c0 {f : SFunc} (h : funcF f = 0) : VPure Try.prog 16 [funcV f] (.tup [.sl 1 none ((liveZ f).first.map lstV), .sl 1 none ((liveZ f).behind.map lstV), .int 0]) := by
  have h1 := Live_c f
  rwa [liveX, if_pos h] at h1
theorem live_rows {f : SFunc} (h0 : funcF f = 0) {k : Nat} (hk : k < f.blocks.length) : gI (atF f) k = -1 ∨ gI (atF f) k = (rk f k : Nat) ∧ ∃ o p q r, (liveZ f).first[k]? = some o ∧ (liveZ (pruneF f)).first[rk f k]? = some p ∧ (liveZ f).behind[k]? = some q ∧ (liveZ (pruneF f)).behind[rk f k]? = some r ∧
    listF 0 (o.getD []) = listF 0 (p.getD []) ∧ listF 0 (q.getD []) = listF 0 (r.getD []) ∧ rk f k < (pruneF f).blocks.length := by
  have g0 := prune_ok h0
  have a1 := (many_ok (func_ok h0)).2.2.2
  have a2 := (many_ok (func_ok g0)).2.2.2
  refine (live_law h0 a1 a2 hk).imp id fun ⟨h1, h2, h3, h4⟩ => ⟨h1, ?_⟩
  have l1 := live_len h0
  have l2 := live_len g0
  obtain ⟨o, ho⟩ := get_of_lt (liveZ f).first k (by omega)
  obtain ⟨p, hp⟩ := get_of_lt (liveZ (pruneF f)).first (rk f k) (by omega)
  obtain ⟨q, hq⟩ := get_of_lt (liveZ f).behind k (by omega)
  obtain ⟨r, hr⟩ := get_of_lt (liveZ (pruneF f)).behind (rk f k) (by omega)
  refine ⟨o, p, q, r, ho, hp, hq, hr, ?_, ?_, h2⟩
  · rw [← setAt_get ho, ← setAt_get hp]
    exact h3
  · rw [← setAt_get hq, ← setAt_get hr]
    exact h4
open Go.VL renaming VOps_nil → Za, VW_seq → Zb, VW_region → Zd, Needs_nil → Ze, want_of → Zg, Then_n → Zi, V_fieldAddr → Zj, V_assign → Zk, V_move → Zl, eqRes → Zm, vopT → Zn, good0 → Zq, skip_of → Zr, VW_block → Zs, VW_exit → Zt, V_load → Zu, V_load_agg → Zv, V_store_agg → Zx, V_indexAddr → Zz, InBlock_n → Zb1, InBlock_hit → Zc1, Then_r → Zd1, Then_e → Ze1, VW_ret → Zf1, VRet_one → Zg1, VW_skip → Zi1, V_bin → Zj1, VW_condNe → Zm1, VW_condP → Zn1, VW_condN → Zo1, VW_condF → Zq1, V_pickT → Zs1, V_pickF → Zt1, V_callP → Zx1, V_load_ep → Zz1, V_alloc → Zb2, V_box → Zc2, V_lenN → Zd2, V_extract → Zg2, V_add → Zh2, VW_loopF → Zi2, VOps_split → Zj2, V_not → Zl2, evs_cons → Zp2, evs_nil → Zq2, VOp_as → Zu2, vopF → Zy2, vopU → Zz2, epRes → Zb3, epE → Zc3
set_option maxRecDepth 100000 in
set_option maxHeartbeats 16000000 in
theorem livePrunes_c (f : SFunc) : VPure Try.prog 6 [funcV f] (.bool true) := by
 refine V_start (nt := 115) Try.func6 rfl rfl rfl ?_
 refine Zb (Zd ?_)
 refine Zc (Zc2 rfl rfl (fun g1 => ?_))
 refine Zc (Zk rfl (Za (Zi (Zb (Zb (Zd ?_))))))
 refine Zc (Zx1 [] rfl rfl VT.en7 (works_c) ?_)
 refine Zc (Zl2 rfl (Za (Zi ?_)))
 refine Zq1 rfl (rfl) ?_
 refine Zi1 (Zi (Zb (Zd (Zc (Zv 0 VT.ty24 rfl rfl rfl ?_)))))
 by_cases h0 : funcF f = 0
 ·
  have hok := func_ok h0
  have g0 := prune_ok h0
  have hal := at_len f
  obtain ⟨hfl, hbl, h128, hfs, hbs⟩ := live_len h0
  obtain ⟨gfl, gbl, g128, gfs, gbs⟩ := live_len g0
  refine Zc (Zx1 [.tmp 17] rfl rfl VT.en12 (Prune_c0 h0) ?_)
  refine Zc (Zl rfl (Zc (Zg2 rfl rfl (Zc (Zg2 rfl rfl (Zc (Zg2 rfl rfl ?_)))))))
  refine Zc (Zb2 VT.zr24 _ rfl rfl (fun g3 => ?_))
  refine Zc (Zx 0 VT.ty24 rfl rfl rfl rfl rfl (Zc (Zk rfl (Zc (Zk rfl (Za (Zi (Zb (Zb (Zd (Zc (Zl rfl (Zc (Zj1 rfl rfl rfl (Za (Zi ?_))))))))))))))))
  refine Zm1 rfl (fun h23 => ?_) (fun h23 => ?_)
  · exact absurd rfl h23
  ·
   refine Zi1 (Zi (Zb (Zd (Zc (Zv 1 VT.ty24 rfl rfl rfl ?_)))))
   refine Zc (Zx1 [.tmp 28] rfl rfl VT.en16 (live_c0 h0) ?_)
   refine Zc (Zl rfl (Zc (Zg2 rfl rfl (Zc (Zg2 rfl rfl (Zc (Zg2 rfl rfl (Zc (Zk rfl (Zc (Zk rfl (Zc (Zk rfl (Za (Zi (Zb (Zd (Zc (Zv 0 VT.ty24 rfl rfl rfl ?_)))))))))))))))))))
   refine Zc (Zx1 [.tmp 34] rfl rfl VT.en16 (live_c0 (prune_ok h0)) ?_)
   refine Zc (Zl rfl (Zc (Zg2 rfl rfl (Zc (Zg2 rfl rfl (Zc (Zg2 rfl rfl (Zc (Zk rfl (Zc (Zk rfl (Zc (Zk rfl (Za (Zi (Zb (Zb (Zd (Zc (Zl rfl ?_))))))))))))))))))))
   refine Zc (Zj1 rfl rfl rfl (Zc (Zl rfl ?_)))
   refine Zj2 (q := 41) rfl (fun hq41 => ?_) (fun hq41 => ?_)
   · exact absurd hq41 (by decide)
   ·
    refine Zc (Zl rfl ?_) (Zy0 hq41)
    refine Zc (Zj1 rfl rfl rfl ?_) (Zy0 hq41)
    refine Zc (Zt1 rfl hq41 rfl ?_)
    refine Zc (Zl rfl ?_)
    refine Zj2 (q := 45) rfl (fun hq45 => ?_) (fun hq45 => ?_)
    · exact absurd hq45 (by decide)
    ·
     refine Zc (Zl rfl ?_) (Zy0 hq45)
     refine Zc (Zd2 (n := (liveZ f).first.length) Try.underlying48 rfl (by simp) (fun hl47 => ?_)) (Zy0 hq45)
     refine Zc (Zl rfl ?_) (Zy0 hq45)
     refine Zc (Zd2 (n := (atF f).length) Try.underlying36 rfl (by simp) (fun hl49 => ?_)) (Zy0 hq45)
     refine Zc (Zj1 rfl rfl rfl ?_) (Zy0 hq45)
     refine Zc (Zt1 rfl hq45 rfl ?_)
     refine Zc (Zl rfl ?_)
     refine Zj2 (q := 52) rfl (fun hq52 => ?_) (fun hq52 => ?_)
     · exact absurd hq52 (by simp [hfl, hal])
     ·
      refine Zc (Zl rfl ?_) (Zy0 hq52)
      refine Zc (Zd2 (n := (liveZ f).behind.length) Try.underlying48 rfl (by simp) (fun hl54 => ?_)) (Zy0 hq52)
      refine Zc (Zl rfl ?_) (Zy0 hq52)
      refine Zc (Zd2 (n := (atF f).length) Try.underlying36 rfl (by simp) (fun hl56 => ?_)) (Zy0 hq52)
      refine Zc (Zj1 rfl rfl rfl ?_) (Zy0 hq52)
      refine Zc (Zt1 rfl hq52 rfl ?_)
      refine Zc (Zl rfl ?_)
      refine Zj2 (q := 59) rfl (fun hq59 => ?_) (fun hq59 => ?_)
      · exact absurd hq59 (by simp [hbl, hal])
      ·
       refine Zc (Zl rfl ?_) (Zy0 hq59)
       refine Zc (Zd2 (n := (liveZ (pruneF f)).first.length) Try.underlying48 rfl (by simp) (fun hl61 => ?_)) (Zy0 hq59)
       refine Zc (Zj VT.fa24_1 rfl ?_) (Zy0 hq59)
       refine Zc (Zu 0 VT.ty22 rfl rfl rfl ?_) (Zy0 hq59)
       refine Zc (Zd2 (n := (pruneF f).blocks.length) Try.underlying22 rfl (by simp) (fun hl64 => ?_)) (Zy0 hq59)
       refine Zc (Zj1 rfl rfl rfl ?_) (Zy0 hq59)
       refine Zc (Zt1 rfl hq59 rfl ?_)
       refine Zc (Zl rfl ?_)
       refine Zj2 (q := 67) rfl (fun hq67 => ?_) (fun hq67 => ?_)
       · exact absurd hq67 (by simp [gfl])
       ·
        refine Zc (Zl rfl ?_) (Zy0 hq67)
        refine Zc (Zd2 (n := (liveZ (pruneF f)).behind.length) Try.underlying48 rfl (by simp) (fun hl69 => ?_)) (Zy0 hq67)
        refine Zc (Zj VT.fa24_1 rfl ?_) (Zy0 hq67)
        refine Zc (Zu 0 VT.ty22 rfl rfl rfl ?_) (Zy0 hq67)
        refine Zc (Zd2 (n := (pruneF f).blocks.length) Try.underlying22 rfl (by simp) (fun hl72 => ?_)) (Zy0 hq67)
        refine Zc (Zj1 rfl rfl rfl ?_) (Zy0 hq67)
        refine Zc (Zt1 rfl hq67 rfl ?_)
        refine Za (Zi ?_)
        refine Zm1 rfl (fun h74 => ?_) (fun h74 => ?_)
        · exact absurd (by rw [gbl]) h74
        ·
         refine Zi1 (Zi (Zb (Zb (Zd (Zc (Zl rfl ?_))))))
         refine Zc (Zd2 (n := (atF f).length) Try.underlying36 rfl (by simp) (fun hl76 => ?_))
         refine Zc (Zl rfl (Za (Zi (Zs ?_))))
         refine Zi2 (ι := Nat) (fun k => (atF f).length - k) (fun k => [(4, some (intsX (atF f))), (6, some (.sl 1 none ((liveZ f).first.map lstV))), (7, some (.sl 1 none ((liveZ f).behind.map lstV))), (9, some (.sl 1 none ((liveZ (pruneF f)).first.map lstV))), (10, some (.sl 1 none ((liveZ (pruneF f)).behind.map lstV))), (75, some (intsX (atF f))), (76, some (.int (atF f).length)), (77, some (.int k))]) (fun k => []) (fun k => k ≤ (atF f).length) 0 (Nat.zero_le _) ⟨rfl, rfl, rfl, rfl, rfl, rfl, rfl, rfl, trivial⟩ (Drops.nil _) ?_
         rintro k hk
         change k ≤ (atF f).length at hk
         refine Zb (Zd (Zc (Zj1 rfl rfl rfl (Za (Zi (Zb ?_))))))
         refine Zn1 rfl (fun h78 => ?_) (fun h78 => ?_)
         ·
          have hlaw := live_rows h0 (k := k) (by omega)
          have hgl : ((liveZ (pruneF f)).first.length : Int) = (pruneF f).blocks.length := by rw [gfl]
          rcases hlaw with hneg | ⟨hn, o, p, q, r, ho, hp, hq, hr, hs1, hs2, hlt⟩
          ·
           have hq86 : decide (gI (atF f) (k : Int) ≥ ((liveZ (pruneF f)).first.length : Int)) = false := decide_eq_false (by omega)
           have hq89 : decide (gI (atF f) (k : Int) ≥ 0) = false := decide_eq_false (by omega)
           refine Zi1 (Zi (Zb (Zs (Zb (Zd (Zc (Zl rfl ?_)))))))
           refine Zc (Zz (el := V.int (gI (atF f) (k : Int))) VT.sl36 rfl rfl (by omega) (get_int (at_get (by omega) (by omega))) (fun a80 => ?_))
           refine Zc (Zz1 VT.ty3 rfl rfl (Zc (Zk rfl (Zc (Zk rfl (Za (Zi (Zb ?_))))))))
           refine VW_drawR (G := Unit) [([], [13], []), ([], [9], []), ([1], [83], []), ([2, 1, 0], [82, 84], []), (dn 4, [85], []), (dn 5, [13, 86], []), (dn 6, [87, 86], []), (dn 7, [88, 86], []), (dn 8, [6, 89], []), (dn 8, [12, 89], []), (dn 10, [90, 91, 89], []), (dn 11, [92, 89], []), (dn 8, [9, 89], []), (dn 8, [13, 89], []), ([13, 12, 7, 6, 5, 4, 3, 2, 1, 0], [94, 95, 89], []), ([14, 13, 12, 7, 6, 5, 4, 3, 2, 1, 0], [96, 89], []), (dn 16, [93, 97, 89], []), (dn 17, [98, 89], []), (dn 18, [99, 89], []), (dn 19, [7, 100], []), (dn 19, [12, 100], []), (dn 21, [101, 102, 100], []), (dn 22, [103, 100], []), (dn 19, [10, 100], []), (dn 19, [13, 100], []), ([24, 23, 18, 17, 16, 15, 14, 13, 12, 11, 10, 9, 8, 7, 6, 5, 4, 3, 2, 1, 0], [105, 106, 100], []), ([25, 24, 23, 18, 17, 16, 15, 14, 13, 12, 11, 10, 9, 8, 7, 6, 5, 4, 3, 2, 1, 0], [107, 100], []), (dn 27, [104, 108, 100], []), (dn 28, [109, 100], []), (dn 29, [100, 110, 89], []), (dn 30, [89, 111, 86], []), (dn 31, [86, 112], [])] [] (constSt _) [113] [82, 83, 84, 85, 86, 87, 88, 89, 90, 91, 92, 93, 94, 95, 96, 97, 98, 99, 100, 101, 102, 103, 104, 105, 106, 107, 108, 109, 110, 111, 112, 113] rfl VT.mix ?_
           refine Zp (Zm _) (Zq (fun γ => Zf (fun _ h13 => Ze (Zn rfl (Zl h13 ⟨rfl, rfl⟩))))) ?_
           refine Zp (Zm _) (Zq (fun γ => Zf (fun _ h9 => Ze (Zn rfl (Zl h9 ⟨rfl, rfl⟩))))) ?_
           refine Zp (Zm _) (Zq (fun γ => Zw 1 0 rfl (fun _ h83 => Ze (Zn rfl (Zd2 (n := (liveZ (pruneF f)).first.length) Try.underlying48 h83 (by simp) (fun hl84 => ⟨rfl, rfl⟩)))))) ?_
           refine Zp (Zm _) (Zq (fun γ => Zw 0 2 rfl (fun _ h82 => Zw 2 0 rfl (fun _ h84 => Ze (Zn rfl (Zj1 h82 h84 rfl ⟨rfl, rfl⟩)))))) ?_
           refine Zp (Zm _) (Zq (fun γ => Zw 3 0 rfl (fun _ h85 => Ze (Zn rfl (Zl h85 ⟨rfl, rfl⟩))))) ?_
           refine Zp (Zm _) (Zq (fun γ => Zf (fun _ h13 => Zw 4 0 rfl (fun _ h86 => Ze (Zn (Zg rfl rfl h86 hq86) (Zl h13 ⟨rfl, rfl⟩)))))) ?_
           refine Zp (Zm _) (Zq (fun γ => Zw 5 0 rfl (fun _ h87 => Zw 4 1 rfl (fun _ h86 => Ze (Zn (Zg rfl rfl h86 hq86) (Zj1 h87 rfl rfl ⟨rfl, rfl⟩)))))) ?_
           refine Zp (Zm _) (Zq (fun γ => Zw 6 0 rfl (fun _ h88 => Zw 4 2 rfl (fun _ h86 => Ze (Zn (Zg rfl rfl h86 hq86) (Zl h88 ⟨rfl, rfl⟩)))))) ?_
           refine Zp (Zm _) (Zq (fun γ => Zf (fun _ h6 => Zw 7 0 rfl (fun _ h89 => Ze (Zy2 (Zr rfl rfl h89 hq89) ⟨rfl, rfl⟩))))) ?_
           refine Zp (Zm _) (Zq (fun γ => Zf (fun _ h12 => Zw 7 1 rfl (fun _ h89 => Ze (Zy2 (Zr rfl rfl h89 hq89) ⟨rfl, rfl⟩))))) ?_
           refine Zp (Zm _) (Zq (fun γ => Zw 8 1 rfl (fun _ h90 => Zw 9 0 rfl (fun _ h91 => Zw 7 2 rfl (fun _ h89 => Ze (Zy2 (Zr rfl rfl h89 hq89) ⟨rfl, rfl⟩)))))) ?_
           refine Zp (Zm _) (Zq (fun γ => Zw 10 0 rfl (fun _ h92 => Zw 7 3 rfl (fun _ h89 => Ze (Zy2 (Zr rfl rfl h89 hq89) ⟨rfl, rfl⟩))))) ?_
           refine Zp (Zm _) (Zq (fun γ => Zf (fun _ h9 => Zw 7 4 rfl (fun _ h89 => Ze (Zy2 (Zr rfl rfl h89 hq89) ⟨rfl, rfl⟩))))) ?_
           refine Zp (Zm _) (Zq (fun γ => Zf (fun _ h13 => Zw 7 5 rfl (fun _ h89 => Ze (Zy2 (Zr rfl rfl h89 hq89) ⟨rfl, rfl⟩))))) ?_
           refine Zp (Zm _) (Zq (fun γ => Zw 12 1 rfl (fun _ h94 => Zw 13 0 rfl (fun _ h95 => Zw 7 6 rfl (fun _ h89 => Ze (Zy2 (Zr rfl rfl h89 hq89) ⟨rfl, rfl⟩)))))) ?_
           refine Zp (Zm _) (Zq (fun γ => Zw 14 0 rfl (fun _ h96 => Zw 7 7 rfl (fun _ h89 => Ze (Zy2 (Zr rfl rfl h89 hq89) ⟨rfl, rfl⟩))))) ?_
           refine Zp (Zm _) (Zq (fun γ => Zw 11 4 rfl (fun _ h93 => Zw 15 0 rfl (fun _ h97 => Zw 7 8 rfl (fun _ h89 => Ze (Zy2 (Zr rfl rfl h89 hq89) ⟨rfl, rfl⟩)))))) ?_
           refine Zp (Zm _) (Zq (fun γ => Zw 16 0 rfl (fun _ h98 => Zw 7 9 rfl (fun _ h89 => Ze (Zy2 (Zr rfl rfl h89 hq89) ⟨rfl, rfl⟩))))) ?_
           refine Zp (Zm _) (Zq (fun γ => Zw 17 0 rfl (fun _ h99 => Zw 7 10 rfl (fun _ h89 => Ze (Zy2 (Zr rfl rfl h89 hq89) ⟨rfl, rfl⟩))))) ?_
           refine Zp (Zm _) (Zq (fun γ => Zf (fun _ h7 => Zw 18 0 rfl (fun _ h100 => Ze (Zz2 rfl rfl h100 ⟨rfl, rfl⟩))))) ?_
           refine Zp (Zm _) (Zq (fun γ => Zf (fun _ h12 => Zw 18 1 rfl (fun _ h100 => Ze (Zz2 rfl rfl h100 ⟨rfl, rfl⟩))))) ?_
           refine Zp (Zm _) (Zq (fun γ => Zw 19 1 rfl (fun _ h101 => Zw 20 0 rfl (fun _ h102 => Zw 18 2 rfl (fun _ h100 => Ze (Zz2 rfl rfl h100 ⟨rfl, rfl⟩)))))) ?_
           refine Zp (Zm _) (Zq (fun γ => Zw 21 0 rfl (fun _ h103 => Zw 18 3 rfl (fun _ h100 => Ze (Zz2 rfl rfl h100 ⟨rfl, rfl⟩))))) ?_
           refine Zp (Zm _) (Zq (fun γ => Zf (fun _ h10 => Zw 18 4 rfl (fun _ h100 => Ze (Zz2 rfl rfl h100 ⟨rfl, rfl⟩))))) ?_
           refine Zp (Zm _) (Zq (fun γ => Zf (fun _ h13 => Zw 18 5 rfl (fun _ h100 => Ze (Zz2 rfl rfl h100 ⟨rfl, rfl⟩))))) ?_
           refine Zp (Zm _) (Zq (fun γ => Zw 23 1 rfl (fun _ h105 => Zw 24 0 rfl (fun _ h106 => Zw 18 6 rfl (fun _ h100 => Ze (Zz2 rfl rfl h100 ⟨rfl, rfl⟩)))))) ?_
           refine Zp (Zm _) (Zq (fun γ => Zw 25 0 rfl (fun _ h107 => Zw 18 7 rfl (fun _ h100 => Ze (Zz2 rfl rfl h100 ⟨rfl, rfl⟩))))) ?_
           refine Zp (Zm _) (Zq (fun γ => Zw 22 4 rfl (fun _ h104 => Zw 26 0 rfl (fun _ h108 => Zw 18 8 rfl (fun _ h100 => Ze (Zz2 rfl rfl h100 ⟨rfl, rfl⟩)))))) ?_
           refine Zp (Zm _) (Zq (fun γ => Zw 27 0 rfl (fun _ h109 => Zw 18 9 rfl (fun _ h100 => Ze (Zz2 rfl rfl h100 ⟨rfl, rfl⟩))))) ?_
           refine Zp (Zm _) (Zq (fun γ => Zw 18 10 rfl (fun _ h100 => Zw 28 0 rfl (fun _ h110 => Zw 7 21 rfl (fun _ h89 => Ze (Zy2 (Zr rfl rfl h89 hq89) ⟨rfl, rfl⟩)))))) ?_
           refine Zp (Zm _) (Zq (fun γ => Zw 7 22 rfl (fun _ h89 => Zw 29 0 rfl (fun _ h111 => Zw 4 25 rfl (fun _ h86 => Ze (Zn (Zg rfl rfl h86 hq86) (Zt1 h89 hq89 rfl ⟨rfl, rfl⟩))))))) ?_
           refine Zp (Zm _) (Zq (fun γ => Zw 4 26 rfl (fun _ h86 => Zw 30 0 rfl (fun _ h112 => Ze (Zn rfl (Zt1 h86 hq86 h112 ⟨rfl, rfl⟩)))))) ?_
           refine DrawP_nil (fun γ => Zw 31 0 rfl (fun r113 h113 => Ze ?_))
           have e113 : r113 = some _ := h113
           subst e113
           clear h113
           refine Zi ?_
           refine Zq1 rfl rfl ?_
           refine Zi1 (Zb1 (Zi (Zd ?_)))
           refine Zc (Zh2 rfl rfl (by omega) ?_)
           refine Zc (Zl rfl (Za (Zi ?_)))
           exact ⟨k + 1, (by (try simp only []); omega), (by omega), ⟨rfl, rfl, rfl, rfl, rfl, rfl, rfl, rfl, trivial⟩, (Drops.nil _)⟩
          ·
           have hq86 : decide (gI (atF f) (k : Int) ≥ ((liveZ (pruneF f)).first.length : Int)) = false := decide_eq_false (by omega)
           have hq89 : decide (gI (atF f) (k : Int) ≥ 0) = true := decide_eq_true (by omega)
           have hq100 : (!sameI (listF 0 (o.getD [])) (listF 0 (p.getD []))) = false := by rw [same_T hs1]; rfl
           refine Zi1 (Zi (Zb (Zs (Zb (Zd (Zc (Zl rfl ?_)))))))
           refine Zc (Zz (el := V.int (gI (atF f) (k : Int))) VT.sl36 rfl rfl (by omega) (get_int (at_get (by omega) (by omega))) (fun a80 => ?_))
           refine Zc (Zz1 VT.ty3 rfl rfl (Zc (Zk rfl (Zc (Zk rfl (Za (Zi (Zb ?_))))))))
           refine VW_drawR (G := Unit) [([], [13], []), ([], [9], []), ([1], [83], []), ([2, 1, 0], [82, 84], []), (dn 4, [85], []), (dn 5, [13, 86], []), (dn 6, [87, 86], []), (dn 7, [88, 86], []), (dn 8, [6, 89], []), (dn 8, [12, 89], []), (dn 10, [90, 91, 89], []), (dn 11, [92, 89], []), (dn 8, [9, 89], []), (dn 8, [13, 89], []), ([13, 12, 7, 6, 5, 4, 3, 2, 1, 0], [94, 95, 89], []), ([14, 13, 12, 7, 6, 5, 4, 3, 2, 1, 0], [96, 89], []), (dn 16, [93, 97, 89], []), (dn 17, [98, 89], []), (dn 18, [99, 89], []), (dn 19, [7, 100], []), (dn 19, [12, 100], []), (dn 21, [101, 102, 100], []), (dn 22, [103, 100], []), (dn 19, [10, 100], []), (dn 19, [13, 100], []), ([24, 23, 18, 17, 16, 15, 14, 13, 12, 11, 10, 9, 8, 7, 6, 5, 4, 3, 2, 1, 0], [105, 106, 100], []), ([25, 24, 23, 18, 17, 16, 15, 14, 13, 12, 11, 10, 9, 8, 7, 6, 5, 4, 3, 2, 1, 0], [107, 100], []), (dn 27, [104, 108, 100], []), (dn 28, [109, 100], []), (dn 29, [100, 110, 89], []), (dn 30, [89, 111, 86], []), (dn 31, [86, 112], [])] [] (constSt _) [113] [82, 83, 84, 85, 86, 87, 88, 89, 90, 91, 92, 93, 94, 95, 96, 97, 98, 99, 100, 101, 102, 103, 104, 105, 106, 107, 108, 109, 110, 111, 112, 113] rfl VT.mix ?_
           refine Zp (Zm _) (Zq (fun γ => Zf (fun _ h13 => Ze (Zn rfl (Zl h13 ⟨rfl, rfl⟩))))) ?_
           refine Zp (Zm _) (Zq (fun γ => Zf (fun _ h9 => Ze (Zn rfl (Zl h9 ⟨rfl, rfl⟩))))) ?_
           refine Zp (Zm _) (Zq (fun γ => Zw 1 0 rfl (fun _ h83 => Ze (Zn rfl (Zd2 (n := (liveZ (pruneF f)).first.length) Try.underlying48 h83 (by simp) (fun hl84 => ⟨rfl, rfl⟩)))))) ?_
           refine Zp (Zm _) (Zq (fun γ => Zw 0 2 rfl (fun _ h82 => Zw 2 0 rfl (fun _ h84 => Ze (Zn rfl (Zj1 h82 h84 rfl ⟨rfl, rfl⟩)))))) ?_
           refine Zp (Zm _) (Zq (fun γ => Zw 3 0 rfl (fun _ h85 => Ze (Zn rfl (Zl h85 ⟨rfl, rfl⟩))))) ?_
           refine Zp (Zm _) (Zq (fun γ => Zf (fun _ h13 => Zw 4 0 rfl (fun _ h86 => Ze (Zn (Zg rfl rfl h86 hq86) (Zl h13 ⟨rfl, rfl⟩)))))) ?_
           refine Zp (Zm _) (Zq (fun γ => Zw 5 0 rfl (fun _ h87 => Zw 4 1 rfl (fun _ h86 => Ze (Zn (Zg rfl rfl h86 hq86) (Zj1 h87 rfl rfl ⟨rfl, rfl⟩)))))) ?_
           refine Zp (Zm _) (Zq (fun γ => Zw 6 0 rfl (fun _ h88 => Zw 4 2 rfl (fun _ h86 => Ze (Zn (Zg rfl rfl h86 hq86) (Zl h88 ⟨rfl, rfl⟩)))))) ?_
           refine Zp (Zm _) (Zq (fun γ => Zf (fun _ h6 => Zw 7 0 rfl (fun _ h89 => Ze (Zn (Zg rfl rfl h89 hq89) (Zl h6 ⟨rfl, rfl⟩)))))) ?_
           refine Zp (Zm _) (Zq (fun γ => Zf (fun _ h12 => Zw 7 1 rfl (fun _ h89 => Ze (Zn (Zg rfl rfl h89 hq89) (Zl h12 ⟨rfl, rfl⟩)))))) ?_
           refine Zp (Zb3 _) (Zq (fun γ => Zw 8 1 rfl (fun _ h90 => Zw 9 0 rfl (fun _ h91 => Zw 7 2 rfl (fun _ h89 => Ze (Zn (Zg rfl rfl h89 hq89) (Zz (el := lstV o) VT.sl48 h90 h91 (by omega) (get_mapS lstV ho) (fun a92 => ⟨⟨_, rfl⟩, rfl⟩)))))))) ?_
           refine Zp (Zm _) (Zq (fun γ => Zw 10 0 rfl (fun _ h92 => Zw 7 3 rfl (fun _ h89 => Ze (Zc3 h92 (fun a_92 e92 => Zn (Zg rfl rfl h89 hq89) (Zu2 (Zz1 VT.ty36 e92 rfl ⟨rfl, rfl⟩) ((V.le.refl _ : V.le _ (intsX (listF 0 (o.getD []))))) ⟨rfl, rfl⟩))))))) ?_
           refine Zp (Zm _) (Zq (fun γ => Zf (fun _ h9 => Zw 7 4 rfl (fun _ h89 => Ze (Zn (Zg rfl rfl h89 hq89) (Zl h9 ⟨rfl, rfl⟩)))))) ?_
           refine Zp (Zm _) (Zq (fun γ => Zf (fun _ h13 => Zw 7 5 rfl (fun _ h89 => Ze (Zn (Zg rfl rfl h89 hq89) (Zl h13 ⟨rfl, rfl⟩)))))) ?_
           refine Zp (Zb3 _) (Zq (fun γ => Zw 12 1 rfl (fun _ h94 => Zw 13 0 rfl (fun _ h95 => Zw 7 6 rfl (fun _ h89 => Ze (Zn (Zg rfl rfl h89 hq89) (Zz (el := lstV p) VT.sl48 h94 h95 (by omega) (by rw [hn, Int.toNat_natCast]; exact get_mapS lstV hp) (fun a96 => ⟨⟨_, rfl⟩, rfl⟩)))))))) ?_
           refine Zp (Zm _) (Zq (fun γ => Zw 14 0 rfl (fun _ h96 => Zw 7 7 rfl (fun _ h89 => Ze (Zc3 h96 (fun a_96 e96 => Zn (Zg rfl rfl h89 hq89) (Zu2 (Zz1 VT.ty36 e96 rfl ⟨rfl, rfl⟩) ((V.le.refl _ : V.le _ (intsX (listF 0 (p.getD []))))) ⟨rfl, rfl⟩))))))) ?_
           refine Zp (Zm _) (Zq (fun γ => Zw 11 4 rfl (fun _ h93 => Zw 15 0 rfl (fun _ h97 => Zw 7 8 rfl (fun _ h89 => Ze (Zn (Zg rfl rfl h89 hq89) (Zx1 [.tmp 93, .tmp 97] rfl (Zp2 h93 (Zp2 h97 Zq2)) VT.en17 (SameInts_c (listF 0 (o.getD [])) (listF 0 (p.getD [])) none none) ⟨rfl, rfl⟩))))))) ?_
           refine Zp (Zm _) (Zq (fun γ => Zw 16 0 rfl (fun _ h98 => Zw 7 9 rfl (fun _ h89 => Ze (Zn (Zg rfl rfl h89 hq89) (Zl2 h98 ⟨rfl, rfl⟩)))))) ?_
           refine Zp (Zm _) (Zq (fun γ => Zw 17 0 rfl (fun _ h99 => Zw 7 10 rfl (fun _ h89 => Ze (Zn (Zg rfl rfl h89 hq89) (Zl h99 ⟨rfl, rfl⟩)))))) ?_
           refine Zp (Zm _) (Zq (fun γ => Zf (fun _ h7 => Zw 18 0 rfl (fun _ h100 => Ze (Zn (Zg rfl rfl h100 hq100) (Zl h7 ⟨rfl, rfl⟩)))))) ?_
           refine Zp (Zm _) (Zq (fun γ => Zf (fun _ h12 => Zw 18 1 rfl (fun _ h100 => Ze (Zn (Zg rfl rfl h100 hq100) (Zl h12 ⟨rfl, rfl⟩)))))) ?_
           refine Zp (Zb3 _) (Zq (fun γ => Zw 19 1 rfl (fun _ h101 => Zw 20 0 rfl (fun _ h102 => Zw 18 2 rfl (fun _ h100 => Ze (Zn (Zg rfl rfl h100 hq100) (Zz (el := lstV q) VT.sl48 h101 h102 (by omega) (get_mapS lstV hq) (fun a103 => ⟨⟨_, rfl⟩, rfl⟩)))))))) ?_
           refine Zp (Zm _) (Zq (fun γ => Zw 21 0 rfl (fun _ h103 => Zw 18 3 rfl (fun _ h100 => Ze (Zc3 h103 (fun a_103 e103 => Zn (Zg rfl rfl h100 hq100) (Zu2 (Zz1 VT.ty36 e103 rfl ⟨rfl, rfl⟩) ((V.le.refl _ : V.le _ (intsX (listF 0 (q.getD []))))) ⟨rfl, rfl⟩))))))) ?_
           refine Zp (Zm _) (Zq (fun γ => Zf (fun _ h10 => Zw 18 4 rfl (fun _ h100 => Ze (Zn (Zg rfl rfl h100 hq100) (Zl h10 ⟨rfl, rfl⟩)))))) ?_
           refine Zp (Zm _) (Zq (fun γ => Zf (fun _ h13 => Zw 18 5 rfl (fun _ h100 => Ze (Zn (Zg rfl rfl h100 hq100) (Zl h13 ⟨rfl, rfl⟩)))))) ?_
           refine Zp (Zb3 _) (Zq (fun γ => Zw 23 1 rfl (fun _ h105 => Zw 24 0 rfl (fun _ h106 => Zw 18 6 rfl (fun _ h100 => Ze (Zn (Zg rfl rfl h100 hq100) (Zz (el := lstV r) VT.sl48 h105 h106 (by omega) (by rw [hn, Int.toNat_natCast]; exact get_mapS lstV hr) (fun a107 => ⟨⟨_, rfl⟩, rfl⟩)))))))) ?_
           refine Zp (Zm _) (Zq (fun γ => Zw 25 0 rfl (fun _ h107 => Zw 18 7 rfl (fun _ h100 => Ze (Zc3 h107 (fun a_107 e107 => Zn (Zg rfl rfl h100 hq100) (Zu2 (Zz1 VT.ty36 e107 rfl ⟨rfl, rfl⟩) ((V.le.refl _ : V.le _ (intsX (listF 0 (r.getD []))))) ⟨rfl, rfl⟩))))))) ?_
           refine Zp (Zm _) (Zq (fun γ => Zw 22 4 rfl (fun _ h104 => Zw 26 0 rfl (fun _ h108 => Zw 18 8 rfl (fun _ h100 => Ze (Zn (Zg rfl rfl h100 hq100) (Zx1 [.tmp 104, .tmp 108] rfl (Zp2 h104 (Zp2 h108 Zq2)) VT.en17 (SameInts_c (listF 0 (q.getD [])) (listF 0 (r.getD [])) none none) ⟨rfl, rfl⟩))))))) ?_
           refine Zp (Zm _) (Zq (fun γ => Zw 27 0 rfl (fun _ h109 => Zw 18 9 rfl (fun _ h100 => Ze (Zn (Zg rfl rfl h100 hq100) (Zl2 h109 ⟨rfl, rfl⟩)))))) ?_
           refine Zp (Zm _) (Zq (fun γ => Zw 18 10 rfl (fun _ h100 => Zw 28 0 rfl (fun _ h110 => Zw 7 21 rfl (fun _ h89 => Ze (Zn (Zg rfl rfl h89 hq89) (Zt1 h100 hq100 h110 ⟨rfl, rfl⟩))))))) ?_
           refine Zp (Zm _) (Zq (fun γ => Zw 7 22 rfl (fun _ h89 => Zw 29 0 rfl (fun _ h111 => Zw 4 25 rfl (fun _ h86 => Ze (Zn (Zg rfl rfl h86 hq86) (Zs1 h89 hq89 h111 ⟨rfl, rfl⟩))))))) ?_
           refine Zp (Zm _) (Zq (fun γ => Zw 4 26 rfl (fun _ h86 => Zw 30 0 rfl (fun _ h112 => Ze (Zn rfl (Zt1 h86 hq86 h112 ⟨rfl, rfl⟩)))))) ?_
           refine DrawP_nil (fun γ => Zw 31 0 rfl (fun r113 h113 => Ze ?_))
           have e113 : r113 = some _ := h113
           subst e113
           clear h113
           refine Zi ?_
           refine Zo1 rfl (fun h113 => ?_) (fun h113 => ?_)
           · rw [same_T hs2] at h113; cases h113
           ·
            refine Zi1 (Zb1 (Zi (Zd ?_)))
            refine Zc (Zh2 rfl rfl (by omega) ?_)
            refine Zc (Zl rfl (Za (Zi ?_)))
            exact ⟨k + 1, (by (try simp only []); omega), (by omega), ⟨rfl, rfl, rfl, rfl, rfl, rfl, rfl, rfl, trivial⟩, (Drops.nil _)⟩
         ·
          refine Zt (Ze1 (Ze1 (Zc1 (Zi (Zb (Zd (Zc (Zk rfl (Za (Zi (Zf1 ?_)))))))))))
          refine Zg1 rfl (.tmp rfl) ?_
          rfl
 ·
  refine Zc (Zx1 [.tmp 17] rfl rfl VT.en12 (Prune_e h0) ?_)
  refine Zc (Zl rfl (Zc (Zg2 rfl rfl (Zc (Zg2 rfl rfl (Zc (Zg2 rfl rfl ?_)))))))
  refine Zc (Zb2 VT.zr24 _ rfl rfl (fun g3 => ?_))
  refine Zc (Zx 0 VT.ty24 rfl rfl rfl rfl rfl (Zc (Zk rfl (Zc (Zk rfl (Za (Zi (Zb (Zb (Zd (Zc (Zl rfl (Zc (Zj1 rfl rfl rfl (Za (Zi ?_))))))))))))))))
  refine Zm1 rfl (fun h23 => ?_) (fun h23 => ?_)
  ·
   refine Zb (Zd (Zc (Zl rfl ?_)))
   refine Zc (Zd2 (n := 0) Try.underlying36 rfl (by simp) (fun hl25 => ?_))
   refine Zc (Zj1 rfl rfl rfl (Zc (Zk rfl (Za (Zi (Zf1 ?_))))))
   refine Zd1 (Zg1 rfl (.tmp rfl) ?_)
   rfl
  · exact absurd h23 h0
end Go.Proofs.Ytimmnbdajflgmaa.X28
