import Derived.Test.YtaldllbomhgciaaVT
import Derived.Test.YtaldllbomhgciaaS2
import Derived.Test.YtaldllbomhgciaaVM
import Derived.Test.YtaldllbomhgciaaDZ
import Derived.Test.YtaldllbomhgciaaXS
import Derived.Test.YtaldllbomhgciaaX1
import Derived.Test.YtaldllbomhgciaaX2
import Derived.Test.YtaldllbomhgciaaX3
import Derived.Test.YtaldllbomhgciaaX4
import Derived.Test.YtaldllbomhgciaaX5
import Derived.Test.YtaldllbomhgciaaX6
import Derived.Test.YtaldllbomhgciaaX7
import Derived.Test.YtaldllbomhgciaaX8
import Derived.Test.YtaldllbomhgciaaX9
import Derived.Test.YtaldllbomhgciaaX10
import Derived.Test.YtaldllbomhgciaaX12
import Derived.Test.YtaldllbomhgciaaX13
import Derived.Test.YtaldllbomhgciaaX14
import Derived.Test.YtaldllbomhgciaaX20
import Derived.Test.YtaldllbomhgciaaX25
import Derived.Test.YtaldllbomhgciaaX26
import Derived.Test.YtaldllbomhgciaaX30
set_option linter.unusedVariables false
set_option linter.unusedSimpArgs false
namespace Go.Proofs.Ytaldllbomhgciaa.X33
open Go.VL Go.SM Go.Proofs.Ytaldllbomhgciaa Go.Proofs.Ytaldllbomhgciaa.XS Go.Proofs.Ytaldllbomhgciaa.X1 Go.Proofs.Ytaldllbomhgciaa.X2 Go.Proofs.Ytaldllbomhgciaa.X3 Go.Proofs.Ytaldllbomhgciaa.X4 Go.Proofs.Ytaldllbomhgciaa.X5 Go.Proofs.Ytaldllbomhgciaa.X6 Go.Proofs.Ytaldllbomhgciaa.X7 Go.Proofs.Ytaldllbomhgciaa.X8 Go.Proofs.Ytaldllbomhgciaa.X9 Go.Proofs.Ytaldllbomhgciaa.X10 Go.Proofs.Ytaldllbomhgciaa.X12 Go.Proofs.Ytaldllbomhgciaa.X13 Go.Proofs.Ytaldllbomhgciaa.X14 Go.Proofs.Ytaldllbomhgciaa.X20 Go.Proofs.Ytaldllbomhgciaa.X25 Go.Proofs.Ytaldllbomhgciaa.X26 Go.Proofs.Ytaldllbomhgciaa.X30
theorem same_S {a b : List Int} (h : a = b) : sameI a b = true := by
  subst h
  simp [sameI]
def SmallU (u : SUnit) : Prop := ∀ f ∈ u.fns, (splitF f).blocks.length ≤ 128
theorem fns_len {u : SUnit} (h : unitF u = 0) : u.fns.length ≤ 256 := by
  unfold unitF at h
  split at h
  · cases h
  · split at h
    · cases h
    · omega
theorem crit_no {bs : List SBlock} {b : SBlock} {e : SEdge} {P : List Int} (hc : critB bs b e = false) (hP : (predsF bs)[e.block.toNat]? = some P) (h1 : (b.term.to.length : Int) > 1) (h2 : (P.length : Int) > 1) : False := by
  rw [crit_3 hP (by omega) (by omega)] at hc
  cases hc
open Go.VL renaming VOps_nil → Za, VW_seq → Zb, VW_region → Zd, Needs_nil → Ze, want_of → Zg, Then_n → Zi, V_fieldAddr → Zj, V_assign → Zk, V_move → Zl, eqRes → Zm, vopT → Zn, goodS → Zo, good0 → Zq, skip_of → Zr, VW_block → Zs, VW_exit → Zt, V_load → Zu, V_load_agg → Zv, V_store_agg → Zx, V_store → Zy, V_indexAddr → Zz, InBlock_r → Za1, InBlock_n → Zb1, InBlock_hit → Zc1, Then_r → Zd1, Then_e → Ze1, VW_ret → Zf1, VRet_one → Zg1, VRet_many → Zh1, VW_skip → Zi1, V_bin → Zj1, VW_condNe → Zm1, VW_condP → Zn1, VW_condN → Zo1, VW_condT → Zp1, VW_condF → Zq1, V_pickT → Zs1, V_pickF → Zt1, V_fieldAddr_ep → Zw1, V_callP → Zx1, V_load_ep → Zz1, V_load_ep_agg → Za2, V_alloc → Zb2, V_box → Zc2, V_lenN → Zd2, V_build → Zf2, V_extract → Zg2, V_add → Zh2, VW_loopF → Zi2, VOps_split → Zj2, V_not → Zl2, goodA → Zm2, goodU1 → Zn2, evs_cons → Zp2, evs_nil → Zq2, Drops.refl → Zt2, VOp_as → Zu2, vopF → Zy2, anyRes → Za3, epRes → Zb3, epE → Zc3, V_appendN → Zi3, V_lit → Zk3, V_call → Zm3
set_option maxRecDepth 100000 in
theorem SameIns_c (i : SIns) : VPure Try.prog 23 [insV i, insV i] (.bool true) := by
 refine V_start (nt := 31) Try.func23 rfl rfl rfl ?_
 refine Zb (Zd ?_)
 refine Zc (Zc2 rfl rfl (fun g2 => ?_))
 refine Zc (Zc2 rfl rfl (fun g3 => ?_))
 refine Zc (Zk rfl (Za (Zi (Zb (Zd (Zc (Zj VT.fa65_0 rfl (Zc (Zu 1 VT.ty3 rfl rfl rfl (Zc (Zj VT.fa65_0 rfl (Zc (Zu 0 VT.ty3 rfl rfl rfl (Zc (Zj1 rfl rfl rfl (Zc (Zl rfl ?_)))))))))))))))))
 refine Zj2 (q := 10) rfl (fun hq10 => ?_) (fun hq10 => ?_)
 ·
  refine Zc (Zj VT.fa65_1 rfl ?_) (Zy1 hq10)
  refine Zc (Zu 1 VT.ty3 rfl rfl rfl ?_) (Zy1 hq10)
  refine Zc (Zj VT.fa65_1 rfl ?_) (Zy1 hq10)
  refine Zc (Zu 0 VT.ty3 rfl rfl rfl ?_) (Zy1 hq10)
  refine Zc (Zj1 rfl rfl rfl ?_) (Zy1 hq10)
  refine Zc (Zs1 rfl hq10 rfl ?_)
  refine Zc (Zl rfl ?_)
  refine Zj2 (q := 17) rfl (fun hq17 => ?_) (fun hq17 => ?_)
  ·
   refine Zc (Zj VT.fa65_2 rfl ?_) (Zy1 hq17)
   refine Zc (Zu 1 VT.ty3 rfl rfl rfl ?_) (Zy1 hq17)
   refine Zc (Zj VT.fa65_2 rfl ?_) (Zy1 hq17)
   refine Zc (Zu 0 VT.ty3 rfl rfl rfl ?_) (Zy1 hq17)
   refine Zc (Zj1 rfl rfl rfl ?_) (Zy1 hq17)
   refine Zc (Zs1 rfl hq17 rfl ?_)
   refine Zc (Zl rfl ?_)
   refine Zj2 (q := 24) rfl (fun hq24 => ?_) (fun hq24 => ?_)
   ·
    refine Zc (Zj VT.fa65_3 rfl ?_) (Zy1 hq24)
    refine Zc (Zu 1 VT.ty38 rfl rfl rfl ?_) (Zy1 hq24)
    refine Zc (Zj VT.fa65_3 rfl ?_) (Zy1 hq24)
    refine Zc (Zu 0 VT.ty38 rfl rfl rfl ?_) (Zy1 hq24)
    refine Zc (Zx1 [.tmp 26, .tmp 28] rfl rfl VT.en21 (SameInts_c i.args i.args none none) ?_) (Zy1 hq24)
    refine Zc (Zs1 rfl hq24 rfl ?_)
    refine Zc (Zk rfl (Za (Zi (Zf1 ?_))))
    refine Zg1 rfl (.tmp rfl) ?_
    exact congrArg V.bool (same_S rfl)
   · exact absurd hq24 (by simp)
  · exact absurd hq17 (by simp)
 · exact absurd hq10 (by simp)
set_option maxRecDepth 100000 in
set_option maxHeartbeats 4000000 in
theorem SameTerm_c (t : STerm) : VPure Try.prog 22 [termV t, termV t] (.bool true) := by
 refine V_start (nt := 73) Try.func22 rfl rfl rfl ?_
 refine Zb (Zd ?_)
 refine Zc (Zc2 rfl rfl (fun g2 => ?_))
 refine Zc (Zc2 rfl rfl (fun g3 => ?_))
 refine Zc (Zk rfl (Za (Zi (Zb (Zb (Zd (Zc (Zj VT.fa42_0 rfl (Zc (Zu 1 VT.ty3 rfl rfl rfl (Zc (Zj VT.fa42_0 rfl (Zc (Zu 0 VT.ty3 rfl rfl rfl (Zc (Zj1 rfl rfl rfl (Zc (Zl rfl ?_))))))))))))))))))
 refine Zj2 (q := 12) rfl (fun hq12 => ?_) (fun hq12 => ?_)
 · exact absurd hq12 (by simp)
 ·
  refine Zc (Zj VT.fa42_1 rfl ?_) (Zy0 hq12)
  refine Zc (Zu 1 VT.ty3 rfl rfl rfl ?_) (Zy0 hq12)
  refine Zc (Zj VT.fa42_1 rfl ?_) (Zy0 hq12)
  refine Zc (Zu 0 VT.ty3 rfl rfl rfl ?_) (Zy0 hq12)
  refine Zc (Zj1 rfl rfl rfl ?_) (Zy0 hq12)
  refine Zc (Zt1 rfl hq12 rfl ?_)
  refine Zc (Zl rfl ?_)
  refine Zj2 (q := 19) rfl (fun hq19 => ?_) (fun hq19 => ?_)
  · exact absurd hq19 (by simp)
  ·
   refine Zc (Zj VT.fa42_2 rfl ?_) (Zy0 hq19)
   refine Zc (Zu 1 VT.ty3 rfl rfl rfl ?_) (Zy0 hq19)
   refine Zc (Zj VT.fa42_2 rfl ?_) (Zy0 hq19)
   refine Zc (Zu 0 VT.ty3 rfl rfl rfl ?_) (Zy0 hq19)
   refine Zc (Zj1 rfl rfl rfl ?_) (Zy0 hq19)
   refine Zc (Zt1 rfl hq19 rfl ?_)
   refine Zc (Zl rfl ?_)
   refine Zj2 (q := 26) rfl (fun hq26 => ?_) (fun hq26 => ?_)
   · exact absurd hq26 (by simp)
   ·
    refine Zc (Zj VT.fa42_3 rfl ?_) (Zy0 hq26)
    refine Zc (Zu 1 VT.ty38 rfl rfl rfl ?_) (Zy0 hq26)
    refine Zc (Zj VT.fa42_3 rfl ?_) (Zy0 hq26)
    refine Zc (Zu 0 VT.ty38 rfl rfl rfl ?_) (Zy0 hq26)
    refine Zc (Zx1 [.tmp 28, .tmp 30] rfl rfl VT.en21 (SameInts_c t.cases t.cases none none) ?_) (Zy0 hq26)
    refine Zc (Zl2 rfl ?_) (Zy0 hq26)
    refine Zc (Zt1 rfl hq26 rfl ?_)
    refine Zc (Zl rfl ?_)
    refine Zj2 (q := 34) rfl (fun hq34 => ?_) (fun hq34 => ?_)
    · exact absurd hq34 (by rw [same_S rfl]; decide)
    ·
     refine Zc (Zj VT.fa42_4 rfl ?_) (Zy0 hq34)
     refine Zc (Zu 1 VT.ty40 rfl rfl rfl ?_) (Zy0 hq34)
     refine Zc (Zd2 (n := t.to.length) Try.underlying40 rfl (by simp) (fun hl37 => ?_)) (Zy0 hq34)
     refine Zc (Zj VT.fa42_4 rfl ?_) (Zy0 hq34)
     refine Zc (Zu 0 VT.ty40 rfl rfl rfl ?_) (Zy0 hq34)
     refine Zc (Zd2 (n := t.to.length) Try.underlying40 rfl (by simp) (fun hl40 => ?_)) (Zy0 hq34)
     refine Zc (Zj1 rfl rfl rfl ?_) (Zy0 hq34)
     refine Zc (Zt1 rfl hq34 rfl ?_)
     refine Za (Zi ?_)
     refine Zm1 rfl (fun h42 => ?_) (fun h42 => ?_)
     · exact absurd rfl h42
     ·
      refine Zi1 (Zi (Zb (Zb (Zd (Zc (Zj VT.fa42_4 rfl (Zc (Zu 1 VT.ty40 rfl rfl rfl ?_))))))))
      refine Zc (Zd2 (n := t.to.length) Try.underlying40 rfl (by simp) (fun hl45 => ?_))
      refine Zc (Zl rfl (Za (Zi (Zs ?_))))
      refine Zi2 (ι := Nat) (fun k => t.to.length - k) (fun k => [(2, some (.ptr g2 0)), (3, some (.ptr g3 0)), (44, some (edgesX t.to)), (45, some (.int t.to.length)), (46, some (.int k))]) (fun k => [.cells g3 42 (termV t).leaves, .cells g2 42 (termV t).leaves]) (fun k => k ≤ t.to.length) 0 (Nat.zero_le _) ⟨rfl, rfl, rfl, rfl, rfl, trivial⟩ (Drops.keep (Drops.keep (Zt2 _))) ?_
      rintro k hk
      change k ≤ t.to.length at hk
      refine Zb (Zd (Zc (Zj1 rfl rfl rfl (Za (Zi (Zb ?_))))))
      refine Zn1 rfl (fun h47 => ?_) (fun h47 => ?_)
      ·
       obtain ⟨e, he⟩ := get_of_lt t.to k h47
       have hq60 : (e.block != e.block) = false := by simp
       refine Zi1 (Zi (Zb (Zs (Zb (Zd (Zc (Zl rfl ?_)))))))
       refine Zc (Zz (el := edgeV e) VT.sl40 rfl rfl (by omega) (get_mapS _ he) (fun a49 => ?_))
       refine Zc (Za2 VT.ty46 rfl rfl ?_)
       refine Zc (Zb2 VT.zr46 _ rfl rfl (fun g6 => ?_))
       refine Zc (Zk rfl (Zc (Zx 0 VT.ty46 rfl rfl rfl rfl rfl (Za (Zi (Zb ?_))))))
       refine VW_drawR (G := Unit) [([], [6], []), ([0], [51], []), ([], [3], []), ([2], [53], []), ([], [5], []), ([4, 3, 2], [54, 55], []), ([5, 4, 3, 2], [56], []), ([6, 5, 4, 3, 2], [57], []), (dn 8, [52, 58], []), (dn 9, [59], []), (dn 10, [6, 60], []), (dn 11, [61, 60], []), (dn 10, [3, 60], []), ([12, 9, 8, 7, 6, 5, 4, 3, 2, 1, 0], [63, 60], []), (dn 10, [5, 60], []), ([14, 13, 12, 9, 8, 7, 6, 5, 4, 3, 2, 1, 0], [64, 65, 60], []), ([15, 14, 13, 12, 9, 8, 7, 6, 5, 4, 3, 2, 1, 0], [66, 60], []), ([16, 15, 14, 13, 12, 9, 8, 7, 6, 5, 4, 3, 2, 1, 0], [67, 60], []), (dn 18, [62, 68, 60], []), (dn 19, [69, 60], []), (dn 20, [60, 70], [])] [] (constSt _) [71] [51, 52, 53, 54, 55, 56, 57, 58, 59, 60, 61, 62, 63, 64, 65, 66, 67, 68, 69, 70, 71] rfl VT.mix ?_
       refine Zp (Zm _) (Zq (fun γ => Zf (fun _ h6 => Ze (Zn rfl (Zj VT.fa46_0 h6 ⟨rfl, rfl⟩))))) ?_
       refine Zp (Zm _) (Zq (fun γ => Zw 0 0 rfl (fun _ h51 => Ze (Zn rfl (Zu 0 VT.ty3 h51 rfl rfl ⟨rfl, rfl⟩))))) ?_
       refine Zp (Zm _) (Zq (fun γ => Zf (fun _ h3 => Ze (Zn rfl (Zj VT.fa42_4 h3 ⟨rfl, rfl⟩))))) ?_
       refine Zp (Zm _) (Zq (fun γ => Zw 2 0 rfl (fun _ h53 => Ze (Zn rfl (Zu 1 VT.ty40 h53 rfl rfl ⟨rfl, rfl⟩))))) ?_
       refine Zp (Zm _) (Zq (fun γ => Zf (fun _ h5 => Ze (Zn rfl (Zl h5 ⟨rfl, rfl⟩))))) ?_
       refine Zp (Zb3 _) (Zq (fun γ => Zw 3 1 rfl (fun _ h54 => Zw 4 0 rfl (fun _ h55 => Ze (Zn rfl (Zz (el := edgeV e) VT.sl40 h54 h55 (by omega) (get_mapS _ he) (fun a56 => ⟨⟨_, rfl⟩, rfl⟩))))))) ?_
       refine Zp (Zb3 _) (Zq (fun γ => Zw 5 0 rfl (fun _ h56 => Ze (Zc3 h56 (fun a_56 e56 => Zn rfl (Zw1 VT.fa46_0 e56 rfl ⟨⟨_, rfl⟩, rfl⟩)))))) ?_
       refine Zp (Zm _) (Zq (fun γ => Zw 6 0 rfl (fun _ h57 => Ze (Zc3 h57 (fun a_57 e57 => Zn rfl (Zz1 VT.ty3 e57 rfl ⟨rfl, rfl⟩)))))) ?_
       refine Zp (Zm _) (Zq (fun γ => Zw 1 6 rfl (fun _ h52 => Zw 7 0 rfl (fun _ h58 => Ze (Zn rfl (Zj1 h52 h58 rfl ⟨rfl, rfl⟩)))))) ?_
       refine Zp (Zm _) (Zq (fun γ => Zw 8 0 rfl (fun _ h59 => Ze (Zn rfl (Zl h59 ⟨rfl, rfl⟩))))) ?_
       refine Zp (Zm _) (Zq (fun γ => Zf (fun _ h6 => Zw 9 0 rfl (fun _ h60 => Ze (Zn (Zg rfl rfl h60 hq60) (Zj VT.fa46_1 h6 ⟨rfl, rfl⟩)))))) ?_
       refine Zp (Zm _) (Zq (fun γ => Zw 10 0 rfl (fun _ h61 => Zw 9 1 rfl (fun _ h60 => Ze (Zn (Zg rfl rfl h60 hq60) (Zu 0 VT.ty38 h61 rfl rfl ⟨rfl, rfl⟩)))))) ?_
       refine Zp (Zm _) (Zq (fun γ => Zf (fun _ h3 => Zw 9 2 rfl (fun _ h60 => Ze (Zn (Zg rfl rfl h60 hq60) (Zj VT.fa42_4 h3 ⟨rfl, rfl⟩)))))) ?_
       refine Zp (Zm _) (Zq (fun γ => Zw 12 0 rfl (fun _ h63 => Zw 9 3 rfl (fun _ h60 => Ze (Zn (Zg rfl rfl h60 hq60) (Zu 1 VT.ty40 h63 rfl rfl ⟨rfl, rfl⟩)))))) ?_
       refine Zp (Zm _) (Zq (fun γ => Zf (fun _ h5 => Zw 9 4 rfl (fun _ h60 => Ze (Zn (Zg rfl rfl h60 hq60) (Zl h5 ⟨rfl, rfl⟩)))))) ?_
       refine Zp (Zb3 _) (Zq (fun γ => Zw 13 1 rfl (fun _ h64 => Zw 14 0 rfl (fun _ h65 => Zw 9 5 rfl (fun _ h60 => Ze (Zn (Zg rfl rfl h60 hq60) (Zz (el := edgeV e) VT.sl40 h64 h65 (by omega) (get_mapS _ he) (fun a66 => ⟨⟨_, rfl⟩, rfl⟩)))))))) ?_
       refine Zp (Zb3 _) (Zq (fun γ => Zw 15 0 rfl (fun _ h66 => Zw 9 6 rfl (fun _ h60 => Ze (Zc3 h66 (fun a_66 e66 => Zn (Zg rfl rfl h60 hq60) (Zw1 VT.fa46_1 e66 rfl ⟨⟨_, rfl⟩, rfl⟩))))))) ?_
       refine Zp (Zm _) (Zq (fun γ => Zw 16 0 rfl (fun _ h67 => Zw 9 7 rfl (fun _ h60 => Ze (Zc3 h67 (fun a_67 e67 => Zn (Zg rfl rfl h60 hq60) (Zz1 VT.ty38 e67 rfl ⟨rfl, rfl⟩))))))) ?_
       refine Zp (Zm _) (Zq (fun γ => Zw 11 6 rfl (fun _ h62 => Zw 17 0 rfl (fun _ h68 => Zw 9 8 rfl (fun _ h60 => Ze (Zn (Zg rfl rfl h60 hq60) (Zx1 [.tmp 62, .tmp 68] rfl (Zp2 h62 (Zp2 h68 Zq2)) VT.en21 (SameInts_c e.args e.args none none) ⟨rfl, rfl⟩))))))) ?_
       refine Zp (Zm _) (Zq (fun γ => Zw 18 0 rfl (fun _ h69 => Zw 9 9 rfl (fun _ h60 => Ze (Zn (Zg rfl rfl h60 hq60) (Zl2 h69 ⟨rfl, rfl⟩)))))) ?_
       refine Zp (Zm _) (Zq (fun γ => Zw 9 10 rfl (fun _ h60 => Zw 19 0 rfl (fun _ h70 => Ze (Zn rfl (Zt1 h60 hq60 h70 ⟨rfl, rfl⟩)))))) ?_
       refine DrawP_nil (fun γ => Zw 20 0 rfl (fun r71 h71 => Ze ?_))
       have e71 : r71 = some _ := h71
       subst e71
       clear h71
       refine Zi ?_
       refine Zo1 rfl (fun h71 => ?_) (fun h71 => ?_)
       · rw [same_S rfl] at h71; cases h71
       ·
        refine Zi1 (Zb1 (Zi (Zd ?_)))
        refine Zc (Zh2 rfl rfl (by omega) ?_)
        refine Zc (Zl rfl (Za (Zi ?_)))
        exact ⟨k + 1, (by (try simp only []); omega), (by omega), ⟨rfl, rfl, rfl, rfl, rfl, trivial⟩, (Drops.drop (Drops.keep (Drops.keep (Zt2 _))))⟩
      ·
       refine Zt (Ze1 (Ze1 (Zc1 (Zi (Zb (Zd (Zc (Zk rfl (Za (Zi (Zf1 ?_)))))))))))
       refine Zg1 rfl (.tmp rfl) ?_
       rfl
set_option maxRecDepth 100000 in
set_option maxHeartbeats 8000000 in
theorem SameFunc_c (f : SFunc) : VPure Try.prog 11 [funcV f, funcV f] (.bool true) := by
 refine V_start (nt := 78) Try.func11 rfl rfl rfl ?_
 refine Zb (Zd ?_)
 refine Zc (Zc2 rfl rfl (fun g2 => ?_))
 refine Zc (Zc2 rfl rfl (fun g3 => ?_))
 refine Zc (Zk rfl (Za (Zi (Zb (Zb (Zd (Zc (Zj VT.fa34_0 rfl (Zc (Zu 1 VT.ty3 rfl rfl rfl (Zc (Zj VT.fa34_0 rfl (Zc (Zu 0 VT.ty3 rfl rfl rfl (Zc (Zj1 rfl rfl rfl (Zc (Zl rfl ?_))))))))))))))))))
 refine Zj2 (q := 15) rfl (fun hq15 => ?_) (fun hq15 => ?_)
 · exact absurd hq15 (by simp)
 ·
  refine Zc (Zj VT.fa34_1 rfl ?_) (Zy0 hq15)
  refine Zc (Zu 1 VT.ty32 rfl rfl rfl ?_) (Zy0 hq15)
  refine Zc (Zd2 (n := f.blocks.length) Try.underlying32 rfl (by simp) (fun hl18 => ?_)) (Zy0 hq15)
  refine Zc (Zj VT.fa34_1 rfl ?_) (Zy0 hq15)
  refine Zc (Zu 0 VT.ty32 rfl rfl rfl ?_) (Zy0 hq15)
  refine Zc (Zd2 (n := f.blocks.length) Try.underlying32 rfl (by simp) (fun hl21 => ?_)) (Zy0 hq15)
  refine Zc (Zj1 rfl rfl rfl ?_) (Zy0 hq15)
  refine Zc (Zt1 rfl hq15 rfl ?_)
  refine Za (Zi ?_)
  refine Zm1 rfl (fun h23 => ?_) (fun h23 => ?_)
  · exact absurd rfl h23
  ·
   refine Zi1 (Zi (Zb (Zb (Zd (Zc (Zj VT.fa34_1 rfl (Zc (Zu 1 VT.ty32 rfl rfl rfl ?_))))))))
   refine Zc (Zd2 (n := f.blocks.length) Try.underlying32 rfl (by simp) (fun hl26 => ?_))
   refine Zc (Zl rfl (Za (Zi (Zs ?_))))
   refine Zi2 (ι := Nat) (fun k => f.blocks.length - k) (fun k => [(2, some (.ptr g2 0)), (3, some (.ptr g3 0)), (25, some (blocksX f.blocks)), (26, some (.int f.blocks.length)), (27, some (.int k))]) (fun k => [.cells g3 34 [.int f.name, blocksX f.blocks], .cells g2 34 [.int f.name, blocksX f.blocks]]) (fun k => k ≤ f.blocks.length) 0 (Nat.zero_le _) ⟨rfl, rfl, rfl, rfl, rfl, trivial⟩ (Drops.keep (Drops.keep (Zt2 _))) ?_
   rintro k hk
   change k ≤ f.blocks.length at hk
   refine Zb (Zd (Zc (Zj1 rfl rfl rfl (Za (Zi (Zb ?_))))))
   refine Zn1 rfl (fun h28 => ?_) (fun h28 => ?_)
   ·
    obtain ⟨b, hb⟩ := get_of_lt f.blocks k h28
    refine Zi1 (Zi (Zb (Zs (Zb (Zd (Zc (Zl rfl ?_)))))))
    refine Zc (Zz (el := blockV b) VT.sl32 rfl rfl (by omega) (get_mapS _ hb) (fun a30 => ?_))
    refine Zc (Za2 VT.ty44 rfl rfl ?_)
    refine Zc (Zb2 VT.zr44 _ rfl rfl (fun g6 => ?_))
    refine Zc (Zk rfl (Zc (Zx 0 VT.ty44 rfl rfl rfl rfl rfl (Za (Zi (Zb (Zd (Zc (Zj VT.fa34_1 rfl (Zc (Zu 1 VT.ty32 rfl rfl rfl (Zc (Zl rfl ?_)))))))))))))
    refine Zc (Zz (el := blockV b) VT.sl32 rfl rfl (by omega) (get_mapS _ hb) (fun a35 => ?_))
    refine Zc (Za2 VT.ty44 rfl rfl ?_)
    refine Zc (Zb2 VT.zr44 _ rfl rfl (fun g7 => ?_))
    refine Zc (Zx 0 VT.ty44 rfl rfl rfl rfl rfl (Za (Zi (Zb (Zb (Zd (Zc (Zj VT.fa44_0 rfl (Zc (Zu 1 VT.ty38 rfl rfl rfl (Zc (Zj VT.fa44_0 rfl (Zc (Zu 0 VT.ty38 rfl rfl rfl ?_))))))))))))))
    refine Zc (Zx1 [.tmp 38, .tmp 40] rfl rfl VT.en21 (SameInts_c b.params b.params none none) ?_)
    refine Zc (Zl2 rfl (Zc (Zl rfl ?_)))
    refine Zj2 (q := 43) rfl (fun hq43 => ?_) (fun hq43 => ?_)
    · exact absurd hq43 (by rw [same_S rfl]; decide)
    ·
     refine Zc (Zj VT.fa44_1 rfl ?_) (Zy0 hq43)
     refine Zc (Zu 1 VT.ty39 rfl rfl rfl ?_) (Zy0 hq43)
     refine Zc (Zd2 (n := b.ins.length) Try.underlying39 rfl (by simp) (fun hl46 => ?_)) (Zy0 hq43)
     refine Zc (Zj VT.fa44_1 rfl ?_) (Zy0 hq43)
     refine Zc (Zu 0 VT.ty39 rfl rfl rfl ?_) (Zy0 hq43)
     refine Zc (Zd2 (n := b.ins.length) Try.underlying39 rfl (by simp) (fun hl49 => ?_)) (Zy0 hq43)
     refine Zc (Zj1 rfl rfl rfl ?_) (Zy0 hq43)
     refine Zc (Zt1 rfl hq43 rfl ?_)
     refine Zc (Zl rfl ?_)
     refine Zj2 (q := 52) rfl (fun hq52 => ?_) (fun hq52 => ?_)
     · exact absurd hq52 (by simp)
     ·
      refine Zc (Zj VT.fa44_2 rfl ?_) (Zy0 hq52)
      refine Zc (Zv 1 VT.ty42 rfl rfl rfl ?_) (Zy0 hq52)
      refine Zc (Zj VT.fa44_2 rfl ?_) (Zy0 hq52)
      refine Zc (Zv 0 VT.ty42 rfl rfl rfl ?_) (Zy0 hq52)
      refine Zc (Zx1 [.tmp 54, .tmp 56] rfl rfl VT.en22 (SameTerm_c b.term) ?_) (Zy0 hq52)
      refine Zc (Zl2 rfl ?_) (Zy0 hq52)
      refine Zc (Zt1 rfl hq52 rfl ?_)
      refine Za (Zi ?_)
      refine Zo1 rfl (fun h59 => ?_) (fun h59 => ?_)
      · cases h59
      ·
       refine Zi1 (Zi (Zb (Zd (Zc (Zj VT.fa44_1 rfl (Zc (Zu 1 VT.ty39 rfl rfl rfl ?_)))))))
       refine Zc (Zd2 (n := b.ins.length) Try.underlying39 rfl (by simp) (fun hl62 => ?_))
       refine Zc (Zl rfl (Za (Zi (Zs ?_))))
       refine Zi2 (ι := Nat) (fun j => b.ins.length - j) (fun j => [(2, some (.ptr g2 0)), (3, some (.ptr g3 0)), (25, some (blocksX f.blocks)), (26, some (.int f.blocks.length)), (27, some (.int k)), (6, some (.ptr g6 0)), (7, some (.ptr g7 0)), (61, some (inssX b.ins)), (62, some (.int b.ins.length)), (63, some (.int j))]) (fun j => [.cells g7 44 (blockV b).leaves, .cells g6 44 (blockV b).leaves, .cells g3 34 [.int f.name, blocksX f.blocks], .cells g2 34 [.int f.name, blocksX f.blocks]]) (fun j => j ≤ b.ins.length) 0 (Nat.zero_le _) ⟨rfl, rfl, rfl, rfl, rfl, rfl, rfl, rfl, rfl, rfl, trivial⟩ (Drops.keep (Drops.keep (Drops.keep (Drops.keep (Zt2 _))))) ?_
       rintro j hj
       change j ≤ b.ins.length at hj
       refine Zb (Zd (Zc (Zj1 rfl rfl rfl (Za (Zi (Zb ?_))))))
       refine Zn1 rfl (fun h64 => ?_) (fun h64 => ?_)
       ·
        obtain ⟨i, hi⟩ := get_of_lt b.ins j h64
        refine Zi1 (Zi (Zb (Zs (Zb (Zd (Zc (Zl rfl ?_)))))))
        refine Zc (Zz (el := insV i) VT.sl39 rfl rfl (by omega) (get_mapS _ hi) (fun a66 => ?_))
        refine Zc (Za2 VT.ty65 rfl rfl ?_)
        refine Zc (Zb2 VT.zr65 _ rfl rfl (fun g9 => ?_))
        refine Zc (Zk rfl (Zc (Zx 0 VT.ty65 rfl rfl rfl rfl rfl (Za (Zi (Zb ?_))))))
        refine VW_drawR (G := Unit) [([], [9], []), ([], [7], []), ([1], [69], []), ([], [8], []), ([3, 2, 1], [70, 71], []), ([4, 3, 2, 1], [72], []), (dn 6, [68, 73], []), (dn 7, [74], [])] [] (constSt _) [75] [68, 69, 70, 71, 72, 73, 74, 75] rfl VT.mix ?_
        refine Zp (Zm _) (Zq (fun γ => Zf (fun _ h9 => Ze (Zn rfl (Zv 0 VT.ty65 h9 rfl rfl ⟨rfl, rfl⟩))))) ?_
        refine Zp (Zm _) (Zq (fun γ => Zf (fun _ h7 => Ze (Zn rfl (Zj VT.fa44_1 h7 ⟨rfl, rfl⟩))))) ?_
        refine Zp (Zm _) (Zq (fun γ => Zw 1 0 rfl (fun _ h69 => Ze (Zn rfl (Zu 1 VT.ty39 h69 rfl rfl ⟨rfl, rfl⟩))))) ?_
        refine Zp (Zm _) (Zq (fun γ => Zf (fun _ h8 => Ze (Zn rfl (Zl h8 ⟨rfl, rfl⟩))))) ?_
        refine Zp (Zb3 _) (Zq (fun γ => Zw 2 1 rfl (fun _ h70 => Zw 3 0 rfl (fun _ h71 => Ze (Zn rfl (Zz (el := insV i) VT.sl39 h70 h71 (by omega) (get_mapS _ hi) (fun a72 => ⟨⟨_, rfl⟩, rfl⟩))))))) ?_
        refine Zp (Zm _) (Zq (fun γ => Zw 4 0 rfl (fun _ h72 => Ze (Zc3 h72 (fun a_72 e72 => Zn rfl (Za2 VT.ty65 e72 rfl ⟨rfl, rfl⟩)))))) ?_
        refine Zp (Zm _) (Zq (fun γ => Zw 0 5 rfl (fun _ h68 => Zw 5 0 rfl (fun _ h73 => Ze (Zn rfl (Zx1 [.tmp 68, .tmp 73] rfl (Zp2 h68 (Zp2 h73 Zq2)) VT.en23 (SameIns_c i) ⟨rfl, rfl⟩)))))) ?_
        refine Zp (Zm _) (Zq (fun γ => Zw 6 0 rfl (fun _ h74 => Ze (Zn rfl (Zl2 h74 ⟨rfl, rfl⟩))))) ?_
        refine DrawP_nil (fun γ => Zw 7 0 rfl (fun r75 h75 => Ze ?_))
        have e75 : r75 = some _ := h75
        subst e75
        clear h75
        refine Zi ?_
        refine Zo1 rfl (fun h75 => ?_) (fun h75 => ?_)
        · cases h75
        ·
         refine Zi1 (Zb1 (Zi (Zd ?_)))
         refine Zc (Zh2 rfl rfl (by omega) ?_)
         refine Zc (Zl rfl (Za (Zi ?_)))
         exact ⟨j + 1, (by (try simp only []); omega), (by omega), ⟨rfl, rfl, rfl, rfl, rfl, rfl, rfl, rfl, rfl, rfl, trivial⟩, (Drops.drop (Drops.keep (Drops.keep (Drops.keep (Drops.keep (Zt2 _))))))⟩
       ·
        refine Zt (Ze1 (Ze1 (Zc1 (Zb1 (Zi (Zd ?_))))))
        refine Zc (Zh2 rfl rfl (by omega) ?_)
        refine Zc (Zl rfl (Za (Zi ?_)))
        exact ⟨k + 1, (by (try simp only []); omega), (by omega), ⟨rfl, rfl, rfl, rfl, rfl, trivial⟩, (Drops.drop (Drops.drop (Drops.keep (Drops.keep (Zt2 _)))))⟩
   ·
    refine Zt (Ze1 (Ze1 (Zc1 (Zi (Zb (Zd (Zc (Zk rfl (Za (Zi (Zf1 ?_)))))))))))
    refine Zg1 rfl (.tmp rfl) ?_
    rfl
set_option maxRecDepth 100000 in
set_option maxHeartbeats 4000000 in
theorem simple_c {u : SUnit} (hU : unitF u = 0) : VCalls Try.prog 7 [unitV u] [] fun r S' => S' = [] ∧ ∃ b : Bool, r = .bool b := by
 refine VCalls_drops ?_
 have hfs := fns_ok hU
 have hul := fns_len hU
 refine V_start (nt := 38) Try.func7 rfl rfl rfl ?_
 refine Zb (Zd ?_)
 refine Zc (Zc2 rfl rfl (fun g1 => ?_))
 refine Zc (Zk rfl (Za (Zi (Zb (Zd (Zc (Zk rfl (Za (Zi (Zb (Zb (Zd (Zc (Zj VT.fa24_0 rfl (Zc (Zu 0 VT.ty22 rfl rfl rfl ?_))))))))))))))))
 refine Zc (Zd2 (n := u.fns.length) Try.underlying22 rfl (by simp) (fun hl10 => ?_))
 refine Zc (Zl rfl (Za (Zi (Zs ?_))))
 refine Zi2 (ι := Nat × Int) (fun (i, m) => u.fns.length - i) (fun (i, m) => [(1, some (.ptr g1 0)), (9, some (funcsX u.fns)), (10, some (.int u.fns.length)), (11, some (.int i)), (3, some (.int m))]) (fun (i, m) => [.cells g1 24 [funcsX u.fns, .int u.main]]) (fun (i, m) => i ≤ u.fns.length ∧ 0 ≤ m ∧ m ≤ i * 1280128) (0, 0) ⟨Nat.zero_le _, Int.le_refl _, by omega⟩ ⟨rfl, rfl, rfl, rfl, rfl, trivial⟩ (Drops.keep (Zt2 _)) ?_
 rintro ⟨i, m⟩ hA
 change i ≤ u.fns.length ∧ 0 ≤ m ∧ m ≤ i * 1280128 at hA
 obtain ⟨hi, hm0, hm1⟩ := hA
 refine Zb (Zd (Zc (Zj1 rfl rfl rfl (Za (Zi (Zb ?_))))))
 refine Zn1 rfl (fun h12 => ?_) (fun h12 => ?_)
 ·
  obtain ⟨f, hf⟩ := get_of_lt u.fns i h12
  have h0 := hfs f (List.mem_of_getElem? hf)
  have h128 := (func_ok h0).len
  have hcp := (cp_ok h0).block
  refine Zi1 (Zi (Zb (Zs (Zb (Zd ?_)))))
  refine Zc (Zz (el := funcV f) VT.sl22 rfl rfl (by omega) (get_mapS _ hf) (fun a13 => ?_))
  refine Zc (Za2 VT.ty34 rfl rfl ?_)
  refine Zc (Zb2 VT.zr34 _ rfl rfl (fun g5 => ?_))
  refine Zc (Zx 0 VT.ty34 rfl rfl rfl rfl rfl (Za (Zi (Zb (Zd (Zc (Zj VT.fa34_1 rfl (Zc (Zu 0 VT.ty32 rfl rfl rfl ?_)))))))))
  refine Zc (Zd2 (n := f.blocks.length) Try.underlying32 rfl (by simp) (fun hl17 => ?_))
  refine Zc (Zl rfl (Za (Zi (Zs ?_))))
  refine Zi2 (ι := Nat × Int) (fun (j, m2) => f.blocks.length - j) (fun (j, m2) => [(1, some (.ptr g1 0)), (9, some (funcsX u.fns)), (10, some (.int u.fns.length)), (11, some (.int i)), (3, some (.int m2)), (16, some (blocksX f.blocks)), (17, some (.int f.blocks.length)), (18, some (.int j))]) (fun (j, m2) => [.cells g1 24 [funcsX u.fns, .int u.main]]) (fun (j, m2) => j ≤ f.blocks.length ∧ 0 ≤ m2 ∧ m2 ≤ i * 1280128 + j * 10001) (0, m) ⟨Nat.zero_le _, hm0, by omega⟩ ⟨rfl, rfl, rfl, rfl, rfl, rfl, rfl, rfl, trivial⟩ (Drops.drop (Drops.keep (Zt2 _))) ?_
  rintro ⟨j, m2⟩ hB
  change j ≤ f.blocks.length ∧ 0 ≤ m2 ∧ m2 ≤ i * 1280128 + j * 10001 at hB
  obtain ⟨hj, hn0, hn1⟩ := hB
  refine Zb (Zd (Zc (Zj1 rfl rfl rfl (Za (Zi (Zb ?_))))))
  refine Zn1 rfl (fun h19 => ?_) (fun h19 => ?_)
  ·
   obtain ⟨b, hb⟩ := get_of_lt f.blocks j h19
   have hbi := (hcp b (List.mem_of_getElem? hb)).2.1
   refine Zi1 (Zi (Zb (Zs (Zb (Zd ?_)))))
   refine Zc (Zz (el := blockV b) VT.sl32 rfl rfl (by omega) (get_mapS _ hb) (fun a20 => ?_))
   refine Zc (Za2 VT.ty44 rfl rfl ?_)
   refine Zc (Zb2 VT.zr44 _ rfl rfl (fun g7 => ?_))
   refine Zc (Zx 0 VT.ty44 rfl rfl rfl rfl rfl (Za (Zi (Zd (Zc (Zl rfl (Zc (Zj VT.fa44_1 rfl (Zc (Zu 0 VT.ty39 rfl rfl rfl ?_))))))))))
   refine Zc (Zd2 (n := b.ins.length) Try.underlying39 rfl (by simp) (fun hl25 => ?_))
   refine Zc (Zh2 rfl rfl (by omega) ?_)
   refine Zc (Zh2 rfl rfl (by omega) ?_)
   refine Zc (Zk rfl (Za (Zb1 (Zi (Zd ?_)))))
   refine Zc (Zh2 rfl rfl (by omega) ?_)
   refine Zc (Zl rfl (Za (Zi ?_)))
   exact ⟨(j + 1, m2 + (b.ins.length + 1)), (by (try simp only []); omega), ⟨by omega, by omega, by omega⟩, ⟨rfl, rfl, rfl, rfl, rfl, rfl, rfl, rfl, trivial⟩, (Drops.drop (Drops.keep (Zt2 _)))⟩
  ·
   refine Zt (Ze1 (Ze1 (Zc1 (Zb1 (Zi (Zd ?_))))))
   refine Zc (Zh2 rfl rfl (by omega) ?_)
   refine Zc (Zl rfl (Za (Zi ?_)))
   exact ⟨(i + 1, m2), (by (try simp only []); omega), ⟨by omega, hn0, by omega⟩, ⟨rfl, rfl, rfl, rfl, rfl, trivial⟩, (Drops.keep (Zt2 _))⟩
 ·
  refine Zt (Ze1 (Ze1 (Zc1 (Zi (Zb (Zd (Zc (Zl rfl (Zc (Zj1 rfl rfl rfl (Zc (Zl rfl ?_))))))))))))
  refine Zj2 (q := 32) rfl (fun hq32 => ?_) (fun hq32 => ?_)
  ·
   refine Zc (Zj VT.fa24_0 rfl ?_) (Zy1 hq32)
   refine Zc (Zu 0 VT.ty22 rfl rfl rfl ?_) (Zy1 hq32)
   refine Zc (Zd2 (n := u.fns.length) Try.underlying22 rfl (by simp) (fun hl35 => ?_)) (Zy1 hq32)
   refine Zc (Zj1 rfl rfl rfl ?_) (Zy1 hq32)
   refine Zc (Zs1 rfl hq32 rfl ?_)
   refine Zc (Zk rfl (Za (Zi (Zf1 ?_))))
   refine Zg1 rfl (.tmp rfl) ?_
   exact ⟨[], Drops.nil _, rfl, _, rfl⟩
  ·
   refine Zk1 hq32 ?_
   refine Zk1 hq32 ?_
   refine Zk1 hq32 ?_
   refine Zk1 hq32 ?_
   refine Zc (Zt1 rfl hq32 rfl ?_)
   refine Zc (Zk rfl (Za (Zi (Zf1 ?_))))
   refine Zg1 rfl (.tmp rfl) ?_
   exact ⟨[], Drops.nil _, rfl, _, rfl⟩
set_option maxRecDepth 100000 in
set_option maxHeartbeats 4000000 in
theorem run_c (u : SUnit) (fuel : Int) : VPure Try.prog 24 [unitV u, .int fuel] (.tup [resultV (runF u fuel).1, .int (runF u fuel).2.1, .bool ((runF u fuel).2.2 == 0 && (runF u fuel).1.fin != 5)]) := by
 refine V_start (nt := 26) Try.func24 rfl rfl rfl ?_
 refine Zb (Zd ?_)
 refine Zc (Zc2 rfl rfl (fun g2 => ?_))
 refine Zc (Zb2 VT.zr57 _ rfl rfl (fun g4 => ?_))
 refine Zc (Zk rfl (Zc (Zk rfl (Za (Zi (Zb (Zd (Zc (Zv 1 VT.ty24 rfl rfl rfl (Zc (Zl rfl ?_)))))))))))
 refine Zc (Zx1 [.tmp 11, .tmp 12] rfl rfl VT.en14 (Run_c u fuel) ?_)
 refine Zc (Zl rfl (Zc (Zg2 rfl rfl (Zc (Zg2 rfl rfl (Zc (Zg2 rfl rfl ?_)))))))
 refine Zc (Zb2 VT.zr57 _ rfl rfl (fun g7 => ?_))
 refine Zc (Zx 0 VT.ty57 rfl rfl rfl rfl rfl (Zc (Zk rfl (Zc (Zk rfl (Za (Zi (Zb ?_))))))))
 rcases Bool.eq_false_or_eq_true ((runF u fuel).2.2 == 0) with hq21 | hq21
 ·
  refine VW_drawR (G := Unit) [([], [7], []), ([], [8], []), ([], [9], []), ([2], [19], []), ([3, 2], [20], []), ([4, 3, 2], [7, 21], []), ([5, 4, 3, 2], [22, 21], []), ([6, 5, 4, 3, 2], [23, 21], []), ([7, 6, 5, 4, 3, 2], [21, 24], []), ([4, 3, 2, 0], [4, 17], []), ([9, 4, 3, 2, 1, 0], [18], []), (dn 11, [25], [])] [9] (setSt _ 1 (fun _ => .cells g4 57 (resultV (runF u fuel).1).leaves)) [5, 6] [5, 6, 17, 18, 19, 20, 21, 22, 23, 24, 25] rfl VT.mix ?_
  refine Zp (Zm _) (Zo rfl rfl ⟨(fun γ => Zf (fun _ h7 => Ze (Zn rfl (Zv 0 VT.ty57 h7 rfl rfl ⟨rfl, rfl⟩)))), trivial⟩) ?_
  refine Zp (Zm _) (Zm2 rfl (fun _ => (fun γ => Zf (fun _ h8 => Ze (Zn rfl (Zl h8 ⟨rfl, rfl⟩)))))) ?_
  refine Zp (Zm _) (Zo rfl rfl ⟨(fun γ => Zf (fun _ h9 => Ze (Zn rfl (Zl h9 ⟨rfl, rfl⟩)))), trivial⟩) ?_
  refine Zp (Zm _) (Zo rfl rfl ⟨(fun γ => Zw 2 0 rfl (fun _ h19 => Ze (Zn rfl (Zj1 h19 rfl rfl ⟨rfl, rfl⟩)))), trivial⟩) ?_
  refine Zp (Zm _) (Zo rfl rfl ⟨(fun γ => Zw 3 0 rfl (fun _ h20 => Ze (Zn rfl (Zl h20 ⟨rfl, rfl⟩)))), trivial⟩) ?_
  refine Zp (Zm _) (Zm2 rfl (fun _ => (fun γ => Zf (fun _ h7 => Zw 4 0 rfl (fun _ h21 => Ze (Zn (Zg rfl rfl h21 hq21) (Zj VT.fa57_1 h7 ⟨rfl, rfl⟩))))))) ?_
  refine Zp (Zm _) (Zo rfl rfl ⟨(fun γ => Zw 5 0 rfl (fun _ h22 => Zw 4 1 rfl (fun _ h21 => Ze (Zn (Zg rfl rfl h21 hq21) (Zu 0 VT.ty3 h22 rfl rfl ⟨rfl, rfl⟩))))), (fun γ => Zw 5 0 rfl (fun _ h22 => Zw 4 1 rfl (fun _ h21 => Ze (Zn (Zg rfl rfl h21 hq21) (Zu 0 VT.ty3 h22 rfl rfl ⟨rfl, rfl⟩))))), trivial⟩) ?_
  refine Zp (Zm _) (Zm2 rfl (fun _ => (fun γ => Zw 6 0 rfl (fun _ h23 => Zw 4 2 rfl (fun _ h21 => Ze (Zn (Zg rfl rfl h21 hq21) (Zj1 h23 rfl rfl ⟨rfl, rfl⟩))))))) ?_
  refine Zp (Zm _) (Zm2 rfl (fun _ => (fun γ => Zw 4 3 rfl (fun _ h21 => Zw 7 0 rfl (fun _ h24 => Ze (Zn rfl (Zs1 h21 hq21 h24 ⟨rfl, rfl⟩))))))) ?_
  refine Zp Za3 (Zn2 rfl (fun γ => Zf (fun _ h4 => Zw 0 8 rfl (fun _ h17 => Ze (Zn rfl (Zx 1 VT.ty57 h4 h17 rfl rfl rfl ⟨default, trivial, rfl⟩)))))) ?_
  refine Zp (Zm _) (Zo rfl rfl ⟨(fun γ => Zw 1 8 rfl (fun _ h18 => Ze (Zn rfl (Zk h18 ⟨rfl, rfl⟩)))), trivial⟩) ?_
  refine Zp (Zm _) (Zo rfl rfl ⟨(fun γ => Zw 8 2 rfl (fun _ h25 => Ze (Zn rfl (Zk h25 ⟨rfl, rfl⟩)))), trivial⟩) ?_
  refine DrawP_nil (fun γ => Zw 10 1 rfl (fun r5 h5 => Zw 11 0 rfl (fun r6 h6 => Ze ?_)))
  have e5 : r5 = some _ := h5
  subst e5
  clear h5
  have e6 : r6 = some _ := h6
  subst e6
  clear h6
  refine Zi (Zf1 ?_)
  refine Zh1 rfl rfl (.cons (.agg (i := 1) VT.ty57 rfl rfl rfl) (.cons (.tmp rfl) (.cons (.tmp rfl) (.nil)))) ?_
  rw [hq21]
  rfl
 ·
  refine VW_drawR (G := Unit) [([], [7], []), ([], [8], []), ([], [9], []), ([2], [19], []), ([3, 2], [20], []), ([4, 3, 2], [7, 21], []), ([5, 4, 3, 2], [22, 21], []), ([6, 5, 4, 3, 2], [23, 21], []), ([7, 6, 5, 4, 3, 2], [21, 24], []), ([4, 3, 2, 0], [4, 17], []), ([9, 4, 3, 2, 1, 0], [18], []), (dn 11, [25], [])] [9] (setSt _ 1 (fun _ => .cells g4 57 (resultV (runF u fuel).1).leaves)) [5, 6] [5, 6, 17, 18, 19, 20, 21, 22, 23, 24, 25] rfl VT.mix ?_
  refine Zp (Zm _) (Zo rfl rfl ⟨(fun γ => Zf (fun _ h7 => Ze (Zn rfl (Zv 0 VT.ty57 h7 rfl rfl ⟨rfl, rfl⟩)))), trivial⟩) ?_
  refine Zp (Zm _) (Zm2 rfl (fun _ => (fun γ => Zf (fun _ h8 => Ze (Zn rfl (Zl h8 ⟨rfl, rfl⟩)))))) ?_
  refine Zp (Zm _) (Zo rfl rfl ⟨(fun γ => Zf (fun _ h9 => Ze (Zn rfl (Zl h9 ⟨rfl, rfl⟩)))), trivial⟩) ?_
  refine Zp (Zm _) (Zo rfl rfl ⟨(fun γ => Zw 2 0 rfl (fun _ h19 => Ze (Zn rfl (Zj1 h19 rfl rfl ⟨rfl, rfl⟩)))), trivial⟩) ?_
  refine Zp (Zm _) (Zo rfl rfl ⟨(fun γ => Zw 3 0 rfl (fun _ h20 => Ze (Zn rfl (Zl h20 ⟨rfl, rfl⟩)))), trivial⟩) ?_
  refine Zp (Zm _) (Zm2 rfl (fun _ => (fun γ => Zf (fun _ h7 => Zw 4 0 rfl (fun _ h21 => Ze (Zy2 (Zr rfl rfl h21 hq21) ⟨rfl, rfl⟩)))))) ?_
  refine Zp (Zm _) (Zm2 rfl (fun _ => (fun γ => Zw 5 0 rfl (fun _ h22 => Zw 4 1 rfl (fun _ h21 => Ze (Zy2 (Zr rfl rfl h21 hq21) ⟨rfl, rfl⟩)))))) ?_
  refine Zp (Zm _) (Zm2 rfl (fun _ => (fun γ => Zw 6 0 rfl (fun _ h23 => Zw 4 2 rfl (fun _ h21 => Ze (Zy2 (Zr rfl rfl h21 hq21) ⟨rfl, rfl⟩)))))) ?_
  refine Zp (Zm _) (Zm2 rfl (fun _ => (fun γ => Zw 4 3 rfl (fun _ h21 => Zw 7 0 rfl (fun _ h24 => Ze (Zn rfl (Zt1 h21 hq21 rfl ⟨rfl, rfl⟩))))))) ?_
  refine Zp Za3 (Zn2 rfl (fun γ => Zf (fun _ h4 => Zw 0 8 rfl (fun _ h17 => Ze (Zn rfl (Zx 1 VT.ty57 h4 h17 rfl rfl rfl ⟨default, trivial, rfl⟩)))))) ?_
  refine Zp (Zm _) (Zo rfl rfl ⟨(fun γ => Zw 1 8 rfl (fun _ h18 => Ze (Zn rfl (Zk h18 ⟨rfl, rfl⟩)))), trivial⟩) ?_
  refine Zp (Zm _) (Zo rfl rfl ⟨(fun γ => Zw 8 2 rfl (fun _ h25 => Ze (Zn rfl (Zk h25 ⟨rfl, rfl⟩)))), trivial⟩) ?_
  refine DrawP_nil (fun γ => Zw 10 1 rfl (fun r5 h5 => Zw 11 0 rfl (fun r6 h6 => Ze ?_)))
  have e5 : r5 = some _ := h5
  subst e5
  clear h5
  have e6 : r6 = some _ := h6
  subst e6
  clear h6
  refine Zi (Zf1 ?_)
  refine Zh1 rfl rfl (.cons (.agg (i := 1) VT.ty57 rfl rfl rfl) (.cons (.tmp rfl) (.cons (.tmp rfl) (.nil)))) ?_
  rw [hq21]
  rfl
set_option maxRecDepth 100000 in
set_option maxHeartbeats 4000000 in
theorem alike_c {u v : SUnit} (hv : (runF u 1500).2.2 = 0 → (runF v 1000000).2.2 = 0 ∧ (runF v 1000000).1 = (runF u 1500).1) : VPure Try.prog 12 [unitV u, unitV v] (.bool true) := by
 refine V_start (nt := 41) Try.func12 rfl rfl rfl ?_
 refine Zb (Zd ?_)
 refine Zc (Zc2 rfl rfl (fun g2 => ?_))
 refine Zc (Zc2 rfl rfl (fun g3 => ?_))
 refine Zc (Zk rfl (Za (Zi (Zb (Zd (Zc (Zv 1 VT.ty24 rfl rfl rfl ?_)))))))
 refine Zc (Zx1 [.tmp 12, .const (.int .i64 (1500))] rfl rfl VT.en24 (run_c u 1500) ?_)
 refine Zc (Zl rfl (Zc (Zg2 rfl rfl (Zc (Zg2 rfl rfl (Zc (Zg2 rfl rfl ?_)))))))
 refine Zc (Zb2 VT.zr57 _ rfl rfl (fun g5 => ?_))
 refine Zc (Zx 0 VT.ty57 rfl rfl rfl rfl rfl (Zc (Zk rfl (Zc (Zk rfl (Za (Zi (Zb (Zb (Zd (Zc (Zl rfl (Zc (Zl2 rfl (Za (Zi ?_))))))))))))))))
 refine Zo1 rfl (fun h18 => ?_) (fun h18 => ?_)
 ·
  refine Zb (Zd (Zc (Zk rfl (Za (Zi (Zf1 ?_))))))
  refine Zd1 (Zg1 rfl (.tmp rfl) ?_)
  rfl
 ·
  have hx0 : (runF u 1500).2.2 = 0 := by have h9 := (Bool.and_eq_true _ _ ▸ h18 : _ ∧ _).1; exact eq_of_beq h9
  obtain ⟨hv1, hv2⟩ := hv hx0
  refine Zi1 (Zi (Zb (Zd (Zc (Zv 1 VT.ty24 rfl rfl rfl ?_)))))
  refine Zc (Zu2 (Zx1 [.tmp 20, .const (.int .i64 (1000000))] rfl rfl VT.en14 (Run_c v 1000000) ⟨rfl, rfl⟩) ((V.le.of_eq (by rw [hv1, hv2]) : V.le _ (.tup [resultV (runF u 1500).1, .int (runF v 1000000).2.1, .int 0]))) ?_)
  refine Zc (Zl rfl (Zc (Zg2 rfl rfl (Zc (Zg2 rfl rfl (Zc (Zg2 rfl rfl ?_)))))))
  refine Zc (Zb2 VT.zr57 _ rfl rfl (fun g8 => ?_))
  refine Zc (Zx 0 VT.ty57 rfl rfl rfl rfl rfl (Zc (Zk rfl (Zc (Zk rfl (Za (Zi (Zb (Zd (Zc (Zl rfl (Zc (Zj1 rfl rfl rfl (Zc (Zl rfl ?_)))))))))))))))
  refine Zj2 (q := 27) rfl (fun hq27 => ?_) (fun hq27 => ?_)
  · exact absurd hq27 (by decide)
  ·
   refine Zk1 hq27 ?_
   refine Zk1 hq27 ?_
   refine Zk1 hq27 ?_
   refine Zc (Zt1 rfl hq27 rfl ?_)
   refine Zc (Zl rfl ?_)
   refine Zc (Zl rfl ?_) (Zy0 rfl)
   refine Zc (Zj1 rfl rfl rfl ?_) (Zy0 rfl)
   refine Zc (Zl rfl ?_) (Zy0 rfl)
   refine Zj2 (q := 35) rfl (fun hq35 => ?_) (fun hq35 => ?_)
   ·
    refine Zc (Zv 1 VT.ty57 rfl rfl rfl ?_) (Zy1 hq35)
    refine Zc (Zv 0 VT.ty57 rfl rfl rfl ?_) (Zy1 hq35)
    refine Zc (Zx1 [.tmp 36, .tmp 37] rfl rfl VT.en16 (SameResult_c (runF u 1500).1 (runF u 1500).1) ?_) (Zy1 hq35)
    refine Zc (Zs1 rfl hq35 rfl ?_) (Zy0 rfl)
    refine Zc (Zt1 rfl rfl rfl (Zc (Zk rfl (Za (Zi (Zf1 ?_))))))
    refine Zg1 rfl (.tmp rfl) ?_
    first | rfl | exact congrArg V.bool (sameOut_iff.2 rfl)
   · exact absurd hq35 (by decide)
set_option maxRecDepth 100000 in
set_option maxHeartbeats 8000000 in
theorem each_c {u : SUnit} (hU : unitF u = 0) : VCalls Try.prog 8 [unitV u, .clo (.func 9) []] [] fun r S' => S' = [] ∧ (SmallU u ∧ r = .tup [unitV (splitU u), .int 0] ∨ ¬ SmallU u ∧ r = .tup [.agg VT.zs24, .int 2]) := by
 refine VCalls_drops ?_
 have hfs := fns_ok hU
 have hul := fns_len hU
 refine V_start (nt := 39) Try.func8 rfl rfl rfl ?_
 refine Zb (Zd ?_)
 refine Zc (Zc2 rfl rfl (fun g2 => ?_))
 refine Zc (Zb2 VT.zr24 _ rfl rfl (fun g4 => ?_))
 refine Zc (Zk rfl (Za (Zi (Zb (Zd (Zc (Zj VT.fa24_1 rfl (Zc (Zu 1 VT.ty3 rfl rfl rfl ?_)))))))))
 refine Zc (Zf2 [1] [.tmp 12] VT.st24 rfl rfl rfl rfl ?_)
 refine Zc (Zb2 VT.zr24 _ rfl rfl (fun g6 => ?_))
 refine Zc (Zx 0 VT.ty24 rfl rfl rfl rfl rfl (Za (Zi ?_)))
 refine VW_cells 0 (ls' := [.sl 2 (some .nil) [], .int u.main]) rfl ⟨V.le.nilTok 2, rfl, V.le.refl _, rfl, trivial⟩ ?_
 refine VW_nilBuf 34 2 ?_
 refine Zb (Zb (Zd (Zc (Zj VT.fa24_0 rfl (Zc (Zu 3 VT.ty22 rfl rfl rfl ?_))))))
 refine Zc (Zd2 (n := u.fns.length) Try.underlying22 rfl (by simp) (fun hl16 => ?_))
 refine Zc (Zl rfl (Za (Zi (Zs ?_))))
 refine Zi2 (ι := Nat × Tok) (fun (i, tok) => u.fns.length - i) (fun (i, tok) => [(1, some (.clo (.func 9) [])), (2, some (.ptr g2 0)), (4, some (.ptr g4 0)), (6, some (.ptr g6 0)), (15, some (funcsX u.fns)), (16, some (.int u.fns.length)), (17, some (.int i))]) (fun (i, tok) => [.buf tok 34 2 i, .cells g6 24 [.sl 2 (some tok) ((u.fns.take i).map fun f => funcV (splitF f)), .int u.main], .cells g4 24 VT.zs24, .cells g2 24 [funcsX u.fns, .int u.main]]) (fun (i, tok) => i ≤ u.fns.length ∧ ∀ f ∈ u.fns.take i, (splitF f).blocks.length ≤ 128) (0, .nil) ⟨Nat.zero_le _, fun f hf => by cases hf⟩ ⟨rfl, rfl, rfl, rfl, rfl, rfl, rfl, trivial⟩ (Drops.buf (by simp) (Drops.keep (Drops.keep (Drops.keep (Zt2 _))))) ?_
 rintro ⟨i, tok⟩ hA
 change i ≤ u.fns.length ∧ ∀ f ∈ u.fns.take i, (splitF f).blocks.length ≤ 128 at hA
 obtain ⟨hi, hS⟩ := hA
 refine Zb (Zd (Zc (Zj1 rfl rfl rfl (Za (Zi (Zb ?_))))))
 refine Zn1 rfl (fun h18 => ?_) (fun h18 => ?_)
 ·
  obtain ⟨f, hf⟩ := get_of_lt u.fns i h18
  have h0 := hfs f (List.mem_of_getElem? hf)
  refine Zi1 (Zi (Zb (Zs (Zb (Zd ?_)))))
  refine Zc (Zz (el := funcV f) VT.sl22 rfl rfl (by omega) (get_mapS _ hf) (fun a19 => ?_))
  refine Zc (Za2 VT.ty34 rfl rfl ?_)
  refine Zc (Zb2 VT.zr34 _ rfl rfl (fun g8 => ?_))
  refine Zc (Zx 0 VT.ty34 rfl rfl rfl rfl rfl (Za (Zi (Zb (Zd (Zc (Zl rfl (Zc (Zv 0 VT.ty34 rfl rfl rfl ?_)))))))))
  by_cases hl : 128 < ((splitF f).blocks.length : Int)
  ·
   refine Zc (V_callCloP [.tmp 23] rfl rfl rfl VT.en9 (Split_big h0 hl) ?_)
   refine Zc (Zl rfl (Zc (Zg2 rfl rfl (Zc (Zg2 rfl rfl ?_)))))
   refine Zc (Zb2 VT.zr34 _ rfl rfl (fun g9 => ?_))
   refine Zc (Zx 0 VT.ty34 rfl rfl rfl rfl rfl (Zc (Zk rfl (Za (Zi (Zb (Zb (Zd (Zc (Zl rfl (Zc (Zj1 rfl rfl rfl (Za (Zi ?_))))))))))))))
   refine Zm1 rfl (fun h28 => ?_) (fun h28 => ?_)
   ·
    refine Zb (Zd ?_)
    refine Zc (Zf2 [] [] VT.st24 rfl rfl rfl rfl ?_)
    refine Zc (Zl rfl (Zc (Zx 4 VT.ty24 rfl rfl rfl rfl rfl (Zc (Zk rfl (Za (Zi (Zf1 ?_))))))))
    refine Zd1 (Za1 (Zd1 (Zd1 (Za1 (Zd1 (Zh1 rfl rfl (.cons (.agg (i := 4) VT.ty24 rfl rfl rfl) (.cons (.tmp rfl) (.nil))) ?_))))))
    exact ⟨[], Drops.nil _, rfl, .inr ⟨fun hs => by have h9 := hs f (List.mem_of_getElem? hf); omega, rfl⟩⟩
   · exact absurd h28 (by decide)
  ·
   have hsm : ∀ x ∈ u.fns.take (i + 1), (splitF x).blocks.length ≤ 128 := fun x hx => by rw [take_snoc hf] at hx; rcases List.mem_append.1 hx with h | h; exact hS x h; rw [List.mem_singleton.1 h]; omega
   refine Zc (V_callCloP [.tmp 23] rfl rfl rfl VT.en9 (Split_0 h0 hl) ?_)
   refine Zc (Zl rfl (Zc (Zg2 rfl rfl (Zc (Zg2 rfl rfl ?_)))))
   refine Zc (Zb2 VT.zr34 _ rfl rfl (fun g9 => ?_))
   refine Zc (Zx 0 VT.ty34 rfl rfl rfl rfl rfl (Zc (Zk rfl (Za (Zi (Zb (Zb (Zd (Zc (Zl rfl (Zc (Zj1 rfl rfl rfl (Za (Zi ?_))))))))))))))
   refine Zm1 rfl (fun h28 => ?_) (fun h28 => ?_)
   · exact absurd rfl h28
   ·
    refine Zi1 (Zi (Zd (Zc (Zj VT.fa24_0 rfl (Zc (Zu 3 VT.ty22 rfl rfl rfl (Zc (Zv 0 VT.ty34 rfl rfl rfl ?_))))))))
    refine Zc (Zk3 [.tmp 33] VT.sl22 rfl rfl rfl rfl rfl ?_)
    refine Zc (Zi3 2 _ VT.sl22 rfl rfl rfl (by simp; omega) (by simp; omega) (fun t35 => ?_))
    refine Zc (Zj VT.fa24_0 rfl (Zc (Zy 3 VT.ty22 rfl rfl rfl rfl rfl (Za (Zb1 (Zi (Zd ?_)))))))
    refine Zc (Zh2 rfl rfl (by omega) ?_)
    refine Zc (Zl rfl (Za (Zi ?_)))
    exact ⟨(i + 1, t35), (by (try simp only []); omega), ⟨by omega, hsm⟩, ⟨rfl, rfl, rfl, rfl, rfl, rfl, rfl, trivial⟩, (Drops.drop (Drops.drop (Drops.buf (by simp; omega) (Drops.keepE (congrArg (fun l => Own.cells g6 24 [.sl 2 (some t35) l, .int u.main]) (by rw [take_snoc hf, List.map_append]; rfl)) (Drops.keep (Drops.keep (Zt2 _)))))))⟩
 ·
  have hie : i = u.fns.length := by omega
  subst hie
  have hst : V.le (.sl 2 (some tok) ((u.fns.take u.fns.length).map fun f => funcV (splitF f))) (funcsX (splitU u).fns) := by rw [List.take_length]; show V.le _ (.sl 2 none ((u.fns.map splitF).map funcV)); rw [List.map_map]; exact V.le.strip
  rw [List.take_length] at hS
  refine Zt (Ze1 (Ze1 (Zc1 (Zi ?_))))
  refine VW_cells 1 (ls' := [funcsX (splitU u).fns, .int u.main]) rfl ⟨hst, rfl, V.le.refl _, rfl, trivial⟩ ?_
  refine Zb (Zd (Zc (Zv 1 VT.ty24 rfl rfl rfl (Zc (Zx 2 VT.ty24 rfl rfl rfl rfl rfl (Zc (Zk rfl (Za (Zi (Zf1 ?_))))))))))
  refine Zh1 rfl rfl (.cons (.agg (i := 2) VT.ty24 rfl rfl rfl) (.cons (.tmp rfl) (.nil))) ?_
  exact ⟨[], Drops.nil _, rfl, .inl ⟨hS, rfl⟩⟩
theorem each_ok {u : SUnit} (hU : unitF u = 0) (hS : SmallU u) : VPure Try.prog 8 [unitV u, .clo (.func 9) []] (.tup [unitV (splitU u), .int 0]) := (each_c hU).mono fun r S' ⟨h1, h2⟩ => h2.elim (fun h => h.2) fun h => absurd hS h.1
theorem each_big {u : SUnit} (hU : unitF u = 0) (hS : ¬ SmallU u) : VPure Try.prog 8 [unitV u, .clo (.func 9) []] (.tup [.agg VT.zs24, .int 2]) := (each_c hU).mono fun r S' ⟨h1, h2⟩ => h2.elim (fun h => absurd h.1 hS) fun h => h.2
set_option maxRecDepth 100000 in
set_option maxHeartbeats 16000000 in
theorem cfgSplits_c (u : SUnit) : VPure Try.prog 3 [unitV u] (.bool true) := by
 refine V_start (nt := 96) Try.func3 rfl rfl rfl ?_
 refine Zb (Zd ?_)
 refine Zc (Zc2 rfl rfl (fun g1 => ?_))
 refine Zc (Zk rfl (Za (Zi (Zb (Zb (Zd ?_))))))
 refine Zc (Zx1 [] rfl rfl VT.en5 (works_c) ?_)
 refine Zc (Zl2 rfl (Za (Zi ?_)))
 refine Zq1 rfl (rfl) ?_
 refine Zi1 (Zi (Zb (Zb (Zd (Zc (Zv 0 VT.ty24 rfl rfl rfl ?_))))))
 by_cases hU : unitF u = 0
 ·
  have hC := Check_c u
  rw [hU] at hC
  have hfs := fns_ok hU
  refine Zc (Zx1 [.tmp 17] rfl rfl VT.en6 (hC) ?_)
  refine Zc (Zj1 rfl rfl rfl (Zc (Zl rfl ?_)))
  refine Zj2 (q := 20) rfl (fun hq20 => ?_) (fun hq20 => ?_)
  · exact absurd hq20 (by decide)
  ·
   refine Zc (Zv 0 VT.ty24 rfl rfl rfl ?_) (Zy0 hq20)
   refine Zc (Zm3 [.tmp 21] [] _ rfl rfl VT.en7 (.refl _) (simple_c hU) ?_) (Zy0 hq20)
   rintro _ _ ⟨rfl, sb, rfl⟩
   refine Zc (Zl2 rfl ?_) (Zy0 hq20)
   refine Zc (Zt1 rfl hq20 rfl ?_)
   refine Za (Zi ?_)
   refine Zo1 rfl (fun h24 => ?_) (fun h24 => ?_)
   ·
    refine Zb (Zd (Zc (Zk rfl (Za (Zi (Zf1 ?_))))))
    refine Zd1 (Zg1 rfl (.tmp rfl) ?_)
    rfl
   ·
    refine Zi1 (Zi (Zb (Zd (Zc (Zv 0 VT.ty24 rfl rfl rfl ?_)))))
    by_cases hS : SmallU u
    ·
     refine Zc (Zx1 [.tmp 26, .func 9] rfl rfl VT.en8 (each_ok hU hS) ?_)
     refine Zc (Zl rfl (Zc (Zg2 rfl rfl (Zc (Zg2 rfl rfl ?_)))))
     refine Zc (Zb2 VT.zr24 _ rfl rfl (fun g3 => ?_))
     refine Zc (Zx 0 VT.ty24 rfl rfl rfl rfl rfl (Zc (Zk rfl (Za (Zi (Zb (Zb (Zd (Zc (Zl rfl (Zc (Zj1 rfl rfl rfl (Za (Zi ?_))))))))))))))
     refine Zm1 rfl (fun h31 => ?_) (fun h31 => ?_)
     · exact absurd rfl h31
     ·
      refine Zi1 (Zi (Zb (Zb (Zd (Zc (Zj VT.fa24_0 rfl (Zc (Zu 0 VT.ty22 rfl rfl rfl ?_))))))))
      refine Zc (Zd2 (n := (splitU u).fns.length) Try.underlying22 rfl (by simp) (fun hl36 => ?_))
      refine Zc (Zl rfl (Za (Zi (Zs ?_))))
      refine Zi2 (ι := Nat) (fun k => (splitU u).fns.length - k) (fun k => [(1, some (.ptr g1 0)), (3, some (.ptr g3 0)), (35, some (funcsX (splitU u).fns)), (36, some (.int (splitU u).fns.length)), (37, some (.int k))]) (fun k => [.cells g3 24 [funcsX (splitU u).fns, .int u.main], .cells g1 24 [funcsX u.fns, .int u.main]]) (fun k => k ≤ (splitU u).fns.length) 0 (Nat.zero_le _) ⟨rfl, rfl, rfl, rfl, rfl, trivial⟩ (Drops.keep (Drops.keep (Zt2 _))) ?_
      rintro k hk
      change k ≤ (splitU u).fns.length at hk
      refine Zb (Zd (Zc (Zj1 rfl rfl rfl (Za (Zi (Zb ?_))))))
      refine Zn1 rfl (fun h38 => ?_) (fun h38 => ?_)
      ·
       obtain ⟨g, hg⟩ := get_of_lt (splitU u).fns k h38
       obtain ⟨f, hfm, rfl⟩ := List.mem_map.1 (List.mem_of_getElem? hg)
       have h0 := hfs f hfm
       have hl := hS f hfm
       have g0 := split_ok h0 hl
       have gok := func_ok g0
       have hPr := Preds_c (splitF f)
       rw [if_pos g0, g0] at hPr
       have hpl := predsF_len (splitF f).blocks
       have hag := split_again h0 hl
       refine Zi1 (Zi (Zb (Zs (Zb (Zd ?_)))))
       refine Zc (Zz (el := funcV (splitF f)) VT.sl22 rfl rfl (by omega) (get_mapS _ hg) (fun a39 => ?_))
       refine Zc (Za2 VT.ty34 rfl rfl ?_)
       refine Zc (Zb2 VT.zr34 _ rfl rfl (fun g6 => ?_))
       refine Zc (Zx 0 VT.ty34 rfl rfl rfl rfl rfl (Za (Zi (Zb (Zd (Zc (Zv 0 VT.ty34 rfl rfl rfl ?_)))))))
       refine Zc (Zx1 [.tmp 42] rfl rfl VT.en10 (hPr) ?_)
       refine Zc (Zl rfl (Zc (Zg2 rfl rfl (Zc (Zg2 rfl rfl (Zc (Zk rfl (Zc (Zk rfl (Za (Zi (Zb (Zb (Zd (Zc (Zl rfl (Zc (Zj1 rfl rfl rfl (Za (Zi ?_))))))))))))))))))))
       refine Zm1 rfl (fun h47 => ?_) (fun h47 => ?_)
       · exact absurd rfl h47
       ·
        refine Zi1 (Zi (Zb (Zb (Zd (Zc (Zj VT.fa34_1 rfl (Zc (Zu 0 VT.ty32 rfl rfl rfl ?_))))))))
        refine Zc (Zd2 (n := (splitF f).blocks.length) Try.underlying32 rfl (by simp) (fun hl50 => ?_))
        refine Zc (Zl rfl (Za (Zi (Zs ?_))))
        refine Zi2 (ι := Nat) (fun j => (splitF f).blocks.length - j) (fun j => [(1, some (.ptr g1 0)), (3, some (.ptr g3 0)), (35, some (funcsX (splitU u).fns)), (36, some (.int (splitU u).fns.length)), (37, some (.int k)), (6, some (.ptr g6 0)), (7, some (rowsX (predsF (splitF f).blocks))), (49, some (blocksX (splitF f).blocks)), (50, some (.int (splitF f).blocks.length)), (51, some (.int j))]) (fun j => [.cells g6 34 [.int (splitF f).name, blocksX (splitF f).blocks], .cells g3 24 [funcsX (splitU u).fns, .int u.main], .cells g1 24 [funcsX u.fns, .int u.main]]) (fun j => j ≤ (splitF f).blocks.length) 0 (Nat.zero_le _) ⟨rfl, rfl, rfl, rfl, rfl, rfl, rfl, rfl, rfl, rfl, trivial⟩ (Drops.keep (Drops.keep (Drops.keep (Zt2 _)))) ?_
        rintro j hj
        change j ≤ (splitF f).blocks.length at hj
        refine Zb (Zd (Zc (Zj1 rfl rfl rfl (Za (Zi (Zb ?_))))))
        refine Zn1 rfl (fun h52 => ?_) (fun h52 => ?_)
        ·
         obtain ⟨c, hc⟩ := get_of_lt (splitF f).blocks j h52
         have hcm := List.mem_of_getElem? hc
         refine Zi1 (Zi (Zb (Zs (Zb (Zd ?_)))))
         refine Zc (Zz (el := blockV c) VT.sl32 rfl rfl (by omega) (get_mapS _ hc) (fun a53 => ?_))
         refine Zc (Za2 VT.ty44 rfl rfl ?_)
         refine Zc (Zb2 VT.zr44 _ rfl rfl (fun g10 => ?_))
         refine Zc (Zx 0 VT.ty44 rfl rfl rfl rfl rfl (Za (Zi (Zb (Zd (Zc (Zj VT.fa44_2 rfl (Zc (Zj VT.fa42_4 rfl (Zc (Zu 0 VT.ty40 rfl rfl rfl ?_)))))))))))
         refine Zc (Zd2 (n := c.term.to.length) Try.underlying40 rfl (by simp) (fun hl58 => ?_))
         refine Zc (Zl rfl (Za (Zi (Zs ?_))))
         refine Zi2 (ι := Nat) (fun m => c.term.to.length - m) (fun m => [(1, some (.ptr g1 0)), (3, some (.ptr g3 0)), (35, some (funcsX (splitU u).fns)), (36, some (.int (splitU u).fns.length)), (37, some (.int k)), (6, some (.ptr g6 0)), (7, some (rowsX (predsF (splitF f).blocks))), (49, some (blocksX (splitF f).blocks)), (50, some (.int (splitF f).blocks.length)), (51, some (.int j)), (10, some (.ptr g10 0)), (57, some (edgesX c.term.to)), (58, some (.int c.term.to.length)), (59, some (.int m))]) (fun m => [.cells g10 44 (blockV c).leaves, .cells g6 34 [.int (splitF f).name, blocksX (splitF f).blocks], .cells g3 24 [funcsX (splitU u).fns, .int u.main], .cells g1 24 [funcsX u.fns, .int u.main]]) (fun m => m ≤ c.term.to.length) 0 (Nat.zero_le _) ⟨rfl, rfl, rfl, rfl, rfl, rfl, rfl, rfl, rfl, rfl, rfl, rfl, rfl, rfl, trivial⟩ (Drops.keep (Drops.keep (Drops.keep (Drops.keep (Zt2 _))))) ?_
         rintro m hm
         change m ≤ c.term.to.length at hm
         refine Zb (Zd (Zc (Zj1 rfl rfl rfl (Za (Zi (Zb ?_))))))
         refine Zn1 rfl (fun h60 => ?_) (fun h60 => ?_)
         ·
          obtain ⟨x, hx⟩ := get_of_lt c.term.to m h60
          have hxm := List.mem_of_getElem? hx
          obtain ⟨hE1, hE2⟩ := gok.edges c hcm x hxm
          obtain ⟨P, hP⟩ := get_of_lt (predsF (splitF f).blocks) x.block.toNat (by omega)
          have hcr := split_crit h0 hl c hcm x hxm
          refine Zi1 (Zi (Zb (Zs (Zb (Zd ?_)))))
          refine Zc (Zz (el := edgeV x) VT.sl40 rfl rfl (by omega) (get_mapS _ hx) (fun a61 => ?_))
          refine Zc (Za2 VT.ty46 rfl rfl ?_)
          refine Zc (Zb2 VT.zr46 _ rfl rfl (fun g12 => ?_))
          refine Zc (Zx 0 VT.ty46 rfl rfl rfl rfl rfl (Za (Zi (Zb (Zd (Zc (Zj VT.fa44_2 rfl (Zc (Zj VT.fa42_4 rfl (Zc (Zu 1 VT.ty40 rfl rfl rfl ?_)))))))))))
          refine Zc (Zd2 (n := c.term.to.length) Try.underlying40 rfl (by simp) (fun hl66 => ?_))
          refine Zc (Zj1 rfl rfl rfl (Zc (Zl rfl ?_)))
          refine Zj2 (q := 68) rfl (fun hq68 => ?_) (fun hq68 => ?_)
          ·
           have hx68 := of_decide_eq_true hq68
           refine Zc (Zl rfl ?_) (Zy1 hq68)
           refine Zc (Zj VT.fa46_0 rfl ?_) (Zy1 hq68)
           refine Zc (Zu 0 VT.ty3 rfl rfl rfl ?_) (Zy1 hq68)
           refine Zc (Zz (el := intsX P) VT.sl35 rfl rfl (by omega) (get_mapS _ hP) (fun a72 => ?_)) (Zy1 hq68)
           refine Zc (Zz1 VT.ty38 rfl rfl ?_) (Zy1 hq68)
           refine Zc (Zd2 (n := P.length) Try.underlying38 rfl (by simp) (fun hl74 => ?_)) (Zy1 hq68)
           refine Zc (Zj1 rfl rfl rfl ?_) (Zy1 hq68)
           refine Zc (Zs1 rfl hq68 rfl ?_)
           refine Za (Zi ?_)
           refine Zn1 rfl (fun h76 => ?_) (fun h76 => ?_)
           · exact (crit_no hcr hP hx68 h76).elim
           ·
            refine Zi1 (Zb1 (Zi (Zd ?_)))
            refine Zc (Zh2 rfl rfl (by omega) ?_)
            refine Zc (Zl rfl (Za (Zi ?_)))
            exact ⟨m + 1, (by (try simp only []); omega), (by omega), ⟨rfl, rfl, rfl, rfl, rfl, rfl, rfl, rfl, rfl, rfl, rfl, rfl, rfl, rfl, trivial⟩, (Drops.drop (Drops.keep (Drops.keep (Drops.keep (Drops.keep (Zt2 _))))))⟩
          ·
           refine Zk1 hq68 ?_
           refine Zk1 hq68 ?_
           refine Zk1 hq68 ?_
           refine Zk1 hq68 ?_
           refine Zk1 hq68 ?_
           refine Zk1 hq68 ?_
           refine Zk1 hq68 ?_
           refine Zc (Zt1 rfl hq68 rfl ?_)
           refine Za (Zi ?_)
           refine Zq1 rfl rfl ?_
           refine Zi1 (Zb1 (Zi (Zd ?_)))
           refine Zc (Zh2 rfl rfl (by omega) ?_)
           refine Zc (Zl rfl (Za (Zi ?_)))
           exact ⟨m + 1, (by (try simp only []); omega), (by omega), ⟨rfl, rfl, rfl, rfl, rfl, rfl, rfl, rfl, rfl, rfl, rfl, rfl, rfl, rfl, trivial⟩, (Drops.drop (Drops.keep (Drops.keep (Drops.keep (Drops.keep (Zt2 _))))))⟩
         ·
          refine Zt (Ze1 (Ze1 (Zc1 (Zb1 (Zi (Zd ?_))))))
          refine Zc (Zh2 rfl rfl (by omega) ?_)
          refine Zc (Zl rfl (Za (Zi ?_)))
          exact ⟨j + 1, (by (try simp only []); omega), (by omega), ⟨rfl, rfl, rfl, rfl, rfl, rfl, rfl, rfl, rfl, rfl, trivial⟩, (Drops.drop (Drops.keep (Drops.keep (Drops.keep (Zt2 _)))))⟩
        ·
         refine Zt (Ze1 (Ze1 (Zc1 (Zi (Zb (Zd (Zc (Zv 0 VT.ty34 rfl rfl rfl ?_))))))))
         refine Zc (Zu2 (Zx1 [.tmp 80] rfl rfl VT.en9 (Split_0 g0 (by rw [hag]; omega)) ⟨rfl, rfl⟩) ((V.le.of_eq (by rw [hag]) : V.le _ (.tup [funcV (splitF f), .int 0]))) ?_)
         refine Zc (Zl rfl (Zc (Zg2 rfl rfl (Zc (Zg2 rfl rfl ?_)))))
         refine Zc (Zb2 VT.zr34 _ rfl rfl (fun g13 => ?_))
         refine Zc (Zx 0 VT.ty34 rfl rfl rfl rfl rfl (Zc (Zk rfl (Za (Zi (Zb (Zd (Zc (Zl rfl (Zc (Zj1 rfl rfl rfl (Zc (Zl rfl ?_)))))))))))))
         refine Zj2 (q := 86) rfl (fun hq86 => ?_) (fun hq86 => ?_)
         · exact absurd hq86 (by decide)
         ·
          refine Zc (Zv 1 VT.ty34 rfl rfl rfl ?_) (Zy0 hq86)
          refine Zc (Zv 0 VT.ty34 rfl rfl rfl ?_) (Zy0 hq86)
          refine Zc (Zx1 [.tmp 87, .tmp 88] rfl rfl VT.en11 (SameFunc_c (splitF f)) ?_) (Zy0 hq86)
          refine Zc (Zl2 rfl ?_) (Zy0 hq86)
          refine Zc (Zt1 rfl hq86 rfl ?_)
          refine Za (Zi ?_)
          refine Zo1 rfl (fun h91 => ?_) (fun h91 => ?_)
          · cases h91
          ·
           refine Zi1 (Zb1 (Zi (Zd ?_)))
           refine Zc (Zh2 rfl rfl (by omega) ?_)
           refine Zc (Zl rfl (Za (Zi ?_)))
           exact ⟨k + 1, (by (try simp only []); omega), (by omega), ⟨rfl, rfl, rfl, rfl, rfl, trivial⟩, (Drops.drop (Drops.drop (Drops.keep (Drops.keep (Zt2 _)))))⟩
      ·
       refine Zt (Ze1 (Ze1 (Zc1 (Zi (Zb (Zd (Zc (Zv 1 VT.ty24 rfl rfl rfl (Zc (Zv 0 VT.ty24 rfl rfl rfl ?_))))))))))
       refine Zc (Zx1 [.tmp 93, .tmp 94] rfl rfl VT.en12 (alike_c fun h => split_run hU (split_unit hU hS) h (by decide) (by decide) (by decide)) ?_)
       refine Zc (Zk rfl (Za (Zi (Zf1 ?_))))
       refine Zg1 rfl (.tmp rfl) ?_
       rfl
    ·
     refine Zc (Zx1 [.tmp 26, .func 9] rfl rfl VT.en8 (each_big hU hS) ?_)
     refine Zc (Zl rfl (Zc (Zg2 rfl rfl (Zc (Zg2 rfl rfl ?_)))))
     refine Zc (Zb2 VT.zr24 _ rfl rfl (fun g3 => ?_))
     refine Zc (Zx 0 VT.ty24 rfl rfl rfl rfl rfl (Zc (Zk rfl (Za (Zi (Zb (Zb (Zd (Zc (Zl rfl (Zc (Zj1 rfl rfl rfl (Za (Zi ?_))))))))))))))
     refine Zm1 rfl (fun h31 => ?_) (fun h31 => ?_)
     ·
      refine Zb (Zd (Zc (Zl rfl (Zc (Zj1 rfl rfl rfl (Zc (Zk rfl (Za (Zi (Zf1 ?_))))))))))
      refine Zd1 (Zg1 rfl (.tmp rfl) ?_)
      rfl
     · exact absurd h31 (by decide)
 ·
  refine Zc (Zx1 [.tmp 17] rfl rfl VT.en6 (Check_c u) ?_)
  refine Zc (Zj1 rfl rfl rfl (Zc (Zl rfl ?_)))
  refine Zj2 (q := 20) rfl (fun hq20 => ?_) (fun hq20 => ?_)
  ·
   refine Zk0 hq20 ?_
   refine Zk0 hq20 ?_
   refine Zk0 hq20 ?_
   refine Zc (Zs1 rfl hq20 rfl ?_)
   refine Za (Zi ?_)
   refine Zp1 rfl rfl ?_
   refine Zb (Zd (Zc (Zk rfl (Za (Zi (Zf1 ?_))))))
   refine Zd1 (Zg1 rfl (.tmp rfl) ?_)
   rfl
  · exact absurd (by simpa using hq20) hU
end Go.Proofs.Ytaldllbomhgciaa.X33
