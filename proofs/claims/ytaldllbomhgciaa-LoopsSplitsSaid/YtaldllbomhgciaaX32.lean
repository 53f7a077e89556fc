import Derived.Test.YtaldllbomhgciaaVT
import Derived.Test.YtaldllbomhgciaaS2
import Derived.Test.YtaldllbomhgciaaVK
import Derived.Test.YtaldllbomhgciaaVM
import Derived.Test.YtaldllbomhgciaaDZ
import Derived.Test.YtaldllbomhgciaaXS
import Derived.Test.YtaldllbomhgciaaX1
import Derived.Test.YtaldllbomhgciaaX2
import Derived.Test.YtaldllbomhgciaaX3
import Derived.Test.YtaldllbomhgciaaX4
import Derived.Test.YtaldllbomhgciaaX5
import Derived.Test.YtaldllbomhgciaaX6
import Derived.Test.YtaldllbomhgciaaX7
import Derived.Test.YtaldllbomhgciaaX8
import Derived.Test.YtaldllbomhgciaaX9
import Derived.Test.YtaldllbomhgciaaX10
import Derived.Test.YtaldllbomhgciaaX12
import Derived.Test.YtaldllbomhgciaaX13
import Derived.Test.YtaldllbomhgciaaX14
import Derived.Test.YtaldllbomhgciaaX20
import Derived.Test.YtaldllbomhgciaaX22
import Derived.Test.YtaldllbomhgciaaX23
import Derived.Test.YtaldllbomhgciaaX25
import Derived.Test.YtaldllbomhgciaaX26
import Derived.Test.YtaldllbomhgciaaX30
set_option linter.unusedVariables false
set_option linter.unusedSimpArgs false
namespace Go.Proofs.Ytaldllbomhgciaa.X32
open Go.VL Go.SM Go.Proofs.Ytaldllbomhgciaa Go.Proofs.Ytaldllbomhgciaa.XS Go.Proofs.Ytaldllbomhgciaa.X1 Go.Proofs.Ytaldllbomhgciaa.X2 Go.Proofs.Ytaldllbomhgciaa.X3 Go.Proofs.Ytaldllbomhgciaa.X4 Go.Proofs.Ytaldllbomhgciaa.X5 Go.Proofs.Ytaldllbomhgciaa.X6 Go.Proofs.Ytaldllbomhgciaa.X7 Go.Proofs.Ytaldllbomhgciaa.X8 Go.Proofs.Ytaldllbomhgciaa.X9 Go.Proofs.Ytaldllbomhgciaa.X10 Go.Proofs.Ytaldllbomhgciaa.X12 Go.Proofs.Ytaldllbomhgciaa.X13 Go.Proofs.Ytaldllbomhgciaa.X14 Go.Proofs.Ytaldllbomhgciaa.X20 Go.Proofs.Ytaldllbomhgciaa.X22 Go.Proofs.Ytaldllbomhgciaa.X23 Go.Proofs.Ytaldllbomhgciaa.X25 Go.Proofs.Ytaldllbomhgciaa.X26 Go.Proofs.Ytaldllbomhgciaa.X30
theorem Find_0 {f : SFunc} (h0 : funcF f = 0) : VCalls Try.prog 13 [funcV f] [] fun r S' => S' = [] ∧ ∃ L3, LInv (findF f) L3 ∧ r = .tup [.sl 3 none (L3.map lpV), .int 0] := (Find_c f).mono fun r S' ⟨h1, h2⟩ => ⟨h1, h2.elim (fun h => h.2) fun h => absurd h0 h.1⟩
theorem lget {L0 : List (Int × List Int)} {L3 : List (Int × List Int × Int)} (h : LInv L0 L3) {i : Nat} {x : Int × List Int × Int} (hx : L3[i]? = some x) : L0[i]? = some (x.1, x.2.1) := by
  rw [← h.1, List.getElem?_map, hx]
  rfl
theorem llen {L0 : List (Int × List Int)} {L3 : List (Int × List Int × Int)} (h : LInv L0 L3) : L3.length = L0.length := by rw [← h.1, List.length_map]
open Go.VL renaming VOps_nil → Za, VW_seq → Zb, VW_region → Zd, Needs_nil → Ze, want_of → Zg, Then_n → Zi, V_assign → Zk, V_move → Zl, eqRes → Zm, vopT → Zn, good0 → Zq, VW_block → Zs, VW_exit → Zt, V_load_agg → Zv, V_store_agg → Zx, V_indexAddr → Zz, InBlock_n → Zb1, InBlock_hit → Zc1, Then_r → Zd1, Then_e → Ze1, VW_ret → Zf1, VRet_one → Zg1, VW_skip → Zi1, V_bin → Zj1, VW_condNe → Zm1, VW_condP → Zn1, VW_condF → Zq1, V_pickF → Zt1, V_fieldAddr_ep → Zw1, V_callP → Zx1, V_load_ep → Zz1, V_alloc → Zb2, V_box → Zc2, V_lenN → Zd2, V_extract → Zg2, V_add → Zh2, VW_loopF → Zi2, VOps_split → Zj2, V_not → Zl2, epRes → Zb3, epE → Zc3, V_call → Zm3
set_option maxRecDepth 100000 in
set_option maxHeartbeats 8000000 in
theorem loopsSplits_c (f : SFunc) : VPure Try.prog 4 [funcV f] (.bool true) := by
 refine V_start (nt := 74) Try.func4 rfl rfl rfl ?_
 refine Zb (Zd ?_)
 refine Zc (Zc2 rfl rfl (fun g1 => ?_))
 refine Zc (Zk rfl (Za (Zi (Zb (Zb (Zd ?_))))))
 refine Zc (Zx1 [] rfl rfl VT.en5 (works_c) ?_)
 refine Zc (Zl2 rfl (Za (Zi ?_)))
 refine Zq1 rfl (rfl) ?_
 refine Zi1 (Zi (Zb (Zd (Zc (Zv 0 VT.ty34 rfl rfl rfl ?_)))))
 by_cases h0 : funcF f = 0
 by_cases hl : 128 < ((splitF f).blocks.length : Int)
 ·
  refine Zc (Zx1 [.tmp 13] rfl rfl VT.en9 (Split_big h0 hl) ?_)
  refine Zc (Zl rfl (Zc (Zg2 rfl rfl (Zc (Zg2 rfl rfl ?_)))))
  refine Zc (Zb2 VT.zr34 _ rfl rfl (fun g3 => ?_))
  refine Zc (Zx 0 VT.ty34 rfl rfl rfl rfl rfl (Zc (Zk rfl (Za (Zi (Zb (Zb (Zd (Zc (Zl rfl (Zc (Zj1 rfl rfl rfl (Za (Zi ?_))))))))))))))
  refine Zm1 rfl (fun h18 => ?_) (fun h18 => ?_)
  ·
   refine Zb (Zd (Zc (Zk rfl (Za (Zi (Zf1 ?_))))))
   refine Zd1 (Zg1 rfl (.tmp rfl) ?_)
   rfl
  · exact absurd h18 (by decide)
 ·
  have g0 := split_ok h0 (by omega)
  have hlaw := loops_split h0 (by omega)
  refine Zc (Zx1 [.tmp 13] rfl rfl VT.en9 (Split_0 h0 hl) ?_)
  refine Zc (Zl rfl (Zc (Zg2 rfl rfl (Zc (Zg2 rfl rfl ?_)))))
  refine Zc (Zb2 VT.zr34 _ rfl rfl (fun g3 => ?_))
  refine Zc (Zx 0 VT.ty34 rfl rfl rfl rfl rfl (Zc (Zk rfl (Za (Zi (Zb (Zb (Zd (Zc (Zl rfl (Zc (Zj1 rfl rfl rfl (Za (Zi ?_))))))))))))))
  refine Zm1 rfl (fun h18 => ?_) (fun h18 => ?_)
  · exact absurd rfl h18
  ·
   refine Zi1 (Zi (Zb (Zd (Zc (Zv 1 VT.ty34 rfl rfl rfl ?_)))))
   refine Zc (Zm3 [.tmp 20] [] _ rfl rfl VT.en13 (.refl _) (Find_0 h0) ?_)
   rintro _ _ ⟨rfl, L3, hI, rfl⟩
   refine Zc (Zl rfl (Zc (Zg2 rfl rfl (Zc (Zg2 rfl rfl (Zc (Zk rfl (Zc (Zk rfl (Za (Zi (Zb (Zd (Zc (Zv 0 VT.ty34 rfl rfl rfl ?_)))))))))))))))
   refine Zc (Zm3 [.tmp 25] [] _ rfl rfl VT.en13 (.refl _) (Find_0 g0) ?_)
   rintro _ _ ⟨rfl, L4, hJ, rfl⟩
   refine Zc (Zl rfl (Zc (Zg2 rfl rfl (Zc (Zg2 rfl rfl (Zc (Zk rfl (Zc (Zk rfl (Za (Zi ?_)))))))))))
   have hln : L4.length = L3.length := by rw [llen hI, llen hJ]; exact hlaw.1
   refine Zb (Zb (Zd (Zc (Zl rfl (Zc (Zj1 rfl rfl rfl (Zc (Zl rfl ?_))))))))
   refine Zj2 (q := 31) rfl (fun hq31 => ?_) (fun hq31 => ?_)
   · exact absurd hq31 (by decide)
   ·
    refine Zc (Zl rfl ?_) (Zy0 hq31)
    refine Zc (Zj1 rfl rfl rfl ?_) (Zy0 hq31)
    refine Zc (Zt1 rfl hq31 rfl ?_)
    refine Zc (Zl rfl ?_)
    refine Zj2 (q := 35) rfl (fun hq35 => ?_) (fun hq35 => ?_)
    · exact absurd hq35 (by decide)
    ·
     refine Zc (Zl rfl ?_) (Zy0 hq35)
     refine Zc (Zd2 (n := L3.length) Try.underlying50 rfl (by simp) (fun hl37 => ?_)) (Zy0 hq35)
     refine Zc (Zl rfl ?_) (Zy0 hq35)
     refine Zc (Zd2 (n := L4.length) Try.underlying50 rfl (by simp) (fun hl39 => ?_)) (Zy0 hq35)
     refine Zc (Zj1 rfl rfl rfl ?_) (Zy0 hq35)
     refine Zc (Zt1 rfl hq35 rfl ?_)
     refine Za (Zi ?_)
     refine Zm1 rfl (fun h41 => ?_) (fun h41 => ?_)
     · exact absurd (by rw [hln]) h41
     ·
      refine Zi1 (Zi (Zb (Zb (Zd (Zc (Zl rfl ?_))))))
      refine Zc (Zd2 (n := L3.length) Try.underlying50 rfl (by simp) (fun hl43 => ?_))
      refine Zc (Zl rfl (Za (Zi (Zs ?_))))
      refine Zi2 (ι := Nat) (fun i => L3.length - i) (fun i => [(5, some (.sl 3 none (L3.map lpV))), (7, some (.sl 3 none (L4.map lpV))), (42, some (.sl 3 none (L3.map lpV))), (43, some (.int L3.length)), (44, some (.int i))]) (fun i => []) (fun i => i ≤ L3.length) 0 (Nat.zero_le _) ⟨rfl, rfl, rfl, rfl, rfl, trivial⟩ (Drops.nil _) ?_
      rintro i hi
      change i ≤ L3.length at hi
      refine Zb (Zd (Zc (Zj1 rfl rfl rfl (Za (Zi (Zb ?_))))))
      refine Zn1 rfl (fun h45 => ?_) (fun h45 => ?_)
      ·
       obtain ⟨x, hx⟩ := get_of_lt L3 i h45
       obtain ⟨y, hy⟩ := get_of_lt L4 i (by omega)
       have hd := hlaw.2 i _ _ (lget hI hx) (lget hJ hy)
       have hd1 : y.1 = x.1 := hd.1
       have hd2 : x.2.1.length ≤ y.2.1.length := hd.2
       have hq58 : (x.1 != y.1) = false := by rw [hd1]; simp
       refine Zi1 (Zi (Zb (Zs (Zb (Zd (Zc (Zl rfl (Zc (Zk rfl (Za (Zi (Zb ?_))))))))))))
       refine VW_drawR (G := Unit) [([], [5], []), ([], [9], []), ([1, 0], [47, 48], []), ([2, 1, 0], [49], []), (dn 4, [50], []), ([], [7], []), ([], [9], []), ([6, 5], [52, 53], []), ([7, 6, 5], [54], []), ([8, 7, 6, 5], [55], []), (dn 10, [51, 56], []), (dn 11, [57], []), (dn 12, [5, 58], []), (dn 12, [9, 58], []), (dn 14, [59, 60, 58], []), (dn 15, [61, 58], []), (dn 16, [62, 58], []), (dn 17, [63, 58], []), (dn 12, [7, 58], []), (dn 12, [9, 58], []), ([19, 18, 11, 10, 9, 8, 7, 6, 5, 4, 3, 2, 1, 0], [65, 66, 58], []), ([20, 19, 18, 11, 10, 9, 8, 7, 6, 5, 4, 3, 2, 1, 0], [67, 58], []), ([21, 20, 19, 18, 11, 10, 9, 8, 7, 6, 5, 4, 3, 2, 1, 0], [68, 58], []), ([22, 21, 20, 19, 18, 11, 10, 9, 8, 7, 6, 5, 4, 3, 2, 1, 0], [69, 58], []), (dn 24, [64, 70, 58], []), (dn 25, [58, 71], [])] [] (constSt _) [72] [47, 48, 49, 50, 51, 52, 53, 54, 55, 56, 57, 58, 59, 60, 61, 62, 63, 64, 65, 66, 67, 68, 69, 70, 71, 72] rfl VT.mix ?_
       refine Zp (Zm _) (Zq (fun γ => Zf (fun _ h5 => Ze (Zn rfl (Zl h5 ⟨rfl, rfl⟩))))) ?_
       refine Zp (Zm _) (Zq (fun γ => Zf (fun _ h9 => Ze (Zn rfl (Zl h9 ⟨rfl, rfl⟩))))) ?_
       refine Zp (Zb3 _) (Zq (fun γ => Zw 0 1 rfl (fun _ h47 => Zw 1 0 rfl (fun _ h48 => Ze (Zn rfl (Zz (el := lpV x) VT.sl50 h47 h48 (by omega) (get_mapS lpV hx) (fun a49 => ⟨⟨_, rfl⟩, rfl⟩))))))) ?_
       refine Zp (Zb3 _) (Zq (fun γ => Zw 2 0 rfl (fun _ h49 => Ze (Zc3 h49 (fun a_49 e49 => Zn rfl (Zw1 VT.fa54_0 e49 rfl ⟨⟨_, rfl⟩, rfl⟩)))))) ?_
       refine Zp (Zm _) (Zq (fun γ => Zw 3 0 rfl (fun _ h50 => Ze (Zc3 h50 (fun a_50 e50 => Zn rfl (Zz1 VT.ty3 e50 rfl ⟨rfl, rfl⟩)))))) ?_
       refine Zp (Zm _) (Zq (fun γ => Zf (fun _ h7 => Ze (Zn rfl (Zl h7 ⟨rfl, rfl⟩))))) ?_
       refine Zp (Zm _) (Zq (fun γ => Zf (fun _ h9 => Ze (Zn rfl (Zl h9 ⟨rfl, rfl⟩))))) ?_
       refine Zp (Zb3 _) (Zq (fun γ => Zw 5 1 rfl (fun _ h52 => Zw 6 0 rfl (fun _ h53 => Ze (Zn rfl (Zz (el := lpV y) VT.sl50 h52 h53 (by omega) (get_mapS lpV hy) (fun a54 => ⟨⟨_, rfl⟩, rfl⟩))))))) ?_
       refine Zp (Zb3 _) (Zq (fun γ => Zw 7 0 rfl (fun _ h54 => Ze (Zc3 h54 (fun a_54 e54 => Zn rfl (Zw1 VT.fa54_0 e54 rfl ⟨⟨_, rfl⟩, rfl⟩)))))) ?_
       refine Zp (Zm _) (Zq (fun γ => Zw 8 0 rfl (fun _ h55 => Ze (Zc3 h55 (fun a_55 e55 => Zn rfl (Zz1 VT.ty3 e55 rfl ⟨rfl, rfl⟩)))))) ?_
       refine Zp (Zm _) (Zq (fun γ => Zw 4 5 rfl (fun _ h51 => Zw 9 0 rfl (fun _ h56 => Ze (Zn rfl (Zj1 h51 h56 rfl ⟨rfl, rfl⟩)))))) ?_
       refine Zp (Zm _) (Zq (fun γ => Zw 10 0 rfl (fun _ h57 => Ze (Zn rfl (Zl h57 ⟨rfl, rfl⟩))))) ?_
       refine Zp (Zm _) (Zq (fun γ => Zf (fun _ h5 => Zw 11 0 rfl (fun _ h58 => Ze (Zn (Zg rfl rfl h58 hq58) (Zl h5 ⟨rfl, rfl⟩)))))) ?_
       refine Zp (Zm _) (Zq (fun γ => Zf (fun _ h9 => Zw 11 1 rfl (fun _ h58 => Ze (Zn (Zg rfl rfl h58 hq58) (Zl h9 ⟨rfl, rfl⟩)))))) ?_
       refine Zp (Zb3 _) (Zq (fun γ => Zw 12 1 rfl (fun _ h59 => Zw 13 0 rfl (fun _ h60 => Zw 11 2 rfl (fun _ h58 => Ze (Zn (Zg rfl rfl h58 hq58) (Zz (el := lpV x) VT.sl50 h59 h60 (by omega) (get_mapS lpV hx) (fun a61 => ⟨⟨_, rfl⟩, rfl⟩)))))))) ?_
       refine Zp (Zb3 _) (Zq (fun γ => Zw 14 0 rfl (fun _ h61 => Zw 11 3 rfl (fun _ h58 => Ze (Zc3 h61 (fun a_61 e61 => Zn (Zg rfl rfl h58 hq58) (Zw1 VT.fa54_1 e61 rfl ⟨⟨_, rfl⟩, rfl⟩))))))) ?_
       refine Zp (Zm _) (Zq (fun γ => Zw 15 0 rfl (fun _ h62 => Zw 11 4 rfl (fun _ h58 => Ze (Zc3 h62 (fun a_62 e62 => Zn (Zg rfl rfl h58 hq58) (Zz1 VT.ty38 e62 rfl ⟨rfl, rfl⟩))))))) ?_
       refine Zp (Zm _) (Zq (fun γ => Zw 16 0 rfl (fun _ h63 => Zw 11 5 rfl (fun _ h58 => Ze (Zn (Zg rfl rfl h58 hq58) (Zd2 (n := x.2.1.length) Try.underlying38 h63 (by simp) (fun hl64 => ⟨rfl, rfl⟩))))))) ?_
       refine Zp (Zm _) (Zq (fun γ => Zf (fun _ h7 => Zw 11 6 rfl (fun _ h58 => Ze (Zn (Zg rfl rfl h58 hq58) (Zl h7 ⟨rfl, rfl⟩)))))) ?_
       refine Zp (Zm _) (Zq (fun γ => Zf (fun _ h9 => Zw 11 7 rfl (fun _ h58 => Ze (Zn (Zg rfl rfl h58 hq58) (Zl h9 ⟨rfl, rfl⟩)))))) ?_
       refine Zp (Zb3 _) (Zq (fun γ => Zw 18 1 rfl (fun _ h65 => Zw 19 0 rfl (fun _ h66 => Zw 11 8 rfl (fun _ h58 => Ze (Zn (Zg rfl rfl h58 hq58) (Zz (el := lpV y) VT.sl50 h65 h66 (by omega) (get_mapS lpV hy) (fun a67 => ⟨⟨_, rfl⟩, rfl⟩)))))))) ?_
       refine Zp (Zb3 _) (Zq (fun γ => Zw 20 0 rfl (fun _ h67 => Zw 11 9 rfl (fun _ h58 => Ze (Zc3 h67 (fun a_67 e67 => Zn (Zg rfl rfl h58 hq58) (Zw1 VT.fa54_1 e67 rfl ⟨⟨_, rfl⟩, rfl⟩))))))) ?_
       refine Zp (Zm _) (Zq (fun γ => Zw 21 0 rfl (fun _ h68 => Zw 11 10 rfl (fun _ h58 => Ze (Zc3 h68 (fun a_68 e68 => Zn (Zg rfl rfl h58 hq58) (Zz1 VT.ty38 e68 rfl ⟨rfl, rfl⟩))))))) ?_
       refine Zp (Zm _) (Zq (fun γ => Zw 22 0 rfl (fun _ h69 => Zw 11 11 rfl (fun _ h58 => Ze (Zn (Zg rfl rfl h58 hq58) (Zd2 (n := y.2.1.length) Try.underlying38 h69 (by simp) (fun hl70 => ⟨rfl, rfl⟩))))))) ?_
       refine Zp (Zm _) (Zq (fun γ => Zw 17 6 rfl (fun _ h64 => Zw 23 0 rfl (fun _ h70 => Zw 11 12 rfl (fun _ h58 => Ze (Zn (Zg rfl rfl h58 hq58) (Zj1 h64 h70 rfl ⟨rfl, rfl⟩))))))) ?_
       refine Zp (Zm _) (Zq (fun γ => Zw 11 13 rfl (fun _ h58 => Zw 24 0 rfl (fun _ h71 => Ze (Zn rfl (Zt1 h58 hq58 h71 ⟨rfl, rfl⟩)))))) ?_
       refine DrawP_nil (fun γ => Zw 25 0 rfl (fun r72 h72 => Ze ?_))
       have e72 : r72 = some _ := h72
       subst e72
       clear h72
       refine Zi ?_
       refine Zn1 rfl (fun h72 => ?_) (fun h72 => ?_)
       · exact absurd h72 (by omega)
       ·
        refine Zi1 (Zb1 (Zi (Zd ?_)))
        refine Zc (Zh2 rfl rfl (by omega) ?_)
        refine Zc (Zl rfl (Za (Zi ?_)))
        exact ⟨(i + 1), (by (try simp only []); omega), (by omega), ⟨rfl, rfl, rfl, rfl, rfl, trivial⟩, (Drops.nil _)⟩
      ·
       refine Zt (Ze1 (Ze1 (Zc1 (Zi (Zb (Zd (Zc (Zk rfl (Za (Zi (Zf1 ?_)))))))))))
       refine Zg1 rfl (.tmp rfl) ?_
       rfl
 ·
  refine Zc (Zx1 [.tmp 13] rfl rfl VT.en9 (Split_e h0) ?_)
  refine Zc (Zl rfl (Zc (Zg2 rfl rfl (Zc (Zg2 rfl rfl ?_)))))
  refine Zc (Zb2 VT.zr34 _ rfl rfl (fun g3 => ?_))
  refine Zc (Zx 0 VT.ty34 rfl rfl rfl rfl rfl (Zc (Zk rfl (Za (Zi (Zb (Zb (Zd (Zc (Zl rfl (Zc (Zj1 rfl rfl rfl (Za (Zi ?_))))))))))))))
  refine Zm1 rfl (fun h18 => ?_) (fun h18 => ?_)
  ·
   refine Zb (Zd (Zc (Zk rfl (Za (Zi (Zf1 ?_))))))
   refine Zd1 (Zg1 rfl (.tmp rfl) ?_)
   rfl
  · exact absurd h18 h0
end Go.Proofs.Ytaldllbomhgciaa.X32
