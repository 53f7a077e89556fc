import Derived.Test.YtjekhhgjfelpgaaGreatX78
set_option linter.all false
open List renaming mem_of_getElem? → Ya, take_length → Yb
open Nat renaming zero_le → Yc
namespace Go.Proofs.YtjekhhgjfelpgaaGreat.X80
open Go.VL Go.SM Go.Proofs.YtjekhhgjfelpgaaGreat XS X1 X2 X3 X4 X5 X6 X7 X8 X9 X10 X12 X13 X14 X20 X22 X23 X25 X26 X36 X77 X78
theorem same_S {a b : List Int} (h : a = b) : sameI a b = true := by
  subst h
  simp [sameI]
def BigP (f : SFunc) : Prop := 128 < ((preF f).blocks.length : Int) ∨ 4096 < frAt f.blocks (freshF f.blocks) (preL f)
theorem Pre_0 {f : SFunc} (h : funcF f = 0) (hl : ¬ BigP f) : VPure Tryz.prog 9 [funcV f] (.tup [funcV (preF f), .int 0]) := by
  unfold BigP at hl
  have h1 := Preheaders_c f
  rwa [preX, if_neg (fun hn => hn h), if_neg hl] at h1
theorem Pre_big {f : SFunc} (h : funcF f = 0) (hl : BigP f) : VPure Tryz.prog 9 [funcV f] (.tup [.agg VT.zs34, .int 2]) := by
  unfold BigP at hl
  have h1 := Preheaders_c f
  rwa [preX, if_neg (fun hn => hn h), if_pos hl] at h1
theorem pre_fine {f : SFunc} (h : funcF f = 0) (hl : ¬ BigP f) : funcF (preF f) = 0 := by
  unfold BigP at hl
  exact pre_ok h (loopsOf_pre f) (by have h1 : (preF f).blocks.length ≤ 128 := by omega
                                     exact h1) (by omega)
def SmallP (u : SUnit) : Prop := ∀ f ∈ u.fns, ¬ BigP f
theorem fns_len {u : SUnit} (h : unitF u = 0) : u.fns.length ≤ 256 := by
  unfold unitF at h
  split at h
  · cases h
  · split at h
    · cases h
    · omega
theorem again_small {f : SFunc} (h0 : funcF f = 0) (g0 : funcF (preF f) = 0) : ¬ BigP (preF f) := by
  have gok := func_ok g0
  unfold BigP
  rw [pre_again h0 g0, pre_none h0 g0]
  have h1 := gok.len
  have h2 := (fresh_ok gok).2.1
  show ¬ (_ ∨ 4096 < freshF (preF f).blocks)
  omega
theorem cnt_T {x : SM.Loop} {P : List Int} {j : Nat} {p : Int} (h : P[j]? = some p) (hp : inL x p = true) : ((P.take (j + 1)).filter fun p => !inL x p).length = ((P.take j).filter fun p => !inL x p).length := by
  rw [take_snoc h, List.filter_append, List.filter_cons, hp]
  simp
theorem cnt_F {x : SM.Loop} {P : List Int} {j : Nat} {p : Int} (h : P[j]? = some p) (hp : inL x p = false) : ((P.take (j + 1)).filter fun p => !inL x p).length = ((P.take j).filter fun p => !inL x p).length + 1 := by
  rw [take_snoc h, List.filter_append, List.filter_cons, hp]
  simp
theorem cnt_le {x : SM.Loop} {P : List Int} {j : Nat} : ((P.take j).filter fun p => !inL x p).length ≤ j := Nat.le_trans (List.length_filter_le ..) (List.length_take_le ..)
set_option maxRecDepth 100000 in
theorem SameIns_c (i : SIns) : VPure Tryz.prog 37 [insV i, insV i] (.bool true) := by
 refine V_start (nt := 31) Tryz.func37 rfl rfl rfl ?_
 refine Zb (Zd ?_)
 refine Zc (Zc2 rfl rfl (fun g2 => ?_))
 refine Zc (Zc2 rfl rfl (fun g3 => ?_))
 refine Zc (Zk rfl (Za (Zi (Zb (Zd (Zc (Zj VT.fa70_0 rfl (Zc (Zu 1 VT.ty3 rfl rfl rfl (Zc (Zj VT.fa70_0 rfl (Zc (Zu 0 VT.ty3 rfl rfl rfl (Zc (Zj1 rfl rfl rfl (Zc (Zl rfl ?_)))))))))))))))))
 refine Zj2 (q := 10) rfl (fun hq10 => ?_) (fun hq10 => ?_)
 ·
  refine Zc (Zj VT.fa70_1 rfl ?_) (Zy1 hq10)
  refine Zc (Zu 1 VT.ty3 rfl rfl rfl ?_) (Zy1 hq10)
  refine Zc (Zj VT.fa70_1 rfl ?_) (Zy1 hq10)
  refine Zc (Zu 0 VT.ty3 rfl rfl rfl ?_) (Zy1 hq10)
  refine Zc (Zj1 rfl rfl rfl ?_) (Zy1 hq10)
  refine Zc (Zs1 rfl hq10 rfl ?_)
  refine Zc (Zl rfl ?_)
  refine Zj2 (q := 17) rfl (fun hq17 => ?_) (fun hq17 => ?_)
  ·
   refine Zc (Zj VT.fa70_2 rfl ?_) (Zy1 hq17)
   refine Zc (Zu 1 VT.ty3 rfl rfl rfl ?_) (Zy1 hq17)
   refine Zc (Zj VT.fa70_2 rfl ?_) (Zy1 hq17)
   refine Zc (Zu 0 VT.ty3 rfl rfl rfl ?_) (Zy1 hq17)
   refine Zc (Zj1 rfl rfl rfl ?_) (Zy1 hq17)
   refine Zc (Zs1 rfl hq17 rfl ?_)
   refine Zc (Zl rfl ?_)
   refine Zj2 (q := 24) rfl (fun hq24 => ?_) (fun hq24 => ?_)
   ·
    refine Zc (Zj VT.fa70_3 rfl ?_) (Zy1 hq24)
    refine Zc (Zu 1 VT.ty41 rfl rfl rfl ?_) (Zy1 hq24)
    refine Zc (Zj VT.fa70_3 rfl ?_) (Zy1 hq24)
    refine Zc (Zu 0 VT.ty41 rfl rfl rfl ?_) (Zy1 hq24)
    refine Zc (Zx1 [.tmp 26, .tmp 28] rfl rfl VT.en35 (SameInts_c i.args i.args none none) ?_) (Zy1 hq24)
    refine Zc (Zs1 rfl hq24 rfl ?_)
    refine Zc (Zk rfl (Za (Zi (Zf1 ?_))))
    refine Zg1 rfl (.tmp rfl) ?_
    exact congrArg V.bool (same_S rfl)
   · exact absurd hq24 (by simp)
  · exact absurd hq17 (by simp)
 · exact absurd hq10 (by simp)
set_option maxRecDepth 100000 in
set_option maxHeartbeats 4000000 in
theorem SameTerm_c (t : STerm) : VPure Tryz.prog 36 [termV t, termV t] (.bool true) := by
 refine V_start (nt := 73) Tryz.func36 rfl rfl rfl ?_
 refine Zb (Zd ?_)
 refine Zc (Zc2 rfl rfl (fun g2 => ?_))
 refine Zc (Zc2 rfl rfl (fun g3 => ?_))
 refine Zc (Zk rfl (Za (Zi (Zb (Zb (Zd (Zc (Zj VT.fa47_0 rfl (Zc (Zu 1 VT.ty3 rfl rfl rfl (Zc (Zj VT.fa47_0 rfl (Zc (Zu 0 VT.ty3 rfl rfl rfl (Zc (Zj1 rfl rfl rfl (Zc (Zl rfl ?_))))))))))))))))))
 refine Zj2 (q := 12) rfl (fun hq12 => ?_) (fun hq12 => ?_)
 · exact absurd hq12 (by simp)
 ·
  refine Zc (Zj VT.fa47_1 rfl ?_) (Zy0 hq12)
  refine Zc (Zu 1 VT.ty3 rfl rfl rfl ?_) (Zy0 hq12)
  refine Zc (Zj VT.fa47_1 rfl ?_) (Zy0 hq12)
  refine Zc (Zu 0 VT.ty3 rfl rfl rfl ?_) (Zy0 hq12)
  refine Zc (Zj1 rfl rfl rfl ?_) (Zy0 hq12)
  refine Zc (Zt1 rfl hq12 rfl ?_)
  refine Zc (Zl rfl ?_)
  refine Zj2 (q := 19) rfl (fun hq19 => ?_) (fun hq19 => ?_)
  · exact absurd hq19 (by simp)
  ·
   refine Zc (Zj VT.fa47_2 rfl ?_) (Zy0 hq19)
   refine Zc (Zu 1 VT.ty3 rfl rfl rfl ?_) (Zy0 hq19)
   refine Zc (Zj VT.fa47_2 rfl ?_) (Zy0 hq19)
   refine Zc (Zu 0 VT.ty3 rfl rfl rfl ?_) (Zy0 hq19)
   refine Zc (Zj1 rfl rfl rfl ?_) (Zy0 hq19)
   refine Zc (Zt1 rfl hq19 rfl ?_)
   refine Zc (Zl rfl ?_)
   refine Zj2 (q := 26) rfl (fun hq26 => ?_) (fun hq26 => ?_)
   · exact absurd hq26 (by simp)
   ·
    refine Zc (Zj VT.fa47_3 rfl ?_) (Zy0 hq26)
    refine Zc (Zu 1 VT.ty41 rfl rfl rfl ?_) (Zy0 hq26)
    refine Zc (Zj VT.fa47_3 rfl ?_) (Zy0 hq26)
    refine Zc (Zu 0 VT.ty41 rfl rfl rfl ?_) (Zy0 hq26)
    refine Zc (Zx1 [.tmp 28, .tmp 30] rfl rfl VT.en35 (SameInts_c t.cases t.cases none none) ?_) (Zy0 hq26)
    refine Zc (Zl2 rfl ?_) (Zy0 hq26)
    refine Zc (Zt1 rfl hq26 rfl ?_)
    refine Zc (Zl rfl ?_)
    refine Zj2 (q := 34) rfl (fun hq34 => ?_) (fun hq34 => ?_)
    · exact absurd hq34 (by rw [same_S rfl]; decide)
    ·
     refine Zc (Zj VT.fa47_4 rfl ?_) (Zy0 hq34)
     refine Zc (Zu 1 VT.ty45 rfl rfl rfl ?_) (Zy0 hq34)
     refine Zc (Zd2 (n := t.to.length) Tryz.underlying45 rfl (by simp) (fun hl37 => ?_)) (Zy0 hq34)
     refine Zc (Zj VT.fa47_4 rfl ?_) (Zy0 hq34)
     refine Zc (Zu 0 VT.ty45 rfl rfl rfl ?_) (Zy0 hq34)
     refine Zc (Zd2 (n := t.to.length) Tryz.underlying45 rfl (by simp) (fun hl40 => ?_)) (Zy0 hq34)
     refine Zc (Zj1 rfl rfl rfl ?_) (Zy0 hq34)
     refine Zc (Zt1 rfl hq34 rfl ?_)
     refine Za (Zi ?_)
     refine Zm1 rfl (fun h42 => ?_) (fun h42 => ?_)
     · exact absurd rfl h42
     ·
      refine Zi1 (Zi (Zb (Zb (Zd (Zc (Zj VT.fa47_4 rfl (Zc (Zu 1 VT.ty45 rfl rfl rfl ?_))))))))
      refine Zc (Zd2 (n := t.to.length) Tryz.underlying45 rfl (by simp) (fun hl45 => ?_))
      refine Zc (Zl rfl (Za (Zi (Zs ?_))))
      refine Zi2 (ι := Nat) (fun k => t.to.length - k) (fun k => [(2, some (.ptr g2 0)), (3, some (.ptr g3 0)), (44, some (edgesX t.to)), (45, some (.int t.to.length)), (46, some (.int k))]) (fun k => [.cells g3 47 (termV t).leaves, .cells g2 47 (termV t).leaves]) (fun k => k ≤ t.to.length) 0 (Yc _) ⟨rfl, rfl, rfl, rfl, rfl, trivial⟩ (Drops.keep (Drops.keep (Zt2 _))) ?_
      rintro k hk
      change k ≤ t.to.length at hk
      refine Zb (Zd (Zc (Zj1 rfl rfl rfl (Za (Zi (Zb ?_))))))
      refine Zn1 rfl (fun h47 => ?_) (fun h47 => ?_)
      ·
       obtain ⟨e, he⟩ := get_of_lt t.to k h47
       have hq60 : (e.block != e.block) = false := by simp
       refine Zi1 (Zi (Zb (Zs (Zb (Zd (Zc (Zl rfl ?_)))))))
       refine Zc (Zz (el := edgeV e) VT.sl45 rfl rfl (by omega) (get_mapS _ he) (fun a49 => ?_))
       refine Zc (Za2 VT.ty79 rfl rfl ?_)
       refine Zc (Zb2 VT.zr79 _ rfl rfl (fun g6 => ?_))
       refine Zc (Zk rfl (Zc (Zx 0 VT.ty79 rfl rfl rfl rfl rfl (Za (Zi (Zb ?_))))))
       refine VW_drawR (G := Unit) [([], [6], []), ([0], [51], []), ([], [3], []), ([2], [53], []), ([], [5], []), ([4, 3, 2], [54, 55], []), ([5, 4, 3, 2], [56], []), ([6, 5, 4, 3, 2], [57], []), (dn 8, [52, 58], []), (dn 9, [59], []), (dn 10, [6, 60], []), (dn 11, [61, 60], []), (dn 10, [3, 60], []), ([12, 9, 8, 7, 6, 5, 4, 3, 2, 1, 0], [63, 60], []), (dn 10, [5, 60], []), ([14, 13, 12, 9, 8, 7, 6, 5, 4, 3, 2, 1, 0], [64, 65, 60], []), ([15, 14, 13, 12, 9, 8, 7, 6, 5, 4, 3, 2, 1, 0], [66, 60], []), ([16, 15, 14, 13, 12, 9, 8, 7, 6, 5, 4, 3, 2, 1, 0], [67, 60], []), (dn 18, [62, 68, 60], []), (dn 19, [69, 60], []), (dn 20, [60, 70], [])] [] (constSt _) [71] [51, 52, 53, 54, 55, 56, 57, 58, 59, 60, 61, 62, 63, 64, 65, 66, 67, 68, 69, 70, 71] rfl VT.mix ?_
       refine ZA (fun γ => Zf (fun _ h6 => Ze (Zn rfl (Zj VT.fa79_0 h6 z0)))) ?_
       refine ZA (fun γ => Zw 0 0 rfl (fun _ h51 => Ze (Zn rfl (Zu 0 VT.ty3 h51 rfl rfl z0)))) ?_
       refine ZA (fun γ => Zf (fun _ h3 => Ze (Zn rfl (Zj VT.fa47_4 h3 z0)))) ?_
       refine ZA (fun γ => Zw 2 0 rfl (fun _ h53 => Ze (Zn rfl (Zu 1 VT.ty45 h53 rfl rfl z0)))) ?_
       refine ZA (fun γ => Zf (fun _ h5 => Ze (Zn rfl (Zl h5 z0)))) ?_
       refine Zp (Zb3 _) (Zq (fun γ => Zw 3 1 rfl (fun _ h54 => Zw 4 0 rfl (fun _ h55 => Ze (Zn rfl (Zz (el := edgeV e) VT.sl45 h54 h55 (by omega) (get_mapS _ he) (fun a56 => ⟨⟨_, rfl⟩, rfl⟩))))))) ?_
       refine Zp (Zb3 _) (Zq (fun γ => Zw 5 0 rfl (fun _ h56 => Ze (Zc3 h56 (fun a_56 e56 => Zn rfl (Zw1 VT.fa79_0 e56 rfl ⟨⟨_, rfl⟩, rfl⟩)))))) ?_
       refine ZA (fun γ => Zw 6 0 rfl (fun _ h57 => Ze (Zc3 h57 (fun a_57 e57 => Zn rfl (Zz1 VT.ty3 e57 rfl z0))))) ?_
       refine ZA (fun γ => Zw 1 6 rfl (fun _ h52 => Zw 7 0 rfl (fun _ h58 => Ze (Zn rfl (Zj1 h52 h58 rfl z0))))) ?_
       refine ZA (fun γ => Zw 8 0 rfl (fun _ h59 => Ze (Zn rfl (Zl h59 z0)))) ?_
       refine ZA (fun γ => Zf (fun _ h6 => Zw 9 0 rfl (fun _ h60 => Ze (Zn (Zg rfl rfl h60 hq60) (Zj VT.fa79_1 h6 z0))))) ?_
       refine ZA (fun γ => Zw 10 0 rfl (fun _ h61 => Zw 9 1 rfl (fun _ h60 => Ze (Zn (Zg rfl rfl h60 hq60) (Zu 0 VT.ty41 h61 rfl rfl z0))))) ?_
       refine ZA (fun γ => Zf (fun _ h3 => Zw 9 2 rfl (fun _ h60 => Ze (Zn (Zg rfl rfl h60 hq60) (Zj VT.fa47_4 h3 z0))))) ?_
       refine ZA (fun γ => Zw 12 0 rfl (fun _ h63 => Zw 9 3 rfl (fun _ h60 => Ze (Zn (Zg rfl rfl h60 hq60) (Zu 1 VT.ty45 h63 rfl rfl z0))))) ?_
       refine ZA (fun γ => Zf (fun _ h5 => Zw 9 4 rfl (fun _ h60 => Ze (Zn (Zg rfl rfl h60 hq60) (Zl h5 z0))))) ?_
       refine Zp (Zb3 _) (Zq (fun γ => Zw 13 1 rfl (fun _ h64 => Zw 14 0 rfl (fun _ h65 => Zw 9 5 rfl (fun _ h60 => Ze (Zn (Zg rfl rfl h60 hq60) (Zz (el := edgeV e) VT.sl45 h64 h65 (by omega) (get_mapS _ he) (fun a66 => ⟨⟨_, rfl⟩, rfl⟩)))))))) ?_
       refine Zp (Zb3 _) (Zq (fun γ => Zw 15 0 rfl (fun _ h66 => Zw 9 6 rfl (fun _ h60 => Ze (Zc3 h66 (fun a_66 e66 => Zn (Zg rfl rfl h60 hq60) (Zw1 VT.fa79_1 e66 rfl ⟨⟨_, rfl⟩, rfl⟩))))))) ?_
       refine ZA (fun γ => Zw 16 0 rfl (fun _ h67 => Zw 9 7 rfl (fun _ h60 => Ze (Zc3 h67 (fun a_67 e67 => Zn (Zg rfl rfl h60 hq60) (Zz1 VT.ty41 e67 rfl z0)))))) ?_
       refine ZA (fun γ => Zw 11 6 rfl (fun _ h62 => Zw 17 0 rfl (fun _ h68 => Zw 9 8 rfl (fun _ h60 => Ze (Zn (Zg rfl rfl h60 hq60) (Zx1 [.tmp 62, .tmp 68] rfl (Zp2 h62 (Zp2 h68 Zq2)) VT.en35 (SameInts_c e.args e.args none none) z0)))))) ?_
       refine ZA (fun γ => Zw 18 0 rfl (fun _ h69 => Zw 9 9 rfl (fun _ h60 => Ze (Zn (Zg rfl rfl h60 hq60) (Zl2 h69 z0))))) ?_
       refine ZA (fun γ => Zw 9 10 rfl (fun _ h60 => Zw 19 0 rfl (fun _ h70 => Ze (Zn rfl (Zt1 h60 hq60 h70 z0))))) ?_
       refine DrawP_nil (fun γ => Zw 20 0 rfl (fun r71 h71 => Ze ?_))
       have e71 : r71 = some _ := h71
       subst e71
       clear h71
       refine Zi ?_
       refine Zo1 rfl (fun h71 => ?_) (fun h71 => ?_)
       · rw [same_S rfl] at h71; cases h71
       ·
        refine Zi1 (Zb1 (Zi (Zd ?_)))
        refine Zc (Zh2 rfl rfl (by omega) ?_)
        refine Zc (Zl rfl (Za (Zi ?_)))
        exact ⟨k + 1, (by (try simp only []); omega), (by omega), ⟨rfl, rfl, rfl, rfl, rfl, trivial⟩, (Drops.drop (Drops.keep (Drops.keep (Zt2 _))))⟩
      ·
       refine Zt (Ze1 (Ze1 (Zc1 (Zi (Zb (Zd (Zc (Zk rfl (Za (Zi (Zf1 ?_)))))))))))
       refine Zg1 rfl (.tmp rfl) ?_
       rfl
set_option maxRecDepth 100000 in
set_option maxHeartbeats 8000000 in
theorem SameFunc_c (f : SFunc) : VPure Tryz.prog 13 [funcV f, funcV f] (.bool true) := by
 refine V_start (nt := 78) Tryz.func13 rfl rfl rfl ?_
 refine Zb (Zd ?_)
 refine Zc (Zc2 rfl rfl (fun g2 => ?_))
 refine Zc (Zc2 rfl rfl (fun g3 => ?_))
 refine Zc (Zk rfl (Za (Zi (Zb (Zb (Zd (Zc (Zj VT.fa34_0 rfl (Zc (Zu 1 VT.ty3 rfl rfl rfl (Zc (Zj VT.fa34_0 rfl (Zc (Zu 0 VT.ty3 rfl rfl rfl (Zc (Zj1 rfl rfl rfl (Zc (Zl rfl ?_))))))))))))))))))
 refine Zj2 (q := 15) rfl (fun hq15 => ?_) (fun hq15 => ?_)
 · exact absurd hq15 (by simp)
 ·
  refine Zc (Zj VT.fa34_1 rfl ?_) (Zy0 hq15)
  refine Zc (Zu 1 VT.ty32 rfl rfl rfl ?_) (Zy0 hq15)
  refine Zc (Zd2 (n := f.blocks.length) Tryz.underlying32 rfl (by simp) (fun hl18 => ?_)) (Zy0 hq15)
  refine Zc (Zj VT.fa34_1 rfl ?_) (Zy0 hq15)
  refine Zc (Zu 0 VT.ty32 rfl rfl rfl ?_) (Zy0 hq15)
  refine Zc (Zd2 (n := f.blocks.length) Tryz.underlying32 rfl (by simp) (fun hl21 => ?_)) (Zy0 hq15)
  refine Zc (Zj1 rfl rfl rfl ?_) (Zy0 hq15)
  refine Zc (Zt1 rfl hq15 rfl ?_)
  refine Za (Zi ?_)
  refine Zm1 rfl (fun h23 => ?_) (fun h23 => ?_)
  · exact absurd rfl h23
  ·
   refine Zi1 (Zi (Zb (Zb (Zd (Zc (Zj VT.fa34_1 rfl (Zc (Zu 1 VT.ty32 rfl rfl rfl ?_))))))))
   refine Zc (Zd2 (n := f.blocks.length) Tryz.underlying32 rfl (by simp) (fun hl26 => ?_))
   refine Zc (Zl rfl (Za (Zi (Zs ?_))))
   refine Zi2 (ι := Nat) (fun k => f.blocks.length - k) (fun k => [(2, some (.ptr g2 0)), (3, some (.ptr g3 0)), (25, some (blocksX f.blocks)), (26, some (.int f.blocks.length)), (27, some (.int k))]) (fun k => [.cells g3 34 [.int f.name, blocksX f.blocks], .cells g2 34 [.int f.name, blocksX f.blocks]]) (fun k => k ≤ f.blocks.length) 0 (Yc _) ⟨rfl, rfl, rfl, rfl, rfl, trivial⟩ (Drops.keep (Drops.keep (Zt2 _))) ?_
   rintro k hk
   change k ≤ f.blocks.length at hk
   refine Zb (Zd (Zc (Zj1 rfl rfl rfl (Za (Zi (Zb ?_))))))
   refine Zn1 rfl (fun h28 => ?_) (fun h28 => ?_)
   ·
    obtain ⟨b, hb⟩ := get_of_lt f.blocks k h28
    refine Zi1 (Zi (Zb (Zs (Zb (Zd (Zc (Zl rfl ?_)))))))
    refine Zc (Zz (el := blockV b) VT.sl32 rfl rfl (by omega) (get_mapS _ hb) (fun a30 => ?_))
    refine Zc (Za2 VT.ty50 rfl rfl ?_)
    refine Zc (Zb2 VT.zr50 _ rfl rfl (fun g6 => ?_))
    refine Zc (Zk rfl (Zc (Zx 0 VT.ty50 rfl rfl rfl rfl rfl (Za (Zi (Zb (Zd (Zc (Zj VT.fa34_1 rfl (Zc (Zu 1 VT.ty32 rfl rfl rfl (Zc (Zl rfl ?_)))))))))))))
    refine Zc (Zz (el := blockV b) VT.sl32 rfl rfl (by omega) (get_mapS _ hb) (fun a35 => ?_))
    refine Zc (Za2 VT.ty50 rfl rfl ?_)
    refine Zc (Zb2 VT.zr50 _ rfl rfl (fun g7 => ?_))
    refine Zc (Zx 0 VT.ty50 rfl rfl rfl rfl rfl (Za (Zi (Zb (Zb (Zd (Zc (Zj VT.fa50_0 rfl (Zc (Zu 1 VT.ty41 rfl rfl rfl (Zc (Zj VT.fa50_0 rfl (Zc (Zu 0 VT.ty41 rfl rfl rfl ?_))))))))))))))
    refine Zc (Zx1 [.tmp 38, .tmp 40] rfl rfl VT.en35 (SameInts_c b.params b.params none none) ?_)
    refine Zc (Zl2 rfl (Zc (Zl rfl ?_)))
    refine Zj2 (q := 43) rfl (fun hq43 => ?_) (fun hq43 => ?_)
    · exact absurd hq43 (by rw [same_S rfl]; decide)
    ·
     refine Zc (Zj VT.fa50_1 rfl ?_) (Zy0 hq43)
     refine Zc (Zu 1 VT.ty48 rfl rfl rfl ?_) (Zy0 hq43)
     refine Zc (Zd2 (n := b.ins.length) Tryz.underlying48 rfl (by simp) (fun hl46 => ?_)) (Zy0 hq43)
     refine Zc (Zj VT.fa50_1 rfl ?_) (Zy0 hq43)
     refine Zc (Zu 0 VT.ty48 rfl rfl rfl ?_) (Zy0 hq43)
     refine Zc (Zd2 (n := b.ins.length) Tryz.underlying48 rfl (by simp) (fun hl49 => ?_)) (Zy0 hq43)
     refine Zc (Zj1 rfl rfl rfl ?_) (Zy0 hq43)
     refine Zc (Zt1 rfl hq43 rfl ?_)
     refine Zc (Zl rfl ?_)
     refine Zj2 (q := 52) rfl (fun hq52 => ?_) (fun hq52 => ?_)
     · exact absurd hq52 (by simp)
     ·
      refine Zc (Zj VT.fa50_2 rfl ?_) (Zy0 hq52)
      refine Zc (Zv 1 VT.ty47 rfl rfl rfl ?_) (Zy0 hq52)
      refine Zc (Zj VT.fa50_2 rfl ?_) (Zy0 hq52)
      refine Zc (Zv 0 VT.ty47 rfl rfl rfl ?_) (Zy0 hq52)
      refine Zc (Zx1 [.tmp 54, .tmp 56] rfl rfl VT.en36 (SameTerm_c b.term) ?_) (Zy0 hq52)
      refine Zc (Zl2 rfl ?_) (Zy0 hq52)
      refine Zc (Zt1 rfl hq52 rfl ?_)
      refine Za (Zi ?_)
      refine Zo1 rfl (fun h59 => ?_) (fun h59 => ?_)
      · cases h59
      ·
       refine Zi1 (Zi (Zb (Zd (Zc (Zj VT.fa50_1 rfl (Zc (Zu 1 VT.ty48 rfl rfl rfl ?_)))))))
       refine Zc (Zd2 (n := b.ins.length) Tryz.underlying48 rfl (by simp) (fun hl62 => ?_))
       refine Zc (Zl rfl (Za (Zi (Zs ?_))))
       refine Zi2 (ι := Nat) (fun j => b.ins.length - j) (fun j => [(2, some (.ptr g2 0)), (3, some (.ptr g3 0)), (25, some (blocksX f.blocks)), (26, some (.int f.blocks.length)), (27, some (.int k)), (6, some (.ptr g6 0)), (7, some (.ptr g7 0)), (61, some (inssX b.ins)), (62, some (.int b.ins.length)), (63, some (.int j))]) (fun j => [.cells g7 50 (blockV b).leaves, .cells g6 50 (blockV b).leaves, .cells g3 34 [.int f.name, blocksX f.blocks], .cells g2 34 [.int f.name, blocksX f.blocks]]) (fun j => j ≤ b.ins.length) 0 (Yc _) ⟨rfl, rfl, rfl, rfl, rfl, rfl, rfl, rfl, rfl, rfl, trivial⟩ (Drops.keep (Drops.keep (Drops.keep (Drops.keep (Zt2 _))))) ?_
       rintro j hj
       change j ≤ b.ins.length at hj
       refine Zb (Zd (Zc (Zj1 rfl rfl rfl (Za (Zi (Zb ?_))))))
       refine Zn1 rfl (fun h64 => ?_) (fun h64 => ?_)
       ·
        obtain ⟨i, hi⟩ := get_of_lt b.ins j h64
        refine Zi1 (Zi (Zb (Zs (Zb (Zd (Zc (Zl rfl ?_)))))))
        refine Zc (Zz (el := insV i) VT.sl48 rfl rfl (by omega) (get_mapS _ hi) (fun a66 => ?_))
        refine Zc (Za2 VT.ty70 rfl rfl ?_)
        refine Zc (Zb2 VT.zr70 _ rfl rfl (fun g9 => ?_))
        refine Zc (Zk rfl (Zc (Zx 0 VT.ty70 rfl rfl rfl rfl rfl (Za (Zi (Zb ?_))))))
        refine VW_drawR (G := Unit) [([], [9], []), ([], [7], []), ([1], [69], []), ([], [8], []), ([3, 2, 1], [70, 71], []), ([4, 3, 2, 1], [72], []), (dn 6, [68, 73], []), (dn 7, [74], [])] [] (constSt _) [75] [68, 69, 70, 71, 72, 73, 74, 75] rfl VT.mix ?_
        refine ZA (fun γ => Zf (fun _ h9 => Ze (Zn rfl (Zv 0 VT.ty70 h9 rfl rfl z0)))) ?_
        refine ZA (fun γ => Zf (fun _ h7 => Ze (Zn rfl (Zj VT.fa50_1 h7 z0)))) ?_
        refine ZA (fun γ => Zw 1 0 rfl (fun _ h69 => Ze (Zn rfl (Zu 1 VT.ty48 h69 rfl rfl z0)))) ?_
        refine ZA (fun γ => Zf (fun _ h8 => Ze (Zn rfl (Zl h8 z0)))) ?_
        refine Zp (Zb3 _) (Zq (fun γ => Zw 2 1 rfl (fun _ h70 => Zw 3 0 rfl (fun _ h71 => Ze (Zn rfl (Zz (el := insV i) VT.sl48 h70 h71 (by omega) (get_mapS _ hi) (fun a72 => ⟨⟨_, rfl⟩, rfl⟩))))))) ?_
        refine ZA (fun γ => Zw 4 0 rfl (fun _ h72 => Ze (Zc3 h72 (fun a_72 e72 => Zn rfl (Za2 VT.ty70 e72 rfl z0))))) ?_
        refine ZA (fun γ => Zw 0 5 rfl (fun _ h68 => Zw 5 0 rfl (fun _ h73 => Ze (Zn rfl (Zx1 [.tmp 68, .tmp 73] rfl (Zp2 h68 (Zp2 h73 Zq2)) VT.en37 (SameIns_c i) z0))))) ?_
        refine ZA (fun γ => Zw 6 0 rfl (fun _ h74 => Ze (Zn rfl (Zl2 h74 z0)))) ?_
        refine DrawP_nil (fun γ => Zw 7 0 rfl (fun r75 h75 => Ze ?_))
        have e75 : r75 = some _ := h75
        subst e75
        clear h75
        refine Zi ?_
        refine Zo1 rfl (fun h75 => ?_) (fun h75 => ?_)
        · cases h75
        ·
         refine Zi1 (Zb1 (Zi (Zd ?_)))
         refine Zc (Zh2 rfl rfl (by omega) ?_)
         refine Zc (Zl rfl (Za (Zi ?_)))
         exact ⟨j + 1, (by (try simp only []); omega), (by omega), ⟨rfl, rfl, rfl, rfl, rfl, rfl, rfl, rfl, rfl, rfl, trivial⟩, (Drops.drop (Drops.keep (Drops.keep (Drops.keep (Drops.keep (Zt2 _))))))⟩
       ·
        refine Zt (Ze1 (Ze1 (Zc1 (Zb1 (Zi (Zd ?_))))))
        refine Zc (Zh2 rfl rfl (by omega) ?_)
        refine Zc (Zl rfl (Za (Zi ?_)))
        exact ⟨k + 1, (by (try simp only []); omega), (by omega), ⟨rfl, rfl, rfl, rfl, rfl, trivial⟩, (Drops.drop (Drops.drop (Drops.keep (Drops.keep (Zt2 _)))))⟩
   ·
    refine Zt (Ze1 (Ze1 (Zc1 (Zi (Zb (Zd (Zc (Zk rfl (Za (Zi (Zf1 ?_)))))))))))
    refine Zg1 rfl (.tmp rfl) ?_
    rfl
set_option maxRecDepth 100000 in
set_option maxHeartbeats 4000000 in
theorem simple_c {u : SUnit} (hU : unitF u = 0) : VCalls Tryz.prog 7 [unitV u] [] fun r S' => S' = [] ∧ ∃ b : Bool, r = .bool b := by
 refine VCalls_drops ?_
 have hfs := nw_fns hU
 have hul := fns_len hU
 refine V_start (nt := 38) Tryz.func7 rfl rfl rfl ?_
 refine Zb (Zd ?_)
 refine Zc (Zc2 rfl rfl (fun g1 => ?_))
 refine Zc (Zk rfl (Za (Zi (Zb (Zd (Zc (Zk rfl (Za (Zi (Zb (Zb (Zd (Zc (Zj VT.fa24_0 rfl (Zc (Zu 0 VT.ty22 rfl rfl rfl ?_))))))))))))))))
 refine Zc (Zd2 (n := u.fns.length) Tryz.underlying22 rfl (by simp) (fun hl10 => ?_))
 refine Zc (Zl rfl (Za (Zi (Zs ?_))))
 refine Zi2 (ι := Nat × Int) (fun (i, m) => u.fns.length - i) (fun (i, m) => [(1, some (.ptr g1 0)), (9, some (funcsX u.fns)), (10, some (.int u.fns.length)), (11, some (.int i)), (3, some (.int m))]) (fun (i, m) => [.cells g1 24 [funcsX u.fns, .int u.main]]) (fun (i, m) => i ≤ u.fns.length ∧ 0 ≤ m ∧ m ≤ i * 1280128) (0, 0) ⟨Yc _, Int.le_refl _, by omega⟩ ⟨rfl, rfl, rfl, rfl, rfl, trivial⟩ (Drops.keep (Zt2 _)) ?_
 rintro ⟨i, m⟩ hA
 change i ≤ u.fns.length ∧ 0 ≤ m ∧ m ≤ i * 1280128 at hA
 obtain ⟨hi, hm0, hm1⟩ := hA
 refine Zb (Zd (Zc (Zj1 rfl rfl rfl (Za (Zi (Zb ?_))))))
 refine Zn1 rfl (fun h12 => ?_) (fun h12 => ?_)
 ·
  obtain ⟨f, hf⟩ := get_of_lt u.fns i h12
  have h0 := hfs f (Ya hf)
  have h128 := (func_ok h0).len
  have hcp := (cp_ok h0).block
  refine Zi1 (Zi (Zb (Zs (Zb (Zd ?_)))))
  refine Zc (Zz (el := funcV f) VT.sl22 rfl rfl (by omega) (get_mapS _ hf) (fun a13 => ?_))
  refine Zc (Za2 VT.ty34 rfl rfl ?_)
  refine Zc (Zb2 VT.zr34 _ rfl rfl (fun g5 => ?_))
  refine Zc (Zx 0 VT.ty34 rfl rfl rfl rfl rfl (Za (Zi (Zb (Zd (Zc (Zj VT.fa34_1 rfl (Zc (Zu 0 VT.ty32 rfl rfl rfl ?_)))))))))
  refine Zc (Zd2 (n := f.blocks.length) Tryz.underlying32 rfl (by simp) (fun hl17 => ?_))
  refine Zc (Zl rfl (Za (Zi (Zs ?_))))
  refine Zi2 (ι := Nat × Int) (fun (j, m2) => f.blocks.length - j) (fun (j, m2) => [(1, some (.ptr g1 0)), (9, some (funcsX u.fns)), (10, some (.int u.fns.length)), (11, some (.int i)), (3, some (.int m2)), (16, some (blocksX f.blocks)), (17, some (.int f.blocks.length)), (18, some (.int j))]) (fun (j, m2) => [.cells g1 24 [funcsX u.fns, .int u.main]]) (fun (j, m2) => j ≤ f.blocks.length ∧ 0 ≤ m2 ∧ m2 ≤ i * 1280128 + j * 10001) (0, m) ⟨Yc _, hm0, by omega⟩ ⟨rfl, rfl, rfl, rfl, rfl, rfl, rfl, rfl, trivial⟩ (Drops.drop (Drops.keep (Zt2 _))) ?_
  rintro ⟨j, m2⟩ hB
  change j ≤ f.blocks.length ∧ 0 ≤ m2 ∧ m2 ≤ i * 1280128 + j * 10001 at hB
  obtain ⟨hj, hn0, hn1⟩ := hB
  refine Zb (Zd (Zc (Zj1 rfl rfl rfl (Za (Zi (Zb ?_))))))
  refine Zn1 rfl (fun h19 => ?_) (fun h19 => ?_)
  ·
   obtain ⟨b, hb⟩ := get_of_lt f.blocks j h19
   have hbi := (hcp b (Ya hb)).2.1
   refine Zi1 (Zi (Zb (Zs (Zb (Zd ?_)))))
   refine Zc (Zz (el := blockV b) VT.sl32 rfl rfl (by omega) (get_mapS _ hb) (fun a20 => ?_))
   refine Zc (Za2 VT.ty50 rfl rfl ?_)
   refine Zc (Zb2 VT.zr50 _ rfl rfl (fun g7 => ?_))
   refine Zc (Zx 0 VT.ty50 rfl rfl rfl rfl rfl (Za (Zi (Zd (Zc (Zl rfl (Zc (Zj VT.fa50_1 rfl (Zc (Zu 0 VT.ty48 rfl rfl rfl ?_))))))))))
   refine Zc (Zd2 (n := b.ins.length) Tryz.underlying48 rfl (by simp) (fun hl25 => ?_))
   refine Zc (Zh2 rfl rfl (by omega) ?_)
   refine Zc (Zh2 rfl rfl (by omega) ?_)
   refine Zc (Zk rfl (Za (Zb1 (Zi (Zd ?_)))))
   refine Zc (Zh2 rfl rfl (by omega) ?_)
   refine Zc (Zl rfl (Za (Zi ?_)))
   exact ⟨(j + 1, m2 + (b.ins.length + 1)), (by (try simp only []); omega), ⟨by omega, by omega, by omega⟩, ⟨rfl, rfl, rfl, rfl, rfl, rfl, rfl, rfl, trivial⟩, (Drops.drop (Drops.keep (Zt2 _)))⟩
  ·
   refine Zt (Ze1 (Ze1 (Zc1 (Zb1 (Zi (Zd ?_))))))
   refine Zc (Zh2 rfl rfl (by omega) ?_)
   refine Zc (Zl rfl (Za (Zi ?_)))
   exact ⟨(i + 1, m2), (by (try simp only []); omega), ⟨by omega, hn0, by omega⟩, ⟨rfl, rfl, rfl, rfl, rfl, trivial⟩, (Drops.keep (Zt2 _))⟩
 ·
  refine Zt (Ze1 (Ze1 (Zc1 (Zi (Zb (Zd (Zc (Zl rfl (Zc (Zj1 rfl rfl rfl (Zc (Zl rfl ?_))))))))))))
  refine Zj2 (q := 32) rfl (fun hq32 => ?_) (fun hq32 => ?_)
  ·
   refine Zc (Zj VT.fa24_0 rfl ?_) (Zy1 hq32)
   refine Zc (Zu 0 VT.ty22 rfl rfl rfl ?_) (Zy1 hq32)
   refine Zc (Zd2 (n := u.fns.length) Tryz.underlying22 rfl (by simp) (fun hl35 => ?_)) (Zy1 hq32)
   refine Zc (Zj1 rfl rfl rfl ?_) (Zy1 hq32)
   refine Zc (Zs1 rfl hq32 rfl ?_)
   refine Zc (Zk rfl (Za (Zi (Zf1 ?_))))
   refine Zg1 rfl (.tmp rfl) ?_
   exact ⟨[], Drops.nil _, rfl, _, rfl⟩
  ·
   refine Zk1 hq32 ?_
   refine Zk1 hq32 ?_
   refine Zk1 hq32 ?_
   refine Zk1 hq32 ?_
   refine Zc (Zt1 rfl hq32 rfl ?_)
   refine Zc (Zk rfl (Za (Zi (Zf1 ?_))))
   refine Zg1 rfl (.tmp rfl) ?_
   exact ⟨[], Drops.nil _, rfl, _, rfl⟩
set_option maxRecDepth 100000 in
set_option maxHeartbeats 4000000 in
theorem run_c (u : SUnit) (fuel : Int) : VPure Tryz.prog 38 [unitV u, .int fuel] (.tup [resultV (runF u fuel).1, .int (runF u fuel).2.1, .bool ((runF u fuel).2.2 == 0 && (runF u fuel).1.fin != 5)]) := by
 refine V_start (nt := 26) Tryz.func38 rfl rfl rfl ?_
 refine Zb (Zd ?_)
 refine Zc (Zc2 rfl rfl (fun g2 => ?_))
 refine Zc (Zb2 VT.zr62 _ rfl rfl (fun g4 => ?_))
 refine Zc (Zk rfl (Zc (Zk rfl (Za (Zi (Zb (Zd (Zc (Zv 1 VT.ty24 rfl rfl rfl (Zc (Zl rfl ?_)))))))))))
 refine Zc (Zx1 [.tmp 11, .tmp 12] rfl rfl VT.en19 (Run_c u fuel) ?_)
 refine Zc (Zl rfl (Zc (Zg2 rfl rfl (Zc (Zg2 rfl rfl (Zc (Zg2 rfl rfl ?_)))))))
 refine Zc (Zb2 VT.zr62 _ rfl rfl (fun g7 => ?_))
 refine Zc (Zx 0 VT.ty62 rfl rfl rfl rfl rfl (Zc (Zk rfl (Zc (Zk rfl (Za (Zi (Zb ?_))))))))
 rcases Bool.eq_false_or_eq_true ((runF u fuel).2.2 == 0) with hq21 | hq21
 ·
  refine VW_drawR (G := Unit) [([], [7], []), ([], [8], []), ([], [9], []), ([2], [19], []), ([3, 2], [20], []), ([4, 3, 2], [7, 21], []), ([5, 4, 3, 2], [22, 21], []), ([6, 5, 4, 3, 2], [23, 21], []), ([7, 6, 5, 4, 3, 2], [21, 24], []), ([4, 3, 2, 0], [4, 17], []), ([9, 4, 3, 2, 1, 0], [18], []), (dn 11, [25], [])] [9] (setSt _ 1 (fun _ => .cells g4 62 (resultV (runF u fuel).1).leaves)) [5, 6] [5, 6, 17, 18, 19, 20, 21, 22, 23, 24, 25] rfl VT.mix ?_
  refine Zp (Zm _) (Zo rfl rfl ⟨(fun γ => Zf (fun _ h7 => Ze (Zn rfl (Zv 0 VT.ty62 h7 rfl rfl z0)))), trivial⟩) ?_
  refine Zp (Zm _) (Zm2 rfl (fun _ => (fun γ => Zf (fun _ h8 => Ze (Zn rfl (Zl h8 z0)))))) ?_
  refine Zp (Zm _) (Zo rfl rfl ⟨(fun γ => Zf (fun _ h9 => Ze (Zn rfl (Zl h9 z0)))), trivial⟩) ?_
  refine Zp (Zm _) (Zo rfl rfl ⟨(fun γ => Zw 2 0 rfl (fun _ h19 => Ze (Zn rfl (Zj1 h19 rfl rfl z0)))), trivial⟩) ?_
  refine Zp (Zm _) (Zo rfl rfl ⟨(fun γ => Zw 3 0 rfl (fun _ h20 => Ze (Zn rfl (Zl h20 z0)))), trivial⟩) ?_
  refine Zp (Zm _) (Zm2 rfl (fun _ => (fun γ => Zf (fun _ h7 => Zw 4 0 rfl (fun _ h21 => Ze (Zn (Zg rfl rfl h21 hq21) (Zj VT.fa62_1 h7 z0))))))) ?_
  refine Zp (Zm _) (Zo rfl rfl ⟨(fun γ => Zw 5 0 rfl (fun _ h22 => Zw 4 1 rfl (fun _ h21 => Ze (Zn (Zg rfl rfl h21 hq21) (Zu 0 VT.ty3 h22 rfl rfl z0))))), (fun γ => Zw 5 0 rfl (fun _ h22 => Zw 4 1 rfl (fun _ h21 => Ze (Zn (Zg rfl rfl h21 hq21) (Zu 0 VT.ty3 h22 rfl rfl z0))))), trivial⟩) ?_
  refine Zp (Zm _) (Zm2 rfl (fun _ => (fun γ => Zw 6 0 rfl (fun _ h23 => Zw 4 2 rfl (fun _ h21 => Ze (Zn (Zg rfl rfl h21 hq21) (Zj1 h23 rfl rfl z0))))))) ?_
  refine Zp (Zm _) (Zm2 rfl (fun _ => (fun γ => Zw 4 3 rfl (fun _ h21 => Zw 7 0 rfl (fun _ h24 => Ze (Zn rfl (Zs1 h21 hq21 h24 z0))))))) ?_
  refine Zp Za3 (Zn2 rfl (fun γ => Zf (fun _ h4 => Zw 0 8 rfl (fun _ h17 => Ze (Zn rfl (Zx 1 VT.ty62 h4 h17 rfl rfl rfl ⟨default, trivial, rfl⟩)))))) ?_
  refine Zp (Zm _) (Zo rfl rfl ⟨(fun γ => Zw 1 8 rfl (fun _ h18 => Ze (Zn rfl (Zk h18 z0)))), trivial⟩) ?_
  refine Zp (Zm _) (Zo rfl rfl ⟨(fun γ => Zw 8 2 rfl (fun _ h25 => Ze (Zn rfl (Zk h25 z0)))), trivial⟩) ?_
  refine DrawP_nil (fun γ => Zw 10 1 rfl (fun r5 h5 => Zw 11 0 rfl (fun r6 h6 => Ze ?_)))
  have e5 : r5 = some _ := h5
  subst e5
  clear h5
  have e6 : r6 = some _ := h6
  subst e6
  clear h6
  refine Zi (Zf1 ?_)
  refine Zh1 rfl rfl (.cons (.agg (i := 1) VT.ty62 rfl rfl rfl) (.cons (.tmp rfl) (.cons (.tmp rfl) (.nil)))) ?_
  rw [hq21]
  rfl
 ·
  refine VW_drawR (G := Unit) [([], [7], []), ([], [8], []), ([], [9], []), ([2], [19], []), ([3, 2], [20], []), ([4, 3, 2], [7, 21], []), ([5, 4, 3, 2], [22, 21], []), ([6, 5, 4, 3, 2], [23, 21], []), ([7, 6, 5, 4, 3, 2], [21, 24], []), ([4, 3, 2, 0], [4, 17], []), ([9, 4, 3, 2, 1, 0], [18], []), (dn 11, [25], [])] [9] (setSt _ 1 (fun _ => .cells g4 62 (resultV (runF u fuel).1).leaves)) [5, 6] [5, 6, 17, 18, 19, 20, 21, 22, 23, 24, 25] rfl VT.mix ?_
  refine Zp (Zm _) (Zo rfl rfl ⟨(fun γ => Zf (fun _ h7 => Ze (Zn rfl (Zv 0 VT.ty62 h7 rfl rfl z0)))), trivial⟩) ?_
  refine Zp (Zm _) (Zm2 rfl (fun _ => (fun γ => Zf (fun _ h8 => Ze (Zn rfl (Zl h8 z0)))))) ?_
  refine Zp (Zm _) (Zo rfl rfl ⟨(fun γ => Zf (fun _ h9 => Ze (Zn rfl (Zl h9 z0)))), trivial⟩) ?_
  refine Zp (Zm _) (Zo rfl rfl ⟨(fun γ => Zw 2 0 rfl (fun _ h19 => Ze (Zn rfl (Zj1 h19 rfl rfl z0)))), trivial⟩) ?_
  refine Zp (Zm _) (Zo rfl rfl ⟨(fun γ => Zw 3 0 rfl (fun _ h20 => Ze (Zn rfl (Zl h20 z0)))), trivial⟩) ?_
  refine Zp (Zm _) (Zm2 rfl (fun _ => (fun γ => Zf (fun _ h7 => Zw 4 0 rfl (fun _ h21 => Ze (Zy2 (Zr rfl rfl h21 hq21) z0)))))) ?_
  refine Zp (Zm _) (Zm2 rfl (fun _ => (fun γ => Zw 5 0 rfl (fun _ h22 => Zw 4 1 rfl (fun _ h21 => Ze (Zy2 (Zr rfl rfl h21 hq21) z0)))))) ?_
  refine Zp (Zm _) (Zm2 rfl (fun _ => (fun γ => Zw 6 0 rfl (fun _ h23 => Zw 4 2 rfl (fun _ h21 => Ze (Zy2 (Zr rfl rfl h21 hq21) z0)))))) ?_
  refine Zp (Zm _) (Zm2 rfl (fun _ => (fun γ => Zw 4 3 rfl (fun _ h21 => Zw 7 0 rfl (fun _ h24 => Ze (Zn rfl (Zt1 h21 hq21 rfl z0))))))) ?_
  refine Zp Za3 (Zn2 rfl (fun γ => Zf (fun _ h4 => Zw 0 8 rfl (fun _ h17 => Ze (Zn rfl (Zx 1 VT.ty62 h4 h17 rfl rfl rfl ⟨default, trivial, rfl⟩)))))) ?_
  refine Zp (Zm _) (Zo rfl rfl ⟨(fun γ => Zw 1 8 rfl (fun _ h18 => Ze (Zn rfl (Zk h18 z0)))), trivial⟩) ?_
  refine Zp (Zm _) (Zo rfl rfl ⟨(fun γ => Zw 8 2 rfl (fun _ h25 => Ze (Zn rfl (Zk h25 z0)))), trivial⟩) ?_
  refine DrawP_nil (fun γ => Zw 10 1 rfl (fun r5 h5 => Zw 11 0 rfl (fun r6 h6 => Ze ?_)))
  have e5 : r5 = some _ := h5
  subst e5
  clear h5
  have e6 : r6 = some _ := h6
  subst e6
  clear h6
  refine Zi (Zf1 ?_)
  refine Zh1 rfl rfl (.cons (.agg (i := 1) VT.ty62 rfl rfl rfl) (.cons (.tmp rfl) (.cons (.tmp rfl) (.nil)))) ?_
  rw [hq21]
  rfl
set_option maxRecDepth 100000 in
set_option maxHeartbeats 4000000 in
theorem alike_c {u v : SUnit} (hv : (runF u 1500).2.2 = 0 → (runF v 1000000).2.2 = 0 ∧ (runF v 1000000).1 = (runF u 1500).1) : VPure Tryz.prog 14 [unitV u, unitV v] (.bool true) := by
 refine V_start (nt := 41) Tryz.func14 rfl rfl rfl ?_
 refine Zb (Zd ?_)
 refine Zc (Zc2 rfl rfl (fun g2 => ?_))
 refine Zc (Zc2 rfl rfl (fun g3 => ?_))
 refine Zc (Zk rfl (Za (Zi (Zb (Zd (Zc (Zv 1 VT.ty24 rfl rfl rfl ?_)))))))
 refine Zc (Zx1 [.tmp 12, .const (.int .i64 (1500))] rfl rfl VT.en38 (run_c u 1500) ?_)
 refine Zc (Zl rfl (Zc (Zg2 rfl rfl (Zc (Zg2 rfl rfl (Zc (Zg2 rfl rfl ?_)))))))
 refine Zc (Zb2 VT.zr62 _ rfl rfl (fun g5 => ?_))
 refine Zc (Zx 0 VT.ty62 rfl rfl rfl rfl rfl (Zc (Zk rfl (Zc (Zk rfl (Za (Zi (Zb (Zb (Zd (Zc (Zl rfl (Zc (Zl2 rfl (Za (Zi ?_))))))))))))))))
 refine Zo1 rfl (fun h18 => ?_) (fun h18 => ?_)
 ·
  refine Zb (Zd (Zc (Zk rfl (Za (Zi (Zf1 ?_))))))
  refine Zd1 (Zg1 rfl (.tmp rfl) ?_)
  rfl
 ·
  have hx0 : (runF u 1500).2.2 = 0 := by have h9 := (Bool.and_eq_true _ _ ▸ h18 : _ ∧ _).1; exact eq_of_beq h9
  obtain ⟨hv1, hv2⟩ := hv hx0
  refine Zi1 (Zi (Zb (Zd (Zc (Zv 1 VT.ty24 rfl rfl rfl ?_)))))
  refine Zc (Zu2 (Zx1 [.tmp 20, .const (.int .i64 (1000000))] rfl rfl VT.en19 (Run_c v 1000000) ⟨rfl, rfl⟩) ((V.le.of_eq (by rw [hv1, hv2]) : V.le _ (.tup [resultV (runF u 1500).1, .int (runF v 1000000).2.1, .int 0]))) ?_)
  refine Zc (Zl rfl (Zc (Zg2 rfl rfl (Zc (Zg2 rfl rfl (Zc (Zg2 rfl rfl ?_)))))))
  refine Zc (Zb2 VT.zr62 _ rfl rfl (fun g8 => ?_))
  refine Zc (Zx 0 VT.ty62 rfl rfl rfl rfl rfl (Zc (Zk rfl (Zc (Zk rfl (Za (Zi (Zb (Zd (Zc (Zl rfl (Zc (Zj1 rfl rfl rfl (Zc (Zl rfl ?_)))))))))))))))
  refine Zj2 (q := 27) rfl (fun hq27 => ?_) (fun hq27 => ?_)
  · exact absurd hq27 (by decide)
  ·
   refine Zk1 hq27 ?_
   refine Zk1 hq27 ?_
   refine Zk1 hq27 ?_
   refine Zc (Zt1 rfl hq27 rfl ?_)
   refine Zc (Zl rfl ?_)
   refine Zc (Zl rfl ?_) (Zy0 rfl)
   refine Zc (Zj1 rfl rfl rfl ?_) (Zy0 rfl)
   refine Zc (Zl rfl ?_) (Zy0 rfl)
   refine Zj2 (q := 35) rfl (fun hq35 => ?_) (fun hq35 => ?_)
   ·
    refine Zc (Zv 1 VT.ty62 rfl rfl rfl ?_) (Zy1 hq35)
    refine Zc (Zv 0 VT.ty62 rfl rfl rfl ?_) (Zy1 hq35)
    refine Zc (Zx1 [.tmp 36, .tmp 37] rfl rfl VT.en21 (SameResult_c (runF u 1500).1 (runF u 1500).1) ?_) (Zy1 hq35)
    refine Zc (Zs1 rfl hq35 rfl ?_) (Zy0 rfl)
    refine Zc (Zt1 rfl rfl rfl (Zc (Zk rfl (Za (Zi (Zf1 ?_))))))
    refine Zg1 rfl (.tmp rfl) ?_
    first | rfl | exact congrArg V.bool (sameOut_iff.2 rfl)
   · exact absurd hq35 (by decide)
set_option maxRecDepth 100000 in
set_option maxHeartbeats 8000000 in
theorem each_c {u : SUnit} (hU : unitF u = 0) : VCalls Tryz.prog 8 [unitV u, .clo (.func 9) []] [] fun r S' => S' = [] ∧ (SmallP u ∧ r = .tup [unitV (preU u), .int 0] ∨ ¬ SmallP u ∧ r = .tup [.agg VT.zs24, .int 2]) := by
 refine VCalls_drops ?_
 have hfs := nw_fns hU
 have hul := fns_len hU
 refine V_start (nt := 39) Tryz.func8 rfl rfl rfl ?_
 refine Zb (Zd ?_)
 refine Zc (Zc2 rfl rfl (fun g2 => ?_))
 refine Zc (Zb2 VT.zr24 _ rfl rfl (fun g4 => ?_))
 refine Zc (Zk rfl (Za (Zi (Zb (Zd (Zc (Zj VT.fa24_1 rfl (Zc (Zu 1 VT.ty3 rfl rfl rfl ?_)))))))))
 refine Zc (Zf2 [1] [.tmp 12] VT.st24 rfl rfl rfl rfl ?_)
 refine Zc (Zb2 VT.zr24 _ rfl rfl (fun g6 => ?_))
 refine Zc (Zx 0 VT.ty24 rfl rfl rfl rfl rfl (Za (Zi ?_)))
 refine VW_cells 0 (ls' := [.sl 2 (some .nil) [], .int u.main]) rfl ⟨V.le.nilTok 2, rfl, V.le.refl _, rfl, trivial⟩ ?_
 refine VW_nilBuf 34 2 ?_
 refine Zb (Zb (Zd (Zc (Zj VT.fa24_0 rfl (Zc (Zu 3 VT.ty22 rfl rfl rfl ?_))))))
 refine Zc (Zd2 (n := u.fns.length) Tryz.underlying22 rfl (by simp) (fun hl16 => ?_))
 refine Zc (Zl rfl (Za (Zi (Zs ?_))))
 refine Zi2 (ι := Nat × Tok) (fun (i, tok) => u.fns.length - i) (fun (i, tok) => [(1, some (.clo (.func 9) [])), (2, some (.ptr g2 0)), (4, some (.ptr g4 0)), (6, some (.ptr g6 0)), (15, some (funcsX u.fns)), (16, some (.int u.fns.length)), (17, some (.int i))]) (fun (i, tok) => [.buf tok 34 2 i, .cells g6 24 [.sl 2 (some tok) ((u.fns.take i).map fun f => funcV (preF f)), .int u.main], .cells g4 24 VT.zs24, .cells g2 24 [funcsX u.fns, .int u.main]]) (fun (i, tok) => i ≤ u.fns.length ∧ ∀ f ∈ u.fns.take i, ¬ BigP f) (0, .nil) ⟨Yc _, fun f hf => by cases hf⟩ ⟨rfl, rfl, rfl, rfl, rfl, rfl, rfl, trivial⟩ (Drops.buf (by simp) (Drops.keep (Drops.keep (Drops.keep (Zt2 _))))) ?_
 rintro ⟨i, tok⟩ hA
 change i ≤ u.fns.length ∧ ∀ f ∈ u.fns.take i, ¬ BigP f at hA
 obtain ⟨hi, hS⟩ := hA
 refine Zb (Zd (Zc (Zj1 rfl rfl rfl (Za (Zi (Zb ?_))))))
 refine Zn1 rfl (fun h18 => ?_) (fun h18 => ?_)
 ·
  obtain ⟨f, hf⟩ := get_of_lt u.fns i h18
  have h0 := hfs f (Ya hf)
  refine Zi1 (Zi (Zb (Zs (Zb (Zd ?_)))))
  refine Zc (Zz (el := funcV f) VT.sl22 rfl rfl (by omega) (get_mapS _ hf) (fun a19 => ?_))
  refine Zc (Za2 VT.ty34 rfl rfl ?_)
  refine Zc (Zb2 VT.zr34 _ rfl rfl (fun g8 => ?_))
  refine Zc (Zx 0 VT.ty34 rfl rfl rfl rfl rfl (Za (Zi (Zb (Zd (Zc (Zl rfl (Zc (Zv 0 VT.ty34 rfl rfl rfl ?_)))))))))
  by_cases hl : BigP f
  ·
   refine Zc (V_callCloP [.tmp 23] rfl rfl rfl VT.en9 (Pre_big h0 hl) ?_)
   refine Zc (Zl rfl (Zc (Zg2 rfl rfl (Zc (Zg2 rfl rfl ?_)))))
   refine Zc (Zb2 VT.zr34 _ rfl rfl (fun g9 => ?_))
   refine Zc (Zx 0 VT.ty34 rfl rfl rfl rfl rfl (Zc (Zk rfl (Za (Zi (Zb (Zb (Zd (Zc (Zl rfl (Zc (Zj1 rfl rfl rfl (Za (Zi ?_))))))))))))))
   refine Zm1 rfl (fun h28 => ?_) (fun h28 => ?_)
   ·
    refine Zb (Zd ?_)
    refine Zc (Zf2 [] [] VT.st24 rfl rfl rfl rfl ?_)
    refine Zc (Zl rfl (Zc (Zx 4 VT.ty24 rfl rfl rfl rfl rfl (Zc (Zk rfl (Za (Zi (Zf1 ?_))))))))
    refine Zd1 (Za1 (Zd1 (Zd1 (Za1 (Zd1 (Zh1 rfl rfl (.cons (.agg (i := 4) VT.ty24 rfl rfl rfl) (.cons (.tmp rfl) (.nil))) ?_))))))
    exact ⟨[], Drops.nil _, rfl, .inr ⟨fun hs => hs f (Ya hf) hl, rfl⟩⟩
   · exact absurd h28 (by decide)
  ·
   have hsm : ∀ x ∈ u.fns.take (i + 1), ¬ BigP x := fun x hx => by rw [take_snoc hf] at hx; rcases List.mem_append.1 hx with h | h; exact hS x h; rw [List.mem_singleton.1 h]; exact hl
   refine Zc (V_callCloP [.tmp 23] rfl rfl rfl VT.en9 (Pre_0 h0 hl) ?_)
   refine Zc (Zl rfl (Zc (Zg2 rfl rfl (Zc (Zg2 rfl rfl ?_)))))
   refine Zc (Zb2 VT.zr34 _ rfl rfl (fun g9 => ?_))
   refine Zc (Zx 0 VT.ty34 rfl rfl rfl rfl rfl (Zc (Zk rfl (Za (Zi (Zb (Zb (Zd (Zc (Zl rfl (Zc (Zj1 rfl rfl rfl (Za (Zi ?_))))))))))))))
   refine Zm1 rfl (fun h28 => ?_) (fun h28 => ?_)
   · exact absurd rfl h28
   ·
    refine Zi1 (Zi (Zd (Zc (Zj VT.fa24_0 rfl (Zc (Zu 3 VT.ty22 rfl rfl rfl (Zc (Zv 0 VT.ty34 rfl rfl rfl ?_))))))))
    refine Zc (Zk3 [.tmp 33] VT.sl22 rfl rfl rfl rfl rfl ?_)
    refine Zc (Zi3 2 _ VT.sl22 rfl rfl rfl (by simp; omega) (by simp; omega) (fun t35 => ?_))
    refine Zc (Zj VT.fa24_0 rfl (Zc (Zy 3 VT.ty22 rfl rfl rfl rfl rfl (Za (Zb1 (Zi (Zd ?_)))))))
    refine Zc (Zh2 rfl rfl (by omega) ?_)
    refine Zc (Zl rfl (Za (Zi ?_)))
    exact ⟨(i + 1, t35), (by (try simp only []); omega), ⟨by omega, hsm⟩, ⟨rfl, rfl, rfl, rfl, rfl, rfl, rfl, trivial⟩, (Drops.drop (Drops.drop (Drops.buf (by simp; omega) (Drops.keepE (congrArg (fun l => Own.cells g6 24 [.sl 2 (some t35) l, .int u.main]) (by rw [take_snoc hf, List.map_append]; rfl)) (Drops.keep (Drops.keep (Zt2 _)))))))⟩
 ·
  have hie : i = u.fns.length := by omega
  subst hie
  have hst : V.le (.sl 2 (some tok) ((u.fns.take u.fns.length).map fun f => funcV (preF f))) (funcsX (preU u).fns) := by rw [Yb]; show V.le _ (.sl 2 none ((u.fns.map preF).map funcV)); rw [List.map_map]; exact V.le.strip
  rw [Yb] at hS
  refine Zt (Ze1 (Ze1 (Zc1 (Zi ?_))))
  refine VW_cells 1 (ls' := [funcsX (preU u).fns, .int u.main]) rfl ⟨hst, rfl, V.le.refl _, rfl, trivial⟩ ?_
  refine Zb (Zd (Zc (Zv 1 VT.ty24 rfl rfl rfl (Zc (Zx 2 VT.ty24 rfl rfl rfl rfl rfl (Zc (Zk rfl (Za (Zi (Zf1 ?_))))))))))
  refine Zh1 rfl rfl (.cons (.agg (i := 2) VT.ty24 rfl rfl rfl) (.cons (.tmp rfl) (.nil))) ?_
  exact ⟨[], Drops.nil _, rfl, .inl ⟨hS, rfl⟩⟩
theorem each_ok {u : SUnit} (hU : unitF u = 0) (hS : SmallP u) : VPure Tryz.prog 8 [unitV u, .clo (.func 9) []] (.tup [unitV (preU u), .int 0]) := (each_c hU).mono fun r S' ⟨h1, h2⟩ => h2.elim (fun h => h.2) fun h => absurd hS h.1
theorem each_big {u : SUnit} (hU : unitF u = 0) (hS : ¬ SmallP u) : VPure Tryz.prog 8 [unitV u, .clo (.func 9) []] (.tup [.agg VT.zs24, .int 2]) := (each_c hU).mono fun r S' ⟨h1, h2⟩ => h2.elim (fun h => absurd h.1 hS) fun h => h.2
set_option maxRecDepth 100000 in
theorem hasInt_c (l : List Int) (v : Int) : VPure Tryz.prog 12 [intsX l, .int v] (.bool (l.any fun y => decide (v = y))) := by
 refine V_start (nt := 17) Tryz.func12 rfl rfl rfl ?_
 refine Zb (Zd (Zc (Zk rfl (Za (Zi (Zb (Zb (Zd (Zc (Zl rfl ?_))))))))))
 refine Zc (Zd2 (n := l.length) Tryz.underlying41 rfl (by simp) (fun hl8 => ?_))
 refine Zc (Zl rfl (Za (Zi (Zs ?_))))
 refine Zi2 (ι := Nat) (fun k => l.length - k) (fun k => [(1, some (.int v)), (7, some (intsX l)), (8, some (.int l.length)), (9, some (.int k))]) (fun k => []) (fun k => k ≤ l.length ∧ ((l.take k).any fun y => decide (v = y)) = false) 0 ⟨Yc _, rfl⟩ ⟨rfl, rfl, rfl, rfl, trivial⟩ (Drops.nil _) ?_
 rintro k hA
 change k ≤ l.length ∧ ((l.take k).any fun y => decide (v = y)) = false at hA
 obtain ⟨hk, hany⟩ := hA
 refine Zb (Zd (Zc (Zj1 rfl rfl rfl (Za (Zi (Zb ?_))))))
 refine Zn1 rfl (fun h10 => ?_) (fun h10 => ?_)
 ·
  obtain ⟨x, hr⟩ := get_of_lt l k h10
  refine Zi1 (Zi (Zb (Zs (Zb (Zd ?_)))))
  refine Zc (Zz (el := V.int x) VT.sl41 rfl rfl (by omega) (get_int hr) (fun a11 => ?_))
  refine Zc (Zz1 VT.ty3 rfl rfl (Zc (Zk rfl (Za (Zi (Zb (Zd (Zc (Zl rfl (Zc (Zl rfl (Zc (Zj1 rfl rfl rfl (Za (Zi ?_)))))))))))))))
  refine Zl1 rfl (fun h15 => ?_) (fun h15 => ?_)
  ·
   refine Zb (Zd (Zc (Zk rfl (Za (Zi (Zf1 ?_))))))
   refine Za1 (Zd1 (Zd1 (Za1 (Zd1 (Zg1 rfl (.tmp rfl) ?_)))))
   rw [List.any_eq_true.2 ⟨x, Ya hr, decide_eq_true h15.symm⟩]
  ·
   refine Zi1 (Zb1 (Zi (Zd ?_)))
   refine Zc (Zh2 rfl rfl (by omega) ?_)
   refine Zc (Zl rfl (Za (Zi ?_)))
   exact ⟨k + 1, (by (try simp only []); omega), ⟨by omega, any_snoc hr hany (decide_eq_false (fun e => h15 e.symm))⟩, ⟨rfl, rfl, rfl, rfl, trivial⟩, (Drops.nil _)⟩
 ·
  have hke : k = l.length := by omega
  subst hke
  rw [Yb] at hany
  refine Zt (Ze1 (Ze1 (Zc1 (Zi (Zb (Zd (Zc (Zk rfl (Za (Zi (Zf1 ?_)))))))))))
  refine Zg1 rfl (.tmp rfl) ?_
  rw [hany]
set_option maxRecDepth 100000 in
set_option maxHeartbeats 16000000 in
theorem loopsEntered_c (u : SUnit) : VPure Tryz.prog 3 [unitV u] (.bool true) := by
 refine V_start (nt := 135) Tryz.func3 rfl rfl rfl ?_
 refine Zb (Zd ?_)
 refine Zc (Zc2 rfl rfl (fun g1 => ?_))
 refine Zc (Zk rfl (Za (Zi (Zb (Zb (Zd ?_))))))
 refine Zc (Zx1 [] rfl rfl VT.en5 (works_c) ?_)
 refine Zc (Zl2 rfl (Za (Zi ?_)))
 refine Zq1 rfl (rfl) ?_
 refine Zi1 (Zi (Zb (Zb (Zd (Zc (Zv 0 VT.ty24 rfl rfl rfl ?_))))))
 by_cases hU : unitF u = 0
 ·
  have hC := Check_c u
  rw [hU] at hC
  have hfs := nw_fns hU
  refine Zc (Zx1 [.tmp 22] rfl rfl VT.en6 (hC) ?_)
  refine Zc (Zj1 rfl rfl rfl (Zc (Zl rfl ?_)))
  refine Zj2 (q := 25) rfl (fun hq25 => ?_) (fun hq25 => ?_)
  · exact absurd hq25 (by decide)
  ·
   refine Zc (Zv 0 VT.ty24 rfl rfl rfl ?_) (Zy0 hq25)
   refine Zc (Zm3 [.tmp 26] [] _ rfl rfl VT.en7 (.refl _) (simple_c hU) ?_) (Zy0 hq25)
   rintro _ _ ⟨rfl, sb, rfl⟩
   refine Zc (Zl2 rfl ?_) (Zy0 hq25)
   refine Zc (Zt1 rfl hq25 rfl ?_)
   refine Za (Zi ?_)
   refine Zo1 rfl (fun h29 => ?_) (fun h29 => ?_)
   ·
    refine Zb (Zd (Zc (Zk rfl (Za (Zi (Zf1 ?_))))))
    refine Zd1 (Zg1 rfl (.tmp rfl) ?_)
    rfl
   ·
    refine Zi1 (Zi (Zb (Zd (Zc (Zv 0 VT.ty24 rfl rfl rfl ?_)))))
    by_cases hS : SmallP u
    ·
     have hpf : ∀ f ∈ u.fns, funcF (preF f) = 0 := fun f hf => pre_fine (hfs f hf) (hS f hf)
     refine Zc (Zx1 [.tmp 31, .func 9] rfl rfl VT.en8 (each_ok hU hS) ?_)
     refine Zc (Zl rfl (Zc (Zg2 rfl rfl (Zc (Zg2 rfl rfl ?_)))))
     refine Zc (Zb2 VT.zr24 _ rfl rfl (fun g3 => ?_))
     refine Zc (Zx 0 VT.ty24 rfl rfl rfl rfl rfl (Zc (Zk rfl (Za (Zi (Zb (Zb (Zd (Zc (Zl rfl (Zc (Zj1 rfl rfl rfl (Za (Zi ?_))))))))))))))
     refine Zm1 rfl (fun h36 => ?_) (fun h36 => ?_)
     · exact absurd rfl h36
     ·
      refine Zi1 (Zi (Zb (Zb (Zd (Zc (Zj VT.fa24_0 rfl (Zc (Zu 0 VT.ty22 rfl rfl rfl ?_))))))))
      refine Zc (Zd2 (n := (preU u).fns.length) Tryz.underlying22 rfl (by simp) (fun hl41 => ?_))
      refine Zc (Zl rfl (Za (Zi (Zs ?_))))
      refine Zi2 (ι := Nat) (fun k => (preU u).fns.length - k) (fun k => [(1, some (.ptr g1 0)), (3, some (.ptr g3 0)), (40, some (funcsX (preU u).fns)), (41, some (.int (preU u).fns.length)), (42, some (.int k))]) (fun k => [.cells g3 24 [funcsX (preU u).fns, .int u.main], .cells g1 24 [funcsX u.fns, .int u.main]]) (fun k => k ≤ (preU u).fns.length) 0 (Yc _) ⟨rfl, rfl, rfl, rfl, rfl, trivial⟩ (Drops.keep (Drops.keep (Zt2 _))) ?_
      rintro k hk
      change k ≤ (preU u).fns.length at hk
      refine Zb (Zd (Zc (Zj1 rfl rfl rfl (Za (Zi (Zb ?_))))))
      refine Zn1 rfl (fun h43 => ?_) (fun h43 => ?_)
      ·
       obtain ⟨g, hg⟩ := get_of_lt (preU u).fns k h43
       have hg2 := hg
       rw [preU_get] at hg2
       obtain ⟨f, hf, rfl⟩ := Option.map_eq_some_iff.1 hg2
       have hfm := Ya hf
       have h0 := hfs f hfm
       have g0 := hpf f hfm
       have gok := func_ok g0
       have hPr := Preds_c (preF f)
       rw [if_pos g0, g0] at hPr
       have hpl := predsF_len (preF f).blocks
       have hmany := pre_many h0 g0
       have hag := pre_again h0 g0
       refine Zi1 (Zi (Zb (Zs (Zb (Zd (Zc (Zl rfl ?_)))))))
       refine Zc (Zz (el := funcV (preF f)) VT.sl22 rfl rfl (by omega) (get_mapS _ hg) (fun a45 => ?_))
       refine Zc (Za2 VT.ty34 rfl rfl ?_)
       refine Zc (Zb2 VT.zr34 _ rfl rfl (fun g6 => ?_))
       refine Zc (Zk rfl (Zc (Zx 0 VT.ty34 rfl rfl rfl rfl rfl (Za (Zi (Zb (Zd (Zc (Zv 0 VT.ty34 rfl rfl rfl ?_)))))))))
       refine Zc (Zm3 [.tmp 48] [] _ rfl rfl VT.en10 (.refl _) (Find_0 g0) ?_)
       rintro _ _ ⟨rfl, L3, hI, rfl⟩
       refine Zc (Zl rfl (Zc (Zg2 rfl rfl (Zc (Zg2 rfl rfl (Zc (Zk rfl (Zc (Zk rfl (Za (Zi (Zb (Zd (Zc (Zj VT.fa24_0 rfl (Zc (Zu 2 VT.ty22 rfl rfl rfl (Zc (Zl rfl ?_)))))))))))))))))))
       refine Zc (Zz (el := funcV f) VT.sl22 rfl rfl (by omega) (get_mapS _ (by rw [Int.toNat_natCast]; exact hf)) (fun a56 => ?_))
       refine Zc (Za2 VT.ty34 rfl rfl ?_)
       refine Zc (Zm3 [.tmp 57] [] _ rfl rfl VT.en10 (.refl _) (Find_0 h0) ?_)
       rintro _ _ ⟨rfl, L4, hJ, rfl⟩
       refine Zc (Zl rfl (Zc (Zg2 rfl rfl (Zc (Zg2 rfl rfl (Zc (Zk rfl (Zc (Zk rfl (Za (Zi (Zb (Zd (Zc (Zv 0 VT.ty34 rfl rfl rfl ?_)))))))))))))))
       refine Zc (Zx1 [.tmp 62] rfl rfl VT.en11 (hPr) ?_)
       refine Zc (Zl rfl (Zc (Zg2 rfl rfl (Zc (Zg2 rfl rfl (Zc (Zk rfl (Zc (Zk rfl (Za (Zi (Zb (Zb (Zd (Zc (Zl rfl (Zc (Zj1 rfl rfl rfl (Zc (Zl rfl ?_))))))))))))))))))))
       refine Zj2 (q := 68) rfl (fun hq68 => ?_) (fun hq68 => ?_)
       · exact absurd hq68 (by decide)
       ·
        refine Zc (Zl rfl ?_) (Zy0 hq68)
        refine Zc (Zj1 rfl rfl rfl ?_) (Zy0 hq68)
        refine Zc (Zt1 rfl hq68 rfl ?_)
        refine Zc (Zl rfl ?_)
        refine Zj2 (q := 72) rfl (fun hq72 => ?_) (fun hq72 => ?_)
        · exact absurd hq72 (by decide)
        ·
         refine Zc (Zl rfl ?_) (Zy0 hq72)
         refine Zc (Zj1 rfl rfl rfl ?_) (Zy0 hq72)
         refine Zc (Zt1 rfl hq72 rfl ?_)
         refine Zc (Zl rfl ?_)
         refine Zj2 (q := 76) rfl (fun hq76 => ?_) (fun hq76 => ?_)
         · exact absurd hq76 (by decide)
         ·
          refine Zc (Zl rfl ?_) (Zy0 hq76)
          refine Zc (Zd2 (n := L3.length) Tryz.underlying35 rfl (by simp) (fun hl78 => ?_)) (Zy0 hq76)
          refine Zc (Zl rfl ?_) (Zy0 hq76)
          refine Zc (Zd2 (n := L4.length) Tryz.underlying35 rfl (by simp) (fun hl80 => ?_)) (Zy0 hq76)
          refine Zc (Zj1 rfl rfl rfl ?_) (Zy0 hq76)
          refine Zc (Zt1 rfl hq76 rfl ?_)
          refine Za (Zi ?_)
          refine Zm1 rfl (fun h82 => ?_) (fun h82 => ?_)
          · exact absurd (by rw [linv_len hI, linv_len hJ, hmany]) h82
          ·
           refine Zi1 (Zi (Zb (Zb (Zd (Zc (Zl rfl ?_))))))
           refine Zc (Zd2 (n := L3.length) Tryz.underlying35 rfl (by simp) (fun hl84 => ?_))
           refine Zc (Zl rfl (Za (Zi (Zs ?_))))
           refine Zi2 (ι := Nat) (fun i => L3.length - i) (fun i => [(1, some (.ptr g1 0)), (3, some (.ptr g3 0)), (40, some (funcsX (preU u).fns)), (41, some (.int (preU u).fns.length)), (42, some (.int k)), (6, some (.ptr g6 0)), (11, some (rowsX (predsF (preF f).blocks))), (83, some (.sl 3 none (L3.map lpV))), (84, some (.int L3.length)), (85, some (.int i))]) (fun i => [.cells g6 34 [.int (preF f).name, blocksX (preF f).blocks], .cells g3 24 [funcsX (preU u).fns, .int u.main], .cells g1 24 [funcsX u.fns, .int u.main]]) (fun i => i ≤ L3.length) 0 (Yc _) ⟨rfl, rfl, rfl, rfl, rfl, rfl, rfl, rfl, rfl, rfl, trivial⟩ (Drops.keep (Drops.keep (Drops.keep (Zt2 _)))) ?_
           rintro i hi
           change i ≤ L3.length at hi
           refine Zb (Zd (Zc (Zj1 rfl rfl rfl (Za (Zi (Zb ?_))))))
           refine Zn1 rfl (fun h86 => ?_) (fun h86 => ?_)
           ·
            obtain ⟨y, hy⟩ := get_of_lt L3 i h86
            obtain ⟨h, k0, P, hyh, hP, hflt, hone, hPn⟩ := entered_law h0 g0 (Ya (find_at hI hy))
            have hyh : y.1 = (h : Int) := hyh
            have hPl := preds_one gok hP
            refine Zi1 (Zi (Zb (Zs (Zb (Zd ?_)))))
            refine Zc (Zz (el := lpV y) VT.sl35 rfl rfl (by omega) (get_mapS lpV hy) (fun a87 => ?_))
            refine Zc (Za2 VT.ty43 rfl rfl ?_)
            refine Zc (Zb2 VT.zr43 _ rfl rfl (fun g14 => ?_))
            refine Zc (Zx 0 VT.ty43 rfl rfl rfl rfl rfl (Za (Zi (Zb (Zd (Zc (Zk rfl (Za (Zi (Zb (Zb (Zd (Zc (Zl rfl (Zc (Zj VT.fa43_0 rfl (Zc (Zu 0 VT.ty3 rfl rfl rfl ?_))))))))))))))))))
            refine Zc (Zz (el := intsX P) VT.sl38 rfl rfl (by rw [hyh]; omega) (get_mapS _ (by rw [hyh, Int.toNat_natCast]; exact hP)) (fun a92 => ?_))
            refine Zc (Zz1 VT.ty41 rfl rfl ?_)
            refine Zc (Zd2 (n := P.length) Tryz.underlying41 rfl (by simp) (fun hl94 => ?_))
            refine Zc (Zl rfl (Za (Zi (Zs ?_))))
            refine Zi2 (ι := Nat × Nat) (fun (j, c) => P.length - j) (fun (j, c) => [(1, some (.ptr g1 0)), (3, some (.ptr g3 0)), (40, some (funcsX (preU u).fns)), (41, some (.int (preU u).fns.length)), (42, some (.int k)), (6, some (.ptr g6 0)), (11, some (rowsX (predsF (preF f).blocks))), (83, some (.sl 3 none (L3.map lpV))), (84, some (.int L3.length)), (85, some (.int i)), (14, some (.ptr g14 0)), (15, some (.int c)), (93, some (intsX P)), (94, some (.int P.length)), (95, some (.int j))]) (fun (j, c) => [.cells g14 43 [.int y.1, intsX y.2.1, .int y.2.2], .cells g6 34 [.int (preF f).name, blocksX (preF f).blocks], .cells g3 24 [funcsX (preU u).fns, .int u.main], .cells g1 24 [funcsX u.fns, .int u.main]]) (fun (j, c) => j ≤ P.length ∧ c = ((P.take j).filter fun p => !inL (y.1, y.2.1) p).length) (0, 0) ⟨Yc _, rfl⟩ ⟨rfl, rfl, rfl, rfl, rfl, rfl, rfl, rfl, rfl, rfl, rfl, rfl, rfl, rfl, rfl, trivial⟩ (Drops.keep (Drops.keep (Drops.keep (Drops.keep (Zt2 _))))) ?_
            rintro ⟨j, c⟩ hB
            change j ≤ P.length ∧ c = ((P.take j).filter fun p => !inL (y.1, y.2.1) p).length at hB
            obtain ⟨hj, hc⟩ := hB
            have hcl := cnt_le (x := (y.1, y.2.1)) (P := P) (j := j)
            refine Zb (Zd (Zc (Zj1 rfl rfl rfl (Za (Zi (Zb ?_))))))
            refine Zn1 rfl (fun h96 => ?_) (fun h96 => ?_)
            ·
             obtain ⟨p, hp⟩ := get_of_lt P j h96
             obtain ⟨v, rfl, hv⟩ := hPn p (Ya hp)
             refine Zi1 (Zi (Zb (Zs (Zb (Zd ?_)))))
             refine Zc (Zz (el := V.int (v : Int)) VT.sl41 rfl rfl (by omega) (get_int hp) (fun a97 => ?_))
             refine Zc (Zz1 VT.ty3 rfl rfl (Zc (Zk rfl (Za (Zi (Zb (Zb (Zd (Zc (Zj VT.fa43_1 rfl (Zc (Zu 0 VT.ty41 rfl rfl rfl (Zc (Zl rfl ?_))))))))))))))
             refine Zc (Zx1 [.tmp 100, .tmp 101] rfl rfl VT.en12 (hasInt_c y.2.1 (v : Int)) ?_)
             refine Za (Zi ?_)
             refine Zr1 rfl (fun h102 => ?_) (fun h102 => ?_)
             ·
              have hc2 := hc.trans (cnt_T (x := (y.1, y.2.1)) hp h102).symm
              refine Zt (Ze1 (Zc1 (Zi (Zd ?_))))
              refine Zc (Zh2 rfl rfl (by omega) ?_)
              refine Zc (Zl rfl (Za (Zi ?_)))
              exact ⟨(j + 1, c), (by (try simp only []); omega), ⟨by omega, hc2⟩, ⟨rfl, rfl, rfl, rfl, rfl, rfl, rfl, rfl, rfl, rfl, rfl, (by first | rfl | exact congrArg (fun n : Int => some (V.int n)) (by omega)), rfl, rfl, rfl, trivial⟩, (Drops.keep (Drops.keep (Drops.keep (Drops.keep (Zt2 _)))))⟩
             ·
              have hin : inL (y.1, y.2.1) (v : Int) = false := h102
              have hc2 : c + 1 = ((P.take (j + 1)).filter fun p => !inL (y.1, y.2.1) p).length := by rw [cnt_F hp hin, ← hc]
              have hvk : v = k0 := by have h9 : (v : Int) ∈ P.filter (fun p => !inL (y.1, y.2.1) p) := List.mem_filter.2 ⟨Ya hp, by rw [hin]; rfl⟩; rw [hflt, List.mem_singleton] at h9; omega
              subst hvk
              obtain ⟨b, hb⟩ := get_of_lt (preF f).blocks v (by omega)
              rw [toAt_get hb] at hone
              refine Zi1 (Zi (Zb (Zd (Zc (Zl rfl ?_)))))
              refine Zc (Zh2 rfl rfl (by omega) ?_)
              refine Zc (Zk rfl (Za (Zi (Zb (Zd (Zc (Zj VT.fa34_1 rfl (Zc (Zu 1 VT.ty32 rfl rfl rfl (Zc (Zl rfl ?_)))))))))))
              refine Zc (Zz (el := blockV b) VT.sl32 rfl rfl (by omega) (get_mapS _ hb) (fun a108 => ?_))
              refine Zc (Zs2 VT.fa50_2 rfl (Zc (Zw1 VT.fa47_4 rfl rfl (Zc (Zz1 VT.ty45 rfl rfl ?_)))))
              refine Zc (Zd2 (n := b.term.to.length) Tryz.underlying45 rfl (by simp) (fun hl112 => ?_))
              refine Zc (Zj1 rfl rfl rfl (Za (Zi ?_)))
              refine Zm1 rfl (fun h113 => ?_) (fun h113 => ?_)
              · exact absurd (by rw [hone]; rfl) h113
              ·
               refine Zi1 (Zb1 (Zi (Zd ?_)))
               refine Zc (Zh2 rfl rfl (by omega) ?_)
               refine Zc (Zl rfl (Za (Zi ?_)))
               exact ⟨(j + 1, c + 1), (by (try simp only []); omega), ⟨by omega, hc2⟩, ⟨rfl, rfl, rfl, rfl, rfl, rfl, rfl, rfl, rfl, rfl, rfl, (by first | rfl | exact congrArg (fun n : Int => some (V.int n)) (by omega)), rfl, rfl, rfl, trivial⟩, (Drops.keep (Drops.keep (Drops.keep (Drops.keep (Zt2 _)))))⟩
            ·
             have hje : j = P.length := by omega
             subst hje
             rw [Yb, hflt] at hc
             refine Zt (Ze1 (Ze1 (Zc1 (Zi (Zb (Zd (Zc (Zl rfl (Zc (Zj1 rfl rfl rfl (Za (Zi ?_))))))))))))
             refine Zm1 rfl (fun h116 => ?_) (fun h116 => ?_)
             · exact absurd (by rw [hc]; rfl) h116
             ·
              refine Zi1 (Zb1 (Zi (Zd ?_)))
              refine Zc (Zh2 rfl rfl (by omega) ?_)
              refine Zc (Zl rfl (Za (Zi ?_)))
              exact ⟨i + 1, (by (try simp only []); omega), (by omega), ⟨rfl, rfl, rfl, rfl, rfl, rfl, rfl, rfl, rfl, rfl, trivial⟩, (Drops.drop (Drops.keep (Drops.keep (Drops.keep (Zt2 _)))))⟩
           ·
            refine Zt (Ze1 (Ze1 (Zc1 (Zi (Zb (Zd (Zc (Zv 0 VT.ty34 rfl rfl rfl ?_))))))))
            refine Zc (Zu2 (Zx1 [.tmp 119] rfl rfl VT.en9 (Pre_0 g0 (again_small h0 g0)) ⟨rfl, rfl⟩) ((V.le.of_eq (by rw [hag]) : V.le _ (.tup [funcV (preF f), .int 0]))) ?_)
            refine Zc (Zl rfl (Zc (Zg2 rfl rfl (Zc (Zg2 rfl rfl ?_)))))
            refine Zc (Zb2 VT.zr34 _ rfl rfl (fun g18 => ?_))
            refine Zc (Zx 0 VT.ty34 rfl rfl rfl rfl rfl (Zc (Zk rfl (Za (Zi (Zb (Zd (Zc (Zl rfl (Zc (Zj1 rfl rfl rfl (Zc (Zl rfl ?_)))))))))))))
            refine Zj2 (q := 125) rfl (fun hq125 => ?_) (fun hq125 => ?_)
            · exact absurd hq125 (by decide)
            ·
             refine Zc (Zv 1 VT.ty34 rfl rfl rfl ?_) (Zy0 hq125)
             refine Zc (Zv 0 VT.ty34 rfl rfl rfl ?_) (Zy0 hq125)
             refine Zc (Zx1 [.tmp 126, .tmp 127] rfl rfl VT.en13 (SameFunc_c (preF f)) ?_) (Zy0 hq125)
             refine Zc (Zl2 rfl ?_) (Zy0 hq125)
             refine Zc (Zt1 rfl hq125 rfl ?_)
             refine Za (Zi ?_)
             refine Zo1 rfl (fun h130 => ?_) (fun h130 => ?_)
             · cases h130
             ·
              refine Zi1 (Zb1 (Zi (Zd ?_)))
              refine Zc (Zh2 rfl rfl (by omega) ?_)
              refine Zc (Zl rfl (Za (Zi ?_)))
              exact ⟨k + 1, (by (try simp only []); omega), (by omega), ⟨rfl, rfl, rfl, rfl, rfl, trivial⟩, (Drops.drop (Drops.drop (Drops.keep (Drops.keep (Zt2 _)))))⟩
      ·
       refine Zt (Ze1 (Ze1 (Zc1 (Zi (Zb (Zd (Zc (Zv 1 VT.ty24 rfl rfl rfl (Zc (Zv 0 VT.ty24 rfl rfl rfl ?_))))))))))
       refine Zc (Zx1 [.tmp 132, .tmp 133] rfl rfl VT.en14 (alike_c fun h => pre_run hU hpf h (by decide) (by decide)) ?_)
       refine Zc (Zk rfl (Za (Zi (Zf1 ?_))))
       refine Zg1 rfl (.tmp rfl) ?_
       rfl
    ·
     refine Zc (Zx1 [.tmp 31, .func 9] rfl rfl VT.en8 (each_big hU hS) ?_)
     refine Zc (Zl rfl (Zc (Zg2 rfl rfl (Zc (Zg2 rfl rfl ?_)))))
     refine Zc (Zb2 VT.zr24 _ rfl rfl (fun g3 => ?_))
     refine Zc (Zx 0 VT.ty24 rfl rfl rfl rfl rfl (Zc (Zk rfl (Za (Zi (Zb (Zb (Zd (Zc (Zl rfl (Zc (Zj1 rfl rfl rfl (Za (Zi ?_))))))))))))))
     refine Zm1 rfl (fun h36 => ?_) (fun h36 => ?_)
     ·
      refine Zb (Zd (Zc (Zl rfl (Zc (Zj1 rfl rfl rfl (Zc (Zk rfl (Za (Zi (Zf1 ?_))))))))))
      refine Zd1 (Zg1 rfl (.tmp rfl) ?_)
      rfl
     · exact absurd h36 (by decide)
 ·
  refine Zc (Zx1 [.tmp 22] rfl rfl VT.en6 (Check_c u) ?_)
  refine Zc (Zj1 rfl rfl rfl (Zc (Zl rfl ?_)))
  refine Zj2 (q := 25) rfl (fun hq25 => ?_) (fun hq25 => ?_)
  ·
   refine Zk0 hq25 ?_
   refine Zk0 hq25 ?_
   refine Zk0 hq25 ?_
   refine Zc (Zs1 rfl hq25 rfl ?_)
   refine Za (Zi ?_)
   refine Zp1 rfl rfl ?_
   refine Zb (Zd (Zc (Zk rfl (Za (Zi (Zf1 ?_))))))
   refine Zd1 (Zg1 rfl (.tmp rfl) ?_)
   rfl
  · exact absurd (by simpa using hq25) hU
end Go.Proofs.YtjekhhgjfelpgaaGreat.X80
