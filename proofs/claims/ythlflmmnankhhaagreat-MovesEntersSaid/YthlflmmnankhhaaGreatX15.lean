import Derived.Test.YthlflmmnankhhaaGreatDZ
import Derived.Test.YthlflmmnankhhaaGreatXD
set_option maxRecDepth 100000
set_option maxHeartbeats 8000000
open Go.VL.Drops renaming keep → Dk, drop → Dd
set_option linter.all false
open List renaming drop_length → Ya, mem_of_getElem? → Yb
open Nat renaming zero_le → Yc
namespace Go.Proofs.YthlflmmnankhhaaGreat.X15
open Go.VL Go.SM Go.Proofs.YthlflmmnankhhaaGreat X1 X2 X3 X4 X5 X6 X7 X8 X9
theorem mins_n {i : SIns} (h : minsF i = 0) (ho : i.op = 13 \/ i.op = 9) : 0 <= i.n := by
  unfold minsF at h
  split at h
  . cases h
  . rw [if_pos (by omega)] at h
    exact form_n h ho
theorem variable_c (v : Int) : VPure Tryz.prog 43 [.int v] (.bool (mvarF v)) := by
 refine V_start (nt := 9) Tryz.func43 rfl rfl rfl ?_
 refine Zb<|Zd<|Zc<|Zk rfl<|Za<|Zi<|Zb<|Zd<|Zc<|Zl rfl<|Zc<|Zj1 rfl rfl rfl<|Zc<|Zl rfl<|Zj2 (q := 5) rfl (λ hq5 => ?_)<|λ hq5 => ?_
 .
  refine Zc (Zl rfl ?_)<|Zy1 hq5
  refine Zc (Zj1 rfl rfl rfl ?_)<|Zy1 hq5
  refine Zc<|Zs1 rfl hq5 rfl<|Zc<|Zk rfl<|Za<|Zi<|Zf1<|Zg1 rfl (.tmp rfl) ?_
  exact congrArg V.bool (by unfold mvarF; first | (simp_all; done) | (simp_all; omega))
 refine Zk1 hq5<|Zk1 hq5<|Zc<|Zt1 rfl hq5 rfl<|Zc<|Zk rfl<|Za<|Zi<|Zf1<|Zg1 rfl (.tmp rfl) ?_
 exact congrArg V.bool (by unfold mvarF; first | (simp_all; done) | (simp_all; omega))
theorem inst1_c (v : Int) : VPure Tryz.prog 74 [.int v] (.bool (!mvarF v)) := by
 refine V_start (nt := 6) Tryz.func74 rfl rfl rfl ?_
 refine Zb<|Zd<|Zc<|Zk rfl<|Za<|Zi<|Zb<|Zd<|Zc<|Zl rfl<|Zc<|Zx1 [.tmp 3] rfl rfl VT.en43 (variable_c _)<|Zc<|Zl2 rfl<|Zc<|Zk rfl<|Za<|Zi<|Zf1<|Zg1 rfl (.tmp rfl) ?_
 rfl
theorem intPIdx_c {l : List Int} {tok : Option Tok} {p : Int -> Bool} {c : FuncId} {caps : List V} (hen : Enters Tryz.prog c) (hp : ∀ x ∈ l, VPure Tryz.prog c (V.int x :: caps) (.bool (p x))) : VPure Tryz.prog 97 [.sl 1 tok (l.map V.int), .clo (.func c) caps] (.int (idxOf p l)) := by
 refine V_start (nt := 19) Tryz.func97 rfl rfl rfl ?_
 refine Zb<|Zd<|Zc<|Zk rfl<|Za<|Zi<|Zb<|Zb<|Zd<|Zc<|Zl rfl<|Zc<|Zd2 (n := l.length) Tryz.underlying32 rfl (by simp)<|λ hl7 => (Zc<|Zl rfl<|Za<|Zi<|Zs<|Zi2 (ι := Nat) (λ k => l.length - k) (λ k => [(0, some (.sl 1 tok (l.map V.int))), (1, some (.clo (.func c) caps)), (7, some (.int l.length)), (8, some (.int k))]) (λ k => []) (λ k => k <= l.length /\ (l.take k).any p = false) 0 ⟨Yc _, rfl⟩ ⟨rfl, rfl, rfl, rfl, trivial⟩ (Zt2 _) ?_)
 rintro k hA
 change k <= l.length /\ (l.take k).any p = false at hA
 obtain ⟨hk, hany⟩ := hA
 refine Zb<|Zd<|Zc<|Zj1 rfl rfl rfl<|Za<|Zi<|Zb<|Zn1 rfl (λ h9 => ?_)<|λ h9 => ?_
 .
  obtain ⟨x, hr⟩ := get_of_lt l k h9
  refine Zi1<|Zi<|Zb<|Zs<|Zb<|Zd<|Zc<|Zl rfl<|Zc<|Zk rfl<|Za<|Zi<|Zb<|Zd<|Zc<|Zl rfl<|Zc<|Zl rfl<|Zc<|Zl rfl<|Zc<|Zz (el := V.int x) VT.sl32 rfl rfl (by omega) (get_int hr)<|λ a14 => (Zc<|Zz1 VT.ty3 rfl rfl<|Zc<|V_callCloP [.tmp 15] rfl rfl rfl hen (hp x<|Yb hr)<|Za<|Zi<|Zr1 rfl (λ h16 => ?_)<|λ h16 => ?_)
  .
   refine Zb<|Zd<|Zc<|Zl rfl<|Zc<|Zk rfl<|Za<|Zi<|Zf1<|Za1<|Zd1<|Zd1<|Za1<|Zd1<|Zg1 rfl (.tmp rfl) ?_
   rw [idxOf_at p hr hany h16]
  refine Zi1<|Zb1<|Zi<|Zd<|Zc<|Zh2 rfl rfl (by omega)<|Zc<|Zl rfl<|Za<|Zi ?_
  exact ⟨k + 1, (by (try simp only []); omega), ⟨by omega, any_snoc hr hany h16⟩, ⟨rfl, rfl, rfl, rfl, trivial⟩, (Drops.nil _)⟩
 have hke : k = l.length := by omega
 subst hke
 rw [List.take_length] at hany
 refine Zt<|Ze1<|Ze1<|Zc1<|Zi<|Zb<|Zd<|Zc<|Zk rfl<|Za<|Zi<|Zf1<|Zg1 rfl (.tmp rfl) ?_
 rw [idxOf_none p hany]
theorem intPAny_c {l : List Int} {tok : Option Tok} {p : Int -> Bool} {c : FuncId} {caps : List V} (hen : Enters Tryz.prog c) (hp : ∀ x ∈ l, VPure Tryz.prog c (V.int x :: caps) (.bool (p x))) : VPure Tryz.prog 73 [.sl 1 tok (l.map V.int), .clo (.func c) caps] (.bool (l.any p)) := by
 refine V_start (nt := 9) Tryz.func73 rfl rfl rfl ?_
 refine Zb<|Zd<|Zc<|Zk rfl<|Za<|Zi<|Zb<|Zd<|Zc<|Zl rfl<|Zc<|Zl rfl<|Zc<|Zx1 [.tmp 5, .tmp 6] rfl rfl VT.en97 (intPIdx_c hen hp)<|Zc<|Zj1 rfl rfl rfl<|Zc<|Zk rfl<|Za<|Zi<|Zf1<|Zg1 rfl (.tmp rfl) ?_
 rw [idxOf_ge]
theorem instruction_c (i : SIns) : VPure Tryz.prog 45 [insV i] (.int (minsF i)) := by
 have hr := minsF.eq_def i
 refine V_start (nt := 26) Tryz.func45 rfl rfl rfl ?_
 refine Zb<|Zd<|Zc<|Zc2 rfl rfl<|λ g1 => (Zc<|Zk rfl<|Za<|Zi<|Zb<|Zb<|Zd<|Zc<|Zj VT.fa42_0 rfl<|Zc<|Zu 0 VT.ty3 rfl rfl rfl<|Zc<|Zx1 [.tmp 4] rfl rfl VT.en43 (variable_c _)<|Zc<|Zl2 rfl<|Zc<|Zl rfl<|Zj2 (q := 7) rfl (λ hq7 => ?_)<|λ hq7 => ?_)
 .
  refine Zk0 hq7<|Zk0 hq7<|Zk0 hq7<|Zc<|Zs1 rfl hq7 rfl<|Za<|Zi<|Zp1 rfl rfl ?_
  rw [if_pos (by rw [hq7, Bool.true_or])] at hr
  refine Zb<|Zd<|Zc<|Zk rfl<|Za<|Zi<|Zf1<|Zd1<|Zg1 rfl (.tmp rfl) ?_
  rw [hr]
 refine Zc (Zj VT.fa42_3 rfl ?_)<|Zy0 hq7
 refine Zc (Zu 0 VT.ty32 rfl rfl rfl ?_)<|Zy0 hq7
 refine Zc (Zx1 [.tmp 9, .func 74] rfl rfl VT.en73 (intPAny_c VT.en74<|λ x _ => inst1_c x) ?_)<|Zy0 hq7
 refine Zc<|Zt1 rfl hq7 rfl<|Za<|Zi<|Zr1 rfl (λ h11 => ?_)<|λ h11 => ?_
 .
  rw [if_pos (by rw [h11, Bool.or_true])] at hr
  refine Zb<|Zd<|Zc<|Zk rfl<|Za<|Zi<|Zf1<|Zd1<|Zg1 rfl (.tmp rfl) ?_
  rw [hr]
 rw [if_neg (by rw [hq7, h11]; decide)] at hr
 refine Zi1<|Zi<|Zb<|Zb<|Zd<|Zc<|Zj VT.fa42_1 rfl<|Zc<|Zu 0 VT.ty3 rfl rfl rfl<|Zc<|Zj1 rfl rfl rfl<|Za<|Zi<|Zm1 rfl (λ h14 => ?_)<|λ h14 => ?_
 .
  rw [if_pos h14] at hr
  refine Zb<|Zd<|Zc<|Zv 0 VT.ty42 rfl rfl rfl<|Zc<|Zx1 [.tmp 15] rfl rfl VT.en75 (form_c i)<|Zc<|Zk rfl<|Za<|Zi<|Zf1<|Zd1<|Zg1 rfl (.tmp rfl) ?_
  rw [hr]
 rw [if_neg (λ h => h h14)] at hr
 refine Zi1<|Zi<|Zb<|Zs<|Zb<|Zd<|Zc<|Zj VT.fa42_3 rfl<|Zc<|Zu 0 VT.ty32 rfl rfl rfl<|Zc<|Zd2 (n := i.args.length) Tryz.underlying32 rfl (by simp)<|λ hl20 => (Zc<|Zj1 rfl rfl rfl<|Zc<|Zk rfl<|Za<|Zi<|Zm1 rfl (λ h17 => ?_)<|λ h17 => ?_)
 .
  rw [if_pos h17] at hr
  refine Zb<|Zd<|Zc<|Zk rfl<|Za<|Zi<|Zf1<|Za1<|Zd1<|Zg1 rfl (.tmp rfl) ?_
  rw [hr]
 rw [if_neg (λ h => h h17)] at hr
 refine Zb<|Zd<|Zc<|Zj VT.fa42_2 rfl<|Zc<|Zu 0 VT.ty3 rfl rfl rfl<|Zc<|Zj1 rfl rfl rfl<|Zc<|Zk rfl<|Za<|Zi<|Zm1 rfl (λ h22 => ?_)<|λ h22 => ?_
 .
  rw [if_pos h22] at hr
  refine Zb<|Zd<|Zc<|Zk rfl<|Za<|Zi<|Zf1<|Za1<|Zd1<|Zg1 rfl (.tmp rfl) ?_
  rw [hr]
 rw [if_neg (λ h => h h22)] at hr
 refine Zi1<|Zb1<|Zi<|Zb<|Zd<|Zc<|Zk rfl<|Za<|Zi<|Zf1<|Zg1 rfl (.tmp rfl) ?_
 rw [hr]
theorem function_c (f : SFunc) : VPure Tryz.prog 22 [funcV f] (.int (mfuncF f)) := by
 have hr := mfuncF.eq_def f
 refine V_start (nt := 121) Tryz.func22 rfl rfl rfl ?_
 refine Zb<|Zd<|Zc<|Zc2 rfl rfl<|λ g1 => (Zc<|Zk rfl<|Za<|Zi<|Zb<|Zd<|Zc<|Zk rfl<|Za<|Zi<|Zb<|Zb<|Zd<|Zc<|Zj VT.fa31_1 rfl<|Zc<|Zu 0 VT.ty29 rfl rfl rfl<|Zc<|Zd2 (n := f.blocks.length) Tryz.underlying29 rfl (by simp)<|λ hl16 => (Zc<|Zl rfl<|Za<|Zi<|Zs<|Zi2 (ι := Nat × Int) (λ (k, n) => f.blocks.length - k) (λ (k, n) => [(1, some (.ptr g1 0)), (3, some (.int n)), (15, some (blocksX f.blocks)), (16, some (.int f.blocks.length)), (17, some (.int k))]) (λ (k, n) => [.cells g1 31 [.int f.name, blocksX f.blocks]]) (λ (k, n) => k <= f.blocks.length /\ countIns n (f.blocks.drop k) = countIns 0 f.blocks) (0, 0) ⟨Yc _, rfl⟩ ⟨rfl, rfl, rfl, rfl, rfl, trivial⟩ (Dk<|Zt2 _) ?_))
 rintro ⟨k, n⟩ hA
 change k <= f.blocks.length /\ countIns n (f.blocks.drop k) = countIns 0 f.blocks at hA
 obtain ⟨hk, hq⟩ := hA
 refine Zb<|Zd<|Zc<|Zj1 rfl rfl rfl<|Za<|Zi<|Zb<|Zn1 rfl (λ h18 => ?_)<|λ h18 => ?_
 .
  obtain ⟨b, hb⟩ := get_of_lt f.blocks k h18
  refine Zi1<|Zi<|Zb<|Zs<|Zb<|Zd<|Zc<|Zz (el := blockV b) VT.sl29 rfl rfl (by omega) (get_mapS _ hb)<|λ a19 => (Zc<|Za2 VT.ty40 rfl rfl<|Zc<|Zb2 VT.zr40 _ rfl rfl<|λ g5 => (Zc<|Zx 0 VT.ty40 rfl rfl rfl rfl rfl<|Za<|Zi<|Zd<|Zc<|Zl rfl<|Zc<|Zj VT.fa40_1 rfl<|Zc<|Zu 0 VT.ty35 rfl rfl rfl<|Zc<|Zd2 (n := b.ins.length) Tryz.underlying35 rfl (by simp)<|λ hl24 => (Zc<|Zj1 rfl rfl rfl<|Zc<|Zk rfl<|Za<|Zb1<|Zi<|Zd<|Zc<|Zh2 rfl rfl (by omega)<|Zc<|Zl rfl<|Za<|Zi ?_)))
  exact ⟨(k + 1, IntKind.i64.wrap (n + b.ins.length)), (by (try simp only []); omega), ⟨by omega, by rw [<- hq, drop_cons hb, countIns]⟩, ⟨rfl, rfl, rfl, rfl, rfl, trivial⟩, (Dd (Dk (Zt2 _)))⟩
 have hke : k = f.blocks.length := by omega
 subst hke
 rw [Ya, countIns] at hq
 refine Zt<|Ze1<|Ze1<|Zc1<|Zi<|Zb<|Zs<|Zb<|Zd<|Zc<|Zj VT.fa31_1 rfl<|Zc<|Zu 0 VT.ty29 rfl rfl rfl<|Zc<|Zd2 (n := f.blocks.length) Tryz.underlying29 rfl (by simp)<|λ hl30 => (Zc<|Zj1 rfl rfl rfl<|Zc<|Zk rfl<|Za<|Zi<|Zl1 rfl (λ h27 => ?_)<|λ h27 => ?_)
 .
  rw [if_pos h27] at hr
  refine Zb<|Zd<|Zc<|Zk rfl<|Za<|Zi<|Zf1<|Za1<|Zd1<|Zg1 rfl (.tmp rfl) ?_
  first | (rw [hfin]; done) | (rw [hbad _ hm (by decide)]; done) | (rw [hr]; done)
 rw [if_neg h27] at hr
 obtain ⟨b0, hb0⟩ := get_of_lt f.blocks 0 (by omega)
 have hp : paramsOf f.blocks 0 = b0.params := by rw [paramsOf, show (0 : Int).toNat = 0 from rfl, hb0]; rfl
 rw [hp, <- hq] at hr
 refine Zb<|Zd<|Zc<|Zj VT.fa31_1 rfl<|Zc<|Zu 0 VT.ty29 rfl rfl rfl<|Zc<|Zd2 (n := f.blocks.length) Tryz.underlying29 rfl (by simp)<|λ hl35 => (Zc<|Zj1 rfl rfl rfl<|Zc<|Zl rfl<|Zj2 (q := 37) rfl (λ hq37 => ?_)<|λ hq37 => ?_)
 .
  have hx37 := of_decide_eq_true hq37
  refine Zk0 hq37<|Zk0 hq37<|Zc<|Zs1 rfl hq37 rfl<|Zc<|Zl rfl<|Zk0 rfl<|Zk0 rfl<|Zk0 rfl<|Zk0 rfl<|Zk0 rfl<|Zk0 rfl<|Zk0 rfl<|Zc<|Zs1 rfl rfl rfl<|Zc<|Zk rfl<|Za<|Zi<|Zp1 rfl rfl ?_
  rw [if_pos (by omega)] at hr
  refine Zb<|Zd<|Zc<|Zk rfl<|Za<|Zi<|Zf1<|Za1<|Zd1<|Zg1 rfl (.tmp rfl) ?_
  first | (rw [hfin]; done) | (rw [hbad _ hm (by decide)]; done) | (rw [hr]; done)
 have hx37 := of_decide_eq_false hq37
 refine Zc (Zl rfl ?_)<|Zy0 hq37
 refine Zc (Zj1 rfl rfl rfl ?_)<|Zy0 hq37
 refine Zc<|Zt1 rfl hq37 rfl<|Zc<|Zl rfl<|Zj2 (q := 41) rfl (λ hq41 => ?_)<|λ hq41 => ?_
 .
  have hx41 : 128 < (f.blocks.length : Int) \/ 4096 < n := by simp_all
  refine Zk0 hq41<|Zk0 hq41<|Zk0 hq41<|Zk0 hq41<|Zk0 hq41<|Zk0 hq41<|Zk0 hq41<|Zc<|Zs1 rfl hq41 rfl<|Zc<|Zk rfl<|Za<|Zi<|Zp1 rfl rfl ?_
  rw [if_pos (by omega)] at hr
  refine Zb<|Zd<|Zc<|Zk rfl<|Za<|Zi<|Zf1<|Za1<|Zd1<|Zg1 rfl (.tmp rfl) ?_
  first | (rw [hfin]; done) | (rw [hbad _ hm (by decide)]; done) | (rw [hr]; done)
 have hx41 : ¬ (128 < (f.blocks.length : Int) \/ 4096 < n) := by simp_all
 refine Zc (Zj VT.fa31_1 rfl ?_)<|Zy0 hq41
 refine Zc (Zu 0 VT.ty29 rfl rfl rfl ?_)<|Zy0 hq41
 refine Zc (Zz (el := blockV b0) VT.sl29 rfl rfl (by omega) (get_mapS _ hb0)<|λ a44 => ?_)<|Zy0 hq41
 refine Zc (Zw1 VT.fa40_0 rfl rfl ?_)<|Zy0 hq41
 refine Zc (Zz1 VT.ty32 rfl rfl ?_)<|Zy0 hq41
 refine Zc (Zd2 (n := b0.params.length) Tryz.underlying32 rfl (by simp)<|λ hl47 => ?_)<|Zy0 hq41
 refine Zc (Zj1 rfl rfl rfl ?_)<|Zy0 hq41
 refine Zc<|Zt1 rfl hq41 rfl<|Zc<|Zk rfl<|Za<|Zi<|Zn1 rfl (λ h32 => ?_)<|λ h32 => ?_
 .
  rw [if_pos (by omega)] at hr
  refine Zb<|Zd<|Zc<|Zk rfl<|Za<|Zi<|Zf1<|Za1<|Zd1<|Zg1 rfl (.tmp rfl) ?_
  first | (rw [hfin]; done) | (rw [hbad _ hm (by decide)]; done) | (rw [hr]; done)
 rw [if_neg (by omega)] at hr
 refine Zb<|Zd<|Zc<|Zj VT.fa31_0 rfl<|Zc<|Zu 0 VT.ty3 rfl rfl rfl<|Zc<|Zj1 rfl rfl rfl<|Zc<|Zl rfl<|Zj2 (q := 54) rfl (λ hq54 => ?_)<|λ hq54 => ?_
 .
  have hx54 := of_decide_eq_true hq54
  refine Zk0 hq54<|Zk0 hq54<|Zk0 hq54<|Zc<|Zs1 rfl hq54 rfl<|Zc<|Zk rfl<|Za<|Zi<|Zp1 rfl rfl ?_
  rw [if_pos (by omega)] at hr
  refine Zb<|Zd<|Zc<|Zk rfl<|Za<|Zi<|Zf1<|Za1<|Zd1<|Zg1 rfl (.tmp rfl) ?_
  first | (rw [hfin]; done) | (rw [hbad _ hm (by decide)]; done) | (rw [hr]; done)
 have hx54 := of_decide_eq_false hq54
 refine Zc (Zj VT.fa31_0 rfl ?_)<|Zy0 hq54
 refine Zc (Zu 0 VT.ty3 rfl rfl rfl ?_)<|Zy0 hq54
 refine Zc (Zj1 rfl rfl rfl ?_)<|Zy0 hq54
 refine Zc<|Zt1 rfl hq54 rfl<|Zc<|Zk rfl<|Za<|Zi<|Zn1 rfl (λ h50 => ?_)<|λ h50 => ?_
 .
  rw [if_pos (by omega)] at hr
  refine Zb<|Zd<|Zc<|Zk rfl<|Za<|Zi<|Zf1<|Za1<|Zd1<|Zg1 rfl (.tmp rfl) ?_
  first | (rw [hfin]; done) | (rw [hbad _ hm (by decide)]; done) | (rw [hr]; done)
 rw [if_neg (by omega)] at hr
 refine Zi1<|Zb1<|Zi<|Zb<|Zb<|Zd<|Zc<|Zj VT.fa31_1 rfl<|Zc<|Zu 0 VT.ty29 rfl rfl rfl<|Zc<|Zd2 (n := f.blocks.length) Tryz.underlying29 rfl (by simp)<|λ hl61 => (Zc<|Zl rfl<|Za<|Zi<|Zs<|Zi2 (ι := Nat) (λ k => f.blocks.length - k) (λ k => [(1, some (.ptr g1 0)), (60, some (blocksX f.blocks)), (61, some (.int f.blocks.length)), (62, some (.int k))]) (λ k => [.cells g1 31 [.int f.name, blocksX f.blocks]]) (λ k => k <= f.blocks.length /\ mblocksF f.blocks k (f.blocks.drop k) = mblocksF f.blocks 0 f.blocks) 0 ⟨Yc _, rfl⟩ ⟨rfl, rfl, rfl, rfl, trivial⟩ (Dk<|Zt2 _) ?_)
 rintro k hA2
 change k <= f.blocks.length /\ mblocksF f.blocks k (f.blocks.drop k) = mblocksF f.blocks 0 f.blocks at hA2
 obtain ⟨hk2, hq2⟩ := hA2
 refine Zb<|Zd<|Zc<|Zj1 rfl rfl rfl<|Za<|Zi<|Zb<|Zn1 rfl (λ h63 => ?_)<|λ h63 => ?_
 .
  obtain ⟨b, hb⟩ := get_of_lt f.blocks k h63
  have hm := mblockF.eq_def f.blocks k b
  have hbad : ∀ e : Int, mblockF f.blocks k b = e -> e ≠ 0 -> mfuncF f = e := λ e h1 h2 => by rw [hr, <- hq2, drop_cons hb, mblocksF, if_pos (by rw [h1]; exact h2), h1]
  refine Zi1<|Zi<|Zb<|Zs<|Zb<|Zd<|Zc<|Zl rfl<|Zc<|Zz (el := blockV b) VT.sl29 rfl rfl (by omega) (get_mapS _ hb)<|λ a65 => (Zc<|Za2 VT.ty40 rfl rfl<|Zc<|Zb2 VT.zr40 _ rfl rfl<|λ g7 => (Zc<|Zk rfl<|Zc<|Zx 0 VT.ty40 rfl rfl rfl rfl rfl<|Za<|Zi<|Zb<|Zb<|Zd<|Zc<|Zl rfl<|Zc<|Zj1 rfl rfl rfl<|Zc<|Zl rfl<|Zj2 (q := 69) rfl (λ hq69 => ?_)<|λ hq69 => ?_))
  .
   have hx69 := of_decide_eq_true hq69
   refine Zc (Zj VT.fa40_0 rfl ?_)<|Zy1 hq69
   refine Zc (Zu 0 VT.ty32 rfl rfl rfl ?_)<|Zy1 hq69
   refine Zc (Zd2 (n := b.params.length) Tryz.underlying32 rfl (by simp)<|λ hl72 => ?_)<|Zy1 hq69
   refine Zc (Zj1 rfl rfl rfl ?_)<|Zy1 hq69
   refine Zc<|Zs1 rfl hq69 rfl<|Za<|Zi<|Zn1 rfl (λ h74 => ?_)<|λ h74 => ?_
   .
    rw [if_pos ⟨hx69, h74⟩] at hm
    refine Zb<|Zd<|Zc<|Zk rfl<|Za<|Zi<|Zf1<|Zd1<|Za1<|Zd1<|Zd1<|Za1<|Zd1<|Zg1 rfl (.tmp rfl) ?_
    first | (rw [hfin]; done) | (rw [hbad _ hm (by decide)]; done) | (rw [hr]; done)
   rw [if_neg (λ h => h74 h.2)] at hm
   refine Zi1<|Zi<|Zb<|Zb<|Zd<|Zc<|Zj VT.fa40_0 rfl<|Zc<|Zu 0 VT.ty32 rfl rfl rfl<|Zc<|Zd2 (n := b.params.length) Tryz.underlying32 rfl (by simp)<|λ hl77 => (Zc<|Zl rfl<|Za<|Zi<|Zs<|Zi2 (ι := Nat) (λ j => b.params.length - j) (λ j => [(1, some (.ptr g1 0)), (60, some (blocksX f.blocks)), (61, some (.int f.blocks.length)), (62, some (.int k)), (6, some (.int k)), (7, some (.ptr g7 0)), (76, some (intsX b.params)), (77, some (.int b.params.length)), (78, some (.int j))]) (λ j => [.cells g7 40 (blockV b).leaves, .cells g1 31 [.int f.name, blocksX f.blocks]]) (λ j => j <= b.params.length /\ mparamsF (b.params.take j) (b.params.drop j) = mparamsF [] b.params) 0 ⟨Yc _, rfl⟩ ⟨rfl, rfl, rfl, rfl, rfl, rfl, rfl, rfl, rfl, trivial⟩ (Dk<|Dk<|Zt2 _) ?_)
   rintro j hA3
   change j <= b.params.length /\ mparamsF (b.params.take j) (b.params.drop j) = mparamsF [] b.params at hA3
   obtain ⟨hj, hq3⟩ := hA3
   refine Zb<|Zd<|Zc<|Zj1 rfl rfl rfl<|Za<|Zi<|Zb<|Zn1 rfl (λ h79 => ?_)<|λ h79 => ?_
   .
    obtain ⟨v, hv⟩ := get_of_lt b.params j h79
    rw [drop_cons hv, mparamsF] at hq3
    refine Zi1<|Zi<|Zb<|Zs<|Zb<|Zd<|Zc<|Zl rfl<|Zc<|Zz (el := V.int v) VT.sl32 rfl rfl (by omega) (get_int hv)<|λ a81 => (Zc<|Zz1 VT.ty3 rfl rfl<|Zc<|Zk rfl<|Zc<|Zk rfl<|Za<|Zi<|Zs<|Zb<|Zd<|Zc<|Zl rfl<|Zc<|Zx1 [.tmp 84] rfl rfl VT.en43 (variable_c _)<|Zc<|Zl2 rfl<|Zc<|Zk rfl<|Za<|Zi<|Zo1 rfl (λ h83 => ?_)<|λ h83 => ?_)
    .
     rw [if_pos h83] at hq3
     rw [if_pos (by rw [<- hq3]; decide), <- hq3] at hm
     have hfin := hbad 4 hm (by decide)
     refine Zb<|Zd<|Zc<|Zk rfl<|Za<|Zi<|Zf1<|Za1<|Za1<|Zd1<|Zd1<|Za1<|Zd1<|Za1<|Zd1<|Zd1<|Za1<|Zd1<|Zg1 rfl (.tmp rfl) ?_
     first | (rw [hfin]; done) | (rw [hbad _ hm (by decide)]; done) | (rw [hr]; done)
    refine Zb<|Zd<|Zc<|Zj VT.fa40_0 rfl<|Zc<|Zu 0 VT.ty32 rfl rfl rfl<|Zc<|Zl rfl<|Zc<|Zu2 (V_sliceTo VT.sl32 rfl rfl (by omega) (by simp; omega) ⟨rfl, rfl⟩) (V.le.of_eq (v' := intsX (b.params.take j)) (by rw [intsX, List.map_take]; rfl))<|Zc<|Zl rfl<|Zc<|Zx1 [.tmp 91, .tmp 92] rfl rfl VT.en44 (intContains_c (b.params.take j) none v)<|Zc<|Zk rfl<|Za<|Zi<|Zr1 rfl (λ h87 => ?_)<|λ h87 => ?_
    .
     rw [if_neg (by rw [h83]; decide), if_pos h87] at hq3
     rw [if_pos (by rw [<- hq3]; decide), <- hq3] at hm
     have hfin := hbad 7 hm (by decide)
     refine Zb<|Zd<|Zc<|Zk rfl<|Za<|Zi<|Zf1<|Za1<|Za1<|Zd1<|Zd1<|Za1<|Zd1<|Za1<|Zd1<|Zd1<|Za1<|Zd1<|Zg1 rfl (.tmp rfl) ?_
     first | (rw [hfin]; done) | (rw [hbad _ hm (by decide)]; done) | (rw [hr]; done)
    refine Zi1<|Zb1<|Zb1<|Zi<|Zd<|Zc<|Zh2 rfl rfl (by omega)<|Zc<|Zl rfl<|Za<|Zi ?_
    exact ⟨j + 1, (by (try simp only []); omega), ⟨by omega, by rw [<- hq3, if_neg (by rw [h83]; decide), if_neg (by rw [h87]; decide), take_snoc hv]⟩, ⟨rfl, rfl, rfl, rfl, rfl, rfl, rfl, rfl, rfl, trivial⟩, (Dk (Dk (Zt2 _)))⟩
   have hje : j = b.params.length := by omega
   subst hje
   rw [Ya, mparamsF] at hq3
   rw [if_neg (by rw [<- hq3]; decide)] at hm
   refine Zt<|Ze1<|Ze1<|Zc1<|Zi<|Zb<|Zb<|Zd<|Zc<|Zj VT.fa40_1 rfl<|Zc<|Zu 0 VT.ty35 rfl rfl rfl<|Zc<|Zd2 (n := b.ins.length) Tryz.underlying35 rfl (by simp)<|λ hl97 => (Zc<|Zl rfl<|Za<|Zi<|Zs<|Zi2 (ι := Nat) (λ j => b.ins.length - j) (λ j => [(1, some (.ptr g1 0)), (60, some (blocksX f.blocks)), (61, some (.int f.blocks.length)), (62, some (.int k)), (6, some (.int k)), (7, some (.ptr g7 0)), (96, some (inssX b.ins)), (97, some (.int b.ins.length)), (98, some (.int j))]) (λ j => [.cells g7 40 (blockV b).leaves, .cells g1 31 [.int f.name, blocksX f.blocks]]) (λ j => j <= b.ins.length /\ firstE minsF (b.ins.drop j) = firstE minsF b.ins) 0 ⟨Yc _, rfl⟩ ⟨rfl, rfl, rfl, rfl, rfl, rfl, rfl, rfl, rfl, trivial⟩ (Dk<|Dk<|Zt2 _) ?_)
   rintro j hA4
   change j <= b.ins.length /\ firstE minsF (b.ins.drop j) = firstE minsF b.ins at hA4
   obtain ⟨hj, hq4⟩ := hA4
   refine Zb<|Zd<|Zc<|Zj1 rfl rfl rfl<|Za<|Zi<|Zb<|Zn1 rfl (λ h99 => ?_)<|λ h99 => ?_
   .
    obtain ⟨i, hi⟩ := get_of_lt b.ins j h99
    refine Zi1<|Zi<|Zb<|Zs<|Zb<|Zd<|Zc<|Zz (el := insV i) VT.sl35 rfl rfl (by omega) (get_mapS _ hi)<|λ a100 => (Zc<|Za2 VT.ty42 rfl rfl<|Zc<|Zb2 VT.zr42 _ rfl rfl<|λ g11 => (Zc<|Zx 0 VT.ty42 rfl rfl rfl rfl rfl<|Za<|Zi<|Zb<|Zd<|Zc<|Zv 0 VT.ty42 rfl rfl rfl<|Zc<|Zx1 [.tmp 102] rfl rfl VT.en45 (instruction_c i)<|Zc<|Zk rfl<|Za<|Zi<|Zb<|Zd<|Zc<|Zl rfl<|Zc<|Zj1 rfl rfl rfl<|Za<|Zi<|Zm1 rfl (λ h105 => ?_)<|λ h105 => ?_))
    .
     have hie : firstE minsF b.ins = minsF i := by rw [<- hq4, drop_cons hi, firstE, if_pos h105]
     rw [if_pos (by rw [hie]; exact h105), hie] at hm
     have hfin := hbad _ hm h105
     refine Zb<|Zd<|Zc<|Zl rfl<|Zc<|Zk rfl<|Za<|Zi<|Zf1<|Za1<|Zd1<|Zd1<|Za1<|Zd1<|Za1<|Zd1<|Zd1<|Za1<|Zd1<|Zg1 rfl (.tmp rfl) ?_
     first | (rw [hfin]; done) | (rw [hbad _ hm (by decide)]; done) | (rw [hr]; done)
    refine Zi1<|Zb1<|Zi<|Zd<|Zc<|Zh2 rfl rfl (by omega)<|Zc<|Zl rfl<|Za<|Zi ?_
    exact ⟨j + 1, (by (try simp only []); omega), ⟨by omega, by rw [<- hq4, drop_cons hi, firstE, if_neg (by rw [h105]; decide)]⟩, ⟨rfl, rfl, rfl, rfl, rfl, rfl, rfl, rfl, rfl, trivial⟩, (Dd (Dk (Dk (Zt2 _))))⟩
   have hje : j = b.ins.length := by omega
   subst hje
   rw [Ya, firstE] at hq4
   rw [if_neg (by rw [<- hq4]; decide)] at hm
   refine Zt<|Ze1<|Ze1<|Zc1<|Zi<|Zb<|Zb<|Zd<|Zc<|Zv 1 VT.ty31 rfl rfl rfl<|Zc<|Zj VT.fa40_2 rfl<|Zc<|Zv 0 VT.ty38 rfl rfl rfl<|Zc<|Zx1 [.tmp 108, .tmp 110] rfl rfl VT.en46 (end_c f.name f.blocks b.term)<|Zc<|Zk rfl<|Za<|Zi<|Zb<|Zd<|Zc<|Zl rfl<|Zc<|Zj1 rfl rfl rfl<|Za<|Zi<|Zm1 rfl (λ h113 => ?_)<|λ h113 => ?_
   .
    rw [if_pos h113] at hm
    have hfin := hbad _ hm h113
    refine Zb<|Zd<|Zc<|Zl rfl<|Zc<|Zk rfl<|Za<|Zi<|Zf1<|Zd1<|Za1<|Zd1<|Zd1<|Za1<|Zd1<|Zg1 rfl (.tmp rfl) ?_
    first | (rw [hfin]; done) | (rw [hbad _ hm (by decide)]; done) | (rw [hr]; done)
   rw [if_neg (λ h => h h113)] at hm
   refine Zi1<|Zi<|Zb<|Zd<|Zc<|Zj VT.fa40_2 rfl<|Zc<|Zj VT.fa38_1 rfl<|Zc<|Zu 0 VT.ty3 rfl rfl rfl<|Zc<|Zx1 [.tmp 117] rfl rfl VT.en43 (variable_c _)<|Zc<|Zl2 rfl<|Za<|Zi<|Zo1 rfl (λ h119 => ?_)<|λ h119 => ?_
   .
    rw [if_pos h119] at hm
    have hfin := hbad 4 hm (by decide)
    refine Zb<|Zd<|Zc<|Zk rfl<|Za<|Zi<|Zf1<|Za1<|Zd1<|Zd1<|Za1<|Zd1<|Zg1 rfl (.tmp rfl) ?_
    first | (rw [hfin]; done) | (rw [hbad _ hm (by decide)]; done) | (rw [hr]; done)
   rw [if_neg (by rw [h119]; decide)] at hm
   refine Zi1<|Zb1<|Zi<|Zd<|Zc<|Zh2 rfl rfl (by omega)<|Zc<|Zl rfl<|Za<|Zi ?_
   exact ⟨k + 1, (by (try simp only []); omega), ⟨by omega, by rw [<- hq2, drop_cons hb, mblocksF, if_neg (by rw [hm]; decide)]⟩, ⟨rfl, rfl, rfl, rfl, trivial⟩, (Dd (Dk (Zt2 _)))⟩
  have hx69 := of_decide_eq_false hq69
  refine Zk1 hq69<|Zk1 hq69<|Zk1 hq69<|Zk1 hq69<|Zc<|Zt1 rfl hq69 rfl<|Za<|Zi<|Zq1 rfl rfl ?_
  rw [if_neg (λ h => hx69 h.1)] at hm
  refine Zi1<|Zi<|Zb<|Zb<|Zd<|Zc<|Zj VT.fa40_0 rfl<|Zc<|Zu 0 VT.ty32 rfl rfl rfl<|Zc<|Zd2 (n := b.params.length) Tryz.underlying32 rfl (by simp)<|λ hl77 => (Zc<|Zl rfl<|Za<|Zi<|Zs<|Zi2 (ι := Nat) (λ j => b.params.length - j) (λ j => [(1, some (.ptr g1 0)), (60, some (blocksX f.blocks)), (61, some (.int f.blocks.length)), (62, some (.int k)), (6, some (.int k)), (7, some (.ptr g7 0)), (76, some (intsX b.params)), (77, some (.int b.params.length)), (78, some (.int j))]) (λ j => [.cells g7 40 (blockV b).leaves, .cells g1 31 [.int f.name, blocksX f.blocks]]) (λ j => j <= b.params.length /\ mparamsF (b.params.take j) (b.params.drop j) = mparamsF [] b.params) 0 ⟨Yc _, rfl⟩ ⟨rfl, rfl, rfl, rfl, rfl, rfl, rfl, rfl, rfl, trivial⟩ (Dk<|Dk<|Zt2 _) ?_)
  rintro j hA3
  change j <= b.params.length /\ mparamsF (b.params.take j) (b.params.drop j) = mparamsF [] b.params at hA3
  obtain ⟨hj, hq3⟩ := hA3
  refine Zb<|Zd<|Zc<|Zj1 rfl rfl rfl<|Za<|Zi<|Zb<|Zn1 rfl (λ h79 => ?_)<|λ h79 => ?_
  .
   obtain ⟨v, hv⟩ := get_of_lt b.params j h79
   rw [drop_cons hv, mparamsF] at hq3
   refine Zi1<|Zi<|Zb<|Zs<|Zb<|Zd<|Zc<|Zl rfl<|Zc<|Zz (el := V.int v) VT.sl32 rfl rfl (by omega) (get_int hv)<|λ a81 => (Zc<|Zz1 VT.ty3 rfl rfl<|Zc<|Zk rfl<|Zc<|Zk rfl<|Za<|Zi<|Zs<|Zb<|Zd<|Zc<|Zl rfl<|Zc<|Zx1 [.tmp 84] rfl rfl VT.en43 (variable_c _)<|Zc<|Zl2 rfl<|Zc<|Zk rfl<|Za<|Zi<|Zo1 rfl (λ h83 => ?_)<|λ h83 => ?_)
   .
    rw [if_pos h83] at hq3
    rw [if_pos (by rw [<- hq3]; decide), <- hq3] at hm
    have hfin := hbad 4 hm (by decide)
    refine Zb<|Zd<|Zc<|Zk rfl<|Za<|Zi<|Zf1<|Za1<|Za1<|Zd1<|Zd1<|Za1<|Zd1<|Za1<|Zd1<|Zd1<|Za1<|Zd1<|Zg1 rfl (.tmp rfl) ?_
    first | (rw [hfin]; done) | (rw [hbad _ hm (by decide)]; done) | (rw [hr]; done)
   refine Zb<|Zd<|Zc<|Zj VT.fa40_0 rfl<|Zc<|Zu 0 VT.ty32 rfl rfl rfl<|Zc<|Zl rfl<|Zc<|Zu2 (V_sliceTo VT.sl32 rfl rfl (by omega) (by simp; omega) ⟨rfl, rfl⟩) (V.le.of_eq (v' := intsX (b.params.take j)) (by rw [intsX, List.map_take]; rfl))<|Zc<|Zl rfl<|Zc<|Zx1 [.tmp 91, .tmp 92] rfl rfl VT.en44 (intContains_c (b.params.take j) none v)<|Zc<|Zk rfl<|Za<|Zi<|Zr1 rfl (λ h87 => ?_)<|λ h87 => ?_
   .
    rw [if_neg (by rw [h83]; decide), if_pos h87] at hq3
    rw [if_pos (by rw [<- hq3]; decide), <- hq3] at hm
    have hfin := hbad 7 hm (by decide)
    refine Zb<|Zd<|Zc<|Zk rfl<|Za<|Zi<|Zf1<|Za1<|Za1<|Zd1<|Zd1<|Za1<|Zd1<|Za1<|Zd1<|Zd1<|Za1<|Zd1<|Zg1 rfl (.tmp rfl) ?_
    first | (rw [hfin]; done) | (rw [hbad _ hm (by decide)]; done) | (rw [hr]; done)
   refine Zi1<|Zb1<|Zb1<|Zi<|Zd<|Zc<|Zh2 rfl rfl (by omega)<|Zc<|Zl rfl<|Za<|Zi ?_
   exact ⟨j + 1, (by (try simp only []); omega), ⟨by omega, by rw [<- hq3, if_neg (by rw [h83]; decide), if_neg (by rw [h87]; decide), take_snoc hv]⟩, ⟨rfl, rfl, rfl, rfl, rfl, rfl, rfl, rfl, rfl, trivial⟩, (Dk (Dk (Zt2 _)))⟩
  have hje : j = b.params.length := by omega
  subst hje
  rw [Ya, mparamsF] at hq3
  rw [if_neg (by rw [<- hq3]; decide)] at hm
  refine Zt<|Ze1<|Ze1<|Zc1<|Zi<|Zb<|Zb<|Zd<|Zc<|Zj VT.fa40_1 rfl<|Zc<|Zu 0 VT.ty35 rfl rfl rfl<|Zc<|Zd2 (n := b.ins.length) Tryz.underlying35 rfl (by simp)<|λ hl97 => (Zc<|Zl rfl<|Za<|Zi<|Zs<|Zi2 (ι := Nat) (λ j => b.ins.length - j) (λ j => [(1, some (.ptr g1 0)), (60, some (blocksX f.blocks)), (61, some (.int f.blocks.length)), (62, some (.int k)), (6, some (.int k)), (7, some (.ptr g7 0)), (96, some (inssX b.ins)), (97, some (.int b.ins.length)), (98, some (.int j))]) (λ j => [.cells g7 40 (blockV b).leaves, .cells g1 31 [.int f.name, blocksX f.blocks]]) (λ j => j <= b.ins.length /\ firstE minsF (b.ins.drop j) = firstE minsF b.ins) 0 ⟨Yc _, rfl⟩ ⟨rfl, rfl, rfl, rfl, rfl, rfl, rfl, rfl, rfl, trivial⟩ (Dk<|Dk<|Zt2 _) ?_)
  rintro j hA4
  change j <= b.ins.length /\ firstE minsF (b.ins.drop j) = firstE minsF b.ins at hA4
  obtain ⟨hj, hq4⟩ := hA4
  refine Zb<|Zd<|Zc<|Zj1 rfl rfl rfl<|Za<|Zi<|Zb<|Zn1 rfl (λ h99 => ?_)<|λ h99 => ?_
  .
   obtain ⟨i, hi⟩ := get_of_lt b.ins j h99
   refine Zi1<|Zi<|Zb<|Zs<|Zb<|Zd<|Zc<|Zz (el := insV i) VT.sl35 rfl rfl (by omega) (get_mapS _ hi)<|λ a100 => (Zc<|Za2 VT.ty42 rfl rfl<|Zc<|Zb2 VT.zr42 _ rfl rfl<|λ g11 => (Zc<|Zx 0 VT.ty42 rfl rfl rfl rfl rfl<|Za<|Zi<|Zb<|Zd<|Zc<|Zv 0 VT.ty42 rfl rfl rfl<|Zc<|Zx1 [.tmp 102] rfl rfl VT.en45 (instruction_c i)<|Zc<|Zk rfl<|Za<|Zi<|Zb<|Zd<|Zc<|Zl rfl<|Zc<|Zj1 rfl rfl rfl<|Za<|Zi<|Zm1 rfl (λ h105 => ?_)<|λ h105 => ?_))
   .
    have hie : firstE minsF b.ins = minsF i := by rw [<- hq4, drop_cons hi, firstE, if_pos h105]
    rw [if_pos (by rw [hie]; exact h105), hie] at hm
    have hfin := hbad _ hm h105
    refine Zb<|Zd<|Zc<|Zl rfl<|Zc<|Zk rfl<|Za<|Zi<|Zf1<|Za1<|Zd1<|Zd1<|Za1<|Zd1<|Za1<|Zd1<|Zd1<|Za1<|Zd1<|Zg1 rfl (.tmp rfl) ?_
    first | (rw [hfin]; done) | (rw [hbad _ hm (by decide)]; done) | (rw [hr]; done)
   refine Zi1<|Zb1<|Zi<|Zd<|Zc<|Zh2 rfl rfl (by omega)<|Zc<|Zl rfl<|Za<|Zi ?_
   exact ⟨j + 1, (by (try simp only []); omega), ⟨by omega, by rw [<- hq4, drop_cons hi, firstE, if_neg (by rw [h105]; decide)]⟩, ⟨rfl, rfl, rfl, rfl, rfl, rfl, rfl, rfl, rfl, trivial⟩, (Dd (Dk (Dk (Zt2 _))))⟩
  have hje : j = b.ins.length := by omega
  subst hje
  rw [Ya, firstE] at hq4
  rw [if_neg (by rw [<- hq4]; decide)] at hm
  refine Zt<|Ze1<|Ze1<|Zc1<|Zi<|Zb<|Zb<|Zd<|Zc<|Zv 1 VT.ty31 rfl rfl rfl<|Zc<|Zj VT.fa40_2 rfl<|Zc<|Zv 0 VT.ty38 rfl rfl rfl<|Zc<|Zx1 [.tmp 108, .tmp 110] rfl rfl VT.en46 (end_c f.name f.blocks b.term)<|Zc<|Zk rfl<|Za<|Zi<|Zb<|Zd<|Zc<|Zl rfl<|Zc<|Zj1 rfl rfl rfl<|Za<|Zi<|Zm1 rfl (λ h113 => ?_)<|λ h113 => ?_
  .
   rw [if_pos h113] at hm
   have hfin := hbad _ hm h113
   refine Zb<|Zd<|Zc<|Zl rfl<|Zc<|Zk rfl<|Za<|Zi<|Zf1<|Zd1<|Za1<|Zd1<|Zd1<|Za1<|Zd1<|Zg1 rfl (.tmp rfl) ?_
   first | (rw [hfin]; done) | (rw [hbad _ hm (by decide)]; done) | (rw [hr]; done)
  rw [if_neg (λ h => h h113)] at hm
  refine Zi1<|Zi<|Zb<|Zd<|Zc<|Zj VT.fa40_2 rfl<|Zc<|Zj VT.fa38_1 rfl<|Zc<|Zu 0 VT.ty3 rfl rfl rfl<|Zc<|Zx1 [.tmp 117] rfl rfl VT.en43 (variable_c _)<|Zc<|Zl2 rfl<|Za<|Zi<|Zo1 rfl (λ h119 => ?_)<|λ h119 => ?_
  .
   rw [if_pos h119] at hm
   have hfin := hbad 4 hm (by decide)
   refine Zb<|Zd<|Zc<|Zk rfl<|Za<|Zi<|Zf1<|Za1<|Zd1<|Zd1<|Za1<|Zd1<|Zg1 rfl (.tmp rfl) ?_
   first | (rw [hfin]; done) | (rw [hbad _ hm (by decide)]; done) | (rw [hr]; done)
  rw [if_neg (by rw [h119]; decide)] at hm
  refine Zi1<|Zb1<|Zi<|Zd<|Zc<|Zh2 rfl rfl (by omega)<|Zc<|Zl rfl<|Za<|Zi ?_
  exact ⟨k + 1, (by (try simp only []); omega), ⟨by omega, by rw [<- hq2, drop_cons hb, mblocksF, if_neg (by rw [hm]; decide)]⟩, ⟨rfl, rfl, rfl, rfl, trivial⟩, (Dd (Dk (Zt2 _)))⟩
 have hke : k = f.blocks.length := by omega
 subst hke
 rw [Ya, mblocksF] at hq2
 rw [<- hq2] at hr
 refine Zt<|Ze1<|Ze1<|Zc1<|Zi<|Zb<|Zd<|Zc<|Zk rfl<|Za<|Zi<|Zf1<|Zg1 rfl (.tmp rfl) ?_
 first | (rw [hfin]; done) | (rw [hbad _ hm (by decide)]; done) | (rw [hr]; done)
theorem MCheck_c (u : SUnit) : VPure Tryz.prog 10 [unitV u] (.int (mcheckF u)) := by
 have hr := mcheckF.eq_def u
 refine V_start (nt := 90) Tryz.func10 rfl rfl rfl ?_
 refine Zb<|Zd<|Zc<|Zc2 rfl rfl<|λ g1 => (Zc<|Zk rfl<|Za<|Zi<|Zb<|Zs<|Zb<|Zd<|Zc<|Zj VT.fa24_0 rfl<|Zc<|Zu 0 VT.ty22 rfl rfl rfl<|Zc<|Zd2 (n := u.fns.length) Tryz.underlying22 rfl (by simp)<|λ hl16 => (Zc<|Zj1 rfl rfl rfl<|Zc<|Zk rfl<|Za<|Zi<|Zl1 rfl (λ h13 => ?_)<|λ h13 => ?_))
 .
  rw [if_pos h13] at hr
  refine Zb<|Zd<|Zc<|Zk rfl<|Za<|Zi<|Zf1<|Za1<|Zd1<|Zg1 rfl (.tmp rfl) ?_
  rw [hr]
 rw [if_neg h13] at hr
 refine Zb<|Zd<|Zc<|Zj VT.fa24_0 rfl<|Zc<|Zu 0 VT.ty22 rfl rfl rfl<|Zc<|Zd2 (n := u.fns.length) Tryz.underlying22 rfl (by simp)<|λ hl21 => (Zc<|Zj1 rfl rfl rfl<|Zc<|Zk rfl<|Za<|Zi<|Zn1 rfl (λ h18 => ?_)<|λ h18 => ?_)
 .
  rw [if_pos h18] at hr
  refine Zb<|Zd<|Zc<|Zk rfl<|Za<|Zi<|Zf1<|Za1<|Zd1<|Zg1 rfl (.tmp rfl) ?_
  rw [hr]
 rw [if_neg h18] at hr
 refine Zb<|Zd<|Zc<|Zj VT.fa24_1 rfl<|Zc<|Zu 0 VT.ty3 rfl rfl rfl<|Zc<|Zj1 rfl rfl rfl<|Zc<|Zl rfl<|Zj2 (q := 27) rfl (λ hq27 => ?_)<|λ hq27 => ?_
 .
  have hx27 := of_decide_eq_true hq27
  refine Zk0 hq27<|Zk0 hq27<|Zk0 hq27<|Zk0 hq27<|Zk0 hq27<|Zk0 hq27<|Zc<|Zs1 rfl hq27 rfl<|Zc<|Zk rfl<|Za<|Zi<|Zp1 rfl rfl ?_
  rw [if_pos (.inl hx27)] at hr
  refine Zb<|Zd<|Zc<|Zk rfl<|Za<|Zi<|Zf1<|Za1<|Zd1<|Zg1 rfl (.tmp rfl) ?_
  rw [hr]
 have hx27 := of_decide_eq_false hq27
 refine Zc (Zj VT.fa24_1 rfl ?_)<|Zy0 hq27
 refine Zc (Zu 0 VT.ty3 rfl rfl rfl ?_)<|Zy0 hq27
 refine Zc (Zj VT.fa24_0 rfl ?_)<|Zy0 hq27
 refine Zc (Zu 0 VT.ty22 rfl rfl rfl ?_)<|Zy0 hq27
 refine Zc (Zd2 (n := u.fns.length) Tryz.underlying22 rfl (by simp)<|λ hl32 => ?_)<|Zy0 hq27
 refine Zc (Zj1 rfl rfl rfl ?_)<|Zy0 hq27
 refine Zc<|Zt1 rfl hq27 rfl<|Zc<|Zk rfl<|Za<|Zi<|Zn1 rfl (λ h23 => ?_)<|λ h23 => ?_
 .
  rw [if_pos (.inr h23)] at hr
  refine Zb<|Zd<|Zc<|Zk rfl<|Za<|Zi<|Zf1<|Za1<|Zd1<|Zg1 rfl (.tmp rfl) ?_
  rw [hr]
 rw [if_neg (λ h => h.elim hx27 h23)] at hr
 refine Zi1<|Zb1<|Zi<|Zb<|Zb<|Zd<|Zc<|Zj VT.fa24_0 rfl<|Zc<|Zu 0 VT.ty22 rfl rfl rfl<|Zc<|Zd2 (n := u.fns.length) Tryz.underlying22 rfl (by simp)<|λ hl37 => (Zc<|Zl rfl<|Za<|Zi<|Zs<|Zi2 (ι := Nat) (λ k => u.fns.length - k) (λ k => [(1, some (.ptr g1 0)), (36, some (funcsX u.fns)), (37, some (.int u.fns.length)), (38, some (.int k))]) (λ k => [.cells g1 24 [funcsX u.fns, .int u.main]]) (λ k => k <= u.fns.length /\ firstE mfuncF (u.fns.drop k) = firstE mfuncF u.fns /\ ∀ f ∈ u.fns.take k, mfuncF f = 0) 0 ⟨Yc _, rfl, λ f hf => by simp at hf⟩ ⟨rfl, rfl, rfl, rfl, trivial⟩ (Dk<|Zt2 _) ?_)
 rintro k hA
 change k <= u.fns.length /\ firstE mfuncF (u.fns.drop k) = firstE mfuncF u.fns /\ ∀ f ∈ u.fns.take k, mfuncF f = 0 at hA
 obtain ⟨hk, hq, hok⟩ := hA
 refine Zb<|Zd<|Zc<|Zj1 rfl rfl rfl<|Za<|Zi<|Zb<|Zn1 rfl (λ h39 => ?_)<|λ h39 => ?_
 .
  obtain ⟨f, hf⟩ := get_of_lt u.fns k h39
  refine Zi1<|Zi<|Zb<|Zs<|Zb<|Zd<|Zc<|Zz (el := funcV f) VT.sl22 rfl rfl (by omega) (get_mapS _ hf)<|λ a40 => (Zc<|Za2 VT.ty31 rfl rfl<|Zc<|Zb2 VT.zr31 _ rfl rfl<|λ g4 => (Zc<|Zx 0 VT.ty31 rfl rfl rfl rfl rfl<|Za<|Zi<|Zb<|Zd<|Zc<|Zv 0 VT.ty31 rfl rfl rfl<|Zc<|Zx1 [.tmp 42] rfl rfl VT.en22 (function_c f)<|Zc<|Zk rfl<|Za<|Zi<|Zb<|Zd<|Zc<|Zl rfl<|Zc<|Zj1 rfl rfl rfl<|Za<|Zi<|Zm1 rfl (λ h45 => ?_)<|λ h45 => ?_))
  .
   have hfe : firstE mfuncF u.fns = mfuncF f := by rw [<- hq, drop_cons hf, firstE, if_pos h45]
   rw [if_pos (by rw [hfe]; exact h45), hfe] at hr
   refine Zb<|Zd<|Zc<|Zl rfl<|Zc<|Zk rfl<|Za<|Zi<|Zf1<|Za1<|Zd1<|Zd1<|Za1<|Zd1<|Zg1 rfl (.tmp rfl) ?_
   rw [hr]
  refine Zi1<|Zb1<|Zi<|Zd<|Zc<|Zh2 rfl rfl (by omega)<|Zc<|Zl rfl<|Za<|Zi ?_
  exact ⟨k + 1, (by (try simp only []); omega), ⟨by omega, by rw [<- hq, drop_cons hf, firstE, if_neg (by rw [h45]; decide)], λ g hg => by rw [take_snoc hf] at hg; rcases List.mem_append.1 hg with hg | hg; exact hok g hg; rw [List.mem_singleton.1 hg]; exact h45⟩, ⟨rfl, rfl, rfl, rfl, trivial⟩, (Dd (Dk (Zt2 _)))⟩
 rw [take_end h39] at hok
 have hke : k = u.fns.length := by omega
 subst hke
 rw [Ya, firstE] at hq
 rw [if_neg (by rw [<- hq]; decide)] at hr
 obtain ⟨f0, hf0⟩ := get_of_lt u.fns u.main.toNat (by omega)
 obtain ⟨b0, tl, hb0⟩ := List.exists_cons_of_ne_nil (mfunc_ok (hok f0 (Yb hf0))).ne
 have hen : entryOf u u.main = b0.params := by rw [entryOf, hf0]; simp [paramsOf, hb0]
 rw [hen] at hr
 refine Zt<|Ze1<|Ze1<|Zc1<|Zi<|Zb<|Zb<|Zd<|Zc<|Zj VT.fa24_0 rfl<|Zc<|Zu 0 VT.ty22 rfl rfl rfl<|Zc<|Zj VT.fa24_1 rfl<|Zc<|Zu 0 VT.ty3 rfl rfl rfl<|Zc<|Zz (el := funcV f0) VT.sl22 rfl rfl (by omega) (get_mapS _ hf0)<|λ a52 => (Zc<|Zw1 VT.fa31_1 rfl rfl<|Zc<|Zz1 VT.ty29 rfl rfl<|Zc<|Zz (el := blockV b0) VT.sl29 rfl rfl (by omega) (by rw [hb0]; rfl)<|λ a55 => (Zc<|Zw1 VT.fa40_0 rfl rfl<|Zc<|Zz1 VT.ty32 rfl rfl<|Zc<|Zd2 (n := b0.params.length) Tryz.underlying32 rfl (by simp)<|λ hl58 => (Zc<|Zj1 rfl rfl rfl<|Za<|Zi<|Zn1 rfl (λ h59 => ?_)<|λ h59 => ?_)))
 .
  rw [if_pos (by omega)] at hr
  refine Zb<|Zd<|Zc<|Zk rfl<|Za<|Zi<|Zf1<|Zd1<|Zg1 rfl (.tmp rfl) ?_
  rw [hr]
 rw [if_neg (by omega)] at hr
 refine Zi1<|Zi<|Zb<|Zb<|Zd<|Zc<|Zj VT.fa24_0 rfl<|Zc<|Zu 0 VT.ty22 rfl rfl rfl<|Zc<|Zd2 (n := u.fns.length) Tryz.underlying22 rfl (by simp)<|λ hl62 => (Zc<|Zl rfl<|Za<|Zi<|Zs<|Zi2 (ι := Nat) (λ k => u.fns.length - k) (λ k => [(1, some (.ptr g1 0)), (61, some (funcsX u.fns)), (62, some (.int u.fns.length)), (63, some (.int k))]) (λ k => [.cells g1 24 [funcsX u.fns, .int u.main]]) (λ k => k <= u.fns.length /\ firstE (λ f => firstE (λ b => firstE (callF u) b.ins) f.blocks) (u.fns.drop k) = callsF u) 0 ⟨Yc _, rfl⟩ ⟨rfl, rfl, rfl, rfl, trivial⟩ (Dk<|Zt2 _) ?_)
 rintro k hA2
 change k <= u.fns.length /\ firstE (λ f => firstE (λ b => firstE (callF u) b.ins) f.blocks) (u.fns.drop k) = callsF u at hA2
 obtain ⟨hk2, hq2⟩ := hA2
 refine Zb<|Zd<|Zc<|Zj1 rfl rfl rfl<|Za<|Zi<|Zb<|Zn1 rfl (λ h64 => ?_)<|λ h64 => ?_
 .
  obtain ⟨f, hf⟩ := get_of_lt u.fns k h64
  have hfok := mfunc_ok (hok f (Yb hf))
  refine Zi1<|Zi<|Zb<|Zs<|Zb<|Zd<|Zc<|Zz (el := funcV f) VT.sl22 rfl rfl (by omega) (get_mapS _ hf)<|λ a65 => (Zc<|Za2 VT.ty31 rfl rfl<|Zc<|Zb2 VT.zr31 _ rfl rfl<|λ g7 => (Zc<|Zx 0 VT.ty31 rfl rfl rfl rfl rfl<|Za<|Zi<|Zb<|Zd<|Zc<|Zj VT.fa31_1 rfl<|Zc<|Zu 0 VT.ty29 rfl rfl rfl<|Zc<|Zd2 (n := f.blocks.length) Tryz.underlying29 rfl (by simp)<|λ hl69 => (Zc<|Zl rfl<|Za<|Zi<|Zs<|Zi2 (ι := Nat) (λ l => f.blocks.length - l) (λ l => [(1, some (.ptr g1 0)), (61, some (funcsX u.fns)), (62, some (.int u.fns.length)), (63, some (.int k)), (68, some (blocksX f.blocks)), (69, some (.int f.blocks.length)), (70, some (.int l))]) (λ l => [.cells g1 24 [funcsX u.fns, .int u.main]]) (λ l => l <= f.blocks.length /\ firstE (λ b => firstE (callF u) b.ins) (f.blocks.drop l) = firstE (λ b => firstE (callF u) b.ins) f.blocks) 0 ⟨Yc _, rfl⟩ ⟨rfl, rfl, rfl, rfl, rfl, rfl, rfl, trivial⟩ (Dd<|Dk<|Zt2 _) ?_)))
  rintro l hA3
  change l <= f.blocks.length /\ firstE (λ b => firstE (callF u) b.ins) (f.blocks.drop l) = firstE (λ b => firstE (callF u) b.ins) f.blocks at hA3
  obtain ⟨hl, hq3⟩ := hA3
  refine Zb<|Zd<|Zc<|Zj1 rfl rfl rfl<|Za<|Zi<|Zb<|Zn1 rfl (λ h71 => ?_)<|λ h71 => ?_
  .
   obtain ⟨b, hb⟩ := get_of_lt f.blocks l h71
   have hbo := hfok.block l b hb
   refine Zi1<|Zi<|Zb<|Zs<|Zb<|Zd<|Zc<|Zz (el := blockV b) VT.sl29 rfl rfl (by omega) (get_mapS _ hb)<|λ a72 => (Zc<|Za2 VT.ty40 rfl rfl<|Zc<|Zb2 VT.zr40 _ rfl rfl<|λ g9 => (Zc<|Zx 0 VT.ty40 rfl rfl rfl rfl rfl<|Za<|Zi<|Zb<|Zd<|Zc<|Zj VT.fa40_1 rfl<|Zc<|Zu 0 VT.ty35 rfl rfl rfl<|Zc<|Zd2 (n := b.ins.length) Tryz.underlying35 rfl (by simp)<|λ hl76 => (Zc<|Zl rfl<|Za<|Zi<|Zs<|Zi2 (ι := Nat) (λ j => b.ins.length - j) (λ j => [(1, some (.ptr g1 0)), (61, some (funcsX u.fns)), (62, some (.int u.fns.length)), (63, some (.int k)), (68, some (blocksX f.blocks)), (69, some (.int f.blocks.length)), (70, some (.int l)), (75, some (inssX b.ins)), (76, some (.int b.ins.length)), (77, some (.int j))]) (λ j => [.cells g1 24 [funcsX u.fns, .int u.main]]) (λ j => j <= b.ins.length /\ firstE (callF u) (b.ins.drop j) = firstE (callF u) b.ins) 0 ⟨Yc _, rfl⟩ ⟨rfl, rfl, rfl, rfl, rfl, rfl, rfl, rfl, rfl, rfl, trivial⟩ (Dd<|Dk<|Zt2 _) ?_)))
   rintro j hA4
   change j <= b.ins.length /\ firstE (callF u) (b.ins.drop j) = firstE (callF u) b.ins at hA4
   obtain ⟨hj, hq4⟩ := hA4
   refine Zb<|Zd<|Zc<|Zj1 rfl rfl rfl<|Za<|Zi<|Zb<|Zn1 rfl (λ h78 => ?_)<|λ h78 => ?_
   .
    obtain ⟨i, hi⟩ := get_of_lt b.ins j h78
    refine Zi1<|Zi<|Zb<|Zs<|Zb<|Zd<|Zc<|Zz (el := insV i) VT.sl35 rfl rfl (by omega) (get_mapS _ hi)<|λ a79 => (Zc<|Za2 VT.ty42 rfl rfl<|Zc<|Zb2 VT.zr42 _ rfl rfl<|λ g11 => (Zc<|Zx 0 VT.ty42 rfl rfl rfl rfl rfl<|Za<|Zi<|Zb<|Zd<|Zc<|Zv 1 VT.ty24 rfl rfl rfl<|Zc<|Zv 0 VT.ty42 rfl rfl rfl<|Zc<|Zx1 [.tmp 81, .tmp 82] rfl rfl VT.en23 (calls_c u i (mins_n<|hbo.ins i<|Yb hi)<|λ f hf => (mfunc_ok<|hok f hf).ne)<|Zc<|Zk rfl<|Za<|Zi<|Zb<|Zd<|Zc<|Zl rfl<|Zc<|Zj1 rfl rfl rfl<|Za<|Zi<|Zm1 rfl (λ h85 => ?_)<|λ h85 => ?_))
    .
     have hce : callsF u = callF u i := by rw [<- hq2, drop_cons hf, firstE, <- hq3, drop_cons hb, firstE, <- hq4, drop_cons hi, firstE, if_pos h85, if_pos h85, if_pos h85]
     rw [hce] at hr
     refine Zb<|Zd<|Zc<|Zl rfl<|Zc<|Zk rfl<|Za<|Zi<|Zf1<|Za1<|Zd1<|Zd1<|Za1<|Za1<|Zd1<|Zd1<|Za1<|Za1<|Zd1<|Zd1<|Za1<|Zd1<|Zg1 rfl (.tmp rfl) ?_
     rw [hr]
    refine Zi1<|Zb1<|Zi<|Zd<|Zc<|Zh2 rfl rfl (by omega)<|Zc<|Zl rfl<|Za<|Zi ?_
    exact ⟨j + 1, (by (try simp only []); omega), ⟨by omega, by rw [<- hq4, drop_cons hi, firstE, if_neg (by rw [h85]; decide)]⟩, ⟨rfl, rfl, rfl, rfl, rfl, rfl, rfl, rfl, rfl, rfl, trivial⟩, (Dd (Dk (Zt2 _)))⟩
   have hke : j = b.ins.length := by omega
   subst hke
   rw [Ya, firstE] at hq4
   have hin := hq4.symm
   refine Zt<|Ze1<|Ze1<|Zc1<|Zb1<|Zi<|Zd<|Zc<|Zh2 rfl rfl (by omega)<|Zc<|Zl rfl<|Za<|Zi ?_
   exact ⟨l + 1, (by (try simp only []); omega), ⟨by omega, by rw [<- hq3, drop_cons hb, firstE, if_neg (by rw [hin]; decide)]⟩, ⟨rfl, rfl, rfl, rfl, rfl, rfl, rfl, trivial⟩, (Dk (Zt2 _))⟩
  have hke : l = f.blocks.length := by omega
  subst hke
  rw [Ya, firstE] at hq3
  have hbl := hq3.symm
  refine Zt<|Ze1<|Ze1<|Zc1<|Zb1<|Zi<|Zd<|Zc<|Zh2 rfl rfl (by omega)<|Zc<|Zl rfl<|Za<|Zi ?_
  exact ⟨k + 1, (by (try simp only []); omega), ⟨by omega, by rw [<- hq2, drop_cons hf, firstE, if_neg (by rw [hbl]; decide)]⟩, ⟨rfl, rfl, rfl, rfl, trivial⟩, (Dk (Zt2 _))⟩
 have hke : k = u.fns.length := by omega
 subst hke
 rw [Ya, firstE] at hq2
 rw [<- hq2] at hr
 refine Zt<|Ze1<|Ze1<|Zc1<|Zi<|Zb<|Zd<|Zc<|Zk rfl<|Za<|Zi<|Zf1<|Zg1 rfl (.tmp rfl) ?_
 rw [hr]
theorem MRun_c (u : SUnit) (fuel : Int) : VPure Tryz.prog 12 [unitV u, .int fuel] (.tup [resultV (mrunF u fuel).1, .int (mrunF u fuel).2.1, .int (mrunF u fuel).2.2]) := by
 have hr := mrunF.eq_def u fuel
 refine V_start (nt := 27) Tryz.func12 rfl rfl rfl ?_
 refine Zb<|Zd<|Zc<|Zc2 rfl rfl<|λ g2 => (Zc<|Zb2 VT.zr46 _ rfl rfl<|λ g4 => (Zc<|Zk rfl<|Zc<|Zk rfl<|Za<|Zi<|Zb<|Zb<|Zd<|Zc<|Zv 1 VT.ty24 rfl rfl rfl<|Zc<|Zx1 [.tmp 8] rfl rfl VT.en10 (MCheck_c u)<|Zc<|Zk rfl<|Za<|Zi<|Zb<|Zd<|Zc<|Zl rfl<|Zc<|Zj1 rfl rfl rfl<|Za<|Zi<|Zm1 rfl (λ h11 => ?_)<|λ h11 => ?_))
 .
  rw [if_pos h11] at hr
  refine Zb<|Zd<|Zc<|Zu2 (Zf2 [] [] VT.st46 rfl rfl rfl rfl ⟨rfl, rfl⟩) (le_res0)<|Zc<|Zl rfl<|Zc<|Zx 0 VT.ty46 rfl rfl rfl rfl rfl<|Zc<|Zk rfl<|Zc<|Zk rfl<|Za<|Zi<|Zf1<|Zd1<|Zh1 rfl rfl (.cons (.agg (i := 0) VT.ty46 rfl rfl rfl)<|.cons (.tmp rfl)<|.cons (.tmp rfl)<|.nil) ?_
  rw [hr]; first | done | rfl
 rw [if_neg (λ h => h h11)] at hr
 have hu := mcheck_ok h11
 refine Zi1<|Zi<|Zb<|Zb<|Zd<|Zc<|Zl rfl<|Zc<|Zj1 rfl rfl rfl<|Zc<|Zl rfl<|Zj2 (q := 16) rfl (λ hq16 => ?_)<|λ hq16 => ?_
 .
  have hx16 := of_decide_eq_true hq16
  refine Zk0 hq16<|Zk0 hq16<|Zc<|Zs1 rfl hq16 rfl<|Za<|Zi<|Zp1 rfl rfl ?_
  rw [if_pos (.inl hx16)] at hr
  refine Zb<|Zd<|Zc<|Zu2 (Zf2 [] [] VT.st46 rfl rfl rfl rfl ⟨rfl, rfl⟩) (le_res0)<|Zc<|Zx 0 VT.ty46 rfl rfl rfl rfl rfl<|Zc<|Zk rfl<|Zc<|Zk rfl<|Za<|Zi<|Zf1<|Zd1<|Zh1 rfl rfl (.cons (.agg (i := 0) VT.ty46 rfl rfl rfl)<|.cons (.tmp rfl)<|.cons (.tmp rfl)<|.nil) ?_
  rw [hr]; first | done | rfl
 have hx16 := of_decide_eq_false hq16
 refine Zc (Zl rfl ?_)<|Zy0 hq16
 refine Zc (Zj1 rfl rfl rfl ?_)<|Zy0 hq16
 refine Zc<|Zt1 rfl hq16 rfl<|Za<|Zi<|Zn1 rfl (λ h19 => ?_)<|λ h19 => ?_
 .
  rw [if_pos (.inr h19)] at hr
  refine Zb<|Zd<|Zc<|Zu2 (Zf2 [] [] VT.st46 rfl rfl rfl rfl ⟨rfl, rfl⟩) (le_res0)<|Zc<|Zx 0 VT.ty46 rfl rfl rfl rfl rfl<|Zc<|Zk rfl<|Zc<|Zk rfl<|Za<|Zi<|Zf1<|Zd1<|Zh1 rfl rfl (.cons (.agg (i := 0) VT.ty46 rfl rfl rfl)<|.cons (.tmp rfl)<|.cons (.tmp rfl)<|.nil) ?_
  rw [hr]; first | done | rfl
 rw [if_neg (λ h => h.elim hx16 h19)] at hr
 refine Zi1<|Zi<|Zb<|Zd<|Zc<|Zv 1 VT.ty24 rfl rfl rfl<|Zc<|Zl rfl<|Zc<|Zx1 [.tmp 21, .tmp 22] rfl rfl VT.en26 (Perform_c u fuel hu.u (by omega) (by omega))<|Zc<|Zg2 rfl rfl<|Zc<|Zg2 rfl rfl<|Zc<|Zg2 rfl rfl<|Zc<|Zx 0 VT.ty46 rfl rfl rfl rfl rfl<|Zc<|Zk rfl<|Zc<|Zk rfl<|Za<|Zi<|Zf1<|Zh1 rfl rfl (.cons (.agg (i := 0) VT.ty46 rfl rfl rfl)<|.cons (.tmp rfl)<|.cons (.tmp rfl)<|.nil) ?_
 rw [hr]; first | done | rfl
end Go.Proofs.YthlflmmnankhhaaGreat.X15
