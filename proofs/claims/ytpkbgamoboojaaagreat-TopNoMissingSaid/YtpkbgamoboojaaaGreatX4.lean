import Derived.Test.YtpkbgamoboojaaaGreatX3
set_option maxRecDepth 100000
set_option maxHeartbeats 8000000
open Go.VL.Drops renaming keep → Dk, drop → Dd
set_option linter.all false
open List renaming drop_length → Ya, mem_of_getElem? → Yb
open Nat renaming zero_le → Yc
namespace Go.Proofs.YtpkbgamoboojaaaGreat.X4
open Go.VL Go.SM Go.Proofs.YtpkbgamoboojaaaGreat X1 X2 X3
theorem uses_c (gc gm : Nat) (name : Int) (bs : List SBlock) (d : Defs) (h0 : 0 < bs.length) (hn : bs.length <= 128) (hE : ∀ b ∈ bs, ∀ e ∈ b.term.to, 1 <= e.block /\ e.block < bs.length) (hd : ∀ v p, dget d v = some p -> 0 <= p.1 /\ p.1 < 128) : VKeep Tryz.prog 84 [.ptr gc 0] [.cells gc 149 [.int name, blocksX bs, .raw (.map (some gm))], .map gm (kmap kint (encD d))] (.int (usesF d (domF bs) 0 bs)) := by
 refine VKeep.drops ?_
 have hlen := dom_len h0 hn hE
 have hr : usesF d (domF bs) 0 bs = usesF d (domF bs) 0 bs := rfl
 refine V_start (nt := 64) Tryz.func84 rfl rfl rfl ?_
 refine Zb<|Zd<|Zc<|Zc2 rfl rfl<|λ g1 => (Zc<|Zk rfl<|Za<|Zi<|Zb<|Zd<|Zc<|Zu 0 VT.ty146 rfl rfl rfl<|Zc<|Zv1 rfl<|Zc<|Zj VT.fa149_0 rfl<|Zc<|Zv 1 VT.ty47 rfl rfl rfl<|Zc<|Zx1 [.tmp 17] rfl rfl VT.en100 (dominators_c name bs h0 hn hE)<|Zc<|Zl rfl<|Zc<|Zg2 rfl rfl<|Zc<|Zg2 rfl rfl<|Zc<|Zb2 VT.zr179 _ rfl rfl<|λ g3 => (Zc<|Zb2 VT.zr182 _ rfl rfl<|λ g4 => (Zc<|Zy 1 VT.ty179 rfl rfl rfl rfl rfl<|Zc<|Zx 0 VT.ty182 rfl rfl rfl rfl rfl<|Za<|Zi<|Zb<|Zb<|Zd<|Zc<|Zu 2 VT.ty146 rfl rfl rfl<|Zc<|Zv1 rfl<|Zc<|Zj VT.fa149_0 rfl<|Zc<|Zj VT.fa47_1 rfl<|Zc<|Zu 3 VT.ty45 rfl rfl rfl<|Zc<|Zd2 (n := bs.length) Tryz.underlying45 rfl (by simp)<|λ hl26 => (Zc<|Zl rfl<|Za<|Zi<|Zs<|Zi2 (ι := Nat) (λ k => bs.length - k) (λ k => [(1, some (.ptr g1 0)), (3, some (.ptr g3 0)), (4, some (.ptr g4 0)), (25, some (blocksX bs)), (26, some (.int bs.length)), (27, some (.int k))]) (λ k => [.cells g4 182 [V.u64 (domF bs).seen.1, V.u64 (domF bs).seen.2], .cells g3 179 [setsX (domF bs).over], .cells g1 146 [.ptr gc 0], .cells gc 149 [.int name, blocksX bs, .raw (.map (some gm))], .map gm (kmap kint (encD d))]) (λ k => k <= bs.length /\ usesF d (domF bs) k (bs.drop k) = usesF d (domF bs) 0 bs) 0 ⟨Yc _, rfl⟩ ⟨rfl, rfl, rfl, rfl, rfl, rfl, trivial⟩ (Dk<|Dk<|Dk<|Dk<|Dk<|Zt2 _) ?_))))
 rintro k hA
 change k <= bs.length /\ usesF d (domF bs) k (bs.drop k) = usesF d (domF bs) 0 bs at hA
 obtain ⟨hk, hq⟩ := hA
 refine Zb<|Zd<|Zc<|Zj1 rfl rfl rfl<|Za<|Zi<|Zb<|Zn1 rfl (λ h28 => ?_)<|λ h28 => ?_
 .
  obtain ⟨b, hb⟩ := get_of_lt bs k h28
  have hko : k < (domF bs).over.length := by omega
  refine Zi1<|Zi<|Zb<|Zs<|Zb<|Zd<|Zc<|Zl rfl<|Zc<|Zz (el := blockV b) VT.sl45 rfl rfl (by omega) (get_mapS _ hb)<|λ a30 => (Zc<|Za2 VT.ty44 rfl rfl<|Zc<|Zb2 VT.zr3 _ rfl rfl<|λ g5 => (Zc<|Zb2 VT.zr44 _ rfl rfl<|λ g6 => (Zc<|Zy 1 VT.ty3 rfl rfl rfl rfl rfl<|Zc<|Zx 0 VT.ty44 rfl rfl rfl rfl rfl<|Za<|Zi<|Zb<|Zd<|Zc<|Zb2 VT.zr3 _ rfl rfl<|λ g7 => (Zc<|Zy 0 VT.ty3 rfl rfl rfl rfl rfl<|Za<|Zi<|Zb<|Zd<|Zc<|V_makeFunc [.tmp 1, .tmp 5, .tmp 7, .tmp 3, .tmp 4] rfl rfl<|Zc<|Zk rfl<|Za<|Zi<|Zb<|Zb<|Zd<|Zc<|Zj VT.fa44_1 rfl<|Zc<|Zu 1 VT.ty39 rfl rfl rfl<|Zc<|Zd2 (n := b.ins.length) Tryz.underlying39 rfl (by simp)<|λ hl35 => (Zc<|Zl rfl<|Za<|Zi<|Zs<|Zi2 (ι := Nat × Int) (λ (j, a) => b.ins.length - j) (λ (j, a) => [(1, some (.ptr g1 0)), (3, some (.ptr g3 0)), (4, some (.ptr g4 0)), (25, some (blocksX bs)), (26, some (.int bs.length)), (27, some (.int k)), (5, some (.ptr g5 0)), (6, some (.ptr g6 0)), (7, some (.ptr g7 0)), (8, some (.clo (.func 101) [.ptr g1 0, .ptr g5 0, .ptr g7 0, .ptr g3 0, .ptr g4 0])), (34, some (inssX b.ins)), (35, some (.int b.ins.length)), (36, some (.int j))]) (λ (j, a) => [.cells g7 3 [.int a], .cells g6 44 (blockV b).leaves, .cells g5 3 [.int k], .cells g4 182 [V.u64 (domF bs).seen.1, V.u64 (domF bs).seen.2], .cells g3 179 [setsX (domF bs).over], .cells g1 146 [.ptr gc 0], .cells gc 149 [.int name, blocksX bs, .raw (.map (some gm))], .map gm (kmap kint (encD d))]) (λ (j, a) => j <= b.ins.length /\ usesIns d (domF bs) k j (b.ins.drop j) = usesIns d (domF bs) k 0 b.ins) (0, 0) ⟨Yc _, rfl⟩ ⟨rfl, rfl, rfl, rfl, rfl, rfl, rfl, rfl, rfl, rfl, rfl, rfl, rfl, trivial⟩ (Dk<|Dk<|Dk<|Dk<|Dk<|Dk<|Dk<|Dk<|Zt2 _) ?_)))))
  rintro ⟨j, a⟩ hA2
  change j <= b.ins.length /\ usesIns d (domF bs) k j (b.ins.drop j) = usesIns d (domF bs) k 0 b.ins at hA2
  obtain ⟨hj, hq2⟩ := hA2
  refine Zb<|Zd<|Zc<|Zj1 rfl rfl rfl<|Za<|Zi<|Zb<|Zn1 rfl (λ h37 => ?_)<|λ h37 => ?_
  .
   obtain ⟨i, hi⟩ := get_of_lt b.ins j h37
   refine Zi1<|Zi<|Zb<|Zs<|Zb<|Zd<|Zc<|Zl rfl<|Zc<|Zz (el := insV i) VT.sl39 rfl rfl (by omega) (get_mapS _ hi)<|λ a39 => (Zc<|Za2 VT.ty38 rfl rfl<|Zc<|Zb2 VT.zr38 _ rfl rfl<|λ g10 => (Zc<|Zk rfl<|Zc<|Zx 0 VT.ty38 rfl rfl rfl rfl rfl<|Za<|Zi<|Zb<|Zd<|Zc<|Zl rfl<|Zc<|Zy 1 VT.ty3 rfl rfl rfl rfl rfl<|Za<|Zi<|Zb<|Zd<|Zc<|Zj VT.fa38_3 rfl<|Zc<|Zu 0 VT.ty36 rfl rfl rfl<|Zc<|Zd2 (n := i.args.length) Tryz.underlying36 rfl (by simp)<|λ hl44 => (Zc<|Zl rfl<|Za<|Zi<|Zs<|Zi2 (ι := Nat) (λ l => i.args.length - l) (λ l => [(1, some (.ptr g1 0)), (3, some (.ptr g3 0)), (4, some (.ptr g4 0)), (25, some (blocksX bs)), (26, some (.int bs.length)), (27, some (.int k)), (5, some (.ptr g5 0)), (6, some (.ptr g6 0)), (7, some (.ptr g7 0)), (8, some (.clo (.func 101) [.ptr g1 0, .ptr g5 0, .ptr g7 0, .ptr g3 0, .ptr g4 0])), (34, some (inssX b.ins)), (35, some (.int b.ins.length)), (36, some (.int j)), (43, some (intsX i.args)), (44, some (.int i.args.length)), (45, some (.int l))]) (λ l => [.cells g7 3 [.int j], .cells g6 44 (blockV b).leaves, .cells g5 3 [.int k], .cells g4 182 [V.u64 (domF bs).seen.1, V.u64 (domF bs).seen.2], .cells g3 179 [setsX (domF bs).over], .cells g1 146 [.ptr gc 0], .cells gc 149 [.int name, blocksX bs, .raw (.map (some gm))], .map gm (kmap kint (encD d))]) (λ l => l <= i.args.length /\ (i.args.drop l).all (fineF d (domF bs) k j) = i.args.all (fineF d (domF bs) k j)) 0 ⟨Yc _, rfl⟩ ⟨rfl, rfl, rfl, rfl, rfl, rfl, rfl, rfl, rfl, rfl, rfl, rfl, rfl, rfl, rfl, rfl, trivial⟩ (Dd<|Dk<|Dk<|Dk<|Dk<|Dk<|Dk<|Dk<|Dk<|Zt2 _) ?_)))
   rintro l hA3
   change l <= i.args.length /\ (i.args.drop l).all (fineF d (domF bs) k j) = i.args.all (fineF d (domF bs) k j) at hA3
   obtain ⟨hl, hq3⟩ := hA3
   refine Zb<|Zd<|Zc<|Zj1 rfl rfl rfl<|Za<|Zi<|Zb<|Zn1 rfl (λ h46 => ?_)<|λ h46 => ?_
   .
    obtain ⟨x, hx⟩ := get_of_lt i.args l h46
    refine Zi1<|Zi<|Zb<|Zs<|Zb<|Zd<|Zc<|Zz (el := V.int x) VT.sl36 rfl rfl (by omega) (get_int hx)<|λ a47 => (Zc<|Zz1 VT.ty3 rfl rfl<|Zc<|Zk rfl<|Za<|Zi<|Zb<|Zd<|Zc<|Zl rfl<|Zc<|Zl rfl<|Zc<|V_callCloKs [.tmp 50] [_, _, _, _, _, _, _] _ rfl rfl rfl VT.en101 ((Zv2 (i := 5) rfl).trans<|.cons _<|(Zv2 (i := 2) rfl).trans<|.cons _<|(Zv2 (i := 0) rfl).trans<|.cons _<|(Zv2 (i := 2) rfl).trans<|.cons _<|(Zv2 (i := 1) rfl).trans<|.cons _<|(Zv2 (i := 1) rfl).trans<|.cons _<|(Zv2 (i := 1) rfl).trans<|.cons _<|.refl _) ((fine_c gc gm g1 g5 g7 g3 g4 name bs d (domF bs) k j x hko (by rw [hlen]; exact hn)<|hd x))<|Zc<|Zl2 rfl<|Za<|Zi<|Zo1 rfl (λ h52 => ?_)<|λ h52 => ?_)
    .
     have hins : usesIns d (domF bs) k 0 b.ins = false := by rw [<- hq2, drop_cons hi, usesIns, <- hq3, drop_cons hx, List.all_cons, h52, Bool.false_and, Bool.false_and]
     rw [drop_cons hb, usesF, if_pos hins] at hq
     refine Zb<|Zd<|Zc<|Zk rfl<|Za<|Zi<|Zf1<|Za1<|Zd1<|Zd1<|Za1<|Za1<|Zd1<|Zd1<|Za1<|Zd1<|Za1<|Zd1<|Zd1<|Za1<|Zd1<|Zg1 rfl (.tmp rfl) ?_
     exact ⟨by rw [<- hq], (Dd (Dd (Dd (Dd (Dd (Dd (Dk (Dk (Zt2 _)))))))))⟩
    refine Zi1<|Zb1<|Zi<|Zd<|Zc<|Zh2 rfl rfl (by omega)<|Zc<|Zl rfl<|Za<|Zi ?_
    exact ⟨l + 1, (by (try simp only []); omega), ⟨by omega, by rw [<- hq3, drop_cons hx, List.all_cons, h52, Bool.true_and]⟩, ⟨rfl, rfl, rfl, rfl, rfl, rfl, rfl, rfl, rfl, rfl, rfl, rfl, rfl, rfl, rfl, rfl, trivial⟩, (Dk (Dk (Dk (Dk (Dk (Dk (Dk (Dk (Zt2 _)))))))))⟩
   have hle : l = i.args.length := by omega
   subst hle
   rw [Ya, List.all_nil] at hq3
   have hall := hq3.symm
   refine Zt<|Ze1<|Ze1<|Zc1<|Zb1<|Zi<|Zd<|Zc<|Zh2 rfl rfl (by omega)<|Zc<|Zl rfl<|Za<|Zi ?_
   exact ⟨(j + 1, (j : Int)), (by (try simp only []); omega), ⟨by omega, by rw [<- hq2, drop_cons hi, usesIns, hall, Bool.true_and]; rfl⟩, ⟨rfl, rfl, rfl, rfl, rfl, rfl, rfl, rfl, rfl, rfl, rfl, rfl, rfl, trivial⟩, (Dk (Dk (Dk (Dk (Dk (Dk (Dk (Dk (Zt2 _)))))))))⟩
  have hje : j = b.ins.length := by omega
  subst hje
  rw [Ya, usesIns] at hq2
  have hins := hq2.symm
  refine Zt<|Ze1<|Ze1<|Zc1<|Zi<|Zb<|Zd<|Zc<|Zj VT.fa44_1 rfl<|Zc<|Zu 1 VT.ty39 rfl rfl rfl<|Zc<|Zd2 (n := b.ins.length) Tryz.underlying39 rfl (by simp)<|λ hl57 => (Zc<|Zy 0 VT.ty3 rfl rfl rfl rfl rfl<|Za<|Zi<|Zb<|Zd<|Zc<|Zj VT.fa44_2 rfl<|Zc<|Zv 1 VT.ty42 rfl rfl rfl<|Zc<|Zl rfl<|Zc<|Zl3 [.tmp 59, .tmp 60] [_, _, _, _, _, _, _] _ rfl rfl VT.en103 ((Zv2 (i := 5) rfl).trans<|.cons _<|(Zv2 (i := 2) rfl).trans<|.cons _<|(Zv2 (i := 0) rfl).trans<|.cons _<|(Zv2 (i := 2) rfl).trans<|.cons _<|(Zv2 (i := 1) rfl).trans<|.cons _<|(Zv2 (i := 1) rfl).trans<|.cons _<|(Zv2 (i := 1) rfl).trans<|.cons _<|.refl _) (used_c b.term VT.en101<|λ v => (fine_c gc gm g1 g5 g7 g3 g4 name bs d (domF bs) k b.ins.length v hko (by rw [hlen]; exact hn)<|hd v))<|Zc<|Zl2 rfl<|Za<|Zi<|Zo1 rfl (λ h62 => ?_)<|λ h62 => ?_)
  .
   rw [drop_cons hb, usesF, if_neg (by rw [hins]; decide), if_pos h62] at hq
   refine Zb<|Zd<|Zc<|Zk rfl<|Za<|Zi<|Zf1<|Za1<|Zd1<|Zd1<|Za1<|Zd1<|Zg1 rfl (.tmp rfl) ?_
   exact ⟨by rw [<- hq], (Dd (Dd (Dd (Dd (Dd (Dd (Dk (Dk (Zt2 _)))))))))⟩
  refine Zi1<|Zb1<|Zi<|Zd<|Zc<|Zh2 rfl rfl (by omega)<|Zc<|Zl rfl<|Za<|Zi ?_
  exact ⟨k + 1, (by (try simp only []); omega), ⟨by omega, by rw [<- hq, drop_cons hb, usesF, if_neg (by rw [hins]; decide), if_neg (by rw [h62]; decide)]⟩, ⟨rfl, rfl, rfl, rfl, rfl, rfl, trivial⟩, (Dd (Dd (Dd (Dk (Dk (Dk (Dk (Dk (Zt2 _)))))))))⟩
 have hke : k = bs.length := by omega
 subst hke
 rw [Ya, usesF] at hq
 refine Zt<|Ze1<|Ze1<|Zc1<|Zi<|Zb<|Zd<|Zc<|Zk rfl<|Za<|Zi<|Zf1<|Zg1 rfl (.tmp rfl) ?_
 exact ⟨by rw [<- hq], (Dd (Dd (Dd (Dk (Dk (Zt2 _))))))⟩
theorem CheckFunc_c (f : SFunc) : VPure Tryz.prog 50 [funcV f] (.int (funcF f)) := by
 have hr := funcF.eq_def f
 refine V_start (nt := 69) Tryz.func50 rfl rfl rfl ?_
 refine Zb<|Zd<|Zc<|Zc2 rfl rfl<|λ g1 => (Zc<|Zk rfl<|Za<|Zi<|Zb<|Zd<|Zc<|Zk rfl<|Za<|Zi<|Zb<|Zb<|Zd<|Zc<|Zj VT.fa47_1 rfl<|Zc<|Zu 0 VT.ty45 rfl rfl rfl<|Zc<|Zd2 (n := f.blocks.length) Tryz.underlying45 rfl (by simp)<|λ hl11 => (Zc<|Zl rfl<|Za<|Zi<|Zs<|Zi2 (ι := Nat × Int) (λ (k, n) => f.blocks.length - k) (λ (k, n) => [(1, some (.ptr g1 0)), (3, some (.int n)), (10, some (blocksX f.blocks)), (11, some (.int f.blocks.length)), (12, some (.int k))]) (λ (k, n) => [.cells g1 47 [.int f.name, blocksX f.blocks]]) (λ (k, n) => k <= f.blocks.length /\ countIns n (f.blocks.drop k) = countIns 0 f.blocks) (0, 0) ⟨Yc _, rfl⟩ ⟨rfl, rfl, rfl, rfl, rfl, trivial⟩ (Dk<|Zt2 _) ?_))
 rintro ⟨k, n⟩ hA
 change k <= f.blocks.length /\ countIns n (f.blocks.drop k) = countIns 0 f.blocks at hA
 obtain ⟨hk, hq⟩ := hA
 refine Zb<|Zd<|Zc<|Zj1 rfl rfl rfl<|Za<|Zi<|Zb<|Zn1 rfl (λ h13 => ?_)<|λ h13 => ?_
 .
  obtain ⟨b, hb⟩ := get_of_lt f.blocks k h13
  refine Zi1<|Zi<|Zb<|Zs<|Zb<|Zd<|Zc<|Zz (el := blockV b) VT.sl45 rfl rfl (by omega) (get_mapS _ hb)<|λ a14 => (Zc<|Za2 VT.ty44 rfl rfl<|Zc<|Zb2 VT.zr44 _ rfl rfl<|λ g5 => (Zc<|Zx 0 VT.ty44 rfl rfl rfl rfl rfl<|Za<|Zi<|Zd<|Zc<|Zl rfl<|Zc<|Zj VT.fa44_1 rfl<|Zc<|Zu 0 VT.ty39 rfl rfl rfl<|Zc<|Zd2 (n := b.ins.length) Tryz.underlying39 rfl (by simp)<|λ hl19 => (Zc<|Zj1 rfl rfl rfl<|Zc<|Zk rfl<|Za<|Zb1<|Zi<|Zd<|Zc<|Zh2 rfl rfl (by omega)<|Zc<|Zl rfl<|Za<|Zi ?_)))
  exact ⟨(k + 1, IntKind.i64.wrap (n + b.ins.length)), (by (try simp only []); omega), ⟨by omega, by rw [<- hq, drop_cons hb, countIns]⟩, ⟨rfl, rfl, rfl, rfl, rfl, trivial⟩, (Dd (Dk (Zt2 _)))⟩
 have hke : k = f.blocks.length := by omega
 subst hke
 rw [Ya, countIns] at hq
 refine Zt<|Ze1<|Ze1<|Zc1<|Zi<|Zb<|Zs<|Zb<|Zd<|Zc<|Zj VT.fa47_1 rfl<|Zc<|Zu 0 VT.ty45 rfl rfl rfl<|Zc<|Zd2 (n := f.blocks.length) Tryz.underlying45 rfl (by simp)<|λ hl25 => (Zc<|Zj1 rfl rfl rfl<|Zc<|Zk rfl<|Za<|Zi<|Zl1 rfl (λ h22 => ?_)<|λ h22 => ?_)
 .
  rw [if_pos (by omega)] at hr
  refine Zb<|Zd<|Zc<|Zk rfl<|Za<|Zi<|Zf1<|Za1<|Zd1<|Zg1 rfl (.tmp rfl) ?_
  rw [hr]
 rw [if_neg (by omega)] at hr
 obtain ⟨b, hb⟩ := get_of_lt f.blocks 0 (by omega)
 have hp : paramsOf f.blocks 0 = b.params := by rw [paramsOf, show (0 : Int).toNat = 0 from rfl, hb]; rfl
 rw [hp] at hr
 refine Zb<|Zd<|Zc<|Zj VT.fa47_1 rfl<|Zc<|Zu 0 VT.ty45 rfl rfl rfl<|Zc<|Zd2 (n := f.blocks.length) Tryz.underlying45 rfl (by simp)<|λ hl30 => (Zc<|Zj1 rfl rfl rfl<|Zc<|Zl rfl<|Zj2 (q := 32) rfl (λ hq32 => ?_)<|λ hq32 => ?_)
 .
  refine Zk0 hq32<|Zk0 hq32<|Zc<|Zs1 rfl hq32 rfl<|Zc<|Zl rfl<|Zk0 rfl<|Zk0 rfl<|Zk0 rfl<|Zk0 rfl<|Zk0 rfl<|Zk0 rfl<|Zk0 rfl<|Zc<|Zs1 rfl rfl rfl<|Zc<|Zk rfl<|Za<|Zi<|Zp1 rfl rfl ?_
  rw [if_pos (by simp_all)] at hr
  refine Zb<|Zd<|Zc<|Zk rfl<|Za<|Zi<|Zf1<|Za1<|Zd1<|Zg1 rfl (.tmp rfl) ?_
  rw [hr]
 refine Zc (Zl rfl ?_)<|Zy0 hq32
 refine Zc (Zj1 rfl rfl rfl ?_)<|Zy0 hq32
 refine Zc<|Zt1 rfl hq32 rfl<|Zc<|Zl rfl<|Zj2 (q := 36) rfl (λ hq36 => ?_)<|λ hq36 => ?_
 .
  refine Zk0 hq36<|Zk0 hq36<|Zk0 hq36<|Zk0 hq36<|Zk0 hq36<|Zk0 hq36<|Zk0 hq36<|Zc<|Zs1 rfl hq36 rfl<|Zc<|Zk rfl<|Za<|Zi<|Zp1 rfl rfl ?_
  rw [if_pos (by simp_all)] at hr
  refine Zb<|Zd<|Zc<|Zk rfl<|Za<|Zi<|Zf1<|Za1<|Zd1<|Zg1 rfl (.tmp rfl) ?_
  rw [hr]
 refine Zc (Zj VT.fa47_1 rfl ?_)<|Zy0 hq36
 refine Zc (Zu 0 VT.ty45 rfl rfl rfl ?_)<|Zy0 hq36
 refine Zc (Zz (el := blockV b) VT.sl45 rfl rfl (by omega) (get_mapS _ hb)<|λ a39 => ?_)<|Zy0 hq36
 refine Zc (Zw1 VT.fa44_0 rfl rfl ?_)<|Zy0 hq36
 refine Zc (Zz1 VT.ty36 rfl rfl ?_)<|Zy0 hq36
 refine Zc (Zd2 (n := b.params.length) Tryz.underlying36 rfl (by simp)<|λ hl42 => ?_)<|Zy0 hq36
 refine Zc (Zj1 rfl rfl rfl ?_)<|Zy0 hq36
 refine Zc<|Zt1 rfl hq36 rfl<|Zc<|Zk rfl<|Za<|Zi<|Zn1 rfl (λ h27 => ?_)<|λ h27 => ?_
 .
  rw [if_pos (by simp_all)] at hr
  refine Zb<|Zd<|Zc<|Zk rfl<|Za<|Zi<|Zf1<|Za1<|Zd1<|Zg1 rfl (.tmp rfl) ?_
  rw [hr]
 rw [if_neg (by simp_all)] at hr
 refine Zb<|Zd<|Zc<|Zj VT.fa47_0 rfl<|Zc<|Zu 0 VT.ty3 rfl rfl rfl<|Zc<|Zx1 [.tmp 47, .const (.int .i64 (-1)), .const (.int .i64 (1048575))] rfl rfl VT.en26 (within_c _ _ _)<|Zc<|Zl2 rfl<|Zc<|Zk rfl<|Za<|Zi<|Zo1 rfl (λ h45 => ?_)<|λ h45 => ?_
 .
  rw [if_pos h45] at hr
  refine Zb<|Zd<|Zc<|Zk rfl<|Za<|Zi<|Zf1<|Za1<|Zd1<|Zg1 rfl (.tmp rfl) ?_
  rw [hr]
 rw [if_neg (by rw [h45]; decide)] at hr
 refine Zi1<|Zb1<|Zi<|Zb<|Zd<|Zc<|Zv 0 VT.ty47 rfl rfl rfl<|Zc<|V_makeMap (kv := kint)<|λ g51 => (Zc<|Zf2 [0, 1] [.tmp 50, .tmp 51] VT.st149 rfl rfl rfl rfl<|Zc<|Zc2 rfl rfl<|λ g53 => (Zc<|Zk rfl<|Za<|Zi<|Zb<|Zb<|Zd<|Zc<|Zj VT.fa47_1 rfl<|Zc<|Zu 2 VT.ty45 rfl rfl rfl<|Zc<|Zd2 (n := f.blocks.length) Tryz.underlying45 rfl (by simp)<|λ hl56 => (Zc<|Zl rfl<|Za<|Zi<|Zs<|Zi2 (ι := Nat × Defs) (λ (k, d) => f.blocks.length - k) (λ (k, d) => [(1, some (.ptr g1 0)), (6, some (.ptr g53 0)), (55, some (blocksX f.blocks)), (56, some (.int f.blocks.length)), (57, some (.int k))]) (λ (k, d) => [.cells g53 149 [.int f.name, blocksX f.blocks, .raw (.map (some g51))], .map g51 (kmap kint (encD d)), .cells g1 47 [.int f.name, blocksX f.blocks]]) (λ (k, d) => k <= f.blocks.length /\ blocksF f.blocks k (f.blocks.drop k) d = blocksF f.blocks 0 f.blocks []) (0, []) ⟨Yc _, rfl⟩ ⟨rfl, rfl, rfl, rfl, rfl, trivial⟩ (Dk<|Dk<|Dk<|Zt2 _) ?_)))
 rintro ⟨k, d⟩ hA2
 change k <= f.blocks.length /\ blocksF f.blocks k (f.blocks.drop k) d = blocksF f.blocks 0 f.blocks [] at hA2
 obtain ⟨hk2, hq2⟩ := hA2
 refine Zb<|Zd<|Zc<|Zj1 rfl rfl rfl<|Za<|Zi<|Zb<|Zn1 rfl (λ h58 => ?_)<|λ h58 => ?_
 .
  obtain ⟨b2, hb2⟩ := get_of_lt f.blocks k h58
  refine Zi1<|Zi<|Zb<|Zs<|Zb<|Zd<|Zc<|Zl rfl<|Zc<|Zk rfl<|Za<|Zi<|Zb<|Zd<|Zc<|Zl rfl<|Zc<|Zl rfl<|Zc<|Zm3 [.tmp 60, .tmp 61] _ _ rfl rfl VT.en83 (.refl _) (block_c g53 g51 f.name f.blocks k b2 hb2 d) ?_
  rintro r Sa ⟨rfl, rfl⟩
  refine Zc<|Zk rfl<|Za<|Zi<|Zb<|Zd<|Zc<|Zl rfl<|Zc<|Zj1 rfl rfl rfl<|Za<|Zi<|Zm1 rfl (λ h64 => ?_)<|λ h64 => ?_
  .
   have hbe : blocksF f.blocks 0 f.blocks [] = blockF f.blocks k b2 d := by rw [<- hq2, drop_cons hb2, blocksF, if_pos h64]
   rw [hbe, if_pos h64] at hr
   refine Zb<|Zd<|Zc<|Zl rfl<|Zc<|Zk rfl<|Za<|Zi<|Zf1<|Za1<|Zd1<|Zd1<|Za1<|Zd1<|Zg1 rfl (.tmp rfl) ?_
   rw [hr]
  refine Zi1<|Zb1<|Zi<|Zd<|Zc<|Zh2 rfl rfl (by omega)<|Zc<|Zl rfl<|Za<|Zi ?_
  exact ⟨(k + 1, (blockF f.blocks k b2 d).2), (by (try simp only []); omega), ⟨by omega, by rw [<- hq2, drop_cons hb2, blocksF, if_neg (by rw [h64]; decide)]; rfl⟩, ⟨rfl, rfl, rfl, rfl, rfl, trivial⟩, (Dk (Dk (Dk (Zt2 _))))⟩
 have hke : k = f.blocks.length := by omega
 subst hke
 rw [Ya, blocksF] at hq2
 have hbe : (blocksF f.blocks 0 f.blocks []).1 = 0 := by rw [<- hq2]
 rw [if_neg (by rw [hbe]; decide), <- hq2] at hr
 have hin := blocksF_in (n := f.blocks.length) f.blocks f.blocks 0 (Int.le_refl _) (by omega) (DefsIn.nil _)
 rw [<- hq2] at hin
 have hlen : f.blocks.length <= 128 := by have h := hq32; simp at h; omega
 refine Zt<|Ze1<|Ze1<|Zc1<|Zi<|Zb<|Zd<|Zc<|Zl rfl<|Zc<|Zl3 [.tmp 67] [_, _] _ rfl rfl VT.en84 (.refl _) (uses_c g53 g51 f.name f.blocks d (by omega) hlen (blocks_edges hbe) (λ v p h => by have := hin v p h; exact ⟨this.1, by omega⟩))<|Zc<|Zk rfl<|Za<|Zi<|Zf1<|Zg1 rfl (.tmp rfl) ?_
 rw [hr]
theorem Check_c (u : SUnit) : VPure Tryz.prog 25 [unitV u] (.int (unitF u)) := by
 have hr := unitF.eq_def u
 refine V_start (nt := 87) Tryz.func25 rfl rfl rfl ?_
 refine Zb<|Zd<|Zc<|Zc2 rfl rfl<|λ g1 => (Zc<|Zk rfl<|Za<|Zi<|Zb<|Zs<|Zb<|Zd<|Zc<|Zj VT.fa50_0 rfl<|Zc<|Zu 0 VT.ty48 rfl rfl rfl<|Zc<|Zd2 (n := u.fns.length) Tryz.underlying48 rfl (by simp)<|λ hl16 => (Zc<|Zj1 rfl rfl rfl<|Zc<|Zk rfl<|Za<|Zi<|Zl1 rfl (λ h13 => ?_)<|λ h13 => ?_))
 .
  rw [if_pos (by omega)] at hr
  refine Zb<|Zd<|Zc<|Zk rfl<|Za<|Zi<|Zf1<|Za1<|Zd1<|Zg1 rfl (.tmp rfl) ?_
  rw [hr]
 rw [if_neg (by omega)] at hr
 refine Zb<|Zd<|Zc<|Zj VT.fa50_0 rfl<|Zc<|Zu 0 VT.ty48 rfl rfl rfl<|Zc<|Zd2 (n := u.fns.length) Tryz.underlying48 rfl (by simp)<|λ hl21 => (Zc<|Zj1 rfl rfl rfl<|Zc<|Zk rfl<|Za<|Zi<|Zn1 rfl (λ h18 => ?_)<|λ h18 => ?_)
 .
  rw [if_pos h18] at hr
  refine Zb<|Zd<|Zc<|Zk rfl<|Za<|Zi<|Zf1<|Za1<|Zd1<|Zg1 rfl (.tmp rfl) ?_
  rw [hr]
 rw [if_neg h18] at hr
 refine Zb<|Zd<|Zc<|Zj VT.fa50_1 rfl<|Zc<|Zu 0 VT.ty3 rfl rfl rfl<|Zc<|Zj VT.fa50_0 rfl<|Zc<|Zu 0 VT.ty48 rfl rfl rfl<|Zc<|Zd2 (n := u.fns.length) Tryz.underlying48 rfl (by simp)<|λ hl28 => (Zc<|Zk2 rfl rfl (by omega)<|Zc<|Zx1 [.tmp 25, .const (.int .i64 (0)), .tmp 29] rfl rfl VT.en26 (within_c _ _ _)<|Zc<|Zl2 rfl<|Zc<|Zk rfl<|Za<|Zi<|Zo1 rfl (λ h23 => ?_)<|λ h23 => ?_)
 .
  rw [if_pos h23] at hr
  refine Zb<|Zd<|Zc<|Zk rfl<|Za<|Zi<|Zf1<|Za1<|Zd1<|Zg1 rfl (.tmp rfl) ?_
  rw [hr]
 rw [if_neg (by rw [h23]; decide)] at hr
 have hm := wi_iff.1 h23
 refine Zi1<|Zb1<|Zi<|Zb<|Zb<|Zd<|Zc<|Zj VT.fa50_0 rfl<|Zc<|Zu 0 VT.ty48 rfl rfl rfl<|Zc<|Zd2 (n := u.fns.length) Tryz.underlying48 rfl (by simp)<|λ hl34 => (Zc<|Zl rfl<|Za<|Zi<|Zs<|Zi2 (ι := Nat) (λ k => u.fns.length - k) (λ k => [(1, some (.ptr g1 0)), (33, some (funcsX u.fns)), (34, some (.int u.fns.length)), (35, some (.int k))]) (λ k => [.cells g1 50 [funcsX u.fns, .int u.main]]) (λ k => k <= u.fns.length /\ firstE funcF (u.fns.drop k) = firstE funcF u.fns /\ ∀ f ∈ u.fns.take k, funcF f = 0) 0 ⟨Yc _, rfl, λ f hf => by simp at hf⟩ ⟨rfl, rfl, rfl, rfl, trivial⟩ (Dk<|Zt2 _) ?_)
 rintro k hA
 change k <= u.fns.length /\ firstE funcF (u.fns.drop k) = firstE funcF u.fns /\ ∀ f ∈ u.fns.take k, funcF f = 0 at hA
 obtain ⟨hk, hq, hok⟩ := hA
 refine Zb<|Zd<|Zc<|Zj1 rfl rfl rfl<|Za<|Zi<|Zb<|Zn1 rfl (λ h36 => ?_)<|λ h36 => ?_
 .
  obtain ⟨f, hf⟩ := get_of_lt u.fns k h36
  refine Zi1<|Zi<|Zb<|Zs<|Zb<|Zd<|Zc<|Zz (el := funcV f) VT.sl48 rfl rfl (by omega) (get_mapS _ hf)<|λ a37 => (Zc<|Za2 VT.ty47 rfl rfl<|Zc<|Zb2 VT.zr47 _ rfl rfl<|λ g4 => (Zc<|Zx 0 VT.ty47 rfl rfl rfl rfl rfl<|Za<|Zi<|Zb<|Zd<|Zc<|Zv 0 VT.ty47 rfl rfl rfl<|Zc<|Zx1 [.tmp 39] rfl rfl VT.en50 (CheckFunc_c f)<|Zc<|Zk rfl<|Za<|Zi<|Zb<|Zd<|Zc<|Zl rfl<|Zc<|Zj1 rfl rfl rfl<|Za<|Zi<|Zm1 rfl (λ h42 => ?_)<|λ h42 => ?_))
  .
   have hfe : firstE funcF u.fns = funcF f := by rw [<- hq, drop_cons hf, firstE, if_pos h42]
   rw [if_pos (by rw [hfe]; exact h42), hfe] at hr
   refine Zb<|Zd<|Zc<|Zl rfl<|Zc<|Zk rfl<|Za<|Zi<|Zf1<|Za1<|Zd1<|Zd1<|Za1<|Zd1<|Zg1 rfl (.tmp rfl) ?_
   rw [hr]
  refine Zi1<|Zb1<|Zi<|Zd<|Zc<|Zh2 rfl rfl (by omega)<|Zc<|Zl rfl<|Za<|Zi ?_
  exact ⟨k + 1, (by (try simp only []); omega), ⟨by omega, by rw [<- hq, drop_cons hf, firstE, if_neg (by rw [h42]; decide)], λ g hg => by rw [take_snoc hf] at hg; rcases List.mem_append.1 hg with hg | hg; exact hok g hg; rw [List.mem_singleton.1 hg]; exact h42⟩, ⟨rfl, rfl, rfl, rfl, trivial⟩, (Dd (Dk (Zt2 _)))⟩
 rw [take_end h36] at hok
 have hke : k = u.fns.length := by omega
 subst hke
 rw [Ya, firstE] at hq
 rw [if_neg (by rw [<- hq]; decide)] at hr
 obtain ⟨f0, hf0⟩ := get_of_lt u.fns u.main.toNat (by omega)
 obtain ⟨b0, tl, hb0⟩ := List.exists_cons_of_ne_nil (func_ok (hok f0 (Yb hf0))).ne
 have hen : entryOf u u.main = b0.params := by rw [entryOf, hf0]; simp [paramsOf, hb0]
 rw [hen] at hr
 refine Zt<|Ze1<|Ze1<|Zc1<|Zi<|Zb<|Zb<|Zd<|Zc<|Zj VT.fa50_0 rfl<|Zc<|Zu 0 VT.ty48 rfl rfl rfl<|Zc<|Zj VT.fa50_1 rfl<|Zc<|Zu 0 VT.ty3 rfl rfl rfl<|Zc<|Zz (el := funcV f0) VT.sl48 rfl rfl (by omega) (get_mapS _ hf0)<|λ a49 => (Zc<|Zw1 VT.fa47_1 rfl rfl<|Zc<|Zz1 VT.ty45 rfl rfl<|Zc<|Zz (el := blockV b0) VT.sl45 rfl rfl (by omega) (by rw [hb0]; rfl)<|λ a52 => (Zc<|Zw1 VT.fa44_0 rfl rfl<|Zc<|Zz1 VT.ty36 rfl rfl<|Zc<|Zd2 (n := b0.params.length) Tryz.underlying36 rfl (by simp)<|λ hl55 => (Zc<|Zj1 rfl rfl rfl<|Za<|Zi<|Zn1 rfl (λ h56 => ?_)<|λ h56 => ?_)))
 .
  rw [if_pos (by omega)] at hr
  refine Zb<|Zd<|Zc<|Zk rfl<|Za<|Zi<|Zf1<|Zd1<|Zg1 rfl (.tmp rfl) ?_
  rw [hr]
 rw [if_neg (by omega)] at hr
 refine Zi1<|Zi<|Zb<|Zb<|Zd<|Zc<|Zj VT.fa50_0 rfl<|Zc<|Zu 0 VT.ty48 rfl rfl rfl<|Zc<|Zd2 (n := u.fns.length) Tryz.underlying48 rfl (by simp)<|λ hl59 => (Zc<|Zl rfl<|Za<|Zi<|Zs<|Zi2 (ι := Nat) (λ k => u.fns.length - k) (λ k => [(1, some (.ptr g1 0)), (58, some (funcsX u.fns)), (59, some (.int u.fns.length)), (60, some (.int k))]) (λ k => [.cells g1 50 [funcsX u.fns, .int u.main]]) (λ k => k <= u.fns.length /\ firstE (λ f => firstE (λ b => firstE (callF u) b.ins) f.blocks) (u.fns.drop k) = callsF u) 0 ⟨Yc _, rfl⟩ ⟨rfl, rfl, rfl, rfl, trivial⟩ (Dk<|Zt2 _) ?_)
 rintro k hA2
 change k <= u.fns.length /\ firstE (λ f => firstE (λ b => firstE (callF u) b.ins) f.blocks) (u.fns.drop k) = callsF u at hA2
 obtain ⟨hk2, hq2⟩ := hA2
 refine Zb<|Zd<|Zc<|Zj1 rfl rfl rfl<|Za<|Zi<|Zb<|Zn1 rfl (λ h61 => ?_)<|λ h61 => ?_
 .
  obtain ⟨f, hf⟩ := get_of_lt u.fns k h61
  have hfok := func_ok (hok f (Yb hf))
  refine Zi1<|Zi<|Zb<|Zs<|Zb<|Zd<|Zc<|Zz (el := funcV f) VT.sl48 rfl rfl (by omega) (get_mapS _ hf)<|λ a62 => (Zc<|Za2 VT.ty47 rfl rfl<|Zc<|Zb2 VT.zr47 _ rfl rfl<|λ g7 => (Zc<|Zx 0 VT.ty47 rfl rfl rfl rfl rfl<|Za<|Zi<|Zb<|Zd<|Zc<|Zj VT.fa47_1 rfl<|Zc<|Zu 0 VT.ty45 rfl rfl rfl<|Zc<|Zd2 (n := f.blocks.length) Tryz.underlying45 rfl (by simp)<|λ hl66 => (Zc<|Zl rfl<|Za<|Zi<|Zs<|Zi2 (ι := Nat) (λ l => f.blocks.length - l) (λ l => [(1, some (.ptr g1 0)), (58, some (funcsX u.fns)), (59, some (.int u.fns.length)), (60, some (.int k)), (65, some (blocksX f.blocks)), (66, some (.int f.blocks.length)), (67, some (.int l))]) (λ l => [.cells g1 50 [funcsX u.fns, .int u.main]]) (λ l => l <= f.blocks.length /\ firstE (λ b => firstE (callF u) b.ins) (f.blocks.drop l) = firstE (λ b => firstE (callF u) b.ins) f.blocks) 0 ⟨Yc _, rfl⟩ ⟨rfl, rfl, rfl, rfl, rfl, rfl, rfl, trivial⟩ (Dd<|Dk<|Zt2 _) ?_)))
  rintro l hA3
  change l <= f.blocks.length /\ firstE (λ b => firstE (callF u) b.ins) (f.blocks.drop l) = firstE (λ b => firstE (callF u) b.ins) f.blocks at hA3
  obtain ⟨hl, hq3⟩ := hA3
  refine Zb<|Zd<|Zc<|Zj1 rfl rfl rfl<|Za<|Zi<|Zb<|Zn1 rfl (λ h68 => ?_)<|λ h68 => ?_
  .
   obtain ⟨b, hb⟩ := get_of_lt f.blocks l h68
   have hfo := (hfok.block (Yb hb)).1
   refine Zi1<|Zi<|Zb<|Zs<|Zb<|Zd<|Zc<|Zz (el := blockV b) VT.sl45 rfl rfl (by omega) (get_mapS _ hb)<|λ a69 => (Zc<|Za2 VT.ty44 rfl rfl<|Zc<|Zb2 VT.zr44 _ rfl rfl<|λ g9 => (Zc<|Zx 0 VT.ty44 rfl rfl rfl rfl rfl<|Za<|Zi<|Zb<|Zd<|Zc<|Zj VT.fa44_1 rfl<|Zc<|Zu 0 VT.ty39 rfl rfl rfl<|Zc<|Zd2 (n := b.ins.length) Tryz.underlying39 rfl (by simp)<|λ hl73 => (Zc<|Zl rfl<|Za<|Zi<|Zs<|Zi2 (ι := Nat) (λ j => b.ins.length - j) (λ j => [(1, some (.ptr g1 0)), (58, some (funcsX u.fns)), (59, some (.int u.fns.length)), (60, some (.int k)), (65, some (blocksX f.blocks)), (66, some (.int f.blocks.length)), (67, some (.int l)), (72, some (inssX b.ins)), (73, some (.int b.ins.length)), (74, some (.int j))]) (λ j => [.cells g1 50 [funcsX u.fns, .int u.main]]) (λ j => j <= b.ins.length /\ firstE (callF u) (b.ins.drop j) = firstE (callF u) b.ins) 0 ⟨Yc _, rfl⟩ ⟨rfl, rfl, rfl, rfl, rfl, rfl, rfl, rfl, rfl, rfl, trivial⟩ (Dd<|Dk<|Zt2 _) ?_)))
   rintro j hA4
   change j <= b.ins.length /\ firstE (callF u) (b.ins.drop j) = firstE (callF u) b.ins at hA4
   obtain ⟨hj, hq4⟩ := hA4
   refine Zb<|Zd<|Zc<|Zj1 rfl rfl rfl<|Za<|Zi<|Zb<|Zn1 rfl (λ h75 => ?_)<|λ h75 => ?_
   .
    obtain ⟨i, hi⟩ := get_of_lt b.ins j h75
    refine Zi1<|Zi<|Zb<|Zs<|Zb<|Zd<|Zc<|Zz (el := insV i) VT.sl39 rfl rfl (by omega) (get_mapS _ hi)<|λ a76 => (Zc<|Za2 VT.ty38 rfl rfl<|Zc<|Zb2 VT.zr38 _ rfl rfl<|λ g11 => (Zc<|Zx 0 VT.ty38 rfl rfl rfl rfl rfl<|Za<|Zi<|Zb<|Zd<|Zc<|Zv 1 VT.ty50 rfl rfl rfl<|Zc<|Zv 0 VT.ty38 rfl rfl rfl<|Zc<|Zx1 [.tmp 78, .tmp 79] rfl rfl VT.en51 (calls_c u i (form_n<|hfo i<|Yb hi)<|λ f hf => (func_ok<|hok f hf).ne)<|Zc<|Zk rfl<|Za<|Zi<|Zb<|Zd<|Zc<|Zl rfl<|Zc<|Zj1 rfl rfl rfl<|Za<|Zi<|Zm1 rfl (λ h82 => ?_)<|λ h82 => ?_))
    .
     have hce : callsF u = callF u i := by rw [<- hq2, drop_cons hf, firstE, <- hq3, drop_cons hb, firstE, <- hq4, drop_cons hi, firstE, if_pos h82, if_pos h82, if_pos h82]
     rw [hce] at hr
     refine Zb<|Zd<|Zc<|Zl rfl<|Zc<|Zk rfl<|Za<|Zi<|Zf1<|Za1<|Zd1<|Zd1<|Za1<|Za1<|Zd1<|Zd1<|Za1<|Za1<|Zd1<|Zd1<|Za1<|Zd1<|Zg1 rfl (.tmp rfl) ?_
     rw [hr]
    refine Zi1<|Zb1<|Zi<|Zd<|Zc<|Zh2 rfl rfl (by omega)<|Zc<|Zl rfl<|Za<|Zi ?_
    exact ⟨j + 1, (by (try simp only []); omega), ⟨by omega, by rw [<- hq4, drop_cons hi, firstE, if_neg (by rw [h82]; decide)]⟩, ⟨rfl, rfl, rfl, rfl, rfl, rfl, rfl, rfl, rfl, rfl, trivial⟩, (Dd (Dk (Zt2 _)))⟩
   have hke : j = b.ins.length := by omega
   subst hke
   rw [Ya, firstE] at hq4
   have hin := hq4.symm
   refine Zt<|Ze1<|Ze1<|Zc1<|Zb1<|Zi<|Zd<|Zc<|Zh2 rfl rfl (by omega)<|Zc<|Zl rfl<|Za<|Zi ?_
   exact ⟨l + 1, (by (try simp only []); omega), ⟨by omega, by rw [<- hq3, drop_cons hb, firstE, if_neg (by rw [hin]; decide)]⟩, ⟨rfl, rfl, rfl, rfl, rfl, rfl, rfl, trivial⟩, (Dk (Zt2 _))⟩
  have hke : l = f.blocks.length := by omega
  subst hke
  rw [Ya, firstE] at hq3
  have hbl := hq3.symm
  refine Zt<|Ze1<|Ze1<|Zc1<|Zb1<|Zi<|Zd<|Zc<|Zh2 rfl rfl (by omega)<|Zc<|Zl rfl<|Za<|Zi ?_
  exact ⟨k + 1, (by (try simp only []); omega), ⟨by omega, by rw [<- hq2, drop_cons hf, firstE, if_neg (by rw [hbl]; decide)]⟩, ⟨rfl, rfl, rfl, rfl, trivial⟩, (Dk (Zt2 _))⟩
 have hke : k = u.fns.length := by omega
 subst hke
 rw [Ya, firstE] at hq2
 rw [<- hq2] at hr
 refine Zt<|Ze1<|Ze1<|Zc1<|Zi<|Zb<|Zd<|Zc<|Zk rfl<|Za<|Zi<|Zf1<|Zg1 rfl (.tmp rfl) ?_
 rw [hr]
end Go.Proofs.YtpkbgamoboojaaaGreat.X4
