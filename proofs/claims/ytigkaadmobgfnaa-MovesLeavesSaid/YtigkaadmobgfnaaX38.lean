import Derived.Test.YtigkaadmobgfnaaVT
import Derived.Test.YtigkaadmobgfnaaS2
import Derived.Test.YtigkaadmobgfnaaVO
import Derived.Test.YtigkaadmobgfnaaDZ
import Derived.Test.YtigkaadmobgfnaaX1
import Derived.Test.YtigkaadmobgfnaaX2
import Derived.Test.YtigkaadmobgfnaaX3
import Derived.Test.YtigkaadmobgfnaaX4
import Derived.Test.YtigkaadmobgfnaaX5
import Derived.Test.YtigkaadmobgfnaaX6
import Derived.Test.YtigkaadmobgfnaaX7
import Derived.Test.YtigkaadmobgfnaaX8
import Derived.Test.YtigkaadmobgfnaaX9
import Derived.Test.YtigkaadmobgfnaaX10
import Derived.Test.YtigkaadmobgfnaaX12
import Derived.Test.YtigkaadmobgfnaaX15
import Derived.Test.YtigkaadmobgfnaaX17
import Derived.Test.YtigkaadmobgfnaaX25
import Derived.Test.YtigkaadmobgfnaaX26
import Derived.Test.YtigkaadmobgfnaaX30
import Derived.Test.YtigkaadmobgfnaaX36
open List renaming map_append → Ya, length_map → Yb, take_length → Yc, mem_of_getElem? → Yd, length_take → Ye
open Nat renaming zero_le → Yf
set_option linter.unusedVariables false
set_option linter.unusedSimpArgs false
namespace Go.Proofs.Ytigkaadmobgfnaa.X38
open Go.VL Go.SM Go.Proofs.Ytigkaadmobgfnaa Go.Proofs.Ytigkaadmobgfnaa.X1 Go.Proofs.Ytigkaadmobgfnaa.X2 Go.Proofs.Ytigkaadmobgfnaa.X3 Go.Proofs.Ytigkaadmobgfnaa.X4 Go.Proofs.Ytigkaadmobgfnaa.X5 Go.Proofs.Ytigkaadmobgfnaa.X6 Go.Proofs.Ytigkaadmobgfnaa.X7 Go.Proofs.Ytigkaadmobgfnaa.X8 Go.Proofs.Ytigkaadmobgfnaa.X9 Go.Proofs.Ytigkaadmobgfnaa.X10 Go.Proofs.Ytigkaadmobgfnaa.X12 Go.Proofs.Ytigkaadmobgfnaa.X15 Go.Proofs.Ytigkaadmobgfnaa.X17 Go.Proofs.Ytigkaadmobgfnaa.X25 Go.Proofs.Ytigkaadmobgfnaa.X26 Go.Proofs.Ytigkaadmobgfnaa.X30 Go.Proofs.Ytigkaadmobgfnaa.X36
structure LB where
  b : SBlock
  o : Option XRow
  t : Tok
def lbV (s : LB) : V := .agg [intsX s.b.params, .sl 4 (some s.t) (s.b.ins.map insV), .int s.b.term.kind, .int s.b.term.arg, .int s.b.term.n, intsX s.b.term.cases, xLeaf s.o]
def lbOwn (s : LB) : Store := .buf s.t 42 4 s.b.ins.length :: xOwn 40 s.o
abbrev lOwn (B : List LB) : Store := B.flatMap lbOwn
abbrev lBs (B : List LB) : List SBlock := B.map (·.b)
def LOk (s : LB) : Prop := xl s.o = s.b.term.to.map edgeV ∧ xOk 2 s.o
theorem lb_7 (B : List LB) : ∀ x ∈ B.map lbV, x.leaves.length = 7 := fun x hx => by
  obtain ⟨b, _, rfl⟩ := List.mem_map.1 hx
  rfl
theorem lb_flat (s : LB) : ∀ y ∈ [lbV s], y.flat = true := fun y hy => by
  rw [List.mem_singleton.1 hy]
  obtain ⟨b, o, t⟩ := s
  cases o <;> rfl
theorem lbV_fit (s : LB) : ([lbV s] : List V).all (V.fits 7) = true := by
  obtain ⟨b, o, t⟩ := s
  cases o <;> rfl
theorem lown_snoc {x6 x5 : Own} {l C : Store} {B : List LB} {s : LB} : Drops (.buf s.t 42 4 s.b.ins.length :: x6 :: x5 :: (l ++ (C ++ (xOwn 40 s.o ++ lOwn B)))) (l ++ (C ++ lOwn (B ++ [s]))) := by
  refine Drops.trans (T := x6 :: x5 :: (l ++ (C ++ lOwn (B ++ [s])))) (.of_perm ?_) (.drop (.drop (.refl _)))
  · have e : lOwn (B ++ [s]) = lOwn B ++ (.buf s.t 42 4 s.b.ins.length :: xOwn 40 s.o) := by
      unfold lOwn
      rw [List.flatMap_append, List.flatMap_singleton]
      rfl
    rw [e]
    have h1 : (.buf s.t 42 4 s.b.ins.length :: x6 :: x5 :: (l ++ (C ++ (xOwn 40 s.o ++ lOwn B))) : Store).Perm (.buf s.t 42 4 s.b.ins.length :: x6 :: x5 :: (l ++ (C ++ (lOwn B ++ xOwn 40 s.o)))) := .cons _ (.cons _ (.cons _ ((List.perm_append_comm.append_left C).append_left l)))
    refine h1.trans ?_
    have e2 : (x6 :: x5 :: (l ++ (C ++ (lOwn B ++ (.buf s.t 42 4 s.b.ins.length :: xOwn 40 s.o)))) : Store) = (x6 :: x5 :: (l ++ (C ++ lOwn B))) ++ (.buf s.t 42 4 s.b.ins.length :: xOwn 40 s.o) := by simp
    have e3 : (.buf s.t 42 4 s.b.ins.length :: x6 :: x5 :: (l ++ (C ++ (lOwn B ++ xOwn 40 s.o))) : Store) = .buf s.t 42 4 s.b.ins.length :: ((x6 :: x5 :: (l ++ (C ++ lOwn B))) ++ xOwn 40 s.o) := by simp
    rw [e2, e3]
    exact List.perm_middle.symm
theorem lok_snoc {B : List LB} {s : LB} (h : ∀ x ∈ B, LOk x) (hs : LOk s) : ∀ x ∈ B ++ [s], LOk x := fun x hx => by
  rcases List.mem_append.1 hx with hx | hx
  · exact h x hx
  · rw [List.mem_singleton.1 hx]; exact hs
theorem lbs_snoc {bs : List SBlock} {B : List LB} {k : Nat} {b : SBlock} {o : Option XRow} {t : Tok} (h : lBs B = bs.take k) (hb : bs[k]? = some b) : lBs (B ++ [⟨b, o, t⟩]) = bs.take (k + 1) := by
  unfold lBs
  rw [Ya, take_snoc hb]
  exact congrArg (· ++ [b]) h
open Go.VL renaming VOps_nil → Za, VW_seq → Zb, VW_region → Zd, Needs_nil → Ze, Then_n → Zi, V_fieldAddr → Zj, V_assign → Zk, V_move → Zl, eqRes → Zm, vopT → Zn, goodS → Zo, VW_block → Zs, VW_exit → Zt, V_load → Zu, V_load_agg → Zv, V_store_agg → Zx, V_store → Zy, V_indexAddr → Zz, InBlock_r → Za1, InBlock_n → Zb1, InBlock_hit → Zc1, Then_r → Zd1, Then_e → Ze1, VW_ret → Zf1, VRet_one → Zg1, VRet_many → Zh1, VW_skip → Zi1, V_bin → Zj1, VW_condEq → Zl1, VW_condP → Zn1, VW_cond → Zr1, V_fieldAddr_ep → Zw1, V_callP → Zx1, V_load_ep → Zz1, V_load_ep_agg → Za2, V_alloc → Zb2, V_box → Zc2, V_lenN → Zd2, V_build → Zf2, V_extract → Zg2, V_add → Zh2, VW_loopF → Zi2, goodA → Zm2, goodU → Zo2, evs_cons → Zp2, evs_nil → Zq2, Drops.refl → Zt2, VOp_as → Zu2, oneRes → Zw2, oneE → Zx2, anyRes → Za3, oneY → Zd3, V_appendN → Zi3, V_lit → Zk3
set_option maxRecDepth 100000 in
set_option maxHeartbeats 16000000 in
theorem CopyL_c {f : SFunc} (hc : CpOk f) : VCalls Try.prog 27 [funcV f] [] fun r S' => ∃ B out, lBs B = f.blocks ∧ (∀ s ∈ B, LOk s) ∧ xl out = B.map lbV ∧ xOk 7 out ∧ r = .agg [.int f.name, xLeaf out] ∧ S' = xOwn 38 out ++ lOwn B := by
 refine VCalls_drops ?_
 have hmany := hc.many
 refine V_start (nt := 83) Try.func27 rfl rfl rfl ?_
 refine Zb (Zd ?_)
 refine Zc (Zc2 rfl rfl (fun g1 => ?_))
 refine Zc (Zb2 VT.zr31 _ rfl rfl (fun g2 => ?_))
 refine Za (Zi (Zb (Zd (Zc (Zj VT.fa31_0 rfl (Zc (Zu 1 VT.ty3 rfl rfl rfl ?_)))))))
 refine Zc (Zf2 [0] [.tmp 12] VT.st31 rfl rfl rfl rfl ?_)
 refine Zc (Zb2 VT.zr31 _ rfl rfl (fun g3 => ?_))
 refine Zc (Zx 0 VT.ty31 rfl rfl rfl rfl rfl (Za (Zi (Zb (Zb (Zd (Zc (Zj VT.fa31_1 rfl (Zc (Zu 2 VT.ty29 rfl rfl rfl ?_))))))))))
 refine Zc (Zd2 (n := f.blocks.length) Try.underlying29 rfl (by simp) (fun hl16 => ?_))
 refine Zc (Zl rfl (Za (Zi (Zs ?_))))
 refine Zi2 (ι := Nat × Option XRow × List LB) (fun (k, out, B) => f.blocks.length - k) (fun (k, out, B) => [(1, some (.ptr g1 0)), (2, some (.ptr g2 0)), (3, some (.ptr g3 0)), (15, some (blocksX f.blocks)), (16, some (.int f.blocks.length)), (17, some (.int k))]) (fun (k, out, B) => .cells g3 31 [.int f.name, xLeaf out] :: .cells g2 31 VT.zs31 :: .cells g1 31 [.int f.name, blocksX f.blocks] :: (xOwn 38 out ++ lOwn B)) (fun (k, out, B) => k ≤ f.blocks.length ∧ lBs B = f.blocks.take k ∧ (∀ s ∈ B, LOk s) ∧ xl out = B.map lbV ∧ xOk 7 out) (0, none, []) ⟨Yf _, rfl, (fun s hs => by cases hs), rfl, trivial⟩ ⟨rfl, rfl, rfl, rfl, rfl, rfl, trivial⟩ (Zt2 _) ?_
 rintro ⟨k, out, B⟩ hA
 change k ≤ f.blocks.length ∧ lBs B = f.blocks.take k ∧ (∀ s ∈ B, LOk s) ∧ xl out = B.map lbV ∧ xOk 7 out at hA
 obtain ⟨hk, hR, hLo, hxu, huo⟩ := hA
 refine Zb (Zd (Zc (Zj1 rfl rfl rfl (Za (Zi (Zb ?_))))))
 refine Zn1 rfl (fun h18 => ?_) (fun h18 => ?_)
 ·
  obtain ⟨b, hb⟩ := get_of_lt f.blocks k h18
  obtain ⟨c1, c2, c3, c4, c5, c6⟩ := hc.block b (Yd hb)
  have hkl : B.length = k := by have h9 := congrArg List.length hR; rw [Yb, Ye] at h9; omega
  refine Zi1 (Zi (Zb (Zs (Zb (Zd ?_)))))
  refine Zc (Zz (el := blockV b) VT.sl29 rfl rfl (by omega) (get_mapS _ hb) (fun a19 => ?_))
  refine Zc (Za2 VT.ty38 rfl rfl ?_)
  refine Zc (Zb2 VT.zr38 _ rfl rfl (fun g5 => ?_))
  refine Zc (Zx 0 VT.ty38 rfl rfl rfl rfl rfl (Za (Zi (Zb ?_))))
  refine VW_drawR (G := Nat) [([], [5], []), ([0], [21], []), ([1, 0], [22], []), ([], [5], []), ([3], [24], []), (dn 5, [23, 25], []), ([], [], [0]), (dn 7, [6, 26], [])] [6, 7] (twoSt _ (fun x => .cells x 38 VT.zs38 :: .cells g5 38 [intsX b.params, inssX b.ins, .int b.term.kind, .int b.term.arg, .int b.term.n, intsX b.term.cases, edgesX b.term.to] :: .cells g3 31 [.int f.name, xLeaf out] :: .cells g2 31 VT.zs31 :: .cells g1 31 [.int f.name, blocksX f.blocks] :: (xOwn 38 out ++ lOwn B)) (fun x _ => .cells x 38 [intsX b.params, V.nilSl, .int b.term.kind, .int b.term.arg, .int b.term.n, intsX b.term.cases, edgesX b.term.to] :: .cells g5 38 [intsX b.params, inssX b.ins, .int b.term.kind, .int b.term.arg, .int b.term.n, intsX b.term.cases, edgesX b.term.to] :: .cells g3 31 [.int f.name, xLeaf out] :: .cells g2 31 VT.zs31 :: .cells g1 31 [.int f.name, blocksX f.blocks] :: (xOwn 38 out ++ lOwn B))) [6] [6, 21, 22, 23, 24, 25, 26] rfl VT.mix ?_
  refine Zp (Zm _) (Zm2 rfl (fun _ => (fun γ => Zf (fun _ h5 => Ze (Zn rfl (Zj VT.fa38_0 h5 ⟨rfl, rfl⟩)))))) ?_
  refine Zp (Zm _) (Zo rfl rfl ⟨(fun γ => Zw 0 0 rfl (fun _ h21 => Ze (Zn rfl (Zu 0 VT.ty32 h21 rfl rfl ⟨rfl, rfl⟩)))), (fun γ => Zw 0 0 rfl (fun _ h21 => Ze (Zn rfl (Zu 1 VT.ty32 h21 rfl rfl ⟨rfl, rfl⟩)))), trivial⟩) ?_
  refine Zp (Zm _) (Zm2 rfl (fun _ => (fun γ => Zw 1 0 rfl (fun _ h22 => Ze (Zn rfl (Zx1 [.tmp 22] rfl (Zp2 h22 Zq2) VT.en41 (intsClone_c b.params (by omega)) ⟨rfl, rfl⟩)))))) ?_
  refine Zp (Zm _) (Zm2 rfl (fun _ => (fun γ => Zf (fun _ h5 => Ze (Zn rfl (Zj VT.fa38_2 h5 ⟨rfl, rfl⟩)))))) ?_
  refine Zp (Zm _) (Zo rfl rfl ⟨(fun γ => Zw 3 0 rfl (fun _ h24 => Ze (Zn rfl (Zv 0 VT.ty36 h24 rfl rfl ⟨rfl, rfl⟩)))), (fun γ => Zw 3 0 rfl (fun _ h24 => Ze (Zn rfl (Zv 1 VT.ty36 h24 rfl rfl ⟨rfl, rfl⟩)))), trivial⟩) ?_
  refine Zp (Zm _) (Zm2 rfl (fun _ => (fun γ => Zw 2 2 rfl (fun _ h23 => Zw 4 0 rfl (fun _ h25 => Ze (Zn rfl (Zf2 [0, 2] [.tmp 23, .tmp 25] VT.st38 rfl rfl (Zp2 h23 (Zp2 h25 Zq2)) rfl ⟨rfl, rfl⟩))))))) ?_
  refine Zp (Zw2 (fun g => .ptr g 0)) (Zo2 0 rfl (fun γ => Ze (Zn rfl (Zb2 VT.zr38 _ rfl rfl (fun g6 => ⟨g6, ⟨g6, rfl, rfl⟩, rfl⟩))))) ?_
  refine Zp Za3 (Zo2 1 rfl (fun γ => Zw 6 0 rfl (fun _ h6 => Zw 5 1 rfl (fun _ h26 => Ze (Zx2 h6 (fun e6 => Zn rfl (Zx 0 VT.ty38 e6 h26 rfl rfl rfl ⟨default, trivial, rfl⟩))))))) ?_
  refine DrawP_nil (fun γ => Zw 6 1 rfl (fun r6 h6 => Ze ?_))
  have e6 : r6 = some _ := Zd3 h6
  subst e6
  clear h6
  refine Zi ?_
  refine VW_cells 0 (ls' := [intsX b.params, .sl 4 (some .nil) [], .int b.term.kind, .int b.term.arg, .int b.term.n, intsX b.term.cases, edgesX b.term.to]) rfl ⟨V.le.refl _, rfl, V.le.nilTok 4, rfl, V.le.refl _, rfl, V.le.refl _, rfl, V.le.refl _, rfl, V.le.refl _, rfl, V.le.refl _, rfl, trivial⟩ ?_
  refine VW_nilBuf 42 4 ?_
  generalize hg6 : γ 0 = g6
  refine Zb (Zb (Zd (Zc (Zj VT.fa38_1 rfl (Zc (Zu 2 VT.ty33 rfl rfl rfl ?_))))))
  refine Zc (Zd2 (n := b.ins.length) Try.underlying33 rfl (by simp) (fun hl29 => ?_))
  refine Zc (Zl rfl (Za (Zi (Zs ?_))))
  refine Zi2 (ι := Nat × Tok) (fun (j, ti) => b.ins.length - j) (fun (j, ti) => [(1, some (.ptr g1 0)), (2, some (.ptr g2 0)), (3, some (.ptr g3 0)), (15, some (blocksX f.blocks)), (16, some (.int f.blocks.length)), (17, some (.int k)), (5, some (.ptr g5 0)), (6, some (.ptr g6 0)), (28, some (inssX b.ins)), (29, some (.int b.ins.length)), (30, some (.int j))]) (fun (j, ti) => .buf ti 42 4 j :: .cells g6 38 [intsX b.params, .sl 4 (some ti) ((b.ins.take j).map insV), .int b.term.kind, .int b.term.arg, .int b.term.n, intsX b.term.cases, edgesX b.term.to] :: .cells g5 38 [intsX b.params, inssX b.ins, .int b.term.kind, .int b.term.arg, .int b.term.n, intsX b.term.cases, edgesX b.term.to] :: .cells g3 31 [.int f.name, xLeaf out] :: .cells g2 31 VT.zs31 :: .cells g1 31 [.int f.name, blocksX f.blocks] :: (xOwn 38 out ++ lOwn B)) (fun (j, ti) => j ≤ b.ins.length) (0, .nil) (Yf _) ⟨rfl, rfl, rfl, rfl, rfl, rfl, rfl, rfl, rfl, rfl, rfl, trivial⟩ (Zt2 _) ?_
  rintro ⟨j, ti⟩ hj
  change j ≤ b.ins.length at hj
  refine Zb (Zd (Zc (Zj1 rfl rfl rfl (Za (Zi (Zb ?_))))))
  refine Zn1 rfl (fun h31 => ?_) (fun h31 => ?_)
  ·
   obtain ⟨i, hi⟩ := get_of_lt b.ins j h31
   have hia := c5 i (Yd hi)
   refine Zi1 (Zi (Zb (Zs (Zb (Zd ?_)))))
   refine Zc (Zz (el := insV i) VT.sl33 rfl rfl (by omega) (get_mapS _ hi) (fun a32 => ?_))
   refine Zc (Za2 VT.ty42 rfl rfl ?_)
   refine Zc (Zb2 VT.zr42 _ rfl rfl (fun g8 => ?_))
   refine Zc (Zx 0 VT.ty42 rfl rfl rfl rfl rfl (Za (Zi (Zb (Zd (Zc (Zj VT.fa42_3 rfl (Zc (Zu 0 VT.ty32 rfl rfl rfl ?_)))))))))
   refine Zc (Zx1 [.tmp 35] rfl rfl VT.en41 (intsClone_c i.args (by omega)) ?_)
   refine Zc (Zj VT.fa42_3 rfl (Zc (Zy 0 VT.ty32 rfl rfl rfl rfl rfl (Za (Zi (Zd (Zc (Zj VT.fa38_1 rfl (Zc (Zu 2 VT.ty33 rfl rfl rfl (Zc (Zv 0 VT.ty42 rfl rfl rfl ?_))))))))))))
   refine Zc (Zk3 [.tmp 40] VT.sl33 rfl rfl rfl rfl rfl ?_)
   refine Zc (Zi3 1 _ VT.sl33 rfl rfl rfl (by simp; omega) (by simp; omega) (fun t42 => ?_))
   refine Zc (Zj VT.fa38_1 rfl (Zc (Zy 2 VT.ty33 rfl rfl rfl rfl rfl (Za (Zb1 (Zi (Zd ?_)))))))
   refine Zc (Zh2 rfl rfl (by omega) ?_)
   refine Zc (Zl rfl (Za (Zi ?_)))
   exact ⟨(j + 1, t42), (by (try simp only []); omega), (by omega), ⟨rfl, rfl, rfl, rfl, rfl, rfl, rfl, rfl, rfl, rfl, rfl, trivial⟩, (Drops.drop (Drops.buf (by simp; omega) (Drops.keepE (congrArg (fun l => Own.cells g6 38 [intsX b.params, .sl 4 (some t42) l, .int b.term.kind, .int b.term.arg, .int b.term.n, intsX b.term.cases, edgesX b.term.to]) (by rw [take_snoc hi, Ya]; rfl)) (Drops.keep (Drops.keep (Drops.keep (Drops.keep (Zt2 _))))))))⟩
  ·
   have hje : j = b.ins.length := by omega
   subst hje
   have hsi : V.le (.sl 4 (some ti) ((b.ins.take b.ins.length).map insV)) (.sl 4 (some ti) (b.ins.map insV)) := by rw [Yc]; exact V.le.refl _
   refine Zt (Ze1 (Ze1 (Zc1 (Zi ?_))))
   refine VW_cells 1 (ls' := [intsX b.params, .sl 4 (some ti) (b.ins.map insV), .int b.term.kind, .int b.term.arg, .int b.term.n, intsX b.term.cases, edgesX b.term.to]) rfl ⟨V.le.refl _, rfl, hsi, rfl, V.le.refl _, rfl, V.le.refl _, rfl, V.le.refl _, rfl, V.le.refl _, rfl, V.le.refl _, rfl, trivial⟩ ?_
   refine Zb (Zd (Zc (Zj VT.fa38_2 rfl (Zc (Zj VT.fa36_3 rfl (Zc (Zu 2 VT.ty32 rfl rfl rfl ?_)))))))
   refine Zc (Zx1 [.tmp 47] rfl rfl VT.en41 (intsClone_c b.term.cases (by omega)) ?_)
   refine Zc (Zj VT.fa38_2 rfl (Zc (Zj VT.fa36_3 rfl (Zc (Zy 1 VT.ty32 rfl rfl rfl rfl rfl (Za (Zi (Zb (Zd (Zc (Zj VT.fa38_2 rfl (Zc (Zj VT.fa36_4 rfl (Zc (Zy 1 VT.ty34 rfl rfl rfl rfl rfl (Za (Zi (Zb (Zb (Zd (Zc (Zj VT.fa38_2 rfl (Zc (Zj VT.fa36_4 rfl ?_))))))))))))))))))))))))
   refine Zc (Zu 2 VT.ty34 rfl rfl rfl ?_)
   refine Zc (Zd2 (n := b.term.to.length) Try.underlying34 rfl (by simp) (fun hl56 => ?_))
   refine Zc (Zl rfl (Za (Zi (Zs ?_))))
   refine Zi2 (ι := Nat × Option XRow) (fun (j, o) => b.term.to.length - j) (fun (j, o) => [(1, some (.ptr g1 0)), (2, some (.ptr g2 0)), (3, some (.ptr g3 0)), (15, some (blocksX f.blocks)), (16, some (.int f.blocks.length)), (17, some (.int k)), (5, some (.ptr g5 0)), (6, some (.ptr g6 0)), (55, some (edgesX b.term.to)), (56, some (.int b.term.to.length)), (57, some (.int j))]) (fun (j, o) => .buf ti 42 4 b.ins.length :: .cells g6 38 [intsX b.params, .sl 4 (some ti) (b.ins.map insV), .int b.term.kind, .int b.term.arg, .int b.term.n, intsX b.term.cases, xLeaf o] :: .cells g5 38 [intsX b.params, inssX b.ins, .int b.term.kind, .int b.term.arg, .int b.term.n, intsX b.term.cases, edgesX b.term.to] :: .cells g3 31 [.int f.name, xLeaf out] :: .cells g2 31 VT.zs31 :: .cells g1 31 [.int f.name, blocksX f.blocks] :: (xOwn 40 o ++ (xOwn 38 out ++ lOwn B))) (fun (j, o) => j ≤ b.term.to.length ∧ xl o = (b.term.to.take j).map edgeV ∧ xOk 2 o) (0, none) ⟨Yf _, rfl, trivial⟩ ⟨rfl, rfl, rfl, rfl, rfl, rfl, rfl, rfl, rfl, rfl, rfl, trivial⟩ (Drops.buf (by simp) (Drops.keep (Drops.keep (Drops.keep (Drops.keep (Drops.keep (Zt2 _))))))) ?_
   rintro ⟨j, o⟩ hB
   change j ≤ b.term.to.length ∧ xl o = (b.term.to.take j).map edgeV ∧ xOk 2 o at hB
   obtain ⟨hj, hxo, hoo⟩ := hB
   refine Zb (Zd (Zc (Zj1 rfl rfl rfl (Za (Zi (Zb ?_))))))
   refine Zn1 rfl (fun h58 => ?_) (fun h58 => ?_)
   ·
    obtain ⟨e, he⟩ := get_of_lt b.term.to j h58
    have hea := c6 e (Yd he)
    have hxl : (xl o).length = j := by rw [hxo, Yb, Ye]; omega
    have hxs : xl o ++ [edgeV e] = ((b.term.to.take (j + 1)).map edgeV) := by rw [hxo, take_snoc he, Ya]; rfl
    refine Zi1 (Zi (Zb (Zs (Zb (Zd ?_)))))
    refine Zc (Zz (el := edgeV e) VT.sl34 rfl rfl (by omega) (get_mapS _ he) (fun a59 => ?_))
    refine Zc (Za2 VT.ty40 rfl rfl ?_)
    refine Zc (Zb2 VT.zr40 _ rfl rfl (fun g10 => ?_))
    refine Zc (Zx 0 VT.ty40 rfl rfl rfl rfl rfl (Za (Zi ?_)))
    refine VW_drawR (G := (Option XRow)) [([], [6], []), ([0], [61], []), ([1, 0], [62], []), ([], [10], []), ([3], [64], []), ([], [10], []), ([5], [66], []), ([6, 5], [67], []), ([7, 6, 5, 4, 3], [65, 68], []), ([8, 7, 6, 5, 4, 3], [69], []), (dn 10, [63, 70], [0]), (dn 11, [6], []), (dn 12, [72], []), (dn 13, [73, 71], [])] [10, 13] (twoSt _ (fun x => (.cells g10 40 [.int e.block, intsX e.args] :: .buf ti 42 4 b.ins.length :: .cells g6 38 [intsX b.params, .sl 4 (some ti) (b.ins.map insV), .int b.term.kind, .int b.term.arg, .int b.term.n, intsX b.term.cases, xLeaf o] :: .cells g5 38 [intsX b.params, inssX b.ins, .int b.term.kind, .int b.term.arg, .int b.term.n, intsX b.term.cases, edgesX b.term.to] :: .cells g3 31 [.int f.name, xLeaf out] :: .cells g2 31 VT.zs31 :: .cells g1 31 [.int f.name, blocksX f.blocks] :: (xOwn 40 (nrmX 2 ((b.term.to.take (j + 1)).map edgeV) x) ++ (xOwn 38 out ++ lOwn B)))) (fun x _ => (.cells g10 40 [.int e.block, intsX e.args] :: .buf ti 42 4 b.ins.length :: .cells g6 38 [intsX b.params, .sl 4 (some ti) (b.ins.map insV), .int b.term.kind, .int b.term.arg, .int b.term.n, intsX b.term.cases, xLeaf (nrmX 2 ((b.term.to.take (j + 1)).map edgeV) x)] :: .cells g5 38 [intsX b.params, inssX b.ins, .int b.term.kind, .int b.term.arg, .int b.term.n, intsX b.term.cases, edgesX b.term.to] :: .cells g3 31 [.int f.name, xLeaf out] :: .cells g2 31 VT.zs31 :: .cells g1 31 [.int f.name, blocksX f.blocks] :: (xOwn 40 (nrmX 2 ((b.term.to.take (j + 1)).map edgeV) x) ++ (xOwn 38 out ++ lOwn B))))) [] [61, 62, 63, 64, 65, 66, 67, 68, 69, 70, 71, 72, 73] rfl VT.mix ?_
    refine Zp (Zm _) (Zo rfl rfl ⟨(fun γ => Zf (fun _ h6 => Ze (Zn rfl (Zj VT.fa38_2 h6 ⟨rfl, rfl⟩)))), trivial⟩) ?_
    refine Zp (Zm _) (Zo rfl rfl ⟨(fun γ => Zw 0 0 rfl (fun _ h61 => Ze (Zn rfl (Zj VT.fa36_4 h61 ⟨rfl, rfl⟩)))), trivial⟩) ?_
    refine Zp (Zm _) (Zo rfl rfl ⟨(fun γ => Zw 1 0 rfl (fun _ h62 => Ze (Zn rfl (Zu 2 VT.ty34 h62 rfl rfl ⟨rfl, rfl⟩)))), trivial⟩) ?_
    refine Zp (Zm _) (Zo rfl rfl ⟨(fun γ => Zf (fun _ h10 => Ze (Zn rfl (Zj VT.fa40_0 h10 ⟨rfl, rfl⟩)))), trivial⟩) ?_
    refine Zp (Zm _) (Zo rfl rfl ⟨(fun γ => Zw 3 0 rfl (fun _ h64 => Ze (Zn rfl (Zu 0 VT.ty3 h64 rfl rfl ⟨rfl, rfl⟩)))), trivial⟩) ?_
    refine Zp (Zm _) (Zo rfl rfl ⟨(fun γ => Zf (fun _ h10 => Ze (Zn rfl (Zj VT.fa40_1 h10 ⟨rfl, rfl⟩)))), trivial⟩) ?_
    refine Zp (Zm _) (Zo rfl rfl ⟨(fun γ => Zw 5 0 rfl (fun _ h66 => Ze (Zn rfl (Zu 0 VT.ty32 h66 rfl rfl ⟨rfl, rfl⟩)))), trivial⟩) ?_
    refine Zp (Zm _) (Zo rfl rfl ⟨(fun γ => Zw 6 0 rfl (fun _ h67 => Ze (Zn rfl (Zx1 [.tmp 67] rfl (Zp2 h67 Zq2) VT.en41 (intsClone_c e.args (by omega)) ⟨rfl, rfl⟩)))), trivial⟩) ?_
    refine Zp (Zm _) (Zo rfl rfl ⟨(fun γ => Zw 4 3 rfl (fun _ h65 => Zw 7 0 rfl (fun _ h68 => Ze (Zn rfl (Zf2 [0, 1] [.tmp 65, .tmp 68] VT.st40 rfl rfl (Zp2 h65 (Zp2 h68 Zq2)) rfl ⟨rfl, rfl⟩))))), trivial⟩) ?_
    refine Zp (Zm _) (Zo rfl rfl ⟨(fun γ => Zw 8 0 rfl (fun _ h69 => Ze (Zn rfl (Zk3 [.tmp 69] VT.sl34 rfl rfl rfl (Zp2 h69 Zq2) rfl ⟨rfl, rfl⟩)))), trivial⟩) ?_
    refine Zp (Zw2 (fun x => xLeaf (nrmX 2 ((b.term.to.take (j + 1)).map edgeV) x))) (Zo2 0 rfl (fun γ => Zw 2 7 rfl (fun _ h63 => Zw 9 0 rfl (fun _ h70 => Ze (Zn rfl (V_appendOT (o := o) ([.cells g10 40 [.int e.block, intsX e.args], .buf ti 42 4 b.ins.length, .cells g6 38 [intsX b.params, .sl 4 (some ti) (b.ins.map insV), .int b.term.kind, .int b.term.arg, .int b.term.n, intsX b.term.cases, xLeaf o], .cells g5 38 [intsX b.params, inssX b.ins, .int b.term.kind, .int b.term.arg, .int b.term.n, intsX b.term.cases, edgesX b.term.to], .cells g3 31 [.int f.name, xLeaf out], .cells g2 31 VT.zs31, .cells g1 31 [.int f.name, blocksX f.blocks]] ++ (xOwn 38 out ++ lOwn B)) (fun o' => (.cells g10 40 [.int e.block, intsX e.args] :: .buf ti 42 4 b.ins.length :: .cells g6 38 [intsX b.params, .sl 4 (some ti) (b.ins.map insV), .int b.term.kind, .int b.term.arg, .int b.term.n, intsX b.term.cases, xLeaf o] :: .cells g5 38 [intsX b.params, inssX b.ins, .int b.term.kind, .int b.term.arg, .int b.term.n, intsX b.term.cases, edgesX b.term.to] :: .cells g3 31 [.int f.name, xLeaf out] :: .cells g2 31 VT.zs31 :: .cells g1 31 [.int f.name, blocksX f.blocks] :: (xOwn 40 o' ++ (xOwn 38 out ++ lOwn B)))) VT.sl34 (by decide) h63 h70 (pullC [.cells g10 40 [.int e.block, intsX e.args], .buf ti 42 4 b.ins.length, .cells g6 38 [intsX b.params, .sl 4 (some ti) (b.ins.map insV), .int b.term.kind, .int b.term.arg, .int b.term.n, intsX b.term.cases, xLeaf o], .cells g5 38 [intsX b.params, inssX b.ins, .int b.term.kind, .int b.term.arg, .int b.term.n, intsX b.term.cases, edgesX b.term.to], .cells g3 31 [.int f.name, xLeaf out], .cells g2 31 VT.zs31, .cells g1 31 [.int f.name, blocksX f.blocks]]) (fun o' => (pullC [.cells g10 40 [.int e.block, intsX e.args], .buf ti 42 4 b.ins.length, .cells g6 38 [intsX b.params, .sl 4 (some ti) (b.ins.map insV), .int b.term.kind, .int b.term.arg, .int b.term.n, intsX b.term.cases, xLeaf o], .cells g5 38 [intsX b.params, inssX b.ins, .int b.term.kind, .int b.term.arg, .int b.term.n, intsX b.term.cases, edgesX b.term.to], .cells g3 31 [.int f.name, xLeaf out], .cells g2 31 VT.zs31, .cells g1 31 [.int f.name, blocksX f.blocks]]).symm) hoo (edges_2 hxo) (fun _ => List.cons_ne_nil _ _) (by rw [hxl, List.length_singleton]; omega) (eflat_1 rfl) (fun o71 e71_1 e71_2 e71_3 => ⟨o71, ⟨_, rfl, (by show some (xLeaf o71) = some (xLeaf (nrmX 2 ((b.term.to.take (j + 1)).map edgeV) o71)); rw [nrmX_eq (e71_1.trans hxs) e71_2])⟩, (by show ((Own.cells g10 40 [.int e.block, intsX e.args] :: .buf ti 42 4 b.ins.length :: .cells g6 38 [intsX b.params, .sl 4 (some ti) (b.ins.map insV), .int b.term.kind, .int b.term.arg, .int b.term.n, intsX b.term.cases, xLeaf o] :: .cells g5 38 [intsX b.params, inssX b.ins, .int b.term.kind, .int b.term.arg, .int b.term.n, intsX b.term.cases, edgesX b.term.to] :: .cells g3 31 [.int f.name, xLeaf out] :: .cells g2 31 VT.zs31 :: .cells g1 31 [.int f.name, blocksX f.blocks] :: (xOwn 40 o71 ++ (xOwn 38 out ++ lOwn B))) : Store) = (.cells g10 40 [.int e.block, intsX e.args] :: .buf ti 42 4 b.ins.length :: .cells g6 38 [intsX b.params, .sl 4 (some ti) (b.ins.map insV), .int b.term.kind, .int b.term.arg, .int b.term.n, intsX b.term.cases, xLeaf o] :: .cells g5 38 [intsX b.params, inssX b.ins, .int b.term.kind, .int b.term.arg, .int b.term.n, intsX b.term.cases, edgesX b.term.to] :: .cells g3 31 [.int f.name, xLeaf out] :: .cells g2 31 VT.zs31 :: .cells g1 31 [.int f.name, blocksX f.blocks] :: (xOwn 40 (nrmX 2 ((b.term.to.take (j + 1)).map edgeV) o71) ++ (xOwn 38 out ++ lOwn B))); rw [nrmX_eq (e71_1.trans hxs) e71_2])⟩))))))) ?_
    refine Zp (Zm _) (Zo rfl rfl ⟨(fun γ => Zf (fun _ h6 => Ze (Zn rfl (Zj VT.fa38_2 h6 ⟨rfl, rfl⟩)))), trivial⟩) ?_
    refine Zp (Zm _) (Zo rfl rfl ⟨(fun γ => Zw 11 0 rfl (fun _ h72 => Ze (Zn rfl (Zj VT.fa36_4 h72 ⟨rfl, rfl⟩)))), trivial⟩) ?_
    refine Zp Za3 (Zo2 1 rfl (fun γ => Zw 12 0 rfl (fun _ h73 => Zw 10 2 rfl (fun _ h71 => Ze (Zx2 h71 (fun e71 => Zn rfl (Zy 2 VT.ty34 h73 e71 (xLeaf_leaf _) rfl rfl ⟨default, trivial, rfl⟩))))))) ?_
    refine DrawP_nil (fun γ => Ze ?_)
    refine Zb1 (Zi ?_)
    obtain ⟨n1, n2⟩ := nrmX_ok (sz := 2) (xs := ((b.term.to.take (j + 1)).map edgeV)) (edges_2 rfl) (by rw [Yb, Ye]; simp only [maxLen]; omega) (γ 0)
    refine Zd ?_
    refine Zc (Zh2 rfl rfl (by omega) ?_)
    refine Zc (Zl rfl (Za (Zi ?_)))
    exact ⟨(j + 1, nrmX 2 ((b.term.to.take (j + 1)).map edgeV) (γ 0)), (by (try simp only []); omega), ⟨by omega, n1, n2⟩, ⟨rfl, rfl, rfl, rfl, rfl, rfl, rfl, rfl, rfl, rfl, rfl, trivial⟩, (Drops.drop (Drops.buf (by simp) (Drops.keep (Drops.keep (Drops.keep (Drops.keep (Drops.keep (Zt2 _))))))))⟩
   ·
    have hje : j = b.term.to.length := by omega
    subst hje
    rw [Yc] at hxo
    refine Zt (Ze1 (Ze1 (Zc1 (Zi (Zd (Zc (Zj VT.fa31_1 rfl (Zc (Zu 3 VT.ty29 rfl rfl rfl (Zc (Zv 1 VT.ty38 rfl rfl rfl ?_)))))))))))
    refine Zc (Zk3 [.tmp 77] VT.sl29 rfl rfl rfl rfl (lbV_fit ⟨b, o, ti⟩) ?_)
    refine Zc (V_appendOT (o := out) ([.buf ti 42 4 b.ins.length, .cells g6 38 [intsX b.params, .sl 4 (some ti) (b.ins.map insV), .int b.term.kind, .int b.term.arg, .int b.term.n, intsX b.term.cases, xLeaf o], .cells g5 38 [intsX b.params, inssX b.ins, .int b.term.kind, .int b.term.arg, .int b.term.n, intsX b.term.cases, edgesX b.term.to], .cells g3 31 [.int f.name, xLeaf out], .cells g2 31 VT.zs31, .cells g1 31 [.int f.name, blocksX f.blocks]] ++ (xOwn 40 o ++ lOwn B)) (fun o' => .buf ti 42 4 b.ins.length :: .cells g6 38 [intsX b.params, .sl 4 (some ti) (b.ins.map insV), .int b.term.kind, .int b.term.arg, .int b.term.n, intsX b.term.cases, xLeaf o] :: .cells g5 38 [intsX b.params, inssX b.ins, .int b.term.kind, .int b.term.arg, .int b.term.n, intsX b.term.cases, edgesX b.term.to] :: .cells g3 31 [.int f.name, xLeaf out] :: .cells g2 31 VT.zs31 :: .cells g1 31 [.int f.name, blocksX f.blocks] :: (xOwn 38 o' ++ (xOwn 40 o ++ lOwn B))) VT.sl29 (by decide) rfl rfl (pullC ([.buf ti 42 4 b.ins.length, .cells g6 38 [intsX b.params, .sl 4 (some ti) (b.ins.map insV), .int b.term.kind, .int b.term.arg, .int b.term.n, intsX b.term.cases, xLeaf o], .cells g5 38 [intsX b.params, inssX b.ins, .int b.term.kind, .int b.term.arg, .int b.term.n, intsX b.term.cases, edgesX b.term.to], .cells g3 31 [.int f.name, xLeaf out], .cells g2 31 VT.zs31, .cells g1 31 [.int f.name, blocksX f.blocks]] ++ xOwn 40 o)) (fun o' => (pullC [.buf ti 42 4 b.ins.length, .cells g6 38 [intsX b.params, .sl 4 (some ti) (b.ins.map insV), .int b.term.kind, .int b.term.arg, .int b.term.n, intsX b.term.cases, xLeaf o], .cells g5 38 [intsX b.params, inssX b.ins, .int b.term.kind, .int b.term.arg, .int b.term.n, intsX b.term.cases, edgesX b.term.to], .cells g3 31 [.int f.name, xLeaf out], .cells g2 31 VT.zs31, .cells g1 31 [.int f.name, blocksX f.blocks]]).symm) huo (fun x hx => lb_7 B x (by rw [← hxu]; exact hx)) (fun _ => List.cons_ne_nil _ _) (by rw [hxu, Yb, hkl, List.length_singleton]; omega) (lb_flat ⟨b, o, ti⟩) (fun o79 e79_1 e79_2 e79_3 => ?_))
    refine Zc (Zj VT.fa31_1 rfl ?_)
    refine Zc (Zy 3 VT.ty29 rfl rfl (xLeaf_leaf _) rfl rfl ?_)
    refine Za (Zb1 (Zi ?_))
    refine VW_drops (S' := .cells g3 31 [.int f.name, xLeaf o79] :: .cells g2 31 VT.zs31 :: .cells g1 31 [.int f.name, blocksX f.blocks] :: (xOwn 38 o79 ++ lOwn (B ++ [⟨b, o, ti⟩]))) (by exact lown_snoc (l := [.cells g3 31 [.int f.name, xLeaf o79], .cells g2 31 VT.zs31, .cells g1 31 [.int f.name, blocksX f.blocks]]) (C := xOwn 38 o79) (B := B) (s := ⟨b, o, ti⟩)) ?_
    refine Zd ?_
    refine Zc (Zh2 rfl rfl (by omega) ?_)
    refine Zc (Zl rfl (Za (Zi ?_)))
    exact ⟨(k + 1, o79, B ++ [⟨b, o, ti⟩]), (by (try simp only []); omega), ⟨by omega, lbs_snoc hR hb, lok_snoc hLo ⟨hxo, hoo⟩, e79_1.trans (by rw [hxu, Ya]; rfl), e79_2⟩, ⟨rfl, rfl, rfl, rfl, rfl, rfl, trivial⟩, (Drops.keep (Drops.keep (Drops.keep (Zt2 _))))⟩
 ·
  have hke : k = f.blocks.length := by omega
  subst hke
  rw [Yc] at hR
  refine Zt (Ze1 (Ze1 (Zc1 (Zi (Zb (Zd (Zc (Zv 0 VT.ty31 rfl rfl rfl (Zc (Zx 1 VT.ty31 rfl rfl rfl rfl rfl (Za (Zi (Zf1 ?_)))))))))))))
  refine Zg1 rfl (.agg (i := 1) VT.ty31 rfl rfl rfl) ?_
  exact ⟨_, .drop (.drop (.drop (.refl _))), B, out, hR, hLo, hxu, huo, rfl, rfl⟩
set_option maxRecDepth 100000 in
theorem mvPIdx_c {l : List Mv} {tok : Option Tok} {p : Mv → Bool} {c : FuncId} {caps : List V} (hen : Go.VL.Enters Try.prog c) (hp : ∀ x ∈ l, VPure Try.prog c (mvV x :: caps) (.bool (p x))) : VPure Try.prog 63 [.sl 2 tok (l.map mvV), .clo (.func c) caps] (.int (idxOf p l)) := by
 refine V_start (nt := 19) Try.func63 rfl rfl rfl ?_
 refine Zb (Zd (Zc (Zk rfl (Za (Zi (Zb (Zb (Zd (Zc (Zl rfl ?_))))))))))
 refine Zc (Zd2 (n := l.length) Try.underlying85 rfl (by simp) (fun hl7 => ?_))
 refine Zc (Zl rfl (Za (Zi (Zs ?_))))
 refine Zi2 (ι := Nat) (fun k => l.length - k) (fun k => [(0, some (.sl 2 tok (l.map mvV))), (1, some (.clo (.func c) caps)), (7, some (.int l.length)), (8, some (.int k))]) (fun k => []) (fun k => k ≤ l.length ∧ (l.take k).any p = false) 0 ⟨Yf _, rfl⟩ ⟨rfl, rfl, rfl, rfl, trivial⟩ (Zt2 _) ?_
 rintro k hA
 change k ≤ l.length ∧ (l.take k).any p = false at hA
 obtain ⟨hk, hany⟩ := hA
 refine Zb (Zd (Zc (Zj1 rfl rfl rfl (Za (Zi (Zb ?_))))))
 refine Zn1 rfl (fun h9 => ?_) (fun h9 => ?_)
 ·
  obtain ⟨x, hr⟩ := get_of_lt l k h9
  refine Zi1 (Zi (Zb (Zs (Zb (Zd (Zc (Zl rfl (Zc (Zk rfl (Za (Zi (Zb (Zd (Zc (Zl rfl (Zc (Zl rfl (Zc (Zl rfl ?_)))))))))))))))))))
  refine Zc (Zz (el := mvV x) VT.sl85 rfl rfl (by omega) (get_mv hr) (fun a14 => ?_))
  refine Zc (Za2 VT.ty86 rfl rfl ?_)
  refine Zc (V_callCloP [.tmp 15] rfl rfl rfl hen (hp x (Yd hr)) ?_)
  refine Za (Zi ?_)
  refine Zr1 rfl (fun h16 => ?_) (fun h16 => ?_)
  ·
   refine Zb (Zd (Zc (Zl rfl (Zc (Zk rfl (Za (Zi (Zf1 ?_))))))))
   refine Za1 (Zd1 (Zd1 (Za1 (Zd1 (Zg1 rfl (.tmp rfl) ?_)))))
   rw [idxOf_at p hr hany h16]
  ·
   refine Zi1 (Zb1 (Zi (Zd ?_)))
   refine Zc (Zh2 rfl rfl (by omega) ?_)
   refine Zc (Zl rfl (Za (Zi ?_)))
   exact ⟨k + 1, (by (try simp only []); omega), ⟨by omega, any_snoc hr hany h16⟩, ⟨rfl, rfl, rfl, rfl, trivial⟩, (Drops.nil _)⟩
 ·
  have hke : k = l.length := by omega
  subst hke
  rw [Yc] at hany
  refine Zt (Ze1 (Ze1 (Zc1 (Zi (Zb (Zd (Zc (Zk rfl (Za (Zi (Zf1 ?_)))))))))))
  refine Zg1 rfl (.tmp rfl) ?_
  rw [idxOf_none p hany]
set_option maxRecDepth 100000 in
theorem mvPClone_c (l : List Mv) (hl : l.length ≤ 1000000) : VPure Try.prog 61 [.sl 2 none (l.map mvV)] (.sl 2 none (l.map mvV)) := by
 refine V_start (nt := 8) Try.func61 rfl rfl rfl ?_
 refine Zb (Zd (Zc (Zk rfl (Za (Zi (Zb (Zb (Zd (Zc (Zl rfl ?_))))))))))
 refine Zc (V_eqNil Try.underlying85 rfl (fun b4 hb4 => ?_))
 refine Za (Zi ?_)
 refine Zr1 rfl (fun h4 => ?_) (fun h4 => ?_)
 ·
  have hn : l = [] := by simpa using hb4 h4
  subst hn
  refine Zb (Zd ?_)
  refine Zc (Zu2 (Zk rfl ⟨rfl, rfl⟩) (V.le.nil 2) ?_)
  refine Za (Zi (Zf1 ?_))
  refine Zd1 (Zg1 rfl (.strip rfl) ?_)
  rfl
 ·
  refine Zi1 (Zi (Zb (Zd ?_)))
  refine Zc (V_litTok [] VT.sl85 rfl rfl rfl rfl rfl (fun t5 => ?_))
  refine Zc (Zl rfl ?_)
  refine Zc (Zi3 0 _ VT.sl85 rfl rfl rfl (by simp) (by simp; omega) (fun t7 => ?_))
  refine Zc (Zk rfl (Za (Zi (Zf1 ?_))))
  refine Zg1 rfl (.strip rfl) ?_
  rfl
set_option maxRecDepth 100000 in
theorem mvDel0_c {c : FuncId} {caps : List V} (hen : Go.VL.Enters Try.prog c) : VPure Try.prog 60 [mvsX [], .clo (.func c) caps] (mvsX []) := by
 refine V_start (nt := 42) Try.func60 rfl rfl rfl ?_
 refine Zb (Zd (Zc (Zk rfl (Za (Zi (Zb (Zd (Zc (Zl rfl (Zc (Zl rfl ?_)))))))))))
 refine Zc (Zu2 (Zx1 [.tmp 8, .tmp 9] rfl rfl VT.en63 (mvPIdx_c (l := []) (tok := none) (p := fun _ => true) hen (fun x hx => by cases hx)) ⟨rfl, rfl⟩) ((V.le.of_eq rfl : V.le _ (.int (-1)))) ?_)
 refine Zc (Zk rfl (Za (Zi (Zb (Zb (Zd (Zc (Zl rfl (Zc (Zj1 rfl rfl rfl (Za (Zi ?_))))))))))))
 refine Zl1 rfl (fun h12 => ?_) (fun h12 => ?_)
 ·
  refine Zb (Zd (Zc (Zl rfl (Zc (Zk rfl (Za (Zi (Zf1 ?_))))))))
  refine Zd1 (Zg1 rfl (.tmp rfl) ?_)
  rfl
 · exact absurd rfl h12
set_option maxRecDepth 100000 in
set_option maxHeartbeats 8000000 in
theorem SeqNil_c (spare : Int) : VPure Try.prog 42 [mvsX [], .int spare] (.tup [mvsX [], .int 0]) := by
 refine V_start (nt := 99) Try.func42 rfl rfl rfl ?_
 refine Zb (Zd (Zc (Zk rfl (Zc (Zk rfl (Za (Zi (Zb (Zb (Zd (Zc (Zl rfl ?_))))))))))))
 refine Zc (Zd2 (n := 0) Try.underlying85 rfl (by simp) (fun hl14 => ?_))
 refine Zc (Zl rfl (Za (Zi (Zs ?_))))
 refine Zi2 (ι := Nat) (fun k => 0 - k) (fun k => [(0, some (mvsX [])), (1, some (.int spare)), (13, some (mvsX [])), (14, some (.int (0 : Nat))), (15, some (.int k))]) (fun k => []) (fun k => k = 0) 0 rfl ⟨rfl, rfl, rfl, rfl, rfl, trivial⟩ (Drops.nil _) ?_
 rintro k hk0
 change k = 0 at hk0
 refine Zb (Zd (Zc (Zj1 rfl rfl rfl (Za (Zi (Zb ?_))))))
 refine Zn1 rfl (fun h16 => ?_) (fun h16 => ?_)
 · exact absurd h16 (by omega)
 ·
  refine Zt (Ze1 (Ze1 (Zc1 (Zi (Zb (Zd (Zc (Zl rfl ?_))))))))
  refine Zc (Zx1 [.tmp 47] rfl rfl VT.en61 (mvPClone_c [] (by simp)) ?_)
  refine Zc (Zx1 [.tmp 48, .func 62] rfl rfl VT.en60 (mvDel0_c VT.en62) ?_)
  refine Zc (Zb2 VT.zr85 _ rfl rfl (fun g8 => ?_))
  refine Zc (Zy 0 VT.ty85 rfl rfl rfl rfl rfl (Za (Zi (Zb (Zd (Zc (V_assign_nil 86 2 (Za (Zi (Zb (Zs ?_)))))))))))
  refine Zi2 (ι := Nat) (fun k => 0 - k) (fun k => [(1, some (.int spare)), (8, some (.ptr g8 0)), (9, some (.sl 2 (some .nil) []))]) (fun k => [.buf .nil 86 2 0, .cells g8 85 [mvsX []]]) (fun k => k = 0) 0 rfl ⟨rfl, rfl, rfl, trivial⟩ (Drops.buf (by simp) (Drops.keep (Zt2 _))) ?_
  rintro k hk0
  change k = 0 at hk0
  refine Zb (Zb (Zd (Zc (Zu 1 VT.ty85 rfl rfl rfl ?_))))
  refine Zc (Zd2 (n := 0) Try.underlying85 rfl (by simp) (fun hl51 => ?_))
  refine Zc (Zj1 rfl rfl rfl (Za (Zi ?_)))
  refine Zn1 rfl (fun h52 => ?_) (fun h52 => ?_)
  · exact absurd h52 (by omega)
  ·
   refine Zt (Ze1 (Ze1 (Zc1 (Zi (Zb (Zd ?_))))))
   refine Zc (Zu2 (Zl rfl ⟨rfl, rfl⟩) ((V.le.strip : V.le (.sl 2 (some _) _) (.sl 2 none _))) ?_)
   refine Zc (Zk rfl (Zc (Zk rfl (Za (Zi (Zf1 ?_))))))
   refine Zh1 rfl rfl (.cons (.tmp rfl) (.cons (.tmp rfl) (.nil))) ?_
   rfl
theorem seq_any (l : List Mv) (spare : Int) (hl : l.length ≤ 10000) : VPure Try.prog 42 [mvsX l, .int spare] (.tup [mvsX (seqF l spare).1, .int (seqF l spare).2]) := by
  by_cases h : l = []
  · subst h
    exact SeqNil_c spare
  · exact Sequence_c l spare h hl
set_option maxRecDepth 100000 in
set_option maxHeartbeats 8000000 in
theorem copies_c {f : SFunc} {e : SEdge} (sp : Int) {c : SBlock} (hc : f.blocks[e.block.toNat]? = some c) (h0 : 0 ≤ e.block) (ha : e.args.length = c.params.length) (hp : c.params.length ≤ 10000) : VList Try.prog 28 [funcV f, edgeV e, .int sp] 42 4 ((copiesF f.blocks e sp).map insV) := by
 unfold VList
 refine VCalls_drops ?_
 have hM : movesOf f.blocks e = (c.params.zip e.args) := by unfold movesOf; rw [paramsOf_get hc]
 have hC : copiesF f.blocks e sp = (seqF (c.params.zip e.args) sp).1.map mvI := by unfold copiesF; rw [hM]
 have hZl : (c.params.zip e.args).length = c.params.length := by rw [List.length_zip]; omega
 have hQl : (seqF (c.params.zip e.args) sp).1.length ≤ 20000 := by have h9 := seqF_len (c.params.zip e.args) sp; omega
 refine V_start (nt := 60) Try.func28 rfl rfl rfl ?_
 refine Zb (Zd ?_)
 refine Zc (Zc2 rfl rfl (fun g3 => ?_))
 refine Zc (Zc2 rfl rfl (fun g4 => ?_))
 refine Zc (Zk rfl (Za (Zi (Zb (Zd (Zc (V_assign_nil 86 2 (Za (Zi (Zb (Zb (Zd (Zc (Zj VT.fa31_1 rfl (Zc (Zu 2 VT.ty29 rfl rfl rfl (Zc (Zj VT.fa40_0 rfl (Zc (Zu 1 VT.ty3 rfl rfl rfl ?_))))))))))))))))))))
 refine Zc (Zz (el := blockV c) VT.sl29 rfl rfl (by omega) (get_mapS _ hc) (fun a17 => ?_))
 refine Zc (Zw1 VT.fa38_0 rfl rfl (Zc (Zz1 VT.ty32 rfl rfl ?_)))
 refine Zc (Zd2 (n := c.params.length) Try.underlying32 rfl (by simp) (fun hl20 => ?_))
 refine Zc (Zl rfl (Za (Zi (Zs ?_))))
 refine Zi2 (ι := Nat × Tok) (fun (k, tok) => c.params.length - k) (fun (k, tok) => [(2, some (.int sp)), (3, some (.ptr g3 0)), (4, some (.ptr g4 0)), (7, some (.sl 2 (some tok) (((c.params.zip e.args).take k).map mvV))), (19, some (intsX c.params)), (20, some (.int c.params.length)), (21, some (.int k))]) (fun (k, tok) => [.buf tok 86 2 k, .cells g4 40 [.int e.block, intsX e.args], .cells g3 31 [.int f.name, blocksX f.blocks]]) (fun (k, tok) => k ≤ c.params.length) (0, .nil) (Yf _) ⟨rfl, rfl, rfl, rfl, rfl, rfl, rfl, trivial⟩ (Drops.buf (by simp) (Drops.keep (Drops.keep (Zt2 _)))) ?_
 rintro ⟨k, tok⟩ hk
 change k ≤ c.params.length at hk
 refine Zb (Zd (Zc (Zj1 rfl rfl rfl (Za (Zi (Zb ?_))))))
 refine Zn1 rfl (fun h22 => ?_) (fun h22 => ?_)
 ·
  obtain ⟨v, hv⟩ := get_of_lt c.params k h22
  obtain ⟨a, hav⟩ := get_of_lt e.args k (by omega)
  refine Zi1 (Zi (Zb (Zs (Zb (Zd (Zc (Zl rfl ?_)))))))
  refine Zc (Zz (el := V.int v) VT.sl32 rfl rfl (by omega) (get_int hv) (fun a24 => ?_))
  refine Zc (Zz1 VT.ty3 rfl rfl (Zc (Zk rfl (Zc (Zk rfl (Za (Zi (Zd (Zc (Zl rfl (Zc (Zl rfl (Zc (Zj VT.fa40_1 rfl (Zc (Zu 1 VT.ty32 rfl rfl rfl (Zc (Zl rfl ?_))))))))))))))))))
  refine Zc (Zz (el := V.int a) VT.sl32 rfl rfl (by omega) (get_int hav) (fun a31 => ?_))
  refine Zc (Zz1 VT.ty3 rfl rfl ?_)
  refine Zc (Zu2 (V_buildArr [0, 1] [.tmp 27, .tmp 32] VT.at86 rfl rfl rfl rfl ⟨rfl, rfl⟩) ((V.le.refl _ : V.le _ (mvV (v, a)))) ?_)
  refine Zc (Zk3 [.tmp 33] VT.sl85 rfl rfl rfl rfl rfl ?_)
  refine Zc (Zi3 0 _ VT.sl85 rfl rfl rfl (by simp; omega) (by simp; omega) (fun t35 => ?_))
  refine Zc (Zk rfl (Za (Zb1 (Zi (Zd ?_)))))
  refine Zc (Zh2 rfl rfl (by omega) ?_)
  refine Zc (Zl rfl (Za (Zi ?_)))
  exact ⟨(k + 1, t35), (by (try simp only []); omega), (by omega), ⟨rfl, rfl, rfl, (by rw [moves_take hc hv hav, Ya]; rfl), rfl, rfl, rfl, trivial⟩, (Drops.buf (by simp; omega) (Drops.keep (Drops.keep (Zt2 _))))⟩
 ·
  have hke : k = c.params.length := by omega
  have htk : (c.params.zip e.args).take k = (c.params.zip e.args) := List.take_of_length_le (by omega)
  refine Zt (Ze1 (Ze1 (Zc1 (Zi (Zb (Zd ?_))))))
  refine Zc (Zu2 (Zl rfl ⟨rfl, rfl⟩) ((by rw [htk]; exact V.le.strip : V.le _ (mvsX (c.params.zip e.args)))) ?_)
  refine Zc (Zl rfl ?_)
  refine Zc (Zx1 [.tmp 38, .tmp 39] rfl rfl VT.en42 (seq_any (c.params.zip e.args) sp (by omega)) ?_)
  refine Zc (Zl rfl (Zc (Zg2 rfl rfl (Zc (Zg2 rfl rfl (Zc (Zk rfl (Za (Zi (Zb (Zd (Zc (V_assign_nil 42 4 (Za (Zi (Zb (Zb (Zd (Zc (Zl rfl ?_))))))))))))))))))))
  refine Zc (Zd2 (n := (seqF (c.params.zip e.args) sp).1.length) Try.underlying85 rfl (by simp) (fun hl44 => ?_))
  refine Zc (Zl rfl (Za (Zi (Zs ?_))))
  refine Zi2 (ι := Nat × Tok) (fun (j, tok2) => (seqF (c.params.zip e.args) sp).1.length - j) (fun (j, tok2) => [(10, some (.sl 4 (some tok2) ((((seqF (c.params.zip e.args) sp).1.take j).map mvI).map insV))), (43, some (mvsX (seqF (c.params.zip e.args) sp).1)), (44, some (.int (seqF (c.params.zip e.args) sp).1.length)), (45, some (.int j))]) (fun (j, tok2) => [.buf tok2 42 4 j]) (fun (j, tok2) => j ≤ (seqF (c.params.zip e.args) sp).1.length) (0, .nil) (Yf _) ⟨rfl, rfl, rfl, rfl, trivial⟩ (Drops.buf (by simp) (Drops.drop (Drops.drop (Drops.drop (Zt2 _))))) ?_
  rintro ⟨j, tok2⟩ hj
  change j ≤ (seqF (c.params.zip e.args) sp).1.length at hj
  refine Zb (Zd (Zc (Zj1 rfl rfl rfl (Za (Zi (Zb ?_))))))
  refine Zn1 rfl (fun h46 => ?_) (fun h46 => ?_)
  ·
   obtain ⟨x, hx⟩ := get_of_lt (seqF (c.params.zip e.args) sp).1 j h46
   refine Zi1 (Zi (Zb (Zs (Zb (Zd ?_)))))
   refine Zc (Zz (el := mvV x) VT.sl85 rfl rfl (by omega) (get_mv hx) (fun a47 => ?_))
   refine Zc (Za2 VT.ty86 rfl rfl ?_)
   refine Zc (Zb2 VT.zr86 _ rfl rfl (fun g12 => ?_))
   refine Zc (Zx 0 VT.ty86 rfl rfl rfl rfl rfl (Za (Zi (Zd (Zc (Zl rfl ?_))))))
   refine Zc (V_indexAddr_arr Try.underlying86 VT.se86 rfl rfl (by omega) (by omega) ?_)
   refine Zc (Zu 0 VT.ty3 rfl rfl rfl ?_)
   refine Zc (V_indexAddr_arr Try.underlying86 VT.se86 rfl rfl (by omega) (by omega) ?_)
   refine Zc (Zu 0 VT.ty3 rfl rfl rfl ?_)
   refine Zc (Zk3 [.tmp 53] VT.sl32 rfl rfl rfl rfl rfl ?_)
   refine Zc (Zu2 (Zf2 [0, 1, 3] [.tmp 51, .const (.int .i64 (100)), .tmp 54] VT.st42 rfl rfl rfl rfl ⟨rfl, rfl⟩) ((V.le.refl _ : V.le _ (insV (mvI x)))) ?_)
   refine Zc (Zk3 [.tmp 55] VT.sl33 rfl rfl rfl rfl rfl ?_)
   refine Zc (Zi3 1 _ VT.sl33 rfl rfl rfl (by simp; omega) (by simp; omega) (fun t57 => ?_))
   refine Zc (Zk rfl (Za (Zb1 (Zi (Zd ?_)))))
   refine Zc (Zh2 rfl rfl (by omega) ?_)
   refine Zc (Zl rfl (Za (Zi ?_)))
   exact ⟨(j + 1, t57), (by (try simp only []); omega), (by omega), ⟨(by rw [take_snoc hx, Ya, Ya]; rfl), rfl, rfl, rfl, trivial⟩, (Drops.drop (Drops.buf (by simp; omega) (Zt2 _)))⟩
  ·
   refine Zt (Ze1 (Ze1 (Zc1 (Zi (Zb (Zd (Zc (Zl rfl (Zc (Zk rfl (Za (Zi (Zf1 ?_)))))))))))))
   refine Zg1 rfl (.tmp rfl) ?_
   have hje : j = (seqF (c.params.zip e.args) sp).1.length := by omega
   rw [hC]
   exact ⟨_, Zt2 _, tok2, by rw [hje, Yc], by rw [hje, Yb, Yb]⟩
end Go.Proofs.Ytigkaadmobgfnaa.X38
