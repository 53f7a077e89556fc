import Derived.Test.YtjekhhgjfelpgaaVT
import Derived.Test.YtjekhhgjfelpgaaS2
import Derived.Test.YtjekhhgjfelpgaaVO
import Derived.Test.YtjekhhgjfelpgaaDZ
import Derived.Test.YtjekhhgjfelpgaaX1
import Derived.Test.YtjekhhgjfelpgaaX2
import Derived.Test.YtjekhhgjfelpgaaX3
import Derived.Test.YtjekhhgjfelpgaaX4
import Derived.Test.YtjekhhgjfelpgaaX5
import Derived.Test.YtjekhhgjfelpgaaX6
import Derived.Test.YtjekhhgjfelpgaaX7
import Derived.Test.YtjekhhgjfelpgaaX8
import Derived.Test.YtjekhhgjfelpgaaX9
import Derived.Test.YtjekhhgjfelpgaaX10
import Derived.Test.YtjekhhgjfelpgaaXS
import Derived.Test.YtjekhhgjfelpgaaX12
import Derived.Test.YtjekhhgjfelpgaaX13
import Derived.Test.YtjekhhgjfelpgaaX20
import Derived.Test.YtjekhhgjfelpgaaX25
import Derived.Test.YtjekhhgjfelpgaaX26
set_option linter.unusedVariables false
set_option linter.unusedSimpArgs false
namespace Go.Proofs.Ytjekhhgjfelpgaa.X34
open Go.VL Go.SM Go.Proofs.Ytjekhhgjfelpgaa Go.Proofs.Ytjekhhgjfelpgaa.X1 Go.Proofs.Ytjekhhgjfelpgaa.X2 Go.Proofs.Ytjekhhgjfelpgaa.X3 Go.Proofs.Ytjekhhgjfelpgaa.X4 Go.Proofs.Ytjekhhgjfelpgaa.X5 Go.Proofs.Ytjekhhgjfelpgaa.X6 Go.Proofs.Ytjekhhgjfelpgaa.X7 Go.Proofs.Ytjekhhgjfelpgaa.X8 Go.Proofs.Ytjekhhgjfelpgaa.X9 Go.Proofs.Ytjekhhgjfelpgaa.X10 Go.Proofs.Ytjekhhgjfelpgaa.XS Go.Proofs.Ytjekhhgjfelpgaa.X12 Go.Proofs.Ytjekhhgjfelpgaa.X13 Go.Proofs.Ytjekhhgjfelpgaa.X20 Go.Proofs.Ytjekhhgjfelpgaa.X25 Go.Proofs.Ytjekhhgjfelpgaa.X26
open Go.VL renaming VOps_nil → Za, VW_seq → Zb, VW_region → Zd, Needs_nil → Ze, Then_n → Zi, V_fieldAddr → Zj, V_move → Zl, eqRes → Zm, vopT → Zn, goodS → Zo, VW_block → Zs, VW_exit → Zt, V_load → Zu, V_load_agg → Zv, V_store_agg → Zx, V_store → Zy, V_indexAddr → Zz, InBlock_n → Zb1, InBlock_hit → Zc1, Then_e → Ze1, VW_ret → Zf1, VRet_one → Zg1, VW_skip → Zi1, V_bin → Zj1, VW_condP → Zn1, V_load_ep_agg → Za2, V_alloc → Zb2, V_box → Zc2, V_lenN → Zd2, V_build → Zf2, V_add → Zh2, VW_loopF → Zi2, goodA → Zm2, goodU → Zo2, evs_cons → Zp2, evs_nil → Zq2, Drops.refl → Zt2, oneRes → Zw2, oneE → Zx2, anyRes → Za3, oneY → Zd3, V_appendN → Zi3, V_lit → Zk3
open Classical in
noncomputable def nrmR (bs : List SBlock) (rows : List (Option XRow)) : List (Option XRow) := if RowsOk bs rows then rows else bs.map fun b => some ⟨0, b.term.to.length, b.term.to.map edgeV, []⟩
theorem zip_cp (bs : List SBlock) (rows : List (Option XRow)) : cpL bs rows = (bs.zip rows).map fun x => cpV x.1 x.2 := by
  unfold cpL
  rw [List.zip, List.map_zipWith]
theorem zip_ok {bs : List SBlock} {rows : List (Option XRow)} (h : RowsOk bs rows) : ∀ x ∈ bs.zip rows, xl x.2 = x.1.term.to.map edgeV ∧ xOk 2 x.2 := fun x hx => by
  obtain ⟨v, hv⟩ := List.getElem?_of_mem hx
  obtain ⟨b, o⟩ := x
  obtain ⟨h1, h2⟩ := List.getElem?_zip_eq_some.1 hv
  exact h.row v b o h1 h2
theorem blocks_7 (bs : List SBlock) : ∀ x ∈ bs.map blockV, x.leaves.length = 7 := fun x hx => by
  obtain ⟨b, _, rfl⟩ := List.mem_map.1 hx
  rfl
instance : Inhabited XRow := ⟨⟨0, 0, [], []⟩⟩
def BRow (f : SFunc) (o : XRow) : Prop := o.xs = f.blocks.map blockV ∧ xOk 7 (some o)
theorem brow_of {f : SFunc} {rows : List (Option XRow)} {r : XRow} (hR : RowsOk f.blocks rows) (hx : r.xs = cpL f.blocks rows) (h : xOk 7 (some r)) : BRow f ⟨r.g, r.cap, f.blocks.map blockV, r.rest⟩ := by
  obtain ⟨h1, h2, h3⟩ := h
  rw [hx] at h1 h3
  have hl := cpL_len hR
  rw [List.length_append, flat_len (cpL_7 rfl), hl] at h3
  refine ⟨rfl, by show (f.blocks.map blockV).length ≤ r.cap; rw [List.length_map]; omega, h2, ?_⟩
  show ((f.blocks.map blockV).flatMap V.leaves ++ r.rest).length = r.cap * 7
  rw [List.length_append, flat_len (blocks_7 _), List.length_map]
  exact h3
def cxV (f : SFunc) (o : XRow) : V := .agg [.int f.name, xLeaf (some o)]
def cxL (fs : List SFunc) (Os : List XRow) : List V := List.zipWith cxV fs Os
abbrev bOwn (Os : List XRow) : Store := Os.flatMap fun o => xOwn 48 (some o)
def BRows (fs : List SFunc) (Os : List XRow) : Prop := Os.length = fs.length ∧ ∀ (k : Nat) (f : SFunc) (o : XRow), fs[k]? = some f → Os[k]? = some o → BRow f o
open Classical in
noncomputable def nrmB (f : SFunc) (o : XRow) : XRow := if BRow f o then o else ⟨0, f.blocks.length, f.blocks.map blockV, []⟩
theorem nrmB_eq {f : SFunc} {o : XRow} (h : BRow f o) : nrmB f o = o := if_pos h
theorem nrmB_ok {f : SFunc} (hm : f.blocks.length ≤ 1000) (o : XRow) : BRow f (nrmB f o) := by
  unfold nrmB
  split
  · assumption
  · refine ⟨rfl, by show (f.blocks.map blockV).length ≤ f.blocks.length; rw [List.length_map]; exact Nat.le_refl _, by show f.blocks.length ≤ maxLen; simp only [maxLen]; omega, ?_⟩
    show ((f.blocks.map blockV).flatMap V.leaves ++ []).length = f.blocks.length * 7
    rw [List.append_nil, flat_len (blocks_7 _), List.length_map]
theorem brows_nil : BRows [] [] := ⟨rfl, fun k f o h => by simp at h⟩
theorem brows_snoc {fs : List SFunc} {Os : List XRow} {k : Nat} {f : SFunc} {o : XRow} (h : BRows (fs.take k) Os) (hf : fs[k]? = some f) (hr : BRow f o) : BRows (fs.take (k + 1)) (Os ++ [o]) := by
  obtain ⟨h1, h2⟩ := h
  rw [take_snoc hf]
  refine ⟨by rw [List.length_append, List.length_append, h1]; rfl, fun j g R hg hR => ?_⟩
  by_cases hj : j < Os.length
  · rw [List.getElem?_append_left hj] at hR
    rw [List.getElem?_append_left (by rw [← h1]; exact hj)] at hg
    exact h2 j g R hg hR
  · rw [List.getElem?_append_right (by omega)] at hR
    rw [List.getElem?_append_right (by rw [← h1]; omega), ← h1] at hg
    have hj0 : j - Os.length = 0 := by
      have := (List.getElem?_eq_some_iff.1 hR).1
      simp at this
      omega
    rw [hj0] at hg hR
    have hg : f = g := by simpa using hg
    have hR : o = R := by simpa using hR
    subst hg hR
    exact hr
theorem cxL_snoc {fs : List SFunc} {Os : List XRow} {k : Nat} {f : SFunc} {o : XRow} (h : BRows (fs.take k) Os) (hf : fs[k]? = some f) : cxL (fs.take k) Os ++ [cxV f o] = cxL (fs.take (k + 1)) (Os ++ [o]) := by
  unfold cxL
  rw [take_snoc hf, List.zipWith_append h.1.symm]
  rfl
theorem cxL_len {fs : List SFunc} {Os : List XRow} (h : BRows fs Os) : (cxL fs Os).length = fs.length := by
  unfold cxL
  rw [List.length_zipWith, h.1, Nat.min_self]
theorem cxL_get {fs : List SFunc} {Os : List XRow} {k : Nat} {f : SFunc} {o : XRow} (hf : fs[k]? = some f) (ho : Os[k]? = some o) : (cxL fs Os)[k]? = some (cxV f o) := by
  unfold cxL
  rw [List.getElem?_zipWith, hf, ho]
theorem bown_snoc (Os : List XRow) (o : XRow) : bOwn (Os ++ [o]) = bOwn Os ++ xOwn 48 (some o) := by
  unfold bOwn
  rw [List.flatMap_append, List.flatMap_singleton]
set_option maxRecDepth 100000 in
set_option maxHeartbeats 16000000 in
theorem CopyFuncF_c {f : SFunc} (hc : CpOk f) (hne : 0 < f.blocks.length) : VCalls Try.prog 14 [funcV f] [] fun r S' => ∃ o : XRow, BRow f o ∧ r = cxV f o ∧ S' = xOwn 48 (some o) := by
 refine VCalls_drops ?_
 have hmany := hc.many
 refine V_start (nt := 87) Try.func14 rfl rfl rfl ?_
 refine Zb (Zd ?_)
 refine Zc (Zc2 rfl rfl (fun g1 => ?_))
 refine Zc (Zb2 VT.zr36 _ rfl rfl (fun g2 => ?_))
 refine Za (Zi (Zb (Zd (Zc (Zj VT.fa36_0 rfl (Zc (Zu 1 VT.ty3 rfl rfl rfl ?_)))))))
 refine Zc (Zf2 [0] [.tmp 12] VT.st36 rfl rfl rfl rfl ?_)
 refine Zc (Zb2 VT.zr36 _ rfl rfl (fun g3 => ?_))
 refine Zc (Zx 0 VT.ty36 rfl rfl rfl rfl rfl (Za (Zi (Zb (Zb (Zd (Zc (Zj VT.fa36_1 rfl (Zc (Zu 2 VT.ty34 rfl rfl rfl ?_))))))))))
 refine Zc (Zd2 (n := f.blocks.length) Try.underlying34 rfl (by simp) (fun hl16 => ?_))
 refine Zc (Zl rfl (Za (Zi (Zs ?_))))
 refine Zi2 (ι := Nat × Option XRow × List (Option XRow)) (fun (k, out, rows) => f.blocks.length - k) (fun (k, out, rows) => [(1, some (.ptr g1 0)), (2, some (.ptr g2 0)), (3, some (.ptr g3 0)), (15, some (blocksX f.blocks)), (16, some (.int f.blocks.length)), (17, some (.int k))]) (fun (k, out, rows) => .cells g3 36 [.int f.name, xLeaf out] :: .cells g2 36 VT.zs36 :: .cells g1 36 [.int f.name, blocksX f.blocks] :: (xOwn 48 out ++ eOwn rows)) (fun (k, out, rows) => k ≤ f.blocks.length ∧ RowsOk (f.blocks.take k) rows ∧ xl out = cpL (f.blocks.take k) rows ∧ xOk 7 out) (0, none, []) ⟨Nat.zero_le _, rows_nil, rfl, trivial⟩ ⟨rfl, rfl, rfl, rfl, rfl, rfl, trivial⟩ (Zt2 _) ?_
 rintro ⟨k, out, rows⟩ hA
 change k ≤ f.blocks.length ∧ RowsOk (f.blocks.take k) rows ∧ xl out = cpL (f.blocks.take k) rows ∧ xOk 7 out at hA
 obtain ⟨hk, hR, hxu, huo⟩ := hA
 refine Zb (Zd (Zc (Zj1 rfl rfl rfl (Za (Zi (Zb ?_))))))
 refine Zn1 rfl (fun h18 => ?_) (fun h18 => ?_)
 ·
  obtain ⟨b, hb⟩ := get_of_lt f.blocks k h18
  obtain ⟨c1, c2, c3, c4, c5, c6⟩ := hc.block b (List.mem_of_getElem? hb)
  have hkl : (cpL (f.blocks.take k) rows).length = k := by rw [cpL_len hR, List.length_take]; omega
  refine Zi1 (Zi (Zb (Zs (Zb (Zd ?_)))))
  refine Zc (Zz (el := blockV b) VT.sl34 rfl rfl (by omega) (get_mapS _ hb) (fun a19 => ?_))
  refine Zc (Za2 VT.ty48 rfl rfl ?_)
  refine Zc (Zb2 VT.zr48 _ rfl rfl (fun g5 => ?_))
  refine Zc (Zx 0 VT.ty48 rfl rfl rfl rfl rfl (Za (Zi (Zb ?_))))
  refine VW_drawR (G := Nat) [([], [], []), ([], [5], []), ([1], [22], []), ([2, 1, 0], [21, 23], []), ([], [5], []), ([4], [25], []), (dn 6, [24, 26], []), ([], [], [0]), (dn 8, [6, 27], [])] [7, 8] (twoSt _ (fun x => .cells x 48 VT.zs48 :: .cells g5 48 [intsX b.params, inssX b.ins, .int b.term.kind, .int b.term.arg, .int b.term.n, intsX b.term.cases, edgesX b.term.to] :: .cells g3 36 [.int f.name, xLeaf out] :: .cells g2 36 VT.zs36 :: .cells g1 36 [.int f.name, blocksX f.blocks] :: (xOwn 48 out ++ eOwn rows)) (fun x _ => .cells x 48 [intsX b.params, V.nilSl, .int b.term.kind, .int b.term.arg, .int b.term.n, intsX b.term.cases, edgesX b.term.to] :: .cells g5 48 [intsX b.params, inssX b.ins, .int b.term.kind, .int b.term.arg, .int b.term.n, intsX b.term.cases, edgesX b.term.to] :: .cells g3 36 [.int f.name, xLeaf out] :: .cells g2 36 VT.zs36 :: .cells g1 36 [.int f.name, blocksX f.blocks] :: (xOwn 48 out ++ eOwn rows))) [6] [6, 21, 22, 23, 24, 25, 26, 27] rfl VT.mix ?_
  refine Zp (Zm _) (Zo rfl rfl ⟨(fun γ => Ze (Zn rfl (V_lit0 [] VT.sl26 rfl rfl rfl Zq2 rfl rfl ⟨rfl, rfl⟩))), (fun γ => Ze (Zn rfl (V_lit0 [] VT.sl26 rfl rfl rfl Zq2 rfl rfl ⟨rfl, rfl⟩))), trivial⟩) ?_
  refine Zp (Zm _) (Zm2 rfl (fun _ => (fun γ => Zf (fun _ h5 => Ze (Zn rfl (Zj VT.fa48_0 h5 ⟨rfl, rfl⟩)))))) ?_
  refine Zp (Zm _) (Zo rfl rfl ⟨(fun γ => Zw 1 0 rfl (fun _ h22 => Ze (Zn rfl (Zu 0 VT.ty26 h22 rfl rfl ⟨rfl, rfl⟩)))), (fun γ => Zw 1 0 rfl (fun _ h22 => Ze (Zn rfl (Zu 1 VT.ty26 h22 rfl rfl ⟨rfl, rfl⟩)))), trivial⟩) ?_
  refine Zp (Zm _) (Zo rfl rfl ⟨(fun γ => Zw 0 2 rfl (fun _ h21 => Zw 2 0 rfl (fun _ h23 => Ze (Zn rfl (V_append0D VT.sl26 h21 h23 (by rw [List.length_map]; omega) ⟨rfl, rfl⟩))))), (fun γ => Zw 0 2 rfl (fun _ h21 => Zw 2 0 rfl (fun _ h23 => Ze (Zn rfl (V_append0D VT.sl26 h21 h23 (by rw [List.length_map]; omega) ⟨rfl, rfl⟩))))), trivial⟩) ?_
  refine Zp (Zm _) (Zm2 rfl (fun _ => (fun γ => Zf (fun _ h5 => Ze (Zn rfl (Zj VT.fa48_2 h5 ⟨rfl, rfl⟩)))))) ?_
  refine Zp (Zm _) (Zo rfl rfl ⟨(fun γ => Zw 4 0 rfl (fun _ h25 => Ze (Zn rfl (Zv 0 VT.ty46 h25 rfl rfl ⟨rfl, rfl⟩)))), (fun γ => Zw 4 0 rfl (fun _ h25 => Ze (Zn rfl (Zv 1 VT.ty46 h25 rfl rfl ⟨rfl, rfl⟩)))), trivial⟩) ?_
  refine Zp (Zm _) (Zm2 rfl (fun _ => (fun γ => Zw 3 2 rfl (fun _ h24 => Zw 5 0 rfl (fun _ h26 => Ze (Zn rfl (Zf2 [0, 2] [.tmp 24, .tmp 26] VT.st48 rfl rfl (Zp2 h24 (Zp2 h26 Zq2)) rfl ⟨rfl, rfl⟩))))))) ?_
  refine Zp (Zw2 (fun g => .ptr g 0)) (Zo2 0 rfl (fun γ => Ze (Zn rfl (Zb2 VT.zr48 _ rfl rfl (fun g6 => ⟨g6, ⟨g6, rfl, rfl⟩, rfl⟩))))) ?_
  refine Zp Za3 (Zo2 1 rfl (fun γ => Zw 7 0 rfl (fun _ h6 => Zw 6 1 rfl (fun _ h27 => Ze (Zx2 h6 (fun e6 => Zn rfl (Zx 0 VT.ty48 e6 h27 rfl rfl rfl ⟨default, trivial, rfl⟩))))))) ?_
  refine DrawP_nil (fun γ => Zw 7 1 rfl (fun r6 h6 => Ze ?_))
  have e6 : r6 = some _ := Zd3 h6
  subst e6
  clear h6
  refine Zi ?_
  refine VW_cells 0 (ls' := [intsX b.params, .sl 4 (some .nil) [], .int b.term.kind, .int b.term.arg, .int b.term.n, intsX b.term.cases, edgesX b.term.to]) rfl ⟨V.le.refl _, rfl, V.le.nilTok 4, rfl, V.le.refl _, rfl, V.le.refl _, rfl, V.le.refl _, rfl, V.le.refl _, rfl, V.le.refl _, rfl, trivial⟩ ?_
  refine VW_nilBuf 50 4 ?_
  generalize hg6 : γ 0 = g6
  refine Zb (Zb (Zd (Zc (Zj VT.fa48_1 rfl (Zc (Zu 2 VT.ty43 rfl rfl rfl ?_))))))
  refine Zc (Zd2 (n := b.ins.length) Try.underlying43 rfl (by simp) (fun hl30 => ?_))
  refine Zc (Zl rfl (Za (Zi (Zs ?_))))
  refine Zi2 (ι := Nat × Tok) (fun (j, ti) => b.ins.length - j) (fun (j, ti) => [(1, some (.ptr g1 0)), (2, some (.ptr g2 0)), (3, some (.ptr g3 0)), (15, some (blocksX f.blocks)), (16, some (.int f.blocks.length)), (17, some (.int k)), (5, some (.ptr g5 0)), (6, some (.ptr g6 0)), (29, some (inssX b.ins)), (30, some (.int b.ins.length)), (31, some (.int j))]) (fun (j, ti) => .buf ti 50 4 j :: .cells g6 48 [intsX b.params, .sl 4 (some ti) ((b.ins.take j).map insV), .int b.term.kind, .int b.term.arg, .int b.term.n, intsX b.term.cases, edgesX b.term.to] :: .cells g5 48 [intsX b.params, inssX b.ins, .int b.term.kind, .int b.term.arg, .int b.term.n, intsX b.term.cases, edgesX b.term.to] :: .cells g3 36 [.int f.name, xLeaf out] :: .cells g2 36 VT.zs36 :: .cells g1 36 [.int f.name, blocksX f.blocks] :: (xOwn 48 out ++ eOwn rows)) (fun (j, ti) => j ≤ b.ins.length) (0, .nil) (Nat.zero_le _) ⟨rfl, rfl, rfl, rfl, rfl, rfl, rfl, rfl, rfl, rfl, rfl, trivial⟩ (Zt2 _) ?_
  rintro ⟨j, ti⟩ hj
  change j ≤ b.ins.length at hj
  refine Zb (Zd (Zc (Zj1 rfl rfl rfl (Za (Zi (Zb ?_))))))
  refine Zn1 rfl (fun h32 => ?_) (fun h32 => ?_)
  ·
   obtain ⟨i, hi⟩ := get_of_lt b.ins j h32
   have hia := c5 i (List.mem_of_getElem? hi)
   refine Zi1 (Zi (Zb (Zs (Zb (Zd ?_)))))
   refine Zc (Zz (el := insV i) VT.sl43 rfl rfl (by omega) (get_mapS _ hi) (fun a33 => ?_))
   refine Zc (Za2 VT.ty50 rfl rfl ?_)
   refine Zc (Zb2 VT.zr50 _ rfl rfl (fun g8 => ?_))
   refine Zc (Zx 0 VT.ty50 rfl rfl rfl rfl rfl (Za (Zi (Zb (Zd ?_)))))
   refine Zc (V_lit0 [] VT.sl26 rfl rfl rfl rfl rfl rfl ?_)
   refine Zc (Zj VT.fa50_3 rfl (Zc (Zu 0 VT.ty26 rfl rfl rfl ?_)))
   refine Zc (V_append0D VT.sl26 rfl rfl (by rw [List.length_map]; omega) ?_)
   refine Zc (Zj VT.fa50_3 rfl (Zc (Zy 0 VT.ty26 rfl rfl rfl rfl rfl (Za (Zi (Zd (Zc (Zj VT.fa48_1 rfl (Zc (Zu 2 VT.ty43 rfl rfl rfl (Zc (Zv 0 VT.ty50 rfl rfl rfl ?_))))))))))))
   refine Zc (Zk3 [.tmp 42] VT.sl43 rfl rfl rfl rfl rfl ?_)
   refine Zc (Zi3 1 _ VT.sl43 rfl rfl rfl (by simp; omega) (by simp; omega) (fun t44 => ?_))
   refine Zc (Zj VT.fa48_1 rfl (Zc (Zy 2 VT.ty43 rfl rfl rfl rfl rfl (Za (Zb1 (Zi (Zd ?_)))))))
   refine Zc (Zh2 rfl rfl (by omega) ?_)
   refine Zc (Zl rfl (Za (Zi ?_)))
   exact ⟨(j + 1, t44), (by (try simp only []); omega), (by omega), ⟨rfl, rfl, rfl, rfl, rfl, rfl, rfl, rfl, rfl, rfl, rfl, trivial⟩, (Drops.drop (Drops.buf (by simp; omega) (Drops.keepE (congrArg (fun l => Own.cells g6 48 [intsX b.params, .sl 4 (some t44) l, .int b.term.kind, .int b.term.arg, .int b.term.n, intsX b.term.cases, edgesX b.term.to]) (by rw [take_snoc hi, List.map_append]; rfl)) (Drops.keep (Drops.keep (Drops.keep (Drops.keep (Zt2 _))))))))⟩
  ·
   have hje : j = b.ins.length := by omega
   subst hje
   have hsi : V.le (.sl 4 (some ti) ((b.ins.take b.ins.length).map insV)) (inssX b.ins) := by rw [List.take_length]; exact V.le.strip
   refine Zt (Ze1 (Ze1 (Zc1 (Zi ?_))))
   refine VW_cells 1 (ls' := [intsX b.params, inssX b.ins, .int b.term.kind, .int b.term.arg, .int b.term.n, intsX b.term.cases, edgesX b.term.to]) rfl ⟨V.le.refl _, rfl, hsi, rfl, V.le.refl _, rfl, V.le.refl _, rfl, V.le.refl _, rfl, V.le.refl _, rfl, V.le.refl _, rfl, trivial⟩ ?_
   refine Zb (Zd ?_)
   refine Zc (V_lit0 [] VT.sl26 rfl rfl rfl rfl rfl rfl ?_)
   refine Zc (Zj VT.fa48_2 rfl (Zc (Zj VT.fa46_3 rfl (Zc (Zu 2 VT.ty26 rfl rfl rfl ?_)))))
   refine Zc (V_append0D VT.sl26 rfl rfl (by rw [List.length_map]; omega) ?_)
   refine Zc (Zj VT.fa48_2 rfl (Zc (Zj VT.fa46_3 rfl (Zc (Zy 1 VT.ty26 rfl rfl rfl rfl rfl (Za (Zi (Zb (Zd (Zc (Zj VT.fa48_2 rfl (Zc (Zj VT.fa46_4 rfl (Zc (Zy 1 VT.ty44 rfl rfl rfl rfl rfl (Za (Zi (Zb (Zb (Zd (Zc (Zj VT.fa48_2 rfl (Zc (Zj VT.fa46_4 rfl ?_))))))))))))))))))))))))
   refine Zc (Zu 2 VT.ty44 rfl rfl rfl ?_)
   refine Zc (Zd2 (n := b.term.to.length) Try.underlying44 rfl (by simp) (fun hl59 => ?_))
   refine Zc (Zl rfl (Za (Zi (Zs ?_))))
   refine Zi2 (ι := Nat × Option XRow) (fun (j, o) => b.term.to.length - j) (fun (j, o) => [(1, some (.ptr g1 0)), (2, some (.ptr g2 0)), (3, some (.ptr g3 0)), (15, some (blocksX f.blocks)), (16, some (.int f.blocks.length)), (17, some (.int k)), (5, some (.ptr g5 0)), (6, some (.ptr g6 0)), (58, some (edgesX b.term.to)), (59, some (.int b.term.to.length)), (60, some (.int j))]) (fun (j, o) => .cells g6 48 [intsX b.params, inssX b.ins, .int b.term.kind, .int b.term.arg, .int b.term.n, intsX b.term.cases, xLeaf o] :: .cells g5 48 [intsX b.params, inssX b.ins, .int b.term.kind, .int b.term.arg, .int b.term.n, intsX b.term.cases, edgesX b.term.to] :: .cells g3 36 [.int f.name, xLeaf out] :: .cells g2 36 VT.zs36 :: .cells g1 36 [.int f.name, blocksX f.blocks] :: (xOwn 61 o ++ (xOwn 48 out ++ eOwn rows))) (fun (j, o) => j ≤ b.term.to.length ∧ xl o = (b.term.to.take j).map edgeV ∧ xOk 2 o) (0, none) ⟨Nat.zero_le _, rfl, trivial⟩ ⟨rfl, rfl, rfl, rfl, rfl, rfl, rfl, rfl, rfl, rfl, rfl, trivial⟩ (Drops.drop (Drops.keep (Drops.keep (Drops.keep (Drops.keep (Drops.keep (Zt2 _))))))) ?_
   rintro ⟨j, o⟩ hB
   change j ≤ b.term.to.length ∧ xl o = (b.term.to.take j).map edgeV ∧ xOk 2 o at hB
   obtain ⟨hj, hxo, hoo⟩ := hB
   refine Zb (Zd (Zc (Zj1 rfl rfl rfl (Za (Zi (Zb ?_))))))
   refine Zn1 rfl (fun h61 => ?_) (fun h61 => ?_)
   ·
    obtain ⟨e, he⟩ := get_of_lt b.term.to j h61
    have hea := c6 e (List.mem_of_getElem? he)
    have hxl : (xl o).length = j := by rw [hxo, List.length_map, List.length_take]; omega
    have hxs : xl o ++ [edgeV e] = ((b.term.to.take (j + 1)).map edgeV) := by rw [hxo, take_snoc he, List.map_append]; rfl
    refine Zi1 (Zi (Zb (Zs (Zb (Zd ?_)))))
    refine Zc (Zz (el := edgeV e) VT.sl44 rfl rfl (by omega) (get_mapS _ he) (fun a62 => ?_))
    refine Zc (Za2 VT.ty61 rfl rfl ?_)
    refine Zc (Zb2 VT.zr61 _ rfl rfl (fun g10 => ?_))
    refine Zc (Zx 0 VT.ty61 rfl rfl rfl rfl rfl (Za (Zi ?_)))
    refine VW_drawR (G := (Option XRow)) [([], [6], []), ([0], [64], []), ([1, 0], [65], []), ([], [10], []), ([3], [67], []), ([], [], []), ([], [10], []), ([6], [70], []), ([7, 6, 5], [69, 71], []), ([8, 7, 6, 5, 4, 3], [68, 72], []), ([9, 8, 7, 6, 5, 4, 3], [73], []), (dn 11, [66, 74], [0]), (dn 12, [6], []), (dn 13, [76], []), (dn 14, [77, 75], [])] [11, 14] (twoSt _ (fun x => (.cells g10 61 [.int e.block, intsX e.args] :: .cells g6 48 [intsX b.params, inssX b.ins, .int b.term.kind, .int b.term.arg, .int b.term.n, intsX b.term.cases, xLeaf o] :: .cells g5 48 [intsX b.params, inssX b.ins, .int b.term.kind, .int b.term.arg, .int b.term.n, intsX b.term.cases, edgesX b.term.to] :: .cells g3 36 [.int f.name, xLeaf out] :: .cells g2 36 VT.zs36 :: .cells g1 36 [.int f.name, blocksX f.blocks] :: (xOwn 61 (nrmX 2 ((b.term.to.take (j + 1)).map edgeV) x) ++ (xOwn 48 out ++ eOwn rows)))) (fun x _ => (.cells g10 61 [.int e.block, intsX e.args] :: .cells g6 48 [intsX b.params, inssX b.ins, .int b.term.kind, .int b.term.arg, .int b.term.n, intsX b.term.cases, xLeaf (nrmX 2 ((b.term.to.take (j + 1)).map edgeV) x)] :: .cells g5 48 [intsX b.params, inssX b.ins, .int b.term.kind, .int b.term.arg, .int b.term.n, intsX b.term.cases, edgesX b.term.to] :: .cells g3 36 [.int f.name, xLeaf out] :: .cells g2 36 VT.zs36 :: .cells g1 36 [.int f.name, blocksX f.blocks] :: (xOwn 61 (nrmX 2 ((b.term.to.take (j + 1)).map edgeV) x) ++ (xOwn 48 out ++ eOwn rows))))) [] [64, 65, 66, 67, 68, 69, 70, 71, 72, 73, 74, 75, 76, 77] rfl VT.mix ?_
    refine Zp (Zm _) (Zo rfl rfl ⟨(fun γ => Zf (fun _ h6 => Ze (Zn rfl (Zj VT.fa48_2 h6 ⟨rfl, rfl⟩)))), trivial⟩) ?_
    refine Zp (Zm _) (Zo rfl rfl ⟨(fun γ => Zw 0 0 rfl (fun _ h64 => Ze (Zn rfl (Zj VT.fa46_4 h64 ⟨rfl, rfl⟩)))), trivial⟩) ?_
    refine Zp (Zm _) (Zo rfl rfl ⟨(fun γ => Zw 1 0 rfl (fun _ h65 => Ze (Zn rfl (Zu 1 VT.ty44 h65 rfl rfl ⟨rfl, rfl⟩)))), trivial⟩) ?_
    refine Zp (Zm _) (Zo rfl rfl ⟨(fun γ => Zf (fun _ h10 => Ze (Zn rfl (Zj VT.fa61_0 h10 ⟨rfl, rfl⟩)))), trivial⟩) ?_
    refine Zp (Zm _) (Zo rfl rfl ⟨(fun γ => Zw 3 0 rfl (fun _ h67 => Ze (Zn rfl (Zu 0 VT.ty3 h67 rfl rfl ⟨rfl, rfl⟩)))), trivial⟩) ?_
    refine Zp (Zm _) (Zo rfl rfl ⟨(fun γ => Ze (Zn rfl (V_lit0 [] VT.sl26 rfl rfl rfl Zq2 rfl rfl ⟨rfl, rfl⟩))), trivial⟩) ?_
    refine Zp (Zm _) (Zo rfl rfl ⟨(fun γ => Zf (fun _ h10 => Ze (Zn rfl (Zj VT.fa61_1 h10 ⟨rfl, rfl⟩)))), trivial⟩) ?_
    refine Zp (Zm _) (Zo rfl rfl ⟨(fun γ => Zw 6 0 rfl (fun _ h70 => Ze (Zn rfl (Zu 0 VT.ty26 h70 rfl rfl ⟨rfl, rfl⟩)))), trivial⟩) ?_
    refine Zp (Zm _) (Zo rfl rfl ⟨(fun γ => Zw 5 2 rfl (fun _ h69 => Zw 7 0 rfl (fun _ h71 => Ze (Zn rfl (V_append0D VT.sl26 h69 h71 (by rw [List.length_map]; omega) ⟨rfl, rfl⟩))))), trivial⟩) ?_
    refine Zp (Zm _) (Zo rfl rfl ⟨(fun γ => Zw 4 4 rfl (fun _ h68 => Zw 8 0 rfl (fun _ h72 => Ze (Zn rfl (Zf2 [0, 1] [.tmp 68, .tmp 72] VT.st61 rfl rfl (Zp2 h68 (Zp2 h72 Zq2)) rfl ⟨rfl, rfl⟩))))), trivial⟩) ?_
    refine Zp (Zm _) (Zo rfl rfl ⟨(fun γ => Zw 9 0 rfl (fun _ h73 => Ze (Zn rfl (Zk3 [.tmp 73] VT.sl44 rfl rfl rfl (Zp2 h73 Zq2) rfl ⟨rfl, rfl⟩)))), trivial⟩) ?_
    refine Zp (Zw2 (fun x => xLeaf (nrmX 2 ((b.term.to.take (j + 1)).map edgeV) x))) (Zo2 0 rfl (fun γ => Zw 2 8 rfl (fun _ h66 => Zw 10 0 rfl (fun _ h74 => Ze (Zn rfl (V_appendOT (o := o) ([.cells g10 61 [.int e.block, intsX e.args], .cells g6 48 [intsX b.params, inssX b.ins, .int b.term.kind, .int b.term.arg, .int b.term.n, intsX b.term.cases, xLeaf o], .cells g5 48 [intsX b.params, inssX b.ins, .int b.term.kind, .int b.term.arg, .int b.term.n, intsX b.term.cases, edgesX b.term.to], .cells g3 36 [.int f.name, xLeaf out], .cells g2 36 VT.zs36, .cells g1 36 [.int f.name, blocksX f.blocks]] ++ (xOwn 48 out ++ eOwn rows)) (fun o' => (.cells g10 61 [.int e.block, intsX e.args] :: .cells g6 48 [intsX b.params, inssX b.ins, .int b.term.kind, .int b.term.arg, .int b.term.n, intsX b.term.cases, xLeaf o] :: .cells g5 48 [intsX b.params, inssX b.ins, .int b.term.kind, .int b.term.arg, .int b.term.n, intsX b.term.cases, edgesX b.term.to] :: .cells g3 36 [.int f.name, xLeaf out] :: .cells g2 36 VT.zs36 :: .cells g1 36 [.int f.name, blocksX f.blocks] :: (xOwn 61 o' ++ (xOwn 48 out ++ eOwn rows)))) VT.sl44 (by decide) h66 h74 (pullC [.cells g10 61 [.int e.block, intsX e.args], .cells g6 48 [intsX b.params, inssX b.ins, .int b.term.kind, .int b.term.arg, .int b.term.n, intsX b.term.cases, xLeaf o], .cells g5 48 [intsX b.params, inssX b.ins, .int b.term.kind, .int b.term.arg, .int b.term.n, intsX b.term.cases, edgesX b.term.to], .cells g3 36 [.int f.name, xLeaf out], .cells g2 36 VT.zs36, .cells g1 36 [.int f.name, blocksX f.blocks]]) (fun o' => (pullC [.cells g10 61 [.int e.block, intsX e.args], .cells g6 48 [intsX b.params, inssX b.ins, .int b.term.kind, .int b.term.arg, .int b.term.n, intsX b.term.cases, xLeaf o], .cells g5 48 [intsX b.params, inssX b.ins, .int b.term.kind, .int b.term.arg, .int b.term.n, intsX b.term.cases, edgesX b.term.to], .cells g3 36 [.int f.name, xLeaf out], .cells g2 36 VT.zs36, .cells g1 36 [.int f.name, blocksX f.blocks]]).symm) hoo (edges_2 hxo) (fun _ => List.cons_ne_nil _ _) (by rw [hxl, List.length_singleton]; omega) (eflat_1 rfl) (fun o75 e75_1 e75_2 e75_3 => ⟨o75, ⟨_, rfl, (by show some (xLeaf o75) = some (xLeaf (nrmX 2 ((b.term.to.take (j + 1)).map edgeV) o75)); rw [nrmX_eq (e75_1.trans hxs) e75_2])⟩, (by show ((Own.cells g10 61 [.int e.block, intsX e.args] :: .cells g6 48 [intsX b.params, inssX b.ins, .int b.term.kind, .int b.term.arg, .int b.term.n, intsX b.term.cases, xLeaf o] :: .cells g5 48 [intsX b.params, inssX b.ins, .int b.term.kind, .int b.term.arg, .int b.term.n, intsX b.term.cases, edgesX b.term.to] :: .cells g3 36 [.int f.name, xLeaf out] :: .cells g2 36 VT.zs36 :: .cells g1 36 [.int f.name, blocksX f.blocks] :: (xOwn 61 o75 ++ (xOwn 48 out ++ eOwn rows))) : Store) = (.cells g10 61 [.int e.block, intsX e.args] :: .cells g6 48 [intsX b.params, inssX b.ins, .int b.term.kind, .int b.term.arg, .int b.term.n, intsX b.term.cases, xLeaf o] :: .cells g5 48 [intsX b.params, inssX b.ins, .int b.term.kind, .int b.term.arg, .int b.term.n, intsX b.term.cases, edgesX b.term.to] :: .cells g3 36 [.int f.name, xLeaf out] :: .cells g2 36 VT.zs36 :: .cells g1 36 [.int f.name, blocksX f.blocks] :: (xOwn 61 (nrmX 2 ((b.term.to.take (j + 1)).map edgeV) o75) ++ (xOwn 48 out ++ eOwn rows))); rw [nrmX_eq (e75_1.trans hxs) e75_2])⟩))))))) ?_
    refine Zp (Zm _) (Zo rfl rfl ⟨(fun γ => Zf (fun _ h6 => Ze (Zn rfl (Zj VT.fa48_2 h6 ⟨rfl, rfl⟩)))), trivial⟩) ?_
    refine Zp (Zm _) (Zo rfl rfl ⟨(fun γ => Zw 12 0 rfl (fun _ h76 => Ze (Zn rfl (Zj VT.fa46_4 h76 ⟨rfl, rfl⟩)))), trivial⟩) ?_
    refine Zp Za3 (Zo2 1 rfl (fun γ => Zw 13 0 rfl (fun _ h77 => Zw 11 2 rfl (fun _ h75 => Ze (Zx2 h75 (fun e75 => Zn rfl (Zy 1 VT.ty44 h77 e75 (xLeaf_leaf _) rfl rfl ⟨default, trivial, rfl⟩))))))) ?_
    refine DrawP_nil (fun γ => Ze ?_)
    refine Zb1 (Zi ?_)
    obtain ⟨n1, n2⟩ := nrmX_ok (sz := 2) (xs := ((b.term.to.take (j + 1)).map edgeV)) (edges_2 rfl) (by rw [List.length_map, List.length_take]; simp only [maxLen]; omega) (γ 0)
    refine Zd ?_
    refine Zc (Zh2 rfl rfl (by omega) ?_)
    refine Zc (Zl rfl (Za (Zi ?_)))
    exact ⟨(j + 1, nrmX 2 ((b.term.to.take (j + 1)).map edgeV) (γ 0)), (by (try simp only []); omega), ⟨by omega, n1, n2⟩, ⟨rfl, rfl, rfl, rfl, rfl, rfl, rfl, rfl, rfl, rfl, rfl, trivial⟩, (Drops.drop (Drops.keep (Drops.keep (Drops.keep (Drops.keep (Drops.keep (Zt2 _)))))))⟩
   ·
    have hje : j = b.term.to.length := by omega
    subst hje
    rw [List.take_length] at hxo
    have hR2 := rows_snoc hR hb hxo hoo
    refine Zt (Ze1 (Ze1 (Zc1 (Zi (Zd (Zc (Zj VT.fa36_1 rfl (Zc (Zu 2 VT.ty34 rfl rfl rfl (Zc (Zv 0 VT.ty48 rfl rfl rfl ?_)))))))))))
    refine Zc (Zk3 [.tmp 81] VT.sl34 rfl rfl rfl rfl (cpV_fit b o) ?_)
    refine Zc (V_appendOT (o := out) ([.cells g6 48 [intsX b.params, inssX b.ins, .int b.term.kind, .int b.term.arg, .int b.term.n, intsX b.term.cases, xLeaf o], .cells g5 48 [intsX b.params, inssX b.ins, .int b.term.kind, .int b.term.arg, .int b.term.n, intsX b.term.cases, edgesX b.term.to], .cells g3 36 [.int f.name, xLeaf out], .cells g2 36 VT.zs36, .cells g1 36 [.int f.name, blocksX f.blocks]] ++ (xOwn 61 o ++ eOwn rows)) (fun o' => .cells g6 48 [intsX b.params, inssX b.ins, .int b.term.kind, .int b.term.arg, .int b.term.n, intsX b.term.cases, xLeaf o] :: .cells g5 48 [intsX b.params, inssX b.ins, .int b.term.kind, .int b.term.arg, .int b.term.n, intsX b.term.cases, edgesX b.term.to] :: .cells g3 36 [.int f.name, xLeaf out] :: .cells g2 36 VT.zs36 :: .cells g1 36 [.int f.name, blocksX f.blocks] :: (xOwn 48 o' ++ (xOwn 61 o ++ eOwn rows))) VT.sl34 (by decide) rfl rfl (pullC ([.cells g6 48 [intsX b.params, inssX b.ins, .int b.term.kind, .int b.term.arg, .int b.term.n, intsX b.term.cases, xLeaf o], .cells g5 48 [intsX b.params, inssX b.ins, .int b.term.kind, .int b.term.arg, .int b.term.n, intsX b.term.cases, edgesX b.term.to], .cells g3 36 [.int f.name, xLeaf out], .cells g2 36 VT.zs36, .cells g1 36 [.int f.name, blocksX f.blocks]] ++ xOwn 61 o)) (fun o' => (pullC [.cells g6 48 [intsX b.params, inssX b.ins, .int b.term.kind, .int b.term.arg, .int b.term.n, intsX b.term.cases, xLeaf o], .cells g5 48 [intsX b.params, inssX b.ins, .int b.term.kind, .int b.term.arg, .int b.term.n, intsX b.term.cases, edgesX b.term.to], .cells g3 36 [.int f.name, xLeaf out], .cells g2 36 VT.zs36, .cells g1 36 [.int f.name, blocksX f.blocks]]).symm) huo (cpL_7 hxu) (fun _ => List.cons_ne_nil _ _) (by rw [hxu, hkl, List.length_singleton]; omega) (cpV_flat b o) (fun o83 e83_1 e83_2 e83_3 => ?_))
    refine Zc (Zj VT.fa36_1 rfl ?_)
    refine Zc (Zy 2 VT.ty34 rfl rfl (xLeaf_leaf _) rfl rfl ?_)
    refine Za (Zb1 (Zi ?_))
    refine VW_drops (S' := .cells g3 36 [.int f.name, xLeaf o83] :: .cells g2 36 VT.zs36 :: .cells g1 36 [.int f.name, blocksX f.blocks] :: (xOwn 48 o83 ++ eOwn (rows ++ [o]))) (.drop (.drop (.keep (.keep (.keep (drops_append _ (.of_perm (eown_snoc rows o)))))))) ?_
    refine Zd ?_
    refine Zc (Zh2 rfl rfl (by omega) ?_)
    refine Zc (Zl rfl (Za (Zi ?_)))
    exact ⟨(k + 1, o83, rows ++ [o]), (by (try simp only []); omega), ⟨by omega, hR2, e83_1.trans (by rw [hxu]; exact cpL_snoc o hR hb), e83_2⟩, ⟨rfl, rfl, rfl, rfl, rfl, rfl, trivial⟩, (Drops.keep (Drops.keep (Drops.keep (Zt2 _))))⟩
 ·
  have hke : k = f.blocks.length := by omega
  subst hke
  rw [List.take_length] at hR
  rw [List.take_length] at hxu
  refine Zt (Ze1 (Ze1 (Zc1 (Zi ?_))))
  obtain ⟨r, rfl⟩ : ∃ r, out = some r := by cases out with
   | none =>
    have h9 := congrArg List.length hxu
    rw [cpL_len hR] at h9
    change 0 = _ at h9
    omega
   | some r => exact ⟨r, rfl⟩
  have hxu : r.xs = cpL f.blocks rows := hxu
  have hbr := brow_of hR hxu huo
  have hlen : r.xs.length = (f.blocks.map blockV).length := by rw [hxu, cpL_len hR, List.length_map]
  have hz2 : (f.blocks.zip rows).map (·.2) = rows := List.map_snd_zip (Nat.le_of_eq hR.len)
  have h9 : (f.blocks.zip rows).map (·.1) = f.blocks := List.map_fst_zip (Nat.le_of_eq hR.len.symm)
  have hz3 : (f.blocks.zip rows).map (fun x => blockV x.1) = f.blocks.map blockV := by rw [show f.blocks.map blockV = ((f.blocks.zip rows).map (·.1)).map blockV by rw [h9], List.map_map]; rfl
  refine VW_drops (S' := .cells r.g 48 ([] ++ (((f.blocks.zip rows).map fun x => cpV x.1 x.2).flatMap V.leaves ++ r.rest)) :: (eOwn ((f.blocks.zip rows).map (·.2)) ++ [.cells g3 36 [.int f.name, xLeaf (some r)], .cells g2 36 VT.zs36])) (Drops.trans (.keep (.keep (.drop (.refl _)))) (.of_perm ?_)) ?_
  · rw [hz2, ← zip_cp, ← hxu]; exact List.perm_append_comm (l₁ := [_, _])
  refine freeze_blocks r.g r.rest (f.blocks.zip rows) [] [.cells g3 36 [.int f.name, xLeaf (some r)], .cells g2 36 VT.zs36] (zip_ok hR) ?_
  rw [hz3]
  refine Zb (Zd (Zc (Zv 1 VT.ty36 rfl rfl rfl (Zc (Zx 2 VT.ty36 rfl rfl rfl rfl rfl (Za (Zi (Zf1 ?_))))))))
  refine Zg1 rfl (.agg (i := 2) VT.ty36 rfl rfl rfl) ?_
  exact ⟨_, .keep (.drop (.drop (.refl _))), ⟨r.g, r.cap, f.blocks.map blockV, r.rest⟩, hbr, (by show V.agg [_, V.raw (.slice (some ⟨r.g, 0, none⟩) r.xs.length r.cap)] = V.agg [_, .raw (.slice (some ⟨r.g, 0, none⟩) (f.blocks.map blockV).length r.cap)]; rw [hlen]), rfl⟩
set_option maxRecDepth 100000 in
set_option maxHeartbeats 16000000 in
theorem CopyUnitX_c {u : SUnit} (hc : ∀ f ∈ u.fns, CpOk f ∧ 0 < f.blocks.length) (hl : u.fns.length ≤ 256) : VCalls Try.prog 7 [unitV u] [] fun r S' => ∃ Os, BRows u.fns Os ∧ r = .agg [.sl 2 none (cxL u.fns Os), .int u.main] ∧ S' = bOwn Os := by
 refine VCalls_drops ?_
 refine V_start (nt := 25) Try.func7 rfl rfl rfl ?_
 refine Zb (Zd ?_)
 refine Zc (Zc2 rfl rfl (fun g1 => ?_))
 refine Zc (Zb2 VT.zr24 _ rfl rfl (fun g2 => ?_))
 refine Za (Zi (Zb (Zd (Zc (Zj VT.fa24_1 rfl (Zc (Zu 1 VT.ty3 rfl rfl rfl ?_)))))))
 refine Zc (Zf2 [1] [.tmp 7] VT.st24 rfl rfl rfl rfl ?_)
 refine Zc (Zb2 VT.zr24 _ rfl rfl (fun g3 => ?_))
 refine Zc (Zx 0 VT.ty24 rfl rfl rfl rfl rfl (Za (Zi ?_)))
 refine VW_cells 0 (ls' := [.sl 2 (some .nil) [], .int u.main]) rfl ⟨V.le.nilTok 2, rfl, V.le.refl _, rfl, trivial⟩ ?_
 refine VW_nilBuf 36 2 ?_
 refine Zb (Zb (Zd (Zc (Zj VT.fa24_0 rfl (Zc (Zu 3 VT.ty22 rfl rfl rfl ?_))))))
 refine Zc (Zd2 (n := u.fns.length) Try.underlying22 rfl (by simp) (fun hl11 => ?_))
 refine Zc (Zl rfl (Za (Zi (Zs ?_))))
 refine Zi2 (ι := Nat × Tok × List XRow) (fun (k, tok, Os) => u.fns.length - k) (fun (k, tok, Os) => [(1, some (.ptr g1 0)), (2, some (.ptr g2 0)), (3, some (.ptr g3 0)), (10, some (funcsX u.fns)), (11, some (.int u.fns.length)), (12, some (.int k))]) (fun (k, tok, Os) => .buf tok 36 2 k :: .cells g3 24 [.sl 2 (some tok) (cxL (u.fns.take k) Os), .int u.main] :: .cells g2 24 VT.zs24 :: .cells g1 24 [funcsX u.fns, .int u.main] :: bOwn Os) (fun (k, tok, Os) => k ≤ u.fns.length ∧ BRows (u.fns.take k) Os) (0, .nil, []) ⟨Nat.zero_le _, brows_nil⟩ ⟨rfl, rfl, rfl, rfl, rfl, rfl, trivial⟩ (Zt2 _) ?_
 rintro ⟨k, tok, Os⟩ hA
 change k ≤ u.fns.length ∧ BRows (u.fns.take k) Os at hA
 obtain ⟨hk, hR⟩ := hA
 refine Zb (Zd (Zc (Zj1 rfl rfl rfl (Za (Zi (Zb ?_))))))
 refine Zn1 rfl (fun h13 => ?_) (fun h13 => ?_)
 ·
  obtain ⟨f, hf⟩ := get_of_lt u.fns k h13
  have hcf := hc f (List.mem_of_getElem? hf)
  have hkl : (cxL (u.fns.take k) Os).length = k := by rw [cxL_len hR, List.length_take]; omega
  refine Zi1 (Zi (Zb (Zs (Zb (Zd ?_)))))
  refine Zc (Zz (el := funcV f) VT.sl22 rfl rfl (by omega) (get_mapS _ hf) (fun a14 => ?_))
  refine Zc (Za2 VT.ty36 rfl rfl ?_)
  refine Zc (Zb2 VT.zr36 _ rfl rfl (fun g5 => ?_))
  refine Zc (Zx 0 VT.ty36 rfl rfl rfl rfl rfl (Za (Zi ?_)))
  refine VW_drawR (G := (XRow × Tok)) [([], [3], []), ([0], [16], []), ([], [5], []), ([2], [18], [0]), ([3, 2], [19], [0]), (dn 5, [17, 20], [1]), (dn 6, [3], []), (dn 7, [22, 21], [])] [3, 5, 7] (fourSt (.cells g5 36 [.int f.name, blocksX f.blocks] :: .buf tok 36 2 k :: .cells g3 24 [.sl 2 (some tok) (cxL (u.fns.take k) Os), .int u.main] :: .cells g2 24 VT.zs24 :: .cells g1 24 [funcsX u.fns, .int u.main] :: (bOwn Os)) (fun x => .cells g5 36 [.int f.name, blocksX f.blocks] :: .buf tok 36 2 k :: .cells g3 24 [.sl 2 (some tok) (cxL (u.fns.take k) Os), .int u.main] :: .cells g2 24 VT.zs24 :: .cells g1 24 [funcsX u.fns, .int u.main] :: (bOwn Os ++ xOwn 48 (some (nrmB f x.1)))) (fun x y => .cells g5 36 [.int f.name, blocksX f.blocks] :: .buf y.2 36 2 (cxL (u.fns.take k) Os ++ [cxV f (nrmB f y.1)]).length :: .cells g3 24 [.sl 2 (some tok) (cxL (u.fns.take k) Os), .int u.main] :: .cells g2 24 VT.zs24 :: .cells g1 24 [funcsX u.fns, .int u.main] :: (bOwn Os ++ xOwn 48 (some (nrmB f y.1)))) (fun x y _ => .cells g5 36 [.int f.name, blocksX f.blocks] :: .buf y.2 36 2 (cxL (u.fns.take k) Os ++ [cxV f (nrmB f y.1)]).length :: .cells g3 24 [.sl 2 (some y.2) (cxL (u.fns.take k) Os ++ [cxV f (nrmB f y.1)]), .int u.main] :: .cells g2 24 VT.zs24 :: .cells g1 24 [funcsX u.fns, .int u.main] :: (bOwn Os ++ xOwn 48 (some (nrmB f y.1))))) [] [16, 17, 18, 19, 20, 21, 22] rfl VT.mix ?_
  refine Zp (Zm _) (Zm2 rfl (fun _ => (fun γ => Zf (fun _ h3 => Ze (Zn rfl (Zj VT.fa24_0 h3 ⟨rfl, rfl⟩)))))) ?_
  refine Zp (Zm _) (Zo rfl rfl ⟨(fun γ => Zw 0 0 rfl (fun _ h16 => Ze (Zn rfl (Zu 2 VT.ty22 h16 rfl rfl ⟨rfl, rfl⟩)))), (fun γ => Zw 0 0 rfl (fun _ h16 => Ze (Zn rfl (Zu 2 VT.ty22 h16 rfl rfl ⟨rfl, rfl⟩)))), trivial⟩) ?_
  refine Zp (Zm _) (Zo rfl rfl ⟨(fun γ => Zf (fun _ h5 => Ze (Zn rfl (Zv 0 VT.ty36 h5 rfl rfl ⟨rfl, rfl⟩)))), trivial⟩) ?_
  refine Zp (Zw2 (fun x => cxV f (nrmB f x.1))) (Zo2 0 rfl (fun γ => Zw 2 0 rfl (fun _ h18 => Ze (Zn rfl (V_callG [.tmp 18] [] _ rfl (Zp2 h18 Zq2) VT.en14 (.refl _) (CopyFuncF_c hcf.1 hcf.2) (fun r Sa ⟨o, hr, e1, e2⟩ => ⟨_, Drops.of_perm List.perm_append_comm, (o, Tok.nil), ⟨_, rfl, (by rw [e1]; show some (cxV f o) = some (cxV f (nrmB f o)); rw [nrmB_eq hr])⟩, (by rw [e2]; show _ = (Own.cells g5 36 [.int f.name, blocksX f.blocks] :: Own.buf tok 36 2 k :: Own.cells g3 24 [.sl 2 (some tok) (cxL (u.fns.take k) Os), .int u.main] :: Own.cells g2 24 VT.zs24 :: Own.cells g1 24 [funcsX u.fns, .int u.main] :: (bOwn Os ++ xOwn 48 (some (nrmB f (o, Tok.nil).1))) : Store); rw [nrmB_eq hr]; rfl)⟩)))))) ?_
  refine Zp (Zw2 (fun x => .sl 2 none [cxV f (nrmB f x.1)])) (Zo rfl rfl ⟨(fun γ => Zw 3 0 rfl (fun _ h19 => Ze (Zx2 h19 (fun e19 => Zn rfl (Zk3 [.tmp 19] VT.sl22 rfl rfl rfl (Zp2 e19 Zq2) rfl ⟨⟨_, rfl, rfl⟩, rfl⟩))))), trivial⟩) ?_
  refine Zp (Zw2 (fun y => .sl 2 (some y.2) (cxL (u.fns.take k) Os ++ [cxV f (nrmB f y.1)]))) (Zo2 1 rfl (fun γ => Zw 1 3 rfl (fun _ h17 => Zw 4 0 rfl (fun _ h20 => Ze (Zx2 h20 (fun e20 => Zn rfl (Zi3 1 _ VT.sl22 h17 e20 rfl hkl.symm (by rw [hkl, List.length_singleton]; omega) (fun t21 => ⟨((γ 0).1, t21), ⟨_, rfl, rfl⟩, rfl⟩)))))))) ?_
  refine Zp (Zm _) (Zo rfl rfl ⟨(fun γ => Zf (fun _ h3 => Ze (Zn rfl (Zj VT.fa24_0 h3 ⟨rfl, rfl⟩)))), trivial⟩) ?_
  refine Zp Za3 (Zo2 2 rfl (fun γ => Zw 6 0 rfl (fun _ h22 => Zw 5 1 rfl (fun _ h21 => Ze (Zx2 h21 (fun e21 => Zn rfl (Zy 2 VT.ty22 h22 e21 rfl rfl rfl ⟨(⟨0, 0, [], []⟩, Tok.nil), trivial, rfl⟩))))))) ?_
  refine DrawP_nil (fun γ => Ze ?_)
  refine Zb1 (Zi ?_)
  have hn := nrmB_ok hcf.1.many (γ 1).1
  refine VW_drops (S' := .buf (γ 1).2 36 2 (k + 1) :: .cells g3 24 [.sl 2 (some (γ 1).2) (cxL (u.fns.take (k + 1)) (Os ++ [(nrmB f (γ 1).1)])), .int u.main] :: .cells g2 24 VT.zs24 :: .cells g1 24 [funcsX u.fns, .int u.main] :: (bOwn (Os ++ [(nrmB f (γ 1).1)]))) (.drop ?_) ?_
  · rw [bown_snoc, ← cxL_snoc (o := (nrmB f (γ 1).1)) hR hf]; exact Drops.buf (by rw [List.length_append, hkl]; rfl) (.refl _)
  refine Zd ?_
  refine Zc (Zh2 rfl rfl (by omega) ?_)
  refine Zc (Zl rfl (Za (Zi ?_)))
  exact ⟨(k + 1, (γ 1).2, Os ++ [(nrmB f (γ 1).1)]), (by (try simp only []); omega), ⟨by omega, brows_snoc hR hf hn⟩, ⟨rfl, rfl, rfl, rfl, rfl, rfl, trivial⟩, (Drops.buf (by simp) (Drops.keep (Drops.keep (Drops.keep (Zt2 _)))))⟩
 ·
  have hke : k = u.fns.length := by omega
  subst hke
  rw [List.take_length] at hR
  have hst : V.le (.sl 2 (some tok) (cxL (u.fns.take u.fns.length) Os)) (.sl 2 none (cxL u.fns Os)) := by rw [List.take_length]; exact V.le.strip
  refine Zt (Ze1 (Ze1 (Zc1 (Zi ?_))))
  refine VW_cells 1 (ls' := [.sl 2 none (cxL u.fns Os), .int u.main]) rfl ⟨hst, rfl, V.le.refl _, rfl, trivial⟩ ?_
  refine Zb (Zd (Zc (Zv 1 VT.ty24 rfl rfl rfl (Zc (Zx 2 VT.ty24 rfl rfl rfl rfl rfl (Za (Zi (Zf1 ?_))))))))
  refine Zg1 rfl (.agg (i := 2) VT.ty24 rfl rfl rfl) ?_
  exact ⟨_, .drop (.drop (.drop (.drop (.refl _)))), Os, hR, rfl, rfl⟩
end Go.Proofs.Ytjekhhgjfelpgaa.X34
