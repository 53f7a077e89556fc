import Derived.Test.YtjekhhgjfelpgaaGreatX20
set_option linter.all false
open List renaming length_append → Ya, length_map → Yb, flatMap_cons → Yc, length_take → Yd, flatMap_append → Ye, mem_of_getElem? → Yf, take_length → Yg, getElem?_append_right → Yh, length_cons → Yi, length_nil → Yj, getElem?_eq_some_iff → Yk, getElem?_append_left → Yl
section
namespace Go.Proofs.YtjekhhgjfelpgaaGreat.X25
open Go.VL Go.SM Go.Proofs.YtjekhhgjfelpgaaGreat XS X1 X2 X3 X4 X5 X6 X7 X8 X9 X10 X12 X13 X14
def cpV (b : SBlock) (o : Option XRow) : V := .agg [intsX b.params, inssX b.ins, .int b.term.kind, .int b.term.arg, .int b.term.n, intsX b.term.cases, xLeaf o]
def cpL (bs : List SBlock) (rows : List (Option XRow)) : List V := List.zipWith cpV bs rows
abbrev eOwn (rows : List (Option XRow)) : Store := rows.flatMap (xOwn 79)
structure RowsOk (bs : List SBlock) (rows : List (Option XRow)) : Prop where
 len : rows.length = bs.length
 row : ∀ (k : Nat) (b : SBlock) (o : Option XRow), bs[k]? = some b → rows[k]? = some o → xl o = b.term.to.map edgeV ∧ xOk 2 o
theorem xLeaf_leaf (o : Option XRow) : (xLeaf o).leaf = true := by cases o <;> rfl
theorem cpV_fit (b : SBlock) (o : Option XRow) : ([cpV b o] : List V).all (V.fits 7) = true := by cases o <;> rfl
theorem cpL_snoc {bs : List SBlock} {rows : List (Option XRow)} {k : Nat} {b : SBlock} (o : Option XRow) (h : RowsOk (bs.take k) rows) (hb : bs[k]? = some b) : cpL (bs.take k) rows ++ [cpV b o] = cpL (bs.take (k + 1)) (rows ++ [o]) := by
 unfold cpL
 rw [take_snoc hb, List.zipWith_append h.len.symm]
 rfl
theorem cpL_len {bs : List SBlock} {rows : List (Option XRow)} (h : RowsOk bs rows) : (cpL bs rows).length = bs.length := by
 unfold cpL
 rw [List.length_zipWith, h.len, Nat.min_self]
theorem rows_nil : RowsOk [] [] := ⟨rfl, fun k b o hb => by simp at hb⟩
theorem rows_snoc {bs : List SBlock} {rows : List (Option XRow)} {k : Nat} {b : SBlock} {o : Option XRow} (h : RowsOk (bs.take k) rows) (hb : bs[k]? = some b) (h1 : xl o = b.term.to.map edgeV) (h2 : xOk 2 o) : RowsOk (bs.take (k + 1)) (rows ++ [o]) := by
 have hl := h.len
 have hkb := (Yk.1 hb).1
 rw [Yd] at hl
 refine ⟨by rw [take_snoc hb, Ya, Ya, h.len]; rfl, fun j c p hc hp => ?_⟩
 rw [take_snoc hb] at hc
 by_cases hj : j < rows.length
 ·rw [Yl hj] at hp
  rw [Yl (by rw [← h.len]; exact hj)] at hc
  exact h.row j c p hc hp
 ·rw [Yh (by omega)] at hp
  rw [Yh (by rw [← h.len]; omega), ← h.len] at hc
  have hj0 : j - rows.length = 0 := by
   have := (Yk.1 hp).1
   simp at this
   omega
  rw [hj0] at hc hp
  have hc : b = c := by simpa using hc
  have hp : o = p := by simpa using hp
  subst hc hp
  exact ⟨h1, h2⟩
theorem edges_2 {xs : List V} {l : List SEdge} (h : xs = l.map edgeV) : ∀ v ∈ xs, v.leaves.length = 2 := fun v hv => by
 rw [h] at hv
 obtain ⟨n, _, rfl⟩ := List.mem_map.1 hv
 rfl
theorem eflat_1 {x : V} (h : x.flat = true) : ∀ y ∈ [x], y.flat = true := fun y hy => by rw [List.mem_singleton.1 hy]; exact h
structure CpOk (f : SFunc) : Prop where
 many : f.blocks.length ≤ 1000
 block : ∀ b ∈ f.blocks, b.params.length ≤ 10000 ∧ b.ins.length ≤ 10000 ∧ b.term.cases.length ≤ 10000 ∧ b.term.to.length ≤ 10000 ∧ (∀ i ∈ b.ins, i.args.length ≤ 10000) ∧ ∀ e ∈ b.term.to, e.args.length ≤ 10000
theorem eown_snoc (rows : List (Option XRow)) (o : Option XRow) : (xOwn 79 o ++ eOwn rows).Perm (eOwn (rows ++ [o])) := by
 unfold eOwn
 rw [Ye, List.flatMap_singleton]
 exact List.perm_append_comm
theorem cpL_7 {bs : List SBlock} {rows : List (Option XRow)} {xs : List V} (h : xs = cpL bs rows) : ∀ x ∈ xs, x.leaves.length = 7 := fun x hx => by
 rw [h] at hx
 obtain ⟨i, hi⟩ := List.getElem?_of_mem hx
 unfold cpL at hi
 rw [List.getElem?_zipWith] at hi
 split at hi
 ·injection hi with hi
  rw [← hi]
  rfl
 ·cases hi
theorem cpV_flat (b : SBlock) (o : Option XRow) : ∀ y ∈ [cpV b o], y.flat = true := fun y hy => by
 rw [List.mem_singleton.1 hy]
 cases o <;> rfl
set_option maxRecDepth 100000 in
theorem intsClone_c (l : List Int) (hl : l.length ≤ 1000000) : VPure Tryz.prog 28 [.sl 1 none (l.map V.int)] (.sl 1 none (l.map V.int)) := by
 refine V_start (nt := 8) Tryz.func28 rfl rfl rfl ?_
 refine Zb (Zd (Zc (Zk rfl (Za (Zi (Zb (Zb (Zd (Zc (Zl rfl ?_))))))))))
 refine Zc (V_eqNil Tryz.underlying41 rfl (fun b4 hb4 => ?_))
 refine Za (Zi ?_)
 refine Zr1 rfl (fun h4 => ?_) (fun h4 => ?_)
 ·
  have hn : l = [] := by simpa using hb4 h4
  subst hn
  refine Zb (Zd ?_)
  refine Zc (Zu2 (Zk rfl ⟨rfl, rfl⟩) (V.le.nil 1) ?_)
  refine Za (Zi (Zf1 ?_))
  refine Zd1 (Zg1 rfl (.strip rfl) ?_)
  rfl
 ·
  refine Zi1 (Zi (Zb (Zd ?_)))
  refine Zc (V_litTok [] VT.sl41 rfl rfl rfl rfl rfl (fun t5 => ?_))
  refine Zc (Zl rfl ?_)
  refine Zc (Zi3 0 _ VT.sl41 rfl rfl rfl (by simp) (by simp; omega) (fun t7 => ?_))
  refine Zc (Zk rfl (Za (Zi (Zf1 ?_))))
  refine Zg1 rfl (.strip rfl) ?_
  rfl
set_option maxRecDepth 100000 in
set_option maxHeartbeats 16000000 in
theorem CopyX_c {f : SFunc} (hc : CpOk f) : VCalls Tryz.prog 25 [funcV f] [] fun r S' => ∃ rows out, RowsOk f.blocks rows ∧ xl out = cpL f.blocks rows ∧ xOk 7 out ∧ r = .agg [.int f.name, xLeaf out] ∧ S' = xOwn 50 out ++ eOwn rows := by
 refine VCalls_drops ?_
 have hmany := hc.many
 refine V_start (nt := 83) Tryz.func25 rfl rfl rfl ?_
 refine Zb (Zd ?_)
 refine Zc (Zc2 rfl rfl (fun g1 => ?_))
 refine Zc (Zb2 VT.zr34 _ rfl rfl (fun g2 => ?_))
 refine Za (Zi (Zb (Zd (Zc (Zj VT.fa34_0 rfl (Zc (Zu 1 VT.ty3 rfl rfl rfl ?_)))))))
 refine Zc (Zf2 [0] [.tmp 12] VT.st34 rfl rfl rfl rfl ?_)
 refine Zc (Zb2 VT.zr34 _ rfl rfl (fun g3 => ?_))
 refine Zc (Zx 0 VT.ty34 rfl rfl rfl rfl rfl (Za (Zi (Zb (Zb (Zd (Zc (Zj VT.fa34_1 rfl (Zc (Zu 2 VT.ty32 rfl rfl rfl ?_))))))))))
 refine Zc (Zd2 (n := f.blocks.length) Tryz.underlying32 rfl (by simp) (fun hl16 => ?_))
 refine Zc (Zl rfl (Za (Zi (Zs ?_))))
 refine Zi2 (ι := Nat × Option XRow × List (Option XRow)) (fun (k, out, rows) => f.blocks.length - k) (fun (k, out, rows) => [(1, some (.ptr g1 0)), (2, some (.ptr g2 0)), (3, some (.ptr g3 0)), (15, some (blocksX f.blocks)), (16, some (.int f.blocks.length)), (17, some (.int k))]) (fun (k, out, rows) => .cells g3 34 [.int f.name, xLeaf out] :: .cells g2 34 VT.zs34 :: .cells g1 34 [.int f.name, blocksX f.blocks] :: (xOwn 50 out ++ eOwn rows)) (fun (k, out, rows) => k ≤ f.blocks.length ∧ RowsOk (f.blocks.take k) rows ∧ xl out = cpL (f.blocks.take k) rows ∧ xOk 7 out) (0, none, []) ⟨Nat.zero_le _, rows_nil, rfl, trivial⟩ ⟨rfl, rfl, rfl, rfl, rfl, rfl, trivial⟩ (Zt2 _) ?_
 rintro ⟨k, out, rows⟩ hA
 change k ≤ f.blocks.length ∧ RowsOk (f.blocks.take k) rows ∧ xl out = cpL (f.blocks.take k) rows ∧ xOk 7 out at hA
 obtain ⟨hk, hR, hxu, huo⟩ := hA
 refine Zb (Zd (Zc (Zj1 rfl rfl rfl (Za (Zi (Zb ?_))))))
 refine Zn1 rfl (fun h18 => ?_) (fun h18 => ?_)
 ·
  obtain ⟨b, hb⟩ := get_of_lt f.blocks k h18
  obtain ⟨c1, c2, c3, c4, c5, c6⟩ := hc.block b (Yf hb)
  have hkl : (cpL (f.blocks.take k) rows).length = k := by rw [cpL_len hR, Yd]; omega
  refine Zi1 (Zi (Zb (Zs (Zb (Zd ?_)))))
  refine Zc (Zz (el := blockV b) VT.sl32 rfl rfl (by omega) (get_mapS _ hb) (fun a19 => ?_))
  refine Zc (Za2 VT.ty50 rfl rfl ?_)
  refine Zc (Zb2 VT.zr50 _ rfl rfl (fun g5 => ?_))
  refine Zc (Zx 0 VT.ty50 rfl rfl rfl rfl rfl (Za (Zi (Zb ?_))))
  refine VW_drawR (G := Nat) [([], [5], []), ([0], [21], []), ([1, 0], [22], []), ([], [5], []), ([3], [24], []), (dn 5, [23, 25], []), ([], [], [0]), (dn 7, [6, 26], [])] [6, 7] (twoSt _ (fun x => .cells x 50 VT.zs50 :: .cells g5 50 [intsX b.params, inssX b.ins, .int b.term.kind, .int b.term.arg, .int b.term.n, intsX b.term.cases, edgesX b.term.to] :: .cells g3 34 [.int f.name, xLeaf out] :: .cells g2 34 VT.zs34 :: .cells g1 34 [.int f.name, blocksX f.blocks] :: (xOwn 50 out ++ eOwn rows)) (fun x _ => .cells x 50 [intsX b.params, V.nilSl, .int b.term.kind, .int b.term.arg, .int b.term.n, intsX b.term.cases, edgesX b.term.to] :: .cells g5 50 [intsX b.params, inssX b.ins, .int b.term.kind, .int b.term.arg, .int b.term.n, intsX b.term.cases, edgesX b.term.to] :: .cells g3 34 [.int f.name, xLeaf out] :: .cells g2 34 VT.zs34 :: .cells g1 34 [.int f.name, blocksX f.blocks] :: (xOwn 50 out ++ eOwn rows))) [6] [6, 21, 22, 23, 24, 25, 26] rfl VT.mix ?_
  refine Zp (Zm _) (Zm2 rfl (fun _ => (fun γ => Zf (fun _ h5 => Ze (Zn rfl (Zj VT.fa50_0 h5 z0)))))) ?_
  refine Zp (Zm _) (Zo rfl rfl ⟨(fun γ => Zw 0 0 rfl (fun _ h21 => Ze (Zn rfl (Zu 0 VT.ty41 h21 rfl rfl z0)))), (fun γ => Zw 0 0 rfl (fun _ h21 => Ze (Zn rfl (Zu 1 VT.ty41 h21 rfl rfl z0)))), trivial⟩) ?_
  refine Zp (Zm _) (Zm2 rfl (fun _ => (fun γ => Zw 1 0 rfl (fun _ h22 => Ze (Zn rfl (Zx1 [.tmp 22] rfl (Zp2 h22 Zq2) VT.en28 (intsClone_c b.params (by omega)) z0)))))) ?_
  refine Zp (Zm _) (Zm2 rfl (fun _ => (fun γ => Zf (fun _ h5 => Ze (Zn rfl (Zj VT.fa50_2 h5 z0)))))) ?_
  refine Zp (Zm _) (Zo rfl rfl ⟨(fun γ => Zw 3 0 rfl (fun _ h24 => Ze (Zn rfl (Zv 0 VT.ty47 h24 rfl rfl z0)))), (fun γ => Zw 3 0 rfl (fun _ h24 => Ze (Zn rfl (Zv 1 VT.ty47 h24 rfl rfl z0)))), trivial⟩) ?_
  refine Zp (Zm _) (Zm2 rfl (fun _ => (fun γ => Zw 2 2 rfl (fun _ h23 => Zw 4 0 rfl (fun _ h25 => Ze (Zn rfl (Zf2 [0, 2] [.tmp 23, .tmp 25] VT.st50 rfl rfl (Zp2 h23 (Zp2 h25 Zq2)) rfl z0))))))) ?_
  refine Zp (Zw2 (fun g => .ptr g 0)) (Zo2 0 rfl (fun γ => Ze (Zn rfl (Zb2 VT.zr50 _ rfl rfl (fun g6 => ⟨g6, ⟨g6, rfl, rfl⟩, rfl⟩))))) ?_
  refine Zp Za3 (Zo2 1 rfl (fun γ => Zw 6 0 rfl (fun _ h6 => Zw 5 1 rfl (fun _ h26 => Ze (Zx2 h6 (fun e6 => Zn rfl (Zx 0 VT.ty50 e6 h26 rfl rfl rfl ⟨default, trivial, rfl⟩))))))) ?_
  refine DrawP_nil (fun γ => Zw 6 1 rfl (fun r6 h6 => Ze ?_))
  have e6 : r6 = some _ := Zd3 h6
  subst e6
  clear h6
  refine Zi ?_
  refine VW_cells 0 (ls' := [intsX b.params, .sl 4 (some .nil) [], .int b.term.kind, .int b.term.arg, .int b.term.n, intsX b.term.cases, edgesX b.term.to]) rfl ⟨V.le.refl _, rfl, V.le.nilTok 4, rfl, V.le.refl _, rfl, V.le.refl _, rfl, V.le.refl _, rfl, V.le.refl _, rfl, V.le.refl _, rfl, trivial⟩ ?_
  refine VW_nilBuf 70 4 ?_
  generalize hg6 : γ 0 = g6
  refine Zb (Zb (Zd (Zc (Zj VT.fa50_1 rfl (Zc (Zu 2 VT.ty48 rfl rfl rfl ?_))))))
  refine Zc (Zd2 (n := b.ins.length) Tryz.underlying48 rfl (by simp) (fun hl29 => ?_))
  refine Zc (Zl rfl (Za (Zi (Zs ?_))))
  refine Zi2 (ι := Nat × Tok) (fun (j, ti) => b.ins.length - j) (fun (j, ti) => [(1, some (.ptr g1 0)), (2, some (.ptr g2 0)), (3, some (.ptr g3 0)), (15, some (blocksX f.blocks)), (16, some (.int f.blocks.length)), (17, some (.int k)), (5, some (.ptr g5 0)), (6, some (.ptr g6 0)), (28, some (inssX b.ins)), (29, some (.int b.ins.length)), (30, some (.int j))]) (fun (j, ti) => .buf ti 70 4 j :: .cells g6 50 [intsX b.params, .sl 4 (some ti) ((b.ins.take j).map insV), .int b.term.kind, .int b.term.arg, .int b.term.n, intsX b.term.cases, edgesX b.term.to] :: .cells g5 50 [intsX b.params, inssX b.ins, .int b.term.kind, .int b.term.arg, .int b.term.n, intsX b.term.cases, edgesX b.term.to] :: .cells g3 34 [.int f.name, xLeaf out] :: .cells g2 34 VT.zs34 :: .cells g1 34 [.int f.name, blocksX f.blocks] :: (xOwn 50 out ++ eOwn rows)) (fun (j, ti) => j ≤ b.ins.length) (0, .nil) (Nat.zero_le _) ⟨rfl, rfl, rfl, rfl, rfl, rfl, rfl, rfl, rfl, rfl, rfl, trivial⟩ (Zt2 _) ?_
  rintro ⟨j, ti⟩ hj
  change j ≤ b.ins.length at hj
  refine Zb (Zd (Zc (Zj1 rfl rfl rfl (Za (Zi (Zb ?_))))))
  refine Zn1 rfl (fun h31 => ?_) (fun h31 => ?_)
  ·
   obtain ⟨i, hi⟩ := get_of_lt b.ins j h31
   have hia := c5 i (Yf hi)
   refine Zi1 (Zi (Zb (Zs (Zb (Zd ?_)))))
   refine Zc (Zz (el := insV i) VT.sl48 rfl rfl (by omega) (get_mapS _ hi) (fun a32 => ?_))
   refine Zc (Za2 VT.ty70 rfl rfl ?_)
   refine Zc (Zb2 VT.zr70 _ rfl rfl (fun g8 => ?_))
   refine Zc (Zx 0 VT.ty70 rfl rfl rfl rfl rfl (Za (Zi (Zb (Zd (Zc (Zj VT.fa70_3 rfl (Zc (Zu 0 VT.ty41 rfl rfl rfl ?_)))))))))
   refine Zc (Zx1 [.tmp 35] rfl rfl VT.en28 (intsClone_c i.args (by omega)) ?_)
   refine Zc (Zj VT.fa70_3 rfl (Zc (Zy 0 VT.ty41 rfl rfl rfl rfl rfl (Za (Zi (Zd (Zc (Zj VT.fa50_1 rfl (Zc (Zu 2 VT.ty48 rfl rfl rfl (Zc (Zv 0 VT.ty70 rfl rfl rfl ?_))))))))))))
   refine Zc (Zk3 [.tmp 40] VT.sl48 rfl rfl rfl rfl rfl ?_)
   refine Zc (Zi3 1 _ VT.sl48 rfl rfl rfl (by simp; omega) (by simp; omega) (fun t42 => ?_))
   refine Zc (Zj VT.fa50_1 rfl (Zc (Zy 2 VT.ty48 rfl rfl rfl rfl rfl (Za (Zb1 (Zi (Zd ?_)))))))
   refine Zc (Zh2 rfl rfl (by omega) ?_)
   refine Zc (Zl rfl (Za (Zi ?_)))
   exact ⟨(j + 1, t42), (by (try simp only []); omega), (by omega), ⟨rfl, rfl, rfl, rfl, rfl, rfl, rfl, rfl, rfl, rfl, rfl, trivial⟩, (Drops.drop (Drops.buf (by simp; omega) (Drops.keepE (congrArg (fun l => Own.cells g6 50 [intsX b.params, .sl 4 (some t42) l, .int b.term.kind, .int b.term.arg, .int b.term.n, intsX b.term.cases, edgesX b.term.to]) (by rw [take_snoc hi, List.map_append]; rfl)) (Drops.keep (Drops.keep (Drops.keep (Drops.keep (Zt2 _))))))))⟩
  ·
   have hje : j = b.ins.length := by omega
   subst hje
   have hsi : V.le (.sl 4 (some ti) ((b.ins.take b.ins.length).map insV)) (inssX b.ins) := by rw [Yg]; exact V.le.strip
   refine Zt (Ze1 (Ze1 (Zc1 (Zi ?_))))
   refine VW_cells 1 (ls' := [intsX b.params, inssX b.ins, .int b.term.kind, .int b.term.arg, .int b.term.n, intsX b.term.cases, edgesX b.term.to]) rfl ⟨V.le.refl _, rfl, hsi, rfl, V.le.refl _, rfl, V.le.refl _, rfl, V.le.refl _, rfl, V.le.refl _, rfl, V.le.refl _, rfl, trivial⟩ ?_
   refine Zb (Zd (Zc (Zj VT.fa50_2 rfl (Zc (Zj VT.fa47_3 rfl (Zc (Zu 2 VT.ty41 rfl rfl rfl ?_)))))))
   refine Zc (Zx1 [.tmp 47] rfl rfl VT.en28 (intsClone_c b.term.cases (by omega)) ?_)
   refine Zc (Zj VT.fa50_2 rfl (Zc (Zj VT.fa47_3 rfl (Zc (Zy 1 VT.ty41 rfl rfl rfl rfl rfl (Za (Zi (Zb (Zd (Zc (Zj VT.fa50_2 rfl (Zc (Zj VT.fa47_4 rfl (Zc (Zy 1 VT.ty45 rfl rfl rfl rfl rfl (Za (Zi (Zb (Zb (Zd (Zc (Zj VT.fa50_2 rfl (Zc (Zj VT.fa47_4 rfl ?_))))))))))))))))))))))))
   refine Zc (Zu 2 VT.ty45 rfl rfl rfl ?_)
   refine Zc (Zd2 (n := b.term.to.length) Tryz.underlying45 rfl (by simp) (fun hl56 => ?_))
   refine Zc (Zl rfl (Za (Zi (Zs ?_))))
   refine Zi2 (ι := Nat × Option XRow) (fun (j, o) => b.term.to.length - j) (fun (j, o) => [(1, some (.ptr g1 0)), (2, some (.ptr g2 0)), (3, some (.ptr g3 0)), (15, some (blocksX f.blocks)), (16, some (.int f.blocks.length)), (17, some (.int k)), (5, some (.ptr g5 0)), (6, some (.ptr g6 0)), (55, some (edgesX b.term.to)), (56, some (.int b.term.to.length)), (57, some (.int j))]) (fun (j, o) => .cells g6 50 [intsX b.params, inssX b.ins, .int b.term.kind, .int b.term.arg, .int b.term.n, intsX b.term.cases, xLeaf o] :: .cells g5 50 [intsX b.params, inssX b.ins, .int b.term.kind, .int b.term.arg, .int b.term.n, intsX b.term.cases, edgesX b.term.to] :: .cells g3 34 [.int f.name, xLeaf out] :: .cells g2 34 VT.zs34 :: .cells g1 34 [.int f.name, blocksX f.blocks] :: (xOwn 79 o ++ (xOwn 50 out ++ eOwn rows))) (fun (j, o) => j ≤ b.term.to.length ∧ xl o = (b.term.to.take j).map edgeV ∧ xOk 2 o) (0, none) ⟨Nat.zero_le _, rfl, trivial⟩ ⟨rfl, rfl, rfl, rfl, rfl, rfl, rfl, rfl, rfl, rfl, rfl, trivial⟩ (Drops.drop (Drops.keep (Drops.keep (Drops.keep (Drops.keep (Drops.keep (Zt2 _))))))) ?_
   rintro ⟨j, o⟩ hB
   change j ≤ b.term.to.length ∧ xl o = (b.term.to.take j).map edgeV ∧ xOk 2 o at hB
   obtain ⟨hj, hxo, hoo⟩ := hB
   refine Zb (Zd (Zc (Zj1 rfl rfl rfl (Za (Zi (Zb ?_))))))
   refine Zn1 rfl (fun h58 => ?_) (fun h58 => ?_)
   ·
    obtain ⟨e, he⟩ := get_of_lt b.term.to j h58
    have hea := c6 e (Yf he)
    have hxl : (xl o).length = j := by rw [hxo, Yb, Yd]; omega
    have hxs : xl o ++ [edgeV e] = ((b.term.to.take (j + 1)).map edgeV) := by rw [hxo, take_snoc he, List.map_append]; rfl
    refine Zi1 (Zi (Zb (Zs (Zb (Zd ?_)))))
    refine Zc (Zz (el := edgeV e) VT.sl45 rfl rfl (by omega) (get_mapS _ he) (fun a59 => ?_))
    refine Zc (Za2 VT.ty79 rfl rfl ?_)
    refine Zc (Zb2 VT.zr79 _ rfl rfl (fun g10 => ?_))
    refine Zc (Zx 0 VT.ty79 rfl rfl rfl rfl rfl (Za (Zi ?_)))
    refine VW_drawR (G := (Option XRow)) [([], [6], []), ([0], [61], []), ([1, 0], [62], []), ([], [10], []), ([3], [64], []), ([], [10], []), ([5], [66], []), ([6, 5], [67], []), ([7, 6, 5, 4, 3], [65, 68], []), ([8, 7, 6, 5, 4, 3], [69], []), (dn 10, [63, 70], [0]), (dn 11, [6], []), (dn 12, [72], []), (dn 13, [73, 71], [])] [10, 13] (twoSt _ (fun x => (.cells g10 79 [.int e.block, intsX e.args] :: .cells g6 50 [intsX b.params, inssX b.ins, .int b.term.kind, .int b.term.arg, .int b.term.n, intsX b.term.cases, xLeaf o] :: .cells g5 50 [intsX b.params, inssX b.ins, .int b.term.kind, .int b.term.arg, .int b.term.n, intsX b.term.cases, edgesX b.term.to] :: .cells g3 34 [.int f.name, xLeaf out] :: .cells g2 34 VT.zs34 :: .cells g1 34 [.int f.name, blocksX f.blocks] :: (xOwn 79 (nrmX 2 ((b.term.to.take (j + 1)).map edgeV) x) ++ (xOwn 50 out ++ eOwn rows)))) (fun x _ => (.cells g10 79 [.int e.block, intsX e.args] :: .cells g6 50 [intsX b.params, inssX b.ins, .int b.term.kind, .int b.term.arg, .int b.term.n, intsX b.term.cases, xLeaf (nrmX 2 ((b.term.to.take (j + 1)).map edgeV) x)] :: .cells g5 50 [intsX b.params, inssX b.ins, .int b.term.kind, .int b.term.arg, .int b.term.n, intsX b.term.cases, edgesX b.term.to] :: .cells g3 34 [.int f.name, xLeaf out] :: .cells g2 34 VT.zs34 :: .cells g1 34 [.int f.name, blocksX f.blocks] :: (xOwn 79 (nrmX 2 ((b.term.to.take (j + 1)).map edgeV) x) ++ (xOwn 50 out ++ eOwn rows))))) [] [61, 62, 63, 64, 65, 66, 67, 68, 69, 70, 71, 72, 73] rfl VT.mix ?_
    refine Zp (Zm _) (Zo rfl rfl ⟨(fun γ => Zf (fun _ h6 => Ze (Zn rfl (Zj VT.fa50_2 h6 z0)))), trivial⟩) ?_
    refine Zp (Zm _) (Zo rfl rfl ⟨(fun γ => Zw 0 0 rfl (fun _ h61 => Ze (Zn rfl (Zj VT.fa47_4 h61 z0)))), trivial⟩) ?_
    refine Zp (Zm _) (Zo rfl rfl ⟨(fun γ => Zw 1 0 rfl (fun _ h62 => Ze (Zn rfl (Zu 1 VT.ty45 h62 rfl rfl z0)))), trivial⟩) ?_
    refine Zp (Zm _) (Zo rfl rfl ⟨(fun γ => Zf (fun _ h10 => Ze (Zn rfl (Zj VT.fa79_0 h10 z0)))), trivial⟩) ?_
    refine Zp (Zm _) (Zo rfl rfl ⟨(fun γ => Zw 3 0 rfl (fun _ h64 => Ze (Zn rfl (Zu 0 VT.ty3 h64 rfl rfl z0)))), trivial⟩) ?_
    refine Zp (Zm _) (Zo rfl rfl ⟨(fun γ => Zf (fun _ h10 => Ze (Zn rfl (Zj VT.fa79_1 h10 z0)))), trivial⟩) ?_
    refine Zp (Zm _) (Zo rfl rfl ⟨(fun γ => Zw 5 0 rfl (fun _ h66 => Ze (Zn rfl (Zu 0 VT.ty41 h66 rfl rfl z0)))), trivial⟩) ?_
    refine Zp (Zm _) (Zo rfl rfl ⟨(fun γ => Zw 6 0 rfl (fun _ h67 => Ze (Zn rfl (Zx1 [.tmp 67] rfl (Zp2 h67 Zq2) VT.en28 (intsClone_c e.args (by omega)) z0)))), trivial⟩) ?_
    refine Zp (Zm _) (Zo rfl rfl ⟨(fun γ => Zw 4 3 rfl (fun _ h65 => Zw 7 0 rfl (fun _ h68 => Ze (Zn rfl (Zf2 [0, 1] [.tmp 65, .tmp 68] VT.st79 rfl rfl (Zp2 h65 (Zp2 h68 Zq2)) rfl z0))))), trivial⟩) ?_
    refine Zp (Zm _) (Zo rfl rfl ⟨(fun γ => Zw 8 0 rfl (fun _ h69 => Ze (Zn rfl (Zk3 [.tmp 69] VT.sl45 rfl rfl rfl (Zp2 h69 Zq2) rfl z0)))), trivial⟩) ?_
    refine Zp (Zw2 (fun x => xLeaf (nrmX 2 ((b.term.to.take (j + 1)).map edgeV) x))) (Zo2 0 rfl (fun γ => Zw 2 7 rfl (fun _ h63 => Zw 9 0 rfl (fun _ h70 => Ze (Zn rfl (V_appendOT (o := o) ([.cells g10 79 [.int e.block, intsX e.args], .cells g6 50 [intsX b.params, inssX b.ins, .int b.term.kind, .int b.term.arg, .int b.term.n, intsX b.term.cases, xLeaf o], .cells g5 50 [intsX b.params, inssX b.ins, .int b.term.kind, .int b.term.arg, .int b.term.n, intsX b.term.cases, edgesX b.term.to], .cells g3 34 [.int f.name, xLeaf out], .cells g2 34 VT.zs34, .cells g1 34 [.int f.name, blocksX f.blocks]] ++ (xOwn 50 out ++ eOwn rows)) (fun o' => (.cells g10 79 [.int e.block, intsX e.args] :: .cells g6 50 [intsX b.params, inssX b.ins, .int b.term.kind, .int b.term.arg, .int b.term.n, intsX b.term.cases, xLeaf o] :: .cells g5 50 [intsX b.params, inssX b.ins, .int b.term.kind, .int b.term.arg, .int b.term.n, intsX b.term.cases, edgesX b.term.to] :: .cells g3 34 [.int f.name, xLeaf out] :: .cells g2 34 VT.zs34 :: .cells g1 34 [.int f.name, blocksX f.blocks] :: (xOwn 79 o' ++ (xOwn 50 out ++ eOwn rows)))) VT.sl45 (by decide) h63 h70 (pullC [.cells g10 79 [.int e.block, intsX e.args], .cells g6 50 [intsX b.params, inssX b.ins, .int b.term.kind, .int b.term.arg, .int b.term.n, intsX b.term.cases, xLeaf o], .cells g5 50 [intsX b.params, inssX b.ins, .int b.term.kind, .int b.term.arg, .int b.term.n, intsX b.term.cases, edgesX b.term.to], .cells g3 34 [.int f.name, xLeaf out], .cells g2 34 VT.zs34, .cells g1 34 [.int f.name, blocksX f.blocks]]) (fun o' => (pullC [.cells g10 79 [.int e.block, intsX e.args], .cells g6 50 [intsX b.params, inssX b.ins, .int b.term.kind, .int b.term.arg, .int b.term.n, intsX b.term.cases, xLeaf o], .cells g5 50 [intsX b.params, inssX b.ins, .int b.term.kind, .int b.term.arg, .int b.term.n, intsX b.term.cases, edgesX b.term.to], .cells g3 34 [.int f.name, xLeaf out], .cells g2 34 VT.zs34, .cells g1 34 [.int f.name, blocksX f.blocks]]).symm) hoo (edges_2 hxo) (fun _ => List.cons_ne_nil _ _) (by rw [hxl, List.length_singleton]; omega) (eflat_1 rfl) (fun o71 e71_1 e71_2 e71_3 => ⟨o71, ⟨_, rfl, (by show some (xLeaf o71) = some (xLeaf (nrmX 2 ((b.term.to.take (j + 1)).map edgeV) o71)); rw [nrmX_eq (e71_1.trans hxs) e71_2])⟩, (by show ((Own.cells g10 79 [.int e.block, intsX e.args] :: .cells g6 50 [intsX b.params, inssX b.ins, .int b.term.kind, .int b.term.arg, .int b.term.n, intsX b.term.cases, xLeaf o] :: .cells g5 50 [intsX b.params, inssX b.ins, .int b.term.kind, .int b.term.arg, .int b.term.n, intsX b.term.cases, edgesX b.term.to] :: .cells g3 34 [.int f.name, xLeaf out] :: .cells g2 34 VT.zs34 :: .cells g1 34 [.int f.name, blocksX f.blocks] :: (xOwn 79 o71 ++ (xOwn 50 out ++ eOwn rows))) : Store) = (.cells g10 79 [.int e.block, intsX e.args] :: .cells g6 50 [intsX b.params, inssX b.ins, .int b.term.kind, .int b.term.arg, .int b.term.n, intsX b.term.cases, xLeaf o] :: .cells g5 50 [intsX b.params, inssX b.ins, .int b.term.kind, .int b.term.arg, .int b.term.n, intsX b.term.cases, edgesX b.term.to] :: .cells g3 34 [.int f.name, xLeaf out] :: .cells g2 34 VT.zs34 :: .cells g1 34 [.int f.name, blocksX f.blocks] :: (xOwn 79 (nrmX 2 ((b.term.to.take (j + 1)).map edgeV) o71) ++ (xOwn 50 out ++ eOwn rows))); rw [nrmX_eq (e71_1.trans hxs) e71_2])⟩))))))) ?_
    refine Zp (Zm _) (Zo rfl rfl ⟨(fun γ => Zf (fun _ h6 => Ze (Zn rfl (Zj VT.fa50_2 h6 z0)))), trivial⟩) ?_
    refine Zp (Zm _) (Zo rfl rfl ⟨(fun γ => Zw 11 0 rfl (fun _ h72 => Ze (Zn rfl (Zj VT.fa47_4 h72 z0)))), trivial⟩) ?_
    refine Zp Za3 (Zo2 1 rfl (fun γ => Zw 12 0 rfl (fun _ h73 => Zw 10 2 rfl (fun _ h71 => Ze (Zx2 h71 (fun e71 => Zn rfl (Zy 1 VT.ty45 h73 e71 (xLeaf_leaf _) rfl rfl ⟨default, trivial, rfl⟩))))))) ?_
    refine DrawP_nil (fun γ => Ze ?_)
    refine Zb1 (Zi ?_)
    obtain ⟨n1, n2⟩ := nrmX_ok (sz := 2) (xs := ((b.term.to.take (j + 1)).map edgeV)) (edges_2 rfl) (by rw [Yb, Yd]; simp only [maxLen]; omega) (γ 0)
    refine Zd ?_
    refine Zc (Zh2 rfl rfl (by omega) ?_)
    refine Zc (Zl rfl (Za (Zi ?_)))
    exact ⟨(j + 1, nrmX 2 ((b.term.to.take (j + 1)).map edgeV) (γ 0)), (by (try simp only []); omega), ⟨by omega, n1, n2⟩, ⟨rfl, rfl, rfl, rfl, rfl, rfl, rfl, rfl, rfl, rfl, rfl, trivial⟩, (Drops.drop (Drops.keep (Drops.keep (Drops.keep (Drops.keep (Drops.keep (Zt2 _)))))))⟩
   ·
    have hje : j = b.term.to.length := by omega
    subst hje
    rw [Yg] at hxo
    have hR2 := rows_snoc hR hb hxo hoo
    refine Zt (Ze1 (Ze1 (Zc1 (Zi (Zd (Zc (Zj VT.fa34_1 rfl (Zc (Zu 2 VT.ty32 rfl rfl rfl (Zc (Zv 0 VT.ty50 rfl rfl rfl ?_)))))))))))
    refine Zc (Zk3 [.tmp 77] VT.sl32 rfl rfl rfl rfl (cpV_fit b o) ?_)
    refine Zc (V_appendOT (o := out) ([.cells g6 50 [intsX b.params, inssX b.ins, .int b.term.kind, .int b.term.arg, .int b.term.n, intsX b.term.cases, xLeaf o], .cells g5 50 [intsX b.params, inssX b.ins, .int b.term.kind, .int b.term.arg, .int b.term.n, intsX b.term.cases, edgesX b.term.to], .cells g3 34 [.int f.name, xLeaf out], .cells g2 34 VT.zs34, .cells g1 34 [.int f.name, blocksX f.blocks]] ++ (xOwn 79 o ++ eOwn rows)) (fun o' => .cells g6 50 [intsX b.params, inssX b.ins, .int b.term.kind, .int b.term.arg, .int b.term.n, intsX b.term.cases, xLeaf o] :: .cells g5 50 [intsX b.params, inssX b.ins, .int b.term.kind, .int b.term.arg, .int b.term.n, intsX b.term.cases, edgesX b.term.to] :: .cells g3 34 [.int f.name, xLeaf out] :: .cells g2 34 VT.zs34 :: .cells g1 34 [.int f.name, blocksX f.blocks] :: (xOwn 50 o' ++ (xOwn 79 o ++ eOwn rows))) VT.sl32 (by decide) rfl rfl (pullC ([.cells g6 50 [intsX b.params, inssX b.ins, .int b.term.kind, .int b.term.arg, .int b.term.n, intsX b.term.cases, xLeaf o], .cells g5 50 [intsX b.params, inssX b.ins, .int b.term.kind, .int b.term.arg, .int b.term.n, intsX b.term.cases, edgesX b.term.to], .cells g3 34 [.int f.name, xLeaf out], .cells g2 34 VT.zs34, .cells g1 34 [.int f.name, blocksX f.blocks]] ++ xOwn 79 o)) (fun o' => (pullC [.cells g6 50 [intsX b.params, inssX b.ins, .int b.term.kind, .int b.term.arg, .int b.term.n, intsX b.term.cases, xLeaf o], .cells g5 50 [intsX b.params, inssX b.ins, .int b.term.kind, .int b.term.arg, .int b.term.n, intsX b.term.cases, edgesX b.term.to], .cells g3 34 [.int f.name, xLeaf out], .cells g2 34 VT.zs34, .cells g1 34 [.int f.name, blocksX f.blocks]]).symm) huo (cpL_7 hxu) (fun _ => List.cons_ne_nil _ _) (by rw [hxu, hkl, List.length_singleton]; omega) (cpV_flat b o) (fun o79 e79_1 e79_2 e79_3 => ?_))
    refine Zc (Zj VT.fa34_1 rfl ?_)
    refine Zc (Zy 2 VT.ty32 rfl rfl (xLeaf_leaf _) rfl rfl ?_)
    refine Za (Zb1 (Zi ?_))
    refine VW_drops (S' := .cells g3 34 [.int f.name, xLeaf o79] :: .cells g2 34 VT.zs34 :: .cells g1 34 [.int f.name, blocksX f.blocks] :: (xOwn 50 o79 ++ eOwn (rows ++ [o]))) (.drop (.drop (.keep (.keep (.keep (drops_append _ (.of_perm (eown_snoc rows o)))))))) ?_
    refine Zd ?_
    refine Zc (Zh2 rfl rfl (by omega) ?_)
    refine Zc (Zl rfl (Za (Zi ?_)))
    exact ⟨(k + 1, o79, rows ++ [o]), (by (try simp only []); omega), ⟨by omega, hR2, e79_1.trans (by rw [hxu]; exact cpL_snoc o hR hb), e79_2⟩, ⟨rfl, rfl, rfl, rfl, rfl, rfl, trivial⟩, (Drops.keep (Drops.keep (Drops.keep (Zt2 _))))⟩
 ·
  have hke : k = f.blocks.length := by omega
  subst hke
  rw [Yg] at hR
  rw [Yg] at hxu
  refine Zt (Ze1 (Ze1 (Zc1 (Zi (Zb (Zd (Zc (Zv 0 VT.ty34 rfl rfl rfl (Zc (Zx 1 VT.ty34 rfl rfl rfl rfl rfl (Za (Zi (Zf1 ?_)))))))))))))
  refine Zg1 rfl (.agg (i := 1) VT.ty34 rfl rfl rfl) ?_
  exact ⟨_, .drop (.drop (.drop (.refl _))), rows, out, hR, hxu, huo, rfl, rfl⟩
end Go.Proofs.YtjekhhgjfelpgaaGreat.X25
end
section
namespace Go.Proofs.YtjekhhgjfelpgaaGreat.X26
open Go.VL Go.SM Go.Proofs.YtjekhhgjfelpgaaGreat XS X1 X2 X3 X4 X5 X6 X7 X8 X9 X10 X12 X13 X14 X20 X25
def reE (at_ : List Int) (e : SEdge) : SEdge := ⟨gI at_ e.block, e.args⟩
def setE (o : Option XRow) (es : List SEdge) : Option XRow := o.map fun r => ⟨r.g, r.cap, es.map edgeV, r.rest⟩
def blk (f : SFunc) (v : Nat) : SBlock := f.blocks[v]?.getD default
def ecells (es : List SEdge) : List V := es.flatMap fun e => [.int e.block, intsX e.args]
theorem ecells_eq (es : List SEdge) : (es.map edgeV).flatMap V.leaves = ecells es := by
 rw [List.flatMap_map]
 rfl
theorem ecells_len (es : List SEdge) : (ecells es).length = es.length * 2 := by
 induction es with
 | nil => rfl
 | cons a es ih =>
  have hl : ecells (a :: es) = [.int a.block, intsX a.args] ++ ecells es := rfl
  rw [hl, Ya, ih]
  simp only [Yi, Yj]
  omega
theorem ecells_set {es : List SEdge} {j : Nat} {e : SEdge} (h : es[j]? = some e) (p : Int) : (ecells es).set (j * 2) (.int p) = ecells (es.set j ⟨p, e.args⟩) := by
 induction es generalizing j with
 | nil => simp at h
 | cons a es ih =>
  have hl : ∀ a : SEdge, ∀ es : List SEdge, ecells (a :: es) = [.int a.block, intsX a.args] ++ ecells es := fun _ _ => rfl
  cases j with
  | zero =>
   have h : a = e := by simpa using h
   subst h
   rfl
  | succ j =>
   have h : es[j]? = some e := by simpa using h
   rw [List.set_cons_succ, hl, hl, ← ih h, List.set_append]
   have e1 : ¬ ((j + 1) * 2 < ([V.int a.block, intsX a.args] : List V).length) := by simp only [Yi, Yj]; omega
   have e2 : (j + 1) * 2 - ([V.int a.block, intsX a.args] : List V).length = j * 2 := by simp only [Yi, Yj]; omega
   rw [if_neg e1, e2]
theorem setE_self {o : Option XRow} {es : List SEdge} (h : xl o = es.map edgeV) : setE o es = o := by
 cases o with
 | none => rfl
 | some r =>
  have h : r.xs = es.map edgeV := h
  show some (XRow.mk r.g r.cap (es.map edgeV) r.rest) = some r
  rw [← h]
theorem eown_set {rows : List (Option XRow)} {v : Nat} (hv : v < rows.length) (o : Option XRow) : (eOwn (rows.set v o)).Perm (xOwn 79 o ++ eOwn (rows.set v none)) := by
 have h2 : ∀ x, rows.set v x = rows.take v ++ x :: rows.drop (v + 1) := fun x => by rw [List.set_eq_take_append_cons_drop, if_pos hv]
 unfold eOwn
 rw [h2, h2, Ye, Yc, Ye, Yc]
 show (_ ++ (xOwn 79 o ++ _)).Perm (xOwn 79 o ++ (_ ++ ([] ++ _)))
 rw [List.nil_append, ← List.append_assoc, ← List.append_assoc]
 exact List.perm_append_comm.append_right _
structure PInv (f : SFunc) (rows rows2 : List (Option XRow)) (i : Nat) : Prop where
 len : rows2.length = rows.length
 row : ∀ (v : Nat) (b : SBlock) (o o2 : Option XRow), f.blocks[v]? = some b → rows[v]? = some o → rows2[v]? = some o2 → xLeaf o2 = xLeaf o ∧ xOk 2 o2 ∧ xl o2 = (if v ∈ (reachN f).take i then b.term.to.map (reE (atF f)) else b.term.to).map edgeV
theorem xLeaf_set {o : Option XRow} {es : List SEdge} (h : (xl o).length = es.length) : xLeaf (setE o es) = xLeaf o := by
 cases o with
 | none => rfl
 | some r =>
  have h : r.xs.length = es.length := h
  show V.raw (.slice (some ⟨r.g, 0, none⟩) (es.map edgeV).length r.cap) = .raw (.slice (some ⟨r.g, 0, none⟩) r.xs.length r.cap)
  rw [Yb, h]
theorem xOk_set {o : Option XRow} {es0 es : List SEdge} (h0 : xl o = es0.map edgeV) (h : es0.length = es.length) (hk : xOk 2 o) : xOk 2 (setE o es) := by
 cases o with
 | none => trivial
 | some r =>
  have h0 : r.xs = es0.map edgeV := h0
  obtain ⟨h1, h2, h3⟩ := hk
  rw [h0] at h1 h3
  rw [ecells_eq, Ya, ecells_len] at h3
  rw [Yb] at h1
  refine ⟨?_, h2, ?_⟩
  ·show (es.map edgeV).length ≤ r.cap
   rw [Yb]; omega
  ·show ((es.map edgeV).flatMap V.leaves ++ r.rest).length = r.cap * 2
   rw [ecells_eq, Ya, ecells_len]
   omega
theorem xl_set {o : Option XRow} {es : List SEdge} (h : (xl o).length = es.length) : xl (setE o es) = es.map edgeV := by
 cases o with
 | none =>
  have h : 0 = es.length := h
  rw [List.length_eq_zero_iff.1 h.symm]
  rfl
 | some r => rfl
theorem cpL_get {bs : List SBlock} {rows : List (Option XRow)} {v : Nat} {b : SBlock} {o : Option XRow} (hb : bs[v]? = some b) (ho : rows[v]? = some o) : (cpL bs rows)[v]? = some (cpV b o) := by
 unfold cpL
 rw [List.getElem?_zipWith, hb, ho]
theorem cp_ok {f : SFunc} (h0 : funcF f = 0) : CpOk f := by
 have hok := func_ok h0
 have fi := func_iff.1 h0
 have hl := nodup_wi fi.kok.nodup fi.kok.wi
 rw [keysL] at hl
 have h128 := hok.len
 have hp : ∀ b ∈ f.blocks, b.params.length ≤ 4096 ∧ b.ins.length ≤ 4096 := fun b hb => by
  obtain ⟨s, t, e⟩ := List.append_of_mem hb
  rw [e, Ye, Yc, Ya, Ya, Yb, dB, Ya, keysI_len, Yb] at hl
  omega
 refine ⟨by omega, fun b hb => ?_⟩
 obtain ⟨b1, b2⟩ := fi.block b hb
 have he := endF_ok b2
 have h1 := hp b hb
 have h2 := term_edges hok hb
 have h3 := he.many
 refine ⟨by omega, by omega, by omega, by omega, fun i hi => ?_, fun e hem => ?_⟩
 ·have := (form_of (b1 i hi)).many
  omega
 ·obtain ⟨x1, x2, x3⟩ := he.edges e hem
  obtain ⟨c, hc⟩ : ∃ c, f.blocks[e.block.toNat]? = some c := ⟨_, List.getElem?_eq_getElem (by omega)⟩
  have h4 := (hp c (Yf hc)).1
  unfold paramsOf at x3
  rw [hc] at x3
  have x3 : e.args.length = c.params.length := x3
  omega
theorem fits_es (l : List SEdge) : ∀ x ∈ l.map edgeV, x.fits 2 = true ∧ ((∃ ls, x = .agg ls) ∨ x.leaf = true) := fun x hx => by
 obtain ⟨n, _, rfl⟩ := List.mem_map.1 hx
 exact ⟨rfl, .inl ⟨_, rfl⟩⟩
theorem freeze_blocks {nt : Nat} {Q : Exit → Fr → Store → Prop} {F : Fr} {c : Code} (go : Nat) (rest : List V) : ∀ (L : List (SBlock × Option XRow)) (pre : List V) (R : Store), (∀ x ∈ L, xl x.2 = x.1.term.to.map edgeV ∧ xOk 2 x.2) → VW Tryz.prog nt c Q F (.cells go 50 (pre ++ ((L.map fun x => blockV x.1).flatMap V.leaves ++ rest)) :: R) → VW Tryz.prog nt c Q F (.cells go 50 (pre ++ ((L.map fun x => cpV x.1 x.2).flatMap V.leaves ++ rest)) :: (eOwn (L.map (·.2)) ++ R))
 | [], pre, R, _, h => h
 | (b, o) :: L, pre, R, ho, h => by
  obtain ⟨hx, hk⟩ := ho _ (List.mem_cons_self ..)
  have e : ∀ (a : List V) (l : List V), pre ++ (a ++ l ++ rest) = (pre ++ a) ++ (l ++ rest) := fun a l => by simp
  have h2 := freeze_blocks go rest L (pre ++ (blockV b).leaves) R (fun x hx => ho x (List.mem_cons_of_mem _ hx)) (by rw [List.map_cons, Yc, e] at h; exact h)
  have hset : ∀ (x y : V), (pre ++ ([intsX b.params, inssX b.ins, .int b.term.kind, .int b.term.arg, .int b.term.n, intsX b.term.cases, x] ++ (L.map fun x => cpV x.1 x.2).flatMap V.leaves ++ rest)).set (pre.length + 6) y = (pre ++ [intsX b.params, inssX b.ins, .int b.term.kind, .int b.term.arg, .int b.term.n, intsX b.term.cases, y]) ++ ((L.map fun x => cpV x.1 x.2).flatMap V.leaves ++ rest) := fun x y => by
   rw [List.set_append_right _ _ (by omega), Nat.add_sub_cancel_left]
   simp
  have hget : ∀ (x : V), (pre ++ ([intsX b.params, inssX b.ins, .int b.term.kind, .int b.term.arg, .int b.term.n, intsX b.term.cases, x] ++ (L.map fun x => cpV x.1 x.2).flatMap V.leaves ++ rest))[pre.length + 6]? = some x := fun x => by
   rw [Yh (by omega), Nat.add_sub_cancel_left]
   rfl
  rw [List.map_cons, Yc]
  cases o with
  | none =>
   have hto : b.term.to = [] := by
    have hx : ([] : List V) = b.term.to.map edgeV := hx
    exact List.map_eq_nil_iff.1 hx.symm
   refine VW_cellAt 0 (pre.length + 6) (v' := .sl 2 none []) rfl (hget V.nilSl) (V.le.nil 2) rfl ?_
   show VW Tryz.prog nt c Q F (.cells go 50 ((pre ++ ([intsX b.params, inssX b.ins, .int b.term.kind, .int b.term.arg, .int b.term.n, intsX b.term.cases, V.nilSl] ++ (L.map fun x => cpV x.1 x.2).flatMap V.leaves ++ rest)).set (pre.length + 6) (.sl 2 none [])) :: (eOwn (L.map (·.2)) ++ R))
   rw [hset]
   have e3 : (blockV b).leaves = [intsX b.params, inssX b.ins, .int b.term.kind, .int b.term.arg, .int b.term.n, intsX b.term.cases, .sl 2 none []] := by
    show [_, _, _, _, _, _, edgesX b.term.to] = _
    rw [hto]
    rfl
   rw [← e3]
   exact h2
  | some r =>
   obtain ⟨q2, q3, q4⟩ := hk
   have hx : r.xs = b.term.to.map edgeV := hx
   refine VW_freezeC 1 0 (pre.length + 6) (sz := 2) (rest := r.rest) (b.term.to.map edgeV) rfl rfl (hget _) (by rw [hx]) (by rw [hx]) q2 q3 (fits_es _) ?_
   show VW Tryz.prog nt c Q F (.cells go 50 ((pre ++ ([intsX b.params, inssX b.ins, .int b.term.kind, .int b.term.arg, .int b.term.n, intsX b.term.cases, xLeaf (some r)] ++ (L.map fun x => cpV x.1 x.2).flatMap V.leaves ++ rest)).set (pre.length + 6) (.sl 2 none (b.term.to.map edgeV))) :: (eOwn (L.map (·.2)) ++ R))
   rw [hset]
   exact h2
theorem fits_bs (l : List SBlock) : ∀ x ∈ l.map blockV, x.fits 7 = true ∧ ((∃ ls, x = .agg ls) ∨ x.leaf = true) := fun x hx => by
 obtain ⟨n, _, rfl⟩ := List.mem_map.1 hx
 exact ⟨rfl, .inl ⟨_, rfl⟩⟩
theorem sort_nil : VPure Tryz.prog 33 [.sl 1 none []] (.raw (.tuple #[])) := fun m w us hu hw => by
 obtain ⟨u, us', rfl, ⟨A, cap, hu1, _⟩, hu2⟩ := hu
 have hu2 : us' = [] := hu2
 have hu1 : u = .slice A 0 cap := hu1
 subst hu1 hu2
 exact (Any.slices_Sort_int_none XS.lays A cap w).mono fun e w' ⟨h1, h2⟩ => ⟨_, [], m, .tuple #[], rfl, h1, rfl, by rw [h2]; exact Step.refl hw⟩
theorem eown_some {rows : List (Option XRow)} {v : Nat} (hv : v < rows.length) (r : XRow) (es : List SEdge) : (eOwn (rows.set v (setE (some r) es))).Perm (.cells r.g 79 (ecells es ++ r.rest) :: eOwn (rows.set v none)) := by
 have h := eown_set hv (setE (some r) es)
 have e : xOwn 79 (setE (some r) es) = [.cells r.g 79 (ecells es ++ r.rest)] := by
  show [Own.cells r.g 79 ((es.map edgeV).flatMap V.leaves ++ r.rest)] = _
  rw [ecells_eq]
 rw [e] at h
 exact h
theorem cp_leaf {b : SBlock} {o o2 : Option XRow} (h : xLeaf o2 = xLeaf o) : cpV b o = cpV b o2 := by
 unfold cpV
 rw [h]
theorem row_some {o : Option XRow} {l : List SEdge} {j : Nat} {e : SEdge} (hx : xl o = l.map edgeV) (h : l[j]? = some e) : ∃ r, o = some r ∧ r.xs.length = l.length := by
 cases o with
 | none =>
  have hx : [] = l.map edgeV := hx
  have : l = [] := List.map_eq_nil_iff.1 hx.symm
  rw [this] at h
  cases h
 | some r =>
  have hx : r.xs = l.map edgeV := hx
  exact ⟨r, rfl, by rw [hx, Yb]⟩
set_option maxRecDepth 100000 in
theorem ReachE_c {f : SFunc} (h0 : funcF f ≠ 0) : VPure Tryz.prog 30 [funcV f] (.tup [intsX [], .int (funcF f)]) := by
 have hO := Order_c f
 rw [if_neg h0] at hO
 refine V_start (nt := 15) Tryz.func30 rfl rfl rfl ?_
 refine Zb (Zd ?_)
 refine Zc (Zc2 rfl rfl (fun g1 => ?_))
 refine Zc (Zk rfl (Zc (Zk rfl (Za (Zi (Zb (Zd (Zc (Zv 0 VT.ty34 rfl rfl rfl ?_)))))))))
 refine Zc (Zu2 (Zx1 [.tmp 7] rfl rfl VT.en54 (hO) ⟨rfl, rfl⟩) ((V.le.refl _ : V.le _ (.tup [intsX [], .int (funcF f)]))) ?_)
 refine Zc (Zl rfl (Zc (Zg2 rfl rfl (Zc (Zg2 rfl rfl (Zc (Zk rfl (Zc (Zk rfl (Za (Zi (Zb (Zd (Zc (Zl rfl ?_)))))))))))))))
 refine Zc (Zx1 [.tmp 11] rfl rfl VT.en33 (sort_nil) ?_)
 refine Za (Zi (Zb (Zd (Zc (Zl rfl (Zc (Zl rfl (Zc (Zk rfl (Zc (Zk rfl (Za (Zi (Zf1 ?_))))))))))))))
 refine Zh1 rfl rfl (.cons (.tmp rfl) (.cons (.tmp rfl) (.nil))) ?_
 rfl
end Go.Proofs.YtjekhhgjfelpgaaGreat.X26
end
