import Derived.Test.YtjekhhgjfelpgaaGreatVM
import Derived.Test.YtjekhhgjfelpgaaGreatXS
import Derived.Test.YtjekhhgjfelpgaaGreatX14
set_option linter.all false
open List renaming length_take → Ya, take_length → Yb, mem_of_getElem? → Yc, getElem?_eq_some_iff → Yd, getElem?_append_left → Ye, getElem?_append_right → Yf
namespace Go.Proofs.YtjekhhgjfelpgaaGreat.X25
open Go.VL Go.SM Go.Proofs.YtjekhhgjfelpgaaGreat XS X1 X2 X3 X4 X5 X6 X7 X8 X9 X10 X12 X13 X14
def cpV (b : SBlock) (o : Option XRow) : V := .agg [intsX b.params, inssX b.ins, .int b.term.kind, .int b.term.arg, .int b.term.n, intsX b.term.cases, xLeaf o]
def cpL (bs : List SBlock) (rows : List (Option XRow)) : List V := List.zipWith cpV bs rows
abbrev eOwn (rows : List (Option XRow)) : Store := rows.flatMap (xOwn 79)
structure RowsOk (bs : List SBlock) (rows : List (Option XRow)) : Prop where
  len : rows.length = bs.length
  row : ∀ (k : Nat) (b : SBlock) (o : Option XRow), bs[k]? = some b → rows[k]? = some o → xl o = b.term.to.map edgeV ∧ xOk 2 o
theorem xLeaf_leaf (o : Option XRow) : (xLeaf o).leaf = true := by cases o <;> rfl
theorem cpV_fit (b : SBlock) (o : Option XRow) : ([cpV b o] : List V).all (V.fits 7) = true := by cases o <;> rfl
theorem cpL_snoc {bs : List SBlock} {rows : List (Option XRow)} {k : Nat} {b : SBlock} (o : Option XRow) (h : RowsOk (bs.take k) rows) (hb : bs[k]? = some b) : cpL (bs.take k) rows ++ [cpV b o] = cpL (bs.take (k + 1)) (rows ++ [o]) := by
  unfold cpL
  rw [take_snoc hb, List.zipWith_append h.len.symm]
  rfl
theorem cpL_len {bs : List SBlock} {rows : List (Option XRow)} (h : RowsOk bs rows) : (cpL bs rows).length = bs.length := by
  unfold cpL
  rw [List.length_zipWith, h.len, Nat.min_self]
theorem rows_nil : RowsOk [] [] := ⟨rfl, fun k b o hb => by simp at hb⟩
theorem rows_snoc {bs : List SBlock} {rows : List (Option XRow)} {k : Nat} {b : SBlock} {o : Option XRow} (h : RowsOk (bs.take k) rows) (hb : bs[k]? = some b) (h1 : xl o = b.term.to.map edgeV) (h2 : xOk 2 o) : RowsOk (bs.take (k + 1)) (rows ++ [o]) := by
  have hl := h.len
  have hkb := (Yd.1 hb).1
  rw [Ya] at hl
  refine ⟨by rw [take_snoc hb, List.length_append, List.length_append, h.len]; rfl, fun j c p hc hp => ?_⟩
  rw [take_snoc hb] at hc
  by_cases hj : j < rows.length
  · rw [Ye hj] at hp
    rw [Ye (by rw [← h.len]; exact hj)] at hc
    exact h.row j c p hc hp
  · rw [Yf (by omega)] at hp
    rw [Yf (by rw [← h.len]; omega), ← h.len] at hc
    have hj0 : j - rows.length = 0 := by
      have := (Yd.1 hp).1
      simp at this
      omega
    rw [hj0] at hc hp
    have hc : b = c := by simpa using hc
    have hp : o = p := by simpa using hp
    subst hc hp
    exact ⟨h1, h2⟩
theorem edges_2 {xs : List V} {l : List SEdge} (h : xs = l.map edgeV) : ∀ v ∈ xs, v.leaves.length = 2 := fun v hv => by
  rw [h] at hv
  obtain ⟨n, _, rfl⟩ := List.mem_map.1 hv
  rfl
theorem eflat_1 {x : V} (h : x.flat = true) : ∀ y ∈ [x], y.flat = true := fun y hy => by rw [List.mem_singleton.1 hy]; exact h
structure CpOk (f : SFunc) : Prop where
  many : f.blocks.length ≤ 1000
  block : ∀ b ∈ f.blocks, b.params.length ≤ 10000 ∧ b.ins.length ≤ 10000 ∧ b.term.cases.length ≤ 10000 ∧ b.term.to.length ≤ 10000 ∧ (∀ i ∈ b.ins, i.args.length ≤ 10000) ∧ ∀ e ∈ b.term.to, e.args.length ≤ 10000
theorem eown_snoc (rows : List (Option XRow)) (o : Option XRow) : (xOwn 79 o ++ eOwn rows).Perm (eOwn (rows ++ [o])) := by
  unfold eOwn
  rw [List.flatMap_append, List.flatMap_singleton]
  exact List.perm_append_comm
theorem cpL_7 {bs : List SBlock} {rows : List (Option XRow)} {xs : List V} (h : xs = cpL bs rows) : ∀ x ∈ xs, x.leaves.length = 7 := fun x hx => by
  rw [h] at hx
  obtain ⟨i, hi⟩ := List.getElem?_of_mem hx
  unfold cpL at hi
  rw [List.getElem?_zipWith] at hi
  split at hi
  · injection hi with hi
    rw [← hi]
    rfl
  · cases hi
theorem cpV_flat (b : SBlock) (o : Option XRow) : ∀ y ∈ [cpV b o], y.flat = true := fun y hy => by
  rw [List.mem_singleton.1 hy]
  cases o <;> rfl
set_option maxRecDepth 100000 in
theorem intsClone_c (l : List Int) (hl : l.length ≤ 1000000) : VPure Tryz.prog 28 [.sl 1 none (l.map V.int)] (.sl 1 none (l.map V.int)) := by
 refine V_start (nt := 8) Tryz.func28 rfl rfl rfl ?_
 refine Zb (Zd (Zc (Zk rfl (Za (Zi (Zb (Zb (Zd (Zc (Zl rfl ?_))))))))))
 refine Zc (V_eqNil Tryz.underlying41 rfl (fun b4 hb4 => ?_))
 refine Za (Zi ?_)
 refine Zr1 rfl (fun h4 => ?_) (fun h4 => ?_)
 ·
  have hn : l = [] := by simpa using hb4 h4
  subst hn
  refine Zb (Zd ?_)
  refine Zc (Zu2 (Zk rfl ⟨rfl, rfl⟩) (V.le.nil 1) ?_)
  refine Za (Zi (Zf1 ?_))
  refine Zd1 (Zg1 rfl (.strip rfl) ?_)
  rfl
 ·
  refine Zi1 (Zi (Zb (Zd ?_)))
  refine Zc (V_litTok [] VT.sl41 rfl rfl rfl rfl rfl (fun t5 => ?_))
  refine Zc (Zl rfl ?_)
  refine Zc (Zi3 0 _ VT.sl41 rfl rfl rfl (by simp) (by simp; omega) (fun t7 => ?_))
  refine Zc (Zk rfl (Za (Zi (Zf1 ?_))))
  refine Zg1 rfl (.strip rfl) ?_
  rfl
set_option maxRecDepth 100000 in
set_option maxHeartbeats 16000000 in
theorem CopyX_c {f : SFunc} (hc : CpOk f) : VCalls Tryz.prog 25 [funcV f] [] fun r S' => ∃ rows out, RowsOk f.blocks rows ∧ xl out = cpL f.blocks rows ∧ xOk 7 out ∧ r = .agg [.int f.name, xLeaf out] ∧ S' = xOwn 50 out ++ eOwn rows := by
 refine VCalls_drops ?_
 have hmany := hc.many
 refine V_start (nt := 83) Tryz.func25 rfl rfl rfl ?_
 refine Zb (Zd ?_)
 refine Zc (Zc2 rfl rfl (fun g1 => ?_))
 refine Zc (Zb2 VT.zr34 _ rfl rfl (fun g2 => ?_))
 refine Za (Zi (Zb (Zd (Zc (Zj VT.fa34_0 rfl (Zc (Zu 1 VT.ty3 rfl rfl rfl ?_)))))))
 refine Zc (Zf2 [0] [.tmp 12] VT.st34 rfl rfl rfl rfl ?_)
 refine Zc (Zb2 VT.zr34 _ rfl rfl (fun g3 => ?_))
 refine Zc (Zx 0 VT.ty34 rfl rfl rfl rfl rfl (Za (Zi (Zb (Zb (Zd (Zc (Zj VT.fa34_1 rfl (Zc (Zu 2 VT.ty32 rfl rfl rfl ?_))))))))))
 refine Zc (Zd2 (n := f.blocks.length) Tryz.underlying32 rfl (by simp) (fun hl16 => ?_))
 refine Zc (Zl rfl (Za (Zi (Zs ?_))))
 refine Zi2 (ι := Nat × Option XRow × List (Option XRow)) (fun (k, out, rows) => f.blocks.length - k) (fun (k, out, rows) => [(1, some (.ptr g1 0)), (2, some (.ptr g2 0)), (3, some (.ptr g3 0)), (15, some (blocksX f.blocks)), (16, some (.int f.blocks.length)), (17, some (.int k))]) (fun (k, out, rows) => .cells g3 34 [.int f.name, xLeaf out] :: .cells g2 34 VT.zs34 :: .cells g1 34 [.int f.name, blocksX f.blocks] :: (xOwn 50 out ++ eOwn rows)) (fun (k, out, rows) => k ≤ f.blocks.length ∧ RowsOk (f.blocks.take k) rows ∧ xl out = cpL (f.blocks.take k) rows ∧ xOk 7 out) (0, none, []) ⟨Nat.zero_le _, rows_nil, rfl, trivial⟩ ⟨rfl, rfl, rfl, rfl, rfl, rfl, trivial⟩ (Zt2 _) ?_
 rintro ⟨k, out, rows⟩ hA
 change k ≤ f.blocks.length ∧ RowsOk (f.blocks.take k) rows ∧ xl out = cpL (f.blocks.take k) rows ∧ xOk 7 out at hA
 obtain ⟨hk, hR, hxu, huo⟩ := hA
 refine Zb (Zd (Zc (Zj1 rfl rfl rfl (Za (Zi (Zb ?_))))))
 refine Zn1 rfl (fun h18 => ?_) (fun h18 => ?_)
 ·
  obtain ⟨b, hb⟩ := get_of_lt f.blocks k h18
  obtain ⟨c1, c2, c3, c4, c5, c6⟩ := hc.block b (Yc hb)
  have hkl : (cpL (f.blocks.take k) rows).length = k := by rw [cpL_len hR, Ya]; omega
  refine Zi1 (Zi (Zb (Zs (Zb (Zd ?_)))))
  refine Zc (Zz (el := blockV b) VT.sl32 rfl rfl (by omega) (get_mapS _ hb) (fun a19 => ?_))
  refine Zc (Za2 VT.ty50 rfl rfl ?_)
  refine Zc (Zb2 VT.zr50 _ rfl rfl (fun g5 => ?_))
  refine Zc (Zx 0 VT.ty50 rfl rfl rfl rfl rfl (Za (Zi (Zb ?_))))
  refine VW_drawR (G := Nat) [([], [5], []), ([0], [21], []), ([1, 0], [22], []), ([], [5], []), ([3], [24], []), (dn 5, [23, 25], []), ([], [], [0]), (dn 7, [6, 26], [])] [6, 7] (twoSt _ (fun x => .cells x 50 VT.zs50 :: .cells g5 50 [intsX b.params, inssX b.ins, .int b.term.kind, .int b.term.arg, .int b.term.n, intsX b.term.cases, edgesX b.term.to] :: .cells g3 34 [.int f.name, xLeaf out] :: .cells g2 34 VT.zs34 :: .cells g1 34 [.int f.name, blocksX f.blocks] :: (xOwn 50 out ++ eOwn rows)) (fun x _ => .cells x 50 [intsX b.params, V.nilSl, .int b.term.kind, .int b.term.arg, .int b.term.n, intsX b.term.cases, edgesX b.term.to] :: .cells g5 50 [intsX b.params, inssX b.ins, .int b.term.kind, .int b.term.arg, .int b.term.n, intsX b.term.cases, edgesX b.term.to] :: .cells g3 34 [.int f.name, xLeaf out] :: .cells g2 34 VT.zs34 :: .cells g1 34 [.int f.name, blocksX f.blocks] :: (xOwn 50 out ++ eOwn rows))) [6] [6, 21, 22, 23, 24, 25, 26] rfl VT.mix ?_
  refine Zp (Zm _) (Zm2 rfl (fun _ => (fun γ => Zf (fun _ h5 => Ze (Zn rfl (Zj VT.fa50_0 h5 z0)))))) ?_
  refine Zp (Zm _) (Zo rfl rfl ⟨(fun γ => Zw 0 0 rfl (fun _ h21 => Ze (Zn rfl (Zu 0 VT.ty41 h21 rfl rfl z0)))), (fun γ => Zw 0 0 rfl (fun _ h21 => Ze (Zn rfl (Zu 1 VT.ty41 h21 rfl rfl z0)))), trivial⟩) ?_
  refine Zp (Zm _) (Zm2 rfl (fun _ => (fun γ => Zw 1 0 rfl (fun _ h22 => Ze (Zn rfl (Zx1 [.tmp 22] rfl (Zp2 h22 Zq2) VT.en28 (intsClone_c b.params (by omega)) z0)))))) ?_
  refine Zp (Zm _) (Zm2 rfl (fun _ => (fun γ => Zf (fun _ h5 => Ze (Zn rfl (Zj VT.fa50_2 h5 z0)))))) ?_
  refine Zp (Zm _) (Zo rfl rfl ⟨(fun γ => Zw 3 0 rfl (fun _ h24 => Ze (Zn rfl (Zv 0 VT.ty47 h24 rfl rfl z0)))), (fun γ => Zw 3 0 rfl (fun _ h24 => Ze (Zn rfl (Zv 1 VT.ty47 h24 rfl rfl z0)))), trivial⟩) ?_
  refine Zp (Zm _) (Zm2 rfl (fun _ => (fun γ => Zw 2 2 rfl (fun _ h23 => Zw 4 0 rfl (fun _ h25 => Ze (Zn rfl (Zf2 [0, 2] [.tmp 23, .tmp 25] VT.st50 rfl rfl (Zp2 h23 (Zp2 h25 Zq2)) rfl z0))))))) ?_
  refine Zp (Zw2 (fun g => .ptr g 0)) (Zo2 0 rfl (fun γ => Ze (Zn rfl (Zb2 VT.zr50 _ rfl rfl (fun g6 => ⟨g6, ⟨g6, rfl, rfl⟩, rfl⟩))))) ?_
  refine Zp Za3 (Zo2 1 rfl (fun γ => Zw 6 0 rfl (fun _ h6 => Zw 5 1 rfl (fun _ h26 => Ze (Zx2 h6 (fun e6 => Zn rfl (Zx 0 VT.ty50 e6 h26 rfl rfl rfl ⟨default, trivial, rfl⟩))))))) ?_
  refine DrawP_nil (fun γ => Zw 6 1 rfl (fun r6 h6 => Ze ?_))
  have e6 : r6 = some _ := Zd3 h6
  subst e6
  clear h6
  refine Zi ?_
  refine VW_cells 0 (ls' := [intsX b.params, .sl 4 (some .nil) [], .int b.term.kind, .int b.term.arg, .int b.term.n, intsX b.term.cases, edgesX b.term.to]) rfl ⟨V.le.refl _, rfl, V.le.nilTok 4, rfl, V.le.refl _, rfl, V.le.refl _, rfl, V.le.refl _, rfl, V.le.refl _, rfl, V.le.refl _, rfl, trivial⟩ ?_
  refine VW_nilBuf 70 4 ?_
  generalize hg6 : γ 0 = g6
  refine Zb (Zb (Zd (Zc (Zj VT.fa50_1 rfl (Zc (Zu 2 VT.ty48 rfl rfl rfl ?_))))))
  refine Zc (Zd2 (n := b.ins.length) Tryz.underlying48 rfl (by simp) (fun hl29 => ?_))
  refine Zc (Zl rfl (Za (Zi (Zs ?_))))
  refine Zi2 (ι := Nat × Tok) (fun (j, ti) => b.ins.length - j) (fun (j, ti) => [(1, some (.ptr g1 0)), (2, some (.ptr g2 0)), (3, some (.ptr g3 0)), (15, some (blocksX f.blocks)), (16, some (.int f.blocks.length)), (17, some (.int k)), (5, some (.ptr g5 0)), (6, some (.ptr g6 0)), (28, some (inssX b.ins)), (29, some (.int b.ins.length)), (30, some (.int j))]) (fun (j, ti) => .buf ti 70 4 j :: .cells g6 50 [intsX b.params, .sl 4 (some ti) ((b.ins.take j).map insV), .int b.term.kind, .int b.term.arg, .int b.term.n, intsX b.term.cases, edgesX b.term.to] :: .cells g5 50 [intsX b.params, inssX b.ins, .int b.term.kind, .int b.term.arg, .int b.term.n, intsX b.term.cases, edgesX b.term.to] :: .cells g3 34 [.int f.name, xLeaf out] :: .cells g2 34 VT.zs34 :: .cells g1 34 [.int f.name, blocksX f.blocks] :: (xOwn 50 out ++ eOwn rows)) (fun (j, ti) => j ≤ b.ins.length) (0, .nil) (Nat.zero_le _) ⟨rfl, rfl, rfl, rfl, rfl, rfl, rfl, rfl, rfl, rfl, rfl, trivial⟩ (Zt2 _) ?_
  rintro ⟨j, ti⟩ hj
  change j ≤ b.ins.length at hj
  refine Zb (Zd (Zc (Zj1 rfl rfl rfl (Za (Zi (Zb ?_))))))
  refine Zn1 rfl (fun h31 => ?_) (fun h31 => ?_)
  ·
   obtain ⟨i, hi⟩ := get_of_lt b.ins j h31
   have hia := c5 i (Yc hi)
   refine Zi1 (Zi (Zb (Zs (Zb (Zd ?_)))))
   refine Zc (Zz (el := insV i) VT.sl48 rfl rfl (by omega) (get_mapS _ hi) (fun a32 => ?_))
   refine Zc (Za2 VT.ty70 rfl rfl ?_)
   refine Zc (Zb2 VT.zr70 _ rfl rfl (fun g8 => ?_))
   refine Zc (Zx 0 VT.ty70 rfl rfl rfl rfl rfl (Za (Zi (Zb (Zd (Zc (Zj VT.fa70_3 rfl (Zc (Zu 0 VT.ty41 rfl rfl rfl ?_)))))))))
   refine Zc (Zx1 [.tmp 35] rfl rfl VT.en28 (intsClone_c i.args (by omega)) ?_)
   refine Zc (Zj VT.fa70_3 rfl (Zc (Zy 0 VT.ty41 rfl rfl rfl rfl rfl (Za (Zi (Zd (Zc (Zj VT.fa50_1 rfl (Zc (Zu 2 VT.ty48 rfl rfl rfl (Zc (Zv 0 VT.ty70 rfl rfl rfl ?_))))))))))))
   refine Zc (Zk3 [.tmp 40] VT.sl48 rfl rfl rfl rfl rfl ?_)
   refine Zc (Zi3 1 _ VT.sl48 rfl rfl rfl (by simp; omega) (by simp; omega) (fun t42 => ?_))
   refine Zc (Zj VT.fa50_1 rfl (Zc (Zy 2 VT.ty48 rfl rfl rfl rfl rfl (Za (Zb1 (Zi (Zd ?_)))))))
   refine Zc (Zh2 rfl rfl (by omega) ?_)
   refine Zc (Zl rfl (Za (Zi ?_)))
   exact ⟨(j + 1, t42), (by (try simp only []); omega), (by omega), ⟨rfl, rfl, rfl, rfl, rfl, rfl, rfl, rfl, rfl, rfl, rfl, trivial⟩, (Drops.drop (Drops.buf (by simp; omega) (Drops.keepE (congrArg (fun l => Own.cells g6 50 [intsX b.params, .sl 4 (some t42) l, .int b.term.kind, .int b.term.arg, .int b.term.n, intsX b.term.cases, edgesX b.term.to]) (by rw [take_snoc hi, List.map_append]; rfl)) (Drops.keep (Drops.keep (Drops.keep (Drops.keep (Zt2 _))))))))⟩
  ·
   have hje : j = b.ins.length := by omega
   subst hje
   have hsi : V.le (.sl 4 (some ti) ((b.ins.take b.ins.length).map insV)) (inssX b.ins) := by rw [Yb]; exact V.le.strip
   refine Zt (Ze1 (Ze1 (Zc1 (Zi ?_))))
   refine VW_cells 1 (ls' := [intsX b.params, inssX b.ins, .int b.term.kind, .int b.term.arg, .int b.term.n, intsX b.term.cases, edgesX b.term.to]) rfl ⟨V.le.refl _, rfl, hsi, rfl, V.le.refl _, rfl, V.le.refl _, rfl, V.le.refl _, rfl, V.le.refl _, rfl, V.le.refl _, rfl, trivial⟩ ?_
   refine Zb (Zd (Zc (Zj VT.fa50_2 rfl (Zc (Zj VT.fa47_3 rfl (Zc (Zu 2 VT.ty41 rfl rfl rfl ?_)))))))
   refine Zc (Zx1 [.tmp 47] rfl rfl VT.en28 (intsClone_c b.term.cases (by omega)) ?_)
   refine Zc (Zj VT.fa50_2 rfl (Zc (Zj VT.fa47_3 rfl (Zc (Zy 1 VT.ty41 rfl rfl rfl rfl rfl (Za (Zi (Zb (Zd (Zc (Zj VT.fa50_2 rfl (Zc (Zj VT.fa47_4 rfl (Zc (Zy 1 VT.ty45 rfl rfl rfl rfl rfl (Za (Zi (Zb (Zb (Zd (Zc (Zj VT.fa50_2 rfl (Zc (Zj VT.fa47_4 rfl ?_))))))))))))))))))))))))
   refine Zc (Zu 2 VT.ty45 rfl rfl rfl ?_)
   refine Zc (Zd2 (n := b.term.to.length) Tryz.underlying45 rfl (by simp) (fun hl56 => ?_))
   refine Zc (Zl rfl (Za (Zi (Zs ?_))))
   refine Zi2 (ι := Nat × Option XRow) (fun (j, o) => b.term.to.length - j) (fun (j, o) => [(1, some (.ptr g1 0)), (2, some (.ptr g2 0)), (3, some (.ptr g3 0)), (15, some (blocksX f.blocks)), (16, some (.int f.blocks.length)), (17, some (.int k)), (5, some (.ptr g5 0)), (6, some (.ptr g6 0)), (55, some (edgesX b.term.to)), (56, some (.int b.term.to.length)), (57, some (.int j))]) (fun (j, o) => .cells g6 50 [intsX b.params, inssX b.ins, .int b.term.kind, .int b.term.arg, .int b.term.n, intsX b.term.cases, xLeaf o] :: .cells g5 50 [intsX b.params, inssX b.ins, .int b.term.kind, .int b.term.arg, .int b.term.n, intsX b.term.cases, edgesX b.term.to] :: .cells g3 34 [.int f.name, xLeaf out] :: .cells g2 34 VT.zs34 :: .cells g1 34 [.int f.name, blocksX f.blocks] :: (xOwn 79 o ++ (xOwn 50 out ++ eOwn rows))) (fun (j, o) => j ≤ b.term.to.length ∧ xl o = (b.term.to.take j).map edgeV ∧ xOk 2 o) (0, none) ⟨Nat.zero_le _, rfl, trivial⟩ ⟨rfl, rfl, rfl, rfl, rfl, rfl, rfl, rfl, rfl, rfl, rfl, trivial⟩ (Drops.drop (Drops.keep (Drops.keep (Drops.keep (Drops.keep (Drops.keep (Zt2 _))))))) ?_
   rintro ⟨j, o⟩ hB
   change j ≤ b.term.to.length ∧ xl o = (b.term.to.take j).map edgeV ∧ xOk 2 o at hB
   obtain ⟨hj, hxo, hoo⟩ := hB
   refine Zb (Zd (Zc (Zj1 rfl rfl rfl (Za (Zi (Zb ?_))))))
   refine Zn1 rfl (fun h58 => ?_) (fun h58 => ?_)
   ·
    obtain ⟨e, he⟩ := get_of_lt b.term.to j h58
    have hea := c6 e (Yc he)
    have hxl : (xl o).length = j := by rw [hxo, List.length_map, Ya]; omega
    have hxs : xl o ++ [edgeV e] = ((b.term.to.take (j + 1)).map edgeV) := by rw [hxo, take_snoc he, List.map_append]; rfl
    refine Zi1 (Zi (Zb (Zs (Zb (Zd ?_)))))
    refine Zc (Zz (el := edgeV e) VT.sl45 rfl rfl (by omega) (get_mapS _ he) (fun a59 => ?_))
    refine Zc (Za2 VT.ty79 rfl rfl ?_)
    refine Zc (Zb2 VT.zr79 _ rfl rfl (fun g10 => ?_))
    refine Zc (Zx 0 VT.ty79 rfl rfl rfl rfl rfl (Za (Zi ?_)))
    refine VW_drawR (G := (Option XRow)) [([], [6], []), ([0], [61], []), ([1, 0], [62], []), ([], [10], []), ([3], [64], []), ([], [10], []), ([5], [66], []), ([6, 5], [67], []), ([7, 6, 5, 4, 3], [65, 68], []), ([8, 7, 6, 5, 4, 3], [69], []), (dn 10, [63, 70], [0]), (dn 11, [6], []), (dn 12, [72], []), (dn 13, [73, 71], [])] [10, 13] (twoSt _ (fun x => (.cells g10 79 [.int e.block, intsX e.args] :: .cells g6 50 [intsX b.params, inssX b.ins, .int b.term.kind, .int b.term.arg, .int b.term.n, intsX b.term.cases, xLeaf o] :: .cells g5 50 [intsX b.params, inssX b.ins, .int b.term.kind, .int b.term.arg, .int b.term.n, intsX b.term.cases, edgesX b.term.to] :: .cells g3 34 [.int f.name, xLeaf out] :: .cells g2 34 VT.zs34 :: .cells g1 34 [.int f.name, blocksX f.blocks] :: (xOwn 79 (nrmX 2 ((b.term.to.take (j + 1)).map edgeV) x) ++ (xOwn 50 out ++ eOwn rows)))) (fun x _ => (.cells g10 79 [.int e.block, intsX e.args] :: .cells g6 50 [intsX b.params, inssX b.ins, .int b.term.kind, .int b.term.arg, .int b.term.n, intsX b.term.cases, xLeaf (nrmX 2 ((b.term.to.take (j + 1)).map edgeV) x)] :: .cells g5 50 [intsX b.params, inssX b.ins, .int b.term.kind, .int b.term.arg, .int b.term.n, intsX b.term.cases, edgesX b.term.to] :: .cells g3 34 [.int f.name, xLeaf out] :: .cells g2 34 VT.zs34 :: .cells g1 34 [.int f.name, blocksX f.blocks] :: (xOwn 79 (nrmX 2 ((b.term.to.take (j + 1)).map edgeV) x) ++ (xOwn 50 out ++ eOwn rows))))) [] [61, 62, 63, 64, 65, 66, 67, 68, 69, 70, 71, 72, 73] rfl VT.mix ?_
    refine Zp (Zm _) (Zo rfl rfl ⟨(fun γ => Zf (fun _ h6 => Ze (Zn rfl (Zj VT.fa50_2 h6 z0)))), trivial⟩) ?_
    refine Zp (Zm _) (Zo rfl rfl ⟨(fun γ => Zw 0 0 rfl (fun _ h61 => Ze (Zn rfl (Zj VT.fa47_4 h61 z0)))), trivial⟩) ?_
    refine Zp (Zm _) (Zo rfl rfl ⟨(fun γ => Zw 1 0 rfl (fun _ h62 => Ze (Zn rfl (Zu 1 VT.ty45 h62 rfl rfl z0)))), trivial⟩) ?_
    refine Zp (Zm _) (Zo rfl rfl ⟨(fun γ => Zf (fun _ h10 => Ze (Zn rfl (Zj VT.fa79_0 h10 z0)))), trivial⟩) ?_
    refine Zp (Zm _) (Zo rfl rfl ⟨(fun γ => Zw 3 0 rfl (fun _ h64 => Ze (Zn rfl (Zu 0 VT.ty3 h64 rfl rfl z0)))), trivial⟩) ?_
    refine Zp (Zm _) (Zo rfl rfl ⟨(fun γ => Zf (fun _ h10 => Ze (Zn rfl (Zj VT.fa79_1 h10 z0)))), trivial⟩) ?_
    refine Zp (Zm _) (Zo rfl rfl ⟨(fun γ => Zw 5 0 rfl (fun _ h66 => Ze (Zn rfl (Zu 0 VT.ty41 h66 rfl rfl z0)))), trivial⟩) ?_
    refine Zp (Zm _) (Zo rfl rfl ⟨(fun γ => Zw 6 0 rfl (fun _ h67 => Ze (Zn rfl (Zx1 [.tmp 67] rfl (Zp2 h67 Zq2) VT.en28 (intsClone_c e.args (by omega)) z0)))), trivial⟩) ?_
    refine Zp (Zm _) (Zo rfl rfl ⟨(fun γ => Zw 4 3 rfl (fun _ h65 => Zw 7 0 rfl (fun _ h68 => Ze (Zn rfl (Zf2 [0, 1] [.tmp 65, .tmp 68] VT.st79 rfl rfl (Zp2 h65 (Zp2 h68 Zq2)) rfl z0))))), trivial⟩) ?_
    refine Zp (Zm _) (Zo rfl rfl ⟨(fun γ => Zw 8 0 rfl (fun _ h69 => Ze (Zn rfl (Zk3 [.tmp 69] VT.sl45 rfl rfl rfl (Zp2 h69 Zq2) rfl z0)))), trivial⟩) ?_
    refine Zp (Zw2 (fun x => xLeaf (nrmX 2 ((b.term.to.take (j + 1)).map edgeV) x))) (Zo2 0 rfl (fun γ => Zw 2 7 rfl (fun _ h63 => Zw 9 0 rfl (fun _ h70 => Ze (Zn rfl (V_appendOT (o := o) ([.cells g10 79 [.int e.block, intsX e.args], .cells g6 50 [intsX b.params, inssX b.ins, .int b.term.kind, .int b.term.arg, .int b.term.n, intsX b.term.cases, xLeaf o], .cells g5 50 [intsX b.params, inssX b.ins, .int b.term.kind, .int b.term.arg, .int b.term.n, intsX b.term.cases, edgesX b.term.to], .cells g3 34 [.int f.name, xLeaf out], .cells g2 34 VT.zs34, .cells g1 34 [.int f.name, blocksX f.blocks]] ++ (xOwn 50 out ++ eOwn rows)) (fun o' => (.cells g10 79 [.int e.block, intsX e.args] :: .cells g6 50 [intsX b.params, inssX b.ins, .int b.term.kind, .int b.term.arg, .int b.term.n, intsX b.term.cases, xLeaf o] :: .cells g5 50 [intsX b.params, inssX b.ins, .int b.term.kind, .int b.term.arg, .int b.term.n, intsX b.term.cases, edgesX b.term.to] :: .cells g3 34 [.int f.name, xLeaf out] :: .cells g2 34 VT.zs34 :: .cells g1 34 [.int f.name, blocksX f.blocks] :: (xOwn 79 o' ++ (xOwn 50 out ++ eOwn rows)))) VT.sl45 (by decide) h63 h70 (pullC [.cells g10 79 [.int e.block, intsX e.args], .cells g6 50 [intsX b.params, inssX b.ins, .int b.term.kind, .int b.term.arg, .int b.term.n, intsX b.term.cases, xLeaf o], .cells g5 50 [intsX b.params, inssX b.ins, .int b.term.kind, .int b.term.arg, .int b.term.n, intsX b.term.cases, edgesX b.term.to], .cells g3 34 [.int f.name, xLeaf out], .cells g2 34 VT.zs34, .cells g1 34 [.int f.name, blocksX f.blocks]]) (fun o' => (pullC [.cells g10 79 [.int e.block, intsX e.args], .cells g6 50 [intsX b.params, inssX b.ins, .int b.term.kind, .int b.term.arg, .int b.term.n, intsX b.term.cases, xLeaf o], .cells g5 50 [intsX b.params, inssX b.ins, .int b.term.kind, .int b.term.arg, .int b.term.n, intsX b.term.cases, edgesX b.term.to], .cells g3 34 [.int f.name, xLeaf out], .cells g2 34 VT.zs34, .cells g1 34 [.int f.name, blocksX f.blocks]]).symm) hoo (edges_2 hxo) (fun _ => List.cons_ne_nil _ _) (by rw [hxl, List.length_singleton]; omega) (eflat_1 rfl) (fun o71 e71_1 e71_2 e71_3 => ⟨o71, ⟨_, rfl, (by show some (xLeaf o71) = some (xLeaf (nrmX 2 ((b.term.to.take (j + 1)).map edgeV) o71)); rw [nrmX_eq (e71_1.trans hxs) e71_2])⟩, (by show ((Own.cells g10 79 [.int e.block, intsX e.args] :: .cells g6 50 [intsX b.params, inssX b.ins, .int b.term.kind, .int b.term.arg, .int b.term.n, intsX b.term.cases, xLeaf o] :: .cells g5 50 [intsX b.params, inssX b.ins, .int b.term.kind, .int b.term.arg, .int b.term.n, intsX b.term.cases, edgesX b.term.to] :: .cells g3 34 [.int f.name, xLeaf out] :: .cells g2 34 VT.zs34 :: .cells g1 34 [.int f.name, blocksX f.blocks] :: (xOwn 79 o71 ++ (xOwn 50 out ++ eOwn rows))) : Store) = (.cells g10 79 [.int e.block, intsX e.args] :: .cells g6 50 [intsX b.params, inssX b.ins, .int b.term.kind, .int b.term.arg, .int b.term.n, intsX b.term.cases, xLeaf o] :: .cells g5 50 [intsX b.params, inssX b.ins, .int b.term.kind, .int b.term.arg, .int b.term.n, intsX b.term.cases, edgesX b.term.to] :: .cells g3 34 [.int f.name, xLeaf out] :: .cells g2 34 VT.zs34 :: .cells g1 34 [.int f.name, blocksX f.blocks] :: (xOwn 79 (nrmX 2 ((b.term.to.take (j + 1)).map edgeV) o71) ++ (xOwn 50 out ++ eOwn rows))); rw [nrmX_eq (e71_1.trans hxs) e71_2])⟩))))))) ?_
    refine Zp (Zm _) (Zo rfl rfl ⟨(fun γ => Zf (fun _ h6 => Ze (Zn rfl (Zj VT.fa50_2 h6 z0)))), trivial⟩) ?_
    refine Zp (Zm _) (Zo rfl rfl ⟨(fun γ => Zw 11 0 rfl (fun _ h72 => Ze (Zn rfl (Zj VT.fa47_4 h72 z0)))), trivial⟩) ?_
    refine Zp Za3 (Zo2 1 rfl (fun γ => Zw 12 0 rfl (fun _ h73 => Zw 10 2 rfl (fun _ h71 => Ze (Zx2 h71 (fun e71 => Zn rfl (Zy 1 VT.ty45 h73 e71 (xLeaf_leaf _) rfl rfl ⟨default, trivial, rfl⟩))))))) ?_
    refine DrawP_nil (fun γ => Ze ?_)
    refine Zb1 (Zi ?_)
    obtain ⟨n1, n2⟩ := nrmX_ok (sz := 2) (xs := ((b.term.to.take (j + 1)).map edgeV)) (edges_2 rfl) (by rw [List.length_map, Ya]; simp only [maxLen]; omega) (γ 0)
    refine Zd ?_
    refine Zc (Zh2 rfl rfl (by omega) ?_)
    refine Zc (Zl rfl (Za (Zi ?_)))
    exact ⟨(j + 1, nrmX 2 ((b.term.to.take (j + 1)).map edgeV) (γ 0)), (by (try simp only []); omega), ⟨by omega, n1, n2⟩, ⟨rfl, rfl, rfl, rfl, rfl, rfl, rfl, rfl, rfl, rfl, rfl, trivial⟩, (Drops.drop (Drops.keep (Drops.keep (Drops.keep (Drops.keep (Drops.keep (Zt2 _)))))))⟩
   ·
    have hje : j = b.term.to.length := by omega
    subst hje
    rw [Yb] at hxo
    have hR2 := rows_snoc hR hb hxo hoo
    refine Zt (Ze1 (Ze1 (Zc1 (Zi (Zd (Zc (Zj VT.fa34_1 rfl (Zc (Zu 2 VT.ty32 rfl rfl rfl (Zc (Zv 0 VT.ty50 rfl rfl rfl ?_)))))))))))
    refine Zc (Zk3 [.tmp 77] VT.sl32 rfl rfl rfl rfl (cpV_fit b o) ?_)
    refine Zc (V_appendOT (o := out) ([.cells g6 50 [intsX b.params, inssX b.ins, .int b.term.kind, .int b.term.arg, .int b.term.n, intsX b.term.cases, xLeaf o], .cells g5 50 [intsX b.params, inssX b.ins, .int b.term.kind, .int b.term.arg, .int b.term.n, intsX b.term.cases, edgesX b.term.to], .cells g3 34 [.int f.name, xLeaf out], .cells g2 34 VT.zs34, .cells g1 34 [.int f.name, blocksX f.blocks]] ++ (xOwn 79 o ++ eOwn rows)) (fun o' => .cells g6 50 [intsX b.params, inssX b.ins, .int b.term.kind, .int b.term.arg, .int b.term.n, intsX b.term.cases, xLeaf o] :: .cells g5 50 [intsX b.params, inssX b.ins, .int b.term.kind, .int b.term.arg, .int b.term.n, intsX b.term.cases, edgesX b.term.to] :: .cells g3 34 [.int f.name, xLeaf out] :: .cells g2 34 VT.zs34 :: .cells g1 34 [.int f.name, blocksX f.blocks] :: (xOwn 50 o' ++ (xOwn 79 o ++ eOwn rows))) VT.sl32 (by decide) rfl rfl (pullC ([.cells g6 50 [intsX b.params, inssX b.ins, .int b.term.kind, .int b.term.arg, .int b.term.n, intsX b.term.cases, xLeaf o], .cells g5 50 [intsX b.params, inssX b.ins, .int b.term.kind, .int b.term.arg, .int b.term.n, intsX b.term.cases, edgesX b.term.to], .cells g3 34 [.int f.name, xLeaf out], .cells g2 34 VT.zs34, .cells g1 34 [.int f.name, blocksX f.blocks]] ++ xOwn 79 o)) (fun o' => (pullC [.cells g6 50 [intsX b.params, inssX b.ins, .int b.term.kind, .int b.term.arg, .int b.term.n, intsX b.term.cases, xLeaf o], .cells g5 50 [intsX b.params, inssX b.ins, .int b.term.kind, .int b.term.arg, .int b.term.n, intsX b.term.cases, edgesX b.term.to], .cells g3 34 [.int f.name, xLeaf out], .cells g2 34 VT.zs34, .cells g1 34 [.int f.name, blocksX f.blocks]]).symm) huo (cpL_7 hxu) (fun _ => List.cons_ne_nil _ _) (by rw [hxu, hkl, List.length_singleton]; omega) (cpV_flat b o) (fun o79 e79_1 e79_2 e79_3 => ?_))
    refine Zc (Zj VT.fa34_1 rfl ?_)
    refine Zc (Zy 2 VT.ty32 rfl rfl (xLeaf_leaf _) rfl rfl ?_)
    refine Za (Zb1 (Zi ?_))
    refine VW_drops (S' := .cells g3 34 [.int f.name, xLeaf o79] :: .cells g2 34 VT.zs34 :: .cells g1 34 [.int f.name, blocksX f.blocks] :: (xOwn 50 o79 ++ eOwn (rows ++ [o]))) (.drop (.drop (.keep (.keep (.keep (drops_append _ (.of_perm (eown_snoc rows o)))))))) ?_
    refine Zd ?_
    refine Zc (Zh2 rfl rfl (by omega) ?_)
    refine Zc (Zl rfl (Za (Zi ?_)))
    exact ⟨(k + 1, o79, rows ++ [o]), (by (try simp only []); omega), ⟨by omega, hR2, e79_1.trans (by rw [hxu]; exact cpL_snoc o hR hb), e79_2⟩, ⟨rfl, rfl, rfl, rfl, rfl, rfl, trivial⟩, (Drops.keep (Drops.keep (Drops.keep (Zt2 _))))⟩
 ·
  have hke : k = f.blocks.length := by omega
  subst hke
  rw [Yb] at hR
  rw [Yb] at hxu
  refine Zt (Ze1 (Ze1 (Zc1 (Zi (Zb (Zd (Zc (Zv 0 VT.ty34 rfl rfl rfl (Zc (Zx 1 VT.ty34 rfl rfl rfl rfl rfl (Za (Zi (Zf1 ?_)))))))))))))
  refine Zg1 rfl (.agg (i := 1) VT.ty34 rfl rfl rfl) ?_
  exact ⟨_, .drop (.drop (.drop (.refl _))), rows, out, hR, hxu, huo, rfl, rfl⟩
end Go.Proofs.YtjekhhgjfelpgaaGreat.X25
