import Derived.Test.YthlflmmnankhhaaGreatVQ9
import Derived.Test.YthlflmmnankhhaaGreatX20
set_option maxRecDepth 100000
set_option maxHeartbeats 16000000
open Go.VL.Drops renaming keep → Dk
set_option linter.all false
open List renaming length_map → Ya, length_take → Yb, length_append → Yc, getElem?_eq_some_iff → Yd, getElem?_eq_getElem → Ye, mem_of_getElem? → Yf, flatMap_cons → Yg, mem_map → Yh, take_length → Yi, getElem?_append_right → Yj, map_map → Yk, flatMap_append → Yl, map_append → Ym, length_nil → Yn, append_assoc → Yo, replicate → Yp, getElem?_append_left → Yq, mem_singleton → Yr, length_singleton → Ys, length_cons → Yt, set_append_right → Yu, map_eq_nil_iff → Yv
open Nat renaming zero_le → Yw
section
namespace Go.Proofs.YthlflmmnankhhaaGreat.X25
open Go.VL Go.SM Go.Proofs.YthlflmmnankhhaaGreat XS X1 X2 X3 X4 X5 X6 X7 X8 X9 X10 X12 X13
def cpV (b : SBlock) (o : Option XRow) : V := .agg [intsX b.params, inssX b.ins, .int b.term.kind, .int b.term.arg, .int b.term.n, intsX b.term.cases, xLeaf o]
def cpL (bs : List SBlock) (rows : List (Option XRow)) : List V := List.zipWith cpV bs rows
abbrev eOwn (rows : List (Option XRow)) : Store := rows.flatMap (xOwn 64)
structure RowsOk (bs : List SBlock) (rows : List (Option XRow)) : Prop where
 len : rows.length = bs.length
 row : ∀ (k : Nat) (b : SBlock) (o : Option XRow), bs[k]? = some b -> rows[k]? = some o -> xl o = b.term.to.map edgeV /\ xOk 2 o
theorem xLeaf_leaf (o : Option XRow) : (xLeaf o).leaf = true := by cases o <;> rfl
theorem cpV_fit (b : SBlock) (o : Option XRow) : ([cpV b o] : List V).all (V.fits 7) = true := by cases o <;> rfl
theorem cpL_snoc {bs : List SBlock} {rows : List (Option XRow)} {k : Nat} {b : SBlock} (o : Option XRow) (h : RowsOk (bs.take k) rows) (hb : bs[k]? = some b) : cpL (bs.take k) rows ++ [cpV b o] = cpL (bs.take (k + 1)) (rows ++ [o]) := by
 unfold cpL
 rw [take_snoc hb, List.zipWith_append h.len.symm]
 rfl
theorem cpL_len {bs : List SBlock} {rows : List (Option XRow)} (h : RowsOk bs rows) : (cpL bs rows).length = bs.length := by
 unfold cpL
 rw [List.length_zipWith, h.len, Nat.min_self]
theorem rows_nil : RowsOk [] [] := ⟨rfl, λ k b o hb => by simp at hb⟩
theorem rows_snoc {bs : List SBlock} {rows : List (Option XRow)} {k : Nat} {b : SBlock} {o : Option XRow} (h : RowsOk (bs.take k) rows) (hb : bs[k]? = some b) (h1 : xl o = b.term.to.map edgeV) (h2 : xOk 2 o) : RowsOk (bs.take (k + 1)) (rows ++ [o]) := by
 have hl := h.len
 have hkb := (Yd.1 hb).1
 rw [Yb] at hl
 refine ⟨by rw [take_snoc hb, Yc, Yc, h.len]; rfl, λ j c p hc hp => ?_⟩
 rw [take_snoc hb] at hc
 by_cases hj : j < rows.length
 .rw [Yq hj] at hp
  rw [Yq (by rw [<- h.len]; exact hj)] at hc
  exact h.row j c p hc hp
 .rw [Yj (by omega)] at hp
  rw [Yj (by rw [<- h.len]; omega), <- h.len] at hc
  have hj0 : j - rows.length = 0 := by
   have := (Yd.1 hp).1
   simp at this
   omega
  rw [hj0] at hc hp
  have hc : b = c := by simpa using hc
  have hp : o = p := by simpa using hp
  subst hc hp
  exact ⟨h1, h2⟩
theorem edges_2 {xs : List V} {l : List SEdge} (h : xs = l.map edgeV) : ∀ v ∈ xs, v.leaves.length = 2 := λ v hv => by
 rw [h] at hv
 obtain ⟨n, _, rfl⟩ := Yh.1 hv
 rfl
theorem eflat_1 {x : V} (h : x.flat = true) : ∀ y ∈ [x], y.flat = true := λ y hy => by rw [Yr.1 hy]; exact h
structure CpOk (f : SFunc) : Prop where
 many : f.blocks.length <= 1000
 block : ∀ b ∈ f.blocks, b.params.length <= 10000 /\ b.ins.length <= 10000 /\ b.term.cases.length <= 10000 /\ b.term.to.length <= 10000 /\ (∀ i ∈ b.ins, i.args.length <= 10000) /\ ∀ e ∈ b.term.to, e.args.length <= 10000
theorem eown_snoc (rows : List (Option XRow)) (o : Option XRow) : (xOwn 64 o ++ eOwn rows).Perm (eOwn (rows ++ [o])) := by
 unfold eOwn
 rw [Yl, List.flatMap_singleton]
 exact List.perm_append_comm
theorem intsClone_c (l : List Int) (hl : l.length <= 1000000) : VPure Tryz.prog 61 [.sl 1 none (l.map V.int)] (.sl 1 none (l.map V.int)) := by
 refine V_start (nt := 8) Tryz.func61 rfl rfl rfl ?_
 refine Zb<|Zd<|Zc<|Zk rfl<|Za<|Zi<|Zb<|Zb<|Zd<|Zc<|Zl rfl<|Zc<|V_eqNil Tryz.underlying32 rfl<|λ b4 hb4 => (Za<|Zi<|Zr1 rfl (λ h4 => ?_)<|λ h4 => ?_)
 .
  have hn : l = [] := by simpa using hb4 h4
  subst hn
  refine Zb<|Zd<|Zc<|Zu2 (Zk rfl ⟨rfl, rfl⟩) (V.le.nil 1)<|Za<|Zi<|Zf1<|Zd1<|Zg1 rfl (.strip rfl) ?_
  rfl
 refine Zi1<|Zi<|Zb<|Zd<|Zc<|V_litTok [] VT.sl32 rfl rfl rfl rfl rfl<|λ t5 => (Zc<|Zl rfl<|Zc<|Zi3 0 _ VT.sl32 rfl rfl rfl (by simp) (by simp; omega)<|λ t7 => (Zc<|Zk rfl<|Za<|Zi<|Zf1<|Zg1 rfl (.strip rfl) ?_))
 rfl
theorem Copy_c {f : SFunc} (hc : CpOk f) : VCalls Tryz.prog 54 [funcV f] [] λ r S' => ∃ rows, RowsOk f.blocks rows /\ r = .agg [.int f.name, .sl 7 none (cpL f.blocks rows)] /\ S' = eOwn rows := by
 refine VCalls_drops ?_
 have hmany := hc.many
 refine V_start (nt := 83) Tryz.func54 rfl rfl rfl ?_
 refine Zb<|Zd<|Zc<|Zc2 rfl rfl<|λ g1 => (Zc<|Zb2 VT.zr31 _ rfl rfl<|λ g2 => (Za<|Zi<|Zb<|Zd<|Zc<|Zj VT.fa31_0 rfl<|Zc<|Zu 1 VT.ty3 rfl rfl rfl<|Zc<|Zf2 [0] [.tmp 12] VT.st31 rfl rfl rfl rfl<|Zc<|Zb2 VT.zr31 _ rfl rfl<|λ g3 => (Zc<|Zx 0 VT.ty31 rfl rfl rfl rfl rfl<|Za<|Zi<|VW_cells 0 (ls' := [.int f.name, .sl 7 (some .nil) []]) rfl ⟨V.le.refl _, rfl, V.le.nilTok 7, rfl, trivial⟩<|VW_nilBuf 40 7<|Zb<|Zb<|Zd<|Zc<|Zj VT.fa31_1 rfl<|Zc<|Zu 3 VT.ty29 rfl rfl rfl<|Zc<|Zd2 (n := f.blocks.length) Tryz.underlying29 rfl (by simp)<|λ hl16 => (Zc<|Zl rfl<|Za<|Zi<|Zs<|Zi2 (ι := Nat × Tok × List (Option XRow)) (λ (k, tok, rows) => f.blocks.length - k) (λ (k, tok, rows) => [(1, some (.ptr g1 0)), (2, some (.ptr g2 0)), (3, some (.ptr g3 0)), (15, some (blocksX f.blocks)), (16, some (.int f.blocks.length)), (17, some (.int k))]) (λ (k, tok, rows) => .buf tok 40 7 k :: .cells g3 31 [.int f.name, .sl 7 (some tok) (cpL (f.blocks.take k) rows)] :: .cells g2 31 VT.zs31 :: .cells g1 31 [.int f.name, blocksX f.blocks] :: eOwn rows) (λ (k, tok, rows) => k <= f.blocks.length /\ RowsOk (f.blocks.take k) rows) (0, .nil, []) ⟨Yw _, rows_nil⟩ ⟨rfl, rfl, rfl, rfl, rfl, rfl, trivial⟩ (Zt2 _) ?_))))
 rintro ⟨k, tok, rows⟩ hA
 change k <= f.blocks.length /\ RowsOk (f.blocks.take k) rows at hA
 obtain ⟨hk, hR⟩ := hA
 refine Zb<|Zd<|Zc<|Zj1 rfl rfl rfl<|Za<|Zi<|Zb<|Zn1 rfl (λ h18 => ?_)<|λ h18 => ?_
 .
  obtain ⟨b, hb⟩ := get_of_lt f.blocks k h18
  obtain ⟨c1, c2, c3, c4, c5, c6⟩ := hc.block b (Yf hb)
  have hkl : (cpL (f.blocks.take k) rows).length = k := by rw [cpL_len hR, Yb]; omega
  refine Zi1<|Zi<|Zb<|Zs<|Zb<|Zd<|Zc<|Zz (el := blockV b) VT.sl29 rfl rfl (by omega) (get_mapS _ hb)<|λ a19 => (Zc<|Za2 VT.ty40 rfl rfl<|Zc<|Zb2 VT.zr40 _ rfl rfl<|λ g5 => (Zc<|Zx 0 VT.ty40 rfl rfl rfl rfl rfl<|Za<|Zi<|Zb<|VW_drawR (G := Nat) [([], [5], []), ([0], [21], []), ([1, 0], [22], []), ([], [5], []), ([3], [24], []), (dn 5, [23, 25], []), ([], [], [0]), (dn 7, [6, 26], [])] [6, 7] (twoSt _ (λ x => .cells x 40 VT.zs40 :: .cells g5 40 [intsX b.params, inssX b.ins, .int b.term.kind, .int b.term.arg, .int b.term.n, intsX b.term.cases, edgesX b.term.to] :: .buf tok 40 7 k :: .cells g3 31 [.int f.name, .sl 7 (some tok) (cpL (f.blocks.take k) rows)] :: .cells g2 31 VT.zs31 :: .cells g1 31 [.int f.name, blocksX f.blocks] :: (eOwn rows)) (λ x _ => .cells x 40 [intsX b.params, V.nilSl, .int b.term.kind, .int b.term.arg, .int b.term.n, intsX b.term.cases, edgesX b.term.to] :: .cells g5 40 [intsX b.params, inssX b.ins, .int b.term.kind, .int b.term.arg, .int b.term.n, intsX b.term.cases, edgesX b.term.to] :: .buf tok 40 7 k :: .cells g3 31 [.int f.name, .sl 7 (some tok) (cpL (f.blocks.take k) rows)] :: .cells g2 31 VT.zs31 :: .cells g1 31 [.int f.name, blocksX f.blocks] :: (eOwn rows))) [6] [6, 21, 22, 23, 24, 25, 26] rfl VT.mix<|Zp (Zm _) (Zm2 rfl<|λ _ => (λ γ => Zf<|λ _ h5 => Ze<|Zn rfl<|Zj VT.fa40_0 h5 z0))<|Zp (Zm _) (Zo rfl rfl ⟨(λ γ => Zw 0 0 rfl (λ _ h21 => Ze (Zn rfl (Zu 0 VT.ty32 h21 rfl rfl z0)))), (λ γ => Zw 0 0 rfl (λ _ h21 => Ze (Zn rfl (Zu 1 VT.ty32 h21 rfl rfl z0)))), trivial⟩)<|Zp (Zm _) (Zm2 rfl<|λ _ => (λ γ => Zw 1 0 rfl<|λ _ h22 => Ze<|Zn rfl<|Zx1 [.tmp 22] rfl (Zp2 h22 Zq2) VT.en61 (intsClone_c b.params (by omega)) z0))<|Zp (Zm _) (Zm2 rfl<|λ _ => (λ γ => Zf<|λ _ h5 => Ze<|Zn rfl<|Zj VT.fa40_2 h5 z0))<|Zp (Zm _) (Zo rfl rfl ⟨(λ γ => Zw 3 0 rfl (λ _ h24 => Ze (Zn rfl (Zv 0 VT.ty38 h24 rfl rfl z0)))), (λ γ => Zw 3 0 rfl (λ _ h24 => Ze (Zn rfl (Zv 1 VT.ty38 h24 rfl rfl z0)))), trivial⟩)<|Zp (Zm _) (Zm2 rfl<|λ _ => (λ γ => Zw 2 2 rfl<|λ _ h23 => Zw 4 0 rfl<|λ _ h25 => Ze<|Zn rfl<|Zf2 [0, 2] [.tmp 23, .tmp 25] VT.st40 rfl rfl (Zp2 h23<|Zp2 h25 Zq2) rfl z0))<|Zp (Zw2<|λ g => .ptr g 0) (Zo2 0 rfl<|λ γ => Ze<|Zn rfl<|Zb2 VT.zr40 _ rfl rfl<|λ g6 => ⟨g6, ⟨g6, rfl, rfl⟩, rfl⟩)<|Zp Za3 (Zo2 1 rfl<|λ γ => Zw 6 0 rfl<|λ _ h6 => Zw 5 1 rfl<|λ _ h26 => Ze<|Zx2 h6<|λ e6 => Zn rfl<|Zx 0 VT.ty40 e6 h26 rfl rfl rfl ⟨default, trivial, rfl⟩)<|DrawP_nil<|λ γ => Zw 6 1 rfl<|λ r6 h6 => Ze ?_))
  have e6 : r6 = some _ := Zd3 h6
  subst e6
  clear h6
  refine Zi<|VW_cells 0 (ls' := [intsX b.params, .sl 4 (some .nil) [], .int b.term.kind, .int b.term.arg, .int b.term.n, intsX b.term.cases, edgesX b.term.to]) rfl ⟨V.le.refl _, rfl, V.le.nilTok 4, rfl, V.le.refl _, rfl, V.le.refl _, rfl, V.le.refl _, rfl, V.le.refl _, rfl, V.le.refl _, rfl, trivial⟩<|VW_nilBuf 42 4 ?_
  generalize hg6 : γ 0 = g6
  refine Zb<|Zb<|Zd<|Zc<|Zj VT.fa40_1 rfl<|Zc<|Zu 2 VT.ty35 rfl rfl rfl<|Zc<|Zd2 (n := b.ins.length) Tryz.underlying35 rfl (by simp)<|λ hl29 => (Zc<|Zl rfl<|Za<|Zi<|Zs<|Zi2 (ι := Nat × Tok) (λ (j, ti) => b.ins.length - j) (λ (j, ti) => [(1, some (.ptr g1 0)), (2, some (.ptr g2 0)), (3, some (.ptr g3 0)), (15, some (blocksX f.blocks)), (16, some (.int f.blocks.length)), (17, some (.int k)), (5, some (.ptr g5 0)), (6, some (.ptr g6 0)), (28, some (inssX b.ins)), (29, some (.int b.ins.length)), (30, some (.int j))]) (λ (j, ti) => .buf ti 42 4 j :: .cells g6 40 [intsX b.params, .sl 4 (some ti) ((b.ins.take j).map insV), .int b.term.kind, .int b.term.arg, .int b.term.n, intsX b.term.cases, edgesX b.term.to] :: .cells g5 40 [intsX b.params, inssX b.ins, .int b.term.kind, .int b.term.arg, .int b.term.n, intsX b.term.cases, edgesX b.term.to] :: .buf tok 40 7 k :: .cells g3 31 [.int f.name, .sl 7 (some tok) (cpL (f.blocks.take k) rows)] :: .cells g2 31 VT.zs31 :: .cells g1 31 [.int f.name, blocksX f.blocks] :: eOwn rows) (λ (j, ti) => j <= b.ins.length) (0, .nil) (Yw _) ⟨rfl, rfl, rfl, rfl, rfl, rfl, rfl, rfl, rfl, rfl, rfl, trivial⟩ (Zt2 _) ?_)
  rintro ⟨j, ti⟩ hj
  change j <= b.ins.length at hj
  refine Zb<|Zd<|Zc<|Zj1 rfl rfl rfl<|Za<|Zi<|Zb<|Zn1 rfl (λ h31 => ?_)<|λ h31 => ?_
  .
   obtain ⟨i, hi⟩ := get_of_lt b.ins j h31
   have hia := c5 i (Yf hi)
   refine Zi1<|Zi<|Zb<|Zs<|Zb<|Zd<|Zc<|Zz (el := insV i) VT.sl35 rfl rfl (by omega) (get_mapS _ hi)<|λ a32 => (Zc<|Za2 VT.ty42 rfl rfl<|Zc<|Zb2 VT.zr42 _ rfl rfl<|λ g8 => (Zc<|Zx 0 VT.ty42 rfl rfl rfl rfl rfl<|Za<|Zi<|Zb<|Zd<|Zc<|Zj VT.fa42_3 rfl<|Zc<|Zu 0 VT.ty32 rfl rfl rfl<|Zc<|Zx1 [.tmp 35] rfl rfl VT.en61 (intsClone_c i.args (by omega))<|Zc<|Zj VT.fa42_3 rfl<|Zc<|Zy 0 VT.ty32 rfl rfl rfl rfl rfl<|Za<|Zi<|Zd<|Zc<|Zj VT.fa40_1 rfl<|Zc<|Zu 2 VT.ty35 rfl rfl rfl<|Zc<|Zv 0 VT.ty42 rfl rfl rfl<|Zc<|Zk3 [.tmp 40] VT.sl35 rfl rfl rfl rfl rfl<|Zc<|Zi3 1 _ VT.sl35 rfl rfl rfl (by simp; omega) (by simp; omega)<|λ t42 => (Zc<|Zj VT.fa40_1 rfl<|Zc<|Zy 2 VT.ty35 rfl rfl rfl rfl rfl<|Za<|Zb1<|Zi<|Zd<|Zc<|Zh2 rfl rfl (by omega)<|Zc<|Zl rfl<|Za<|Zi ?_)))
   exact ⟨(j + 1, t42), (by (try simp only []); omega), (by omega), ⟨rfl, rfl, rfl, rfl, rfl, rfl, rfl, rfl, rfl, rfl, rfl, trivial⟩, (Drops.drop (Drops.buf (by simp; omega) (Drops.keepE (congrArg (λ l => Own.cells g6 40 [intsX b.params, .sl 4 (some t42) l, .int b.term.kind, .int b.term.arg, .int b.term.n, intsX b.term.cases, edgesX b.term.to]) (by rw [take_snoc hi, Ym]; rfl)) (Dk (Drops.buf (by simp) (Dk (Dk (Dk (Zt2 _)))))))))⟩
  have hje : j = b.ins.length := by omega
  subst hje
  have hsi : V.le (.sl 4 (some ti) ((b.ins.take b.ins.length).map insV)) (inssX b.ins) := by rw [Yi]; exact V.le.strip
  refine Zt<|Ze1<|Ze1<|Zc1<|Zi<|VW_cells 1 (ls' := [intsX b.params, inssX b.ins, .int b.term.kind, .int b.term.arg, .int b.term.n, intsX b.term.cases, edgesX b.term.to]) rfl ⟨V.le.refl _, rfl, hsi, rfl, V.le.refl _, rfl, V.le.refl _, rfl, V.le.refl _, rfl, V.le.refl _, rfl, V.le.refl _, rfl, trivial⟩<|Zb<|Zd<|Zc<|Zj VT.fa40_2 rfl<|Zc<|Zj VT.fa38_3 rfl<|Zc<|Zu 2 VT.ty32 rfl rfl rfl<|Zc<|Zx1 [.tmp 47] rfl rfl VT.en61 (intsClone_c b.term.cases (by omega))<|Zc<|Zj VT.fa40_2 rfl<|Zc<|Zj VT.fa38_3 rfl<|Zc<|Zy 1 VT.ty32 rfl rfl rfl rfl rfl<|Za<|Zi<|Zb<|Zd<|Zc<|Zj VT.fa40_2 rfl<|Zc<|Zj VT.fa38_4 rfl<|Zc<|Zy 1 VT.ty36 rfl rfl rfl rfl rfl<|Za<|Zi<|Zb<|Zb<|Zd<|Zc<|Zj VT.fa40_2 rfl<|Zc<|Zj VT.fa38_4 rfl<|Zc<|Zu 2 VT.ty36 rfl rfl rfl<|Zc<|Zd2 (n := b.term.to.length) Tryz.underlying36 rfl (by simp)<|λ hl56 => (Zc<|Zl rfl<|Za<|Zi<|Zs<|Zi2 (ι := Nat × Option XRow) (λ (j, o) => b.term.to.length - j) (λ (j, o) => [(1, some (.ptr g1 0)), (2, some (.ptr g2 0)), (3, some (.ptr g3 0)), (15, some (blocksX f.blocks)), (16, some (.int f.blocks.length)), (17, some (.int k)), (5, some (.ptr g5 0)), (6, some (.ptr g6 0)), (55, some (edgesX b.term.to)), (56, some (.int b.term.to.length)), (57, some (.int j))]) (λ (j, o) => .cells g6 40 [intsX b.params, inssX b.ins, .int b.term.kind, .int b.term.arg, .int b.term.n, intsX b.term.cases, xLeaf o] :: .cells g5 40 [intsX b.params, inssX b.ins, .int b.term.kind, .int b.term.arg, .int b.term.n, intsX b.term.cases, edgesX b.term.to] :: .buf tok 40 7 k :: .cells g3 31 [.int f.name, .sl 7 (some tok) (cpL (f.blocks.take k) rows)] :: .cells g2 31 VT.zs31 :: .cells g1 31 [.int f.name, blocksX f.blocks] :: (xOwn 64 o ++ (eOwn rows))) (λ (j, o) => j <= b.term.to.length /\ xl o = (b.term.to.take j).map edgeV /\ xOk 2 o) (0, none) ⟨Yw _, rfl, trivial⟩ ⟨rfl, rfl, rfl, rfl, rfl, rfl, rfl, rfl, rfl, rfl, rfl, trivial⟩ (Drops.drop<|Dk<|Dk<|Drops.buf (by simp)<|Dk<|Dk<|Dk<|Zt2 _) ?_)
  rintro ⟨j, o⟩ hB
  change j <= b.term.to.length /\ xl o = (b.term.to.take j).map edgeV /\ xOk 2 o at hB
  obtain ⟨hj, hxo, hoo⟩ := hB
  refine Zb<|Zd<|Zc<|Zj1 rfl rfl rfl<|Za<|Zi<|Zb<|Zn1 rfl (λ h58 => ?_)<|λ h58 => ?_
  .
   obtain ⟨e, he⟩ := get_of_lt b.term.to j h58
   have hea := c6 e (Yf he)
   have hxl : (xl o).length = j := by rw [hxo, Ya, Yb]; omega
   have hxs : xl o ++ [edgeV e] = ((b.term.to.take (j + 1)).map edgeV) := by rw [hxo, take_snoc he, Ym]; rfl
   refine Zi1<|Zi<|Zb<|Zs<|Zb<|Zd<|Zc<|Zz (el := edgeV e) VT.sl36 rfl rfl (by omega) (get_mapS _ he)<|λ a59 => (Zc<|Za2 VT.ty64 rfl rfl<|Zc<|Zb2 VT.zr64 _ rfl rfl<|λ g10 => (Zc<|Zx 0 VT.ty64 rfl rfl rfl rfl rfl<|Za<|Zi<|VW_drawR (G := (Option XRow)) [([], [6], []), ([0], [61], []), ([1, 0], [62], []), ([], [10], []), ([3], [64], []), ([], [10], []), ([5], [66], []), ([6, 5], [67], []), ([7, 6, 5, 4, 3], [65, 68], []), ([8, 7, 6, 5, 4, 3], [69], []), (dn 10, [63, 70], [0]), (dn 11, [6], []), (dn 12, [72], []), (dn 13, [73, 71], [])] [10, 13] (twoSt _ (λ x => (.cells g10 64 [.int e.block, intsX e.args] :: .cells g6 40 [intsX b.params, inssX b.ins, .int b.term.kind, .int b.term.arg, .int b.term.n, intsX b.term.cases, xLeaf o] :: .cells g5 40 [intsX b.params, inssX b.ins, .int b.term.kind, .int b.term.arg, .int b.term.n, intsX b.term.cases, edgesX b.term.to] :: .buf tok 40 7 k :: .cells g3 31 [.int f.name, .sl 7 (some tok) (cpL (f.blocks.take k) rows)] :: .cells g2 31 VT.zs31 :: .cells g1 31 [.int f.name, blocksX f.blocks] :: (xOwn 64 (nrmX 2 ((b.term.to.take (j + 1)).map edgeV) x) ++ (eOwn rows))))<|λ x _ => (.cells g10 64 [.int e.block, intsX e.args] :: .cells g6 40 [intsX b.params, inssX b.ins, .int b.term.kind, .int b.term.arg, .int b.term.n, intsX b.term.cases, xLeaf (nrmX 2 ((b.term.to.take (j + 1)).map edgeV) x)] :: .cells g5 40 [intsX b.params, inssX b.ins, .int b.term.kind, .int b.term.arg, .int b.term.n, intsX b.term.cases, edgesX b.term.to] :: .buf tok 40 7 k :: .cells g3 31 [.int f.name, .sl 7 (some tok) (cpL (f.blocks.take k) rows)] :: .cells g2 31 VT.zs31 :: .cells g1 31 [.int f.name, blocksX f.blocks] :: (xOwn 64 (nrmX 2 ((b.term.to.take (j + 1)).map edgeV) x) ++ (eOwn rows)))) [] [61, 62, 63, 64, 65, 66, 67, 68, 69, 70, 71, 72, 73] rfl VT.mix<|Zp (Zm _) (Zo rfl rfl ⟨(λ γ => Zf (λ _ h6 => Ze (Zn rfl (Zj VT.fa40_2 h6 z0)))), trivial⟩)<|Zp (Zm _) (Zo rfl rfl ⟨(λ γ => Zw 0 0 rfl (λ _ h61 => Ze (Zn rfl (Zj VT.fa38_4 h61 z0)))), trivial⟩)<|Zp (Zm _) (Zo rfl rfl ⟨(λ γ => Zw 1 0 rfl (λ _ h62 => Ze (Zn rfl (Zu 1 VT.ty36 h62 rfl rfl z0)))), trivial⟩)<|Zp (Zm _) (Zo rfl rfl ⟨(λ γ => Zf (λ _ h10 => Ze (Zn rfl (Zj VT.fa64_0 h10 z0)))), trivial⟩)<|Zp (Zm _) (Zo rfl rfl ⟨(λ γ => Zw 3 0 rfl (λ _ h64 => Ze (Zn rfl (Zu 0 VT.ty3 h64 rfl rfl z0)))), trivial⟩)<|Zp (Zm _) (Zo rfl rfl ⟨(λ γ => Zf (λ _ h10 => Ze (Zn rfl (Zj VT.fa64_1 h10 z0)))), trivial⟩)<|Zp (Zm _) (Zo rfl rfl ⟨(λ γ => Zw 5 0 rfl (λ _ h66 => Ze (Zn rfl (Zu 0 VT.ty32 h66 rfl rfl z0)))), trivial⟩)<|Zp (Zm _) (Zo rfl rfl ⟨(λ γ => Zw 6 0 rfl (λ _ h67 => Ze (Zn rfl (Zx1 [.tmp 67] rfl (Zp2 h67 Zq2) VT.en61 (intsClone_c e.args (by omega)) z0)))), trivial⟩)<|Zp (Zm _) (Zo rfl rfl ⟨(λ γ => Zw 4 3 rfl (λ _ h65 => Zw 7 0 rfl (λ _ h68 => Ze (Zn rfl (Zf2 [0, 1] [.tmp 65, .tmp 68] VT.st64 rfl rfl (Zp2 h65 (Zp2 h68 Zq2)) rfl z0))))), trivial⟩)<|Zp (Zm _) (Zo rfl rfl ⟨(λ γ => Zw 8 0 rfl (λ _ h69 => Ze (Zn rfl (Zk3 [.tmp 69] VT.sl36 rfl rfl rfl (Zp2 h69 Zq2) rfl z0)))), trivial⟩) ?_))
   refine Zp (Zw2<|λ x => xLeaf<|nrmX 2 ((b.term.to.take (j + 1)).map edgeV) x) (Zo2 0 rfl<|λ γ => Zw 2 7 rfl<|λ _ h63 => Zw 9 0 rfl<|λ _ h70 => Ze<|Zn rfl<|V_appendOT (o := o) ([.cells g10 64 [.int e.block, intsX e.args], .cells g6 40 [intsX b.params, inssX b.ins, .int b.term.kind, .int b.term.arg, .int b.term.n, intsX b.term.cases, xLeaf o], .cells g5 40 [intsX b.params, inssX b.ins, .int b.term.kind, .int b.term.arg, .int b.term.n, intsX b.term.cases, edgesX b.term.to], .buf tok 40 7 k, .cells g3 31 [.int f.name, .sl 7 (some tok) (cpL (f.blocks.take k) rows)], .cells g2 31 VT.zs31, .cells g1 31 [.int f.name, blocksX f.blocks]] ++ (eOwn rows)) (λ o' => (.cells g10 64 [.int e.block, intsX e.args] :: .cells g6 40 [intsX b.params, inssX b.ins, .int b.term.kind, .int b.term.arg, .int b.term.n, intsX b.term.cases, xLeaf o] :: .cells g5 40 [intsX b.params, inssX b.ins, .int b.term.kind, .int b.term.arg, .int b.term.n, intsX b.term.cases, edgesX b.term.to] :: .buf tok 40 7 k :: .cells g3 31 [.int f.name, .sl 7 (some tok) (cpL (f.blocks.take k) rows)] :: .cells g2 31 VT.zs31 :: .cells g1 31 [.int f.name, blocksX f.blocks] :: (xOwn 64 o' ++ (eOwn rows)))) VT.sl36 (by decide) h63 h70 (pullC [.cells g10 64 [.int e.block, intsX e.args], .cells g6 40 [intsX b.params, inssX b.ins, .int b.term.kind, .int b.term.arg, .int b.term.n, intsX b.term.cases, xLeaf o], .cells g5 40 [intsX b.params, inssX b.ins, .int b.term.kind, .int b.term.arg, .int b.term.n, intsX b.term.cases, edgesX b.term.to], .buf tok 40 7 k, .cells g3 31 [.int f.name, .sl 7 (some tok) (cpL (f.blocks.take k) rows)], .cells g2 31 VT.zs31, .cells g1 31 [.int f.name, blocksX f.blocks]]) (λ o' => (pullC [.cells g10 64 [.int e.block, intsX e.args], .cells g6 40 [intsX b.params, inssX b.ins, .int b.term.kind, .int b.term.arg, .int b.term.n, intsX b.term.cases, xLeaf o], .cells g5 40 [intsX b.params, inssX b.ins, .int b.term.kind, .int b.term.arg, .int b.term.n, intsX b.term.cases, edgesX b.term.to], .buf tok 40 7 k, .cells g3 31 [.int f.name, .sl 7 (some tok) (cpL (f.blocks.take k) rows)], .cells g2 31 VT.zs31, .cells g1 31 [.int f.name, blocksX f.blocks]]).symm) hoo (edges_2 hxo) (λ _ => List.cons_ne_nil _ _) (by rw [hxl, Ys]; omega) (eflat_1 rfl)<|λ o71 e71_1 e71_2 e71_3 => ⟨o71, ⟨_, rfl, (by show some (xLeaf o71) = some (xLeaf (nrmX 2 ((b.term.to.take (j + 1)).map edgeV) o71)); rw [nrmX_eq (e71_1.trans hxs) e71_2])⟩, (by show ((Own.cells g10 64 [.int e.block, intsX e.args] :: .cells g6 40 [intsX b.params, inssX b.ins, .int b.term.kind, .int b.term.arg, .int b.term.n, intsX b.term.cases, xLeaf o] :: .cells g5 40 [intsX b.params, inssX b.ins, .int b.term.kind, .int b.term.arg, .int b.term.n, intsX b.term.cases, edgesX b.term.to] :: .buf tok 40 7 k :: .cells g3 31 [.int f.name, .sl 7 (some tok) (cpL (f.blocks.take k) rows)] :: .cells g2 31 VT.zs31 :: .cells g1 31 [.int f.name, blocksX f.blocks] :: (xOwn 64 o71 ++ (eOwn rows))) : Store) = (.cells g10 64 [.int e.block, intsX e.args] :: .cells g6 40 [intsX b.params, inssX b.ins, .int b.term.kind, .int b.term.arg, .int b.term.n, intsX b.term.cases, xLeaf o] :: .cells g5 40 [intsX b.params, inssX b.ins, .int b.term.kind, .int b.term.arg, .int b.term.n, intsX b.term.cases, edgesX b.term.to] :: .buf tok 40 7 k :: .cells g3 31 [.int f.name, .sl 7 (some tok) (cpL (f.blocks.take k) rows)] :: .cells g2 31 VT.zs31 :: .cells g1 31 [.int f.name, blocksX f.blocks] :: (xOwn 64 (nrmX 2 ((b.term.to.take (j + 1)).map edgeV) o71) ++ (eOwn rows))); rw [nrmX_eq (e71_1.trans hxs) e71_2])⟩)<|Zp (Zm _) (Zo rfl rfl ⟨(λ γ => Zf (λ _ h6 => Ze (Zn rfl (Zj VT.fa40_2 h6 z0)))), trivial⟩)<|Zp (Zm _) (Zo rfl rfl ⟨(λ γ => Zw 11 0 rfl (λ _ h72 => Ze (Zn rfl (Zj VT.fa38_4 h72 z0)))), trivial⟩)<|Zp Za3 (Zo2 1 rfl<|λ γ => Zw 12 0 rfl<|λ _ h73 => Zw 10 2 rfl<|λ _ h71 => Ze<|Zx2 h71<|λ e71 => Zn rfl<|Zy 1 VT.ty36 h73 e71 (xLeaf_leaf _) rfl rfl ⟨default, trivial, rfl⟩)<|DrawP_nil<|λ γ => Ze<|Zb1<|Zi ?_
   obtain ⟨n1, n2⟩ := nrmX_ok (sz := 2) (xs := ((b.term.to.take (j + 1)).map edgeV)) (edges_2 rfl) (by rw [Ya, Yb]; simp only [maxLen]; omega) (γ 0)
   refine Zd<|Zc<|Zh2 rfl rfl (by omega)<|Zc<|Zl rfl<|Za<|Zi ?_
   exact ⟨(j + 1, nrmX 2 ((b.term.to.take (j + 1)).map edgeV) (γ 0)), (by (try simp only []); omega), ⟨by omega, n1, n2⟩, ⟨rfl, rfl, rfl, rfl, rfl, rfl, rfl, rfl, rfl, rfl, rfl, trivial⟩, (Drops.drop (Dk (Dk (Drops.buf (by simp) (Dk (Dk (Dk (Zt2 _))))))))⟩
  have hje : j = b.term.to.length := by omega
  subst hje
  rw [Yi] at hxo
  have hR2 := rows_snoc hR hb hxo hoo
  refine Zt<|Ze1<|Ze1<|Zc1<|Zi<|Zd<|Zc<|Zj VT.fa31_1 rfl<|Zc<|Zu 3 VT.ty29 rfl rfl rfl<|Zc<|Zv 0 VT.ty40 rfl rfl rfl<|Zc<|Zk3 [.tmp 77] VT.sl29 rfl rfl rfl rfl (cpV_fit b o)<|Zc<|Zi3 2 _ VT.sl29 rfl rfl rfl hkl.symm (by rw [hkl, Ys]; omega)<|λ t79 => (Zc<|Zj VT.fa31_1 rfl<|Zc<|Zy 3 VT.ty29 rfl rfl rfl rfl rfl<|Za<|Zb1<|Zi<|VW_drops (S' := .buf t79 40 7 (k + 1) :: .cells g3 31 [.int f.name, .sl 7 (some t79) (cpL (f.blocks.take (k + 1)) (rows ++ [o]))] :: .cells g2 31 VT.zs31 :: .cells g1 31 [.int f.name, blocksX f.blocks] :: (eOwn (rows ++ [o]))) (.drop<|.drop ?_) ?_)
  . rw [<- cpL_snoc o hR hb]; exact Drops.buf (by rw [Yc, hkl]; rfl) (.keep (.keep (.keep (.of_perm (eown_snoc rows o)))))
  refine Zd<|Zc<|Zh2 rfl rfl (by omega)<|Zc<|Zl rfl<|Za<|Zi ?_
  exact ⟨(k + 1, t79, rows ++ [o]), (by (try simp only []); omega), ⟨by omega, hR2⟩, ⟨rfl, rfl, rfl, rfl, rfl, rfl, trivial⟩, (Drops.buf (by simp) (Dk (Dk (Dk (Zt2 _)))))⟩
 have hke : k = f.blocks.length := by omega
 subst hke
 have hst : V.le (.sl 7 (some tok) (cpL (f.blocks.take f.blocks.length) rows)) (.sl 7 none (cpL f.blocks rows)) := by rw [Yi]; exact V.le.strip
 rw [Yi] at hR
 refine Zt<|Ze1<|Ze1<|Zc1<|Zi<|VW_cells 1 (ls' := [.int f.name, .sl 7 none (cpL f.blocks rows)]) rfl ⟨V.le.refl _, rfl, hst, rfl, trivial⟩<|Zb<|Zd<|Zc<|Zv 1 VT.ty31 rfl rfl rfl<|Zc<|Zx 2 VT.ty31 rfl rfl rfl rfl rfl<|Za<|Zi<|Zf1<|Zg1 rfl (.agg (i := 2) VT.ty31 rfl rfl rfl) ?_
 exact ⟨_, .drop (.drop (.drop (.drop (.refl _)))), rows, hR, rfl, rfl⟩
end Go.Proofs.YthlflmmnankhhaaGreat.X25
end
section
namespace Go.Proofs.YthlflmmnankhhaaGreat.X26
open Go.VL Go.SM Go.Proofs.YthlflmmnankhhaaGreat XS X1 X2 X3 X4 X5 X6 X7 X8 X9 X10 X12 X13 X20 X25
def reE (at_ : List Int) (e : SEdge) : SEdge := ⟨gI at_ e.block, e.args⟩
def setE (o : Option XRow) (es : List SEdge) : Option XRow := o.map λ r => ⟨r.g, r.cap, es.map edgeV, r.rest⟩
def mixE (f : SFunc) (to : List SEdge) (j : Nat) : List SEdge := (to.take j).map (reE (atF f)) ++ to.drop j
def blk (f : SFunc) (v : Nat) : SBlock := f.blocks[v]?.getD default
def rowAt (rows : List (Option XRow)) (v : Nat) : Option XRow := rows[v]?.getD none
def ecells (es : List SEdge) : List V := es.flatMap λ e => [.int e.block, intsX e.args]
theorem ecells_eq (es : List SEdge) : (es.map edgeV).flatMap V.leaves = ecells es := by
 rw [List.flatMap_map]
 rfl
theorem ecells_get {es : List SEdge} {j : Nat} {e : SEdge} (h : es[j]? = some e) : (ecells es)[j * 2]? = some (.int e.block) := by
 induction es generalizing j with
 | nil => simp at h
 | cons a es ih =>
  have hl : ecells (a :: es) = [.int a.block, intsX a.args] ++ ecells es := rfl
  cases j with
  | zero =>
   have h : a = e := by simpa using h
   subst h
   rfl
  | succ j =>
   have h : es[j]? = some e := by simpa using h
   rw [hl, show (j + 1) * 2 = j * 2 + 2 by omega, Yj (by simp)]
   exact ih h
theorem ecells_len (es : List SEdge) : (ecells es).length = es.length * 2 := by
 induction es with
 | nil => rfl
 | cons a es ih =>
  have hl : ecells (a :: es) = [.int a.block, intsX a.args] ++ ecells es := rfl
  rw [hl, Yc, ih]
  simp only [Yt, Yn]
  omega
theorem ecells_set {es : List SEdge} {j : Nat} {e : SEdge} (h : es[j]? = some e) (p : Int) : (ecells es).set (j * 2) (.int p) = ecells (es.set j ⟨p, e.args⟩) := by
 induction es generalizing j with
 | nil => simp at h
 | cons a es ih =>
  have hl : ∀ a : SEdge, ∀ es : List SEdge, ecells (a :: es) = [.int a.block, intsX a.args] ++ ecells es := λ _ _ => rfl
  cases j with
  | zero =>
   have h : a = e := by simpa using h
   subst h
   rfl
  | succ j =>
   have h : es[j]? = some e := by simpa using h
   rw [List.set_cons_succ, hl, hl, <- ih h, List.set_append]
   have e1 : ¬ ((j + 1) * 2 < ([V.int a.block, intsX a.args] : List V).length) := by simp only [Yt, Yn]; omega
   have e2 : (j + 1) * 2 - ([V.int a.block, intsX a.args] : List V).length = j * 2 := by simp only [Yt, Yn]; omega
   rw [if_neg e1, e2]
theorem mix_zero (f : SFunc) (to : List SEdge) : mixE f to 0 = to := by simp [mixE]
theorem mix_end (f : SFunc) (to : List SEdge) : mixE f to to.length = to.map (reE (atF f)) := by simp [mixE]
theorem mix_len (f : SFunc) (to : List SEdge) (j : Nat) : (mixE f to j).length = to.length := by
 unfold mixE
 rw [Yc, Ya, Yb, List.length_drop]
 omega
theorem mix_get {f : SFunc} {to : List SEdge} {j : Nat} {e : SEdge} (h : to[j]? = some e) : (mixE f to j)[j]? = some e := by
 have hj := (Yd.1 h).1
 have hl : ((to.take j).map (reE (atF f))).length = j := by rw [Ya, Yb]; omega
 unfold mixE
 rw [Yj (by omega), hl, Nat.sub_self, List.getElem?_drop, Nat.add_zero]
 exact h
theorem mix_step {f : SFunc} {to : List SEdge} {j : Nat} {e : SEdge} (h : to[j]? = some e) : (mixE f to j).set j (reE (atF f) e) = mixE f to (j + 1) := by
 have hj := (Yd.1 h).1
 have hl : ((to.take j).map (reE (atF f))).length = j := by rw [Ya, Yb]; omega
 unfold mixE
 rw [Yu _ _ (by omega), hl, Nat.sub_self, drop_cons h, List.set_cons_zero, take_snoc h, Ym, Yo]
 rfl
theorem setE_self {o : Option XRow} {es : List SEdge} (h : xl o = es.map edgeV) : setE o es = o := by
 cases o with
 | none => rfl
 | some r =>
  have h : r.xs = es.map edgeV := h
  show some (XRow.mk r.g r.cap (es.map edgeV) r.rest) = some r
  rw [<- h]
theorem eown_set {rows : List (Option XRow)} {v : Nat} (hv : v < rows.length) (o : Option XRow) : (eOwn (rows.set v o)).Perm (xOwn 64 o ++ eOwn (rows.set v none)) := by
 have h2 : ∀ x, rows.set v x = rows.take v ++ x :: rows.drop (v + 1) := λ x => by rw [List.set_eq_take_append_cons_drop, if_pos hv]
 unfold eOwn
 rw [h2, h2, Yl, Yg, Yl, Yg]
 show (_ ++ (xOwn 64 o ++ _)).Perm (xOwn 64 o ++ (_ ++ ([] ++ _)))
 rw [List.nil_append, <- Yo, <- Yo]
 exact List.perm_append_comm.append_right _
structure PInv (f : SFunc) (rows rows2 : List (Option XRow)) (i : Nat) : Prop where
 len : rows2.length = rows.length
 row : ∀ (v : Nat) (b : SBlock) (o o2 : Option XRow), f.blocks[v]? = some b -> rows[v]? = some o -> rows2[v]? = some o2 -> xLeaf o2 = xLeaf o /\ xOk 2 o2 /\ xl o2 = (if v ∈ (reachN f).take i then b.term.to.map (reE (atF f)) else b.term.to).map edgeV
theorem pinv_start {f : SFunc} {rows : List (Option XRow)} (h : RowsOk f.blocks rows) : PInv f rows rows 0 := ⟨rfl, λ v b o o2 hb ho h2 => by
 rw [ho] at h2
 injection h2 with h2
 subst h2
 obtain ⟨h3, h4⟩ := h.row v b o hb ho
 exact ⟨rfl, h4, by rw [List.take_zero, if_neg (by simp)]; exact h3⟩⟩
theorem xLeaf_set {o : Option XRow} {es : List SEdge} (h : (xl o).length = es.length) : xLeaf (setE o es) = xLeaf o := by
 cases o with
 | none => rfl
 | some r =>
  have h : r.xs.length = es.length := h
  show V.raw (.slice (some ⟨r.g, 0, none⟩) (es.map edgeV).length r.cap) = .raw (.slice (some ⟨r.g, 0, none⟩) r.xs.length r.cap)
  rw [Ya, h]
theorem xOk_set {o : Option XRow} {es0 es : List SEdge} (h0 : xl o = es0.map edgeV) (h : es0.length = es.length) (hk : xOk 2 o) : xOk 2 (setE o es) := by
 cases o with
 | none => trivial
 | some r =>
  have h0 : r.xs = es0.map edgeV := h0
  obtain ⟨h1, h2, h3⟩ := hk
  rw [h0] at h1 h3
  rw [ecells_eq, Yc, ecells_len] at h3
  rw [Ya] at h1
  refine ⟨?_, h2, ?_⟩
  .show (es.map edgeV).length <= r.cap
   rw [Ya]; omega
  .show ((es.map edgeV).flatMap V.leaves ++ r.rest).length = r.cap * 2
   rw [ecells_eq, Yc, ecells_len]
   omega
theorem xl_set {o : Option XRow} {es : List SEdge} (h : (xl o).length = es.length) : xl (setE o es) = es.map edgeV := by
 cases o with
 | none =>
  have h : 0 = es.length := h
  rw [List.length_eq_zero_iff.1 h.symm]
  rfl
 | some r => rfl
theorem pinv_step {f : SFunc} {rows rows2 : List (Option XRow)} {i v : Nat} {b : SBlock} {o2 : Option XRow} (h : PInv f rows rows2 i) (hv : (reachN f)[i]? = some v) (hb : f.blocks[v]? = some b) (h2 : rows2[v]? = some o2) (hx : xl o2 = b.term.to.map edgeV) : PInv f rows (rows2.set v (setE o2 (mixE f b.term.to b.term.to.length))) (i + 1) := by
 refine ⟨by rw [List.length_set]; exact h.len, λ w c o p hc ho hp => ?_⟩
 rw [List.getElem?_set] at hp
 split at hp
 .rename_i e
  subst e
  rw [hb] at hc
  injection hc with hc
  subst hc
  split at hp
  .injection hp with hp
   subst hp
   obtain ⟨a1, a2, a3⟩ := h.row v b o o2 hb ho h2
   have hl : (xl o2).length = (mixE f b.term.to b.term.to.length).length := by rw [hx, Ya, mix_len]
   refine ⟨(xLeaf_set hl).trans a1, xOk_set hx (by rw [mix_len]) a2, ?_⟩
   rw [if_pos (by rw [take_snoc hv]; simp), xl_set hl, mix_end]
  .cases hp
 .rename_i e
  obtain ⟨a1, a2, a3⟩ := h.row w c o p hc ho hp
  refine ⟨a1, a2, ?_⟩
  rw [a3]
  have : w ∈ (reachN f).take (i + 1) ↔ w ∈ (reachN f).take i := by
   rw [take_snoc hv, List.mem_append, Yr]
   exact ⟨λ h => h.resolve_right λ h => e h.symm, .inl⟩
  simp only [this]
theorem not_done {f : SFunc} {i v : Nat} (hv : (reachN f)[i]? = some v) : v ∉ (reachN f).take i := λ h => by
 obtain ⟨j, hj⟩ := List.getElem?_of_mem h
 have hji := (Yd.1 hj).1
 rw [Yb] at hji
 rw [List.getElem?_take] at hj
 split at hj
 .have := sorted_inj reachN_sorted hj hv
  omega
 .cases hj
theorem cpL_get {bs : List SBlock} {rows : List (Option XRow)} {v : Nat} {b : SBlock} {o : Option XRow} (hb : bs[v]? = some b) (ho : rows[v]? = some o) : (cpL bs rows)[v]? = some (cpV b o) := by
 unfold cpL
 rw [List.getElem?_zipWith, hb, ho]
theorem cps_7 {f : SFunc} {rows : List (Option XRow)} {xs : List V} {l : List Nat} (h : xs = l.map λ v => cpV (blk f v) (rowAt rows v)) : ∀ x ∈ xs, x.leaves.length = 7 := λ x hx => by
 rw [h] at hx
 obtain ⟨v, _, rfl⟩ := Yh.1 hx
 rfl
theorem cp_flat (b : SBlock) (o : Option XRow) : ∀ y ∈ [cpV b o], y.flat = true := λ y hy => by
 rw [Yr.1 hy]
 cases o <;> rfl
theorem cp_ok {f : SFunc} (h0 : funcF f = 0) : CpOk f := by
 have hok := func_ok h0
 have fi := func_iff.1 h0
 have hl := nodup_wi fi.kok.nodup fi.kok.wi
 rw [keysL] at hl
 have h128 := hok.len
 have hp : ∀ b ∈ f.blocks, b.params.length <= 4096 /\ b.ins.length <= 4096 := λ b hb => by
  obtain ⟨s, t, e⟩ := List.append_of_mem hb
  rw [e, Yl, Yg, Yc, Yc, Ya, dB, Yc, keysI_len, Ya] at hl
  omega
 refine ⟨by omega, λ b hb => ?_⟩
 obtain ⟨b1, b2⟩ := fi.block b hb
 have he := endF_ok b2
 have h1 := hp b hb
 have h2 := term_edges hok hb
 have h3 := he.many
 refine ⟨by omega, by omega, by omega, by omega, λ i hi => ?_, λ e hem => ?_⟩
 .have := (form_of (b1 i hi)).many
  omega
 .obtain ⟨x1, x2, x3⟩ := he.edges e hem
  obtain ⟨c, hc⟩ : ∃ c, f.blocks[e.block.toNat]? = some c := ⟨_, Ye (by omega)⟩
  have h4 := (hp c (Yf hc)).1
  unfold paramsOf at x3
  rw [hc] at x3
  have x3 : e.args.length = c.params.length := x3
  omega
theorem fits_es (l : List SEdge) : ∀ x ∈ l.map edgeV, x.fits 2 = true /\ ((∃ ls, x = .agg ls) \/ x.leaf = true) := λ x hx => by
 obtain ⟨n, _, rfl⟩ := Yh.1 hx
 exact ⟨rfl, .inl ⟨_, rfl⟩⟩
theorem freeze_blocks {nt : Nat} {Q : Exit -> Fr -> Store -> Prop} {F : Fr} {c : Code} (go : Nat) (rest : List V) : ∀ (L : List (SBlock × Option XRow)) (pre : List V) (R : Store), (∀ x ∈ L, xl x.2 = x.1.term.to.map edgeV /\ xOk 2 x.2) -> VW Tryz.prog nt c Q F (.cells go 40 (pre ++ ((L.map λ x => blockV x.1).flatMap V.leaves ++ rest)) :: R) -> VW Tryz.prog nt c Q F (.cells go 40 (pre ++ ((L.map λ x => cpV x.1 x.2).flatMap V.leaves ++ rest)) :: (eOwn (L.map (·.2)) ++ R))
 | [], pre, R, _, h => h
 | (b, o) :: L, pre, R, ho, h => by
  obtain ⟨hx, hk⟩ := ho _ (List.mem_cons_self ..)
  have e : ∀ (a : List V) (l : List V), pre ++ (a ++ l ++ rest) = (pre ++ a) ++ (l ++ rest) := λ a l => by simp
  have h2 := freeze_blocks go rest L (pre ++ (blockV b).leaves) R (λ x hx => ho x (List.mem_cons_of_mem _ hx)) (by rw [List.map_cons, Yg, e] at h; exact h)
  have hset : ∀ (x y : V), (pre ++ ([intsX b.params, inssX b.ins, .int b.term.kind, .int b.term.arg, .int b.term.n, intsX b.term.cases, x] ++ (L.map λ x => cpV x.1 x.2).flatMap V.leaves ++ rest)).set (pre.length + 6) y = (pre ++ [intsX b.params, inssX b.ins, .int b.term.kind, .int b.term.arg, .int b.term.n, intsX b.term.cases, y]) ++ ((L.map λ x => cpV x.1 x.2).flatMap V.leaves ++ rest) := λ x y => by
   rw [Yu _ _ (by omega), Nat.add_sub_cancel_left]
   simp
  have hget : ∀ (x : V), (pre ++ ([intsX b.params, inssX b.ins, .int b.term.kind, .int b.term.arg, .int b.term.n, intsX b.term.cases, x] ++ (L.map λ x => cpV x.1 x.2).flatMap V.leaves ++ rest))[pre.length + 6]? = some x := λ x => by
   rw [Yj (by omega), Nat.add_sub_cancel_left]
   rfl
  rw [List.map_cons, Yg]
  cases o with
  | none =>
   have hto : b.term.to = [] := by
    have hx : ([] : List V) = b.term.to.map edgeV := hx
    exact Yv.1 hx.symm
   refine VW_cellAt 0 (pre.length + 6) (v' := .sl 2 none []) rfl (hget V.nilSl) (V.le.nil 2) rfl ?_
   show VW Tryz.prog nt c Q F (.cells go 40 ((pre ++ ([intsX b.params, inssX b.ins, .int b.term.kind, .int b.term.arg, .int b.term.n, intsX b.term.cases, V.nilSl] ++ (L.map λ x => cpV x.1 x.2).flatMap V.leaves ++ rest)).set (pre.length + 6) (.sl 2 none [])) :: (eOwn (L.map (·.2)) ++ R))
   rw [hset]
   have e3 : (blockV b).leaves = [intsX b.params, inssX b.ins, .int b.term.kind, .int b.term.arg, .int b.term.n, intsX b.term.cases, .sl 2 none []] := by
    show [_, _, _, _, _, _, edgesX b.term.to] = _
    rw [hto]
    rfl
   rw [<- e3]
   exact h2
  | some r =>
   obtain ⟨q2, q3, q4⟩ := hk
   have hx : r.xs = b.term.to.map edgeV := hx
   refine VW_freezeC 1 0 (pre.length + 6) (sz := 2) (rest := r.rest) (b.term.to.map edgeV) rfl rfl (hget _) (by rw [hx]) (by rw [hx]) q2 q3 (fits_es _) ?_
   show VW Tryz.prog nt c Q F (.cells go 40 ((pre ++ ([intsX b.params, inssX b.ins, .int b.term.kind, .int b.term.arg, .int b.term.n, intsX b.term.cases, xLeaf (some r)] ++ (L.map λ x => cpV x.1 x.2).flatMap V.leaves ++ rest)).set (pre.length + 6) (.sl 2 none (b.term.to.map edgeV))) :: (eOwn (L.map (·.2)) ++ R))
   rw [hset]
   exact h2
theorem fits_bs (l : List SBlock) : ∀ x ∈ l.map blockV, x.fits 7 = true /\ ((∃ ls, x = .agg ls) \/ x.leaf = true) := λ x hx => by
 obtain ⟨n, _, rfl⟩ := Yh.1 hx
 exact ⟨rfl, .inl ⟨_, rfl⟩⟩
theorem rows_sub (f : SFunc) {rows : List (Option XRow)} (h : rows.length = f.blocks.length) : ((reachN f).map (rowAt rows)).Sublist rows := by
 have h1 : ((reachN f).map (rowAt rows)).Sublist ((List.range rows.length).map (rowAt rows)) := by
  unfold reachN
  rw [h]
  exact (List.filter_sublist ..).map _
 have h2 : (List.range rows.length).map (rowAt rows) = rows := by
  apply List.ext_getElem
  .simp
  .intro i a b
   simp [rowAt, Ye b]
 rw [h2] at h1
 exact h1
def pairsP (f : SFunc) (rows2 : List (Option XRow)) : List (SBlock × Option XRow) := (reachN f).map λ v => (reB (atF f) (blk f v), rowAt rows2 v)
theorem pairs_ok {f : SFunc} (ho : OrderOk f.blocks (orderF f.blocks)) {rows rows2 : List (Option XRow)} (hr : rows.length = f.blocks.length) (h : PInv f rows rows2 (reachN f).length) : ∀ x ∈ pairsP f rows2, xl x.2 = x.1.term.to.map edgeV /\ xOk 2 x.2 := λ x hx => by
 obtain ⟨v, hv, rfl⟩ := Yh.1 hx
 have hvl := ho.lt v ((reachN_mem ho).1 hv)
 obtain ⟨b, hb⟩ : ∃ b, f.blocks[v]? = some b := ⟨_, Ye hvl⟩
 obtain ⟨o, h1⟩ : ∃ o, rows[v]? = some o := ⟨_, Ye (by omega)⟩
 obtain ⟨o2, h2⟩ : ∃ o2, rows2[v]? = some o2 := ⟨_, Ye (by rw [h.len]; omega)⟩
 obtain ⟨a1, a2, a3⟩ := h.row v b o o2 hb h1 h2
 rw [Yi, if_pos hv] at a3
 have e1 : rowAt rows2 v = o2 := by unfold rowAt; rw [h2]; rfl
 have e2 : blk f v = b := by unfold blk; rw [hb]; rfl
 dsimp only
 rw [e1, e2]
 exact ⟨a3, a2⟩
theorem pairs_blocks {f : SFunc} (ho : OrderOk f.blocks (orderF f.blocks)) (rows2 : List (Option XRow)) : (pairsP f rows2).map (λ x => blockV x.1) = (pruneF f).blocks.map blockV := by
 unfold pairsP
 rw [prune_blocks ho, Yk, Yk, Yk]
 rfl
theorem pairs_cp {f : SFunc} (ho : OrderOk f.blocks (orderF f.blocks)) {rows rows2 : List (Option XRow)} (hr : rows.length = f.blocks.length) (h : PInv f rows rows2 (reachN f).length) : (reachN f).map (λ v => cpV (blk f v) (rowAt rows v)) = (pairsP f rows2).map λ x => cpV x.1 x.2 := by
 unfold pairsP
 rw [Yk]
 refine List.map_congr_left λ v hv => ?_
 have hvl := ho.lt v ((reachN_mem ho).1 hv)
 obtain ⟨b, hb⟩ : ∃ b, f.blocks[v]? = some b := ⟨_, Ye hvl⟩
 obtain ⟨o, h1⟩ : ∃ o, rows[v]? = some o := ⟨_, Ye (by omega)⟩
 obtain ⟨o2, h2⟩ : ∃ o2, rows2[v]? = some o2 := ⟨_, Ye (by rw [h.len]; omega)⟩
 obtain ⟨a1, _, _⟩ := h.row v b o o2 hb h1 h2
 have e1 : rowAt rows2 v = o2 := by unfold rowAt; rw [h2]; rfl
 have e3 : rowAt rows v = o := by unfold rowAt; rw [h1]; rfl
 show cpV (blk f v) (rowAt rows v) = cpV (reB (atF f) (blk f v)) (rowAt rows2 v)
 rw [e1, e3]
 show V.agg [_, _, _, _, _, _, xLeaf o] = V.agg [_, _, _, _, _, _, xLeaf o2]
 rw [a1]
 rfl
theorem pairs_rows (f : SFunc) (rows2 : List (Option XRow)) : (pairsP f rows2).map (·.2) = (reachN f).map (rowAt rows2) := by
 unfold pairsP
 rw [Yk]
 rfl
theorem flat_zero (n : Nat) : (Yp n (V.raw (.int .i64 0))).flatMap V.leaves = Yp n (V.int 0) := by
 induction n with
 | zero => rfl
 | succ n ih => rw [List.replicate_succ, Yg, ih]; rfl
theorem flat_ints2 (l : List Int) : (l.map V.int).flatMap V.leaves = l.map V.int := by
 induction l with
 | nil => rfl
 | cons a l ih => rw [List.map_cons, Yg, ih]; rfl
theorem fill_set {l z : List Int} {k : Nat} {x : Int} (h : l.length = z.length) (hx : l[k]? = some x) : ((l.take k ++ z.drop k).map V.int).set k (V.int x) = (l.take (k + 1) ++ z.drop (k + 1)).map V.int := by
 have hk := (Yd.1 hx).1
 obtain ⟨y, hy⟩ : ∃ y, z[k]? = some y := ⟨_, Ye (by omega)⟩
 rw [<- List.map_set, Yu _ _ (by rw [Yb]; omega), Yb, Nat.min_eq_left (by omega), Nat.sub_self, drop_cons hy, List.set_cons_zero, take_snoc hx, Yo]
 rfl
theorem fill_zero {l z : List Int} : (l.take 0 ++ z.drop 0) = z := by simp
theorem fill_end {l z : List Int} {k : Nat} (h : l.length = z.length) (hk : ¬ k < l.length) : (l.take k ++ z.drop k) = l := by
 rw [List.take_of_length_le (by omega), List.drop_of_length_le (by omega), List.append_nil]
theorem fill_len {l z : List Int} {k : Nat} (h : l.length = z.length) : (l.take k ++ z.drop k).length = z.length := by
 rw [Yc, Yb, List.length_drop]
 omega
theorem fits_ints (l : List Int) : ∀ x ∈ l.map V.int, x.fits 1 = true /\ ((∃ ls, x = .agg ls) \/ x.leaf = true) := λ x hx => by
 obtain ⟨n, _, rfl⟩ := Yh.1 hx
 exact ⟨rfl, .inr rfl⟩
theorem sort_nil : VPure Tryz.prog 21 [.sl 1 none []] (.raw (.tuple #[])) := λ m w us hu hw => by
 obtain ⟨u, us', rfl, ⟨A, cap, hu1, _⟩, hu2⟩ := hu
 have hu2 : us' = [] := hu2
 have hu1 : u = .slice A 0 cap := hu1
 subst hu1 hu2
 exact (Any.slices_Sort_int_none XS.lays A cap w).mono λ e w' ⟨h1, h2⟩ => ⟨_, [], m, .tuple #[], rfl, h1, rfl, by rw [h2]; exact Step.refl hw⟩
theorem row_get {es : List SEdge} {j : Nat} {e : SEdge} (h : es[j]? = some e) (rest : List V) : (ecells es ++ rest)[j * 2 + 0]? = some (.int e.block) := by
 have hj := (Yd.1 h).1
 rw [Nat.add_zero, Yq (by rw [ecells_len]; omega)]
 exact ecells_get h
theorem row_set {f : SFunc} {to : List SEdge} {j : Nat} {e : SEdge} (h : to[j]? = some e) (rest : List V) : (ecells (mixE f to j) ++ rest).set (j * 2 + 0) (.int (gI (atF f) e.block)) = ecells (mixE f to (j + 1)) ++ rest := by
 have hj := (Yd.1 h).1
 rw [Nat.add_zero, List.set_append_left _ _ (by rw [ecells_len, mix_len]; omega), ecells_set (mix_get h)]
 exact congrArg (λ l => ecells l ++ rest) (mix_step h)
theorem eown_some {rows : List (Option XRow)} {v : Nat} (hv : v < rows.length) (r : XRow) (es : List SEdge) : (eOwn (rows.set v (setE (some r) es))).Perm (.cells r.g 64 (ecells es ++ r.rest) :: eOwn (rows.set v none)) := by
 have h := eown_set hv (setE (some r) es)
 have e : xOwn 64 (setE (some r) es) = [.cells r.g 64 (ecells es ++ r.rest)] := by
  show [Own.cells r.g 64 ((es.map edgeV).flatMap V.leaves ++ r.rest)] = _
  rw [ecells_eq]
 rw [e] at h
 exact h
theorem set0_self {rows : List (Option XRow)} {v : Nat} {o : Option XRow} {f : SFunc} {to : List SEdge} (h : rows[v]? = some o) (hx : xl o = to.map edgeV) : rows.set v (setE o (mixE f to 0)) = rows := by
 rw [mix_zero, setE_self hx]
 apply List.ext_getElem?
 intro i
 rw [List.getElem?_set]
 split
 .rename_i e
  subst e
  rw [if_pos (Yd.1 h).1, h]
 .rfl
theorem at_get {f : SFunc} {k : Int} (h0 : 0 <= k) (h : k < f.blocks.length) : (atF f)[k.toNat]? = some (gI (atF f) k) := by
 have hl : k.toNat < (atF f).length := by unfold atF placeF; rw [Ya, List.length_range]; omega
 rw [gI, Ye hl]
 rfl
theorem at_len (f : SFunc) : (atF f).length = f.blocks.length := by unfold atF placeF; rw [Ya, List.length_range]
theorem at_idx {f : SFunc} {k : Nat} (hk : k < f.blocks.length) : (atF f)[k]? = some (idxOf (λ x => decide ((k : Int) = x)) (reachL f)) := by
 unfold atF placeF
 rw [List.getElem?_map, List.getElem?_range hk]
 rfl
theorem cp_leaf {b : SBlock} {o o2 : Option XRow} (h : xLeaf o2 = xLeaf o) : cpV b o = cpV b o2 := by
 unfold cpV
 rw [h]
theorem out_snoc {f : SFunc} {rows : List (Option XRow)} {i v : Nat} {b : SBlock} {o o2 out : Option XRow} {xs : List V} (hv : (reachN f)[i]? = some v) (hb : f.blocks[v]? = some b) (ho : rows[v]? = some o) (hl : xLeaf o2 = xLeaf o) (hx : xl out = ((reachN f).take i).map λ v => cpV (blk f v) (rowAt rows v)) (h : xs = xl out ++ [cpV b o2]) : xs = ((reachN f).take (i + 1)).map λ v => cpV (blk f v) (rowAt rows v) := by
 have e1 : rowAt rows v = o := by unfold rowAt; rw [ho]; rfl
 have e2 : blk f v = b := by unfold blk; rw [hb]; rfl
 rw [h, hx, take_snoc hv, Ym, List.map_singleton, e1, e2, cp_leaf hl]
theorem row_some {o : Option XRow} {l : List SEdge} {j : Nat} {e : SEdge} (hx : xl o = l.map edgeV) (h : l[j]? = some e) : ∃ r, o = some r /\ r.xs.length = l.length := by
 cases o with
 | none =>
  have hx : [] = l.map edgeV := hx
  have : l = [] := Yv.1 hx.symm
  rw [this] at h
  cases h
 | some r =>
  have hx : r.xs = l.map edgeV := hx
  exact ⟨r, rfl, by rw [hx, Ya]⟩
theorem out_end {f : SFunc} {out : Option XRow} {L : List (SBlock × Option XRow)} (hne : L ≠ []) (h : xl out = L.map λ x => cpV x.1 x.2) : ∃ r, out = some r /\ r.xs = L.map λ x => cpV x.1 x.2 := by
 cases out with
 | none =>
  have h : [] = L.map λ x => cpV x.1 x.2 := h
  exact absurd (Yv.1 h.symm) hne
 | some r => exact ⟨r, rfl, h⟩
theorem rows_drop (f : SFunc) {rows2 : List (Option XRow)} (h : rows2.length = f.blocks.length) : Drops (eOwn rows2) (eOwn ((pairsP f rows2).map (·.2))) := by
 rw [pairs_rows]
 exact drops_sub (rows_sub f h)
def pruneX (f : SFunc) : V := if funcF f = 0 then .tup [funcV (pruneF f), intsX (atF f), .int 0] else .tup [.agg VT.zs31, .sl 1 none [], .int (funcF f)]
theorem ReachE_c {f : SFunc} (h0 : funcF f ≠ 0) : VPure Tryz.prog 8 [funcV f] (.tup [intsX [], .int (funcF f)]) := by
 have hO := Order_c f
 rw [if_neg h0] at hO
 refine V_start (nt := 15) Tryz.func8 rfl rfl rfl ?_
 refine Zb<|Zd<|Zc<|Zc2 rfl rfl<|λ g1 => (Zc<|Zk rfl<|Zc<|Zk rfl<|Za<|Zi<|Zb<|Zd<|Zc<|Zv 0 VT.ty31 rfl rfl rfl<|Zc<|Zu2 (Zx1 [.tmp 7] rfl rfl VT.en20 (hO) ⟨rfl, rfl⟩) ((V.le.refl _ : V.le _ (.tup [intsX [], .int (funcF f)])))<|Zc<|Zl rfl<|Zc<|Zg2 rfl rfl<|Zc<|Zg2 rfl rfl<|Zc<|Zk rfl<|Zc<|Zk rfl<|Za<|Zi<|Zb<|Zd<|Zc<|Zl rfl<|Zc<|Zx1 [.tmp 11] rfl rfl VT.en21 (sort_nil)<|Za<|Zi<|Zb<|Zd<|Zc<|Zl rfl<|Zc<|Zl rfl<|Zc<|Zk rfl<|Zc<|Zk rfl<|Za<|Zi<|Zf1<|Zh1 rfl rfl (.cons (.tmp rfl)<|.cons (.tmp rfl)<|.nil) ?_)
 rfl
theorem Prune_c (f : SFunc) : VPure Tryz.prog 32 [funcV f] (pruneX f) := by
 have hr := pruneX.eq_def f
 refine V_start (nt := 89) Tryz.func32 rfl rfl rfl ?_
 refine Zb<|Zd<|Zc<|Zc2 rfl rfl<|λ g1 => (Zc<|Zb2 VT.zr31 _ rfl rfl<|λ g2 => (Zc<|Zk rfl<|Zc<|Zk rfl<|Za<|Zi<|Zb<|Zd<|Zc<|Zv 1 VT.ty31 rfl rfl rfl ?_))
 by_cases h0 : funcF f = 0
 .
  rw [if_pos h0] at hr
  have hok := func_ok h0
  have ho := order_ok hok.pos hok.edges
  have h128 := hok.len
  have hrl := reach_len f
  have hol := nodup_lt ho.nodup ho.lt
  have hal := at_len f
  have hre := reach_eq ho
  have hnl : (reachL f).length = (reachN f).length := by rw [hre, Ya]
  refine Zc<|Zx1 [.tmp 16] rfl rfl VT.en8 (Reachable_c h0)<|Zc<|Zl rfl<|Zc<|Zg2 rfl rfl<|Zc<|Zg2 rfl rfl<|Zc<|Zk rfl<|Zc<|Zk rfl<|Za<|Zi<|Zb<|Zb<|Zd<|Zc<|Zl rfl<|Zc<|Zj1 rfl rfl rfl<|Za<|Zi<|Zm1 rfl (λ h21 => ?_)<|λ h21 => ?_
  . exact absurd rfl h21
  refine Zi1<|Zi<|Zb<|Zd<|Zc<|Zj VT.fa31_1 rfl<|Zc<|Zu 1 VT.ty29 rfl rfl rfl<|Zc<|Zd2 (n := f.blocks.length) Tryz.underlying29 rfl (by simp)<|λ hl26 => (Zc<|V_makeRow (.raw<|.int .i64 0) (λ m => rfl) rfl VT.sl32 rfl rfl (by omega) (by omega)<|λ g27 => (Zc<|Zk rfl<|Za<|Zi<|Zb<|Zb<|Zd<|Zc<|Zl rfl<|Zc<|V_len_raw Tryz.underlying32 rfl<|Zc<|Zl rfl<|Za<|Zi<|Zs<|Zi2 (ι := Nat) (λ k => f.blocks.length - k) (λ k => [(1, some (.ptr g1 0)), (2, some (.ptr g2 0)), (5, some (intsX (reachL f))), (7, some (.raw (.slice (some ⟨g27, 0, none⟩) f.blocks.length f.blocks.length))), (28, some (.raw (.slice (some ⟨g27, 0, none⟩) f.blocks.length f.blocks.length))), (29, some (.int f.blocks.length)), (30, some (.int k))]) (λ k => [.cells g27 3 (((atF f).take k ++ (Yp f.blocks.length 0).drop k).map V.int), .cells g2 31 VT.zs31, .cells g1 31 [.int f.name, blocksX f.blocks]]) (λ k => k <= f.blocks.length) 0 (Yw _) ⟨rfl, rfl, rfl, rfl, rfl, rfl, rfl, trivial⟩ (Drops.keepE (congrArg (Own.cells g27 3) (by rw [fill_zero, List.map_replicate, Int.toNat_natCast]; exact flat_zero _))<|Dk<|Dk<|Zt2 _) ?_))
  rintro k hk
  change k <= f.blocks.length at hk
  refine Zb<|Zd<|Zc<|Zj1 rfl rfl rfl<|Za<|Zi<|Zb<|Zn1 rfl (λ h31 => ?_)<|λ h31 => ?_
  .
   refine Zi1<|Zi<|Zb<|Zs<|Zb<|Zd<|Zc<|Zl rfl<|Zc<|Zk rfl<|Za<|Zi<|Zd<|Zc<|Zl rfl<|Zc<|Zl rfl<|Zc<|Zl rfl<|Zc<|Zl rfl<|Zc<|Zx1 [.tmp 35, .tmp 36] rfl rfl VT.en56 (intIndex_c (reachL f) none (k : Int))<|Zc<|Zu2 (Zr2 VT.sl32 rfl rfl (by omega) (by omega) ⟨rfl, rfl⟩) ((V.le.of_eq (congrArg (V.ptr g27) (by omega)) : V.le _ (.ptr g27 k)))<|Zc<|Zy 0 VT.ty3 rfl rfl rfl rfl (Nat.ble_eq_true_of_le (by rw [Ya, fill_len (by simp [hal])]; simp; omega))<|Za<|Zb1<|Zi<|Zd<|Zc<|Zh2 rfl rfl (by omega)<|Zc<|Zl rfl<|Za<|Zi ?_
   exact ⟨k + 1, (by (try simp only []); omega), (by omega), ⟨rfl, rfl, rfl, rfl, rfl, rfl, rfl, trivial⟩, (Drops.keepE (congrArg (Own.cells g27 3) (fill_set (by simp [hal]) (at_idx (by omega)))) (Dk (Dk (Zt2 _))))⟩
  have hkn : ¬ k < (atF f).length := by omega
  rw [fill_end (l := atF f) (z := (Yp f.blocks.length 0)) (by simp [hal]) hkn]
  refine Zt<|Ze1<|Ze1<|Zc1<|Zi<|VW_freeze 0 (q := 7) (rest := []) ((atF f).map V.int) rfl rfl (by rw [flat_ints2, List.append_nil]) (by rw [Ya]; exact hal) (Nat.le_refl _) (by simp only [maxLen]; omega) (fits_ints _)<|Zb<|Zd<|Zc<|Zv 1 VT.ty31 rfl rfl rfl<|Zc<|V_callB [.tmp 40] [_, _] _ rfl rfl VT.en54 (.refl _) (Copy_c<|cp_ok h0) ?_
  rintro r Sa ⟨rows, hR, rfl, rfl⟩
  refine Zc<|Zb2 VT.zr31 _ rfl rfl<|λ g9 => (Zc<|Zx 0 VT.ty31 rfl rfl rfl rfl rfl<|Za<|Zi<|Zb<|Zd<|Zc<|Zj VT.fa31_0 rfl<|Zc<|Zu 2 VT.ty3 rfl rfl rfl<|Zc<|Zf2 [0] [.tmp 43] VT.st31 rfl rfl rfl rfl<|Zc<|Zb2 VT.zr31 _ rfl rfl<|λ g10 => (Zc<|Zx 0 VT.ty31 rfl rfl rfl rfl rfl<|Za<|Zi<|Zb<|Zb<|Zd<|Zc<|Zl rfl<|Zc<|Zd2 (n := (reachL f).length) Tryz.underlying32 rfl (by simp)<|λ hl46 => (Zc<|Zl rfl<|Za<|Zi<|Zs<|Zi2 (ι := Nat × List (Option XRow) × Option XRow) (λ (i, rows2, out) => (reachL f).length - i) (λ (i, rows2, out) => [(1, some (.ptr g1 0)), (2, some (.ptr g2 0)), (7, some (intsX (atF f))), (9, some (.ptr g9 0)), (10, some (.ptr g10 0)), (45, some (intsX (reachL f))), (46, some (.int (reachL f).length)), (47, some (.int i))]) (λ (i, rows2, out) => .cells g10 31 [.int f.name, xLeaf out] :: .cells g9 31 [.int f.name, .sl 7 none (cpL f.blocks rows)] :: .cells g2 31 VT.zs31 :: .cells g1 31 [.int f.name, blocksX f.blocks] :: (xOwn 40 out ++ eOwn rows2)) (λ (i, rows2, out) => i <= (reachN f).length /\ PInv f rows rows2 i /\ xl out = ((reachN f).take i).map (λ v => cpV (blk f v)<|rowAt rows v) /\ xOk 7 out) (0, rows, none) ⟨Yw _, pinv_start hR, rfl, trivial⟩ ⟨rfl, rfl, rfl, rfl, rfl, rfl, rfl, rfl, trivial⟩ (Dk<|Dk<|Dk<|Dk<|Zt2 _) ?_)))
  rintro ⟨i, rows2, out⟩ hA
  change i <= (reachN f).length /\ PInv f rows rows2 i /\ xl out = ((reachN f).take i).map (λ v => cpV (blk f v) (rowAt rows v)) /\ xOk 7 out at hA
  obtain ⟨hi, hP, hxo, hoo⟩ := hA
  refine Zb<|Zd<|Zc<|Zj1 rfl rfl rfl<|Za<|Zi<|Zb<|Zn1 rfl (λ h48 => ?_)<|λ h48 => ?_
  .
   obtain ⟨v, hv⟩ := get_of_lt (reachN f) i (by omega)
   have hvo := (reachN_mem ho).1 (Yf hv)
   have hvl := ho.lt v hvo
   obtain ⟨b, hb⟩ := get_of_lt f.blocks v (by omega)
   have hRl := hR.len
   obtain ⟨o, hro⟩ := get_of_lt rows v (by omega)
   have hPl := hP.len
   obtain ⟨o2, h2⟩ := get_of_lt rows2 v (by omega)
   obtain ⟨hlf, hok2, hx2⟩ := hP.row v b o o2 hb hro h2
   rw [if_neg (not_done hv)] at hx2
   have hvr : v < rows2.length := (Yd.1 h2).1
   have hte := term_edges hok (Yf hb)
   have hxl : (xl out).length = i := by rw [hxo, Ya, Yb]; omega
   have hlx : (xl o2).length = b.term.to.length := by rw [hx2, Ya]
   refine Zi1<|Zi<|Zb<|Zs<|Zb<|Zd<|Zc<|Zz (el := V.int (v : Int)) VT.sl32 rfl rfl (by omega) (by rw [hre]; exact get_int (by rw [Int.toNat_natCast, List.getElem?_map, hv]; rfl))<|λ a49 => ?_
   refine Zc<|Zz1 VT.ty3 rfl rfl<|Zc<|Zk rfl<|Za<|Zi<|Zb<|Zd<|Zc<|Zj VT.fa31_1 rfl<|Zc<|Zu 1 VT.ty29 rfl rfl rfl<|Zc<|Zl rfl<|Zc<|Zz (el := cpV b o2) VT.sl29 rfl rfl (by omega) (by rw [<- cp_leaf hlf]; exact cpL_get hb hro)<|λ a54 => (Zc<|Za2 VT.ty40 rfl rfl<|Zc<|Zb2 VT.zr40 _ rfl rfl<|λ g13 => (Zc<|Zx 0 VT.ty40 rfl rfl rfl rfl rfl<|Za<|Zi<|Zb<|Zb<|Zd<|Zc<|Zj VT.fa40_2 rfl<|Zc<|Zj VT.fa38_4 rfl<|Zc<|Zu2 (Zu 0 VT.ty36 rfl rfl rfl ⟨rfl, rfl⟩) ((V.le.of_eq (xLeaf_raw o2) : V.le _ (.raw<|.slice (xA o2) (xl o2).length<|xcap o2)))<|Zc<|V_len_raw Tryz.underlying36 rfl<|Zc<|Zl rfl<|Za<|Zi ?_))
   have hs0 := set0_self (f := f) h2 hx2
   rw [hlx]
   refine VW_perm (S' := .cells g13 40 [intsX b.params, inssX b.ins, .int b.term.kind, .int b.term.arg, .int b.term.n, intsX b.term.cases, xLeaf o2] :: .cells g10 31 [.int f.name, xLeaf out] :: .cells g9 31 [.int f.name, .sl 7 none (cpL f.blocks rows)] :: .cells g2 31 VT.zs31 :: .cells g1 31 [.int f.name, blocksX f.blocks] :: (xOwn 40 out ++ eOwn (rows2.set v<|setE o2<|mixE f b.term.to 0))) (by rw [hs0]; exact List.Perm.refl _)<|Zs<|Zi2 (ι := Nat) (λ j => b.term.to.length - j) (λ j => [(1, some (.ptr g1 0)), (2, some (.ptr g2 0)), (7, some (intsX (atF f))), (9, some (.ptr g9 0)), (10, some (.ptr g10 0)), (45, some (intsX (reachL f))), (46, some (.int (reachL f).length)), (47, some (.int i)), (13, some (.ptr g13 0)), (59, some (.int b.term.to.length)), (60, some (.int j))]) (λ j => .cells g13 40 [intsX b.params, inssX b.ins, .int b.term.kind, .int b.term.arg, .int b.term.n, intsX b.term.cases, xLeaf o2] :: .cells g10 31 [.int f.name, xLeaf out] :: .cells g9 31 [.int f.name, .sl 7 none (cpL f.blocks rows)] :: .cells g2 31 VT.zs31 :: .cells g1 31 [.int f.name, blocksX f.blocks] :: (xOwn 40 out ++ eOwn (rows2.set v<|setE o2<|mixE f b.term.to j))) (λ j => j <= b.term.to.length) 0 (Yw _) ⟨rfl, rfl, rfl, rfl, rfl, rfl, rfl, rfl, rfl, rfl, rfl, trivial⟩ (Dk<|Dk<|Dk<|Dk<|Dk<|Zt2 _) ?_
   rintro j hj
   change j <= b.term.to.length at hj
   refine Zb<|Zd<|Zc<|Zj1 rfl rfl rfl<|Za<|Zi<|Zb<|Zn1 rfl (λ h61 => ?_)<|λ h61 => ?_
   .
    obtain ⟨e, he⟩ := get_of_lt b.term.to j h61
    have hmx := mix_get (f := f) he
    obtain ⟨r, rfl, hrl⟩ := row_some hx2 he
    obtain ⟨hE1, hE2⟩ := hok.edges b (Yf hb) e (Yf he)
    refine VW_perm (S' := .cells r.g 64 (ecells (mixE f b.term.to j) ++ r.rest) :: .cells g13 40 [intsX b.params, inssX b.ins, .int b.term.kind, .int b.term.arg, .int b.term.n, intsX b.term.cases, xLeaf (some r)] :: .cells g10 31 [.int f.name, xLeaf out] :: .cells g9 31 [.int f.name, .sl 7 none (cpL f.blocks rows)] :: .cells g2 31 VT.zs31 :: .cells g1 31 [.int f.name, blocksX f.blocks] :: ((xOwn 40 out ++ eOwn (rows2.set v none)))) (pullL [.cells g13 40 [intsX b.params, inssX b.ins, .int b.term.kind, .int b.term.arg, .int b.term.n, intsX b.term.cases, xLeaf (some r)], .cells g10 31 [.int f.name, xLeaf out], .cells g9 31 [.int f.name, .sl 7 none (cpL f.blocks rows)], .cells g2 31 VT.zs31, .cells g1 31 [.int f.name, blocksX f.blocks]]<|pullL (xOwn 40 out)<|eown_some hvr r<|mixE f b.term.to j)<|Zi1<|Zi<|Zb<|Zs<|Zb<|Zd<|Zc<|Zl rfl<|Zc<|Zk rfl<|Za<|Zi<|VW_drawR (G := Unit) [([], [13], []), ([0], [63], []), ([1, 0], [64], []), ([], [14], []), ([], [7], []), ([], [13], []), ([5], [68], []), ([6, 5], [69], []), ([], [14], []), ([8, 7, 6, 5], [70, 71], []), ([9, 8, 7, 6, 5], [72], []), ([10, 9, 8, 7, 6, 5], [73], []), ([11, 10, 9, 8, 7, 6, 5, 4], [67, 74], []), ([12, 11, 10, 9, 8, 7, 6, 5, 4], [75], []), (dn 14, [65, 66], []), (dn 15, [77], []), (dn 16, [78, 76], [])] [16] (setSt _ 0<|λ _ => .cells r.g 64<|(ecells (mixE f b.term.to j) ++ r.rest).set (j * 2 + 0)<|.int<|gI (atF f) e.block) [] [63, 64, 65, 66, 67, 68, 69, 70, 71, 72, 73, 74, 75, 76, 77, 78] rfl VT.mix<|Zp (Zm _) (Zo rfl rfl ⟨(λ γ => Zf (λ _ h13 => Ze (Zn rfl (Zj VT.fa40_2 h13 z0)))), trivial⟩)<|Zp (Zm _) (Zo rfl rfl ⟨(λ γ => Zw 0 0 rfl (λ _ h63 => Ze (Zn rfl (Zj VT.fa38_4 h63 z0)))), trivial⟩)<|Zp (Zm _) (Zo rfl rfl ⟨(λ γ => Zw 1 0 rfl (λ _ h64 => Ze (Zn rfl (Zu 1 VT.ty36 h64 rfl rfl z0)))), trivial⟩)<|Zp (Zm _) (Zo rfl rfl ⟨(λ γ => Zf (λ _ h14 => Ze (Zn rfl (Zl h14 z0)))), trivial⟩)<|Zp (Zm _) (Zo rfl rfl ⟨(λ γ => Zf (λ _ h7 => Ze (Zn rfl (Zl h7 z0)))), trivial⟩)<|Zp (Zm _) (Zo rfl rfl ⟨(λ γ => Zf (λ _ h13 => Ze (Zn rfl (Zj VT.fa40_2 h13 z0)))), trivial⟩)<|Zp (Zm _) (Zo rfl rfl ⟨(λ γ => Zw 5 0 rfl (λ _ h68 => Ze (Zn rfl (Zj VT.fa38_4 h68 z0)))), trivial⟩)<|Zp (Zm _) (Zo rfl rfl ⟨(λ γ => Zw 6 0 rfl (λ _ h69 => Ze (Zn rfl (Zu 1 VT.ty36 h69 rfl rfl z0)))), trivial⟩)<|Zp (Zm _) (Zo rfl rfl ⟨(λ γ => Zf (λ _ h14 => Ze (Zn rfl (Zl h14 z0)))), trivial⟩)<|Zp (Zm _) (Zo rfl rfl ⟨(λ γ => Zw 7 1 rfl (λ _ h70 => Zw 8 0 rfl (λ _ h71 => Ze (Zn rfl (Zu2 (Zr2 VT.sl36 h70 h71 (by omega) (by omega) z0) ((V.le.of_eq (congrArg (V.ptr r.g) (by omega)) : V.le _ (.ptr r.g (j * 2)))) z0))))), trivial⟩)<|Zp (Zm _) (Zo rfl rfl ⟨(λ γ => Zw 9 0 rfl (λ _ h72 => Ze (Zn rfl (Zj VT.fa64_0 h72 z0)))), trivial⟩)<|Zp (Zm _) (Zo rfl rfl ⟨(λ γ => Zw 10 0 rfl (λ _ h73 => Ze (Zn rfl (Zu 0 VT.ty3 h73 rfl (row_get hmx _) z0)))), trivial⟩)<|Zp (Zb3 _) (Zo rfl rfl ⟨(λ γ => Zw 4 7 rfl (λ _ h67 => Zw 11 0 rfl (λ _ h74 => Ze (Zn rfl (Zz (el := V.int (gI (atF f) e.block)) VT.sl32 h67 h74 (by omega) (get_int (at_get (by omega) hE2)) (λ a75 => ⟨⟨_, rfl⟩, rfl⟩)))))), trivial⟩)<|Zp (Zm _) (Zo rfl rfl ⟨(λ γ => Zw 12 0 rfl (λ _ h75 => Ze (Zc3 h75 (λ a_75 e75 => Zn rfl (Zz1 VT.ty3 e75 rfl z0))))), trivial⟩)<|Zp (Zm _) (Zo rfl rfl ⟨(λ γ => Zw 2 11 rfl (λ _ h65 => Zw 3 10 rfl (λ _ h66 => Ze (Zn rfl (Zu2 (Zr2 VT.sl36 h65 h66 (by omega) (by omega) z0) ((V.le.of_eq (congrArg (V.ptr r.g) (by omega)) : V.le _ (.ptr r.g (j * 2)))) z0))))), trivial⟩)<|Zp (Zm _) (Zo rfl rfl ⟨(λ γ => Zw 14 0 rfl (λ _ h77 => Ze (Zn rfl (Zj VT.fa64_0 h77 z0)))), trivial⟩)<|Zp Za3 (Zn2 rfl<|λ γ => Zw 15 0 rfl<|λ _ h78 => Zw 13 2 rfl<|λ _ h76 => Ze<|Zn rfl<|Zy 0 VT.ty3 h78 h76 rfl rfl (Nat.ble_eq_true_of_le (by rw [Yc, ecells_len, mix_len]; omega)) ⟨default, trivial, rfl⟩)<|DrawP_nil<|λ γ => Ze<|Zb1<|Zi<|VW_perm (S' := .cells g13 40 [intsX b.params, inssX b.ins, .int b.term.kind, .int b.term.arg, .int b.term.n, intsX b.term.cases, xLeaf (some r)] :: .cells g10 31 [.int f.name, xLeaf out] :: .cells g9 31 [.int f.name, .sl 7 none (cpL f.blocks rows)] :: .cells g2 31 VT.zs31 :: .cells g1 31 [.int f.name, blocksX f.blocks] :: (xOwn 40 out ++ eOwn (rows2.set v<|setE (some r)<|mixE f b.term.to (j + 1)))) (by rw [row_set he]; exact (pullL [.cells g13 40 [intsX b.params, inssX b.ins, .int b.term.kind, .int b.term.arg, .int b.term.n, intsX b.term.cases, xLeaf (some r)], .cells g10 31 [.int f.name, xLeaf out], .cells g9 31 [.int f.name, .sl 7 none (cpL f.blocks rows)], .cells g2 31 VT.zs31, .cells g1 31 [.int f.name, blocksX f.blocks]]<|pullL (xOwn 40 out)<|eown_some hvr r<|mixE f b.term.to (j + 1)).symm)<|Zd<|Zc<|Zh2 rfl rfl (by omega)<|Zc<|Zl rfl<|Za<|Zi ?_
    exact ⟨j + 1, (by (try simp only []); omega), (by omega), ⟨rfl, rfl, rfl, rfl, rfl, rfl, rfl, rfl, rfl, rfl, rfl, trivial⟩, (Dk (Dk (Dk (Dk (Dk (Zt2 _))))))⟩
   have hje : j = b.term.to.length := by omega
   subst hje
   refine Zt<|Ze1<|Ze1<|Zc1<|Zi<|Zd<|Zc<|Zj VT.fa31_1 rfl<|Zc<|Zu 1 VT.ty29 rfl rfl rfl<|Zc<|Zv 0 VT.ty40 rfl rfl rfl<|Zc<|Zk3 [.tmp 82] VT.sl29 rfl rfl rfl rfl (cpV_fit b o2)<|Zc<|V_appendOT (o := out) ([.cells g13 40 [intsX b.params, inssX b.ins, .int b.term.kind, .int b.term.arg, .int b.term.n, intsX b.term.cases, xLeaf o2], .cells g10 31 [.int f.name, xLeaf out], .cells g9 31 [.int f.name, .sl 7 none (cpL f.blocks rows)], .cells g2 31 VT.zs31, .cells g1 31 [.int f.name, blocksX f.blocks]] ++ eOwn (rows2.set v<|setE o2<|mixE f b.term.to b.term.to.length)) (λ o' => .cells g13 40 [intsX b.params, inssX b.ins, .int b.term.kind, .int b.term.arg, .int b.term.n, intsX b.term.cases, xLeaf o2] :: .cells g10 31 [.int f.name, xLeaf out] :: .cells g9 31 [.int f.name, .sl 7 none (cpL f.blocks rows)] :: .cells g2 31 VT.zs31 :: .cells g1 31 [.int f.name, blocksX f.blocks] :: (xOwn 40 o' ++ eOwn (rows2.set v<|setE o2<|mixE f b.term.to b.term.to.length))) VT.sl29 (by decide) rfl rfl (pullC [.cells g13 40 [intsX b.params, inssX b.ins, .int b.term.kind, .int b.term.arg, .int b.term.n, intsX b.term.cases, xLeaf o2], .cells g10 31 [.int f.name, xLeaf out], .cells g9 31 [.int f.name, .sl 7 none (cpL f.blocks rows)], .cells g2 31 VT.zs31, .cells g1 31 [.int f.name, blocksX f.blocks]]) (λ o' => (pullC [.cells g13 40 [intsX b.params, inssX b.ins, .int b.term.kind, .int b.term.arg, .int b.term.n, intsX b.term.cases, xLeaf o2], .cells g10 31 [.int f.name, xLeaf out], .cells g9 31 [.int f.name, .sl 7 none (cpL f.blocks rows)], .cells g2 31 VT.zs31, .cells g1 31 [.int f.name, blocksX f.blocks]]).symm) hoo (cps_7 hxo) (λ _ => List.cons_ne_nil _ _) (by rw [hxl, Ys]; omega) (cp_flat b o2)<|λ o84 e84_1 e84_2 e84_3 => (Zc<|Zj VT.fa31_1 rfl<|Zc<|Zy 1 VT.ty29 rfl rfl (xLeaf_leaf _) rfl rfl<|Za<|Zb1<|Zi<|Zd<|Zc<|Zh2 rfl rfl (by omega)<|Zc<|Zl rfl<|Za<|Zi ?_)
   exact ⟨(i + 1, rows2.set v (setE o2 (mixE f b.term.to b.term.to.length)), o84), (by (try simp only []); omega), ⟨by omega, pinv_step hP hv hb h2 hx2, out_snoc hv hb hro hlf hxo e84_1, e84_2⟩, ⟨rfl, rfl, rfl, rfl, rfl, rfl, rfl, rfl, trivial⟩, (Drops.drop (Dk (Dk (Dk (Dk (Zt2 _))))))⟩
  have hie : i = (reachN f).length := by omega
  subst hie
  rw [Yi, pairs_cp ho hR.len hP] at hxo
  have hrn : 0 < (reachN f).length := by rw [<- hnl, hrl]; exact (Yd.1 ho.zero).1
  have hne : (pairsP f rows2) ≠ [] := λ e => by have h9 := congrArg List.length e; unfold pairsP at h9; rw [Ya, Yn] at h9; omega
  obtain ⟨r, rfl, hrx⟩ := out_end (f := f) hne hxo
  obtain ⟨c1, c2, c3⟩ := hoo
  refine Zt<|Ze1<|Ze1<|Zc1<|Zi<|VW_drops (S' := .cells r.g 40 ([] ++ (((pairsP f rows2).map λ x => cpV x.1 x.2).flatMap V.leaves ++ r.rest)) :: (eOwn ((pairsP f rows2).map (·.2)) ++ [.cells g10 31 [.int f.name, xLeaf (some r)], .cells g2 31 VT.zs31])) (Drops.trans (.keep<|.drop<|.keep<|.drop<|.keep<|rows_drop f<|hP.len.trans hR.len)<|.of_perm ?_) ?_
  . rw [<- hrx]; exact List.perm_append_comm (l₁ := [_, _])
  refine freeze_blocks r.g r.rest (pairsP f rows2) [] [.cells g10 31 [.int f.name, xLeaf (some r)], .cells g2 31 VT.zs31] (pairs_ok ho hR.len hP) ?_
  rw [pairs_blocks ho]
  refine VW_freezeC 0 0 1 (sz := 7) (rest := r.rest) ((pruneF f).blocks.map blockV) rfl rfl rfl (List.nil_append _) (by rw [Ya, prune_len, hnl, hrx]; unfold pairsP; rw [Ya, Ya]) c1 c2 (fits_bs _) ?_
  show VW Tryz.prog _ _ _ _ [.cells g10 31 [.int f.name, blocksX (pruneF f).blocks], .cells g2 31 VT.zs31]
  refine Zb<|Zd<|Zc<|Zv 0 VT.ty31 rfl rfl rfl<|Zc<|Zl rfl<|Zc<|Zx 1 VT.ty31 rfl rfl rfl rfl rfl<|Zc<|Zk rfl<|Zc<|Zk rfl<|Za<|Zi<|Zf1<|Zh1 rfl rfl (.cons (.agg (i := 1) VT.ty31 rfl rfl rfl)<|.cons (.tmp rfl)<|.cons (.tmp rfl)<|.nil) ?_
  rw [hr]
  rfl
 rw [if_neg h0] at hr
 refine Zc<|Zx1 [.tmp 16] rfl rfl VT.en8 (ReachE_c h0)<|Zc<|Zl rfl<|Zc<|Zg2 rfl rfl<|Zc<|Zg2 rfl rfl<|Zc<|Zk rfl<|Zc<|Zk rfl<|Za<|Zi<|Zb<|Zb<|Zd<|Zc<|Zl rfl<|Zc<|Zj1 rfl rfl rfl<|Za<|Zi<|Zm1 rfl (λ h21 => ?_)<|λ h21 => ?_
 .
  refine Zb<|Zd<|Zc<|Zf2 [] [] VT.st31 rfl rfl rfl rfl<|Zc<|Zl rfl<|Zc<|Zx 0 VT.ty31 rfl rfl rfl rfl rfl<|Zc<|Zu2 (Zk rfl ⟨rfl, rfl⟩) ((V.le.nil 1))<|Zc<|Zk rfl<|Za<|Zi<|Zf1<|Zd1<|Zh1 rfl rfl (.cons (.agg (i := 0) VT.ty31 rfl rfl rfl)<|.cons (.tmp rfl)<|.cons (.tmp rfl)<|.nil) ?_
  rw [hr]
  rfl
 . exact absurd h21 h0
theorem Prune_c0 {f : SFunc} (h : funcF f = 0) : VPure Tryz.prog 32 [funcV f] (.tup [funcV (pruneF f), intsX (atF f), .int 0]) := by
 have h1 := Prune_c f
 rwa [pruneX, if_pos h] at h1
end Go.Proofs.YthlflmmnankhhaaGreat.X26
end
