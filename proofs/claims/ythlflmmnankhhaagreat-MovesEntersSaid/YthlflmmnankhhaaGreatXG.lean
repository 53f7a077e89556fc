import Derived.Test.YthlflmmnankhhaaGreatXF
import Derived.Test.YthlflmmnankhhaaGreatX15
set_option maxRecDepth 100000
set_option maxHeartbeats 64000000
open Go.VL.Drops renaming keep → Dk, drop → Dd
set_option linter.all false
open List renaming replicate → Ya, mem_of_getElem? → Yb, length_map → Yc, length_append → Yd, append_nil → Ye, getElem?_eq_some_iff → Yf, map_append → Yg, drop_length → Yh, length_take → Yi, perm_append_comm → Yj, take_of_length_le → Yk, getElem?_set_ne → Yl, getElem?_eq_none → Ym, foldl_cons → Yn, length_singleton → Yo, getElem?_map → Yp, length_set → Yq, replicate_succ → Yr, length_replicate → Ys
open Nat renaming zero_le → Yt, le_refl → Yu
open Int renaming toNat_natCast → Yv
section
namespace Go.Proofs.YthlflmmnankhhaaGreat.X85
open Go.VL Go.SM Go.Proofs.YthlflmmnankhhaaGreat XS X1 X2 X3 X4 X5 X6 X7 X8 X9 X10 X12 X13 X20 X25 X26 X81 X82 X83 X84
theorem mY_back {ms : Mps} {k : Nat} {x : Nat × Ents} (h : ms[k]? = some (some x)) : (Own.map x.1 (kmap kint x.2) :: mY (ms.set k none)).Perm (mY ms) := (mY_pull h).symm
theorem ndA_T {e : Env} {l : List Bool} {j : Nat} {av all : List Int} (h : av ++ edgeW.ndArgs e j (true :: l) = all) : (av ++ [(e j).getD 0]) ++ edgeW.ndArgs e (j + 1) l = all := by
 rw [<- h, List.append_assoc]
 rfl
theorem ndA_F {e : Env} {l : List Bool} {j : Nat} {av all : List Int} (h : av ++ edgeW.ndArgs e j (false :: l) = all) : av ++ edgeW.ndArgs e (j + 1) l = all := h
theorem edge_T {inn : List (List Int)} {Nd : Nds} {env : Env} {e : SEdge} (h : 1 < (innAt inn e.block.toNat).length) : edgeW inn Nd env e = ⟨e.block, edgeW.ndArgs env 0 (ndAt Nd e.block.toNat)⟩ := by
 unfold edgeW
 rw [if_pos h]
theorem edge_F {inn : List (List Int)} {Nd : Nds} {env : Env} {e : SEdge} (h : ¬ 1 < (innAt inn e.block.toNat).length) : edgeW inn Nd env e = ⟨e.block, []⟩ := by
 unfold edgeW
 rw [if_neg h]
abbrev rowE (b : SBlock) (te : Tok) (l : List SEdge) : V := .agg [intsX b.params, inssX b.ins, .int b.term.kind, .int b.term.arg, .int b.term.n, intsX b.term.cases, .sl 2 (some te) (l.map edgeV)]
theorem edges_one {l : List SEdge} {e : SEdge} : l.map edgeV ++ [edgeV e] = (l ++ [e]).map edgeV := by
 rw [Yg]
 rfl
theorem edges_c {w : Wc} {many : Nat} (hw : WOk w many) {k : Nat} (hk : k < w.G.length) (nx : Int) {out : List V} {ms : Mps} (ha : AllB w.G ms out) {b : SBlock} (hz : out[k]? = some (midV b)) {x : Nat × Ents} (hm : ms[k]? = some (some x)) {env : Env} (hE : EnvR x.2 env) (hto : ∀ e ∈ (blkAt w.G k).term.to, 0 <= e.block /\ e.block < w.G.length) (htl : (blkAt w.G k).term.to.length <= 10000) : VCalls Tryz.prog 37 [.ptr w.gw 0, .int k] (wC w nx :: oC w out :: eC w ms :: mY ms) λ r S' => S' = wC w nx :: oC w (out.set k (blockV (setTo b ((blkAt w.G k).term.to.map (edgeW w.inn w.Nd env))))) :: eC w ms :: mY ms := by
 refine VCalls_drops ?_
 obtain ⟨ha1, ha2, h7⟩ := ha
 obtain ⟨⟨hl0, hl1⟩, hil, hndl, hrow, hmany, hpar, hins⟩ := hw
 have hkout : k < out.length := by omega
 refine V_start (nt := 92) Tryz.func37 rfl rfl rfl ?_
 refine VW_perm (S' := .map x.1 (kmap kint x.2) :: wC w nx :: oC w out :: eC w ms :: (mY<|ms.set k none)) (pullL [_, _, _]<|mY_pull hm)<|VW_cellAt 2 (k * 7 + 6) (v' := .sl 2 (some .nil) []) rfl (rowG_get h7 hz rfl) (V.le.nilTok 2) rfl<|VW_nilBuf 64 2<|VW_perm (S' := .buf .nil 64 2 0 :: .map x.1 (kmap kint x.2) :: wC w nx :: oC w (out.set k<|rowE b .nil []) :: eC w ms :: (mY<|ms.set k none)) (.of_eq (by show (_ :: _ :: _ :: Own.cells w.go 40 ((rowG out).set (k * 7 + 6) _) :: _ :: _) = _; rw [rowG_set h7 hz (by decide)]; rfl))<|Zb<|Zd<|Zc<|Zl rfl<|Zc<|Zv1 rfl<|Zc<|Zj VT.fa79_0 rfl<|Zc<|Zj VT.fa71_0 rfl<|Zc<|Zj VT.fa31_1 rfl<|Zc<|Zu 2 VT.ty29 rfl rfl rfl<|Zc<|Zl rfl<|Zc<|Zz (el := blockV (blkAt w.G k)) VT.sl29 rfl rfl (by omega) (get_mapS _<|blk_at hk)<|λ a16 => (Zc<|Zs2 VT.fa40_2 rfl<|Zc<|Zw1 VT.fa38_4 rfl rfl<|Zc<|Zz1 VT.ty36 rfl rfl<|Zc<|Zd2 (n := (blkAt w.G k).term.to.length) Tryz.underlying36 rfl (by simp)<|λ hl20 => (Zc<|Zl rfl<|Za<|Zi<|Zs<|Zi2 (ι := Nat × Tok) (λ (n, te) => (blkAt w.G k).term.to.length - n) (λ (n, te) => [(0, some (.ptr w.gw 0)), (1, some (.int k)), (19, some (edgesX (blkAt w.G k).term.to)), (20, some (.int (blkAt w.G k).term.to.length)), (21, some (.int n))]) (λ (n, te) => .buf te 64 2 n :: .map x.1 (kmap kint x.2) :: wC w nx :: oC w (out.set k<|rowE b te<|((blkAt w.G k).term.to.take n).map<|edgeW w.inn w.Nd env) :: eC w ms :: mY (ms.set k none)) (λ (n, te) => n <= (blkAt w.G k).term.to.length) (0, .nil) (Yt _) ⟨rfl, rfl, rfl, rfl, rfl, trivial⟩ (Drops.keepE rfl<|Dk<|Dk<|Dk<|Dk<|Zt2 _) ?_))
 rintro ⟨n, te⟩ hn
 change n <= (blkAt w.G k).term.to.length at hn
 refine Zb<|Zd<|Zc<|Zj1 rfl rfl rfl<|Za<|Zi<|Zb<|Zn1 rfl (λ h22 => ?_)<|λ h22 => ?_
 .
  obtain ⟨e, he⟩ := get_of_lt (blkAt w.G k).term.to n h22
  have hem := Yb he
  obtain ⟨he0, he1⟩ := hto e hem
  have hst : (((blkAt w.G k).term.to.take (n + 1)).map (edgeW w.inn w.Nd env)) = (((blkAt w.G k).term.to.take n).map (edgeW w.inn w.Nd env)) ++ [(edgeW w.inn w.Nd env) e] := by rw [take_snoc he, Yg]; rfl
  refine Zi1<|Zi<|Zb<|Zs<|Zb<|Zd<|Zc<|Zz (el := edgeV e) VT.sl36 rfl rfl (by omega) (get_mapS _ he)<|λ a23 => (Zc<|Za2 VT.ty64 rfl rfl<|Zc<|Zb2 VT.zr64 _ rfl rfl<|λ g5 => (Zc<|Zx 0 VT.ty64 rfl rfl rfl rfl rfl<|Za<|Zi<|Zb<|Zd<|Zc<|Zj VT.fa64_0 rfl<|Zc<|Zu 0 VT.ty3 rfl rfl rfl<|Zc<|Zf2 [0] [.tmp 26] VT.st64 rfl rfl rfl rfl<|Zc<|Zb2 VT.zr64 _ rfl rfl<|λ g6 => (Zc<|Zx 0 VT.ty64 rfl rfl rfl rfl rfl<|Za<|Zi<|VW_cutF [(0, some (.ptr w.gw 0)), (1, some (.int k)), (19, some (edgesX (blkAt w.G k).term.to)), (20, some (.int (blkAt w.G k).term.to.length)), (21, some (.int n)), (6, some (.ptr g6 0))] (.cells g6 64 (edgeV<|(edgeW w.inn w.Nd env) e).leaves :: .buf te 64 2 n :: .map x.1 (kmap kint x.2) :: wC w nx :: oC w (out.set k<|rowE b te<|((blkAt w.G k).term.to.take n).map<|edgeW w.inn w.Nd env) :: eC w ms :: mY (ms.set k none)) ?_ ?_)))
  .
   refine Zb<|VW_drawR (G := Unit) [([], [0], []), ([0], [28], []), ([1, 0], [29], []), ([2, 1, 0], [30], []), (dn 4, [31], []), ([], [5], []), ([5], [33], []), (dn 7, [32, 34], []), (dn 8, [35], []), (dn 9, [36], []), (dn 10, [37], [])] [] (constSt _) [38] [28, 29, 30, 31, 32, 33, 34, 35, 36, 37, 38] rfl VT.mix<|ZA (λ γ => Zf<|λ _ h0 => Ze<|Zn rfl<|Zl h0 z0)<|ZA (λ γ => Zw 0 0 rfl<|λ _ h28 => Ze<|Zn rfl<|Zv1 h28 z0)<|ZA (λ γ => Zw 1 0 rfl<|λ _ h29 => Ze<|Zn rfl<|Zj VT.fa79_0 h29 z0)<|ZA (λ γ => Zw 2 0 rfl<|λ _ h30 => Ze<|Zn rfl<|Zj VT.fa71_2 h30 z0)<|ZA (λ γ => Zw 3 0 rfl<|λ _ h31 => Ze<|Zn rfl<|Zu 4 VT.ty69 h31 rfl rfl z0)<|ZA (λ γ => Zf<|λ _ h5 => Ze<|Zn rfl<|Zj VT.fa64_0 h5 z0)<|ZA (λ γ => Zw 5 0 rfl<|λ _ h33 => Ze<|Zn rfl<|Zu 1 VT.ty3 h33 rfl rfl z0)<|Zp (Zb3 _) (Zq<|λ γ => Zw 4 2 rfl<|λ _ h32 => Zw 6 0 rfl<|λ _ h34 => Ze<|Zn rfl<|Zz (el := intsX (innAt w.inn e.block.toNat)) VT.sl69 h32 h34 (by omega) (get_mapS intsX<|inn_at (by omega))<|λ a35 => ⟨⟨_, rfl⟩, rfl⟩)<|ZA (λ γ => Zw 7 0 rfl<|λ _ h35 => Ze<|Zc3 h35<|λ a_35 e35 => Zn rfl<|Zz1 VT.ty32 e35 rfl z0)<|ZA (λ γ => Zw 8 0 rfl<|λ _ h36 => Ze<|Zn rfl<|Zd2 (n := (innAt w.inn e.block.toNat).length) Tryz.underlying32 h36 (by simp)<|λ hl37 => z0)<|ZA (λ γ => Zw 9 0 rfl<|λ _ h37 => Ze<|Zn rfl<|Zj1 h37 rfl rfl z0)<|DrawP_nil<|λ γ => Zw 10 0 rfl<|λ r38 h38 => Ze ?_
   have e38 : r38 = some _ := h38
   subst e38
   clear h38
   refine Zi<|Zn1 rfl (λ h38 => ?_)<|λ h38 => ?_
   .
    have hg : 1 < (innAt w.inn e.block.toNat).length := by omega
    refine VW_cells 0 (ls' := [.int e.block, .sl 1 (some .nil) []]) rfl ⟨V.le.refl _, rfl, V.le.nilTok 1, rfl, trivial⟩<|VW_nilBuf 3 1<|Zb<|VW_drawR (G := Unit) [([], [0], []), ([0], [39], []), ([1, 0], [40], []), ([2, 1, 0], [41], []), ([], [5], []), ([4], [43], []), (dn 6, [42, 44], []), (dn 7, [45], []), (dn 8, [46], []), ([], [], [])] [] (constSt _) [46, 47, 48] [39, 40, 41, 42, 43, 44, 45, 46, 47, 48] rfl VT.mix<|ZA (λ γ => Zf<|λ _ h0 => Ze<|Zn rfl<|Zl h0 z0)<|ZA (λ γ => Zw 0 0 rfl<|λ _ h39 => Ze<|Zn rfl<|Zv1 h39 z0)<|ZA (λ γ => Zw 1 0 rfl<|λ _ h40 => Ze<|Zn rfl<|Zj VT.fa79_1 h40 z0)<|ZA (λ γ => Zw 2 0 rfl<|λ _ h41 => Ze<|Zn rfl<|Zu 5 VT.ty75 h41 rfl rfl z0)<|ZA (λ γ => Zf<|λ _ h5 => Ze<|Zn rfl<|Zj VT.fa64_0 h5 z0)<|ZA (λ γ => Zw 4 0 rfl<|λ _ h43 => Ze<|Zn rfl<|Zu 2 VT.ty3 h43 rfl rfl z0)<|Zp (Zb3 _) (Zq<|λ γ => Zw 3 2 rfl<|λ _ h42 => Zw 5 0 rfl<|λ _ h44 => Ze<|Zn rfl<|Zz (el := boolsB (ndAt w.Nd e.block.toNat)) VT.sl75 h42 h44 (by omega) (ndX_at (by omega))<|λ a45 => ⟨⟨_, rfl⟩, rfl⟩)<|ZA (λ γ => Zw 6 0 rfl<|λ _ h45 => Ze<|Zc3 h45<|λ a_45 e45 => Zn rfl<|Zz1 VT.ty103 e45 rfl z0)<|ZA (λ γ => Zw 7 0 rfl<|λ _ h46 => Ze<|Zn rfl<|Zd2 (n := (ndAt w.Nd e.block.toNat).length) Tryz.underlying103 h46 (by simp)<|λ hl47 => z0)<|ZA (λ γ => Ze<|Zn rfl<|Zl rfl z0)<|DrawP_nil<|λ γ => Zw 7 2 rfl<|λ r46 h46 => Zw 8 1 rfl<|λ r47 h47 => Zw 9 0 rfl<|λ r48 h48 => Ze ?_
    have e46 : r46 = some _ := h46
    subst e46
    clear h46
    have e47 : r47 = some _ := h47
    subst e47
    clear h47
    have e48 : r48 = some _ := h48
    subst e48
    clear h48
    refine Zi<|Zs<|Zi2 (ι := Nat × Tok × List Int) (λ (j, tp, av) => (ndAt w.Nd e.block.toNat).length - j) (λ (j, tp, av) => [(0, some (.ptr w.gw 0)), (1, some (.int k)), (19, some (edgesX (blkAt w.G k).term.to)), (20, some (.int (blkAt w.G k).term.to.length)), (21, some (.int n)), (5, some (.ptr g5 0)), (6, some (.ptr g6 0)), (46, some (boolsB (ndAt w.Nd e.block.toNat))), (47, some (.int (ndAt w.Nd e.block.toNat).length)), (48, some (.int j))]) (λ (j, tp, av) => .buf tp 3 1 av.length :: .cells g6 64 [.int e.block, .sl 1 (some tp) (av.map V.int)] :: .cells g5 64 (edgeV e).leaves :: .buf te 64 2 n :: .map x.1 (kmap kint x.2) :: wC w nx :: oC w (out.set k<|rowE b te<|((blkAt w.G k).term.to.take n).map<|edgeW w.inn w.Nd env) :: eC w ms :: mY (ms.set k none)) (λ (j, tp, av) => j <= (ndAt w.Nd e.block.toNat).length /\ av ++ edgeW.ndArgs env j ((ndAt w.Nd e.block.toNat).drop j) = edgeW.ndArgs env 0 (ndAt w.Nd e.block.toNat) /\ av.length <= j) (0, .nil, []) ⟨Yt _, rfl, Yu _⟩ ⟨rfl, rfl, rfl, rfl, rfl, rfl, rfl, rfl, rfl, rfl, trivial⟩ (Drops.keepE rfl<|Dk<|Dk<|Drops.keepE rfl<|Dk<|Dk<|Dk<|Dk<|Zt2 _) ?_
    rintro ⟨j, tp, av⟩ hA
    change j <= (ndAt w.Nd e.block.toNat).length /\ av ++ edgeW.ndArgs env j ((ndAt w.Nd e.block.toNat).drop j) = edgeW.ndArgs env 0 (ndAt w.Nd e.block.toNat) /\ av.length <= j at hA
    obtain ⟨hj, hq, hal⟩ := hA
    have hndk : (ndAt w.Nd e.block.toNat).length = many := rows_at hrow (by omega)
    refine Zb<|Zd<|Zc<|Zj1 rfl rfl rfl<|Za<|Zi<|Zb<|Zn1 rfl (λ h49 => ?_)<|λ h49 => ?_
    .
     obtain ⟨is, his⟩ := get_of_lt (ndAt w.Nd e.block.toNat) j h49
     rw [drop_cons his] at hq
     refine Zi1<|Zi<|Zb<|Zs<|Zb<|Zd<|Zc<|Zl rfl<|Zc<|Zz (el := V.bool is) VT.sl103 rfl rfl (by omega) (getB his)<|λ a51 => (Zc<|Zz1 VT.ty4 rfl rfl<|Zc<|Zk rfl<|Zc<|Zk rfl<|Za<|Zi<|Zb<|Zd<|Zc<|Zl rfl<|Za<|Zi<|Zr1 rfl (λ h53 => ?_)<|λ h53 => ?_)
     .
      subst h53
      have hB9 := And.intro (show j + 1 <= (ndAt w.Nd e.block.toNat).length by omega) (And.intro (ndA_T hq) (show (av ++ [(env (j : Int)).getD 0]).length <= j + 1 by rw [Yd, Yo]; omega))
      refine VW_drawR (G := Tok) [([], [6], []), ([0], [54], []), ([], [0], []), ([2], [56], []), ([3, 2], [57], []), ([4, 3, 2], [58], []), ([], [1], []), ([6, 5, 4, 3, 2], [59, 60], []), ([7, 6, 5, 4, 3, 2], [61], []), ([], [7], []), ([9, 8, 7, 6, 5, 4, 3, 2], [62, 63], []), ([10, 9, 8, 7, 6, 5, 4, 3, 2], [64], []), (dn 12, [55, 65], [0]), (dn 13, [6], []), (dn 14, [67, 66], [])] [12, 14] (twoSt _ (λ y => .buf y 3 1 (av.map V.int ++ [V.int ((env (j : Int)).getD 0)]).length :: .cells g6 64 [.int e.block, .sl 1 (some tp) (av.map V.int)] :: .cells g5 64 (edgeV e).leaves :: .buf te 64 2 n :: .map x.1 (kmap kint x.2) :: wC w nx :: oC w (out.set k<|rowE b te<|((blkAt w.G k).term.to.take n).map<|edgeW w.inn w.Nd env) :: eC w ms :: (mY<|ms.set k none)) (λ y _ => .buf y 3 1 (av.map V.int ++ [V.int ((env (j : Int)).getD 0)]).length :: .cells g6 64 [.int e.block, .sl 1 (some y) (av.map V.int ++ [V.int ((env (j : Int)).getD 0)])] :: .cells g5 64 (edgeV e).leaves :: .buf te 64 2 n :: .map x.1 (kmap kint x.2) :: wC w nx :: oC w (out.set k<|rowE b te<|((blkAt w.G k).term.to.take n).map<|edgeW w.inn w.Nd env) :: eC w ms :: (mY<|ms.set k none))) [] [54, 55, 56, 57, 58, 59, 60, 61, 62, 63, 64, 65, 66, 67] rfl VT.mix<|Zp (Zm _) (Zo rfl rfl ⟨(λ γ => Zf (λ _ h6 => Ze (Zn rfl (Zj VT.fa64_1 h6 z0)))), trivial⟩)<|Zp (Zm _) (Zo rfl rfl ⟨(λ γ => Zw 0 0 rfl (λ _ h54 => Ze (Zn rfl (Zu 1 VT.ty32 h54 rfl rfl z0)))), trivial⟩)<|Zp (Zm _) (Zo rfl rfl ⟨(λ γ => Zf (λ _ h0 => Ze (Zn rfl (Zl h0 z0)))), trivial⟩)<|Zp (Zm _) (Zo rfl rfl ⟨(λ γ => Zw 2 0 rfl (λ _ h56 => Ze (Zn rfl (Zv1 h56 z0)))), trivial⟩)<|Zp (Zm _) (Zo rfl rfl ⟨(λ γ => Zw 3 0 rfl (λ _ h57 => Ze (Zn rfl (Zj VT.fa79_4 h57 z0)))), trivial⟩)<|Zp (Zm _) (Zo rfl rfl ⟨(λ γ => Zw 4 0 rfl (λ _ h58 => Ze (Zn rfl (Zu 5 VT.ty77 h58 rfl rfl z0)))), trivial⟩)<|Zp (Zm _) (Zo rfl rfl ⟨(λ γ => Zf (λ _ h1 => Ze (Zn rfl (Zl h1 z0)))), trivial⟩)<|Zp (Zm _) (Zo rfl rfl ⟨(λ γ => Zw 5 1 rfl (λ _ h59 => Zw 6 0 rfl (λ _ h60 => Ze (Zn rfl (Zr2 VT.sl77 h59 h60 (by omega) (by omega) z0))))), trivial⟩)<|Zp (Zm _) (Zo rfl rfl ⟨(λ γ => Zw 7 0 rfl (λ _ h61 => Ze (Zn rfl (Zf3 7 k VT.ty106 h61 (by simp) rfl (Ye _).symm (by rw [Yp, hm]; rfl) z0)))), trivial⟩)<|Zp (Zm _) (Zo rfl rfl ⟨(λ γ => Zf (λ _ h7 => Ze (Zn rfl (Zl h7 z0)))), trivial⟩)<|Zp (Zm _) (Zo rfl rfl ⟨(λ γ => Zw 8 1 rfl (λ _ h62 => Zw 9 0 rfl (λ _ h63 => Ze (Zn rfl (Zu2 (V_lookupD 4 (.raw (.int .i64 0)) (λ m => rfl) Tryz.underlying106 (key_int Tryz.underlying3) VT.zr3 h62 h63 rfl z0) ((V.le.of_eq (envR_get hE (j : Int)) : V.le _ (.int ((env (j : Int)).getD 0)))) z0))))), trivial⟩)<|Zp (Zm _) (Zo rfl rfl ⟨(λ γ => Zw 10 0 rfl (λ _ h64 => Ze (Zn rfl (Zk3 [.tmp 64] VT.sl32 rfl rfl rfl (Zp2 h64 Zq2) rfl z0)))), trivial⟩)<|Zp (Zw2<|λ y => .sl 1 (some y) (av.map V.int ++ [V.int ((env (j : Int)).getD 0)])) (Zo2 0 rfl<|λ γ => Zw 1 10 rfl<|λ _ h55 => Zw 11 0 rfl<|λ _ h65 => Ze<|Zn rfl<|Zi3 0 _ VT.sl32 h55 h65 rfl (by simp) (by simp; omega)<|λ t66 => ⟨t66, ⟨t66, rfl, rfl⟩, rfl⟩)<|Zp (Zm _) (Zo rfl rfl ⟨(λ γ => Zf (λ _ h6 => Ze (Zn rfl (Zj VT.fa64_1 h6 z0)))), trivial⟩)<|Zp Za3 (Zo2 1 rfl<|λ γ => Zw 13 0 rfl<|λ _ h67 => Zw 12 1 rfl<|λ _ h66 => Ze<|Zx2 h66<|λ e66 => Zn rfl<|Zy 1 VT.ty32 h67 e66 rfl rfl rfl ⟨default, trivial, rfl⟩)<|DrawP_nil<|λ γ => Ze<|Zb1<|Zi<|VW_perm (S' := .buf (γ 0) 3 1 (av ++ [(env (j : Int)).getD 0]).length :: .cells g6 64 [.int e.block, .sl 1 (some (γ 0)) ((av ++ [(env (j : Int)).getD 0]).map V.int)] :: .cells g5 64 (edgeV e).leaves :: .buf te 64 2 n :: .map x.1 (kmap kint x.2) :: wC w nx :: oC w (out.set k<|rowE b te<|((blkAt w.G k).term.to.take n).map<|edgeW w.inn w.Nd env) :: eC w ms :: (mY<|ms.set k none)) (.of_eq (by rw [Yg, Yd, Yd, Yc]; rfl))<|Zd<|Zc<|Zh2 rfl rfl (by omega)<|Zc<|Zl rfl<|Za<|Zi ?_
      exact ⟨(j + 1, (γ 0), av ++ [(env (j : Int)).getD 0]), (by (try simp only []); omega), hB9, ⟨rfl, rfl, rfl, rfl, rfl, rfl, rfl, rfl, rfl, rfl, trivial⟩, (Drops.keepE rfl (Dk (Dk (Drops.keepE rfl (Dk (Dk (Dk (Dk (Zt2 _)))))))))⟩
     subst h53
     have hB9 := And.intro (show j + 1 <= (ndAt w.Nd e.block.toNat).length by omega) (And.intro (ndA_F hq) (show av.length <= j + 1 by omega))
     refine Zi1<|Zb1<|Zi<|Zd<|Zc<|Zh2 rfl rfl (by omega)<|Zc<|Zl rfl<|Za<|Zi ?_
     exact ⟨(j + 1, tp, av), (by (try simp only []); omega), hB9, ⟨rfl, rfl, rfl, rfl, rfl, rfl, rfl, rfl, rfl, rfl, trivial⟩, (Drops.keepE rfl (Dk (Dk (Drops.keepE rfl (Dk (Dk (Dk (Dk (Zt2 _)))))))))⟩
    have hje : j = (ndAt w.Nd e.block.toNat).length := by omega
    subst hje
    rw [Yh] at hq
    have hew : (edgeW w.inn w.Nd env) e = ⟨e.block, av⟩ := by rw [edge_T hg, <- hq]; exact congrArg (SEdge.mk e.block) (Ye _)
    refine VW_cells 1 (ls' := [.int e.block, intsX av]) rfl ⟨V.le.refl _, rfl, V.le.strip, rfl, trivial⟩<|Zt<|Ze1<|Ze1<|Zc1<|Zi ?_
    exact ⟨⟨rfl, rfl, rfl, rfl, rfl, rfl, trivial⟩, (Dd (Drops.keepE (congrArg (Own.cells g6 64) (by rw [hew]; rfl)) (Dd (Drops.keepE rfl (Dk (Dk (Dk (Dk (Zt2 _)))))))))⟩
   have hew := edge_F (Nd := w.Nd) (env := env) (show ¬ 1 < (innAt w.inn e.block.toNat).length by omega)
   refine VW_cells 0 (ls' := [.int e.block, intsX []]) rfl ⟨V.le.refl _, rfl, V.le.nil 1, rfl, trivial⟩<|Zi1<|Zi ?_
   exact ⟨⟨rfl, rfl, rfl, rfl, rfl, rfl, trivial⟩, (Drops.keepE (congrArg (Own.cells g6 64) (by rw [hew]; rfl)) (Dd (Drops.keepE rfl (Dk (Dk (Dk (Dk (Zt2 _))))))))⟩
  refine VW_drawR (G := Tok) [([], [0], []), ([0], [69], []), ([1, 0], [70], []), ([2, 1, 0], [71], []), (dn 4, [72], []), ([], [1], []), ([], [0], []), ([6], [75], []), ([7, 6], [76], []), ([8, 7, 6], [77], []), ([9, 8, 7, 6], [78], []), ([], [1], []), ([11, 10, 9, 8, 7, 6], [79, 80], []), ([12, 11, 10, 9, 8, 7, 6], [81], []), ([13, 12, 11, 10, 9, 8, 7, 6], [82], []), ([14, 13, 12, 11, 10, 9, 8, 7, 6], [83], []), ([], [6], []), ([16], [85], []), ([17, 16, 15, 14, 13, 12, 11, 10, 9, 8, 7, 6], [84, 86], [0]), (dn 19, [73, 74], []), (dn 20, [88], []), (dn 21, [89], []), (dn 22, [90, 87], [])] [18, 22] (twoSt _ (λ y => .cells g6 64 (edgeV<|(edgeW w.inn w.Nd env) e).leaves :: .buf y 64 2 ((((blkAt w.G k).term.to.take n).map<|edgeW w.inn w.Nd env).map edgeV ++ [(edgeV ((edgeW w.inn w.Nd env) e))]).length :: .map x.1 (kmap kint x.2) :: wC w nx :: oC w (out.set k<|rowE b te<|((blkAt w.G k).term.to.take n).map<|edgeW w.inn w.Nd env) :: eC w ms :: (mY<|ms.set k none)) (λ y _ => .cells g6 64 (edgeV<|(edgeW w.inn w.Nd env) e).leaves :: .buf y 64 2 ((((blkAt w.G k).term.to.take n).map<|edgeW w.inn w.Nd env).map edgeV ++ [(edgeV ((edgeW w.inn w.Nd env) e))]).length :: .map x.1 (kmap kint x.2) :: wC w nx :: .cells w.go 40 ((rowG<|out.set k<|rowE b te<|((blkAt w.G k).term.to.take n).map<|edgeW w.inn w.Nd env).set (k * 7 + 6)<|.sl 2 (some y) ((((blkAt w.G k).term.to.take n).map<|edgeW w.inn w.Nd env).map edgeV ++ [(edgeV ((edgeW w.inn w.Nd env) e))])) :: eC w ms :: (mY<|ms.set k none))) [] [69, 70, 71, 72, 73, 74, 75, 76, 77, 78, 79, 80, 81, 82, 83, 84, 85, 86, 87, 88, 89, 90] rfl VT.mix<|Zp (Zm _) (Zm2 rfl<|λ _ => (λ γ => Zf<|λ _ h0 => Ze<|Zn rfl<|Zl h0 z0))<|Zp (Zm _) (Zm2 rfl<|λ _ => (λ γ => Zw 0 0 rfl<|λ _ h69 => Ze<|Zn rfl<|Zv1 h69 z0))<|Zp (Zm _) (Zm2 rfl<|λ _ => (λ γ => Zw 1 0 rfl<|λ _ h70 => Ze<|Zn rfl<|Zj VT.fa79_3 h70 z0))<|Zp (Zm _) (Zm2 rfl<|λ _ => (λ γ => Zw 2 0 rfl<|λ _ h71 => Ze<|Zn rfl<|Zj VT.fa31_1 h71 z0))<|Zp (Zm _) (Zo rfl rfl ⟨(λ γ => Zw 3 0 rfl (λ _ h72 => Ze (Zn rfl (Zu 3 VT.ty29 h72 rfl rfl z0)))), (λ γ => Zw 3 0 rfl (λ _ h72 => Ze (Zn rfl (Zu 3 VT.ty29 h72 rfl rfl z0)))), trivial⟩)<|Zp (Zm _) (Zm2 rfl<|λ _ => (λ γ => Zf<|λ _ h1 => Ze<|Zn rfl<|Zl h1 z0))<|Zp (Zm _) (Zo rfl rfl ⟨(λ γ => Zf (λ _ h0 => Ze (Zn rfl (Zl h0 z0)))), trivial⟩)<|Zp (Zm _) (Zo rfl rfl ⟨(λ γ => Zw 6 0 rfl (λ _ h75 => Ze (Zn rfl (Zv1 h75 z0)))), trivial⟩)<|Zp (Zm _) (Zo rfl rfl ⟨(λ γ => Zw 7 0 rfl (λ _ h76 => Ze (Zn rfl (Zj VT.fa79_3 h76 z0)))), trivial⟩)<|Zp (Zm _) (Zo rfl rfl ⟨(λ γ => Zw 8 0 rfl (λ _ h77 => Ze (Zn rfl (Zj VT.fa31_1 h77 z0)))), trivial⟩)<|Zp (Zm _) (Zo rfl rfl ⟨(λ γ => Zw 9 0 rfl (λ _ h78 => Ze (Zn rfl (Zu 3 VT.ty29 h78 rfl rfl z0)))), trivial⟩)<|Zp (Zm _) (Zo rfl rfl ⟨(λ γ => Zf (λ _ h1 => Ze (Zn rfl (Zl h1 z0)))), trivial⟩)<|Zp (Zm _) (Zo rfl rfl ⟨(λ γ => Zw 10 1 rfl (λ _ h79 => Zw 11 0 rfl (λ _ h80 => Ze (Zn rfl (Zu2 (Zr2 VT.sl29 h79 h80 (by omega) (by omega) z0) ((V.le.of_eq (congrArg (V.ptr w.go) (by omega)) : V.le _ (.ptr w.go (k * 7)))) z0))))), trivial⟩)<|Zp (Zm _) (Zo rfl rfl ⟨(λ γ => Zw 12 0 rfl (λ _ h81 => Ze (Zn rfl (Zj VT.fa40_2 h81 z0)))), trivial⟩)<|Zp (Zm _) (Zo rfl rfl ⟨(λ γ => Zw 13 0 rfl (λ _ h82 => Ze (Zn rfl (Zu2 (Zj VT.fa38_4 h82 z0) ((V.le.of_eq (congrArg (V.ptr w.go) (by omega)) : V.le _ (.ptr w.go (k * 7 + 6)))) z0)))), trivial⟩)<|Zp (Zm _) (Zo rfl rfl ⟨(λ γ => Zw 14 0 rfl (λ _ h83 => Ze (Zn rfl (Zu 4 VT.ty36 h83 rfl (rowG_get (L7_set h7 k rfl) (out_set hkout) rfl) z0)))), trivial⟩)<|Zp (Zm _) (Zo rfl rfl ⟨(λ γ => Zf (λ _ h6 => Ze (Zn rfl (Zu2 (Zv 0 VT.ty64 h6 rfl rfl z0) ((V.le.refl _ : V.le _ (edgeV ((edgeW w.inn w.Nd env) e)))) z0)))), trivial⟩)<|Zp (Zm _) (Zo rfl rfl ⟨(λ γ => Zw 16 0 rfl (λ _ h85 => Ze (Zn rfl (Zk3 [.tmp 85] VT.sl36 rfl rfl rfl (Zp2 h85 Zq2) rfl z0)))), trivial⟩)<|Zp (Zw2<|λ y => .sl 2 (some y) ((((blkAt w.G k).term.to.take n).map<|edgeW w.inn w.Nd env).map edgeV ++ [(edgeV ((edgeW w.inn w.Nd env) e))])) (Zo2 0 rfl<|λ γ => Zw 15 2 rfl<|λ _ h84 => Zw 17 0 rfl<|λ _ h86 => Ze<|Zn rfl<|Zi3 1 _ VT.sl36 h84 h86 rfl (by simp; omega) (by simp; omega)<|λ t87 => ⟨t87, ⟨t87, rfl, rfl⟩, rfl⟩)<|Zp (Zm _) (Zo rfl rfl ⟨(λ γ => Zw 4 14 rfl (λ _ h73 => Zw 5 13 rfl (λ _ h74 => Ze (Zn rfl (Zu2 (Zr2 VT.sl29 h73 h74 (by omega) (by omega) z0) ((V.le.of_eq (congrArg (V.ptr w.go) (by omega)) : V.le _ (.ptr w.go (k * 7)))) z0))))), trivial⟩)<|Zp (Zm _) (Zo rfl rfl ⟨(λ γ => Zw 19 0 rfl (λ _ h88 => Ze (Zn rfl (Zj VT.fa40_2 h88 z0)))), trivial⟩)<|Zp (Zm _) (Zo rfl rfl ⟨(λ γ => Zw 20 0 rfl (λ _ h89 => Ze (Zn rfl (Zu2 (Zj VT.fa38_4 h89 z0) ((V.le.of_eq (congrArg (V.ptr w.go) (by omega)) : V.le _ (.ptr w.go (k * 7 + 6)))) z0)))), trivial⟩)<|Zp Za3 (Zo2 1 rfl<|λ γ => Zw 21 0 rfl<|λ _ h90 => Zw 18 3 rfl<|λ _ h87 => Ze<|Zx2 h87<|λ e87 => Zn rfl<|Zy 4 VT.ty36 h90 e87 rfl rfl (Nat.ble_eq_true_of_le (by rw [rowG_len (L7_set h7 k rfl), Yq]; omega)) ⟨default, trivial, rfl⟩)<|DrawP_nil<|λ γ => Ze<|Zb1<|Zi<|VW_perm (S' := .cells g6 64 (edgeV<|(edgeW w.inn w.Nd env) e).leaves :: .buf (γ 0) 64 2 (n + 1) :: .map x.1 (kmap kint x.2) :: wC w nx :: oC w (out.set k<|rowE b (γ 0)<|((blkAt w.G k).term.to.take (n + 1)).map<|edgeW w.inn w.Nd env) :: eC w ms :: (mY<|ms.set k none)) (.of_eq (by show (_ :: _ :: _ :: _ :: Own.cells w.go 40 ((rowG<|out.set k<|rowE b te<|((blkAt w.G k).term.to.take n).map<|edgeW w.inn w.Nd env).set (k * 7 + 6) _) :: _ :: _) = _; rw [rowE, rowG_set (L7_set h7 k rfl) (out_set hkout) (by decide), set_set, edges_one, <- hst, Yc, Yc, Yi, Nat.min_eq_left (show n + 1 <= (blkAt w.G k).term.to.length by omega)]; rfl))<|Zd<|Zc<|Zh2 rfl rfl (by omega)<|Zc<|Zl rfl<|Za<|Zi ?_
  exact ⟨(n + 1, (γ 0)), (by (try simp only []); omega), (by omega), ⟨rfl, rfl, rfl, rfl, rfl, trivial⟩, (Dd (Drops.keepE rfl (Dk (Dk (Dk (Dk (Zt2 _)))))))⟩
 have hne : n = (blkAt w.G k).term.to.length := by omega
 subst hne
 refine VW_perm (S' := .buf te 64 2 (blkAt w.G k).term.to.length :: .map x.1 (kmap kint x.2) :: wC w nx :: oC w (out.set k<|rowE b te<|(blkAt w.G k).term.to.map<|edgeW w.inn w.Nd env) :: eC w ms :: (mY<|ms.set k none)) (.of_eq (by show (.buf te 64 2 (blkAt w.G k).term.to.length :: .map x.1 (kmap kint x.2) :: wC w nx :: oC w (out.set k<|rowE b te<|((blkAt w.G k).term.to.take (blkAt w.G k).term.to.length).map<|edgeW w.inn w.Nd env) :: eC w ms :: (mY<|ms.set k none)) = _; rw [Yk (Yu _)]))<|VW_cellAt 3 (k * 7 + 6) (v' := edgesX ((blkAt w.G k).term.to.map<|edgeW w.inn w.Nd env)) rfl (rowG_get (L7_set h7 k rfl) (out_set hkout) rfl) V.le.strip rfl ?_
 have hp9 : ([Own.map x.1 (kmap kint x.2), wC w nx, Own.cells w.go 40 ((rowG (out.set k (rowE b te ((blkAt w.G k).term.to.map (edgeW w.inn w.Nd env))))).set (k * 7 + 6) (edgesX ((blkAt w.G k).term.to.map (edgeW w.inn w.Nd env)))), eC w ms] ++ mY (ms.set k none)).Perm ([wC w nx, oC w (out.set k (blockV (setTo b ((blkAt w.G k).term.to.map (edgeW w.inn w.Nd env))))), eC w ms] ++ mY ms) := by
  rw [rowE, rowG_set (L7_set h7 k rfl) (out_set hkout) (by decide), set_set]
  exact List.perm_middle.symm.trans ((mY_back hm).append_left [_, _, _])
 refine Zt<|Ze1<|Ze1<|Zc1<|Zn3 rfl ?_
 have hfin : blockV (setTo b ((blkAt w.G k).term.to.map (edgeW w.inn w.Nd env))) = .agg [intsX b.params, inssX b.ins, .int b.term.kind, .int b.term.arg, .int b.term.n, intsX b.term.cases, edgesX ((blkAt w.G k).term.to.map (edgeW w.inn w.Nd env))] := rfl
 exact ⟨_, .drop (.of_perm hp9), rfl⟩
end Go.Proofs.YthlflmmnankhhaaGreat.X85
end
section
namespace Go.Proofs.YthlflmmnankhhaaGreat.X86
open Go.VL Go.SM Go.Proofs.YthlflmmnankhhaaGreat XS X1 X2 X3 X4 X5 X6 X7 X8 X9 X10 X12 X13 X20 X15 X25 X26 X81 X82 X83 X84 X85
def fillG (f : SFunc) (k : Nat) : List V := ((graphG f).take (cntF (skF f) k)).map blockV ++ Ya ((graphG f).length - cntF (skF f) k) zB
theorem fillG_zero (f : SFunc) : fillG f 0 = Ya (graphG f).length zB := by
 unfold fillG
 rw [cnt_zero, List.take_zero, Nat.sub_zero]
 rfl
theorem fillG_keep {f : SFunc} {k : Nat} (h : cntF (skF f) (k + 1) = cntF (skF f) k) : fillG f k = fillG f (k + 1) := by
 unfold fillG
 rw [h]
theorem fillG_set {f : SFunc} {k : Nat} {b : SBlock} (h : cntF (skF f) (k + 1) = cntF (skF f) k + 1) (hb : (graphG f)[cntF (skF f) k]? = some b) : (fillG f k).set (cntF (skF f) k) (blockV b) = fillG f (k + 1) := by
 have hl := (Yf.1 hb).1
 unfold fillG
 rw [h, take_snoc hb, Yg, List.set_append_right _ _ (by rw [Yc, Yi]; omega), Yc, Yi, Nat.min_eq_left (by omega), Nat.sub_self, show (graphG f).length - cntF (skF f) k = ((graphG f).length - (cntF (skF f) k + 1)) + 1 by omega, Yr, List.set_cons_zero, List.append_assoc]
 rfl
theorem fillG_len {f : SFunc} {k : Nat} (h : cntF (skF f) k <= (graphG f).length) : (fillG f k).length = (graphG f).length := by
 unfold fillG
 rw [Yd, Yc, Yi, Ys]
 omega
theorem fillG_7 (f : SFunc) (k : Nat) : ∀ x ∈ fillG f k, x.leaves.length = 7 := λ x hx => by
 unfold fillG at hx
 rcases List.mem_append.1 hx with hx | hx
 .obtain ⟨b, _, rfl⟩ := List.mem_map.1 hx
  rfl
 .rw [(List.mem_replicate.1 hx).2]
  rfl
theorem fillG_end {f : SFunc} (h : mfuncF f = 0) : fillG f f.blocks.length = (graphG f).map blockV := by
 unfold fillG
 rw [cnt_end h, Yk (Yu _), Nat.sub_self]
 simp
def toE (f : SFunc) (k : Nat) (b : SBlock) : List SEdge := if 0 <= gI (atF (skF f)) k then (grT f b).term.to else b.term.to
theorem fits_bs (l : List SBlock) : ∀ x ∈ l.map blockV, x.fits 7 = true /\ ((∃ ls, x = .agg ls) \/ x.leaf = true) := λ x hx => by
 obtain ⟨n, _, rfl⟩ := List.mem_map.1 hx
 exact ⟨rfl, .inl ⟨_, rfl⟩⟩
def wOf (f : SFunc) (Nd : Nds) (gw go ge : Nat) : Wc := ⟨f.name, graphG f, orderG f, innG f, Nd, gw, go, ge⟩
def wPre (f : SFunc) (Nd : Nds) (i : Nat) : WSt := ((orderG f).take i).foldl (wStep (graphG f) (innG f) Nd) wStart
theorem wPre_step {f : SFunc} {Nd : Nds} {i k : Nat} (h : (orderG f)[i]? = some k) : wPre f Nd (i + 1) = wStep (graphG f) (innG f) Nd (wPre f Nd i) k := by
 unfold wPre
 rw [take_snoc h, List.foldl_append]
 rfl
theorem nilM (n : Nat) : (Ya n (V.raw (.map none))).flatMap V.leaves = Ya n (V.raw (.map none)) := by
 induction n with
 | zero => rfl
 | succ n ih => rw [Yr, List.flatMap_cons, ih]; rfl
theorem mY_none (n : Nat) : mY (Ya n none) = [] := by
 induction n with
 | zero => rfl
 | succ n ih => rw [Yr]; exact ih
structure EInv (f : SFunc) (Nd : Nds) (i : Nat) (out : List V) (ms : Mps) : Prop where
 all : AllB (graphG f) ms out
 nx : 0 <= (wPre f Nd i).nx /\ (wPre f Nd i).nx <= i * 20000
 done : ∀ k ∈ (orderG f).take i, out[k]? = some (midV ((wPre f Nd i).mid k)) /\ ∃ x : Nat × Ents, ms[k]? = some (some x) /\ EnvR x.2 ((wPre f Nd i).ends k) /\ KN x.2
 todo : ∀ k, k < (graphG f).length -> k ∉ (orderG f).take i -> out[k]? = some zB /\ ms[k]? = some none
theorem einv_start (f : SFunc) (Nd : Nds) : EInv f Nd 0 (Ya (graphG f).length zB) (Ya (graphG f).length none) := by
 refine ⟨⟨Ys, Ys, λ x hx => ?_⟩, ⟨Int.le_refl _, Int.le_refl _⟩, (λ k hk => by simp at hk), λ k hk _ => ?_⟩
 .rw [(List.mem_replicate.1 hx).2]
  rfl
 .rw [List.getElem?_replicate, if_pos hk, List.getElem?_replicate, if_pos hk]
  exact ⟨rfl, rfl⟩
section
variable {f : SFunc} (h : mfuncF f = 0) (hz : InsB f) {Nd : Nds} (hN : NeedOk (graphG f) (orderG f) (manyN f) Nd)
include h
theorem graph_ok : GraphOk (graphG f) (manyN f) (orderG f) := by
 obtain ⟨m1, m2, m3, m4⟩ := many_le h
 obtain ⟨s1, s2⟩ := graph_small h
 have ho := skP_order h
 refine ⟨λ b hb e he => ?_, λ b hb => ?_, λ k hk => by rw [graph_len]; exact ho.lt k hk, by omega, by omega, ?_⟩
 .have := graph_edges h b hb e he
  omega
 .obtain ⟨c, hc, rfl⟩ := graph_of_mem h hb
  obtain ⟨a1, a2, a3, a4⟩ := m4 c hc
  exact ⟨a1, a2, a3⟩
 .have h1 := nodup_lt ho.nodup ho.lt
  rw [<- graph_len] at h1
  omega
include hN
theorem en_ok : EnOk f (manyN f) Nd := by
 obtain ⟨m1, m2, m3, m4⟩ := many_le h
 exact ⟨by omega, m4, hN⟩
include hz
theorem wok_of (gw go ge : Nat) : WOk (wOf f Nd gw go ge) (manyN f) := by
 obtain ⟨m1, m2, m3, m4⟩ := many_le h
 obtain ⟨s1, s2⟩ := graph_small h
 refine ⟨⟨s1, by show (graphG f).length <= 1000; omega⟩, ?_, hN.len, hN.row, by omega, λ b hb => ?_, λ b hb => ?_⟩
 .show (predsF (skP f).blocks).length = (graphG f).length
  rw [predsF_len, graph_len]
 .obtain ⟨c, hc, rfl⟩ := graph_of_mem h hb
  have := m_params h hc
  show c.params.length <= 10000
  omega
 .obtain ⟨c, hc, rfl⟩ := graph_of_mem h hb
  have h1 := m_small h hz c hc
  refine ⟨by show c.ins.length <= 10000; omega, λ i hi => ?_⟩
  have := ((m_vb h hc).2.2 i hi).2.2.2
  omega
theorem body_le (i k : Nat) (hk : k < (graphG f).length) (ends : Nat -> Env) (nx : Int) : ((beginF (graphG f) (innG f) Nd ends k nx).nx <= nx + 5000 /\ nx <= (beginF (graphG f) (innG f) Nd ends k nx).nx /\ (beginF (graphG f) (innG f) Nd ends k nx).ins.length <= 20000) /\ (bodyF2 (graphG f) (innG f) Nd ends k nx).nx <= nx + 20000 := by
 obtain ⟨m1, m2, m3, m4⟩ := many_le h
 obtain ⟨s1, s2⟩ := graph_small h
 obtain ⟨b1, b2⟩ := begin_le (graphG f) (innG f) Nd ends k nx
 have h1 := begin_nx (graphG f) (innG f) Nd ends k nx
 have h2 : (ndAt Nd k).length = manyN f := rows_at hN.row (by rw [hN.len]; exact hk)
 have hblk : ∀ j, j < (graphG f).length -> (blkAt (graphG f) j).params.length <= 6 /\ (blkAt (graphG f) j).ins.length <= 4096 := λ j hj => by
  have hm := Yb (blk_at hj)
  obtain ⟨c, hc, e⟩ := graph_of_mem h hm
  rw [e]
  exact ⟨(m_params h hc : c.params.length <= 6), m_small h hz c hc⟩
 have h3 := hblk 0 (by omega)
 have h4 := hblk k hk
 have h5 := foldB_le (blkAt (graphG f) k).ins (beginF (graphG f) (innG f) Nd ends k nx)
 refine ⟨⟨by omega, h1, by omega⟩, ?_⟩
 unfold bodyF2
 omega
omit hz hN in
theorem einv_par {i k : Nat} {out : List V} {ms : Mps} (hI : EInv f Nd i out ms) (hk : (orderG f)[i]? = some k) : k ≠ 0 -> (innAt (innG f) k).length = 1 -> ∃ (p : Nat) (x : Nat × Ents), innAt (innG f) k = [(p : Int)] /\ ms[p]? = some (some x) /\ EnvR x.2 ((wPre f Nd i).ends p) /\ KN x.2 := λ h0 h1 => by
 obtain ⟨p, hp⟩ := List.length_eq_one_iff.1 h1
 obtain ⟨j, q, hj, hq, he⟩ := (skP_order h).par i k hk h0
 have hm : (q : Int) ∈ innAt (innG f) k := (preds_mem (skP_edges h)).2 ⟨q, rfl, he⟩
 rw [hp] at hm
 have e : (q : Int) = p := List.mem_singleton.1 hm
 have hqt : q ∈ (orderG f).take i := Yb (i := j) (by rw [List.getElem?_take_of_lt hj]; exact hq)
 obtain ⟨_, x, hx1, hx2, hx3⟩ := hI.done q hqt
 exact ⟨q, x, by rw [hp, e], hx1, hx2, hx3⟩
omit hz hN in
theorem order_fresh {i k : Nat} (hk : (orderG f)[i]? = some k) : k ∉ (orderG f).take i := λ hm => by
 have hnd := (skP_order h).nodup
 obtain ⟨j, hj⟩ := List.getElem?_of_mem hm
 have hjl := (Yf.1 hj).1
 rw [Yi] at hjl
 rw [List.getElem?_take_of_lt (by omega)] at hj
 have := (List.getElem?_inj (Yf.1 hj).1 hnd).1 (hj.trans hk.symm)
 omega
theorem einv_step {i k : Nat} {out : List V} {ms : Mps} (hI : EInv f Nd i out ms) (hk : (orderG f)[i]? = some k) (gw go ge : Nat) {g : Nat} {l : Ents} (hE : EnvR l (bodyOf (wOf f Nd gw go ge) (wPre f Nd i).ends k (wPre f Nd i).nx).env) (hK : KN l) :
  EInv f Nd (i + 1) (out.set k (midV (blkOf (wOf f Nd gw go ge) (wPre f Nd i).ends k (wPre f Nd i).nx))) (ms.set k (some (g, l))) := by
 have hkl : k < (graphG f).length := by rw [graph_len]; exact (skP_order h).lt k (Yb hk)
 have hfr := order_fresh h hk
 obtain ⟨a1, a2, a3⟩ := hI.all
 have hw := wPre_step (Nd := Nd) hk
 have hnx := body_nx (graphG f) (innG f) Nd (wPre f Nd i).ends k (wPre f Nd i).nx
 have hn0 := hI.nx
 have hbl := (body_le h hz hN i k hkl (wPre f Nd i).ends (wPre f Nd i).nx).2
 have hmem : ∀ j, j ∈ (orderG f).take (i + 1) ↔ j ∈ (orderG f).take i \/ j = k := λ j => by rw [take_snoc hk, List.mem_append, List.mem_singleton]
 have hold : ∀ j, j ≠ k -> (wPre f Nd (i + 1)).mid j = (wPre f Nd i).mid j /\ (wPre f Nd (i + 1)).ends j = (wPre f Nd i).ends j := λ j hj => by
  rw [hw]
  exact ⟨if_neg hj, if_neg hj⟩
 refine ⟨⟨by rw [Yq]; exact a1, by rw [Yq]; exact a2, L7_set a3 k rfl⟩, ?_, λ j hj => ?_, λ j hj hn => ?_⟩
 .rw [hw]
  show 0 <= (bodyF2 (graphG f) (innG f) Nd (wPre f Nd i).ends k (wPre f Nd i).nx).nx /\ (bodyF2 (graphG f) (innG f) Nd (wPre f Nd i).ends k (wPre f Nd i).nx).nx <= ((i + 1 : Nat) : Int) * 20000
  omega
 .by_cases e : j = k
  .subst e
   rw [List.getElem?_set_self (by omega), List.getElem?_set_self (by omega), hw]
   refine ⟨?_, (g, l), rfl, ?_, hK⟩
   .show _ = some (midV (if j = j then _ else _))
    rw [if_pos rfl]
    rfl
   .show EnvR l (if j = j then _ else _)
    rw [if_pos rfl]
    exact hE
  .have hj := ((hmem j).1 hj).resolve_right e
   obtain ⟨h1, h2⟩ := hold j e
   rw [Yl (λ q => e q.symm), Yl (λ q => e q.symm), h1, h2]
   exact hI.done j hj
 .have e : j ≠ k := λ e => hn ((hmem j).2 (.inr e))
  rw [Yl (λ q => e q.symm), Yl (λ q => e q.symm)]
  exact hI.todo j hj λ q => hn ((hmem j).2 (.inl q))
end
def outAt (f : SFunc) (Nd : Nds) (k : Nat) : List V := (List.range (graphG f).length).map λ j => if j < k then blockV (outB f Nd j) else midV ((WG f Nd).mid j)
theorem outAt_len {f : SFunc} {Nd : Nds} {k : Nat} : (outAt f Nd k).length = (graphG f).length := by
 unfold outAt
 rw [Yc, List.length_range]
theorem outAt_get {f : SFunc} {Nd : Nds} {k j : Nat} (hj : j < (graphG f).length) : (outAt f Nd k)[j]? = some (if j < k then blockV (outB f Nd j) else midV ((WG f Nd).mid j)) := by
 unfold outAt
 rw [Yp, List.getElem?_range hj]
 rfl
theorem outAt_7 (f : SFunc) (Nd : Nds) (k : Nat) : L7 (outAt f Nd k) := λ x hx => by
 unfold outAt at hx
 obtain ⟨j, _, rfl⟩ := List.mem_map.1 hx
 split <;> rfl
theorem outAt_set {f : SFunc} {Nd : Nds} {k : Nat} (hk : k < (graphG f).length) : (outAt f Nd k).set k (blockV (outB f Nd k)) = outAt f Nd (k + 1) := by
 refine List.ext_getElem? λ j => ?_
 rw [List.getElem?_set]
 by_cases hj : j < (graphG f).length
 .rw [outAt_get hj, outAt_get hj]
  by_cases e : k = j
  .subst e
   rw [if_pos rfl, if_pos (by rw [outAt_len]; exact hk), if_pos (by omega)]
  .rw [if_neg e]
   by_cases h1 : j < k
   .rw [if_pos h1, if_pos (by omega)]
   .rw [if_neg h1, if_neg (by omega)]
 .rw [Ym (l := outAt f Nd (k + 1)) (by rw [outAt_len]; omega), if_neg (by omega), Ym (by rw [outAt_len]; omega)]
theorem outAt_end {f : SFunc} {Nd : Nds} : outAt f Nd (graphG f).length = (enterG f Nd).blocks.map blockV := by
 show _ = ((List.range (graphG f).length).map (outB f Nd)).map blockV
 rw [List.map_map]
 unfold outAt
 exact List.map_congr_left λ j hj => if_pos (List.mem_range.1 hj)
theorem einv_end {f : SFunc} (h : mfuncF f = 0) {Nd : Nds} {out : List V} {ms : Mps} (hI : EInv f Nd (orderG f).length out ms) : out = outAt f Nd 0 /\ ∀ k, k < (graphG f).length -> ∃ x : Nat × Ents, ms[k]? = some (some x) /\ EnvR x.2 ((WG f Nd).ends k) := by
 have hw : wPre f Nd (orderG f).length = WG f Nd := by
  unfold wPre
  rw [Yk (Yu _)]
  rfl
 have hall : ∀ k, k < (graphG f).length -> k ∈ (orderG f).take (orderG f).length := λ k hk => by
  rw [Yk (Yu _)]
  exact order_all h hk
 refine ⟨List.ext_getElem? λ j => ?_, λ k hk => ?_⟩
 .by_cases hj : j < (graphG f).length
  .rw [outAt_get hj, if_neg (by omega), (hI.done j (hall j hj)).1, hw]
  .rw [Ym (by rw [hI.all.1]; omega), Ym (by rw [outAt_len]; omega)]
 .obtain ⟨_, x, h1, h2, _⟩ := hI.done k (hall k hk)
  rw [hw] at h2
  exact ⟨x, h1, h2⟩
theorem enter_c {f : SFunc} (h : mfuncF f = 0) (hz : InsB f) : VCalls Tryz.prog 19 [funcV f] [] λ r S' => ∃ Nd, EnOk f (manyN f) Nd /\ r = .tup [funcV (enterG f Nd), .int 0] /\ S' = [] := by
 refine VCalls_drops ?_
 have hM := mfunc_ok h
 have hl128 := hM.len
 have hskl := skF_len f
 have hskp := skP_ok h
 have hO := Order_c (skP f)
 rw [if_pos hskp, hskp] at hO
 have hP := Preds_c (skP f)
 rw [if_pos hskp, hskp] at hP
 obtain ⟨hm1, hm2, hm3, hm4⟩ := many_le h
 obtain ⟨hg1, hg2⟩ := graph_small h
 have hgl := graph_len (f := f)
 have hal : (atF (skF f)).length = f.blocks.length := by rw [at_len, hskl]
 haveI : Inhabited { Nd : Nds // NeedOk (graphG f) (orderG f) (manyN f) Nd } := ⟨Classical.choice (need_inh h (manyN f))⟩
 refine V_start (nt := 172) Tryz.func19 rfl rfl rfl ?_
 refine Zb<|Zd<|Zc<|Zc2 rfl rfl<|λ g1 => (Zc<|Zb2 VT.zr31 _ rfl rfl<|λ g2 => (Zc<|Zk rfl<|Za<|Zi<|Zb<|Zd<|Zc<|Zv 1 VT.ty31 rfl rfl rfl<|Zc<|Zx1 [.tmp 22] rfl rfl VT.en33 (skeleton_c f (by omega))<|Zc<|Zx1 [.tmp 23] rfl rfl VT.en32 (Prune_c0<|sk_ok h)<|Zc<|Zl rfl<|Zc<|Zu2 (Zg2 rfl rfl ⟨rfl, rfl⟩) ((V.le.refl _ : V.le _ (funcV<|skP f)))<|Zc<|Zg2 rfl rfl<|Zc<|Zg2 rfl rfl<|Zc<|Zb2 VT.zr31 _ rfl rfl<|λ g4 => (Zc<|Zx 0 VT.ty31 rfl rfl rfl rfl rfl<|Zc<|Zk rfl<|Zc<|Zk rfl<|Za<|Zi<|Zb<|Zb<|Zd<|Zc<|Zl rfl<|Zc<|Zj1 rfl rfl rfl<|Za<|Zi<|Zm1 rfl (λ h29 => ?_)<|λ h29 => ?_)))
 . exact absurd rfl h29
 refine Zi1<|Zi<|Zb<|VW_drawA2 (G := Nat) [([], [1], []), ([0], [32], []), ([], [4], []), ([2], [34], []), ([3, 2], [35], []), ([4, 3, 2], [36], [0]), (dn 6, [33, 37], [0]), (dn 7, [38], [0]), ([], [], [1]), (dn 9, [7, 39], [])] [5, 8, 9] 2 (λ p x => match p with | 0 => [.cells x 40 (rowG (Ya (graphG f).length zB))] | _ => [.cells x 71 VT.zs71]) (λ l => match l with | [x, y, _] => [.cells x 40 (rowG (Ya (graphG f).length zB)), .cells y 71 [.int f.name, .raw (.slice (some ⟨x, 0, none⟩) (graphG f).length (graphG f).length), V.nilSl, V.nilSl], .cells g4 31 [.int (skP f).name, blocksX (skP f).blocks], .cells g2 31 VT.zs31, .cells g1 31 [.int f.name, blocksX f.blocks]] | _ => []) [7] [7, 32, 33, 34, 35, 36, 37, 38, 39] VT.mix<|ZpM (Zm _) (goodAM (by kernel_rfl)<|λ _ => (λ γ => Zf<|λ _ h1 => Ze<|Zn rfl<|Zj VT.fa31_0 h1 z0))<|ZpM (Zm _) (goodSM (l := [[], [0], [1], [0, 1]]) (by kernel_rfl) (by kernel_rfl) ⟨(λ γ => Zw 0 0 rfl (λ _ h32 => Ze (Zn rfl (Zu 2 VT.ty3 h32 rfl rfl z0)))), (λ γ => Zw 0 0 rfl (λ _ h32 => Ze (Zn rfl (Zu 3 VT.ty3 h32 rfl rfl z0)))), (λ γ => Zw 0 0 rfl (λ _ h32 => Ze (Zn rfl (Zu 3 VT.ty3 h32 rfl rfl z0)))), (λ γ => Zw 0 0 rfl (λ _ h32 => Ze (Zn rfl (Zu 4 VT.ty3 h32 rfl rfl z0)))), trivial⟩)<|ZpM (Zm _) (goodAM (by kernel_rfl)<|λ _ => (λ γ => Zf<|λ _ h4 => Ze<|Zn rfl<|Zj VT.fa31_1 h4 z0))<|ZpM (Zm _) (goodSM (l := [[], [1]]) (by kernel_rfl) (by kernel_rfl) ⟨(λ γ => Zw 2 0 rfl (λ _ h34 => Ze (Zn rfl (Zu2 (Zu 0 VT.ty29 h34 rfl rfl z0) ((V.le.refl _ : V.le _ (blocksX (skP f).blocks))) z0)))), (λ γ => Zw 2 0 rfl (λ _ h34 => Ze (Zn rfl (Zu2 (Zu 1 VT.ty29 h34 rfl rfl z0) ((V.le.refl _ : V.le _ (blocksX (skP f).blocks))) z0)))), trivial⟩)<|ZpM (Zm _) (goodAM (by kernel_rfl)<|λ _ => (λ γ => Zw 3 0 rfl<|λ _ h35 => Ze<|Zn rfl<|Zu2 (Zd2 (n := (skP f).blocks.length) Tryz.underlying29 h35 (by simp)<|λ hl36 => z0) ((V.le.of_eq (congrArg V.int (by omega)) : V.le _ (.int (graphG f).length))) z0))<|ZpM (Zw2<|λ x => .raw<|.slice (some ⟨x, 0, none⟩) (graphG f).length (graphG f).length) (goodAdd2 (q := 0) (by kernel_rfl) (by kernel_rfl) (by kernel_rfl)<|λ _ => (λ γ => Zw 4 0 rfl<|λ _ h36 => Ze<|Zn rfl<|V_makeRow (.agg VT.zs40) (λ m => ⟨rfl, _, rfl, by simp [Go.VL.RepL, VT.zs40, Rep]⟩) rfl VT.sl29 h36 h36 (by omega) (by omega)<|λ g37 => ⟨g37, ⟨_, rfl, rfl⟩, cons_cells (by rw [Yv]; rfl)⟩))<|ZpM (Zw2<|λ x => .agg [.int f.name, .raw (.slice (some ⟨x, 0, none⟩) (graphG f).length (graphG f).length)]) (goodAM (by kernel_rfl)<|λ _ => (λ γ => Zw 1 4 rfl<|λ _ h33 => Zw 5 0 rfl<|λ _ h37 => Ze<|Zx2 h37<|λ e37 => Zn rfl<|Zf2 [0, 1] [.tmp 33, .tmp 37] VT.st31 rfl rfl (Zp2 h33<|Zp2 e37 Zq2) rfl ⟨⟨_, rfl, rfl⟩, rfl⟩))<|ZpM (Zw2<|λ x => .agg [.int f.name, .raw (.slice (some ⟨x, 0, none⟩) (graphG f).length (graphG f).length), V.nilSl, V.nilSl]) (goodAM (by kernel_rfl)<|λ _ => (λ γ => Zw 6 0 rfl<|λ _ h38 => Ze<|Zx2 h38<|λ e38 => Zn rfl<|Zf2 [0] [.tmp 38] VT.st71 rfl rfl (Zp2 e38 Zq2) rfl ⟨⟨_, rfl, rfl⟩, rfl⟩))<|ZpM (Zw2<|λ x => .ptr x 0) (goodAdd2 (q := 1) (by kernel_rfl) (by kernel_rfl) (by kernel_rfl)<|λ _ => (λ γ => Ze<|Zn rfl<|Zb2 VT.zr71 _ rfl rfl<|λ g7 => ⟨g7, ⟨_, rfl, rfl⟩, rfl⟩))<|ZpM Za3 (goodFin2 (by kernel_rfl) (by kernel_rfl) (by kernel_rfl)<|λ γ => Zw 8 0 rfl<|λ _ h7 => Zw 7 1 rfl<|λ _ h39 => Ze<|Zx2 h7<|λ e7 => Zx2 h39<|λ e39 => Zn rfl<|Zx 1 VT.ty71 e7 e39 rfl rfl rfl ⟨default, trivial, rfl⟩)<|DrawM_nil<|λ δ => Zw 8 1 rfl<|λ r7 h7 => Ze ?_
 have e7 : r7 = some _ := Zd3 h7
 subst e7
 clear h7
 refine Zi<|VW_perm (S' := [.cells (δ 0) 40 (rowG (Ya (graphG f).length zB)), .cells (δ 1) 71 [.int f.name, .raw (.slice (some ⟨(δ 0), 0, none⟩) (graphG f).length (graphG f).length), V.nilSl, V.nilSl], .cells g4 31 [.int (skP f).name, blocksX (skP f).blocks], .cells g2 31 VT.zs31, .cells g1 31 [.int f.name, blocksX f.blocks]]) (.of_eq rfl) ?_
 generalize (δ 0) = g37
 generalize (δ 1) = g7
 refine Zb<|Zd<|Zc<|Zk rfl<|Za<|Zi<|Zb<|Zb<|Zd<|Zc<|Zj VT.fa31_1 rfl<|Zc<|Zu 4 VT.ty29 rfl rfl rfl<|Zc<|Zd2 (n := f.blocks.length) Tryz.underlying29 rfl (by simp)<|λ hl42 => (Zc<|Zl rfl<|Za<|Zi<|Zs<|Zi2 (ι := Nat × Int) (λ (k, m) => f.blocks.length - k) (λ (k, m) => [(1, some (.ptr g1 0)), (2, some (.ptr g2 0)), (4, some (.ptr g4 0)), (5, some (intsX (atF (skF f)))), (7, some (.ptr g7 0)), (41, some (blocksX f.blocks)), (42, some (.int f.blocks.length)), (43, some (.int k)), (8, some (.int m))]) (λ (k, m) => [.cells g37 40 (rowG (fillG f k)), .cells g7 71 [.int f.name, .raw (.slice (some ⟨g37, 0, none⟩) (graphG f).length (graphG f).length), V.nilSl, V.nilSl], .cells g4 31 [.int (skP f).name, blocksX (skP f).blocks], .cells g2 31 VT.zs31, .cells g1 31 [.int f.name, blocksX f.blocks]]) (λ (k, m) => k <= f.blocks.length /\ (f.blocks.drop k).foldl mxB m = manyI f /\ cntF (skF f) k <= (graphG f).length) (0, 0) ⟨Yt _, rfl, Yt _⟩ ⟨rfl, rfl, rfl, rfl, rfl, rfl, rfl, rfl, rfl, trivial⟩ (Drops.keepE (congrArg (λ l => Own.cells g37 40<|rowG l) (fillG_zero f).symm)<|Dk<|Dk<|Dk<|Dk<|Zt2 _) ?_)
 rintro ⟨k, m⟩ hA
 change k <= f.blocks.length /\ (f.blocks.drop k).foldl mxB m = manyI f /\ cntF (skF f) k <= (graphG f).length at hA
 obtain ⟨hk, hq, hcn⟩ := hA
 refine Zb<|Zd<|Zc<|Zj1 rfl rfl rfl<|Za<|Zi<|Zb<|Zn1 rfl (λ h44 => ?_)<|λ h44 => ?_
 .
  obtain ⟨b, hb⟩ := get_of_lt f.blocks k h44
  have hbm := Yb hb
  rw [drop_cons hb, Yn] at hq
  obtain ⟨vb1, vb2, vb3⟩ := m_vb h hbm
  have hbp := m_params h hbm
  have hbi := m_small h hz b hbm
  have hfl := fillG_len hcn
  refine Zi1<|Zi<|Zb<|Zs<|Zb<|Zd<|Zc<|Zl rfl<|Zc<|Zz (el := blockV b) VT.sl29 rfl rfl (by omega) (get_mapS _ hb)<|λ a46 => (Zc<|Za2 VT.ty40 rfl rfl<|Zc<|Zb2 VT.zr40 _ rfl rfl<|λ g10 => (Zc<|Zk rfl<|Zc<|Zx 0 VT.ty40 rfl rfl rfl rfl rfl<|Za<|Zi<|VW_cutF [(1, some (.ptr g1 0)), (2, some (.ptr g2 0)), (4, some (.ptr g4 0)), (5, some (intsX (atF (skF f)))), (7, some (.ptr g7 0)), (41, some (blocksX f.blocks)), (42, some (.int f.blocks.length)), (43, some (.int k)), (10, some (.ptr g10 0)), (8, some (.int m))] [.cells g10 40 (blockV (setTo b (toE f k b))).leaves, .cells g37 40 (rowG (fillG f (k + 1))), .cells g7 71 [.int f.name, .raw (.slice (some ⟨g37, 0, none⟩) (graphG f).length (graphG f).length), V.nilSl, V.nilSl], .cells g4 31 [.int (skP f).name, blocksX (skP f).blocks], .cells g2 31 VT.zs31, .cells g1 31 [.int f.name, blocksX f.blocks]] ?_ ?_))
  .
   refine Zb<|Zd<|Zc<|Zl rfl<|Zc<|Zl rfl<|Zc<|Zz (el := V.int (gI (atF<|skF f) k)) VT.sl32 rfl rfl (by omega) (get_int<|at_get (by omega) (by omega))<|λ a50 => (Zc<|Zz1 VT.ty3 rfl rfl<|Zc<|Zj1 rfl rfl rfl<|Za<|Zi<|Zn1 rfl (λ h52 => ?_)<|λ h52 => ?_)
   .
    obtain ⟨b2, hb2, ho2, hge, hgc, hcs, hgr, hsp⟩ := (cnt_at h (show k < f.blocks.length by omega)).resolve_left (λ h9 => by omega)
    rw [hb] at hb2
    injection hb2 with hb2
    subst hb2
    have hte : toE f k b = (grT f b).term.to := if_pos hge
    have hcl := (Yf.1 hgr).1
    have hfs := fillG_set hcs hgr
    have hcn2 : cntF (skF f) (k + 1) <= (graphG f).length := by omega
    refine Zb<|VW_drawR (G := Unit) [([], [4], []), ([0], [53], []), ([], [5], []), ([], [9], []), ([3, 2], [55, 56], []), ([4, 3, 2], [57], []), (dn 6, [54, 58], []), (dn 7, [59], []), (dn 8, [60], []), (dn 9, [61], []), (dn 10, [10], []), (dn 11, [63], []), (dn 12, [64, 62], [])] [12] (setSt _ 0<|λ _ => .cells g10 40 (blockV<|grT f b).leaves) [] [53, 54, 55, 56, 57, 58, 59, 60, 61, 62, 63, 64] rfl VT.mix<|Zp (Zm _) (Zo rfl rfl ⟨(λ γ => Zf (λ _ h4 => Ze (Zn rfl (Zj VT.fa31_1 h4 z0)))), trivial⟩)<|Zp (Zm _) (Zo rfl rfl ⟨(λ γ => Zw 0 0 rfl (λ _ h53 => Ze (Zn rfl (Zu 3 VT.ty29 h53 rfl rfl z0)))), trivial⟩)<|Zp (Zm _) (Zo rfl rfl ⟨(λ γ => Zf (λ _ h5 => Ze (Zn rfl (Zl h5 z0)))), trivial⟩)<|Zp (Zm _) (Zo rfl rfl ⟨(λ γ => Zf (λ _ h9 => Ze (Zn rfl (Zl h9 z0)))), trivial⟩)<|Zp (Zb3 _) (Zo rfl rfl ⟨(λ γ => Zw 2 1 rfl (λ _ h55 => Zw 3 0 rfl (λ _ h56 => Ze (Zn rfl (Zz (el := V.int (gI (atF (skF f)) k)) VT.sl32 h55 h56 (by omega) (get_int (at_get (by omega) (by omega))) (λ a57 => ⟨⟨_, rfl⟩, rfl⟩)))))), trivial⟩)<|Zp (Zm _) (Zo rfl rfl ⟨(λ γ => Zw 4 0 rfl (λ _ h57 => Ze (Zc3 h57 (λ a_57 e57 => Zn rfl (Zz1 VT.ty3 e57 rfl z0))))), trivial⟩)<|Zp (Zb3 _) (Zo rfl rfl ⟨(λ γ => Zw 1 4 rfl (λ _ h54 => Zw 5 0 rfl (λ _ h58 => Ze (Zn rfl (Zz (el := blockV (reB (atF (skF f)) (skB k b))) VT.sl29 h54 h58 (by omega) (get_mapS _ (by rw [show (gI (atF (skF f)) (k : Int)).toNat = cntF (skF f) k by omega]; exact hsp)) (λ a59 => ⟨⟨_, rfl⟩, rfl⟩)))))), trivial⟩)<|Zp (Zb3 _) (Zo rfl rfl ⟨(λ γ => Zw 6 0 rfl (λ _ h59 => Ze (Zc3 h59 (λ a_59 e59 => Zn rfl (Zs2 VT.fa40_2 e59 ⟨⟨_, rfl⟩, rfl⟩))))), trivial⟩)<|Zp (Zb3 _) (Zo rfl rfl ⟨(λ γ => Zw 7 0 rfl (λ _ h60 => Ze (Zc3 h60 (λ a_60 e60 => Zn rfl (Zw1 VT.fa38_4 e60 rfl ⟨⟨_, rfl⟩, rfl⟩))))), trivial⟩)<|Zp (Zm _) (Zo rfl rfl ⟨(λ γ => Zw 8 0 rfl (λ _ h61 => Ze (Zc3 h61 (λ a_61 e61 => Zn rfl (Zu2 (Zz1 VT.ty36 e61 rfl z0) ((V.le.of_eq (congrArg edgesX re_to) : V.le _ (edgesX (grT f b).term.to))) z0))))), trivial⟩)<|Zp (Zm _) (Zo rfl rfl ⟨(λ γ => Zf (λ _ h10 => Ze (Zn rfl (Zj VT.fa40_2 h10 z0)))), trivial⟩)<|Zp (Zm _) (Zo rfl rfl ⟨(λ γ => Zw 10 0 rfl (λ _ h63 => Ze (Zn rfl (Zj VT.fa38_4 h63 z0)))), trivial⟩)<|Zp Za3 (Zn2 rfl<|λ γ => Zw 11 0 rfl<|λ _ h64 => Zw 9 2 rfl<|λ _ h62 => Ze<|Zn rfl<|Zy 0 VT.ty36 h64 h62 rfl rfl rfl ⟨default, trivial, rfl⟩)<|DrawP_nil<|λ γ => Ze<|Zi<|VW_drawR (G := Unit) [([], [7], []), ([0], [65], []), ([1, 0], [66], []), ([], [5], []), ([], [9], []), ([4, 3], [68, 69], []), ([5, 4, 3], [70], []), ([], [10], []), (dn 8, [67, 71], []), (dn 9, [73, 72], [])] [9] (setSt _ 1<|λ _ => .cells g37 40 (((fillG f k).set (cntF (skF f) k)<|blockV<|grT f b).flatMap V.leaves ++ [])) [] [65, 66, 67, 68, 69, 70, 71, 72, 73] rfl VT.mix<|Zp (Zm _) (Zo rfl rfl ⟨(λ γ => Zf (λ _ h7 => Ze (Zn rfl (Zj VT.fa71_0 h7 z0)))), trivial⟩)<|Zp (Zm _) (Zo rfl rfl ⟨(λ γ => Zw 0 0 rfl (λ _ h65 => Ze (Zn rfl (Zj VT.fa31_1 h65 z0)))), trivial⟩)<|Zp (Zm _) (Zo rfl rfl ⟨(λ γ => Zw 1 0 rfl (λ _ h66 => Ze (Zn rfl (Zu 2 VT.ty29 h66 rfl rfl z0)))), trivial⟩)<|Zp (Zm _) (Zo rfl rfl ⟨(λ γ => Zf (λ _ h5 => Ze (Zn rfl (Zl h5 z0)))), trivial⟩)<|Zp (Zm _) (Zo rfl rfl ⟨(λ γ => Zf (λ _ h9 => Ze (Zn rfl (Zl h9 z0)))), trivial⟩)<|Zp (Zb3 _) (Zo rfl rfl ⟨(λ γ => Zw 3 1 rfl (λ _ h68 => Zw 4 0 rfl (λ _ h69 => Ze (Zn rfl (Zz (el := V.int (gI (atF (skF f)) k)) VT.sl32 h68 h69 (by omega) (get_int (at_get (by omega) (by omega))) (λ a70 => ⟨⟨_, rfl⟩, rfl⟩)))))), trivial⟩)<|Zp (Zm _) (Zo rfl rfl ⟨(λ γ => Zw 5 0 rfl (λ _ h70 => Ze (Zc3 h70 (λ a_70 e70 => Zn rfl (Zz1 VT.ty3 e70 rfl z0))))), trivial⟩)<|Zp (Zm _) (Zo rfl rfl ⟨(λ γ => Zf (λ _ h10 => Ze (Zn rfl (Zu2 (Zv 0 VT.ty40 h10 rfl rfl z0) ((V.le.refl _ : V.le _ (blockV (grT f b)))) z0)))), trivial⟩)<|Zp (Zm _) (Zo rfl rfl ⟨(λ γ => Zw 2 5 rfl (λ _ h67 => Zw 6 1 rfl (λ _ h71 => Ze (Zn rfl (Zr2 VT.sl29 h67 h71 (by omega) (by omega) z0))))), trivial⟩)<|Zp Za3 (Zn2 rfl<|λ γ => Zw 8 0 rfl<|λ _ h73 => Zw 7 1 rfl<|λ _ h72 => Ze<|Zn rfl<|Zg3 1 (cntF (skF f) k) VT.ty40 h73 (by rw [hgc]; simp) h72 rfl rfl (Ye _).symm (fillG_7 f k) (by omega) ⟨default, trivial, rfl⟩)<|DrawP_nil<|λ γ => Ze<|Zi ?_
    exact ⟨⟨rfl, rfl, rfl, rfl, rfl, rfl, rfl, rfl, rfl, rfl, trivial⟩, (Drops.keepE (congrArg (Own.cells g10 40) (by rw [hte]; rfl)) (Drops.keepE (congrArg (Own.cells g37 40) (by first | (rw [Ye, hfs]; rfl) | (rw [hfs]))) (Dk (Dk (Dk (Dk (Zt2 _)))))))⟩
   have hcs := ((cnt_at h (show k < f.blocks.length by omega)).resolve_right (λ ⟨b2, hb2, ho2, hge, _⟩ => by omega)).2
   have hte : toE f k b = b.term.to := if_neg (by omega)
   have hfs := fillG_keep hcs
   have hcn2 : cntF (skF f) (k + 1) <= (graphG f).length := by omega
   refine Zi1<|Zi ?_
   exact ⟨⟨rfl, rfl, rfl, rfl, rfl, rfl, rfl, rfl, rfl, rfl, trivial⟩, (Drops.keepE (congrArg (Own.cells g10 40) (by rw [hte]; rfl)) (Drops.keepE (congrArg (Own.cells g37 40) (by first | (rw [Ye, hfs]; rfl) | (rw [hfs]))) (Dk (Dk (Dk (Dk (Zt2 _)))))))⟩
  have hcn2 : cntF (skF f) (k + 1) <= (graphG f).length := by rcases cnt_at h (show k < f.blocks.length by omega) with ⟨_, h9⟩ | ⟨_, _, _, _, _, h9, h8, _⟩; omega; have h7 := (Yf.1 h8).1; omega
  refine Zb<|Zd<|Zc<|Zl rfl<|Zc<|Zj VT.fa40_2 rfl<|Zc<|Zj VT.fa38_1 rfl<|Zc<|Zu2 (Zu 0 VT.ty3 rfl rfl rfl ⟨rfl, rfl⟩) ((V.le.refl _ : V.le _ (.int b.term.arg)))<|Zc<|Zh2 rfl rfl (by omega)<|Zc<|V_max2 rfl rfl<|Zc<|Zk rfl<|Za<|Zi<|Zb<|Zb<|Zd<|Zc<|Zj VT.fa40_0 rfl<|Zc<|Zu2 (Zu 0 VT.ty32 rfl rfl rfl ⟨rfl, rfl⟩) ((V.le.refl _ : V.le _ (intsX b.params)))<|Zc<|Zd2 (n := b.params.length) Tryz.underlying32 rfl (by simp)<|λ hl82 => (Zc<|Zl rfl<|Za<|Zi<|Zs<|Zi2 (ι := Nat × Int) (λ (j, m1) => b.params.length - j) (λ (j, m1) => [(1, some (.ptr g1 0)), (2, some (.ptr g2 0)), (4, some (.ptr g4 0)), (5, some (intsX (atF (skF f)))), (7, some (.ptr g7 0)), (41, some (blocksX f.blocks)), (42, some (.int f.blocks.length)), (43, some (.int k)), (10, some (.ptr g10 0)), (8, some (.int m1)), (81, some (intsX b.params)), (82, some (.int b.params.length)), (83, some (.int j))]) (λ (j, m1) => [.cells g10 40 (blockV (setTo b (toE f k b))).leaves, .cells g37 40 (rowG (fillG f (k + 1))), .cells g7 71 [.int f.name, .raw (.slice (some ⟨g37, 0, none⟩) (graphG f).length (graphG f).length), V.nilSl, V.nilSl], .cells g4 31 [.int (skP f).name, blocksX (skP f).blocks], .cells g2 31 VT.zs31, .cells g1 31 [.int f.name, blocksX f.blocks]]) (λ (j, m1) => j <= b.params.length /\ (b.params.drop j).foldl mxV m1 = b.params.foldl mxV (mxV m b.term.arg)) (0, mxV m b.term.arg) ⟨Yt _, rfl⟩ ⟨rfl, rfl, rfl, rfl, rfl, rfl, rfl, rfl, rfl, rfl, rfl, rfl, rfl, trivial⟩ (Dk<|Dk<|Dk<|Dk<|Dk<|Dk<|Zt2 _) ?_)
  rintro ⟨j, m1⟩ hB
  change j <= b.params.length /\ (b.params.drop j).foldl mxV m1 = b.params.foldl mxV (mxV m b.term.arg) at hB
  obtain ⟨hj, hq1⟩ := hB
  refine Zb<|Zd<|Zc<|Zj1 rfl rfl rfl<|Za<|Zi<|Zb<|Zn1 rfl (λ h84 => ?_)<|λ h84 => ?_
  .
   obtain ⟨v, hv⟩ := get_of_lt b.params j h84
   rw [drop_cons hv, Yn] at hq1
   have hv2 := vb2 v (Yb hv)
   refine Zi1<|Zi<|Zb<|Zs<|Zb<|Zd<|Zc<|Zz (el := V.int v) VT.sl32 rfl rfl (by omega) (get_int hv)<|λ a85 => (Zc<|Zz1 VT.ty3 rfl rfl<|Zc<|Zk rfl<|Za<|Zi<|Zd<|Zc<|Zl rfl<|Zc<|Zl rfl<|Zc<|Zh2 rfl rfl (by omega)<|Zc<|V_max2 rfl rfl<|Zc<|Zk rfl<|Za<|Zb1<|Zi<|Zd<|Zc<|Zh2 rfl rfl (by omega)<|Zc<|Zl rfl<|Za<|Zi ?_)
   exact ⟨(j + 1, mxV m1 v), (by (try simp only []); omega), ⟨by omega, hq1⟩, ⟨rfl, rfl, rfl, rfl, rfl, rfl, rfl, rfl, rfl, rfl, rfl, rfl, rfl, trivial⟩, (Dk (Dk (Dk (Dk (Dk (Dk (Zt2 _)))))))⟩
  have hje : j = b.params.length := by omega
  subst hje
  rw [Yh] at hq1
  have hq1 : m1 = b.params.foldl mxV (mxV m b.term.arg) := hq1
  refine Zt<|Ze1<|Ze1<|Zc1<|Zi<|Zb<|Zd<|Zc<|Zj VT.fa40_1 rfl<|Zc<|Zu2 (Zu 0 VT.ty35 rfl rfl rfl ⟨rfl, rfl⟩) ((V.le.refl _ : V.le _ (inssX b.ins)))<|Zc<|Zd2 (n := b.ins.length) Tryz.underlying35 rfl (by simp)<|λ hl94 => (Zc<|Zl rfl<|Za<|Zi<|Zs<|Zi2 (ι := Nat × Int) (λ (j, m3) => b.ins.length - j) (λ (j, m3) => [(1, some (.ptr g1 0)), (2, some (.ptr g2 0)), (4, some (.ptr g4 0)), (5, some (intsX (atF (skF f)))), (7, some (.ptr g7 0)), (41, some (blocksX f.blocks)), (42, some (.int f.blocks.length)), (43, some (.int k)), (10, some (.ptr g10 0)), (8, some (.int m3)), (93, some (inssX b.ins)), (94, some (.int b.ins.length)), (95, some (.int j))]) (λ (j, m3) => [.cells g10 40 (blockV (setTo b (toE f k b))).leaves, .cells g37 40 (rowG (fillG f (k + 1))), .cells g7 71 [.int f.name, .raw (.slice (some ⟨g37, 0, none⟩) (graphG f).length (graphG f).length), V.nilSl, V.nilSl], .cells g4 31 [.int (skP f).name, blocksX (skP f).blocks], .cells g2 31 VT.zs31, .cells g1 31 [.int f.name, blocksX f.blocks]]) (λ (j, m3) => j <= b.ins.length /\ (b.ins.drop j).foldl mxI m3 = b.ins.foldl mxI m1) (0, m1) ⟨Yt _, rfl⟩ ⟨rfl, rfl, rfl, rfl, rfl, rfl, rfl, rfl, rfl, rfl, rfl, rfl, rfl, trivial⟩ (Dk<|Dk<|Dk<|Dk<|Dk<|Dk<|Zt2 _) ?_)
  rintro ⟨j, m3⟩ hB
  change j <= b.ins.length /\ (b.ins.drop j).foldl mxI m3 = b.ins.foldl mxI m1 at hB
  obtain ⟨hj, hq3⟩ := hB
  refine Zb<|Zd<|Zc<|Zj1 rfl rfl rfl<|Za<|Zi<|Zb<|Zn1 rfl (λ h96 => ?_)<|λ h96 => ?_
  .
   obtain ⟨i, hi⟩ := get_of_lt b.ins j h96
   rw [drop_cons hi, Yn] at hq3
   obtain ⟨vi1, vi2, vi3, vi4⟩ := vb3 i (Yb hi)
   refine Zi1<|Zi<|Zb<|Zs<|Zb<|Zd<|Zc<|Zz (el := insV i) VT.sl35 rfl rfl (by omega) (get_mapS _ hi)<|λ a97 => (Zc<|Za2 VT.ty42 rfl rfl<|Zc<|Zb2 VT.zr42 _ rfl rfl<|λ g14 => (Zc<|Zx 0 VT.ty42 rfl rfl rfl rfl rfl<|Za<|Zi<|Zb<|Zd<|Zc<|Zl rfl<|Zc<|Zj VT.fa42_0 rfl<|Zc<|Zu 0 VT.ty3 rfl rfl rfl<|Zc<|Zh2 rfl rfl (by omega)<|Zc<|V_max2 rfl rfl<|Zc<|Zk rfl<|Za<|Zi<|Zb<|Zd<|Zc<|Zj VT.fa42_3 rfl<|Zc<|Zu 0 VT.ty32 rfl rfl rfl<|Zc<|Zd2 (n := i.args.length) Tryz.underlying32 rfl (by simp)<|λ hl106 => (Zc<|Zl rfl<|Za<|Zi<|Zs<|Zi2 (ι := Nat × Int) (λ (n, m4) => i.args.length - n) (λ (n, m4) => [(1, some (.ptr g1 0)), (2, some (.ptr g2 0)), (4, some (.ptr g4 0)), (5, some (intsX (atF (skF f)))), (7, some (.ptr g7 0)), (41, some (blocksX f.blocks)), (42, some (.int f.blocks.length)), (43, some (.int k)), (10, some (.ptr g10 0)), (8, some (.int m4)), (93, some (inssX b.ins)), (94, some (.int b.ins.length)), (95, some (.int j)), (105, some (intsX i.args)), (106, some (.int i.args.length)), (107, some (.int n))]) (λ (n, m4) => [.cells g10 40 (blockV (setTo b (toE f k b))).leaves, .cells g37 40 (rowG (fillG f (k + 1))), .cells g7 71 [.int f.name, .raw (.slice (some ⟨g37, 0, none⟩) (graphG f).length (graphG f).length), V.nilSl, V.nilSl], .cells g4 31 [.int (skP f).name, blocksX (skP f).blocks], .cells g2 31 VT.zs31, .cells g1 31 [.int f.name, blocksX f.blocks]]) (λ (n, m4) => n <= i.args.length /\ (i.args.drop n).foldl mxV m4 = mxI m3 i) (0, mxV m3 i.to) ⟨Yt _, rfl⟩ ⟨rfl, rfl, rfl, rfl, rfl, rfl, rfl, rfl, rfl, rfl, rfl, rfl, rfl, rfl, rfl, rfl, trivial⟩ (Dd<|Dk<|Dk<|Dk<|Dk<|Dk<|Dk<|Zt2 _) ?_)))
   rintro ⟨n, m4⟩ hC
   change n <= i.args.length /\ (i.args.drop n).foldl mxV m4 = mxI m3 i at hC
   obtain ⟨hn, hq4⟩ := hC
   refine Zb<|Zd<|Zc<|Zj1 rfl rfl rfl<|Za<|Zi<|Zb<|Zn1 rfl (λ h108 => ?_)<|λ h108 => ?_
   .
    obtain ⟨a, ha⟩ := get_of_lt i.args n h108
    rw [drop_cons ha, Yn] at hq4
    have ha2 := vi2 a (Yb ha)
    refine Zi1<|Zi<|Zb<|Zs<|Zb<|Zd<|Zc<|Zz (el := V.int a) VT.sl32 rfl rfl (by omega) (get_int ha)<|λ a109 => (Zc<|Zz1 VT.ty3 rfl rfl<|Zc<|Zk rfl<|Za<|Zi<|Zd<|Zc<|Zl rfl<|Zc<|Zl rfl<|Zc<|Zh2 rfl rfl (by omega)<|Zc<|V_max2 rfl rfl<|Zc<|Zk rfl<|Za<|Zb1<|Zi<|Zd<|Zc<|Zh2 rfl rfl (by omega)<|Zc<|Zl rfl<|Za<|Zi ?_)
    exact ⟨(n + 1, mxV m4 a), (by (try simp only []); omega), ⟨by omega, hq4⟩, ⟨rfl, rfl, rfl, rfl, rfl, rfl, rfl, rfl, rfl, rfl, rfl, rfl, rfl, rfl, rfl, rfl, trivial⟩, (Dk (Dk (Dk (Dk (Dk (Dk (Zt2 _)))))))⟩
   have hne : n = i.args.length := by omega
   subst hne
   rw [Yh] at hq4
   have hq4 : m4 = mxI m3 i := hq4
   refine Zt<|Ze1<|Ze1<|Zc1<|Zb1<|Zi<|Zd<|Zc<|Zh2 rfl rfl (by omega)<|Zc<|Zl rfl<|Za<|Zi ?_
   exact ⟨(j + 1, m4), (by (try simp only []); omega), ⟨by omega, by rw [hq4]; exact hq3⟩, ⟨rfl, rfl, rfl, rfl, rfl, rfl, rfl, rfl, rfl, rfl, rfl, rfl, rfl, trivial⟩, (Dk (Dk (Dk (Dk (Dk (Dk (Zt2 _)))))))⟩
  have hje : j = b.ins.length := by omega
  subst hje
  rw [Yh] at hq3
  have hq3 : m3 = b.ins.foldl mxI m1 := hq3
  have hmB : m3 = mxB m b := by rw [hq3, hq1]; rfl
  refine Zt<|Ze1<|Ze1<|Zc1<|Zb1<|Zi<|Zd<|Zc<|Zh2 rfl rfl (by omega)<|Zc<|Zl rfl<|Za<|Zi ?_
  exact ⟨(k + 1, m3), (by (try simp only []); omega), ⟨by omega, by rw [hmB]; exact hq, hcn2⟩, ⟨rfl, rfl, rfl, rfl, rfl, rfl, rfl, rfl, rfl, trivial⟩, (Dd (Dk (Dk (Dk (Dk (Dk (Zt2 _)))))))⟩
 have hke : k = f.blocks.length := by omega
 subst hke
 rw [Yh] at hq
 have hq : m = manyI f := hq
 subst hq
 refine Zt<|Ze1<|Ze1<|Zc1<|Zi<|VW_freezeC 0 0 1 (sz := 7) (rest := []) ((graphG f).map blockV) rfl rfl rfl (by rw [fillG_end h, Ye]; rfl) (Yc ..) (Yu _) (by simp only [maxLen]; omega) (fits_bs _)<|Zb<|Zd<|Zc<|Zu2 (Zv 1 VT.ty31 rfl rfl rfl ⟨rfl, rfl⟩) ((V.le.refl _ : V.le _ (funcV<|skP f)))<|Zc<|Zx1 [.tmp 119] rfl rfl VT.en20 (hO)<|Zc<|Zl rfl<|Zc<|Zg2 rfl rfl<|Zc<|Zg2 rfl rfl<|Zc<|Zj VT.fa71_1 rfl<|Zc<|Zy 0 VT.ty32 rfl rfl rfl rfl rfl<|Za<|Zi<|Zb<|Zd<|Zc<|Zu2 (Zv 1 VT.ty31 rfl rfl rfl ⟨rfl, rfl⟩) ((V.le.refl _ : V.le _ (funcV<|skP f)))<|Zc<|Zx1 [.tmp 125] rfl rfl VT.en34 (hP)<|Zc<|Zl rfl<|Zc<|Zg2 rfl rfl<|Zc<|Zg2 rfl rfl<|Zc<|Zj VT.fa71_2 rfl<|Zc<|Zy 0 VT.ty69 rfl rfl rfl rfl rfl<|Za<|Zi<|Zb<|VW_drawA2 (G := ({ Nd : Nds // NeedOk (graphG f) (orderG f) (manyN f) Nd } × Nat)) [([], [7], []), ([], [7], []), ([], [8], []), ([2, 1], [131, 132], [0]), ([], [1], []), ([4], [134], []), ([], [4], []), ([6], [136], []), ([7, 6], [137], []), ([8, 7, 6], [138], [1]), ([9, 8, 7, 6, 5, 4], [135, 139], [1]), ([], [4], []), ([11], [141], []), ([12, 11], [142], []), ([13, 12, 11], [143], [2]), (dn 15, [130, 133, 140, 144], [0, 1, 2]), (dn 16, [145], [3]), (dn 17, [146], [3])] [3, 9, 14, 16] 3 (λ p x => match p with | 0 => [] | 1 => [.cells x.2 40 (rowG (Ya (graphG f).length zB))] | _ => [.cells x.2 106 ((Ya (graphG f).length none).map mLeaf)]) (λ l => match l with | [a, b, c, d] => [wC (wOf f a.1.1 d.2 b.2 c.2) 0, oC (wOf f a.1.1 d.2 b.2 c.2) (Ya (graphG f).length zB), eC (wOf f a.1.1 d.2 b.2 c.2) (Ya (graphG f).length none), .cells g7 71 [.int f.name, blocksX (graphG f), intsX ((orderG f).map λ k : Nat => (k : Int)), rowsX (innG f)], .cells g4 31 [.int (skP f).name, blocksX (skP f).blocks], .cells g2 31 VT.zs31, .cells g1 31 [.int f.name, blocksX f.blocks]] | _ => []) [17] [17, 130, 131, 132, 133, 134, 135, 136, 137, 138, 139, 140, 141, 142, 143, 144, 145, 146] VT.mix<|ZpM (Zm _) (goodSM (l := [[], [0], [1], [0, 1], [2], [0, 2], [1, 2], [0, 1, 2]]) (by kernel_rfl) (by kernel_rfl) ⟨(λ γ => Zf (λ _ h7 => Ze (Zn rfl (Zv 0 VT.ty71 h7 rfl rfl z0)))), (λ γ => Zf (λ _ h7 => Ze (Zn rfl (Zv 0 VT.ty71 h7 rfl rfl z0)))), (λ γ => Zf (λ _ h7 => Ze (Zn rfl (Zv 1 VT.ty71 h7 rfl rfl z0)))), (λ γ => Zf (λ _ h7 => Ze (Zn rfl (Zv 1 VT.ty71 h7 rfl rfl z0)))), (λ γ => Zf (λ _ h7 => Ze (Zn rfl (Zv 1 VT.ty71 h7 rfl rfl z0)))), (λ γ => Zf (λ _ h7 => Ze (Zn rfl (Zv 1 VT.ty71 h7 rfl rfl z0)))), (λ γ => Zf (λ _ h7 => Ze (Zn rfl (Zv 2 VT.ty71 h7 rfl rfl z0)))), (λ γ => Zf (λ _ h7 => Ze (Zn rfl (Zv 2 VT.ty71 h7 rfl rfl z0)))), trivial⟩)<|ZpM (Zm _) (goodSM (l := [[], [1], [2], [1, 2]]) (by kernel_rfl) (by kernel_rfl) ⟨(λ γ => Zf (λ _ h7 => Ze (Zn rfl (Zv 0 VT.ty71 h7 rfl rfl z0)))), (λ γ => Zf (λ _ h7 => Ze (Zn rfl (Zv 1 VT.ty71 h7 rfl rfl z0)))), (λ γ => Zf (λ _ h7 => Ze (Zn rfl (Zv 1 VT.ty71 h7 rfl rfl z0)))), (λ γ => Zf (λ _ h7 => Ze (Zn rfl (Zv 2 VT.ty71 h7 rfl rfl z0)))), trivial⟩)<|ZpM (Zm _) (goodAM (by kernel_rfl)<|λ _ => (λ γ => Zf<|λ _ h8 => Ze<|Zn rfl<|Zu2 (Zl h8 z0) ((V.le.of_eq (congrArg V.int hm3) : V.le _ (.int (manyN f : Nat)))) z0))<|ZpM (Zw2<|λ x => .sl 1 none<|x.1.1.map boolsB) (goodAdd2 (q := 0) (by kernel_rfl) (by kernel_rfl) (by kernel_rfl)<|λ _ => (λ γ => Zw 1 1 rfl<|λ _ h131 => Zw 2 0 rfl<|λ _ h132 => Ze<|Zn rfl<|Zm3 [.tmp 131, .tmp 132] [] _ rfl (Zp2 h131<|Zp2 h132 Zq2) VT.en35 (.refl _) (needed_c (graph_ok h) f.name (rowsX<|innG f) rfl) (λ r Sa h => by obtain ⟨Nd, hN, rfl, rfl⟩ := h; exact ⟨(⟨Nd, hN⟩, 0), ⟨_, rfl, rfl⟩, rfl⟩)))<|ZpM (Zm _) (goodAM (by kernel_rfl)<|λ _ => (λ γ => Zf<|λ _ h1 => Ze<|Zn rfl<|Zj VT.fa31_0 h1 z0))<|ZpM (Zm _) (goodSM (l := [[], [0], [1], [0, 1], [2], [0, 2], [1, 2], [0, 1, 2]]) (by kernel_rfl) (by kernel_rfl) ⟨(λ γ => Zw 4 0 rfl (λ _ h134 => Ze (Zn rfl (Zu 3 VT.ty3 h134 rfl rfl z0)))), (λ γ => Zw 4 0 rfl (λ _ h134 => Ze (Zn rfl (Zu 3 VT.ty3 h134 rfl rfl z0)))), (λ γ => Zw 4 0 rfl (λ _ h134 => Ze (Zn rfl (Zu 4 VT.ty3 h134 rfl rfl z0)))), (λ γ => Zw 4 0 rfl (λ _ h134 => Ze (Zn rfl (Zu 4 VT.ty3 h134 rfl rfl z0)))), (λ γ => Zw 4 0 rfl (λ _ h134 => Ze (Zn rfl (Zu 4 VT.ty3 h134 rfl rfl z0)))), (λ γ => Zw 4 0 rfl (λ _ h134 => Ze (Zn rfl (Zu 4 VT.ty3 h134 rfl rfl z0)))), (λ γ => Zw 4 0 rfl (λ _ h134 => Ze (Zn rfl (Zu 5 VT.ty3 h134 rfl rfl z0)))), (λ γ => Zw 4 0 rfl (λ _ h134 => Ze (Zn rfl (Zu 5 VT.ty3 h134 rfl rfl z0)))), trivial⟩)<|ZpM (Zm _) (goodAM (by kernel_rfl)<|λ _ => (λ γ => Zf<|λ _ h4 => Ze<|Zn rfl<|Zj VT.fa31_1 h4 z0))<|ZpM (Zm _) (goodSM (l := [[], [0], [2], [0, 2]]) (by kernel_rfl) (by kernel_rfl) ⟨(λ γ => Zw 6 0 rfl (λ _ h136 => Ze (Zn rfl (Zu2 (Zu 1 VT.ty29 h136 rfl rfl z0) ((V.le.refl _ : V.le _ (blocksX (skP f).blocks))) z0)))), (λ γ => Zw 6 0 rfl (λ _ h136 => Ze (Zn rfl (Zu2 (Zu 1 VT.ty29 h136 rfl rfl z0) ((V.le.refl _ : V.le _ (blocksX (skP f).blocks))) z0)))), (λ γ => Zw 6 0 rfl (λ _ h136 => Ze (Zn rfl (Zu2 (Zu 2 VT.ty29 h136 rfl rfl z0) ((V.le.refl _ : V.le _ (blocksX (skP f).blocks))) z0)))), (λ γ => Zw 6 0 rfl (λ _ h136 => Ze (Zn rfl (Zu2 (Zu 2 VT.ty29 h136 rfl rfl z0) ((V.le.refl _ : V.le _ (blocksX (skP f).blocks))) z0)))), trivial⟩)<|ZpM (Zm _) (goodAM (by kernel_rfl)<|λ _ => (λ γ => Zw 7 0 rfl<|λ _ h137 => Ze<|Zn rfl<|Zu2 (Zd2 (n := (skP f).blocks.length) Tryz.underlying29 h137 (by simp)<|λ hl138 => z0) ((V.le.of_eq (congrArg V.int (by omega)) : V.le _ (.int (graphG f).length))) z0))<|ZpM (Zw2<|λ x => .raw<|.slice (some ⟨x.2, 0, none⟩) (graphG f).length (graphG f).length) (goodAdd2 (q := 1) (by kernel_rfl) (by kernel_rfl) (by kernel_rfl)<|λ _ => (λ γ => Zw 8 0 rfl<|λ _ h138 => Ze<|Zn rfl<|V_makeRow (.agg VT.zs40) (λ m => ⟨rfl, _, rfl, by simp [Go.VL.RepL, VT.zs40, Rep]⟩) rfl VT.sl29 h138 h138 (by omega) (by omega)<|λ g139 => ⟨(default, g139), ⟨_, rfl, rfl⟩, cons_cells (by rw [Yv]; rfl)⟩)) ?_
 refine ZpM (Zw2<|λ x => .agg [.int f.name, .raw (.slice (some ⟨x.2, 0, none⟩) (graphG f).length (graphG f).length)]) (goodAM (by kernel_rfl)<|λ _ => (λ γ => Zw 5 4 rfl<|λ _ h135 => Zw 9 0 rfl<|λ _ h139 => Ze<|Zx2 h139<|λ e139 => Zn rfl<|Zf2 [0, 1] [.tmp 135, .tmp 139] VT.st31 rfl rfl (Zp2 h135<|Zp2 e139 Zq2) rfl ⟨⟨_, rfl, rfl⟩, rfl⟩))<|ZpM (Zm _) (goodAM (by kernel_rfl)<|λ _ => (λ γ => Zf<|λ _ h4 => Ze<|Zn rfl<|Zj VT.fa31_1 h4 z0))<|ZpM (Zm _) (goodSM (l := [[], [0], [1], [0, 1]]) (by kernel_rfl) (by kernel_rfl) ⟨(λ γ => Zw 11 0 rfl (λ _ h141 => Ze (Zn rfl (Zu2 (Zu 1 VT.ty29 h141 rfl rfl z0) ((V.le.refl _ : V.le _ (blocksX (skP f).blocks))) z0)))), (λ γ => Zw 11 0 rfl (λ _ h141 => Ze (Zn rfl (Zu2 (Zu 1 VT.ty29 h141 rfl rfl z0) ((V.le.refl _ : V.le _ (blocksX (skP f).blocks))) z0)))), (λ γ => Zw 11 0 rfl (λ _ h141 => Ze (Zn rfl (Zu2 (Zu 2 VT.ty29 h141 rfl rfl z0) ((V.le.refl _ : V.le _ (blocksX (skP f).blocks))) z0)))), (λ γ => Zw 11 0 rfl (λ _ h141 => Ze (Zn rfl (Zu2 (Zu 2 VT.ty29 h141 rfl rfl z0) ((V.le.refl _ : V.le _ (blocksX (skP f).blocks))) z0)))), trivial⟩)<|ZpM (Zm _) (goodAM (by kernel_rfl)<|λ _ => (λ γ => Zw 12 0 rfl<|λ _ h142 => Ze<|Zn rfl<|Zu2 (Zd2 (n := (skP f).blocks.length) Tryz.underlying29 h142 (by simp)<|λ hl143 => z0) ((V.le.of_eq (congrArg V.int (by omega)) : V.le _ (.int (graphG f).length))) z0))<|ZpM (Zw2<|λ x => .raw<|.slice (some ⟨x.2, 0, none⟩) (graphG f).length (graphG f).length) (goodAdd2 (q := 2) (by kernel_rfl) (by kernel_rfl) (by kernel_rfl)<|λ _ => (λ γ => Zw 13 0 rfl<|λ _ h143 => Ze<|Zn rfl<|V_makeRow (.raw<|.map none) (λ m => rfl) rfl VT.sl77 h143 h143 (by omega) (by omega)<|λ g144 => ⟨(default, g144), ⟨_, rfl, rfl⟩, cons_cells (by rw [Yv, nilM, List.map_replicate]; rfl)⟩))<|ZpM (threeRes<|λ a b c => .agg<|wLs (wOf f a.1.1 0 b.2 c.2) 0) (goodAM (by kernel_rfl)<|λ _ => (λ γ => Zw 0 14 rfl<|λ _ h130 => Zw 3 11 rfl<|λ _ h133 => Zw 10 4 rfl<|λ _ h140 => Zw 14 0 rfl<|λ _ h144 => Ze<|Zx2 h133<|λ e133 => Zx2 h140<|λ e140 => Zx2 h144<|λ e144 => Zn rfl<|Zf2 [0, 1, 3, 4] [.tmp 130, .tmp 133, .tmp 140, .tmp 144] VT.st79 rfl rfl (Zp2 h130<|Zp2 e133<|Zp2 e140<|Zp2 e144 Zq2) rfl ⟨⟨_, _, _, rfl, rfl⟩, rfl⟩))<|ZpM (Zw2<|λ x => .ptr x.2 0) (goodFin2 (by kernel_rfl) (by kernel_rfl) (by kernel_rfl)<|λ γ => Zw 15 0 rfl<|λ _ h145 => Ze<|threeE h145<|λ e145 => Zn rfl<|Zc2 e145 rfl<|λ g146 => ⟨(default, g146), ⟨_, rfl, rfl⟩, rfl⟩)<|ZpM (Zw2<|λ x => .ptr x.2 0) (goodAM (by kernel_rfl)<|λ _ => (λ γ => Zw 16 0 rfl<|λ _ h146 => Ze<|Zx2 h146<|λ e146 => Zn rfl<|Zk e146 ⟨⟨_, rfl, rfl⟩, rfl⟩))<|DrawM_nil<|λ δ => Zw 17 0 rfl<|λ r17 h17 => Ze ?_
 have e17 : r17 = some _ := Zd3 h17
 subst e17
 clear h17
 refine Zi<|VW_perm (S' := [wC (wOf f (δ 0).1.1 (δ 3).2 (δ 1).2 (δ 2).2) 0, oC (wOf f (δ 0).1.1 (δ 3).2 (δ 1).2 (δ 2).2) (Ya (graphG f).length zB), eC (wOf f (δ 0).1.1 (δ 3).2 (δ 1).2 (δ 2).2) (Ya (graphG f).length none), .cells g7 71 [.int f.name, blocksX (graphG f), intsX ((orderG f).map λ k : Nat => (k : Int)), rowsX (innG f)], .cells g4 31 [.int (skP f).name, blocksX (skP f).blocks], .cells g2 31 VT.zs31, .cells g1 31 [.int f.name, blocksX f.blocks]]) (.of_eq rfl) ?_
 generalize hnd : (δ 0).1 = nd0
 obtain ⟨Nd, hN⟩ := nd0
 generalize (δ 1).2 = go
 generalize (δ 2).2 = ge
 generalize (δ 3).2 = gw
 refine VW_perm (S' := .cells g7 71 [.int f.name, blocksX (graphG f), intsX ((orderG f).map λ k : Nat => (k : Int)), rowsX (innG f)] :: .cells g4 31 [.int (skP f).name, blocksX (skP f).blocks] :: .cells g2 31 VT.zs31 :: .cells g1 31 [.int f.name, blocksX f.blocks] :: wC (wOf f Nd gw go ge) 0 :: oC (wOf f Nd gw go ge) (Ya (graphG f).length zB) :: eC (wOf f Nd gw go ge) (Ya (graphG f).length none) :: (mY<|Ya (graphG f).length none)) (by rw [mY_none]; exact Yj (l₁ := [_, _, _]) (l₂ := [_, _, _, _]))<|Zb<|Zb<|Zd<|Zc<|Zj VT.fa71_1 rfl<|Zc<|Zu 0 VT.ty32 rfl rfl rfl<|Zc<|Zd2 (n := (orderG f).length) Tryz.underlying32 rfl (by simp)<|λ hl149 => (Zc<|Zl rfl<|Za<|Zi<|Zs<|Zi2 (ι := Nat × List V × Mps) (λ (i, out, ms) => (orderG f).length - i) (λ (i, out, ms) => [(2, some (.ptr g2 0)), (4, some (.ptr g4 0)), (17, some (.ptr gw 0)), (148, some (intsX ((orderG f).map λ k : Nat => (k : Int)))), (149, some (.int (orderG f).length)), (150, some (.int i))]) (λ (i, out, ms) => .cells g4 31 [.int (skP f).name, blocksX (skP f).blocks] :: .cells g2 31 VT.zs31 :: wC (wOf f Nd gw go ge) (wPre f Nd i).nx :: oC (wOf f Nd gw go ge) out :: eC (wOf f Nd gw go ge) ms :: mY ms) (λ (i, out, ms) => i <= (orderG f).length /\ EInv f Nd i out ms) (0, Ya (graphG f).length zB, Ya (graphG f).length none) ⟨Yt _, einv_start f Nd⟩ ⟨rfl, rfl, rfl, rfl, rfl, rfl, trivial⟩ (Dd<|Dk<|Dk<|Dd<|Dk<|Dk<|Dk<|Zt2 _) ?_)
 rintro ⟨i, out, ms⟩ hA
 change i <= (orderG f).length /\ EInv f Nd i out ms at hA
 obtain ⟨hi, hI⟩ := hA
 refine Zb<|Zd<|Zc<|Zj1 rfl rfl rfl<|Za<|Zi<|Zb<|Zn1 rfl (λ h151 => ?_)<|λ h151 => ?_
 .
  obtain ⟨k, hk⟩ := get_of_lt (orderG f) i h151
  have hkm := Yb hk
  have hkl : k < (graphG f).length := by rw [hgl]; exact (skP_order h).lt k hkm
  obtain ⟨hz9, hm9⟩ := hI.todo k hkl (order_fresh h hk)
  have hblk := Yb (blk_at hkl)
  obtain ⟨c9, hc9, ec9⟩ := graph_of_mem h hblk
  obtain ⟨hB1, hB2⟩ := body_le h hz hN i k hkl (wPre f Nd i).ends (wPre f Nd i).nx
  have hnx9 := hI.nx
  have hol := (graph_ok h).olen
  refine Zi1<|Zi<|Zb<|Zs<|Zb<|Zd<|Zc<|Zz (el := V.int (k : Int)) VT.sl32 rfl rfl (by omega) (get_int (by rw [Yv, Yp, hk]; rfl))<|λ a152 => (Zc<|Zz1 VT.ty3 rfl rfl<|Zc<|Zk rfl<|Za<|Zi<|Zd<|Zc<|Zl rfl<|Zc<|Zl rfl<|Zc<|V_callG [.tmp 154, .tmp 155] (wC (wOf f Nd gw go ge) (wPre f Nd i).nx :: oC (wOf f Nd gw go ge) out :: eC (wOf f Nd gw go ge) ms :: mY ms) [.cells g4 31 [.int (skP f).name, blocksX (skP f).blocks], .cells g2 31 VT.zs31] rfl rfl VT.en36 (Yj (l₁ := [_, _])) (block_c (wok_of h hz hN gw go ge) hkl (λ i hi ho => (show i.args.length = 1 from by have h8 : i ∈ (blkAt (graphG f) k).ins := hi; rw [ec9] at h8; exact ((m_vb h hc9).2.2 i h8).2.2.1 ho)) (by show (blkAt (graphG f) k).term.cases.length <= 1000000; rw [ec9]; have := (m_cases h hc9).1; show c9.term.cases.length <= _; omega) ⟨hnx9.1, by omega⟩ hI.all hz9 hm9 (wPre f Nd i).ends ⟨Int.le_trans hB1.1 (by omega), hB1.2.1, hB1.2.2⟩<|einv_par h hI hk) ?_)
  rintro r Sa ⟨g9, l9, rfl, hE9, hK9⟩
  refine ⟨_, Drops.of_perm Yj, ?_⟩
  refine Za<|Zb1<|Zi<|Zd<|Zc<|Zh2 rfl rfl (by omega)<|Zc<|Zl rfl<|Za<|Zi ?_
  exact ⟨(i + 1, out.set k (midV (blkOf (wOf f Nd gw go ge) (wPre f Nd i).ends k (wPre f Nd i).nx)), ms.set k (some (g9, l9))), (by (try simp only []); omega), ⟨by omega, einv_step h hz hN hI hk gw go ge hE9 hK9⟩, ⟨rfl, rfl, rfl, rfl, rfl, rfl, trivial⟩, (Dk (Dk (Drops.keepE (congrArg (wC (wOf f Nd gw go ge)) (by rw [wPre_step hk]; rfl)) (Dk (Dk (Zt2 _))))))⟩
 have hie : i = (orderG f).length := by omega
 subst hie
 obtain ⟨hout, hms⟩ := einv_end h hI
 refine Zt<|Ze1<|Ze1<|Zc1<|Zi<|VW_perm (S' := .cells g4 31 [.int (skP f).name, blocksX (skP f).blocks] :: .cells g2 31 VT.zs31 :: wC (wOf f Nd gw go ge) (wPre f Nd (orderG f).length).nx :: oC (wOf f Nd gw go ge) (outAt f Nd 0) :: eC (wOf f Nd gw go ge) ms :: (mY ms)) (.of_eq (by show (.cells g4 31 [.int (skP f).name, blocksX (skP f).blocks] :: .cells g2 31 VT.zs31 :: wC (wOf f Nd gw go ge) (wPre f Nd (orderG f).length).nx :: oC (wOf f Nd gw go ge) out :: eC (wOf f Nd gw go ge) ms :: (mY ms)) = _; rw [hout]))<|Zb<|Zb<|Zd<|Zc<|Zj VT.fa31_1 rfl<|Zc<|Zu2 (Zu 0 VT.ty29 rfl rfl rfl ⟨rfl, rfl⟩) ((V.le.refl _ : V.le _ (blocksX (skP f).blocks)))<|Zc<|Zu2 (Zd2 (n := (skP f).blocks.length) Tryz.underlying29 rfl (by simp)<|λ hl160 => ⟨rfl, rfl⟩) ((V.le.of_eq (congrArg V.int (by omega)) : V.le _ (.int (graphG f).length)))<|Zc<|Zl rfl<|Za<|Zi<|Zs<|Zi2 (ι := Nat) (λ k => (graphG f).length - k) (λ k => [(2, some (.ptr g2 0)), (17, some (.ptr gw 0)), (160, some (.int (graphG f).length)), (161, some (.int k))]) (λ k => .cells g2 31 VT.zs31 :: wC (wOf f Nd gw go ge) (wPre f Nd (orderG f).length).nx :: oC (wOf f Nd gw go ge) (outAt f Nd k) :: eC (wOf f Nd gw go ge) ms :: mY ms) (λ k => k <= (graphG f).length) 0 (Yt _) ⟨rfl, rfl, rfl, rfl, trivial⟩ (Dd<|Dk<|Dk<|Dk<|Dk<|Zt2 _) ?_
 rintro k hk
 change k <= (graphG f).length at hk
 refine Zb<|Zd<|Zc<|Zj1 rfl rfl rfl<|Za<|Zi<|Zb<|Zn1 rfl (λ h162 => ?_)<|λ h162 => ?_
 .
  have hkl : k < (graphG f).length := by omega
  obtain ⟨x, hx1, hx2⟩ := hms k hkl
  have hst := outAt_set (Nd := Nd) hkl
  refine Zi1<|Zi<|Zb<|Zs<|Zb<|Zd<|Zc<|Zl rfl<|Zc<|Zk rfl<|Za<|Zi<|Zd<|Zc<|Zl rfl<|Zc<|Zl rfl<|Zc<|V_callG [.tmp 164, .tmp 165] (wC (wOf f Nd gw go ge) (wPre f Nd (orderG f).length).nx :: oC (wOf f Nd gw go ge) (outAt f Nd k) :: eC (wOf f Nd gw go ge) ms :: mY ms) [.cells g2 31 VT.zs31] rfl rfl VT.en37 (Yj (l₁ := [_])) (edges_c (wok_of h hz hN gw go ge) hkl _ ⟨outAt_len, hI.all.2.1, outAt_7 f Nd k⟩ (by rw [outAt_get hkl, if_neg (Nat.lt_irrefl _)]) hx1 hx2 (λ e he => by have h9 := graph_edges h _ (Yb<|blk_at hkl) e he; exact ⟨by omega, h9.2⟩) (by show (blkAt (graphG f) k).term.to.length <= 10000; obtain ⟨c9, hc9, ec9⟩ := graph_of_mem h (Yb<|blk_at hkl); rw [ec9]; have := grT_len h hc9; omega)) ?_
  rintro r Sa rfl
  refine ⟨_, Drops.of_perm Yj, ?_⟩
  refine Za<|Zb1<|Zi<|Zd<|Zc<|Zh2 rfl rfl (by omega)<|Zc<|Zl rfl<|Za<|Zi ?_
  exact ⟨k + 1, (by (try simp only []); omega), (by omega), ⟨rfl, rfl, rfl, rfl, trivial⟩, (Dk (Dk (Drops.keepE (congrArg (oC (wOf f Nd gw go ge)) hst) (Dk (Zt2 _)))))⟩
 have hke : k = (graphG f).length := by omega
 subst hke
 refine Zt<|Ze1<|Ze1<|Zc1<|Zi<|VW_freezeC 2 1 7 (sz := 7) (rest := []) ((enterG f Nd).blocks.map blockV) rfl rfl rfl (by rw [Ye]; exact congrArg rowG outAt_end) (by rw [Yc]; exact enter_len h (en_ok h hN)) (Yu _) (by simp only [maxLen]; show (graphG f).length <= _; omega) (fits_bs _)<|Zb<|Zd<|Zc<|Zl rfl<|Zc<|Zv1 rfl<|Zc<|Zj VT.fa79_3 rfl<|Zc<|Zu2 (Zv 1 VT.ty31 rfl rfl rfl ⟨rfl, rfl⟩) ((V.le.refl _ : V.le _ (funcV<|enterG f Nd)))<|Zc<|Zx 0 VT.ty31 rfl rfl rfl rfl rfl<|Zc<|Zk rfl<|Za<|Zi<|Zf1<|Zh1 rfl rfl (.cons (.agg (i := 0) VT.ty31 rfl rfl rfl)<|.cons (.tmp rfl)<|.nil) ?_
 exact ⟨[], Drops.nil _, Nd, en_ok h hN, rfl, rfl⟩
end Go.Proofs.YthlflmmnankhhaaGreat.X86
end
section
namespace Go.Proofs.YthlflmmnankhhaaGreat.X87
open Go.VL Go.SM Go.Proofs.YthlflmmnankhhaaGreat XS X1 X2 X3 X4 X5 X6 X7 X8 X9 X10 X12 X13 X20 X15 X25 X26 X81 X82 X83 X84 X85 X86
def enFns (l : List SFunc) (ds : Ghs) : List SFunc := List.zipWith (λ f d => enterG f d.2) l ds
def enU (u : SUnit) (ds : Ghs) : SUnit := ⟨enFns u.fns ds, u.main⟩
theorem enFns_snoc : ∀ {l : List SFunc} {ds : Ghs} {f : SFunc} {d : Nat × Nds}, l[ds.length]? = some f -> enFns l (ds ++ [d]) = enFns l ds ++ [enterG f d.2]
 | [], ds, f, d, h => by simp at h
 | g :: l, [], f, d, h => by
  have h : g = f := by simpa using h
  subst h
  show enterG g d.2 :: enFns l [] = [] ++ [enterG g d.2]
  cases l <;> rfl
 | g :: l, e :: ds, f, d, h => by
  show enterG g e.2 :: enFns l (ds ++ [d]) = enterG g e.2 :: (enFns l ds ++ [enterG f d.2])
  rw [enFns_snoc (by simpa using h)]
theorem enFns_len {l : List SFunc} {ds : Ghs} (h : ds.length <= l.length) : (enFns l ds).length = ds.length := by
 unfold enFns
 rw [List.length_zipWith]
 omega
def AllE (u : SUnit) (ds : Ghs) : Prop := ∀ k f, k < ds.length -> u.fns[k]? = some f -> EnOk f (mD ds k) (nD ds k)
theorem alle_snoc {u : SUnit} {ds : Ghs} {f : SFunc} {m : Nat} {Nd : Nds} (h : AllE u ds) (hf : u.fns[ds.length]? = some f) (hE : EnOk f m Nd) : AllE u (ds ++ [(m, Nd)]) := λ k g hk hg => by
 rw [Yd, Yo] at hk
 by_cases e : k = ds.length
 .subst e
  rw [hf] at hg
  injection hg with hg
  subst hg
  unfold mD nD
  rw [List.getElem?_append_right (Yu _), Nat.sub_self]
  exact hE
 .have := h k g (by omega) hg
  unfold mD nD at this ⊢
  rw [List.getElem?_append_left (by omega)]
  exact this
theorem enU_ok {u : SUnit} {ds : Ghs} (h0 : mcheckF u = 0) (hl : ds.length = u.fns.length) (h : AllE u ds) : EnU u (enU u ds) ds := by
 refine ⟨h0, rfl, by show (enFns u.fns ds).length = _; rw [enFns_len (by omega), hl], λ k f hf => ?_⟩
 have hk := (Yf.1 hf).1
 refine ⟨h k f (by omega) hf, ?_⟩
 obtain ⟨d, hd⟩ := get_of_lt ds k (by omega)
 show (List.zipWith (λ f d => enterG f d.2) u.fns ds)[k]? = _
 rw [List.getElem?_zipWith, hf, hd]
 show some (enterG f d.2) = some (enterG f (nD ds k))
 unfold nD
 rw [hd]
 rfl
theorem mf_of {u : SUnit} (h : mcheckF u = 0) {f : SFunc} (hf : f ∈ u.fns) : mfuncF f = 0 := by
 unfold mcheckF at h
 split at h
 .cases h
 .split at h
  .cases h
  .split at h
   .cases h
   .split at h
    .rename_i h4; exact absurd h h4
    .rename_i h4
     exact firstE_zero (Classical.not_not.1 h4) f hf
theorem Enter_c (u : SUnit) (hz : ∀ f ∈ u.fns, InsB f) : VCalls Tryz.prog 7 [unitV u] [] λ r S' => S' = [] /\ ((mcheckF u ≠ 0 /\ r = .tup [.agg VT.zs24, .int (mcheckF u)]) \/ (mcheckF u = 0 /\ ∃ ds : Ghs, EnU u (enU u ds) ds /\ ((unitF (enU u ds) = 0 /\ r = .tup [unitV (enU u ds), .int 0]) \/ (unitF (enU u ds) ≠ 0 /\ r = .tup [.agg VT.zs24, .int 2])))) := by
 refine VCalls_drops<|V_start (nt := 47) Tryz.func7 rfl rfl rfl ?_
 refine Zb<|Zd<|Zc<|Zc2 rfl rfl<|λ g1 => (Zc<|Zb2 VT.zr24 _ rfl rfl<|λ g2 => (Zc<|Zk rfl<|Za<|Zi<|Zb<|Zb<|Zd<|Zc<|Zv 1 VT.ty24 rfl rfl rfl ?_))
 by_cases hU : mcheckF u = 0
 .
  have hC := MCheck_c u
  rw [hU] at hC
  have hul := (mcheck_ok hU).many
  refine Zc<|Zx1 [.tmp 10] rfl rfl VT.en10 (hC)<|Zc<|Zk rfl<|Za<|Zi<|Zb<|Zd<|Zc<|Zl rfl<|Zc<|Zj1 rfl rfl rfl<|Za<|Zi<|Zm1 rfl (λ h13 => ?_)<|λ h13 => ?_
  . exact absurd rfl h13
  refine Zi1<|Zi<|Zb<|Zd<|Zc<|Zj VT.fa24_1 rfl<|Zc<|Zu 1 VT.ty3 rfl rfl rfl<|Zc<|Zf2 [1] [.tmp 17] VT.st24 rfl rfl rfl rfl<|Zc<|Zb2 VT.zr24 _ rfl rfl<|λ g5 => (Zc<|Zx 0 VT.ty24 rfl rfl rfl rfl rfl<|Za<|Zi<|VW_cells 0 (ls' := [.sl 2 (some .nil) [], .int u.main]) rfl ⟨V.le.nilTok 2, rfl, V.le.refl _, rfl, trivial⟩<|VW_nilBuf 31 2<|Zb<|Zb<|Zd<|Zc<|Zj VT.fa24_0 rfl<|Zc<|Zu 3 VT.ty22 rfl rfl rfl<|Zc<|Zd2 (n := u.fns.length) Tryz.underlying22 rfl (by simp)<|λ hl21 => (Zc<|Zl rfl<|Za<|Zi<|Zs<|Zi2 (ι := Nat × Tok × Ghs) (λ (i, tok, ds) => u.fns.length - i) (λ (i, tok, ds) => [(2, some (.ptr g2 0)), (5, some (.ptr g5 0)), (20, some (funcsX u.fns)), (21, some (.int u.fns.length)), (22, some (.int i))]) (λ (i, tok, ds) => [.buf tok 31 2 i, .cells g5 24 [.sl 2 (some tok) ((enFns u.fns ds).map funcV), .int u.main], .cells g2 24 VT.zs24]) (λ (i, tok, ds) => i <= u.fns.length /\ ds.length = i /\ AllE u ds) (0, .nil, []) ⟨Yt _, rfl, λ k f hk => by cases hk⟩ ⟨rfl, rfl, rfl, rfl, rfl, trivial⟩ (Drops.buf (by simp)<|Drops.keepE (congrArg (λ l => Own.cells g5 24 [.sl 2 (some .nil) (l), .int u.main]) (by cases u.fns <;> rfl))<|Dk<|Dd<|Zt2 _) ?_))
  rintro ⟨i, tok, ds⟩ hA
  change i <= u.fns.length /\ ds.length = i /\ AllE u ds at hA
  obtain ⟨hi, hdl, hAE⟩ := hA
  refine Zb<|Zd<|Zc<|Zj1 rfl rfl rfl<|Za<|Zi<|Zb<|Zn1 rfl (λ h23 => ?_)<|λ h23 => ?_
  .
   obtain ⟨f, hf⟩ := get_of_lt u.fns i h23
   have hfm := Yb hf
   have hmf : mfuncF f = 0 := mf_of hU hfm
   have hel : (enFns u.fns ds).length = i := by rw [enFns_len (by omega)]; exact hdl
   refine Zi1<|Zi<|Zb<|Zs<|Zb<|Zd<|Zc<|Zz (el := funcV f) VT.sl22 rfl rfl (by omega) (get_mapS _ hf)<|λ a24 => (Zc<|Za2 VT.ty31 rfl rfl<|Zc<|Zb2 VT.zr31 _ rfl rfl<|λ g7 => (Zc<|Zx 0 VT.ty31 rfl rfl rfl rfl rfl<|Za<|Zi<|Zb<|Zd<|Zc<|Zv 0 VT.ty31 rfl rfl rfl<|Zc<|Zm3 [.tmp 27] [] _ rfl rfl VT.en19 (.refl _) (enter_c hmf<|hz f hfm) ?_))
   rintro r Sa ⟨Nd, hE, rfl, rfl⟩
   refine Zc<|Zl rfl<|Zc<|Zg2 rfl rfl<|Zc<|Zg2 rfl rfl<|Zc<|Zb2 VT.zr31 _ rfl rfl<|λ g8 => (Zc<|Zx 0 VT.ty31 rfl rfl rfl rfl rfl<|Zc<|Zk rfl<|Za<|Zi<|Zb<|Zb<|Zd<|Zc<|Zl rfl<|Zc<|Zj1 rfl rfl rfl<|Za<|Zi<|Zm1 rfl (λ h32 => ?_)<|λ h32 => ?_)
   . exact absurd rfl h32
   refine Zi1<|Zi<|Zd<|Zc<|Zj VT.fa24_0 rfl<|Zc<|Zu 3 VT.ty22 rfl rfl rfl<|Zc<|Zv 0 VT.ty31 rfl rfl rfl<|Zc<|Zk3 [.tmp 37] VT.sl22 rfl rfl rfl rfl rfl<|Zc<|Zi3 2 _ VT.sl22 rfl rfl rfl (by rw [Yc, hel]) (by rw [Yc, hel, Yo]; omega)<|λ t39 => (Zc<|Zj VT.fa24_0 rfl<|Zc<|Zy 3 VT.ty22 rfl rfl rfl rfl rfl<|Za<|Zb1<|Zi<|Zd<|Zc<|Zh2 rfl rfl (by omega)<|Zc<|Zl rfl<|Za<|Zi ?_)
   exact ⟨(i + 1, t39, ds ++ [(manyN f, Nd)]), (by (try simp only []); omega), ⟨by omega, by rw [Yd, hdl]; rfl, alle_snoc hAE (by rw [hdl]; exact hf) hE⟩, ⟨rfl, rfl, rfl, rfl, rfl, trivial⟩, (Dd (Dd (Drops.buf (by rw [Yd, Yc, hel]; rfl) (Drops.keepE (congrArg (λ l => Own.cells g5 24 [.sl 2 (some t39) (l), .int u.main]) (by rw [enFns_snoc (by rw [hdl]; exact hf), Yg]; rfl)) (Dk (Zt2 _))))))⟩
  have hie : i = u.fns.length := by omega
  subst hie
  have hEU := enU_ok hU hdl hAE
  refine Zt<|Ze1<|Ze1<|Zc1<|Zi<|VW_cells 1 (ls' := [funcsX (enU u ds).fns, .int u.main]) rfl ⟨V.le.strip, rfl, V.le.refl _, rfl, trivial⟩<|Zb<|Zb<|Zd<|Zc<|Zu2 (Zv 1 VT.ty24 rfl rfl rfl ⟨rfl, rfl⟩) ((V.le.of_eq rfl : V.le _ (unitV<|enU u ds)))<|Zc<|Zx1 [.tmp 42] rfl rfl VT.en11 (Check_c<|enU u ds)<|Zc<|Zj1 rfl rfl rfl<|Za<|Zi<|Zm1 rfl (λ h44 => ?_)<|λ h44 => ?_
  .
   have hne : unitF (enU u ds) ≠ 0 := h44
   refine Zb<|Zd<|Zc<|Zf2 [] [] VT.st24 rfl rfl rfl rfl<|Zc<|Zx 2 VT.ty24 rfl rfl rfl rfl rfl<|Zc<|Zk rfl<|Za<|Zi<|Zf1<|Zd1<|Zh1 rfl rfl (.cons (.agg (i := 2) VT.ty24 rfl rfl rfl)<|.cons (.tmp rfl)<|.nil) ?_
   first | exact ⟨[], Drops.nil _, rfl, .inr ⟨hU, ds, hEU, .inr ⟨hne, rfl⟩⟩⟩ | exact ⟨[], Drops.nil _, rfl, .inr ⟨hU, ds, hEU, .inl ⟨h0, rfl⟩⟩⟩
  have h0 : unitF (enU u ds) = 0 := by simpa using h44
  refine Zi1<|Zi<|Zb<|Zd<|Zc<|Zv 1 VT.ty24 rfl rfl rfl<|Zc<|Zx 2 VT.ty24 rfl rfl rfl rfl rfl<|Zc<|Zk rfl<|Za<|Zi<|Zf1<|Zh1 rfl rfl (.cons (.agg (i := 2) VT.ty24 rfl rfl rfl)<|.cons (.tmp rfl)<|.nil) ?_
  first | exact ⟨[], Drops.nil _, rfl, .inr ⟨hU, ds, hEU, .inr ⟨hne, rfl⟩⟩⟩ | exact ⟨[], Drops.nil _, rfl, .inr ⟨hU, ds, hEU, .inl ⟨h0, rfl⟩⟩⟩
 refine Zc<|Zx1 [.tmp 10] rfl rfl VT.en10 (MCheck_c u)<|Zc<|Zk rfl<|Za<|Zi<|Zb<|Zd<|Zc<|Zl rfl<|Zc<|Zj1 rfl rfl rfl<|Za<|Zi<|Zm1 rfl (λ h13 => ?_)<|λ h13 => ?_
 .
  refine Zb<|Zd<|Zc<|Zf2 [] [] VT.st24 rfl rfl rfl rfl<|Zc<|Zl rfl<|Zc<|Zx 0 VT.ty24 rfl rfl rfl rfl rfl<|Zc<|Zk rfl<|Za<|Zi<|Zf1<|Zd1<|Zh1 rfl rfl (.cons (.agg (i := 0) VT.ty24 rfl rfl rfl)<|.cons (.tmp rfl)<|.nil) ?_
  exact ⟨[], Drops.nil _, rfl, .inl ⟨hU, rfl⟩⟩
 . exact absurd (by simpa using h13) hU
end Go.Proofs.YthlflmmnankhhaaGreat.X87
end
section
namespace Go.Proofs.YthlflmmnankhhaaGreat.X88
open Go.VL Go.SM Go.Proofs.YthlflmmnankhhaaGreat XS X1 X2 X3 X4 X5 X6 X7 X8 X9 X10 X12 X13 X20 X15 X25 X26 X81 X82 X83 X84 X85 X86 X87
theorem simpleA_c (u : SUnit) : VCalls Tryz.prog 9 [unitV u] [] λ r S' => S' = [] /\ ∃ b : Bool, r = .bool b := by
 refine VCalls_drops<|V_start (nt := 38) Tryz.func9 rfl rfl rfl ?_
 refine Zb<|Zd<|Zc<|Zc2 rfl rfl<|λ g1 => (Zc<|Zk rfl<|Za<|Zi<|Zb<|Zd<|Zc<|Zk rfl<|Za<|Zi<|Zb<|Zb<|Zd<|Zc<|Zj VT.fa24_0 rfl<|Zc<|Zu 0 VT.ty22 rfl rfl rfl<|Zc<|Zd2 (n := u.fns.length) Tryz.underlying22 rfl (by simp)<|λ hl10 => (Zc<|Zl rfl<|Za<|Zi<|Zs<|Zi2 (ι := Nat × Int) (λ (i, m) => u.fns.length - i) (λ (i, m) => [(1, some (.ptr g1 0)), (9, some (funcsX u.fns)), (10, some (.int u.fns.length)), (11, some (.int i)), (3, some (.int m))]) (λ (i, m) => [.cells g1 24 [funcsX u.fns, .int u.main]]) (λ (i, m) => i <= u.fns.length) (0, 0) (Yt _) ⟨rfl, rfl, rfl, rfl, rfl, trivial⟩ (Dk<|Zt2 _) ?_))
 rintro ⟨i, m⟩ hi
 change i <= u.fns.length at hi
 refine Zb<|Zd<|Zc<|Zj1 rfl rfl rfl<|Za<|Zi<|Zb<|Zn1 rfl (λ h12 => ?_)<|λ h12 => ?_
 .
  obtain ⟨f, hf⟩ := get_of_lt u.fns i h12
  refine Zi1<|Zi<|Zb<|Zs<|Zb<|Zd<|Zc<|Zz (el := funcV f) VT.sl22 rfl rfl (by omega) (get_mapS _ hf)<|λ a13 => (Zc<|Za2 VT.ty31 rfl rfl<|Zc<|Zb2 VT.zr31 _ rfl rfl<|λ g5 => (Zc<|Zx 0 VT.ty31 rfl rfl rfl rfl rfl<|Za<|Zi<|Zb<|Zd<|Zc<|Zj VT.fa31_1 rfl<|Zc<|Zu 0 VT.ty29 rfl rfl rfl<|Zc<|Zd2 (n := f.blocks.length) Tryz.underlying29 rfl (by simp)<|λ hl17 => (Zc<|Zl rfl<|Za<|Zi<|Zs<|Zi2 (ι := Nat × Int) (λ (j, m2) => f.blocks.length - j) (λ (j, m2) => [(1, some (.ptr g1 0)), (9, some (funcsX u.fns)), (10, some (.int u.fns.length)), (11, some (.int i)), (3, some (.int m2)), (16, some (blocksX f.blocks)), (17, some (.int f.blocks.length)), (18, some (.int j))]) (λ (j, m2) => [.cells g1 24 [funcsX u.fns, .int u.main]]) (λ (j, m2) => j <= f.blocks.length) (0, m) (Yt _) ⟨rfl, rfl, rfl, rfl, rfl, rfl, rfl, rfl, trivial⟩ (Dd<|Dk<|Zt2 _) ?_)))
  rintro ⟨j, m2⟩ hj
  change j <= f.blocks.length at hj
  refine Zb<|Zd<|Zc<|Zj1 rfl rfl rfl<|Za<|Zi<|Zb<|Zn1 rfl (λ h19 => ?_)<|λ h19 => ?_
  .
   obtain ⟨b, hb⟩ := get_of_lt f.blocks j h19
   refine Zi1<|Zi<|Zb<|Zs<|Zb<|Zd<|Zc<|Zz (el := blockV b) VT.sl29 rfl rfl (by omega) (get_mapS _ hb)<|λ a20 => (Zc<|Za2 VT.ty40 rfl rfl<|Zc<|Zb2 VT.zr40 _ rfl rfl<|λ g7 => (Zc<|Zx 0 VT.ty40 rfl rfl rfl rfl rfl<|Za<|Zi<|Zd<|Zc<|Zl rfl<|Zc<|Zj VT.fa40_1 rfl<|Zc<|Zu 0 VT.ty35 rfl rfl rfl<|Zc<|Zd2 (n := b.ins.length) Tryz.underlying35 rfl (by simp)<|λ hl25 => (Zc<|Zj1 rfl rfl rfl<|Zc<|Zj1 rfl rfl rfl<|Zc<|Zk rfl<|Za<|Zb1<|Zi<|Zd<|Zc<|Zh2 rfl rfl (by omega)<|Zc<|Zl rfl<|Za<|Zi ?_)))
   exact ⟨(j + 1, IntKind.i64.wrap (m2 + IntKind.i64.wrap (b.ins.length + 1))), (by (try simp only []); omega), (by omega), ⟨rfl, rfl, rfl, rfl, rfl, rfl, rfl, rfl, trivial⟩, (Dd (Dk (Zt2 _)))⟩
  refine Zt<|Ze1<|Ze1<|Zc1<|Zb1<|Zi<|Zd<|Zc<|Zh2 rfl rfl (by omega)<|Zc<|Zl rfl<|Za<|Zi ?_
  exact ⟨(i + 1, m2), (by (try simp only []); omega), (by omega), ⟨rfl, rfl, rfl, rfl, rfl, trivial⟩, (Dk (Zt2 _))⟩
 refine Zt<|Ze1<|Ze1<|Zc1<|Zi<|Zb<|Zd<|Zc<|Zl rfl<|Zc<|Zj1 rfl rfl rfl<|Zc<|Zl rfl<|Zj2 (q := 32) rfl (λ hq32 => ?_)<|λ hq32 => ?_
 .
  refine Zc (Zj VT.fa24_0 rfl ?_)<|Zy1 hq32
  refine Zc (Zu 0 VT.ty22 rfl rfl rfl ?_)<|Zy1 hq32
  refine Zc (Zd2 (n := u.fns.length) Tryz.underlying22 rfl (by simp)<|λ hl35 => ?_)<|Zy1 hq32
  refine Zc (Zj1 rfl rfl rfl ?_)<|Zy1 hq32
  refine Zc<|Zs1 rfl hq32 rfl<|Zc<|Zk rfl<|Za<|Zi<|Zf1<|Zg1 rfl (.tmp rfl) ?_
  exact ⟨[], Drops.nil _, rfl, _, rfl⟩
 refine Zk1 hq32<|Zk1 hq32<|Zk1 hq32<|Zk1 hq32<|Zc<|Zt1 rfl hq32 rfl<|Zc<|Zk rfl<|Za<|Zi<|Zf1<|Zg1 rfl (.tmp rfl) ?_
 exact ⟨[], Drops.nil _, rfl, _, rfl⟩
theorem enough_c (n : Int) (h : 0 <= n /\ n <= 1500) : VPure Tryz.prog 14 [.int n] (.bool (decide (5000 * (n + 1) <= 1000000))) := by
 refine V_start (nt := 7) Tryz.func14 rfl rfl rfl ?_
 refine Zb<|Zd<|Zc<|Zk rfl<|Za<|Zi<|Zb<|Zd<|Zc<|Zl rfl<|Zc<|Zh2 rfl rfl (by omega)<|Zc<|Zu2 (Zj1 rfl rfl rfl ⟨rfl, rfl⟩) ((V.le.of_eq (congrArg V.int<|IntWalk.i64_in _ (by omega)) : V.le _ (.int (5000 * (n + 1)))))<|Zc<|Zj1 rfl rfl rfl<|Zc<|Zk rfl<|Za<|Zi<|Zf1<|Zg1 rfl (.tmp rfl) ?_
 rfl
theorem movesEnters_c (u : SUnit) (hz : ∀ f ∈ u.fns, InsB f) : VPure Tryz.prog 4 [unitV u] (.bool true) := by
 refine V_start (nt := 77) Tryz.func4 rfl rfl rfl ?_
 refine Zb<|Zd<|Zc<|Zc2 rfl rfl<|λ g1 => (Zc<|Zk rfl<|Za<|Zi<|Zb<|Zb<|Zd<|Zc<|Zx1 [] rfl rfl VT.en6 (works_c)<|Zc<|Zl2 rfl<|Za<|Zi<|Zq1 rfl (rfl)<|Zi1<|Zi<|Zb<|Zb<|Zd<|Zc<|Zv 0 VT.ty24 rfl rfl rfl<|Zc<|Zm3 [.tmp 14] [] _ rfl rfl VT.en9 (.refl _) (simpleA_c u) ?_)
 rintro _ _ ⟨rfl, sb, rfl⟩
 refine Zc<|Zl2 rfl<|Za<|Zi<|Zo1 rfl (λ h16 => ?_)<|λ h16 => ?_
 .
  refine Zb<|Zd<|Zc<|Zk rfl<|Za<|Zi<|Zf1<|Zd1<|Zg1 rfl (.tmp rfl) ?_
  first | rfl | exact congrArg V.bool (by rw [hr2 hx63]; exact sameOut_iff.2 rfl)
 refine Zi1<|Zi<|Zb<|Zd<|Zc<|Zv 0 VT.ty24 rfl rfl rfl<|Zc<|Zm3 [.tmp 18] [] _ rfl rfl VT.en7 (.refl _) (Enter_c u hz) ?_
 rintro r9 Sa ⟨rfl, hr⟩
 rcases hr with ⟨hU, rfl⟩ | ⟨hU, ds, hE, ⟨h0, rfl⟩ | ⟨h0, rfl⟩⟩
 .
  refine Zc<|Zl rfl<|Zc<|Zg2 rfl rfl<|Zc<|Zg2 rfl rfl<|Zc<|Zb2 VT.zr24 _ rfl rfl<|λ g3 => (Zc<|Zx 0 VT.ty24 rfl rfl rfl rfl rfl<|Zc<|Zk rfl<|Za<|Zi<|Zb<|Zb<|Zd<|Zc<|Zv 1 VT.ty24 rfl rfl rfl<|Zc<|Zx1 [.tmp 22] rfl rfl VT.en10 (MCheck_c u)<|Zc<|Zk rfl<|Za<|Zi<|Zb<|Zd<|Zc<|Zl rfl<|Zc<|Zj1 rfl rfl rfl<|Za<|Zi<|Zm1 rfl (λ h25 => ?_)<|λ h25 => ?_)
  .
   refine Zb<|Zd<|Zc<|Zl rfl<|Zc<|Zl rfl<|Zc<|Zj1 rfl rfl rfl<|Zc<|Zl rfl<|Zj2 (q := 29) rfl (λ hq29 => ?_)<|λ hq29 => ?_
   .
    refine Zc (Zj VT.fa24_0 rfl ?_)<|Zy1 hq29
    refine Zc (Zu 0 VT.ty22 rfl rfl rfl ?_)<|Zy1 hq29
    refine Zc (V_len_raw Tryz.underlying22 rfl ?_)<|Zy1 hq29
    refine Zc (Zj1 rfl rfl rfl ?_)<|Zy1 hq29
    refine Zc<|Zs1 rfl hq29 rfl<|Zc<|Zk rfl<|Za<|Zi<|Zf1<|Zd1<|Zg1 rfl (.tmp rfl) ?_
    rfl
   . exact absurd hq29 (by simp)
  . exact absurd (by simpa using h25) hU
 .
  have hC := MCheck_c u
  rw [hU] at hC
  have hV := Check_c (enU u ds)
  rw [h0] at hV
  refine Zc<|Zl rfl<|Zc<|Zg2 rfl rfl<|Zc<|Zg2 rfl rfl<|Zc<|Zb2 VT.zr24 _ rfl rfl<|λ g3 => (Zc<|Zx 0 VT.ty24 rfl rfl rfl rfl rfl<|Zc<|Zk rfl<|Za<|Zi<|Zb<|Zb<|Zd<|Zc<|Zv 1 VT.ty24 rfl rfl rfl<|Zc<|Zx1 [.tmp 22] rfl rfl VT.en10 (hC)<|Zc<|Zk rfl<|Za<|Zi<|Zb<|Zd<|Zc<|Zl rfl<|Zc<|Zj1 rfl rfl rfl<|Za<|Zi<|Zm1 rfl (λ h25 => ?_)<|λ h25 => ?_)
  . exact absurd rfl h25
  refine Zi1<|Zi<|Zb<|Zb<|Zd<|Zc<|Zl rfl<|Zc<|Zj1 rfl rfl rfl<|Za<|Zi<|Zm1 rfl (λ h36 => ?_)<|λ h36 => ?_
  . exact absurd rfl h36
  refine Zi1<|Zi<|Zb<|Zb<|Zd<|Zc<|Zv 0 VT.ty24 rfl rfl rfl<|Zc<|Zx1 [.tmp 39] rfl rfl VT.en11 (hV)<|Zc<|Zj1 rfl rfl rfl<|Za<|Zi<|Zm1 rfl (λ h41 => ?_)<|λ h41 => ?_
  . exact absurd rfl h41
  refine Zi1<|Zi<|Zb<|Zd<|Zc<|Zv 1 VT.ty24 rfl rfl rfl<|Zc<|Zx1 [.tmp 43, .const (.int .i64 (1500))] rfl rfl VT.en12 (MRun_c u 1500)<|Zc<|Zl rfl<|Zc<|Zg2 rfl rfl<|Zc<|Zg2 rfl rfl<|Zc<|Zg2 rfl rfl<|Zc<|Zb2 VT.zr46 _ rfl rfl<|λ g6 => (Zc<|Zx 0 VT.ty46 rfl rfl rfl rfl rfl<|Zc<|Zk rfl<|Zc<|Zk rfl<|Za<|Zi<|Zb<|Zb<|Zd<|Zc<|Zl rfl<|Zc<|Zj1 rfl rfl rfl<|Zc<|Zl rfl<|Zj2 (q := 50) rfl (λ hq50 => ?_)<|λ hq50 => ?_)
  .
   refine Zk0 hq50<|Zk0 hq50<|Zk0 hq50<|Zc<|Zs1 rfl hq50 rfl<|Za<|Zi<|Zp1 rfl rfl<|Zb<|Zd<|Zc<|Zk rfl<|Za<|Zi<|Zf1<|Zd1<|Zg1 rfl (.tmp rfl) ?_
   first | rfl | exact congrArg V.bool (by rw [hr2 hx63]; exact sameOut_iff.2 rfl)
  have hx0 : (mrunF u 1500).2.2 = 0 := by simpa using hq50
  refine Zc (Zj VT.fa46_1 rfl ?_)<|Zy0 hq50
  refine Zc (Zu 0 VT.ty3 rfl rfl rfl ?_)<|Zy0 hq50
  refine Zc (Zj1 rfl rfl rfl ?_)<|Zy0 hq50
  refine Zc<|Zt1 rfl hq50 rfl<|Za<|Zi<|Zl1 rfl (λ h54 => ?_)<|λ h54 => ?_
  .
   refine Zb<|Zd<|Zc<|Zk rfl<|Za<|Zi<|Zf1<|Zd1<|Zg1 rfl (.tmp rfl) ?_
   first | rfl | exact congrArg V.bool (by rw [hr2 hx63]; exact sameOut_iff.2 rfl)
  obtain ⟨hr1, hr2, hr3, hr4, hr5⟩ := en_run hE h0 hx0
  refine Zi1<|Zi<|Zb<|Zd<|Zc<|Zv 1 VT.ty24 rfl rfl rfl<|Zc<|Zx1 [.tmp 56, .const (.int .i64 (1000000))] rfl rfl VT.en13 (Run_c (enU u ds) 1000000)<|Zc<|Zl rfl<|Zc<|Zg2 rfl rfl<|Zc<|Zg2 rfl rfl<|Zc<|Zg2 rfl rfl<|Zc<|Zb2 VT.zr46 _ rfl rfl<|λ g9 => (Zc<|Zx 0 VT.ty46 rfl rfl rfl rfl rfl<|Zc<|Zk rfl<|Zc<|Zk rfl<|Za<|Zi<|Zb<|Zd<|Zc<|Zl rfl<|Zc<|Zj1 rfl rfl rfl<|Zc<|Zl rfl<|Zj2 (q := 63) rfl (λ hq63 => ?_)<|λ hq63 => ?_)
  .
   have hx63 : (runF (enU u ds) 1000000).2.2 = 13 := by simpa using hq63
   refine Zc (Zl rfl ?_)<|Zy1 hq63
   refine Zc (Zx1 [.tmp 64] rfl rfl VT.en14 (enough_c _ ⟨hr4, hr5⟩) ?_)<|Zy1 hq63
   refine Zc (Zl2 rfl ?_)<|Zy1 hq63
   refine Zc<|Zs1 rfl hq63 rfl<|Zc<|Zl rfl<|Zj2 (q := 68) rfl (λ hq68 => ?_)<|λ hq68 => ?_
   .
    refine Zk0 hq68<|Zk0 hq68<|Zk0 hq68<|Zh (.inr ⟨_, _, 71, rfl, rfl, rfl⟩) rfl<|Zh (.inr ⟨_, _, 71, rfl, rfl, rfl⟩) rfl<|Zh (.inr ⟨_, _, 71, rfl, rfl, rfl⟩) rfl<|Zk0 hq68<|Zc<|Zs1 rfl hq68 rfl<|Zc<|Zk rfl<|Za<|Zi<|Zf1<|Zg1 rfl (.tmp rfl) ?_
    first | rfl | exact congrArg V.bool (by rw [hr2 hx63]; exact sameOut_iff.2 rfl)
   . exact absurd (hr1 (by simpa using hq68)) (by omega)
  have hx63 : (runF (enU u ds) 1000000).2.2 = 0 := hr3.resolve_right (by simpa using hq63)
  refine Zk1 hq63<|Zk1 hq63<|Zk1 hq63<|Zc<|Zt1 rfl hq63 rfl<|Zc<|Zl rfl<|Zc (Zl rfl ?_)<|Zy0 rfl
  refine Zc (Zj1 rfl rfl rfl ?_)<|Zy0 rfl
  refine Zc (Zl rfl ?_)<|Zy0 rfl
  refine Zj2 (q := 71) rfl (λ hq71 => ?_)<|λ hq71 => ?_
  .
   refine Zc (Zv 1 VT.ty46 rfl rfl rfl ?_)<|Zy1 hq71
   refine Zc (Zv 0 VT.ty46 rfl rfl rfl ?_)<|Zy1 hq71
   refine Zc (Zx1 [.tmp 72, .tmp 73] rfl rfl VT.en15 (SameResult_c (mrunF u 1500).1 (runF (enU u ds) 1000000).1) ?_)<|Zy1 hq71
   refine Zc (Zs1 rfl hq71 rfl ?_)<|Zy0 rfl
   refine Zc<|Zt1 rfl rfl rfl<|Zc<|Zk rfl<|Za<|Zi<|Zf1<|Zg1 rfl (.tmp rfl) ?_
   first | rfl | exact congrArg V.bool (by rw [hr2 hx63]; exact sameOut_iff.2 rfl)
  . exact absurd hq71 (by rw [hx63]; decide)
 have hC := MCheck_c u
 rw [hU] at hC
 refine Zc<|Zl rfl<|Zc<|Zg2 rfl rfl<|Zc<|Zg2 rfl rfl<|Zc<|Zb2 VT.zr24 _ rfl rfl<|λ g3 => (Zc<|Zx 0 VT.ty24 rfl rfl rfl rfl rfl<|Zc<|Zk rfl<|Za<|Zi<|Zb<|Zb<|Zd<|Zc<|Zv 1 VT.ty24 rfl rfl rfl<|Zc<|Zx1 [.tmp 22] rfl rfl VT.en10 (hC)<|Zc<|Zk rfl<|Za<|Zi<|Zb<|Zd<|Zc<|Zl rfl<|Zc<|Zj1 rfl rfl rfl<|Za<|Zi<|Zm1 rfl (λ h25 => ?_)<|λ h25 => ?_)
 . exact absurd rfl h25
 refine Zi1<|Zi<|Zb<|Zb<|Zd<|Zc<|Zl rfl<|Zc<|Zj1 rfl rfl rfl<|Za<|Zi<|Zm1 rfl (λ h36 => ?_)<|λ h36 => ?_
 .
  refine Zb<|Zd<|Zc<|Zl rfl<|Zc<|Zj1 rfl rfl rfl<|Zc<|Zk rfl<|Za<|Zi<|Zf1<|Zd1<|Zg1 rfl (.tmp rfl) ?_
  rfl
 . exact absurd h36 (by decide)
end Go.Proofs.YthlflmmnankhhaaGreat.X88
end
