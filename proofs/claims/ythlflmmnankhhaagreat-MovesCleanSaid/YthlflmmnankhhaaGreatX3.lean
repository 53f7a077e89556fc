import Derived.Test.YthlflmmnankhhaaGreatSZ
import Derived.Test.YthlflmmnankhhaaGreatX2
set_option maxRecDepth 100000
set_option maxHeartbeats 8000000
open Go.VL.Drops renaming keep → Dk, drop → Dd
set_option linter.all false
open List renaming length_map → Ya, mem_of_getElem? → Yb, drop_length → Yc, replicate → Yd, foldl_cons → Ye
open Nat renaming zero_le → Yf
namespace Go.Proofs.YthlflmmnankhhaaGreat.X3
open Go.VL Go.SM Go.Proofs.YthlflmmnankhhaaGreat X1 X2
def rowL (l : List BSet) : List V := (l.map setV).flatMap V.leaves
theorem rowL_nil (l : List BSet) : rowL l = (l.map setV).flatMap V.leaves ++ [] := (List.append_nil _).symm
theorem sets_fit (l : List BSet) : ∀ x ∈ l.map setV, x.leaves.length = 2 := λ x hx => by
  obtain ⟨s, _, rfl⟩ := List.mem_map.1 hx
  rfl
theorem sets_fits (l : List BSet) : ∀ x ∈ l.map setV, x.fits 2 = true /\ ((∃ ls, x = .agg ls) \/ x.leaf = true) := λ x hx => by
  obtain ⟨s, _, rfl⟩ := List.mem_map.1 hx
  exact ⟨rfl, .inl ⟨_, rfl⟩⟩
theorem rowL_set (l : List BSet) (k : Nat) (s : BSet) : (((l.map setV).set k (setV s)).flatMap V.leaves ++ []) = rowL (l.set k s) := by rw [List.append_nil, rowL, List.map_set]
theorem get_setV {l : List BSet} {k : Nat} (h : k < l.length) : (l.map setV)[k]? = some (setV (l[k]?.getD noSet)) := by
  rw [List.getElem?_map, List.getElem?_eq_getElem h]
  rfl
theorem at_setV {d : Dom} {k : Nat} (h : k < d.over.length) : (d.over.map setV)[k]? = some (.agg [.u64 (d.at k).1, .u64 (d.at k).2]) := get_setV h
theorem all_rep {n : Nat} {l : List BSet} {s : BSet} (hl : l.length = n) (h : ∀ j, j < n -> l[j]? = some s) : l = Yd n s := by
  apply List.ext_getElem?
  intro j
  rw [List.getElem?_replicate]
  split
  . rename_i hj; exact h j hj
  . rename_i hj; exact List.getElem?_eq_none (by omega)
theorem dominators_c (name : Int) (bs : List SBlock) (h0 : 0 < bs.length) (hn : bs.length <= 128) (hE : ∀ b ∈ bs, ∀ e ∈ b.term.to, 1 <= e.block /\ e.block < bs.length) : VPure Tryz.prog 79 [.agg [.int name, blocksX bs]] (.tup [setsX (domF bs).over, setV (domF bs).seen]) := by
 refine V_start (nt := 106) Tryz.func79 rfl rfl rfl ?_
 refine Zb (Zd ?_)
 refine Zc (Zc2 rfl rfl (λ g1 => ?_))
 refine Zc (Zk rfl ?_)
 refine Zc (Zb2 VT.zr134 _ rfl rfl (λ g3 => ?_))
 refine Za (Zi (Zb (Zd ?_)))
 refine Zc (Zb2 VT.zr134 _ rfl rfl (λ g4 => ?_))
 refine Za (Zi (Zb (Zb (Zd (Zc (Zj VT.fa31_1 rfl (Zc (Zu 2 VT.ty29 rfl rfl rfl ?_))))))))
 refine Zc (Zd2 (n := bs.length) Tryz.underlying29 rfl (by simp) (λ hl17 => ?_))
 refine Zc (Zl rfl (Za (Zi (Zs ?_))))
 refine Zi2 (ι := Nat) (λ k => bs.length - k) (λ k => [(1, some (.ptr g1 0)), (3, some (.ptr g3 0)), (4, some (.ptr g4 0)), (17, some (.int bs.length)), (18, some (.int k))]) (λ k => [.cells g4 134 [V.u64 (allSet k).1, V.u64 (allSet k).2], .cells g3 134 VT.zs134, .cells g1 31 [.int name, blocksX bs]]) (λ k => k <= bs.length) 0 (Yf _) ⟨rfl, rfl, rfl, rfl, rfl, trivial⟩ (Drops.keepE rfl (Dk (Dk (Zt2 _)))) ?_
 rintro k hk
 change k <= bs.length at hk
 refine Zb (Zd (Zc (Zj1 rfl rfl rfl (Za (Zi (Zb ?_))))))
 refine Zn1 rfl (λ h19 => ?_) (λ h19 => ?_)
 .
  refine Zi1 (Zi (Zb (Zs (Zb (Zd (Zc (Zl rfl (Zc (Zk rfl (Za (Zi (Zd (Zc (Zv 0 VT.ty134 rfl rfl rfl (Zc (Zl rfl ?_))))))))))))))))
  refine Zc (Zx1 [.tmp 21, .tmp 22] rfl rfl VT.en100 (with_n (allSet k) k (by omega)) ?_)
  refine Zc (Zx 0 VT.ty134 rfl rfl rfl rfl rfl (Za (Zb1 (Zi (Zd ?_)))))
  refine Zc (Zh2 rfl rfl (by omega) ?_)
  refine Zc (Zl rfl (Za (Zi ?_)))
  exact ⟨k + 1, (by (try simp only []); omega), (by omega), ⟨rfl, rfl, rfl, rfl, rfl, trivial⟩, (Drops.keepE rfl (Dk (Dk (Zt2 _))))⟩
 .
  have hke : k = bs.length := by omega
  subst hke
  refine Zt (Ze1 (Ze1 (Zc1 (Zi (Zb (Zd (Zc (Zj VT.fa31_1 rfl (Zc (Zu 2 VT.ty29 rfl rfl rfl ?_))))))))))
  refine Zc (Zd2 (n := bs.length) Tryz.underlying29 rfl (by simp) (λ hl27 => ?_))
  refine Zc (V_makeRow (setV noSet) (λ m => ⟨rfl, _, rfl, by simp [Go.VL.RepL, Rep]; exact ⟨rfl, rfl⟩⟩) rfl VT.sl132 rfl rfl (by omega) (by omega) (λ g28 => ?_))
  refine Zc (Zk rfl (Za (Zi (Zb (Zb (Zd (Zc (Zl rfl ?_))))))))
  refine Zc (V_len_raw Tryz.underlying132 rfl ?_)
  refine Zc (Zl rfl (Za (Zi (Zs ?_))))
  refine Zi2 (ι := Nat × List BSet) (λ (k, l) => bs.length - k) (λ (k, l) => [(1, some (.ptr g1 0)), (3, some (.ptr g3 0)), (4, some (.ptr g4 0)), (6, some (.raw (.slice (some ⟨g28, 0, none⟩) bs.length bs.length))), (29, some (.raw (.slice (some ⟨g28, 0, none⟩) bs.length bs.length))), (30, some (.int bs.length)), (31, some (.int k))]) (λ (k, l) => [.cells g28 134 (rowL l), .cells g4 134 [V.u64 (allSet bs.length).1, V.u64 (allSet bs.length).2], .cells g3 134 VT.zs134, .cells g1 31 [.int name, blocksX bs]]) (λ (k, l) => k <= bs.length /\ l.length = bs.length /\ ∀ j, j < k -> l[j]? = some (allSet bs.length)) (0, Yd bs.length noSet) ⟨Yf _, List.length_replicate, λ j hj => absurd hj (Nat.not_lt_zero _)⟩ ⟨rfl, rfl, rfl, rfl, rfl, rfl, rfl, trivial⟩ (Drops.keepE (by rw [rowL, List.map_replicate]; rfl) (Dk (Dk (Dk (Zt2 _))))) ?_
  rintro ⟨k, l⟩ hA
  change k <= bs.length /\ l.length = bs.length /\ ∀ j, j < k -> l[j]? = some (allSet bs.length) at hA
  obtain ⟨hk, hl, hal⟩ := hA
  refine Zb (Zd (Zc (Zj1 rfl rfl rfl (Za (Zi (Zb ?_))))))
  refine Zn1 rfl (λ h32 => ?_) (λ h32 => ?_)
  .
   refine Zi1 (Zi (Zb (Zs (Zb (Zd (Zc (Zl rfl (Zc (Zk rfl (Za (Zi (Zd (Zc (Zl rfl (Zc (Zl rfl (Zc (Zv 1 VT.ty134 rfl rfl rfl ?_))))))))))))))))))
   refine Zc (Zr2 VT.sl132 rfl rfl (by omega) (by omega) ?_)
   refine Zc (Zg3 0 k VT.ty134 rfl (by simp) rfl rfl rfl (rowL_nil _) (sets_fit _) (by rw [Ya]; omega) ?_)
   refine Za (Zb1 (Zi (Zd ?_)))
   refine Zc (Zh2 rfl rfl (by omega) ?_)
   refine Zc (Zl rfl (Za (Zi ?_)))
   exact ⟨(k + 1, l.set k (allSet bs.length)), (by (try simp only []); omega), ⟨by omega, by rw [List.length_set]; exact hl, λ j hj => by rw [List.getElem?_set]; split; exact if_pos (by omega); exact hal j (by omega)⟩, ⟨rfl, rfl, rfl, rfl, rfl, rfl, rfl, trivial⟩, (Drops.keepE (congrArg (Own.cells g28 134) (rowL_set l k (allSet bs.length))) (Dk (Dk (Dk (Zt2 _)))))⟩
  .
   have hke : k = bs.length := by omega
   subst hke
   have hrep := all_rep hl hal
   subst hrep
   refine Zt (Ze1 (Ze1 (Zc1 (Zi (Zb (Zd (Zc (Zl rfl ?_))))))))
   refine Zc (V_buildArr [] [] VT.at134 rfl rfl rfl rfl ?_)
   refine Zc (Zx1 [.tmp 40, .const (.int .i64 (0))] rfl rfl VT.en100 (with_n noSet 0 (by omega)) ?_)
   refine Zc (Zr2 VT.sl132 rfl rfl (by omega) (by omega) ?_)
   refine Zc (Zg3 0 0 VT.ty134 rfl (by simp) rfl rfl rfl (rowL_nil _) (sets_fit _) (by rw [Ya, List.length_replicate]; omega) ?_)
   refine Za (Zi (Zb (Zd ?_)))
   refine Zc (V_buildArr [] [] VT.at134 rfl rfl rfl rfl ?_)
   refine Zc (Zx1 [.tmp 43, .const (.int .i64 (0))] rfl rfl VT.en100 (with_n noSet 0 (by omega)) ?_)
   refine Zc (Zb2 VT.zr134 _ rfl rfl (λ g8 => ?_))
   refine Zc (Zx 0 VT.ty134 rfl rfl rfl rfl rfl (Za (Zi (Zb (Zb (Zd (Zc (Zk rfl (Za (Zi (Zs ?_)))))))))))
   refine Zi2 (ι := Nat × Dom) (λ (m, d) => m) (λ (m, d) => [(1, some (.ptr g1 0)), (3, some (.ptr g3 0)), (6, some (.raw (.slice (some ⟨g28, 0, none⟩) bs.length bs.length))), (8, some (.ptr g8 0)), (9, some (.bool d.again))]) (λ (m, d) => [.cells g8 134 [V.u64 d.seen.1, V.u64 d.seen.2], .cells g28 134 (rowL d.over), .cells g3 134 VT.zs134, .cells g1 31 [.int name, blocksX bs]]) (λ (m, d) => domIter bs m d = domF bs /\ DomOk bs.length d /\ weight bs.length d + (if d.again then 1 else 0) <= m) (domFuel bs.length, domStart bs.length) ⟨rfl, start_ok h0 hn, by have := start_w bs.length; have e : (domStart bs.length).again = true := rfl; rw [e, if_pos rfl]; unfold domFuel; omega⟩ ⟨rfl, rfl, rfl, rfl, rfl, trivial⟩ (Drops.keepE rfl (Drops.keepE (congrArg (Own.cells g28 134) (rowL_set (Yd bs.length (allSet bs.length)) 0 (BSet.with noSet 0))) (Dd (Dk (Dk (Zt2 _)))))) ?_
   rintro ⟨m, d⟩ hA
   change domIter bs m d = domF bs /\ DomOk bs.length d /\ weight bs.length d + (if d.again then 1 else 0) <= m at hA
   obtain ⟨hit, hok, hw⟩ := hA
   refine Zb (Zb (Zd (Zc (Zl rfl (Za (Zi ?_))))))
   refine Zr1 rfl (λ h45 => ?_) (λ h45 => ?_)
   .
    obtain ⟨m', rfl, hit2, hok', hw'⟩ := round hok hE hw h45
    have hit' := hit2.symm.trans hit
    refine Zi1 (Zi (Zs (Zb (Zd (Zc (Zk rfl (Za (Zi (Zb (Zd (Zc (Zj VT.fa31_1 rfl (Zc (Zu 3 VT.ty29 rfl rfl rfl ?_))))))))))))))
    refine Zc (Zd2 (n := bs.length) Tryz.underlying29 rfl (by simp) (λ hl48 => ?_))
    refine Zc (Zl rfl (Za (Zi (Zs ?_))))
    refine Zi2 (ι := Nat × Dom) (λ (k, c) => bs.length - k) (λ (k, c) => [(1, some (.ptr g1 0)), (3, some (.ptr g3 0)), (6, some (.raw (.slice (some ⟨g28, 0, none⟩) bs.length bs.length))), (8, some (.ptr g8 0)), (9, some (.bool c.again)), (47, some (blocksX bs)), (48, some (.int bs.length)), (49, some (.int k))]) (λ (k, c) => [.cells g8 134 [V.u64 c.seen.1, V.u64 c.seen.2], .cells g28 134 (rowL c.over), .cells g3 134 VT.zs134, .cells g1 31 [.int name, blocksX bs]]) (λ (k, c) => k <= bs.length /\ domPass k (bs.drop k) c = domPass 0 bs { d with again := false } /\ DomOk bs.length c) (0, { d with again := false }) ⟨Yf _, rfl, ⟨hok.len, hok.le, hok.self⟩⟩ ⟨rfl, rfl, rfl, rfl, rfl, rfl, rfl, rfl, trivial⟩ (Dk (Dk (Dk (Dk (Zt2 _))))) ?_
    rintro ⟨k, c⟩ hA2
    change k <= bs.length /\ domPass k (bs.drop k) c = domPass 0 bs { d with again := false } /\ DomOk bs.length c at hA2
    obtain ⟨hk, hps, hokc⟩ := hA2
    refine Zb (Zd (Zc (Zj1 rfl rfl rfl (Za (Zi (Zb ?_))))))
    refine Zn1 rfl (λ h50 => ?_) (λ h50 => ?_)
    .
     obtain ⟨b, hb⟩ := get_of_lt bs k h50
     refine Zi1 (Zi (Zb (Zs (Zb (Zd (Zc (Zl rfl ?_)))))))
     refine Zc (Zz (el := blockV b) VT.sl29 rfl rfl (by omega) (get_mapS _ hb) (λ a52 => ?_))
     refine Zc (Za2 VT.ty40 rfl rfl ?_)
     refine Zc (Zb2 VT.zr40 _ rfl rfl (λ g11 => ?_))
     refine Zc (Zk rfl (Zc (Zx 0 VT.ty40 rfl rfl rfl rfl rfl (Za (Zi (Zb (Zb (Zd (Zc (Zv 1 VT.ty134 rfl rfl rfl (Zc (Zl rfl ?_))))))))))))
     refine Zc (Zx1 [.tmp 54, .tmp 55] rfl rfl VT.en81 (has_n c.seen k (by omega)) ?_)
     refine Zc (Zl2 rfl (Za (Zi ?_)))
     refine Zo1 rfl (λ h57 => ?_) (λ h57 => ?_)
     .
      have hskip : domBlock c k b = c := by rw [domBlock, if_neg (by rw [h57]; decide)]
      refine Zt (Ze1 (Zc1 (Zi (Zd ?_))))
      refine Zc (Zh2 rfl rfl (by omega) ?_)
      refine Zc (Zl rfl (Za (Zi ?_)))
      exact ⟨(k + 1, domBlock c k b), (by (try simp only []); omega), ⟨by omega, by rw [<- hps, drop_cons hb, domPass], (block_w (by omega) hokc (hE b (Yb hb))).1⟩, ⟨rfl, rfl, rfl, rfl, (by first | rfl | rw [hskip]; rfl), rfl, rfl, rfl, trivial⟩, (Dd (Drops.keepE (by first | rfl | rw [hskip]) (Drops.keepE (by first | rfl | rw [hskip]) (Dk (Dk (Zt2 _))))))⟩
     .
      have hgo : domBlock c k b = b.term.to.foldl (domEdge k) c := by rw [domBlock, if_pos h57]
      have hEb := hE b (Yb hb)
      refine Zi1 (Zi (Zb (Zd (Zc (Zj VT.fa40_2 rfl (Zc (Zj VT.fa38_4 rfl (Zc (Zu 0 VT.ty36 rfl rfl rfl ?_)))))))))
      refine Zc (Zd2 (n := b.term.to.length) Tryz.underlying36 rfl (by simp) (λ hl61 => ?_))
      refine Zc (Zl rfl (Za (Zi (Zs ?_))))
      refine Zi2 (ι := Nat × Dom) (λ (j, f) => b.term.to.length - j) (λ (j, f) => [(1, some (.ptr g1 0)), (3, some (.ptr g3 0)), (6, some (.raw (.slice (some ⟨g28, 0, none⟩) bs.length bs.length))), (8, some (.ptr g8 0)), (9, some (.bool f.again)), (10, some (.int k)), (47, some (blocksX bs)), (48, some (.int bs.length)), (49, some (.int k)), (60, some (edgesX b.term.to)), (61, some (.int b.term.to.length)), (62, some (.int j))]) (λ (j, f) => [.cells g8 134 [V.u64 f.seen.1, V.u64 f.seen.2], .cells g28 134 (rowL f.over), .cells g3 134 VT.zs134, .cells g1 31 [.int name, blocksX bs]]) (λ (j, f) => j <= b.term.to.length /\ (b.term.to.drop j).foldl (domEdge k) f = domBlock c k b /\ DomOk bs.length f) (0, c) ⟨Yf _, hgo.symm, hokc⟩ ⟨rfl, rfl, rfl, rfl, rfl, rfl, rfl, rfl, rfl, rfl, rfl, rfl, trivial⟩ (Dd (Dk (Dk (Dk (Dk (Zt2 _)))))) ?_
      rintro ⟨j, f⟩ hA3
      change j <= b.term.to.length /\ (b.term.to.drop j).foldl (domEdge k) f = domBlock c k b /\ DomOk bs.length f at hA3
      obtain ⟨hj, hfo, hokf⟩ := hA3
      refine Zb (Zd (Zc (Zj1 rfl rfl rfl (Za (Zi (Zb ?_))))))
      refine Zn1 rfl (λ h63 => ?_) (λ h63 => ?_)
      .
       obtain ⟨x, hx⟩ := get_of_lt b.term.to j h63
       obtain ⟨hx1, hx2⟩ := hEb x (Yb hx)
       have hfl := hokf.len
       refine Zi1 (Zi (Zb (Zs (Zb (Zd ?_)))))
       refine Zc (Zz (el := edgeV x) VT.sl36 rfl rfl (by omega) (get_mapS _ hx) (λ a64 => ?_))
       refine Zc (Za2 VT.ty64 rfl rfl ?_)
       refine Zc (Zb2 VT.zr64 _ rfl rfl (λ g13 => ?_))
       refine Zc (Zx 0 VT.ty64 rfl rfl rfl rfl rfl (Za (Zi (Zb ?_))))
       refine VW_drawR (G := Nat) [([], [6], []), ([], [13], []), ([1], [67], []), ([2, 1, 0], [66, 68], []), (dn 4, [69], []), ([], [6], []), ([], [10], []), ([6, 5], [71, 72], []), ([7, 6, 5], [73], []), (dn 9, [70, 74], []), ([], [13], []), ([10], [76], []), (dn 12, [75, 77], []), ([], [], [0]), (dn 14, [14, 78], [])] [13, 14] (twoSt _ (λ g14 => .cells g14 134 VT.zs134 :: [.cells g13 64 [.int x.block, intsX x.args], .cells g8 134 [V.u64 f.seen.1, V.u64 f.seen.2], .cells g28 134 (rowL f.over), .cells g3 134 VT.zs134, .cells g1 31 [.int name, blocksX bs]]) (λ g14 _ => .cells g14 134 [V.u64 (((f.at x.block.toNat).both (f.at k)).with x.block.toNat).1, V.u64 (((f.at x.block.toNat).both (f.at k)).with x.block.toNat).2] :: [.cells g13 64 [.int x.block, intsX x.args], .cells g8 134 [V.u64 f.seen.1, V.u64 f.seen.2], .cells g28 134 (rowL f.over), .cells g3 134 VT.zs134, .cells g1 31 [.int name, blocksX bs]])) [14] [14, 66, 67, 68, 69, 70, 71, 72, 73, 74, 75, 76, 77, 78] rfl VT.mix ?_
       refine Zp (Zm _) (Zm2 rfl (λ _ => (λ γ => Zf (λ _ h6 => Ze (Zn rfl (Zl h6 z0)))))) ?_
       refine Zp (Zm _) (Zm2 rfl (λ _ => (λ γ => Zf (λ _ h13 => Ze (Zn rfl (Zj VT.fa64_0 h13 z0)))))) ?_
       refine Zp (Zm _) (Zo rfl rfl ⟨(λ γ => Zw 1 0 rfl (λ _ h67 => Ze (Zn rfl (Zu 0 VT.ty3 h67 rfl rfl z0)))), (λ γ => Zw 1 0 rfl (λ _ h67 => Ze (Zn rfl (Zu 1 VT.ty3 h67 rfl rfl z0)))), trivial⟩) ?_
       refine Zp (Zm _) (Zm2 rfl (λ _ => (λ γ => Zw 0 2 rfl (λ _ h66 => Zw 2 0 rfl (λ _ h68 => Ze (Zn rfl (Zr2 VT.sl132 h66 h68 (by omega) (by omega) z0))))))) ?_
       refine Zp (Zm _) (Zo rfl rfl ⟨(λ γ => Zw 3 0 rfl (λ _ h69 => Ze (Zn rfl (Ze3 2 x.block.toNat VT.ty134 h69 (by simp) rfl (rowL_nil _) (sets_fit _) (at_setV (by omega)) z0)))), (λ γ => Zw 3 0 rfl (λ _ h69 => Ze (Zn rfl (Ze3 3 x.block.toNat VT.ty134 h69 (by simp) rfl (rowL_nil _) (sets_fit _) (at_setV (by omega)) z0)))), trivial⟩) ?_
       refine Zp (Zm _) (Zm2 rfl (λ _ => (λ γ => Zf (λ _ h6 => Ze (Zn rfl (Zl h6 z0)))))) ?_
       refine Zp (Zm _) (Zm2 rfl (λ _ => (λ γ => Zf (λ _ h10 => Ze (Zn rfl (Zl h10 z0)))))) ?_
       refine Zp (Zm _) (Zm2 rfl (λ _ => (λ γ => Zw 5 1 rfl (λ _ h71 => Zw 6 0 rfl (λ _ h72 => Ze (Zn rfl (Zr2 VT.sl132 h71 h72 (by omega) (by omega) z0))))))) ?_
       refine Zp (Zm _) (Zo rfl rfl ⟨(λ γ => Zw 7 0 rfl (λ _ h73 => Ze (Zn rfl (Ze3 2 k VT.ty134 h73 (by simp) rfl (rowL_nil _) (sets_fit _) (at_setV (by omega)) z0)))), (λ γ => Zw 7 0 rfl (λ _ h73 => Ze (Zn rfl (Ze3 3 k VT.ty134 h73 (by simp) rfl (rowL_nil _) (sets_fit _) (at_setV (by omega)) z0)))), trivial⟩) ?_
       refine Zp (Zm _) (Zm2 rfl (λ _ => (λ γ => Zw 4 4 rfl (λ _ h70 => Zw 8 0 rfl (λ _ h74 => Ze (Zn rfl (Zx1 [.tmp 70, .tmp 74] rfl (Zp2 h70 (Zp2 h74 Zq2)) VT.en101 (both_c (f.at x.block.toNat) (f.at k)) z0))))))) ?_
       refine Zp (Zm _) (Zm2 rfl (λ _ => (λ γ => Zf (λ _ h13 => Ze (Zn rfl (Zj VT.fa64_0 h13 z0)))))) ?_
       refine Zp (Zm _) (Zo rfl rfl ⟨(λ γ => Zw 10 0 rfl (λ _ h76 => Ze (Zn rfl (Zu 0 VT.ty3 h76 rfl rfl z0)))), (λ γ => Zw 10 0 rfl (λ _ h76 => Ze (Zn rfl (Zu 1 VT.ty3 h76 rfl rfl z0)))), trivial⟩) ?_
       refine Zp (Zm _) (Zm2 rfl (λ _ => (λ γ => Zw 9 2 rfl (λ _ h75 => Zw 11 0 rfl (λ _ h77 => Ze (Zn rfl (Zx1 [.tmp 75, .tmp 77] rfl (Zp2 h75 (Zp2 h77 Zq2)) VT.en100 (with_c ((f.at x.block.toNat).both (f.at k)) x.block (by omega) (by omega)) z0))))))) ?_
       refine Zp (Zw2 (λ g14 => .ptr g14 0)) (Zo2 0 rfl (λ γ => Ze (Zn rfl (Zb2 VT.zr134 _ rfl rfl (λ g14 => ⟨g14, ⟨g14, rfl, rfl⟩, rfl⟩))))) ?_
       refine Zp Za3 (Zo2 1 rfl (λ γ => Zw 13 0 rfl (λ _ h14 => Zw 12 1 rfl (λ _ h78 => Ze (Zx2 h14 (λ e14 => Zn rfl (Zx 0 VT.ty134 e14 h78 rfl rfl rfl ⟨default, trivial, rfl⟩))))))) ?_
       refine DrawP_nil (λ γ => Zw 13 1 rfl (λ r14 h14 => Ze ?_))
       have e14 : r14 = some _ := Zd3 h14
       subst e14
       clear h14
       refine Zi ?_
       let g14 : Nat := γ 0
       refine Zb ?_
       rcases Bool.eq_false_or_eq_true ((!(((((f.at x.block.toNat).both (f.at k)).with x.block.toNat)).1 == (f.at x.block.toNat).1 && ((((f.at x.block.toNat).both (f.at k)).with x.block.toNat)).2 == (f.at x.block.toNat).2))) with hq86 | hq86
       .
        refine VW_drawR (G := Unit) [([], [14], []), ([], [6], []), ([], [13], []), ([2], [81], []), ([3, 2, 1], [80, 82], []), ([4, 3, 2, 1], [83], []), (dn 6, [79, 84], []), (dn 7, [85], []), (dn 8, [8, 86], []), (dn 8, [13, 86], []), ([9, 7, 6, 5, 4, 3, 2, 1, 0], [88, 86], []), (dn 11, [87, 89, 86], []), (dn 12, [90, 86], []), (dn 13, [86, 91], [])] [] (constSt _) [92] [79, 80, 81, 82, 83, 84, 85, 86, 87, 88, 89, 90, 91, 92] rfl VT.mix ?_
        refine ZA (λ γ => Zf (λ _ h14 => Ze (Zn rfl (Zv 0 VT.ty134 h14 rfl rfl z0)))) ?_
        refine ZA (λ γ => Zf (λ _ h6 => Ze (Zn rfl (Zl h6 z0)))) ?_
        refine ZA (λ γ => Zf (λ _ h13 => Ze (Zn rfl (Zj VT.fa64_0 h13 z0)))) ?_
        refine ZA (λ γ => Zw 2 0 rfl (λ _ h81 => Ze (Zn rfl (Zu 1 VT.ty3 h81 rfl rfl z0)))) ?_
        refine ZA (λ γ => Zw 1 2 rfl (λ _ h80 => Zw 3 0 rfl (λ _ h82 => Ze (Zn rfl (Zr2 VT.sl132 h80 h82 (by omega) (by omega) z0))))) ?_
        refine ZA (λ γ => Zw 4 0 rfl (λ _ h83 => Ze (Zn rfl (Ze3 3 x.block.toNat VT.ty134 h83 (by simp) rfl (rowL_nil _) (sets_fit _) (at_setV (by omega)) z0)))) ?_
        refine ZA (λ γ => Zw 0 5 rfl (λ _ h79 => Zw 5 0 rfl (λ _ h84 => Ze (Zn rfl (V_neSet Tryz.underlying134 Tryz.underlying126 VT.se134 (by kernel_rfl) h79 h84 z0))))) ?_
        refine ZA (λ γ => Zw 6 0 rfl (λ _ h85 => Ze (Zn rfl (Zl h85 z0)))) ?_
        refine ZA (λ γ => Zf (λ _ h8 => Zw 7 0 rfl (λ _ h86 => Ze (Zy2 (Zr rfl rfl h86 hq86) z0)))) ?_
        refine ZA (λ γ => Zf (λ _ h13 => Zw 7 1 rfl (λ _ h86 => Ze (Zy2 (Zr rfl rfl h86 hq86) z0)))) ?_
        refine ZA (λ γ => Zw 9 0 rfl (λ _ h88 => Zw 7 2 rfl (λ _ h86 => Ze (Zy2 (Zr rfl rfl h86 hq86) z0)))) ?_
        refine ZA (λ γ => Zw 8 2 rfl (λ _ h87 => Zw 10 0 rfl (λ _ h89 => Zw 7 3 rfl (λ _ h86 => Ze (Zy2 (Zr rfl rfl h86 hq86) z0))))) ?_
        refine ZA (λ γ => Zw 11 0 rfl (λ _ h90 => Zw 7 4 rfl (λ _ h86 => Ze (Zy2 (Zr rfl rfl h86 hq86) z0)))) ?_
        refine ZA (λ γ => Zw 7 5 rfl (λ _ h86 => Zw 12 0 rfl (λ _ h91 => Ze (Zn rfl (Zs1 h86 hq86 rfl z0))))) ?_
        refine DrawP_nil (λ γ => Zw 13 0 rfl (λ r92 h92 => Ze ?_))
        have e92 : r92 = some _ := h92
        subst e92
        clear h92
        refine Zi ?_
        refine Zp1 rfl rfl ?_
        have hne : (((f.at x.block.toNat).both (f.at k)).with x.block.toNat) ≠ f.at x.block.toNat := λ e => by rw [e] at hq86; simp at hq86
        have hde : domEdge k f x = ⟨f.over.set x.block.toNat (((f.at x.block.toNat).both (f.at k)).with x.block.toNat), f.seen.with x.block.toNat, true⟩ := by unfold domEdge; exact if_pos (.inl hne)
        refine VW_drawR (G := Unit) [([], [6], []), ([], [13], []), ([1], [94], []), ([], [14], []), ([], [8], []), ([], [13], []), ([5], [98], []), ([6, 5, 4], [97, 99], []), (dn 8, [93, 95], []), (dn 9, [101, 96], []), (dn 10, [8, 100], []), (dn 11, [], [])] [9, 10] (twoSt _ (λ _ => [.cells g14 134 [V.u64 (((f.at x.block.toNat).both (f.at k)).with x.block.toNat).1, V.u64 (((f.at x.block.toNat).both (f.at k)).with x.block.toNat).2], .cells g13 64 [.int x.block, intsX x.args], .cells g8 134 [V.u64 f.seen.1, V.u64 f.seen.2], .cells g28 134 (((f.over.map setV).set x.block.toNat (.agg [V.u64 (((f.at x.block.toNat).both (f.at k)).with x.block.toNat).1, V.u64 (((f.at x.block.toNat).both (f.at k)).with x.block.toNat).2])).flatMap V.leaves ++ []), .cells g3 134 VT.zs134, .cells g1 31 [.int name, blocksX bs]]) (λ _ _ => [.cells g14 134 [V.u64 (((f.at x.block.toNat).both (f.at k)).with x.block.toNat).1, V.u64 (((f.at x.block.toNat).both (f.at k)).with x.block.toNat).2], .cells g13 64 [.int x.block, intsX x.args], .cells g8 134 [V.u64 (f.seen.with x.block.toNat).1, V.u64 (f.seen.with x.block.toNat).2], .cells g28 134 (((f.over.map setV).set x.block.toNat (.agg [V.u64 (((f.at x.block.toNat).both (f.at k)).with x.block.toNat).1, V.u64 (((f.at x.block.toNat).both (f.at k)).with x.block.toNat).2])).flatMap V.leaves ++ []), .cells g3 134 VT.zs134, .cells g1 31 [.int name, blocksX bs]])) [9] [9, 93, 94, 95, 96, 97, 98, 99, 100, 101] rfl VT.mix ?_
        refine Zp (Zm _) (Zo rfl rfl ⟨(λ γ => Zf (λ _ h6 => Ze (Zn rfl (Zl h6 z0)))), trivial⟩) ?_
        refine Zp (Zm _) (Zo rfl rfl ⟨(λ γ => Zf (λ _ h13 => Ze (Zn rfl (Zj VT.fa64_0 h13 z0)))), trivial⟩) ?_
        refine Zp (Zm _) (Zo rfl rfl ⟨(λ γ => Zw 1 0 rfl (λ _ h94 => Ze (Zn rfl (Zu 1 VT.ty3 h94 rfl rfl z0)))), trivial⟩) ?_
        refine Zp (Zm _) (Zo rfl rfl ⟨(λ γ => Zf (λ _ h14 => Ze (Zn rfl (Zv 0 VT.ty134 h14 rfl rfl z0)))), trivial⟩) ?_
        refine Zp (Zm _) (Zo rfl rfl ⟨(λ γ => Zf (λ _ h8 => Ze (Zn rfl (Zv 2 VT.ty134 h8 rfl rfl z0)))), trivial⟩) ?_
        refine Zp (Zm _) (Zo rfl rfl ⟨(λ γ => Zf (λ _ h13 => Ze (Zn rfl (Zj VT.fa64_0 h13 z0)))), trivial⟩) ?_
        refine Zp (Zm _) (Zo rfl rfl ⟨(λ γ => Zw 5 0 rfl (λ _ h98 => Ze (Zn rfl (Zu 1 VT.ty3 h98 rfl rfl z0)))), trivial⟩) ?_
        refine Zp (Zm _) (Zo rfl rfl ⟨(λ γ => Zw 4 2 rfl (λ _ h97 => Zw 6 0 rfl (λ _ h99 => Ze (Zn rfl (Zx1 [.tmp 97, .tmp 99] rfl (Zp2 h97 (Zp2 h99 Zq2)) VT.en100 (with_c f.seen x.block (by omega) (by omega)) z0))))), trivial⟩) ?_
        refine Zp (Zm _) (Zo rfl rfl ⟨(λ γ => Zw 0 7 rfl (λ _ h93 => Zw 2 5 rfl (λ _ h95 => Ze (Zn rfl (Zr2 VT.sl132 h93 h95 (by omega) (by omega) z0))))), trivial⟩) ?_
        refine Zp Za3 (Zo2 0 rfl (λ γ => Zw 8 0 rfl (λ _ h101 => Zw 3 5 rfl (λ _ h96 => Ze (Zn rfl (Zg3 3 x.block.toNat VT.ty134 h101 (by simp) h96 rfl rfl (rowL_nil _) (sets_fit _) (by rw [Ya]; omega) ⟨default, trivial, rfl⟩)))))) ?_
        refine Zp Za3 (Zo2 1 rfl (λ γ => Zf (λ _ h8 => Zw 7 2 rfl (λ _ h100 => Ze (Zn rfl (Zx 2 VT.ty134 h8 h100 rfl rfl rfl ⟨default, trivial, rfl⟩)))))) ?_
        refine Zp (Zm _) (Zo rfl rfl ⟨(λ γ => Ze (Zn rfl (Zk rfl z0))), trivial⟩) ?_
        refine DrawP_nil (λ γ => Zw 11 0 rfl (λ r9 h9 => Ze ?_))
        have e9 : r9 = some _ := h9
        subst e9
        clear h9
        refine Zb1 (Zi (Zd ?_))
        refine Zc (Zh2 rfl rfl (by omega) ?_)
        refine Zc (Zl rfl (Za (Zi ?_)))
        exact ⟨(j + 1, domEdge k f x), (by (try simp only []); omega), ⟨by omega, by rw [<- hfo, drop_cons hx, Ye], (domEdge_w hokf (by omega) hx1 hx2).1⟩, ⟨rfl, rfl, rfl, rfl, (by rw [hde]; first | done | rfl), rfl, rfl, rfl, rfl, rfl, rfl, rfl, trivial⟩, (Dd (Dd (Drops.keepE (by rw [hde]) (Drops.keepE (by rw [hde]; first | done | rfl | exact congrArg (Own.cells g28 134) (rowL_set _ _ _)) (Dk (Dk (Zt2 _)))))))⟩
       .
        refine VW_drawR (G := Unit) [([], [14], []), ([], [6], []), ([], [13], []), ([2], [81], []), ([3, 2, 1], [80, 82], []), ([4, 3, 2, 1], [83], []), (dn 6, [79, 84], []), (dn 7, [85], []), (dn 8, [8, 86], []), (dn 8, [13, 86], []), ([9, 7, 6, 5, 4, 3, 2, 1, 0], [88, 86], []), (dn 11, [87, 89, 86], []), (dn 12, [90, 86], []), (dn 13, [86, 91], [])] [] (constSt _) [92] [79, 80, 81, 82, 83, 84, 85, 86, 87, 88, 89, 90, 91, 92] rfl VT.mix ?_
        refine ZA (λ γ => Zf (λ _ h14 => Ze (Zn rfl (Zv 0 VT.ty134 h14 rfl rfl z0)))) ?_
        refine ZA (λ γ => Zf (λ _ h6 => Ze (Zn rfl (Zl h6 z0)))) ?_
        refine ZA (λ γ => Zf (λ _ h13 => Ze (Zn rfl (Zj VT.fa64_0 h13 z0)))) ?_
        refine ZA (λ γ => Zw 2 0 rfl (λ _ h81 => Ze (Zn rfl (Zu 1 VT.ty3 h81 rfl rfl z0)))) ?_
        refine ZA (λ γ => Zw 1 2 rfl (λ _ h80 => Zw 3 0 rfl (λ _ h82 => Ze (Zn rfl (Zr2 VT.sl132 h80 h82 (by omega) (by omega) z0))))) ?_
        refine ZA (λ γ => Zw 4 0 rfl (λ _ h83 => Ze (Zn rfl (Ze3 3 x.block.toNat VT.ty134 h83 (by simp) rfl (rowL_nil _) (sets_fit _) (at_setV (by omega)) z0)))) ?_
        refine ZA (λ γ => Zw 0 5 rfl (λ _ h79 => Zw 5 0 rfl (λ _ h84 => Ze (Zn rfl (V_neSet Tryz.underlying134 Tryz.underlying126 VT.se134 (by kernel_rfl) h79 h84 z0))))) ?_
        refine ZA (λ γ => Zw 6 0 rfl (λ _ h85 => Ze (Zn rfl (Zl h85 z0)))) ?_
        refine ZA (λ γ => Zf (λ _ h8 => Zw 7 0 rfl (λ _ h86 => Ze (Zn (Zg rfl rfl h86 hq86) (Zv 2 VT.ty134 h8 rfl rfl z0))))) ?_
        refine ZA (λ γ => Zf (λ _ h13 => Zw 7 1 rfl (λ _ h86 => Ze (Zn (Zg rfl rfl h86 hq86) (Zj VT.fa64_0 h13 z0))))) ?_
        refine ZA (λ γ => Zw 9 0 rfl (λ _ h88 => Zw 7 2 rfl (λ _ h86 => Ze (Zn (Zg rfl rfl h86 hq86) (Zu 1 VT.ty3 h88 rfl rfl z0))))) ?_
        refine ZA (λ γ => Zw 8 2 rfl (λ _ h87 => Zw 10 0 rfl (λ _ h89 => Zw 7 3 rfl (λ _ h86 => Ze (Zn (Zg rfl rfl h86 hq86) (Zx1 [.tmp 87, .tmp 89] rfl (Zp2 h87 (Zp2 h89 Zq2)) VT.en81 (has_c f.seen x.block (by omega) (by omega)) z0)))))) ?_
        refine ZA (λ γ => Zw 11 0 rfl (λ _ h90 => Zw 7 4 rfl (λ _ h86 => Ze (Zn (Zg rfl rfl h86 hq86) (Zl2 h90 z0))))) ?_
        refine ZA (λ γ => Zw 7 5 rfl (λ _ h86 => Zw 12 0 rfl (λ _ h91 => Ze (Zn rfl (Zt1 h86 hq86 h91 z0))))) ?_
        refine DrawP_nil (λ γ => Zw 13 0 rfl (λ r92 h92 => Ze ?_))
        have e92 : r92 = some _ := h92
        subst e92
        clear h92
        refine Zi ?_
        refine Zo1 rfl (λ h92 => ?_) (λ h92 => ?_)
        .
         have hde : domEdge k f x = ⟨f.over.set x.block.toNat (((f.at x.block.toNat).both (f.at k)).with x.block.toNat), f.seen.with x.block.toNat, true⟩ := by unfold domEdge; exact if_pos (.inr h92)
         refine VW_drawR (G := Unit) [([], [6], []), ([], [13], []), ([1], [94], []), ([], [14], []), ([], [8], []), ([], [13], []), ([5], [98], []), ([6, 5, 4], [97, 99], []), (dn 8, [93, 95], []), (dn 9, [101, 96], []), (dn 10, [8, 100], []), (dn 11, [], [])] [9, 10] (twoSt _ (λ _ => [.cells g14 134 [V.u64 (((f.at x.block.toNat).both (f.at k)).with x.block.toNat).1, V.u64 (((f.at x.block.toNat).both (f.at k)).with x.block.toNat).2], .cells g13 64 [.int x.block, intsX x.args], .cells g8 134 [V.u64 f.seen.1, V.u64 f.seen.2], .cells g28 134 (((f.over.map setV).set x.block.toNat (.agg [V.u64 (((f.at x.block.toNat).both (f.at k)).with x.block.toNat).1, V.u64 (((f.at x.block.toNat).both (f.at k)).with x.block.toNat).2])).flatMap V.leaves ++ []), .cells g3 134 VT.zs134, .cells g1 31 [.int name, blocksX bs]]) (λ _ _ => [.cells g14 134 [V.u64 (((f.at x.block.toNat).both (f.at k)).with x.block.toNat).1, V.u64 (((f.at x.block.toNat).both (f.at k)).with x.block.toNat).2], .cells g13 64 [.int x.block, intsX x.args], .cells g8 134 [V.u64 (f.seen.with x.block.toNat).1, V.u64 (f.seen.with x.block.toNat).2], .cells g28 134 (((f.over.map setV).set x.block.toNat (.agg [V.u64 (((f.at x.block.toNat).both (f.at k)).with x.block.toNat).1, V.u64 (((f.at x.block.toNat).both (f.at k)).with x.block.toNat).2])).flatMap V.leaves ++ []), .cells g3 134 VT.zs134, .cells g1 31 [.int name, blocksX bs]])) [9] [9, 93, 94, 95, 96, 97, 98, 99, 100, 101] rfl VT.mix ?_
         refine Zp (Zm _) (Zo rfl rfl ⟨(λ γ => Zf (λ _ h6 => Ze (Zn rfl (Zl h6 z0)))), trivial⟩) ?_
         refine Zp (Zm _) (Zo rfl rfl ⟨(λ γ => Zf (λ _ h13 => Ze (Zn rfl (Zj VT.fa64_0 h13 z0)))), trivial⟩) ?_
         refine Zp (Zm _) (Zo rfl rfl ⟨(λ γ => Zw 1 0 rfl (λ _ h94 => Ze (Zn rfl (Zu 1 VT.ty3 h94 rfl rfl z0)))), trivial⟩) ?_
         refine Zp (Zm _) (Zo rfl rfl ⟨(λ γ => Zf (λ _ h14 => Ze (Zn rfl (Zv 0 VT.ty134 h14 rfl rfl z0)))), trivial⟩) ?_
         refine Zp (Zm _) (Zo rfl rfl ⟨(λ γ => Zf (λ _ h8 => Ze (Zn rfl (Zv 2 VT.ty134 h8 rfl rfl z0)))), trivial⟩) ?_
         refine Zp (Zm _) (Zo rfl rfl ⟨(λ γ => Zf (λ _ h13 => Ze (Zn rfl (Zj VT.fa64_0 h13 z0)))), trivial⟩) ?_
         refine Zp (Zm _) (Zo rfl rfl ⟨(λ γ => Zw 5 0 rfl (λ _ h98 => Ze (Zn rfl (Zu 1 VT.ty3 h98 rfl rfl z0)))), trivial⟩) ?_
         refine Zp (Zm _) (Zo rfl rfl ⟨(λ γ => Zw 4 2 rfl (λ _ h97 => Zw 6 0 rfl (λ _ h99 => Ze (Zn rfl (Zx1 [.tmp 97, .tmp 99] rfl (Zp2 h97 (Zp2 h99 Zq2)) VT.en100 (with_c f.seen x.block (by omega) (by omega)) z0))))), trivial⟩) ?_
         refine Zp (Zm _) (Zo rfl rfl ⟨(λ γ => Zw 0 7 rfl (λ _ h93 => Zw 2 5 rfl (λ _ h95 => Ze (Zn rfl (Zr2 VT.sl132 h93 h95 (by omega) (by omega) z0))))), trivial⟩) ?_
         refine Zp Za3 (Zo2 0 rfl (λ γ => Zw 8 0 rfl (λ _ h101 => Zw 3 5 rfl (λ _ h96 => Ze (Zn rfl (Zg3 3 x.block.toNat VT.ty134 h101 (by simp) h96 rfl rfl (rowL_nil _) (sets_fit _) (by rw [Ya]; omega) ⟨default, trivial, rfl⟩)))))) ?_
         refine Zp Za3 (Zo2 1 rfl (λ γ => Zf (λ _ h8 => Zw 7 2 rfl (λ _ h100 => Ze (Zn rfl (Zx 2 VT.ty134 h8 h100 rfl rfl rfl ⟨default, trivial, rfl⟩)))))) ?_
         refine Zp (Zm _) (Zo rfl rfl ⟨(λ γ => Ze (Zn rfl (Zk rfl z0))), trivial⟩) ?_
         refine DrawP_nil (λ γ => Zw 11 0 rfl (λ r9 h9 => Ze ?_))
         have e9 : r9 = some _ := h9
         subst e9
         clear h9
         refine Zb1 (Zi (Zd ?_))
         refine Zc (Zh2 rfl rfl (by omega) ?_)
         refine Zc (Zl rfl (Za (Zi ?_)))
         exact ⟨(j + 1, domEdge k f x), (by (try simp only []); omega), ⟨by omega, by rw [<- hfo, drop_cons hx, Ye], (domEdge_w hokf (by omega) hx1 hx2).1⟩, ⟨rfl, rfl, rfl, rfl, (by rw [hde]; first | done | rfl), rfl, rfl, rfl, rfl, rfl, rfl, rfl, trivial⟩, (Dd (Dd (Drops.keepE (by rw [hde]) (Drops.keepE (by rw [hde]; first | done | rfl | exact congrArg (Own.cells g28 134) (rowL_set _ _ _)) (Dk (Dk (Zt2 _)))))))⟩
        .
         have heq : (((f.at x.block.toNat).both (f.at k)).with x.block.toNat) = f.at x.block.toNat := by simp at hq86; exact Prod.ext hq86.1 hq86.2
         have hde : domEdge k f x = f := by unfold domEdge; exact if_neg (λ h => h.elim (λ h => h heq) (λ h => by rw [h92] at h; cases h))
         refine Zi1 (Zb1 (Zi (Zd ?_)))
         refine Zc (Zh2 rfl rfl (by omega) ?_)
         refine Zc (Zl rfl (Za (Zi ?_)))
         exact ⟨(j + 1, domEdge k f x), (by (try simp only []); omega), ⟨by omega, by rw [<- hfo, drop_cons hx, Ye], (domEdge_w hokf (by omega) hx1 hx2).1⟩, ⟨rfl, rfl, rfl, rfl, (by rw [hde]; first | done | rfl), rfl, rfl, rfl, rfl, rfl, rfl, rfl, trivial⟩, (Dd (Dd (Drops.keepE (by rw [hde]) (Drops.keepE (by rw [hde]; first | done | rfl | exact congrArg (Own.cells g28 134) (rowL_set _ _ _)) (Dk (Dk (Zt2 _)))))))⟩
      .
       have hje : j = b.term.to.length := by omega
       subst hje
       rw [Yc, List.foldl_nil] at hfo
       have hskip := hfo.symm
       refine Zt (Ze1 (Ze1 (Zc1 (Zb1 (Zi (Zd ?_))))))
       refine Zc (Zh2 rfl rfl (by omega) ?_)
       refine Zc (Zl rfl (Za (Zi ?_)))
       exact ⟨(k + 1, domBlock c k b), (by (try simp only []); omega), ⟨by omega, by rw [<- hps, drop_cons hb, domPass], (block_w (by omega) hokc (hE b (Yb hb))).1⟩, ⟨rfl, rfl, rfl, rfl, (by first | rfl | rw [hskip]; rfl), rfl, rfl, rfl, trivial⟩, (Drops.keepE (by first | rfl | rw [hskip]) (Drops.keepE (by first | rfl | rw [hskip]) (Dk (Dk (Zt2 _)))))⟩
    .
     have hke : k = bs.length := by omega
     subst hke
     rw [Yc, domPass] at hps
     subst hps
     refine Zt (Ze1 (Ze1 (Zc1 (Zb1 (Zi ?_)))))
     exact ⟨(m', domPass 0 bs { d with again := false }), (by (try simp only []); omega), ⟨hit', hok', hw'⟩, ⟨rfl, rfl, rfl, rfl, rfl, trivial⟩, (Dk (Dk (Dk (Dk (Zt2 _)))))⟩
   .
    have hdf : domF bs = d := by rw [<- hit]; cases m <;> simp [domIter, h45]
    refine Zt (Ze1 (Ze1 (Zc1 (Zi ?_))))
    refine VW_freeze 1 (q := 6) (rest := []) (d.over.map setV) rfl rfl (rowL_nil _) (by simp [hok.len]) (Nat.le_refl _) (by simp only [maxLen]; omega) (sets_fits _) ?_
    refine Zb ?_
    refine VW_drawR (G := Unit) [([], [6], []), ([], [8], []), ([0], [104], []), ([2, 1, 0], [3, 105], [])] [3] (setSt _ 1 (λ _ => .cells g3 134 [V.u64 d.seen.1, V.u64 d.seen.2])) [2] [2, 104, 105] rfl VT.mix ?_
    refine Zp (Zm _) (Zo rfl rfl ⟨(λ γ => Zf (λ _ h6 => Ze (Zn rfl (Zl h6 z0)))), trivial⟩) ?_
    refine Zp (Zm _) (Zo rfl rfl ⟨(λ γ => Zf (λ _ h8 => Ze (Zn rfl (Zv 0 VT.ty134 h8 rfl rfl z0)))), trivial⟩) ?_
    refine Zp (Zm _) (Zo rfl rfl ⟨(λ γ => Zw 0 1 rfl (λ _ h104 => Ze (Zn rfl (Zk h104 z0)))), trivial⟩) ?_
    refine Zp Za3 (Zn2 rfl (λ γ => Zf (λ _ h3 => Zw 1 1 rfl (λ _ h105 => Ze (Zn rfl (Zx 1 VT.ty134 h3 h105 rfl rfl rfl ⟨default, trivial, rfl⟩)))))) ?_
    refine DrawP_nil (λ γ => Zw 2 1 rfl (λ r2 h2 => Ze ?_))
    have e2 : r2 = some _ := h2
    subst e2
    clear h2
    refine Zi (Zf1 ?_)
    refine Zh1 rfl rfl (.cons (.tmp rfl) (.cons (.agg (i := 1) VT.ty134 rfl rfl rfl) (.nil))) ?_
    rw [hdf]
    rfl
theorem fine_c (gc gm c1 c2 c3 c4 c5 : Nat) (name : Int) (bs : List SBlock) (d : Defs) (o : Dom) (k : Nat) (a v : Int) (hk : k < o.over.length) (hn : o.over.length <= 128) (hd : ∀ p, dget d v = some p -> 0 <= p.1 /\ p.1 < 128) : VKeep Tryz.prog 80 [.int v, .ptr c1 0, .ptr c2 0, .ptr c3 0, .ptr c4 0, .ptr c5 0] [.cells c1 88 [.ptr gc 0], .cells c2 3 [.int k], .cells c3 3 [.int a], .cells c4 132 [setsX o.over], .cells c5 134 [V.u64 o.seen.1, V.u64 o.seen.2], .cells gc 91 [.int name, blocksX bs, .raw (.map (some gm))], .map gm (kmap kint (encD d))] (.bool (fineF d o k a v)) := by
 refine VKeep.drops ?_
 have hr := fineF.eq_def d o k a v
 refine V_start (nt := 53) Tryz.func80 rfl rfl rfl ?_
 refine Zb (Zd (Zc (Zk rfl (Za (Zi (Zb (Zd (Zc (Zu 0 VT.ty88 rfl rfl rfl (Zc (Zv1 rfl (Zc (Zj VT.fa91_1 rfl (Zc (Zu 5 VT.ty89 rfl rfl rfl (Zc (Zl rfl ?_)))))))))))))))))
 refine Zc (V_lookupDOk 6 (.agg VT.zs131) (λ m => ⟨rfl, _, rfl, by simp [Go.VL.RepL, VT.zs131, Rep]⟩) Tryz.underlying89 (key_int Tryz.underlying3) VT.zr131 rfl rfl rfl ?_)
 refine Zc (Zl rfl ?_)
 refine Zc (Zu2 (Zg2 rfl rfl ⟨rfl, rfl⟩) (V.le.of_eq (kget_or d v)) ?_)
 refine Zc (Zu2 (Zg2 rfl rfl ⟨rfl, rfl⟩) (V.le.of_eq (congrArg V.bool (kget_some d v))) ?_)
 refine Zc (Zb2 VT.zr131 _ rfl rfl (λ g8 => ?_))
 refine Zc (Zx 0 VT.ty131 rfl rfl rfl rfl rfl (Zc (Zk rfl (Za (Zi (Zb ?_))))))
 rcases Bool.eq_false_or_eq_true ((dget d v).isSome) with hq20 | hq20
 .
  obtain ⟨p, hp⟩ := Option.isSome_iff_exists.1 hq20
  have hpd := hd p hp
  have hpp : ((dget d v).getD (0, 0)) = p := by rw [hp]; rfl
  rw [hp] at hr
  rcases Bool.eq_false_or_eq_true ((((dget d v).getD (0, 0)).1 == (k : Int))) with hq25 | hq25
  .
   rcases Bool.eq_false_or_eq_true ((decide (((dget d v).getD (0, 0)).2 <= a))) with hq31 | hq31
   .
    refine VW_drawR (G := Unit) [([], [9], []), ([0], [19], []), ([1, 0], [8, 20], []), ([2, 1, 0], [21, 20], []), ([1, 0], [2, 20], []), (dn 5, [22, 23, 20], []), (dn 6, [24, 20], []), (dn 7, [8, 25], []), (dn 8, [26, 25], []), (dn 7, [3, 25], []), (dn 10, [27, 28, 25], []), (dn 11, [25, 29, 20], []), (dn 12, [30, 20], []), (dn 13, [8, 31], []), (dn 14, [32, 31], []), (dn 13, [2, 31], []), (dn 16, [33, 34, 31], []), (dn 17, [35, 31], []), (dn 18, [4, 36], []), (dn 18, [2, 36], []), (dn 20, [37, 38, 36], []), (dn 21, [39, 36], []), (dn 18, [8, 36], []), ([22, 17, 16, 15, 14, 13, 12, 11, 10, 9, 8, 7, 6, 5, 4, 3, 2, 1, 0], [41, 36], []), (dn 24, [40, 42, 36], []), (dn 25, [36, 43, 31], []), (dn 26, [31, 44, 20], []), (dn 27, [45, 20], []), (dn 28, [5, 46], []), (dn 28, [2, 46], []), (dn 30, [47, 48, 46], []), (dn 31, [49, 46], []), (dn 32, [46, 50, 20], []), (dn 33, [20, 51], []), (dn 34, [52], [])] [] (constSt _) [7] [7, 19, 20, 21, 22, 23, 24, 25, 26, 27, 28, 29, 30, 31, 32, 33, 34, 35, 36, 37, 38, 39, 40, 41, 42, 43, 44, 45, 46, 47, 48, 49, 50, 51, 52] rfl VT.mix ?_
    refine ZA (λ γ => Zf (λ _ h9 => Ze (Zn rfl (Zl h9 z0)))) ?_
    refine ZA (λ γ => Zw 0 0 rfl (λ _ h19 => Ze (Zn rfl (Zl h19 z0)))) ?_
    refine ZA (λ γ => Zf (λ _ h8 => Zw 1 0 rfl (λ _ h20 => Ze (Zn (Zg rfl rfl h20 hq20) (Zj VT.fa131_0 h8 z0))))) ?_
    refine ZA (λ γ => Zw 2 0 rfl (λ _ h21 => Zw 1 1 rfl (λ _ h20 => Ze (Zn (Zg rfl rfl h20 hq20) (Zu 0 VT.ty3 h21 rfl rfl z0))))) ?_
    refine ZA (λ γ => Zf (λ _ h2 => Zw 1 2 rfl (λ _ h20 => Ze (Zn (Zg rfl rfl h20 hq20) (Zu 2 VT.ty3 h2 rfl rfl z0))))) ?_
    refine ZA (λ γ => Zw 3 1 rfl (λ _ h22 => Zw 4 0 rfl (λ _ h23 => Zw 1 3 rfl (λ _ h20 => Ze (Zn (Zg rfl rfl h20 hq20) (Zj1 h22 h23 rfl z0)))))) ?_
    refine ZA (λ γ => Zw 5 0 rfl (λ _ h24 => Zw 1 4 rfl (λ _ h20 => Ze (Zn (Zg rfl rfl h20 hq20) (Zl h24 z0))))) ?_
    refine ZA (λ γ => Zf (λ _ h8 => Zw 6 0 rfl (λ _ h25 => Ze (Zn (Zg rfl rfl h25 hq25) (Zj VT.fa131_1 h8 z0))))) ?_
    refine ZA (λ γ => Zw 7 0 rfl (λ _ h26 => Zw 6 1 rfl (λ _ h25 => Ze (Zn (Zg rfl rfl h25 hq25) (Zu 0 VT.ty3 h26 rfl rfl z0))))) ?_
    refine ZA (λ γ => Zf (λ _ h3 => Zw 6 2 rfl (λ _ h25 => Ze (Zn (Zg rfl rfl h25 hq25) (Zu 3 VT.ty3 h3 rfl rfl z0))))) ?_
    refine ZA (λ γ => Zw 8 1 rfl (λ _ h27 => Zw 9 0 rfl (λ _ h28 => Zw 6 3 rfl (λ _ h25 => Ze (Zn (Zg rfl rfl h25 hq25) (Zj1 h27 h28 rfl z0)))))) ?_
    refine ZA (λ γ => Zw 6 4 rfl (λ _ h25 => Zw 10 0 rfl (λ _ h29 => Zw 1 9 rfl (λ _ h20 => Ze (Zn (Zg rfl rfl h20 hq20) (Zs1 h25 hq25 h29 z0)))))) ?_
    refine ZA (λ γ => Zw 11 0 rfl (λ _ h30 => Zw 1 10 rfl (λ _ h20 => Ze (Zn (Zg rfl rfl h20 hq20) (Zl h30 z0))))) ?_
    refine ZA (λ γ => Zf (λ _ h8 => Zw 12 0 rfl (λ _ h31 => Ze (Zy2 (Zr rfl rfl h31 hq31) z0)))) ?_
    refine ZA (λ γ => Zw 13 0 rfl (λ _ h32 => Zw 12 1 rfl (λ _ h31 => Ze (Zy2 (Zr rfl rfl h31 hq31) z0)))) ?_
    refine ZA (λ γ => Zf (λ _ h2 => Zw 12 2 rfl (λ _ h31 => Ze (Zy2 (Zr rfl rfl h31 hq31) z0)))) ?_
    refine ZA (λ γ => Zw 14 1 rfl (λ _ h33 => Zw 15 0 rfl (λ _ h34 => Zw 12 3 rfl (λ _ h31 => Ze (Zy2 (Zr rfl rfl h31 hq31) z0))))) ?_
    refine ZA (λ γ => Zw 16 0 rfl (λ _ h35 => Zw 12 4 rfl (λ _ h31 => Ze (Zy2 (Zr rfl rfl h31 hq31) z0)))) ?_
    refine ZA (λ γ => Zf (λ _ h4 => Zw 17 0 rfl (λ _ h36 => Ze (Zz2 rfl rfl h36 z0)))) ?_
    refine ZA (λ γ => Zf (λ _ h2 => Zw 17 1 rfl (λ _ h36 => Ze (Zz2 rfl rfl h36 z0)))) ?_
    refine ZA (λ γ => Zw 18 1 rfl (λ _ h37 => Zw 19 0 rfl (λ _ h38 => Zw 17 2 rfl (λ _ h36 => Ze (Zz2 rfl rfl h36 z0))))) ?_
    refine ZA (λ γ => Zw 20 0 rfl (λ _ h39 => Zw 17 3 rfl (λ _ h36 => Ze (Zz2 rfl rfl h36 z0)))) ?_
    refine ZA (λ γ => Zf (λ _ h8 => Zw 17 4 rfl (λ _ h36 => Ze (Zz2 rfl rfl h36 z0)))) ?_
    refine ZA (λ γ => Zw 22 0 rfl (λ _ h41 => Zw 17 5 rfl (λ _ h36 => Ze (Zz2 rfl rfl h36 z0)))) ?_
    refine ZA (λ γ => Zw 21 2 rfl (λ _ h40 => Zw 23 0 rfl (λ _ h42 => Zw 17 6 rfl (λ _ h36 => Ze (Zz2 rfl rfl h36 z0))))) ?_
    refine ZA (λ γ => Zw 17 7 rfl (λ _ h36 => Zw 24 0 rfl (λ _ h43 => Zw 12 12 rfl (λ _ h31 => Ze (Zy2 (Zr rfl rfl h31 hq31) z0))))) ?_
    refine ZA (λ γ => Zw 12 13 rfl (λ _ h31 => Zw 25 0 rfl (λ _ h44 => Zw 1 24 rfl (λ _ h20 => Ze (Zn (Zg rfl rfl h20 hq20) (Zs1 h31 hq31 rfl z0)))))) ?_
    refine ZA (λ γ => Zw 26 0 rfl (λ _ h45 => Zw 1 25 rfl (λ _ h20 => Ze (Zn (Zg rfl rfl h20 hq20) (Zl h45 z0))))) ?_
    refine ZA (λ γ => Zf (λ _ h5 => Zw 27 0 rfl (λ _ h46 => Ze (Zy2 (Zr rfl rfl h46 rfl) z0)))) ?_
    refine ZA (λ γ => Zf (λ _ h2 => Zw 27 1 rfl (λ _ h46 => Ze (Zy2 (Zr rfl rfl h46 rfl) z0)))) ?_
    refine ZA (λ γ => Zw 28 1 rfl (λ _ h47 => Zw 29 0 rfl (λ _ h48 => Zw 27 2 rfl (λ _ h46 => Ze (Zy2 (Zr rfl rfl h46 rfl) z0))))) ?_
    refine ZA (λ γ => Zw 30 0 rfl (λ _ h49 => Zw 27 3 rfl (λ _ h46 => Ze (Zy2 (Zr rfl rfl h46 rfl) z0)))) ?_
    refine ZA (λ γ => Zw 27 4 rfl (λ _ h46 => Zw 31 0 rfl (λ _ h50 => Zw 1 30 rfl (λ _ h20 => Ze (Zn (Zg rfl rfl h20 hq20) (Zs1 h46 rfl rfl z0)))))) ?_
    refine ZA (λ γ => Zw 1 31 rfl (λ _ h20 => Zw 32 0 rfl (λ _ h51 => Ze (Zn rfl (Zs1 h20 hq20 h51 z0))))) ?_
    refine ZA (λ γ => Zw 33 0 rfl (λ _ h52 => Ze (Zn rfl (Zk h52 z0)))) ?_
    refine DrawP_nil (λ γ => Zw 34 0 rfl (λ r7 h7 => Ze ?_))
    have e7 : r7 = some _ := h7
    subst e7
    clear h7
    refine Zi (Zf1 ?_)
    refine Zg1 rfl (.tmp rfl) ?_
    refine ⟨congrArg V.bool ?_, Dd (Zt2 _)⟩
    rw [hr]
    try rw [hpp]
    first | (simp_all; done) | (simp_all; omega) | (rw [hpp] at *; simp_all; done)
   .
    rcases Bool.eq_false_or_eq_true ((((dget d v).getD (0, 0)).1 != (k : Int))) with hq36 | hq36
    .
     rcases Bool.eq_false_or_eq_true (((o.at k).has ((dget d v).getD (0, 0)).1.toNat)) with hq46 | hq46
     .
      refine VW_drawR (G := Unit) [([], [9], []), ([0], [19], []), ([1, 0], [8, 20], []), ([2, 1, 0], [21, 20], []), ([1, 0], [2, 20], []), (dn 5, [22, 23, 20], []), (dn 6, [24, 20], []), (dn 7, [8, 25], []), (dn 8, [26, 25], []), (dn 7, [3, 25], []), (dn 10, [27, 28, 25], []), (dn 11, [25, 29, 20], []), (dn 12, [30, 20], []), (dn 13, [8, 31], []), (dn 14, [32, 31], []), (dn 13, [2, 31], []), (dn 16, [33, 34, 31], []), (dn 17, [35, 31], []), (dn 18, [4, 36], []), (dn 18, [2, 36], []), (dn 20, [37, 38, 36], []), (dn 21, [39, 36], []), (dn 18, [8, 36], []), ([22, 17, 16, 15, 14, 13, 12, 11, 10, 9, 8, 7, 6, 5, 4, 3, 2, 1, 0], [41, 36], []), (dn 24, [40, 42, 36], []), (dn 25, [36, 43, 31], []), (dn 26, [31, 44, 20], []), (dn 27, [45, 20], []), (dn 28, [5, 46], []), (dn 28, [2, 46], []), (dn 30, [47, 48, 46], []), (dn 31, [49, 46], []), (dn 32, [46, 50, 20], []), (dn 33, [20, 51], []), (dn 34, [52], [])] [] (constSt _) [7] [7, 19, 20, 21, 22, 23, 24, 25, 26, 27, 28, 29, 30, 31, 32, 33, 34, 35, 36, 37, 38, 39, 40, 41, 42, 43, 44, 45, 46, 47, 48, 49, 50, 51, 52] rfl VT.mix ?_
      refine ZA (λ γ => Zf (λ _ h9 => Ze (Zn rfl (Zl h9 z0)))) ?_
      refine ZA (λ γ => Zw 0 0 rfl (λ _ h19 => Ze (Zn rfl (Zl h19 z0)))) ?_
      refine ZA (λ γ => Zf (λ _ h8 => Zw 1 0 rfl (λ _ h20 => Ze (Zn (Zg rfl rfl h20 hq20) (Zj VT.fa131_0 h8 z0))))) ?_
      refine ZA (λ γ => Zw 2 0 rfl (λ _ h21 => Zw 1 1 rfl (λ _ h20 => Ze (Zn (Zg rfl rfl h20 hq20) (Zu 0 VT.ty3 h21 rfl rfl z0))))) ?_
      refine ZA (λ γ => Zf (λ _ h2 => Zw 1 2 rfl (λ _ h20 => Ze (Zn (Zg rfl rfl h20 hq20) (Zu 2 VT.ty3 h2 rfl rfl z0))))) ?_
      refine ZA (λ γ => Zw 3 1 rfl (λ _ h22 => Zw 4 0 rfl (λ _ h23 => Zw 1 3 rfl (λ _ h20 => Ze (Zn (Zg rfl rfl h20 hq20) (Zj1 h22 h23 rfl z0)))))) ?_
      refine ZA (λ γ => Zw 5 0 rfl (λ _ h24 => Zw 1 4 rfl (λ _ h20 => Ze (Zn (Zg rfl rfl h20 hq20) (Zl h24 z0))))) ?_
      refine ZA (λ γ => Zf (λ _ h8 => Zw 6 0 rfl (λ _ h25 => Ze (Zn (Zg rfl rfl h25 hq25) (Zj VT.fa131_1 h8 z0))))) ?_
      refine ZA (λ γ => Zw 7 0 rfl (λ _ h26 => Zw 6 1 rfl (λ _ h25 => Ze (Zn (Zg rfl rfl h25 hq25) (Zu 0 VT.ty3 h26 rfl rfl z0))))) ?_
      refine ZA (λ γ => Zf (λ _ h3 => Zw 6 2 rfl (λ _ h25 => Ze (Zn (Zg rfl rfl h25 hq25) (Zu 3 VT.ty3 h3 rfl rfl z0))))) ?_
      refine ZA (λ γ => Zw 8 1 rfl (λ _ h27 => Zw 9 0 rfl (λ _ h28 => Zw 6 3 rfl (λ _ h25 => Ze (Zn (Zg rfl rfl h25 hq25) (Zj1 h27 h28 rfl z0)))))) ?_
      refine ZA (λ γ => Zw 6 4 rfl (λ _ h25 => Zw 10 0 rfl (λ _ h29 => Zw 1 9 rfl (λ _ h20 => Ze (Zn (Zg rfl rfl h20 hq20) (Zs1 h25 hq25 h29 z0)))))) ?_
      refine ZA (λ γ => Zw 11 0 rfl (λ _ h30 => Zw 1 10 rfl (λ _ h20 => Ze (Zn (Zg rfl rfl h20 hq20) (Zl h30 z0))))) ?_
      refine ZA (λ γ => Zf (λ _ h8 => Zw 12 0 rfl (λ _ h31 => Ze (Zn (Zg rfl rfl h31 hq31) (Zj VT.fa131_0 h8 z0))))) ?_
      refine ZA (λ γ => Zw 13 0 rfl (λ _ h32 => Zw 12 1 rfl (λ _ h31 => Ze (Zn (Zg rfl rfl h31 hq31) (Zu 0 VT.ty3 h32 rfl rfl z0))))) ?_
      refine ZA (λ γ => Zf (λ _ h2 => Zw 12 2 rfl (λ _ h31 => Ze (Zn (Zg rfl rfl h31 hq31) (Zu 2 VT.ty3 h2 rfl rfl z0))))) ?_
      refine ZA (λ γ => Zw 14 1 rfl (λ _ h33 => Zw 15 0 rfl (λ _ h34 => Zw 12 3 rfl (λ _ h31 => Ze (Zn (Zg rfl rfl h31 hq31) (Zj1 h33 h34 rfl z0)))))) ?_
      refine ZA (λ γ => Zw 16 0 rfl (λ _ h35 => Zw 12 4 rfl (λ _ h31 => Ze (Zn (Zg rfl rfl h31 hq31) (Zl h35 z0))))) ?_
      refine ZA (λ γ => Zf (λ _ h4 => Zw 17 0 rfl (λ _ h36 => Ze (Zn (Zg rfl rfl h36 hq36) (Zu 4 VT.ty132 h4 rfl rfl z0))))) ?_
      refine ZA (λ γ => Zf (λ _ h2 => Zw 17 1 rfl (λ _ h36 => Ze (Zn (Zg rfl rfl h36 hq36) (Zu 2 VT.ty3 h2 rfl rfl z0))))) ?_
      refine Zp (Zb3 _) (Zq (λ γ => Zw 18 1 rfl (λ _ h37 => Zw 19 0 rfl (λ _ h38 => Zw 17 2 rfl (λ _ h36 => Ze (Zn (Zg rfl rfl h36 hq36) (Zz (el := setV (o.at k)) VT.sl132 h37 h38 (by omega) (get_setV hk) (λ a39 => ⟨⟨_, rfl⟩, rfl⟩)))))))) ?_
      refine ZA (λ γ => Zw 20 0 rfl (λ _ h39 => Zw 17 3 rfl (λ _ h36 => Ze (Zc3 h39 (λ a_39 e39 => Zn (Zg rfl rfl h36 hq36) (Za2 VT.ty134 e39 rfl z0)))))) ?_
      refine ZA (λ γ => Zf (λ _ h8 => Zw 17 4 rfl (λ _ h36 => Ze (Zn (Zg rfl rfl h36 hq36) (Zj VT.fa131_0 h8 z0))))) ?_
      refine ZA (λ γ => Zw 22 0 rfl (λ _ h41 => Zw 17 5 rfl (λ _ h36 => Ze (Zn (Zg rfl rfl h36 hq36) (Zu 0 VT.ty3 h41 rfl rfl z0))))) ?_
      refine ZA (λ γ => Zw 21 2 rfl (λ _ h40 => Zw 23 0 rfl (λ _ h42 => Zw 17 6 rfl (λ _ h36 => Ze (Zn (Zg rfl rfl h36 hq36) (Zx1 [.tmp 40, .tmp 42] rfl (Zp2 h40 (Zp2 h42 Zq2)) VT.en81 (has_c (o.at k) ((dget d v).getD (0, 0)).1 (by rw [hpp]; exact hpd.1) (by rw [hpp]; exact hpd.2)) z0)))))) ?_
      refine ZA (λ γ => Zw 17 7 rfl (λ _ h36 => Zw 24 0 rfl (λ _ h43 => Zw 12 12 rfl (λ _ h31 => Ze (Zn (Zg rfl rfl h31 hq31) (Zs1 h36 hq36 h43 z0)))))) ?_
      refine ZA (λ γ => Zw 12 13 rfl (λ _ h31 => Zw 25 0 rfl (λ _ h44 => Zw 1 24 rfl (λ _ h20 => Ze (Zn (Zg rfl rfl h20 hq20) (Zt1 h31 hq31 h44 z0)))))) ?_
      refine ZA (λ γ => Zw 26 0 rfl (λ _ h45 => Zw 1 25 rfl (λ _ h20 => Ze (Zn (Zg rfl rfl h20 hq20) (Zl h45 z0))))) ?_
      refine ZA (λ γ => Zf (λ _ h5 => Zw 27 0 rfl (λ _ h46 => Ze (Zy2 (Zr rfl rfl h46 hq46) z0)))) ?_
      refine ZA (λ γ => Zf (λ _ h2 => Zw 27 1 rfl (λ _ h46 => Ze (Zy2 (Zr rfl rfl h46 hq46) z0)))) ?_
      refine ZA (λ γ => Zw 28 1 rfl (λ _ h47 => Zw 29 0 rfl (λ _ h48 => Zw 27 2 rfl (λ _ h46 => Ze (Zy2 (Zr rfl rfl h46 hq46) z0))))) ?_
      refine ZA (λ γ => Zw 30 0 rfl (λ _ h49 => Zw 27 3 rfl (λ _ h46 => Ze (Zy2 (Zr rfl rfl h46 hq46) z0)))) ?_
      refine ZA (λ γ => Zw 27 4 rfl (λ _ h46 => Zw 31 0 rfl (λ _ h50 => Zw 1 30 rfl (λ _ h20 => Ze (Zn (Zg rfl rfl h20 hq20) (Zs1 h46 hq46 rfl z0)))))) ?_
      refine ZA (λ γ => Zw 1 31 rfl (λ _ h20 => Zw 32 0 rfl (λ _ h51 => Ze (Zn rfl (Zs1 h20 hq20 h51 z0))))) ?_
      refine ZA (λ γ => Zw 33 0 rfl (λ _ h52 => Ze (Zn rfl (Zk h52 z0)))) ?_
      refine DrawP_nil (λ γ => Zw 34 0 rfl (λ r7 h7 => Ze ?_))
      have e7 : r7 = some _ := h7
      subst e7
      clear h7
      refine Zi (Zf1 ?_)
      refine Zg1 rfl (.tmp rfl) ?_
      refine ⟨congrArg V.bool ?_, Dd (Zt2 _)⟩
      rw [hr]
      try rw [hpp]
      first | (simp_all; done) | (simp_all; omega) | (rw [hpp] at *; simp_all; done)
     .
      refine VW_drawR (G := Unit) [([], [9], []), ([0], [19], []), ([1, 0], [8, 20], []), ([2, 1, 0], [21, 20], []), ([1, 0], [2, 20], []), (dn 5, [22, 23, 20], []), (dn 6, [24, 20], []), (dn 7, [8, 25], []), (dn 8, [26, 25], []), (dn 7, [3, 25], []), (dn 10, [27, 28, 25], []), (dn 11, [25, 29, 20], []), (dn 12, [30, 20], []), (dn 13, [8, 31], []), (dn 14, [32, 31], []), (dn 13, [2, 31], []), (dn 16, [33, 34, 31], []), (dn 17, [35, 31], []), (dn 18, [4, 36], []), (dn 18, [2, 36], []), (dn 20, [37, 38, 36], []), (dn 21, [39, 36], []), (dn 18, [8, 36], []), ([22, 17, 16, 15, 14, 13, 12, 11, 10, 9, 8, 7, 6, 5, 4, 3, 2, 1, 0], [41, 36], []), (dn 24, [40, 42, 36], []), (dn 25, [36, 43, 31], []), (dn 26, [31, 44, 20], []), (dn 27, [45, 20], []), (dn 28, [5, 46], []), (dn 28, [2, 46], []), (dn 30, [47, 48, 46], []), (dn 31, [49, 46], []), (dn 32, [46, 50, 20], []), (dn 33, [20, 51], []), (dn 34, [52], [])] [] (constSt _) [7] [7, 19, 20, 21, 22, 23, 24, 25, 26, 27, 28, 29, 30, 31, 32, 33, 34, 35, 36, 37, 38, 39, 40, 41, 42, 43, 44, 45, 46, 47, 48, 49, 50, 51, 52] rfl VT.mix ?_
      refine ZA (λ γ => Zf (λ _ h9 => Ze (Zn rfl (Zl h9 z0)))) ?_
      refine ZA (λ γ => Zw 0 0 rfl (λ _ h19 => Ze (Zn rfl (Zl h19 z0)))) ?_
      refine ZA (λ γ => Zf (λ _ h8 => Zw 1 0 rfl (λ _ h20 => Ze (Zn (Zg rfl rfl h20 hq20) (Zj VT.fa131_0 h8 z0))))) ?_
      refine ZA (λ γ => Zw 2 0 rfl (λ _ h21 => Zw 1 1 rfl (λ _ h20 => Ze (Zn (Zg rfl rfl h20 hq20) (Zu 0 VT.ty3 h21 rfl rfl z0))))) ?_
      refine ZA (λ γ => Zf (λ _ h2 => Zw 1 2 rfl (λ _ h20 => Ze (Zn (Zg rfl rfl h20 hq20) (Zu 2 VT.ty3 h2 rfl rfl z0))))) ?_
      refine ZA (λ γ => Zw 3 1 rfl (λ _ h22 => Zw 4 0 rfl (λ _ h23 => Zw 1 3 rfl (λ _ h20 => Ze (Zn (Zg rfl rfl h20 hq20) (Zj1 h22 h23 rfl z0)))))) ?_
      refine ZA (λ γ => Zw 5 0 rfl (λ _ h24 => Zw 1 4 rfl (λ _ h20 => Ze (Zn (Zg rfl rfl h20 hq20) (Zl h24 z0))))) ?_
      refine ZA (λ γ => Zf (λ _ h8 => Zw 6 0 rfl (λ _ h25 => Ze (Zn (Zg rfl rfl h25 hq25) (Zj VT.fa131_1 h8 z0))))) ?_
      refine ZA (λ γ => Zw 7 0 rfl (λ _ h26 => Zw 6 1 rfl (λ _ h25 => Ze (Zn (Zg rfl rfl h25 hq25) (Zu 0 VT.ty3 h26 rfl rfl z0))))) ?_
      refine ZA (λ γ => Zf (λ _ h3 => Zw 6 2 rfl (λ _ h25 => Ze (Zn (Zg rfl rfl h25 hq25) (Zu 3 VT.ty3 h3 rfl rfl z0))))) ?_
      refine ZA (λ γ => Zw 8 1 rfl (λ _ h27 => Zw 9 0 rfl (λ _ h28 => Zw 6 3 rfl (λ _ h25 => Ze (Zn (Zg rfl rfl h25 hq25) (Zj1 h27 h28 rfl z0)))))) ?_
      refine ZA (λ γ => Zw 6 4 rfl (λ _ h25 => Zw 10 0 rfl (λ _ h29 => Zw 1 9 rfl (λ _ h20 => Ze (Zn (Zg rfl rfl h20 hq20) (Zs1 h25 hq25 h29 z0)))))) ?_
      refine ZA (λ γ => Zw 11 0 rfl (λ _ h30 => Zw 1 10 rfl (λ _ h20 => Ze (Zn (Zg rfl rfl h20 hq20) (Zl h30 z0))))) ?_
      refine ZA (λ γ => Zf (λ _ h8 => Zw 12 0 rfl (λ _ h31 => Ze (Zn (Zg rfl rfl h31 hq31) (Zj VT.fa131_0 h8 z0))))) ?_
      refine ZA (λ γ => Zw 13 0 rfl (λ _ h32 => Zw 12 1 rfl (λ _ h31 => Ze (Zn (Zg rfl rfl h31 hq31) (Zu 0 VT.ty3 h32 rfl rfl z0))))) ?_
      refine ZA (λ γ => Zf (λ _ h2 => Zw 12 2 rfl (λ _ h31 => Ze (Zn (Zg rfl rfl h31 hq31) (Zu 2 VT.ty3 h2 rfl rfl z0))))) ?_
      refine ZA (λ γ => Zw 14 1 rfl (λ _ h33 => Zw 15 0 rfl (λ _ h34 => Zw 12 3 rfl (λ _ h31 => Ze (Zn (Zg rfl rfl h31 hq31) (Zj1 h33 h34 rfl z0)))))) ?_
      refine ZA (λ γ => Zw 16 0 rfl (λ _ h35 => Zw 12 4 rfl (λ _ h31 => Ze (Zn (Zg rfl rfl h31 hq31) (Zl h35 z0))))) ?_
      refine ZA (λ γ => Zf (λ _ h4 => Zw 17 0 rfl (λ _ h36 => Ze (Zn (Zg rfl rfl h36 hq36) (Zu 4 VT.ty132 h4 rfl rfl z0))))) ?_
      refine ZA (λ γ => Zf (λ _ h2 => Zw 17 1 rfl (λ _ h36 => Ze (Zn (Zg rfl rfl h36 hq36) (Zu 2 VT.ty3 h2 rfl rfl z0))))) ?_
      refine Zp (Zb3 _) (Zq (λ γ => Zw 18 1 rfl (λ _ h37 => Zw 19 0 rfl (λ _ h38 => Zw 17 2 rfl (λ _ h36 => Ze (Zn (Zg rfl rfl h36 hq36) (Zz (el := setV (o.at k)) VT.sl132 h37 h38 (by omega) (get_setV hk) (λ a39 => ⟨⟨_, rfl⟩, rfl⟩)))))))) ?_
      refine ZA (λ γ => Zw 20 0 rfl (λ _ h39 => Zw 17 3 rfl (λ _ h36 => Ze (Zc3 h39 (λ a_39 e39 => Zn (Zg rfl rfl h36 hq36) (Za2 VT.ty134 e39 rfl z0)))))) ?_
      refine ZA (λ γ => Zf (λ _ h8 => Zw 17 4 rfl (λ _ h36 => Ze (Zn (Zg rfl rfl h36 hq36) (Zj VT.fa131_0 h8 z0))))) ?_
      refine ZA (λ γ => Zw 22 0 rfl (λ _ h41 => Zw 17 5 rfl (λ _ h36 => Ze (Zn (Zg rfl rfl h36 hq36) (Zu 0 VT.ty3 h41 rfl rfl z0))))) ?_
      refine ZA (λ γ => Zw 21 2 rfl (λ _ h40 => Zw 23 0 rfl (λ _ h42 => Zw 17 6 rfl (λ _ h36 => Ze (Zn (Zg rfl rfl h36 hq36) (Zx1 [.tmp 40, .tmp 42] rfl (Zp2 h40 (Zp2 h42 Zq2)) VT.en81 (has_c (o.at k) ((dget d v).getD (0, 0)).1 (by rw [hpp]; exact hpd.1) (by rw [hpp]; exact hpd.2)) z0)))))) ?_
      refine ZA (λ γ => Zw 17 7 rfl (λ _ h36 => Zw 24 0 rfl (λ _ h43 => Zw 12 12 rfl (λ _ h31 => Ze (Zn (Zg rfl rfl h31 hq31) (Zs1 h36 hq36 h43 z0)))))) ?_
      refine ZA (λ γ => Zw 12 13 rfl (λ _ h31 => Zw 25 0 rfl (λ _ h44 => Zw 1 24 rfl (λ _ h20 => Ze (Zn (Zg rfl rfl h20 hq20) (Zt1 h31 hq31 h44 z0)))))) ?_
      refine ZA (λ γ => Zw 26 0 rfl (λ _ h45 => Zw 1 25 rfl (λ _ h20 => Ze (Zn (Zg rfl rfl h20 hq20) (Zl h45 z0))))) ?_
      refine ZA (λ γ => Zf (λ _ h5 => Zw 27 0 rfl (λ _ h46 => Ze (Zn (Zg rfl rfl h46 hq46) (Zv 5 VT.ty134 h5 rfl rfl z0))))) ?_
      refine ZA (λ γ => Zf (λ _ h2 => Zw 27 1 rfl (λ _ h46 => Ze (Zn (Zg rfl rfl h46 hq46) (Zu 2 VT.ty3 h2 rfl rfl z0))))) ?_
      refine ZA (λ γ => Zw 28 1 rfl (λ _ h47 => Zw 29 0 rfl (λ _ h48 => Zw 27 2 rfl (λ _ h46 => Ze (Zn (Zg rfl rfl h46 hq46) (Zx1 [.tmp 47, .tmp 48] rfl (Zp2 h47 (Zp2 h48 Zq2)) VT.en81 (has_n o.seen k (by omega)) z0)))))) ?_
      refine ZA (λ γ => Zw 30 0 rfl (λ _ h49 => Zw 27 3 rfl (λ _ h46 => Ze (Zn (Zg rfl rfl h46 hq46) (Zl2 h49 z0))))) ?_
      refine ZA (λ γ => Zw 27 4 rfl (λ _ h46 => Zw 31 0 rfl (λ _ h50 => Zw 1 30 rfl (λ _ h20 => Ze (Zn (Zg rfl rfl h20 hq20) (Zt1 h46 hq46 h50 z0)))))) ?_
      refine ZA (λ γ => Zw 1 31 rfl (λ _ h20 => Zw 32 0 rfl (λ _ h51 => Ze (Zn rfl (Zs1 h20 hq20 h51 z0))))) ?_
      refine ZA (λ γ => Zw 33 0 rfl (λ _ h52 => Ze (Zn rfl (Zk h52 z0)))) ?_
      refine DrawP_nil (λ γ => Zw 34 0 rfl (λ r7 h7 => Ze ?_))
      have e7 : r7 = some _ := h7
      subst e7
      clear h7
      refine Zi (Zf1 ?_)
      refine Zg1 rfl (.tmp rfl) ?_
      refine ⟨congrArg V.bool ?_, Dd (Zt2 _)⟩
      rw [hr]
      try rw [hpp]
      first | (simp_all; done) | (simp_all; omega) | (rw [hpp] at *; simp_all; done)
    .
     refine VW_drawR (G := Unit) [([], [9], []), ([0], [19], []), ([1, 0], [8, 20], []), ([2, 1, 0], [21, 20], []), ([1, 0], [2, 20], []), (dn 5, [22, 23, 20], []), (dn 6, [24, 20], []), (dn 7, [8, 25], []), (dn 8, [26, 25], []), (dn 7, [3, 25], []), (dn 10, [27, 28, 25], []), (dn 11, [25, 29, 20], []), (dn 12, [30, 20], []), (dn 13, [8, 31], []), (dn 14, [32, 31], []), (dn 13, [2, 31], []), (dn 16, [33, 34, 31], []), (dn 17, [35, 31], []), (dn 18, [4, 36], []), (dn 18, [2, 36], []), (dn 20, [37, 38, 36], []), (dn 21, [39, 36], []), (dn 18, [8, 36], []), ([22, 17, 16, 15, 14, 13, 12, 11, 10, 9, 8, 7, 6, 5, 4, 3, 2, 1, 0], [41, 36], []), (dn 24, [40, 42, 36], []), (dn 25, [36, 43, 31], []), (dn 26, [31, 44, 20], []), (dn 27, [45, 20], []), (dn 28, [5, 46], []), (dn 28, [2, 46], []), (dn 30, [47, 48, 46], []), (dn 31, [49, 46], []), (dn 32, [46, 50, 20], []), (dn 33, [20, 51], []), (dn 34, [52], [])] [] (constSt _) [7] [7, 19, 20, 21, 22, 23, 24, 25, 26, 27, 28, 29, 30, 31, 32, 33, 34, 35, 36, 37, 38, 39, 40, 41, 42, 43, 44, 45, 46, 47, 48, 49, 50, 51, 52] rfl VT.mix ?_
     refine ZA (λ γ => Zf (λ _ h9 => Ze (Zn rfl (Zl h9 z0)))) ?_
     refine ZA (λ γ => Zw 0 0 rfl (λ _ h19 => Ze (Zn rfl (Zl h19 z0)))) ?_
     refine ZA (λ γ => Zf (λ _ h8 => Zw 1 0 rfl (λ _ h20 => Ze (Zn (Zg rfl rfl h20 hq20) (Zj VT.fa131_0 h8 z0))))) ?_
     refine ZA (λ γ => Zw 2 0 rfl (λ _ h21 => Zw 1 1 rfl (λ _ h20 => Ze (Zn (Zg rfl rfl h20 hq20) (Zu 0 VT.ty3 h21 rfl rfl z0))))) ?_
     refine ZA (λ γ => Zf (λ _ h2 => Zw 1 2 rfl (λ _ h20 => Ze (Zn (Zg rfl rfl h20 hq20) (Zu 2 VT.ty3 h2 rfl rfl z0))))) ?_
     refine ZA (λ γ => Zw 3 1 rfl (λ _ h22 => Zw 4 0 rfl (λ _ h23 => Zw 1 3 rfl (λ _ h20 => Ze (Zn (Zg rfl rfl h20 hq20) (Zj1 h22 h23 rfl z0)))))) ?_
     refine ZA (λ γ => Zw 5 0 rfl (λ _ h24 => Zw 1 4 rfl (λ _ h20 => Ze (Zn (Zg rfl rfl h20 hq20) (Zl h24 z0))))) ?_
     refine ZA (λ γ => Zf (λ _ h8 => Zw 6 0 rfl (λ _ h25 => Ze (Zn (Zg rfl rfl h25 hq25) (Zj VT.fa131_1 h8 z0))))) ?_
     refine ZA (λ γ => Zw 7 0 rfl (λ _ h26 => Zw 6 1 rfl (λ _ h25 => Ze (Zn (Zg rfl rfl h25 hq25) (Zu 0 VT.ty3 h26 rfl rfl z0))))) ?_
     refine ZA (λ γ => Zf (λ _ h3 => Zw 6 2 rfl (λ _ h25 => Ze (Zn (Zg rfl rfl h25 hq25) (Zu 3 VT.ty3 h3 rfl rfl z0))))) ?_
     refine ZA (λ γ => Zw 8 1 rfl (λ _ h27 => Zw 9 0 rfl (λ _ h28 => Zw 6 3 rfl (λ _ h25 => Ze (Zn (Zg rfl rfl h25 hq25) (Zj1 h27 h28 rfl z0)))))) ?_
     refine ZA (λ γ => Zw 6 4 rfl (λ _ h25 => Zw 10 0 rfl (λ _ h29 => Zw 1 9 rfl (λ _ h20 => Ze (Zn (Zg rfl rfl h20 hq20) (Zs1 h25 hq25 h29 z0)))))) ?_
     refine ZA (λ γ => Zw 11 0 rfl (λ _ h30 => Zw 1 10 rfl (λ _ h20 => Ze (Zn (Zg rfl rfl h20 hq20) (Zl h30 z0))))) ?_
     refine ZA (λ γ => Zf (λ _ h8 => Zw 12 0 rfl (λ _ h31 => Ze (Zn (Zg rfl rfl h31 hq31) (Zj VT.fa131_0 h8 z0))))) ?_
     refine ZA (λ γ => Zw 13 0 rfl (λ _ h32 => Zw 12 1 rfl (λ _ h31 => Ze (Zn (Zg rfl rfl h31 hq31) (Zu 0 VT.ty3 h32 rfl rfl z0))))) ?_
     refine ZA (λ γ => Zf (λ _ h2 => Zw 12 2 rfl (λ _ h31 => Ze (Zn (Zg rfl rfl h31 hq31) (Zu 2 VT.ty3 h2 rfl rfl z0))))) ?_
     refine ZA (λ γ => Zw 14 1 rfl (λ _ h33 => Zw 15 0 rfl (λ _ h34 => Zw 12 3 rfl (λ _ h31 => Ze (Zn (Zg rfl rfl h31 hq31) (Zj1 h33 h34 rfl z0)))))) ?_
     refine ZA (λ γ => Zw 16 0 rfl (λ _ h35 => Zw 12 4 rfl (λ _ h31 => Ze (Zn (Zg rfl rfl h31 hq31) (Zl h35 z0))))) ?_
     refine ZA (λ γ => Zf (λ _ h4 => Zw 17 0 rfl (λ _ h36 => Ze (Zy2 (Zr rfl rfl h36 hq36) z0)))) ?_
     refine ZA (λ γ => Zf (λ _ h2 => Zw 17 1 rfl (λ _ h36 => Ze (Zy2 (Zr rfl rfl h36 hq36) z0)))) ?_
     refine ZA (λ γ => Zw 18 1 rfl (λ _ h37 => Zw 19 0 rfl (λ _ h38 => Zw 17 2 rfl (λ _ h36 => Ze (Zy2 (Zr rfl rfl h36 hq36) z0))))) ?_
     refine ZA (λ γ => Zw 20 0 rfl (λ _ h39 => Zw 17 3 rfl (λ _ h36 => Ze (Zy2 (Zr rfl rfl h36 hq36) z0)))) ?_
     refine ZA (λ γ => Zf (λ _ h8 => Zw 17 4 rfl (λ _ h36 => Ze (Zy2 (Zr rfl rfl h36 hq36) z0)))) ?_
     refine ZA (λ γ => Zw 22 0 rfl (λ _ h41 => Zw 17 5 rfl (λ _ h36 => Ze (Zy2 (Zr rfl rfl h36 hq36) z0)))) ?_
     refine ZA (λ γ => Zw 21 2 rfl (λ _ h40 => Zw 23 0 rfl (λ _ h42 => Zw 17 6 rfl (λ _ h36 => Ze (Zy2 (Zr rfl rfl h36 hq36) z0))))) ?_
     refine ZA (λ γ => Zw 17 7 rfl (λ _ h36 => Zw 24 0 rfl (λ _ h43 => Zw 12 12 rfl (λ _ h31 => Ze (Zn (Zg rfl rfl h31 hq31) (Zt1 h36 hq36 rfl z0)))))) ?_
     refine ZA (λ γ => Zw 12 13 rfl (λ _ h31 => Zw 25 0 rfl (λ _ h44 => Zw 1 24 rfl (λ _ h20 => Ze (Zn (Zg rfl rfl h20 hq20) (Zt1 h31 hq31 h44 z0)))))) ?_
     refine ZA (λ γ => Zw 26 0 rfl (λ _ h45 => Zw 1 25 rfl (λ _ h20 => Ze (Zn (Zg rfl rfl h20 hq20) (Zl h45 z0))))) ?_
     refine ZA (λ γ => Zf (λ _ h5 => Zw 27 0 rfl (λ _ h46 => Ze (Zn (Zg rfl rfl h46 rfl) (Zv 5 VT.ty134 h5 rfl rfl z0))))) ?_
     refine ZA (λ γ => Zf (λ _ h2 => Zw 27 1 rfl (λ _ h46 => Ze (Zn (Zg rfl rfl h46 rfl) (Zu 2 VT.ty3 h2 rfl rfl z0))))) ?_
     refine ZA (λ γ => Zw 28 1 rfl (λ _ h47 => Zw 29 0 rfl (λ _ h48 => Zw 27 2 rfl (λ _ h46 => Ze (Zn (Zg rfl rfl h46 rfl) (Zx1 [.tmp 47, .tmp 48] rfl (Zp2 h47 (Zp2 h48 Zq2)) VT.en81 (has_n o.seen k (by omega)) z0)))))) ?_
     refine ZA (λ γ => Zw 30 0 rfl (λ _ h49 => Zw 27 3 rfl (λ _ h46 => Ze (Zn (Zg rfl rfl h46 rfl) (Zl2 h49 z0))))) ?_
     refine ZA (λ γ => Zw 27 4 rfl (λ _ h46 => Zw 31 0 rfl (λ _ h50 => Zw 1 30 rfl (λ _ h20 => Ze (Zn (Zg rfl rfl h20 hq20) (Zt1 h46 rfl h50 z0)))))) ?_
     refine ZA (λ γ => Zw 1 31 rfl (λ _ h20 => Zw 32 0 rfl (λ _ h51 => Ze (Zn rfl (Zs1 h20 hq20 h51 z0))))) ?_
     refine ZA (λ γ => Zw 33 0 rfl (λ _ h52 => Ze (Zn rfl (Zk h52 z0)))) ?_
     refine DrawP_nil (λ γ => Zw 34 0 rfl (λ r7 h7 => Ze ?_))
     have e7 : r7 = some _ := h7
     subst e7
     clear h7
     refine Zi (Zf1 ?_)
     refine Zg1 rfl (.tmp rfl) ?_
     refine ⟨congrArg V.bool ?_, Dd (Zt2 _)⟩
     rw [hr]
     try rw [hpp]
     first | (simp_all; done) | (simp_all; omega) | (rw [hpp] at *; simp_all; done)
  .
   rcases Bool.eq_false_or_eq_true ((((dget d v).getD (0, 0)).1 != (k : Int))) with hq36 | hq36
   .
    rcases Bool.eq_false_or_eq_true (((o.at k).has ((dget d v).getD (0, 0)).1.toNat)) with hq46 | hq46
    .
     refine VW_drawR (G := Unit) [([], [9], []), ([0], [19], []), ([1, 0], [8, 20], []), ([2, 1, 0], [21, 20], []), ([1, 0], [2, 20], []), (dn 5, [22, 23, 20], []), (dn 6, [24, 20], []), (dn 7, [8, 25], []), (dn 8, [26, 25], []), (dn 7, [3, 25], []), (dn 10, [27, 28, 25], []), (dn 11, [25, 29, 20], []), (dn 12, [30, 20], []), (dn 13, [8, 31], []), (dn 14, [32, 31], []), (dn 13, [2, 31], []), (dn 16, [33, 34, 31], []), (dn 17, [35, 31], []), (dn 18, [4, 36], []), (dn 18, [2, 36], []), (dn 20, [37, 38, 36], []), (dn 21, [39, 36], []), (dn 18, [8, 36], []), ([22, 17, 16, 15, 14, 13, 12, 11, 10, 9, 8, 7, 6, 5, 4, 3, 2, 1, 0], [41, 36], []), (dn 24, [40, 42, 36], []), (dn 25, [36, 43, 31], []), (dn 26, [31, 44, 20], []), (dn 27, [45, 20], []), (dn 28, [5, 46], []), (dn 28, [2, 46], []), (dn 30, [47, 48, 46], []), (dn 31, [49, 46], []), (dn 32, [46, 50, 20], []), (dn 33, [20, 51], []), (dn 34, [52], [])] [] (constSt _) [7] [7, 19, 20, 21, 22, 23, 24, 25, 26, 27, 28, 29, 30, 31, 32, 33, 34, 35, 36, 37, 38, 39, 40, 41, 42, 43, 44, 45, 46, 47, 48, 49, 50, 51, 52] rfl VT.mix ?_
     refine ZA (λ γ => Zf (λ _ h9 => Ze (Zn rfl (Zl h9 z0)))) ?_
     refine ZA (λ γ => Zw 0 0 rfl (λ _ h19 => Ze (Zn rfl (Zl h19 z0)))) ?_
     refine ZA (λ γ => Zf (λ _ h8 => Zw 1 0 rfl (λ _ h20 => Ze (Zn (Zg rfl rfl h20 hq20) (Zj VT.fa131_0 h8 z0))))) ?_
     refine ZA (λ γ => Zw 2 0 rfl (λ _ h21 => Zw 1 1 rfl (λ _ h20 => Ze (Zn (Zg rfl rfl h20 hq20) (Zu 0 VT.ty3 h21 rfl rfl z0))))) ?_
     refine ZA (λ γ => Zf (λ _ h2 => Zw 1 2 rfl (λ _ h20 => Ze (Zn (Zg rfl rfl h20 hq20) (Zu 2 VT.ty3 h2 rfl rfl z0))))) ?_
     refine ZA (λ γ => Zw 3 1 rfl (λ _ h22 => Zw 4 0 rfl (λ _ h23 => Zw 1 3 rfl (λ _ h20 => Ze (Zn (Zg rfl rfl h20 hq20) (Zj1 h22 h23 rfl z0)))))) ?_
     refine ZA (λ γ => Zw 5 0 rfl (λ _ h24 => Zw 1 4 rfl (λ _ h20 => Ze (Zn (Zg rfl rfl h20 hq20) (Zl h24 z0))))) ?_
     refine ZA (λ γ => Zf (λ _ h8 => Zw 6 0 rfl (λ _ h25 => Ze (Zy2 (Zr rfl rfl h25 hq25) z0)))) ?_
     refine ZA (λ γ => Zw 7 0 rfl (λ _ h26 => Zw 6 1 rfl (λ _ h25 => Ze (Zy2 (Zr rfl rfl h25 hq25) z0)))) ?_
     refine ZA (λ γ => Zf (λ _ h3 => Zw 6 2 rfl (λ _ h25 => Ze (Zy2 (Zr rfl rfl h25 hq25) z0)))) ?_
     refine ZA (λ γ => Zw 8 1 rfl (λ _ h27 => Zw 9 0 rfl (λ _ h28 => Zw 6 3 rfl (λ _ h25 => Ze (Zy2 (Zr rfl rfl h25 hq25) z0))))) ?_
     refine ZA (λ γ => Zw 6 4 rfl (λ _ h25 => Zw 10 0 rfl (λ _ h29 => Zw 1 9 rfl (λ _ h20 => Ze (Zn (Zg rfl rfl h20 hq20) (Zt1 h25 hq25 rfl z0)))))) ?_
     refine ZA (λ γ => Zw 11 0 rfl (λ _ h30 => Zw 1 10 rfl (λ _ h20 => Ze (Zn (Zg rfl rfl h20 hq20) (Zl h30 z0))))) ?_
     refine ZA (λ γ => Zf (λ _ h8 => Zw 12 0 rfl (λ _ h31 => Ze (Zn (Zg rfl rfl h31 rfl) (Zj VT.fa131_0 h8 z0))))) ?_
     refine ZA (λ γ => Zw 13 0 rfl (λ _ h32 => Zw 12 1 rfl (λ _ h31 => Ze (Zn (Zg rfl rfl h31 rfl) (Zu 0 VT.ty3 h32 rfl rfl z0))))) ?_
     refine ZA (λ γ => Zf (λ _ h2 => Zw 12 2 rfl (λ _ h31 => Ze (Zn (Zg rfl rfl h31 rfl) (Zu 2 VT.ty3 h2 rfl rfl z0))))) ?_
     refine ZA (λ γ => Zw 14 1 rfl (λ _ h33 => Zw 15 0 rfl (λ _ h34 => Zw 12 3 rfl (λ _ h31 => Ze (Zn (Zg rfl rfl h31 rfl) (Zj1 h33 h34 rfl z0)))))) ?_
     refine ZA (λ γ => Zw 16 0 rfl (λ _ h35 => Zw 12 4 rfl (λ _ h31 => Ze (Zn (Zg rfl rfl h31 rfl) (Zl h35 z0))))) ?_
     refine ZA (λ γ => Zf (λ _ h4 => Zw 17 0 rfl (λ _ h36 => Ze (Zn (Zg rfl rfl h36 hq36) (Zu 4 VT.ty132 h4 rfl rfl z0))))) ?_
     refine ZA (λ γ => Zf (λ _ h2 => Zw 17 1 rfl (λ _ h36 => Ze (Zn (Zg rfl rfl h36 hq36) (Zu 2 VT.ty3 h2 rfl rfl z0))))) ?_
     refine Zp (Zb3 _) (Zq (λ γ => Zw 18 1 rfl (λ _ h37 => Zw 19 0 rfl (λ _ h38 => Zw 17 2 rfl (λ _ h36 => Ze (Zn (Zg rfl rfl h36 hq36) (Zz (el := setV (o.at k)) VT.sl132 h37 h38 (by omega) (get_setV hk) (λ a39 => ⟨⟨_, rfl⟩, rfl⟩)))))))) ?_
     refine ZA (λ γ => Zw 20 0 rfl (λ _ h39 => Zw 17 3 rfl (λ _ h36 => Ze (Zc3 h39 (λ a_39 e39 => Zn (Zg rfl rfl h36 hq36) (Za2 VT.ty134 e39 rfl z0)))))) ?_
     refine ZA (λ γ => Zf (λ _ h8 => Zw 17 4 rfl (λ _ h36 => Ze (Zn (Zg rfl rfl h36 hq36) (Zj VT.fa131_0 h8 z0))))) ?_
     refine ZA (λ γ => Zw 22 0 rfl (λ _ h41 => Zw 17 5 rfl (λ _ h36 => Ze (Zn (Zg rfl rfl h36 hq36) (Zu 0 VT.ty3 h41 rfl rfl z0))))) ?_
     refine ZA (λ γ => Zw 21 2 rfl (λ _ h40 => Zw 23 0 rfl (λ _ h42 => Zw 17 6 rfl (λ _ h36 => Ze (Zn (Zg rfl rfl h36 hq36) (Zx1 [.tmp 40, .tmp 42] rfl (Zp2 h40 (Zp2 h42 Zq2)) VT.en81 (has_c (o.at k) ((dget d v).getD (0, 0)).1 (by rw [hpp]; exact hpd.1) (by rw [hpp]; exact hpd.2)) z0)))))) ?_
     refine ZA (λ γ => Zw 17 7 rfl (λ _ h36 => Zw 24 0 rfl (λ _ h43 => Zw 12 12 rfl (λ _ h31 => Ze (Zn (Zg rfl rfl h31 rfl) (Zs1 h36 hq36 h43 z0)))))) ?_
     refine ZA (λ γ => Zw 12 13 rfl (λ _ h31 => Zw 25 0 rfl (λ _ h44 => Zw 1 24 rfl (λ _ h20 => Ze (Zn (Zg rfl rfl h20 hq20) (Zt1 h31 rfl h44 z0)))))) ?_
     refine ZA (λ γ => Zw 26 0 rfl (λ _ h45 => Zw 1 25 rfl (λ _ h20 => Ze (Zn (Zg rfl rfl h20 hq20) (Zl h45 z0))))) ?_
     refine ZA (λ γ => Zf (λ _ h5 => Zw 27 0 rfl (λ _ h46 => Ze (Zy2 (Zr rfl rfl h46 hq46) z0)))) ?_
     refine ZA (λ γ => Zf (λ _ h2 => Zw 27 1 rfl (λ _ h46 => Ze (Zy2 (Zr rfl rfl h46 hq46) z0)))) ?_
     refine ZA (λ γ => Zw 28 1 rfl (λ _ h47 => Zw 29 0 rfl (λ _ h48 => Zw 27 2 rfl (λ _ h46 => Ze (Zy2 (Zr rfl rfl h46 hq46) z0))))) ?_
     refine ZA (λ γ => Zw 30 0 rfl (λ _ h49 => Zw 27 3 rfl (λ _ h46 => Ze (Zy2 (Zr rfl rfl h46 hq46) z0)))) ?_
     refine ZA (λ γ => Zw 27 4 rfl (λ _ h46 => Zw 31 0 rfl (λ _ h50 => Zw 1 30 rfl (λ _ h20 => Ze (Zn (Zg rfl rfl h20 hq20) (Zs1 h46 hq46 rfl z0)))))) ?_
     refine ZA (λ γ => Zw 1 31 rfl (λ _ h20 => Zw 32 0 rfl (λ _ h51 => Ze (Zn rfl (Zs1 h20 hq20 h51 z0))))) ?_
     refine ZA (λ γ => Zw 33 0 rfl (λ _ h52 => Ze (Zn rfl (Zk h52 z0)))) ?_
     refine DrawP_nil (λ γ => Zw 34 0 rfl (λ r7 h7 => Ze ?_))
     have e7 : r7 = some _ := h7
     subst e7
     clear h7
     refine Zi (Zf1 ?_)
     refine Zg1 rfl (.tmp rfl) ?_
     refine ⟨congrArg V.bool ?_, Dd (Zt2 _)⟩
     rw [hr]
     try rw [hpp]
     first | (simp_all; done) | (simp_all; omega) | (rw [hpp] at *; simp_all; done)
    .
     refine VW_drawR (G := Unit) [([], [9], []), ([0], [19], []), ([1, 0], [8, 20], []), ([2, 1, 0], [21, 20], []), ([1, 0], [2, 20], []), (dn 5, [22, 23, 20], []), (dn 6, [24, 20], []), (dn 7, [8, 25], []), (dn 8, [26, 25], []), (dn 7, [3, 25], []), (dn 10, [27, 28, 25], []), (dn 11, [25, 29, 20], []), (dn 12, [30, 20], []), (dn 13, [8, 31], []), (dn 14, [32, 31], []), (dn 13, [2, 31], []), (dn 16, [33, 34, 31], []), (dn 17, [35, 31], []), (dn 18, [4, 36], []), (dn 18, [2, 36], []), (dn 20, [37, 38, 36], []), (dn 21, [39, 36], []), (dn 18, [8, 36], []), ([22, 17, 16, 15, 14, 13, 12, 11, 10, 9, 8, 7, 6, 5, 4, 3, 2, 1, 0], [41, 36], []), (dn 24, [40, 42, 36], []), (dn 25, [36, 43, 31], []), (dn 26, [31, 44, 20], []), (dn 27, [45, 20], []), (dn 28, [5, 46], []), (dn 28, [2, 46], []), (dn 30, [47, 48, 46], []), (dn 31, [49, 46], []), (dn 32, [46, 50, 20], []), (dn 33, [20, 51], []), (dn 34, [52], [])] [] (constSt _) [7] [7, 19, 20, 21, 22, 23, 24, 25, 26, 27, 28, 29, 30, 31, 32, 33, 34, 35, 36, 37, 38, 39, 40, 41, 42, 43, 44, 45, 46, 47, 48, 49, 50, 51, 52] rfl VT.mix ?_
     refine ZA (λ γ => Zf (λ _ h9 => Ze (Zn rfl (Zl h9 z0)))) ?_
     refine ZA (λ γ => Zw 0 0 rfl (λ _ h19 => Ze (Zn rfl (Zl h19 z0)))) ?_
     refine ZA (λ γ => Zf (λ _ h8 => Zw 1 0 rfl (λ _ h20 => Ze (Zn (Zg rfl rfl h20 hq20) (Zj VT.fa131_0 h8 z0))))) ?_
     refine ZA (λ γ => Zw 2 0 rfl (λ _ h21 => Zw 1 1 rfl (λ _ h20 => Ze (Zn (Zg rfl rfl h20 hq20) (Zu 0 VT.ty3 h21 rfl rfl z0))))) ?_
     refine ZA (λ γ => Zf (λ _ h2 => Zw 1 2 rfl (λ _ h20 => Ze (Zn (Zg rfl rfl h20 hq20) (Zu 2 VT.ty3 h2 rfl rfl z0))))) ?_
     refine ZA (λ γ => Zw 3 1 rfl (λ _ h22 => Zw 4 0 rfl (λ _ h23 => Zw 1 3 rfl (λ _ h20 => Ze (Zn (Zg rfl rfl h20 hq20) (Zj1 h22 h23 rfl z0)))))) ?_
     refine ZA (λ γ => Zw 5 0 rfl (λ _ h24 => Zw 1 4 rfl (λ _ h20 => Ze (Zn (Zg rfl rfl h20 hq20) (Zl h24 z0))))) ?_
     refine ZA (λ γ => Zf (λ _ h8 => Zw 6 0 rfl (λ _ h25 => Ze (Zy2 (Zr rfl rfl h25 hq25) z0)))) ?_
     refine ZA (λ γ => Zw 7 0 rfl (λ _ h26 => Zw 6 1 rfl (λ _ h25 => Ze (Zy2 (Zr rfl rfl h25 hq25) z0)))) ?_
     refine ZA (λ γ => Zf (λ _ h3 => Zw 6 2 rfl (λ _ h25 => Ze (Zy2 (Zr rfl rfl h25 hq25) z0)))) ?_
     refine ZA (λ γ => Zw 8 1 rfl (λ _ h27 => Zw 9 0 rfl (λ _ h28 => Zw 6 3 rfl (λ _ h25 => Ze (Zy2 (Zr rfl rfl h25 hq25) z0))))) ?_
     refine ZA (λ γ => Zw 6 4 rfl (λ _ h25 => Zw 10 0 rfl (λ _ h29 => Zw 1 9 rfl (λ _ h20 => Ze (Zn (Zg rfl rfl h20 hq20) (Zt1 h25 hq25 rfl z0)))))) ?_
     refine ZA (λ γ => Zw 11 0 rfl (λ _ h30 => Zw 1 10 rfl (λ _ h20 => Ze (Zn (Zg rfl rfl h20 hq20) (Zl h30 z0))))) ?_
     refine ZA (λ γ => Zf (λ _ h8 => Zw 12 0 rfl (λ _ h31 => Ze (Zn (Zg rfl rfl h31 rfl) (Zj VT.fa131_0 h8 z0))))) ?_
     refine ZA (λ γ => Zw 13 0 rfl (λ _ h32 => Zw 12 1 rfl (λ _ h31 => Ze (Zn (Zg rfl rfl h31 rfl) (Zu 0 VT.ty3 h32 rfl rfl z0))))) ?_
     refine ZA (λ γ => Zf (λ _ h2 => Zw 12 2 rfl (λ _ h31 => Ze (Zn (Zg rfl rfl h31 rfl) (Zu 2 VT.ty3 h2 rfl rfl z0))))) ?_
     refine ZA (λ γ => Zw 14 1 rfl (λ _ h33 => Zw 15 0 rfl (λ _ h34 => Zw 12 3 rfl (λ _ h31 => Ze (Zn (Zg rfl rfl h31 rfl) (Zj1 h33 h34 rfl z0)))))) ?_
     refine ZA (λ γ => Zw 16 0 rfl (λ _ h35 => Zw 12 4 rfl (λ _ h31 => Ze (Zn (Zg rfl rfl h31 rfl) (Zl h35 z0))))) ?_
     refine ZA (λ γ => Zf (λ _ h4 => Zw 17 0 rfl (λ _ h36 => Ze (Zn (Zg rfl rfl h36 hq36) (Zu 4 VT.ty132 h4 rfl rfl z0))))) ?_
     refine ZA (λ γ => Zf (λ _ h2 => Zw 17 1 rfl (λ _ h36 => Ze (Zn (Zg rfl rfl h36 hq36) (Zu 2 VT.ty3 h2 rfl rfl z0))))) ?_
     refine Zp (Zb3 _) (Zq (λ γ => Zw 18 1 rfl (λ _ h37 => Zw 19 0 rfl (λ _ h38 => Zw 17 2 rfl (λ _ h36 => Ze (Zn (Zg rfl rfl h36 hq36) (Zz (el := setV (o.at k)) VT.sl132 h37 h38 (by omega) (get_setV hk) (λ a39 => ⟨⟨_, rfl⟩, rfl⟩)))))))) ?_
     refine ZA (λ γ => Zw 20 0 rfl (λ _ h39 => Zw 17 3 rfl (λ _ h36 => Ze (Zc3 h39 (λ a_39 e39 => Zn (Zg rfl rfl h36 hq36) (Za2 VT.ty134 e39 rfl z0)))))) ?_
     refine ZA (λ γ => Zf (λ _ h8 => Zw 17 4 rfl (λ _ h36 => Ze (Zn (Zg rfl rfl h36 hq36) (Zj VT.fa131_0 h8 z0))))) ?_
     refine ZA (λ γ => Zw 22 0 rfl (λ _ h41 => Zw 17 5 rfl (λ _ h36 => Ze (Zn (Zg rfl rfl h36 hq36) (Zu 0 VT.ty3 h41 rfl rfl z0))))) ?_
     refine ZA (λ γ => Zw 21 2 rfl (λ _ h40 => Zw 23 0 rfl (λ _ h42 => Zw 17 6 rfl (λ _ h36 => Ze (Zn (Zg rfl rfl h36 hq36) (Zx1 [.tmp 40, .tmp 42] rfl (Zp2 h40 (Zp2 h42 Zq2)) VT.en81 (has_c (o.at k) ((dget d v).getD (0, 0)).1 (by rw [hpp]; exact hpd.1) (by rw [hpp]; exact hpd.2)) z0)))))) ?_
     refine ZA (λ γ => Zw 17 7 rfl (λ _ h36 => Zw 24 0 rfl (λ _ h43 => Zw 12 12 rfl (λ _ h31 => Ze (Zn (Zg rfl rfl h31 rfl) (Zs1 h36 hq36 h43 z0)))))) ?_
     refine ZA (λ γ => Zw 12 13 rfl (λ _ h31 => Zw 25 0 rfl (λ _ h44 => Zw 1 24 rfl (λ _ h20 => Ze (Zn (Zg rfl rfl h20 hq20) (Zt1 h31 rfl h44 z0)))))) ?_
     refine ZA (λ γ => Zw 26 0 rfl (λ _ h45 => Zw 1 25 rfl (λ _ h20 => Ze (Zn (Zg rfl rfl h20 hq20) (Zl h45 z0))))) ?_
     refine ZA (λ γ => Zf (λ _ h5 => Zw 27 0 rfl (λ _ h46 => Ze (Zn (Zg rfl rfl h46 hq46) (Zv 5 VT.ty134 h5 rfl rfl z0))))) ?_
     refine ZA (λ γ => Zf (λ _ h2 => Zw 27 1 rfl (λ _ h46 => Ze (Zn (Zg rfl rfl h46 hq46) (Zu 2 VT.ty3 h2 rfl rfl z0))))) ?_
     refine ZA (λ γ => Zw 28 1 rfl (λ _ h47 => Zw 29 0 rfl (λ _ h48 => Zw 27 2 rfl (λ _ h46 => Ze (Zn (Zg rfl rfl h46 hq46) (Zx1 [.tmp 47, .tmp 48] rfl (Zp2 h47 (Zp2 h48 Zq2)) VT.en81 (has_n o.seen k (by omega)) z0)))))) ?_
     refine ZA (λ γ => Zw 30 0 rfl (λ _ h49 => Zw 27 3 rfl (λ _ h46 => Ze (Zn (Zg rfl rfl h46 hq46) (Zl2 h49 z0))))) ?_
     refine ZA (λ γ => Zw 27 4 rfl (λ _ h46 => Zw 31 0 rfl (λ _ h50 => Zw 1 30 rfl (λ _ h20 => Ze (Zn (Zg rfl rfl h20 hq20) (Zt1 h46 hq46 h50 z0)))))) ?_
     refine ZA (λ γ => Zw 1 31 rfl (λ _ h20 => Zw 32 0 rfl (λ _ h51 => Ze (Zn rfl (Zs1 h20 hq20 h51 z0))))) ?_
     refine ZA (λ γ => Zw 33 0 rfl (λ _ h52 => Ze (Zn rfl (Zk h52 z0)))) ?_
     refine DrawP_nil (λ γ => Zw 34 0 rfl (λ r7 h7 => Ze ?_))
     have e7 : r7 = some _ := h7
     subst e7
     clear h7
     refine Zi (Zf1 ?_)
     refine Zg1 rfl (.tmp rfl) ?_
     refine ⟨congrArg V.bool ?_, Dd (Zt2 _)⟩
     rw [hr]
     try rw [hpp]
     first | (simp_all; done) | (simp_all; omega) | (rw [hpp] at *; simp_all; done)
   .
    refine VW_drawR (G := Unit) [([], [9], []), ([0], [19], []), ([1, 0], [8, 20], []), ([2, 1, 0], [21, 20], []), ([1, 0], [2, 20], []), (dn 5, [22, 23, 20], []), (dn 6, [24, 20], []), (dn 7, [8, 25], []), (dn 8, [26, 25], []), (dn 7, [3, 25], []), (dn 10, [27, 28, 25], []), (dn 11, [25, 29, 20], []), (dn 12, [30, 20], []), (dn 13, [8, 31], []), (dn 14, [32, 31], []), (dn 13, [2, 31], []), (dn 16, [33, 34, 31], []), (dn 17, [35, 31], []), (dn 18, [4, 36], []), (dn 18, [2, 36], []), (dn 20, [37, 38, 36], []), (dn 21, [39, 36], []), (dn 18, [8, 36], []), ([22, 17, 16, 15, 14, 13, 12, 11, 10, 9, 8, 7, 6, 5, 4, 3, 2, 1, 0], [41, 36], []), (dn 24, [40, 42, 36], []), (dn 25, [36, 43, 31], []), (dn 26, [31, 44, 20], []), (dn 27, [45, 20], []), (dn 28, [5, 46], []), (dn 28, [2, 46], []), (dn 30, [47, 48, 46], []), (dn 31, [49, 46], []), (dn 32, [46, 50, 20], []), (dn 33, [20, 51], []), (dn 34, [52], [])] [] (constSt _) [7] [7, 19, 20, 21, 22, 23, 24, 25, 26, 27, 28, 29, 30, 31, 32, 33, 34, 35, 36, 37, 38, 39, 40, 41, 42, 43, 44, 45, 46, 47, 48, 49, 50, 51, 52] rfl VT.mix ?_
    refine ZA (λ γ => Zf (λ _ h9 => Ze (Zn rfl (Zl h9 z0)))) ?_
    refine ZA (λ γ => Zw 0 0 rfl (λ _ h19 => Ze (Zn rfl (Zl h19 z0)))) ?_
    refine ZA (λ γ => Zf (λ _ h8 => Zw 1 0 rfl (λ _ h20 => Ze (Zn (Zg rfl rfl h20 hq20) (Zj VT.fa131_0 h8 z0))))) ?_
    refine ZA (λ γ => Zw 2 0 rfl (λ _ h21 => Zw 1 1 rfl (λ _ h20 => Ze (Zn (Zg rfl rfl h20 hq20) (Zu 0 VT.ty3 h21 rfl rfl z0))))) ?_
    refine ZA (λ γ => Zf (λ _ h2 => Zw 1 2 rfl (λ _ h20 => Ze (Zn (Zg rfl rfl h20 hq20) (Zu 2 VT.ty3 h2 rfl rfl z0))))) ?_
    refine ZA (λ γ => Zw 3 1 rfl (λ _ h22 => Zw 4 0 rfl (λ _ h23 => Zw 1 3 rfl (λ _ h20 => Ze (Zn (Zg rfl rfl h20 hq20) (Zj1 h22 h23 rfl z0)))))) ?_
    refine ZA (λ γ => Zw 5 0 rfl (λ _ h24 => Zw 1 4 rfl (λ _ h20 => Ze (Zn (Zg rfl rfl h20 hq20) (Zl h24 z0))))) ?_
    refine ZA (λ γ => Zf (λ _ h8 => Zw 6 0 rfl (λ _ h25 => Ze (Zy2 (Zr rfl rfl h25 hq25) z0)))) ?_
    refine ZA (λ γ => Zw 7 0 rfl (λ _ h26 => Zw 6 1 rfl (λ _ h25 => Ze (Zy2 (Zr rfl rfl h25 hq25) z0)))) ?_
    refine ZA (λ γ => Zf (λ _ h3 => Zw 6 2 rfl (λ _ h25 => Ze (Zy2 (Zr rfl rfl h25 hq25) z0)))) ?_
    refine ZA (λ γ => Zw 8 1 rfl (λ _ h27 => Zw 9 0 rfl (λ _ h28 => Zw 6 3 rfl (λ _ h25 => Ze (Zy2 (Zr rfl rfl h25 hq25) z0))))) ?_
    refine ZA (λ γ => Zw 6 4 rfl (λ _ h25 => Zw 10 0 rfl (λ _ h29 => Zw 1 9 rfl (λ _ h20 => Ze (Zn (Zg rfl rfl h20 hq20) (Zt1 h25 hq25 rfl z0)))))) ?_
    refine ZA (λ γ => Zw 11 0 rfl (λ _ h30 => Zw 1 10 rfl (λ _ h20 => Ze (Zn (Zg rfl rfl h20 hq20) (Zl h30 z0))))) ?_
    refine ZA (λ γ => Zf (λ _ h8 => Zw 12 0 rfl (λ _ h31 => Ze (Zn (Zg rfl rfl h31 rfl) (Zj VT.fa131_0 h8 z0))))) ?_
    refine ZA (λ γ => Zw 13 0 rfl (λ _ h32 => Zw 12 1 rfl (λ _ h31 => Ze (Zn (Zg rfl rfl h31 rfl) (Zu 0 VT.ty3 h32 rfl rfl z0))))) ?_
    refine ZA (λ γ => Zf (λ _ h2 => Zw 12 2 rfl (λ _ h31 => Ze (Zn (Zg rfl rfl h31 rfl) (Zu 2 VT.ty3 h2 rfl rfl z0))))) ?_
    refine ZA (λ γ => Zw 14 1 rfl (λ _ h33 => Zw 15 0 rfl (λ _ h34 => Zw 12 3 rfl (λ _ h31 => Ze (Zn (Zg rfl rfl h31 rfl) (Zj1 h33 h34 rfl z0)))))) ?_
    refine ZA (λ γ => Zw 16 0 rfl (λ _ h35 => Zw 12 4 rfl (λ _ h31 => Ze (Zn (Zg rfl rfl h31 rfl) (Zl h35 z0))))) ?_
    refine ZA (λ γ => Zf (λ _ h4 => Zw 17 0 rfl (λ _ h36 => Ze (Zy2 (Zr rfl rfl h36 hq36) z0)))) ?_
    refine ZA (λ γ => Zf (λ _ h2 => Zw 17 1 rfl (λ _ h36 => Ze (Zy2 (Zr rfl rfl h36 hq36) z0)))) ?_
    refine ZA (λ γ => Zw 18 1 rfl (λ _ h37 => Zw 19 0 rfl (λ _ h38 => Zw 17 2 rfl (λ _ h36 => Ze (Zy2 (Zr rfl rfl h36 hq36) z0))))) ?_
    refine ZA (λ γ => Zw 20 0 rfl (λ _ h39 => Zw 17 3 rfl (λ _ h36 => Ze (Zy2 (Zr rfl rfl h36 hq36) z0)))) ?_
    refine ZA (λ γ => Zf (λ _ h8 => Zw 17 4 rfl (λ _ h36 => Ze (Zy2 (Zr rfl rfl h36 hq36) z0)))) ?_
    refine ZA (λ γ => Zw 22 0 rfl (λ _ h41 => Zw 17 5 rfl (λ _ h36 => Ze (Zy2 (Zr rfl rfl h36 hq36) z0)))) ?_
    refine ZA (λ γ => Zw 21 2 rfl (λ _ h40 => Zw 23 0 rfl (λ _ h42 => Zw 17 6 rfl (λ _ h36 => Ze (Zy2 (Zr rfl rfl h36 hq36) z0))))) ?_
    refine ZA (λ γ => Zw 17 7 rfl (λ _ h36 => Zw 24 0 rfl (λ _ h43 => Zw 12 12 rfl (λ _ h31 => Ze (Zn (Zg rfl rfl h31 rfl) (Zt1 h36 hq36 rfl z0)))))) ?_
    refine ZA (λ γ => Zw 12 13 rfl (λ _ h31 => Zw 25 0 rfl (λ _ h44 => Zw 1 24 rfl (λ _ h20 => Ze (Zn (Zg rfl rfl h20 hq20) (Zt1 h31 rfl h44 z0)))))) ?_
    refine ZA (λ γ => Zw 26 0 rfl (λ _ h45 => Zw 1 25 rfl (λ _ h20 => Ze (Zn (Zg rfl rfl h20 hq20) (Zl h45 z0))))) ?_
    refine ZA (λ γ => Zf (λ _ h5 => Zw 27 0 rfl (λ _ h46 => Ze (Zn (Zg rfl rfl h46 rfl) (Zv 5 VT.ty134 h5 rfl rfl z0))))) ?_
    refine ZA (λ γ => Zf (λ _ h2 => Zw 27 1 rfl (λ _ h46 => Ze (Zn (Zg rfl rfl h46 rfl) (Zu 2 VT.ty3 h2 rfl rfl z0))))) ?_
    refine ZA (λ γ => Zw 28 1 rfl (λ _ h47 => Zw 29 0 rfl (λ _ h48 => Zw 27 2 rfl (λ _ h46 => Ze (Zn (Zg rfl rfl h46 rfl) (Zx1 [.tmp 47, .tmp 48] rfl (Zp2 h47 (Zp2 h48 Zq2)) VT.en81 (has_n o.seen k (by omega)) z0)))))) ?_
    refine ZA (λ γ => Zw 30 0 rfl (λ _ h49 => Zw 27 3 rfl (λ _ h46 => Ze (Zn (Zg rfl rfl h46 rfl) (Zl2 h49 z0))))) ?_
    refine ZA (λ γ => Zw 27 4 rfl (λ _ h46 => Zw 31 0 rfl (λ _ h50 => Zw 1 30 rfl (λ _ h20 => Ze (Zn (Zg rfl rfl h20 hq20) (Zt1 h46 rfl h50 z0)))))) ?_
    refine ZA (λ γ => Zw 1 31 rfl (λ _ h20 => Zw 32 0 rfl (λ _ h51 => Ze (Zn rfl (Zs1 h20 hq20 h51 z0))))) ?_
    refine ZA (λ γ => Zw 33 0 rfl (λ _ h52 => Ze (Zn rfl (Zk h52 z0)))) ?_
    refine DrawP_nil (λ γ => Zw 34 0 rfl (λ r7 h7 => Ze ?_))
    have e7 : r7 = some _ := h7
    subst e7
    clear h7
    refine Zi (Zf1 ?_)
    refine Zg1 rfl (.tmp rfl) ?_
    refine ⟨congrArg V.bool ?_, Dd (Zt2 _)⟩
    rw [hr]
    try rw [hpp]
    first | (simp_all; done) | (simp_all; omega) | (rw [hpp] at *; simp_all; done)
 .
  refine VW_drawR (G := Unit) [([], [9], []), ([0], [19], []), ([1, 0], [8, 20], []), ([2, 1, 0], [21, 20], []), ([1, 0], [2, 20], []), (dn 5, [22, 23, 20], []), (dn 6, [24, 20], []), (dn 7, [8, 25], []), (dn 8, [26, 25], []), (dn 7, [3, 25], []), (dn 10, [27, 28, 25], []), (dn 11, [25, 29, 20], []), (dn 12, [30, 20], []), (dn 13, [8, 31], []), (dn 14, [32, 31], []), (dn 13, [2, 31], []), (dn 16, [33, 34, 31], []), (dn 17, [35, 31], []), (dn 18, [4, 36], []), (dn 18, [2, 36], []), (dn 20, [37, 38, 36], []), (dn 21, [39, 36], []), (dn 18, [8, 36], []), ([22, 17, 16, 15, 14, 13, 12, 11, 10, 9, 8, 7, 6, 5, 4, 3, 2, 1, 0], [41, 36], []), (dn 24, [40, 42, 36], []), (dn 25, [36, 43, 31], []), (dn 26, [31, 44, 20], []), (dn 27, [45, 20], []), (dn 28, [5, 46], []), (dn 28, [2, 46], []), (dn 30, [47, 48, 46], []), (dn 31, [49, 46], []), (dn 32, [46, 50, 20], []), (dn 33, [20, 51], []), (dn 34, [52], [])] [] (constSt _) [7] [7, 19, 20, 21, 22, 23, 24, 25, 26, 27, 28, 29, 30, 31, 32, 33, 34, 35, 36, 37, 38, 39, 40, 41, 42, 43, 44, 45, 46, 47, 48, 49, 50, 51, 52] rfl VT.mix ?_
  refine ZA (λ γ => Zf (λ _ h9 => Ze (Zn rfl (Zl h9 z0)))) ?_
  refine ZA (λ γ => Zw 0 0 rfl (λ _ h19 => Ze (Zn rfl (Zl h19 z0)))) ?_
  refine ZA (λ γ => Zf (λ _ h8 => Zw 1 0 rfl (λ _ h20 => Ze (Zy2 (Zr rfl rfl h20 hq20) z0)))) ?_
  refine ZA (λ γ => Zw 2 0 rfl (λ _ h21 => Zw 1 1 rfl (λ _ h20 => Ze (Zy2 (Zr rfl rfl h20 hq20) z0)))) ?_
  refine ZA (λ γ => Zf (λ _ h2 => Zw 1 2 rfl (λ _ h20 => Ze (Zy2 (Zr rfl rfl h20 hq20) z0)))) ?_
  refine ZA (λ γ => Zw 3 1 rfl (λ _ h22 => Zw 4 0 rfl (λ _ h23 => Zw 1 3 rfl (λ _ h20 => Ze (Zy2 (Zr rfl rfl h20 hq20) z0))))) ?_
  refine ZA (λ γ => Zw 5 0 rfl (λ _ h24 => Zw 1 4 rfl (λ _ h20 => Ze (Zy2 (Zr rfl rfl h20 hq20) z0)))) ?_
  refine ZA (λ γ => Zf (λ _ h8 => Zw 6 0 rfl (λ _ h25 => Ze (Zz2 rfl rfl h25 z0)))) ?_
  refine ZA (λ γ => Zw 7 0 rfl (λ _ h26 => Zw 6 1 rfl (λ _ h25 => Ze (Zz2 rfl rfl h25 z0)))) ?_
  refine ZA (λ γ => Zf (λ _ h3 => Zw 6 2 rfl (λ _ h25 => Ze (Zz2 rfl rfl h25 z0)))) ?_
  refine ZA (λ γ => Zw 8 1 rfl (λ _ h27 => Zw 9 0 rfl (λ _ h28 => Zw 6 3 rfl (λ _ h25 => Ze (Zz2 rfl rfl h25 z0))))) ?_
  refine ZA (λ γ => Zw 6 4 rfl (λ _ h25 => Zw 10 0 rfl (λ _ h29 => Zw 1 9 rfl (λ _ h20 => Ze (Zy2 (Zr rfl rfl h20 hq20) z0))))) ?_
  refine ZA (λ γ => Zw 11 0 rfl (λ _ h30 => Zw 1 10 rfl (λ _ h20 => Ze (Zy2 (Zr rfl rfl h20 hq20) z0)))) ?_
  refine ZA (λ γ => Zf (λ _ h8 => Zw 12 0 rfl (λ _ h31 => Ze (Zz2 rfl rfl h31 z0)))) ?_
  refine ZA (λ γ => Zw 13 0 rfl (λ _ h32 => Zw 12 1 rfl (λ _ h31 => Ze (Zz2 rfl rfl h31 z0)))) ?_
  refine ZA (λ γ => Zf (λ _ h2 => Zw 12 2 rfl (λ _ h31 => Ze (Zz2 rfl rfl h31 z0)))) ?_
  refine ZA (λ γ => Zw 14 1 rfl (λ _ h33 => Zw 15 0 rfl (λ _ h34 => Zw 12 3 rfl (λ _ h31 => Ze (Zz2 rfl rfl h31 z0))))) ?_
  refine ZA (λ γ => Zw 16 0 rfl (λ _ h35 => Zw 12 4 rfl (λ _ h31 => Ze (Zz2 rfl rfl h31 z0)))) ?_
  refine ZA (λ γ => Zf (λ _ h4 => Zw 17 0 rfl (λ _ h36 => Ze (Zz2 rfl rfl h36 z0)))) ?_
  refine ZA (λ γ => Zf (λ _ h2 => Zw 17 1 rfl (λ _ h36 => Ze (Zz2 rfl rfl h36 z0)))) ?_
  refine ZA (λ γ => Zw 18 1 rfl (λ _ h37 => Zw 19 0 rfl (λ _ h38 => Zw 17 2 rfl (λ _ h36 => Ze (Zz2 rfl rfl h36 z0))))) ?_
  refine ZA (λ γ => Zw 20 0 rfl (λ _ h39 => Zw 17 3 rfl (λ _ h36 => Ze (Zz2 rfl rfl h36 z0)))) ?_
  refine ZA (λ γ => Zf (λ _ h8 => Zw 17 4 rfl (λ _ h36 => Ze (Zz2 rfl rfl h36 z0)))) ?_
  refine ZA (λ γ => Zw 22 0 rfl (λ _ h41 => Zw 17 5 rfl (λ _ h36 => Ze (Zz2 rfl rfl h36 z0)))) ?_
  refine ZA (λ γ => Zw 21 2 rfl (λ _ h40 => Zw 23 0 rfl (λ _ h42 => Zw 17 6 rfl (λ _ h36 => Ze (Zz2 rfl rfl h36 z0))))) ?_
  refine ZA (λ γ => Zw 17 7 rfl (λ _ h36 => Zw 24 0 rfl (λ _ h43 => Zw 12 12 rfl (λ _ h31 => Ze (Zz2 rfl rfl h31 z0))))) ?_
  refine ZA (λ γ => Zw 12 13 rfl (λ _ h31 => Zw 25 0 rfl (λ _ h44 => Zw 1 24 rfl (λ _ h20 => Ze (Zy2 (Zr rfl rfl h20 hq20) z0))))) ?_
  refine ZA (λ γ => Zw 26 0 rfl (λ _ h45 => Zw 1 25 rfl (λ _ h20 => Ze (Zy2 (Zr rfl rfl h20 hq20) z0)))) ?_
  refine ZA (λ γ => Zf (λ _ h5 => Zw 27 0 rfl (λ _ h46 => Ze (Zz2 rfl rfl h46 z0)))) ?_
  refine ZA (λ γ => Zf (λ _ h2 => Zw 27 1 rfl (λ _ h46 => Ze (Zz2 rfl rfl h46 z0)))) ?_
  refine ZA (λ γ => Zw 28 1 rfl (λ _ h47 => Zw 29 0 rfl (λ _ h48 => Zw 27 2 rfl (λ _ h46 => Ze (Zz2 rfl rfl h46 z0))))) ?_
  refine ZA (λ γ => Zw 30 0 rfl (λ _ h49 => Zw 27 3 rfl (λ _ h46 => Ze (Zz2 rfl rfl h46 z0)))) ?_
  refine ZA (λ γ => Zw 27 4 rfl (λ _ h46 => Zw 31 0 rfl (λ _ h50 => Zw 1 30 rfl (λ _ h20 => Ze (Zy2 (Zr rfl rfl h20 hq20) z0))))) ?_
  refine ZA (λ γ => Zw 1 31 rfl (λ _ h20 => Zw 32 0 rfl (λ _ h51 => Ze (Zn rfl (Zt1 h20 hq20 rfl z0))))) ?_
  refine ZA (λ γ => Zw 33 0 rfl (λ _ h52 => Ze (Zn rfl (Zk h52 z0)))) ?_
  refine DrawP_nil (λ γ => Zw 34 0 rfl (λ r7 h7 => Ze ?_))
  have e7 : r7 = some _ := h7
  subst e7
  clear h7
  refine Zi (Zf1 ?_)
  refine Zg1 rfl (.tmp rfl) ?_
  refine ⟨congrArg V.bool ?_, Dd (Zt2 _)⟩
  rw [hr]
  try rw [hpp]
  first | (simp_all; done) | (simp_all; omega) | (rw [hpp] at *; simp_all; done)
theorem block_c (gc gm : Nat) (name : Int) (bs : List SBlock) (k : Nat) (b : SBlock) (hb : bs[k]? = some b) (d : Defs) : VCalls Tryz.prog 47 [.ptr gc 0, .int k] [.cells gc 91 [.int name, blocksX bs, .raw (.map (some gm))], .map gm (kmap kint (encD d))] λ r S' => r = .int (blockF bs k b d).1 /\ S' = [.cells gc 91 [.int name, blocksX bs, .raw (.map (some gm))], .map gm (kmap kint (encD (blockF bs k b d).2))] := by
 refine VCalls_drops ?_
 have hr := blockF.eq_def bs k b d
 refine V_start (nt := 69) Tryz.func47 rfl rfl rfl ?_
 refine Zb (Zd (Zc (Zk rfl (Za (Zi (Zb (Zd (Zc (Zl rfl (Zc (Zv1 rfl (Zc (Zj VT.fa91_0 rfl (Zc (Zj VT.fa31_1 rfl (Zc (Zu 0 VT.ty29 rfl rfl rfl (Zc (Zl rfl ?_)))))))))))))))))))
 refine Zc (Zz (el := blockV b) VT.sl29 rfl rfl (by omega) (get_mapS _ hb) (λ a19 => ?_))
 refine Zc (Za2 VT.ty40 rfl rfl ?_)
 refine Zc (Zb2 VT.zr40 _ rfl rfl (λ g5 => ?_))
 refine Zc (Zx 0 VT.ty40 rfl rfl rfl rfl rfl (Za (Zi (Zb (Zb (Zd (Zc (Zj VT.fa40_0 rfl (Zc (Zu 0 VT.ty32 rfl rfl rfl ?_))))))))))
 refine Zc (Zd2 (n := b.params.length) Tryz.underlying32 rfl (by simp) (λ hl23 => ?_))
 refine Zc (Zl rfl (Za (Zi (Zs ?_))))
 refine Zi2 (ι := Nat × Defs) (λ (j, e) => b.params.length - j) (λ (j, e) => [(0, some (.ptr gc 0)), (1, some (.int k)), (5, some (.ptr g5 0)), (22, some (intsX b.params)), (23, some (.int b.params.length)), (24, some (.int j))]) (λ (j, e) => [.cells g5 40 (blockV b).leaves, .cells gc 91 [.int name, blocksX bs, .raw (.map (some gm))], .map gm (kmap kint (encD e))]) (λ (j, e) => j <= b.params.length /\ paramsF k (b.params.drop j) e = paramsF k b.params d) (0, d) ⟨Yf _, rfl⟩ ⟨rfl, rfl, rfl, rfl, rfl, rfl, trivial⟩ (Dk (Dk (Dk (Zt2 _)))) ?_
 rintro ⟨j, e⟩ hA
 change j <= b.params.length /\ paramsF k (b.params.drop j) e = paramsF k b.params d at hA
 obtain ⟨hj, hq⟩ := hA
 refine Zb (Zd (Zc (Zj1 rfl rfl rfl (Za (Zi (Zb ?_))))))
 refine Zn1 rfl (λ h25 => ?_) (λ h25 => ?_)
 .
  obtain ⟨p, hp⟩ := get_of_lt b.params j h25
  refine Zi1 (Zi (Zb (Zs (Zb (Zd ?_)))))
  refine Zc (Zz (el := V.int p) VT.sl32 rfl rfl (by omega) (get_int hp) (λ a26 => ?_))
  refine Zc (Zz1 VT.ty3 rfl rfl (Zc (Zk rfl (Za (Zi (Zb (Zd (Zc (Zl rfl (Zc (Zl rfl (Zc (Zl rfl ?_)))))))))))))
  refine Zc (Zf2 [0, 1] [.tmp 30, .const (.int .i64 (0))] VT.st131 rfl rfl rfl rfl ?_)
  refine Zc (Zm3 [.tmp 28, .tmp 29, .tmp 31] _ _ rfl rfl VT.en78 ((Zv2 (i := 1) rfl).trans (.cons _ ((Zv2 (i := 1) rfl).trans (.cons _ (.refl _))))) (define_c gc gm name bs p (k, 0) e) ?_)
  rintro r Sa ⟨rfl, rfl⟩
  refine Zc (Zk rfl (Za (Zi (Zb (Zd (Zc (Zl rfl (Zc (Zj1 rfl rfl rfl (Za (Zi ?_)))))))))))
  refine Zm1 rfl (λ h34 => ?_) (λ h34 => ?_)
  .
   have hpe : paramsF k b.params d = defineF p (k, 0) e := by rw [<- hq, drop_cons hp, paramsF, if_pos h34]
   rw [hpe, if_pos h34] at hr
   refine Zb (Zd (Zc (Zl rfl (Zc (Zk rfl (Za (Zi (Zf1 ?_))))))))
   refine Za1 (Zd1 (Zd1 (Za1 (Zd1 (Zg1 rfl (.tmp rfl) ?_)))))
   exact ⟨_, (Dk (Dk (Dd (Zt2 _)))), by rw [hr], by rw [hr]; first | done | rfl⟩
  .
   refine Zi1 (Zb1 (Zi (Zd ?_)))
   refine Zc (Zh2 rfl rfl (by omega) ?_)
   refine Zc (Zl rfl (Za (Zi ?_)))
   exact ⟨(j + 1, (defineF p (k, 0) e).2), (by (try simp only []); omega), ⟨by omega, by rw [<- hq, drop_cons hp, paramsF, if_neg (by rw [h34]; decide)]⟩, ⟨rfl, rfl, rfl, rfl, rfl, rfl, trivial⟩, (Drops.pick 2 rfl rfl (Drops.pick 0 rfl rfl (Drops.pick 0 rfl rfl (Drops.nil _))))⟩
 .
  have hje : j = b.params.length := by omega
  subst hje
  rw [Yc, paramsF] at hq
  rw [<- hq, if_neg (show ¬ ((0 : Int) ≠ 0) by decide)] at hr
  refine Zt (Ze1 (Ze1 (Zc1 (Zi (Zb (Zb (Zd (Zc (Zj VT.fa40_1 rfl (Zc (Zu 0 VT.ty35 rfl rfl rfl ?_)))))))))))
  refine Zc (Zd2 (n := b.ins.length) Tryz.underlying35 rfl (by simp) (λ hl39 => ?_))
  refine Zc (Zl rfl (Za (Zi (Zs ?_))))
  refine Zi2 (ι := Nat × Defs) (λ (j, f) => b.ins.length - j) (λ (j, f) => [(0, some (.ptr gc 0)), (1, some (.int k)), (5, some (.ptr g5 0)), (38, some (inssX b.ins)), (39, some (.int b.ins.length)), (40, some (.int j))]) (λ (j, f) => [.cells g5 40 (blockV b).leaves, .cells gc 91 [.int name, blocksX bs, .raw (.map (some gm))], .map gm (kmap kint (encD f))]) (λ (j, f) => j <= b.ins.length /\ inssF k j (b.ins.drop j) f = inssF k 0 b.ins e) (0, e) ⟨Yf _, rfl⟩ ⟨rfl, rfl, rfl, rfl, rfl, rfl, trivial⟩ (Dk (Dk (Dk (Zt2 _)))) ?_
  rintro ⟨j, f⟩ hA2
  change j <= b.ins.length /\ inssF k j (b.ins.drop j) f = inssF k 0 b.ins e at hA2
  obtain ⟨hj, hq2⟩ := hA2
  refine Zb (Zd (Zc (Zj1 rfl rfl rfl (Za (Zi (Zb ?_))))))
  refine Zn1 rfl (λ h41 => ?_) (λ h41 => ?_)
  .
   obtain ⟨i, hi⟩ := get_of_lt b.ins j h41
   refine Zi1 (Zi (Zb (Zs (Zb (Zd (Zc (Zl rfl ?_)))))))
   refine Zc (Zz (el := insV i) VT.sl35 rfl rfl (by omega) (get_mapS _ hi) (λ a43 => ?_))
   refine Zc (Za2 VT.ty42 rfl rfl ?_)
   refine Zc (Zb2 VT.zr42 _ rfl rfl (λ g10 => ?_))
   refine Zc (Zk rfl (Zc (Zx 0 VT.ty42 rfl rfl rfl rfl rfl (Za (Zi (Zb (Zb (Zd (Zc (Zl rfl (Zc (Zj VT.fa42_0 rfl (Zc (Zu 0 VT.ty3 rfl rfl rfl (Zc (Zl rfl (Zc (Zl rfl ?_))))))))))))))))))
   refine Zc (Zh2 rfl rfl (by omega) ?_)
   refine Zc (Zf2 [0, 1] [.tmp 48, .tmp 50] VT.st131 rfl rfl rfl rfl ?_)
   refine Zc (Zm3 [.tmp 45, .tmp 47, .tmp 51] _ _ rfl rfl VT.en78 ((Zv2 (i := 2) rfl).trans (.cons _ ((Zv2 (i := 2) rfl).trans (.cons _ (.refl _))))) (define_c gc gm name bs i.to (k, (j : Int) + 1) f) ?_)
   rintro r Sa ⟨rfl, rfl⟩
   refine Zc (Zk rfl (Za (Zi (Zb (Zd (Zc (Zl rfl (Zc (Zj1 rfl rfl rfl (Za (Zi ?_)))))))))))
   refine Zm1 rfl (λ h54 => ?_) (λ h54 => ?_)
   .
    have hpe : inssF k 0 b.ins e = defineF i.to (k, (j : Int) + 1) f := by rw [<- hq2, drop_cons hi, inssF, if_pos h54]
    rw [hpe, if_pos h54] at hr
    refine Zb (Zd (Zc (Zl rfl (Zc (Zk rfl (Za (Zi (Zf1 ?_))))))))
    refine Zd1 (Za1 (Zd1 (Zd1 (Za1 (Zd1 (Zg1 rfl (.tmp rfl) ?_))))))
    exact ⟨_, (Dk (Dk (Dd (Dd (Zt2 _))))), by rw [hr], by rw [hr]; first | done | rfl⟩
   .
    refine Zi1 (Zi (Zb (Zd (Zc (Zv 2 VT.ty42 rfl rfl rfl ?_)))))
    refine Zc (Zx1 [.tmp 56] rfl rfl VT.en75 (form_c i) ?_)
    refine Zc (Zk rfl (Za (Zi (Zb (Zd (Zc (Zl rfl (Zc (Zj1 rfl rfl rfl (Za (Zi ?_)))))))))))
    refine Zm1 rfl (λ h59 => ?_) (λ h59 => ?_)
    .
     have hpe : inssF k 0 b.ins e = (formF i, (defineF i.to (k, (j : Int) + 1) f).2) := by rw [<- hq2, drop_cons hi, inssF, if_neg (by rw [h54]; decide), if_pos h59]
     rw [hpe, if_pos h59] at hr
     refine Zb (Zd (Zc (Zl rfl (Zc (Zk rfl (Za (Zi (Zf1 ?_))))))))
     refine Za1 (Zd1 (Zd1 (Za1 (Zd1 (Zg1 rfl (.tmp rfl) ?_)))))
     exact ⟨_, (Dk (Dk (Dd (Dd (Zt2 _))))), by rw [hr], by rw [hr]; first | done | rfl⟩
    .
     refine Zi1 (Zb1 (Zi (Zd ?_)))
     refine Zc (Zh2 rfl rfl (by omega) ?_)
     refine Zc (Zl rfl (Za (Zi ?_)))
     exact ⟨(j + 1, (defineF i.to (k, (j : Int) + 1) f).2), (by (try simp only []); omega), ⟨by omega, by rw [<- hq2, drop_cons hi, inssF, if_neg (by rw [h54]; decide), if_neg (by rw [h59]; decide)]; rfl⟩, ⟨rfl, rfl, rfl, rfl, rfl, rfl, trivial⟩, (Drops.pick 3 rfl rfl (Drops.pick 0 rfl rfl (Drops.pick 0 rfl rfl (Drops.nil _))))⟩
  .
   have hje : j = b.ins.length := by omega
   subst hje
   rw [Yc, inssF] at hq2
   rw [<- hq2, if_neg (show ¬ ((0 : Int) ≠ 0) by decide)] at hr
   refine Zt (Ze1 (Ze1 (Zc1 (Zi (Zb ?_)))))
   refine VW_drawR (G := Unit) [([], [0], []), ([0], [62], []), ([1, 0], [63], []), ([2, 1, 0], [64], []), ([], [5], []), ([4], [66], []), (dn 6, [65, 67], []), (dn 7, [68], [])] [] (constSt _) [4] [4, 62, 63, 64, 65, 66, 67, 68] rfl VT.mix ?_
   refine ZA (λ γ => Zf (λ _ h0 => Ze (Zn rfl (Zl h0 z0)))) ?_
   refine ZA (λ γ => Zw 0 0 rfl (λ _ h62 => Ze (Zn rfl (Zv1 h62 z0)))) ?_
   refine ZA (λ γ => Zw 1 0 rfl (λ _ h63 => Ze (Zn rfl (Zj VT.fa91_0 h63 z0)))) ?_
   refine ZA (λ γ => Zw 2 0 rfl (λ _ h64 => Ze (Zn rfl (Zv 1 VT.ty31 h64 rfl rfl z0)))) ?_
   refine ZA (λ γ => Zf (λ _ h5 => Ze (Zn rfl (Zj VT.fa40_2 h5 z0)))) ?_
   refine ZA (λ γ => Zw 4 0 rfl (λ _ h66 => Ze (Zn rfl (Zv 0 VT.ty38 h66 rfl rfl z0)))) ?_
   refine ZA (λ γ => Zw 3 2 rfl (λ _ h65 => Zw 5 0 rfl (λ _ h67 => Ze (Zn rfl (Zx1 [.tmp 65, .tmp 67] rfl (Zp2 h65 (Zp2 h67 Zq2)) VT.en46 (end_c name bs b.term) z0))))) ?_
   refine ZA (λ γ => Zw 6 0 rfl (λ _ h68 => Ze (Zn rfl (Zk h68 z0)))) ?_
   refine DrawP_nil (λ γ => Zw 7 0 rfl (λ r4 h4 => Ze ?_))
   have e4 : r4 = some _ := h4
   subst e4
   clear h4
   refine Zi (Zf1 ?_)
   refine Zg1 rfl (.tmp rfl) ?_
   exact ⟨_, (Dd (Dk (Dk (Zt2 _)))), by rw [hr], by rw [hr]; first | done | rfl⟩
end Go.Proofs.YthlflmmnankhhaaGreat.X3
