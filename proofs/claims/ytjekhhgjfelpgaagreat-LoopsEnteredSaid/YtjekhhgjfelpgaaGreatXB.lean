import Derived.Test.YtjekhhgjfelpgaaGreatX20
set_option linter.all false
open List renaming length_map → Ya, length_append → Yb, append_assoc → Yc, map_append → Yd, append_nil → Ye, mem_map → Yf, length_singleton → Yg, length_cons → Yh, mem_of_getElem? → Yi, drop_length → Yj, getElem?_append_right → Yk, length_nil → Yl
open Nat renaming zero_le → Ym, le_refl → Yn
section
namespace Go.Proofs.YtjekhhgjfelpgaaGreat.X22
open Go.VL Go.SM Go.Proofs.YtjekhhgjfelpgaaGreat XS X1 X2 X3 X4 X5 X6 X7 X8 X9 X10 X12 X13 X14 X20
theorem climb_nx {bs : List SBlock} (ho : OrderOk bs (orderF bs)) {ov : List Int} (h : Tree bs ov) {v m : Nat} {y : Int} (hv : InT bs ov v) (hy : ov[v]? = some y) (hp : pos bs v < m + 1) : y = -1 ∨ ∃ w : Nat, y = w ∧ InT bs ov w ∧ pos bs w < m := by
 by_cases h0 : v = 0
 ·subst h0
  rw [h.root] at hy
  injection hy with hy
  exact .inl hy.symm
 ·obtain ⟨q, hq, hi, hp2⟩ := h.parent ho hv h0
  rw [hq] at hy
  injection hy with hy
  exact .inr ⟨q, hy.symm, hi, by omega⟩
def pairV (p : Int × Int) : V := .agg [.int p.1, .int p.2]
abbrev pairsX (l : List (Int × Int)) : V := .sl 2 none (l.map pairV)
def backsX (f : SFunc) : V := if funcF f = 0 then .tup [pairsX (backsF f), .int 0] else .tup [pairsX [], .int (funcF f)]
theorem over_cons {p : SEdge → Bool} {e : SEdge} {l : List SEdge} {k : Int} : ((e :: l).filter p).map (fun e => (k, e.block)) = (if p e = true then [(k, e.block)] else []) ++ (l.filter p).map fun e => (k, e.block) := by
 rw [List.filter_cons]
 split <;> rfl
theorem sort_nil : VPure Tryz.prog 33 [.sl 1 none []] (.raw (.tuple #[])) := fun m w us hu hw => by
 obtain ⟨u, us', rfl, ⟨A, cap, hu1, _⟩, hu2⟩ := hu
 have hu2 : us' = [] := hu2
 have hu1 : u = .slice A 0 cap := hu1
 subst hu1 hu2
 exact (Any.slices_Sort_int_none XS.lays A cap w).mono fun e w' ⟨h1, h2⟩ => ⟨_, [], m, .tuple #[], rfl, h1, rfl, by rw [h2]; exact Step.refl hw⟩
set_option maxRecDepth 100000 in
theorem over_c {f : SFunc} (h : funcF f = 0) (a : Int) {b : Nat} (hb : b ∈ orderF f.blocks) : VPure Tryz.prog 53 [intsX (treeF f.blocks), .int a, .int b] (.bool (overZ f a b)) := by
 have hok := func_ok h
 have ho := order_ok hok.pos hok.edges
 have ht := tree_ok ho hok.edges
 have htl := ht.inv.tree.len
 have hin := ht.all b hb
 refine V_start (nt := 21) Tryz.func53 rfl rfl rfl ?_
 refine Zb (Zd (Zc (Zk rfl (Za (Zi (Zb (Zs ?_)))))))
 refine Zi2 (ι := Nat × Int) (fun (n, x) => n) (fun (n, x) => [(0, some (intsX (treeF f.blocks))), (1, some (.int a)), (2, some (.int x))]) (fun (n, x) => []) (fun (n, x) => climbB (treeF f.blocks) n a x = overZ f a b ∧ (x = -1 ∨ ∃ v : Nat, x = v ∧ InT f.blocks (treeF f.blocks) v ∧ pos f.blocks v < n)) (f.blocks.length + 1, (b : Int)) ⟨rfl, .inr ⟨b, rfl, hin, by have := pos_lt ho hin.1; omega⟩⟩ ⟨rfl, rfl, rfl, trivial⟩ (Drops.nil _) ?_
 rintro ⟨n, x⟩ hA
 change climbB (treeF f.blocks) n a x = overZ f a b ∧ (x = -1 ∨ ∃ v : Nat, x = v ∧ InT f.blocks (treeF f.blocks) v ∧ pos f.blocks v < n) at hA
 obtain ⟨hq, hx⟩ := hA
 refine Zb (Zb (Zd (Zc (Zl rfl (Zc (Zj1 rfl rfl rfl (Zc (Zl rfl ?_))))))))
 refine Zj2 (q := 9) rfl (fun hq9 => ?_) (fun hq9 => ?_)
 ·
  have h9 : x ≥ 0 := of_decide_eq_true hq9
  refine Zc (Zl rfl ?_) (Zy1 hq9)
  refine Zc (Zl rfl ?_) (Zy1 hq9)
  refine Zc (Zj1 rfl rfl rfl ?_) (Zy1 hq9)
  refine Zc (Zs1 rfl hq9 rfl ?_)
  refine Za (Zi ?_)
  refine Zm1 rfl (fun h13 => ?_) (fun h13 => ?_)
  ·
   obtain ⟨v, rfl, hin2, hpv⟩ := hx.resolve_left (by omega)
   obtain ⟨m, rfl⟩ : ∃ m, n = m + 1 := ⟨n - 1, by omega⟩
   rw [climbB, if_pos ⟨h9, h13⟩] at hq
   obtain ⟨y, hy⟩ := get_of_lt (treeF f.blocks) v (by have := ho.lt v hin2.1; omega)
   have hgy := gI_get ho hy
   rw [hgy] at hq
   have hq2 := hq
   have hy2 : y = -1 ∨ ∃ w : Nat, y = w ∧ InT f.blocks (treeF f.blocks) w ∧ pos f.blocks w < m := climb_nx ho ht.inv.tree hin2 hy hpv
   refine Zi1 (Zi (Zs (Zd (Zc (Zl rfl (Zc (Zl rfl ?_)))))))
   refine Zc (Zz (el := V.int y) VT.sl41 rfl rfl (by omega) (get_int hy) (fun a16 => ?_))
   refine Zc (Zz1 VT.ty3 rfl rfl (Zc (Zk rfl (Za (Zb1 (Zi ?_))))))
   exact ⟨(m, y), (by (try simp only []); omega), ⟨hq2, hy2⟩, ⟨rfl, rfl, rfl, trivial⟩, (Drops.nil _)⟩
  ·
   have hfin : overZ f a b = decide (x = a) := by rw [← hq]; cases n with
        | zero => rfl
        | succ n => rw [climbB, if_neg (fun h => h.2 h13)]
   refine Zt (Ze1 (Ze1 (Zc1 (Zi (Zb (Zd (Zc (Zl rfl (Zc (Zl rfl (Zc (Zj1 rfl rfl rfl (Zc (Zk rfl (Za (Zi (Zf1 ?_)))))))))))))))))
   refine Zg1 rfl (.tmp rfl) ?_
   rw [hfin]; exact congrArg V.bool (by rw [Bool.eq_iff_iff, beq_iff_eq, decide_eq_true_eq]; omega)
 ·
  have h9 : ¬ x ≥ 0 := of_decide_eq_false hq9
  refine Zk1 hq9 ?_
  refine Zk1 hq9 ?_
  refine Zk1 hq9 ?_
  refine Zc (Zt1 rfl hq9 rfl ?_)
  refine Za (Zi ?_)
  refine Zq1 rfl rfl ?_
  have hfin : overZ f a b = decide (x = a) := by rw [← hq]; cases n with
        | zero => rfl
        | succ n => rw [climbB, if_neg (fun h => h9 h.1)]
  refine Zt (Ze1 (Ze1 (Zc1 (Zi (Zb (Zd (Zc (Zl rfl (Zc (Zl rfl (Zc (Zj1 rfl rfl rfl (Zc (Zk rfl (Za (Zi (Zf1 ?_)))))))))))))))))
  refine Zg1 rfl (.tmp rfl) ?_
  rw [hfin]; exact congrArg V.bool (by rw [Bool.eq_iff_iff, beq_iff_eq, decide_eq_true_eq]; omega)
set_option maxRecDepth 100000 in
theorem ReachE_c {f : SFunc} (h0 : funcF f ≠ 0) : VPure Tryz.prog 30 [funcV f] (.tup [intsX [], .int (funcF f)]) := by
 have hO := Order_c f
 rw [if_neg h0] at hO
 refine V_start (nt := 15) Tryz.func30 rfl rfl rfl ?_
 refine Zb (Zd ?_)
 refine Zc (Zc2 rfl rfl (fun g1 => ?_))
 refine Zc (Zk rfl (Zc (Zk rfl (Za (Zi (Zb (Zd (Zc (Zv 0 VT.ty34 rfl rfl rfl ?_)))))))))
 refine Zc (Zu2 (Zx1 [.tmp 7] rfl rfl VT.en54 (hO) ⟨rfl, rfl⟩) ((V.le.refl _ : V.le _ (.tup [intsX [], .int (funcF f)]))) ?_)
 refine Zc (Zl rfl (Zc (Zg2 rfl rfl (Zc (Zg2 rfl rfl (Zc (Zk rfl (Zc (Zk rfl (Za (Zi (Zb (Zd (Zc (Zl rfl ?_)))))))))))))))
 refine Zc (Zx1 [.tmp 11] rfl rfl VT.en33 (sort_nil) ?_)
 refine Za (Zi (Zb (Zd (Zc (Zl rfl (Zc (Zl rfl (Zc (Zk rfl (Zc (Zk rfl (Za (Zi (Zf1 ?_))))))))))))))
 refine Zh1 rfl rfl (.cons (.tmp rfl) (.cons (.tmp rfl) (.nil))) ?_
 rfl
set_option maxRecDepth 100000 in
set_option maxHeartbeats 8000000 in
theorem backs_c (f : SFunc) : VPure Tryz.prog 29 [funcV f] (backsX f) := by
 have hr := backsX.eq_def f
 refine V_start (nt := 59) Tryz.func29 rfl rfl rfl ?_
 refine Zb (Zd ?_)
 refine Zc (Zc2 rfl rfl (fun g1 => ?_))
 refine Zc (Zk rfl (Zc (Zk rfl (Za (Zi (Zb (Zd (Zc (Zv 0 VT.ty34 rfl rfl rfl ?_)))))))))
 by_cases h0 : funcF f = 0
 ·
  rw [if_pos h0] at hr
  have hok := func_ok h0
  have h128 := hok.len
  have ho := order_ok hok.pos hok.edges
  have hrl := reach_len f
  have hol := nodup_lt ho.nodup ho.lt
  have hT := Tree_c f
  rw [if_pos h0, h0] at hT
  refine Zc (Zx1 [.tmp 14] rfl rfl VT.en30 (Reachable_c h0) ?_)
  refine Zc (Zl rfl (Zc (Zg2 rfl rfl (Zc (Zg2 rfl rfl (Zc (Zk rfl (Zc (Zk rfl (Za (Zi (Zb (Zb (Zd (Zc (Zl rfl (Zc (Zj1 rfl rfl rfl (Za (Zi ?_))))))))))))))))))))
  refine Zm1 rfl (fun h19 => ?_) (fun h19 => ?_)
  · exact absurd rfl h19
  ·
   refine Zi1 (Zi (Zb (Zd (Zc (Zv 0 VT.ty34 rfl rfl rfl ?_)))))
   refine Zc (Zx1 [.tmp 22] rfl rfl VT.en52 (hT) ?_)
   refine Zc (Zl rfl (Zc (Zg2 rfl rfl (Zc (Zg2 rfl rfl (Zc (Zk rfl (Zc (Zk rfl (Za (Zi (Zb (Zd (Zc (V_assign_nil 86 2 (Za (Zi (Zb (Zb (Zd (Zc (Zl rfl ?_))))))))))))))))))))))
   refine Zc (Zd2 (n := (reachL f).length) Tryz.underlying41 rfl (by simp) (fun hl27 => ?_))
   refine Zc (Zl rfl (Za (Zi (Zs ?_))))
   refine Zi2 (ι := Nat × Tok × List (Int × Int)) (fun (i, tok, out) => (reachL f).length - i) (fun (i, tok, out) => [(1, some (.ptr g1 0)), (6, some (intsX (treeF f.blocks))), (8, some (.sl 2 (some tok) (out.map pairV))), (26, some (intsX (reachL f))), (27, some (.int (reachL f).length)), (28, some (.int i))]) (fun (i, tok, out) => [.buf tok 86 2 out.length, .cells g1 34 [.int f.name, blocksX f.blocks]]) (fun (i, tok, out) => i ≤ (reachL f).length ∧ out ++ ((reachL f).drop i).flatMap (fun k : Int => ((toAt f.blocks k.toNat).filter fun e => overZ f e.block k).map fun e => (k, e.block)) = backsF f ∧ out.length ≤ i * 257) (0, .nil, []) ⟨Ym _, rfl, Yn _⟩ ⟨rfl, rfl, rfl, rfl, rfl, rfl, trivial⟩ (Drops.buf (by simp) (Drops.keep (Zt2 _))) ?_
   rintro ⟨i, tok, out⟩ hA
   change i ≤ (reachL f).length ∧ out ++ ((reachL f).drop i).flatMap (fun k : Int => ((toAt f.blocks k.toNat).filter fun e => overZ f e.block k).map fun e => (k, e.block)) = backsF f ∧ out.length ≤ i * 257 at hA
   obtain ⟨hi, hq, hol2⟩ := hA
   refine Zb (Zd (Zc (Zj1 rfl rfl rfl (Za (Zi (Zb ?_))))))
   refine Zn1 rfl (fun h29 => ?_) (fun h29 => ?_)
   ·
    obtain ⟨k0, hk0⟩ := get_of_lt (reachL f) i h29
    obtain ⟨k, rfl, hko⟩ := inR_iff.1 (show inR f k0 = true from List.any_eq_true.2 ⟨_, Yi hk0, decide_eq_true rfl⟩)
    have hkl := ho.lt k hko
    obtain ⟨b, hb⟩ := get_of_lt f.blocks k (by omega)
    have hte := term_edges hok (Yi hb)
    rw [drop_cons hk0, List.flatMap_cons, ← Yc, Int.toNat_natCast, toAt_get hb] at hq
    refine Zi1 (Zi (Zb (Zs (Zb (Zd ?_)))))
    refine Zc (Zz (el := V.int (k : Int)) VT.sl41 rfl rfl (by omega) (get_int hk0) (fun a30 => ?_))
    refine Zc (Zz1 VT.ty3 rfl rfl (Zc (Zk rfl (Za (Zi (Zb (Zd (Zc (Zj VT.fa34_1 rfl (Zc (Zu 1 VT.ty32 rfl rfl rfl (Zc (Zl rfl ?_)))))))))))))
    refine Zc (Zz (el := blockV b) VT.sl32 rfl rfl (by omega) (get_mapS _ hb) (fun a35 => ?_))
    refine Zc (Zs2 VT.fa50_2 rfl (Zc (Zw1 VT.fa47_4 rfl rfl (Zc (Zz1 VT.ty45 rfl rfl ?_)))))
    refine Zc (Zd2 (n := b.term.to.length) Tryz.underlying45 rfl (by simp) (fun hl39 => ?_))
    refine Zc (Zl rfl (Za (Zi (Zs ?_))))
    refine Zi2 (ι := Nat × Tok × List (Int × Int)) (fun (j, tok2, out2) => b.term.to.length - j) (fun (j, tok2, out2) => [(1, some (.ptr g1 0)), (6, some (intsX (treeF f.blocks))), (8, some (.sl 2 (some tok2) (out2.map pairV))), (10, some (.int k)), (26, some (intsX (reachL f))), (27, some (.int (reachL f).length)), (28, some (.int i)), (38, some (edgesX b.term.to)), (39, some (.int b.term.to.length)), (40, some (.int j))]) (fun (j, tok2, out2) => [.buf tok2 86 2 out2.length, .cells g1 34 [.int f.name, blocksX f.blocks]]) (fun (j, tok2, out2) => j ≤ b.term.to.length ∧ out2 ++ ((b.term.to.drop j).filter (fun e => overZ f e.block k)).map (fun e => ((k : Int), e.block)) = out ++ (b.term.to.filter (fun e => overZ f e.block k)).map (fun e => ((k : Int), e.block)) ∧ out2.length ≤ i * 257 + j) (0, tok, out) ⟨Ym _, rfl, hol2⟩ ⟨rfl, rfl, rfl, rfl, rfl, rfl, rfl, rfl, rfl, rfl, trivial⟩ (Drops.buf (by simp) (Drops.keep (Zt2 _))) ?_
    rintro ⟨j, tok2, out2⟩ hB
    change j ≤ b.term.to.length ∧ out2 ++ ((b.term.to.drop j).filter (fun e => overZ f e.block k)).map (fun e => ((k : Int), e.block)) = out ++ (b.term.to.filter (fun e => overZ f e.block k)).map (fun e => ((k : Int), e.block)) ∧ out2.length ≤ i * 257 + j at hB
    obtain ⟨hj, hq2, hol3⟩ := hB
    refine Zb (Zd (Zc (Zj1 rfl rfl rfl (Za (Zi (Zb ?_))))))
    refine Zn1 rfl (fun h41 => ?_) (fun h41 => ?_)
    ·
     obtain ⟨e, he⟩ := get_of_lt b.term.to j h41
     rw [drop_cons he, over_cons, ← Yc] at hq2
     refine Zi1 (Zi (Zb (Zs (Zb (Zd ?_)))))
     refine Zc (Zz (el := edgeV e) VT.sl45 rfl rfl (by omega) (get_mapS _ he) (fun a42 => ?_))
     refine Zc (Za2 VT.ty79 rfl rfl ?_)
     refine Zc (Zb2 VT.zr79 _ rfl rfl (fun g12 => ?_))
     refine Zc (Zx 0 VT.ty79 rfl rfl rfl rfl rfl (Za (Zi (Zb (Zd (Zc (Zl rfl (Zc (Zj VT.fa79_0 rfl (Zc (Zu 0 VT.ty3 rfl rfl rfl (Zc (Zl rfl ?_)))))))))))))
     refine Zc (Zx1 [.tmp 44, .tmp 46, .tmp 47] rfl rfl VT.en53 (over_c h0 e.block hko) ?_)
     refine Za (Zi ?_)
     refine Zr1 rfl (fun h48 => ?_) (fun h48 => ?_)
     ·
      rw [if_pos h48] at hq2
      have hq3 := hq2
      have hol4 : (out2 ++ [((k : Int), e.block)]).length ≤ i * 257 + (j + 1) := by rw [Yb, Yg]; omega
      refine Zd (Zc (Zl rfl (Zc (Zl rfl (Zc (Zj VT.fa79_0 rfl (Zc (Zu 0 VT.ty3 rfl rfl rfl ?_))))))))
      refine Zc (Zf2 [0, 1] [.tmp 50, .tmp 52] VT.st86 rfl rfl rfl rfl ?_)
      refine Zc (Zk3 [.tmp 53] VT.sl80 rfl rfl rfl rfl rfl ?_)
      refine Zc (Zi3 1 _ VT.sl80 rfl rfl rfl (by simp) (by simp; omega) (fun t55 => ?_))
      refine Zc (Zk rfl (Za (Zb1 (Zi (Zd ?_)))))
      refine Zc (Zh2 rfl rfl (by omega) ?_)
      refine Zc (Zl rfl (Za (Zi ?_)))
      exact ⟨(j + 1, t55, out2 ++ [((k : Int), e.block)]), (by (try simp only []); omega), ⟨by omega, hq3, hol4⟩, ⟨rfl, rfl, (by first | rfl | (rw [Yd]; rfl)), rfl, rfl, rfl, rfl, rfl, rfl, rfl, trivial⟩, (Drops.drop (Drops.buf (by simp) (Drops.keep (Zt2 _))))⟩
     ·
      rw [if_neg (by rw [h48]; decide), Ye] at hq2
      have hq3 := hq2
      have hol4 : out2.length ≤ i * 257 + (j + 1) := by omega
      refine Zi1 (Zb1 (Zi (Zd ?_)))
      refine Zc (Zh2 rfl rfl (by omega) ?_)
      refine Zc (Zl rfl (Za (Zi ?_)))
      exact ⟨(j + 1, tok2, out2), (by (try simp only []); omega), ⟨by omega, hq3, hol4⟩, ⟨rfl, rfl, (by first | rfl | (rw [Yd]; rfl)), rfl, rfl, rfl, rfl, rfl, rfl, rfl, trivial⟩, (Drops.drop (Drops.buf (by simp) (Drops.keep (Zt2 _))))⟩
    ·
     have hje : j = b.term.to.length := by omega
     subst hje
     rw [Yj, List.filter_nil, List.map_nil, Ye] at hq2
     rw [← hq2] at hq
     refine Zt (Ze1 (Ze1 (Zc1 (Zb1 (Zi (Zd ?_))))))
     refine Zc (Zh2 rfl rfl (by omega) ?_)
     refine Zc (Zl rfl (Za (Zi ?_)))
     exact ⟨(i + 1, tok2, out2), (by (try simp only []); omega), ⟨by omega, hq, by omega⟩, ⟨rfl, rfl, rfl, rfl, rfl, rfl, trivial⟩, (Drops.buf (by simp) (Drops.keep (Zt2 _)))⟩
   ·
    have hie : i = (reachL f).length := by omega
    subst hie
    rw [Yj, List.flatMap_nil, Ye] at hq
    refine Zt (Ze1 (Ze1 (Zc1 (Zi (Zb (Zd (Zc (Zl rfl (Zc (Zk rfl (Zc (Zk rfl (Za (Zi (Zf1 ?_)))))))))))))))
    refine Zh1 rfl rfl (.cons (.strip rfl) (.cons (.tmp rfl) (.nil))) ?_
    rw [hr, hq]
 ·
  rw [if_neg h0] at hr
  refine Zc (Zx1 [.tmp 14] rfl rfl VT.en30 (ReachE_c h0) ?_)
  refine Zc (Zl rfl (Zc (Zg2 rfl rfl (Zc (Zg2 rfl rfl (Zc (Zk rfl (Zc (Zk rfl (Za (Zi (Zb (Zb (Zd (Zc (Zl rfl (Zc (Zj1 rfl rfl rfl (Za (Zi ?_))))))))))))))))))))
  refine Zm1 rfl (fun h19 => ?_) (fun h19 => ?_)
  ·
   refine Zb (Zd (Zc (Zl rfl ?_)))
   refine Zc (Zu2 (Zk rfl ⟨rfl, rfl⟩) ((V.le.nil 2)) ?_)
   refine Zc (Zk rfl (Za (Zi (Zf1 ?_))))
   refine Zd1 (Zh1 rfl rfl (.cons (.strip rfl) (.cons (.tmp rfl) (.nil))) ?_)
   rw [hr]
   rfl
  · exact absurd h19 h0
end Go.Proofs.YtjekhhgjfelpgaaGreat.X22
end
section
namespace Go.Proofs.YtjekhhgjfelpgaaGreat.X23
open Go.VL Go.SM Go.Proofs.YtjekhhgjfelpgaaGreat XS X1 X2 X3 X4 X5 X6 X7 X8 X9 X10 X12 X13 X14 X20 X22
def lpV (x : Int × List Int × Int) : V := .agg [.int x.1, intsX x.2.1, .int x.2.2]
def lp0 (x : Int × List Int) : V := lpV (x.1, x.2, -1)
theorem pull1 {a : Own} {C Y : Store} : (a :: (C ++ Y)).Perm (C ++ (a :: Y)) := List.perm_middle.symm
theorem pull2 {a b : Own} {C Y : Store} : (a :: b :: (C ++ Y)).Perm (C ++ (a :: b :: Y)) := ((pull1 (a := b) (C := C) (Y := Y)).cons a).trans pull1
theorem drop21 {a b : Own} {C Y : Store} : Drops (C ++ (a :: b :: Y)) (b :: (C ++ Y)) := (Drops.of_perm pull2.symm).trans (.drop (.refl _))
theorem pull0 {a : Own} {C : Store} : (a :: C).Perm (C ++ [a]) := (List.perm_append_comm (l₁ := [a]))
theorem drop_left {b : Own} {C Y : Store} : Drops (b :: (C ++ Y)) (b :: Y) := ⟨C, pull1⟩
theorem ints_1 {xs : List V} {l : List Int} (h : xs = l.map V.int) : ∀ v ∈ xs, v.leaves.length = 1 := fun v hv => by
 rw [h] at hv
 obtain ⟨n, _, rfl⟩ := Yf.1 hv
 rfl
theorem lps_3 {xs : List V} {l : List (Int × List Int × Int)} (h : xs = l.map lpV) : ∀ v ∈ xs, v.leaves.length = 3 := fun v hv => by
 rw [h] at hv
 obtain ⟨n, _, rfl⟩ := Yf.1 hv
 rfl
theorem lp0_3 {xs : List V} {l : List (Int × List Int)} (h : xs = l.map lp0) : ∀ v ∈ xs, v.leaves.length = 3 := fun v hv => by
 rw [h] at hv
 obtain ⟨n, _, rfl⟩ := Yf.1 hv
 rfl
theorem flat_1 {x : V} (h : x.flat = true) : ∀ y ∈ [x], y.flat = true := fun y hy => by rw [List.mem_singleton.1 hy]; exact h
theorem flat_is (l : List Int) : ∀ y ∈ l.map V.int, y.flat = true := fun y hy => by
 obtain ⟨n, _, rfl⟩ := Yf.1 hy
 rfl
theorem i_take (l : List Int) (rest X : List V) : (l.map V.int ++ rest).take (l.length * 1) ++ X = l.map V.int ++ X := by
 rw [Nat.mul_one, List.take_append_of_le_length (by simp), List.take_of_length_le (by simp)]
theorem al_T (l : List Int) (n : Int) (ra rest : List V) : (l.map V.int ++ ra).take (l.length * 1) ++ ([V.int n].flatMap V.leaves ++ rest) = (l ++ [n]).map V.int ++ rest := by
 rw [i_take, Yd, Yc]
 rfl
theorem wk_T (l p : List Int) (n : Int) (ra rest : List V) : ((l ++ [n]).map V.int ++ ra).take (l.length * 1) ++ ((p.map V.int).flatMap V.leaves ++ rest) = (l ++ p).map V.int ++ rest := by
 rw [Yd, Yc, i_take, Yd, Yc, flat_ints2]
theorem wk_F (l : List Int) (n : Int) (ra : List V) : (l ++ [n]).map V.int ++ ra = l.map V.int ++ (V.int n :: ra) := by
 rw [Yd, Yc]
 rfl
theorem fits_lp {xs : List V} {l : List (Int × List Int × Int)} (h : xs = l.map lpV) : ∀ x ∈ xs, x.fits 3 = true ∧ ((∃ ls, x = .agg ls) ∨ x.leaf = true) := fun x hx => by
 rw [h] at hx
 obtain ⟨n, _, rfl⟩ := Yf.1 hx
 exact ⟨rfl, .inl ⟨_, rfl⟩⟩
def LInv (L0 : List (Int × List Int)) (L3 : List (Int × List Int × Int)) : Prop := (L3.map fun x => (x.1, x.2.1)) = L0 ∧ ∀ x ∈ L3, x.2.2 < (L0.length : Int)
theorem linv_len {L0 : List (Int × List Int)} {L3 : List (Int × List Int × Int)} (h : LInv L0 L3) : L3.length = L0.length := by
 rw [← h.1, Ya]
def lcells (L3 : List (Int × List Int × Int)) : List V := L3.flatMap fun x => [.int x.1, intsX x.2.1, .int x.2.2]
theorem lcells_eq (L3 : List (Int × List Int × Int)) : (L3.map lpV).flatMap V.leaves = lcells L3 := by
 rw [List.flatMap_map]
 rfl
theorem lcells_get {L3 : List (Int × List Int × Int)} {i : Nat} {x : Int × List Int × Int} (h : L3[i]? = some x) : (lcells L3)[i * 3]? = some (.int x.1) ∧ (lcells L3)[i * 3 + 1]? = some (intsX x.2.1) ∧ (lcells L3)[i * 3 + 2]? = some (.int x.2.2) := by
 induction L3 generalizing i with
 | nil => simp at h
 | cons a L3 ih =>
  cases i with
  | zero =>
   have h : a = x := by simpa using h
   subst h
   exact ⟨rfl, rfl, rfl⟩
  | succ i =>
   have h : L3[i]? = some x := by simpa using h
   have hl : lcells (a :: L3) = [.int a.1, intsX a.2.1, .int a.2.2] ++ lcells L3 := rfl
   rw [hl, show (i + 1) * 3 = i * 3 + 3 by omega]
   refine ⟨?_, ?_, ?_⟩
   ·rw [Yk (by simp)]; exact (ih h).1
   ·rw [Yk (by simp)]; exact (ih h).2.1
   ·rw [Yk (by simp)]; exact (ih h).2.2
theorem lcells_len (L3 : List (Int × List Int × Int)) : (lcells L3).length = L3.length * 3 := by
 induction L3 with
 | nil => rfl
 | cons a L3 ih =>
  have hl : lcells (a :: L3) = [.int a.1, intsX a.2.1, .int a.2.2] ++ lcells L3 := rfl
  rw [hl, Yb, ih]
  simp only [Yh, Yl]
  omega
theorem lcells_set {L3 : List (Int × List Int × Int)} {i : Nat} {x : Int × List Int × Int} (h : L3[i]? = some x) (p : Int) : (lcells L3).set (i * 3 + 2) (.int p) = lcells (L3.set i (x.1, x.2.1, p)) := by
 induction L3 generalizing i with
 | nil => simp at h
 | cons a L3 ih =>
  cases i with
  | zero =>
   have h : a = x := by simpa using h
   subst h
   rfl
  | succ i =>
   have h : L3[i]? = some x := by simpa using h
   have hl : ∀ a : Int × List Int × Int, ∀ L3 : List (Int × List Int × Int), lcells (a :: L3) = [.int a.1, intsX a.2.1, .int a.2.2] ++ lcells L3 := fun _ _ => rfl
   rw [List.set_cons_succ, hl, hl, ← ih h, List.set_append]
   have e : ¬ ((i + 1) * 3 + 2 < ([V.int a.1, intsX a.2.1, V.int a.2.2] : List V).length) := by simp only [Yh, Yl]; omega
   have e2 : (i + 1) * 3 + 2 - ([V.int a.1, intsX a.2.1, V.int a.2.2] : List V).length = i * 3 + 2 := by simp only [Yh, Yl]; omega
   rw [if_neg e, e2]
theorem linv_set {L0 : List (Int × List Int)} {L3 : List (Int × List Int × Int)} (h : LInv L0 L3) {i : Nat} {x : Int × List Int × Int} (hx : L3[i]? = some x) {p : Int} (hp : p < (L0.length : Int)) : LInv L0 (L3.set i (x.1, x.2.1, p)) := by
 obtain ⟨hi, hg⟩ := List.getElem?_eq_some_iff.1 hx
 refine ⟨?_, fun y hy => ?_⟩
 ·rw [← h.1, List.map_set]
  apply List.ext_getElem?
  intro j
  rw [List.getElem?_set]
  split
  ·rename_i e
   subst e
   rw [if_pos (by simpa using hi), List.getElem?_map, hx]
   rfl
  ·rfl
 ·rcases List.mem_or_eq_of_mem_set hy with hy | rfl
  ·exact h.2 y hy
  ·exact hp
theorem linv_start (L : List (Int × List Int)) : LInv L (L.map fun x => (x.1, x.2, -1)) := by
 refine ⟨?_, fun x hx => ?_⟩
 ·rw [List.map_map]
  exact List.map_id _
 ·obtain ⟨y, _, rfl⟩ := Yf.1 hx
  show (-1 : Int) < _
  omega
theorem lp0_map (L : List (Int × List Int)) : L.map lp0 = (L.map fun x => (x.1, x.2, (-1 : Int))).map lpV := by
 rw [List.map_map]
 rfl
theorem preds_one {f : SFunc} (hf : FuncOk f) {n : Nat} {ps : List Int} (h : (predsF f.blocks)[n]? = some ps) : ps.length ≤ 32896 := by
 have h1 := edges_small hf
 have h2 := preds_total hf.edges
 have h3 := total_take h
 have h4 := total_takele (predsF f.blocks) (n + 1)
 omega
set_option maxRecDepth 100000 in
theorem idxR_c (l : List Int) (hl : l.length ≤ 1000000) (g cap : Nat) (rest : List V) (v : Int) : VKeep Tryz.prog 57 [.raw (.slice (some ⟨g, 0, none⟩) l.length cap), .int v] [.cells g 3 (l.map V.int ++ rest)] (.int (idxOf (fun x => decide (v = x)) l)) := by
 refine V_start (nt := 19) Tryz.func57 rfl rfl rfl ?_
 refine Zb (Zd (Zc (Zk rfl (Za (Zi (Zb (Zb (Zd (Zc (Zl rfl ?_))))))))))
 refine Zc (V_len_raw Tryz.underlying41 rfl ?_)
 refine Zc (Zl rfl (Za (Zi (Zs ?_))))
 refine Zi2 (ι := Nat) (fun k => l.length - k) (fun k => [(0, some (.raw (.slice (some ⟨g, 0, none⟩) l.length cap))), (1, some (.int v)), (7, some (.int l.length)), (8, some (.int k))]) (fun k => [.cells g 3 (l.map V.int ++ rest)]) (fun k => k ≤ l.length ∧ (l.take k).any (fun x => decide (v = x)) = false) 0 ⟨Ym _, rfl⟩ ⟨rfl, rfl, rfl, rfl, trivial⟩ (Drops.keep (Zt2 _)) ?_
 rintro k hA
 change k ≤ l.length ∧ (l.take k).any (fun x => decide (v = x)) = false at hA
 obtain ⟨hk, hany⟩ := hA
 refine Zb (Zd (Zc (Zj1 rfl rfl rfl (Za (Zi (Zb ?_))))))
 refine Zn1 rfl (fun h9 => ?_) (fun h9 => ?_)
 ·
  obtain ⟨x, hr⟩ := get_of_lt l k h9
  refine Zi1 (Zi (Zb (Zs (Zb (Zd (Zc (Zl rfl (Zc (Zk rfl (Za (Zi (Zb (Zd (Zc (Zl rfl (Zc (Zl rfl (Zc (Zl rfl ?_)))))))))))))))))))
  refine Zc (Zr2 VT.sl41 rfl rfl (by omega) (by omega) ?_)
  refine Zc (Zf3 0 k VT.ty3 rfl (by simp) rfl rfl (get_int hr) ?_)
  refine Zc (Zj1 rfl rfl rfl (Za (Zi ?_)))
  refine Zl1 rfl (fun h16 => ?_) (fun h16 => ?_)
  ·
   refine Zb (Zd (Zc (Zl rfl (Zc (Zk rfl (Za (Zi (Zf1 ?_))))))))
   refine Za1 (Zd1 (Zd1 (Za1 (Zd1 (Zg1 rfl (.tmp rfl) ?_)))))
   rw [idxOf_at (fun x => decide (v = x)) hr hany (decide_eq_true h16)]
   exact ⟨rfl, rfl⟩
  ·
   refine Zi1 (Zb1 (Zi (Zd ?_)))
   refine Zc (Zh2 rfl rfl (by omega) ?_)
   refine Zc (Zl rfl (Za (Zi ?_)))
   exact ⟨k + 1, (by (try simp only []); omega), ⟨by omega, any_snoc hr hany (decide_eq_false h16)⟩, ⟨rfl, rfl, rfl, rfl, trivial⟩, (Drops.keep (Zt2 _))⟩
 ·
  have hke : k = l.length := by omega
  subst hke
  rw [List.take_length] at hany
  refine Zt (Ze1 (Ze1 (Zc1 (Zi (Zb (Zd (Zc (Zk rfl (Za (Zi (Zf1 ?_)))))))))))
  refine Zg1 rfl (.tmp rfl) ?_
  rw [idxOf_none (fun x => decide (v = x)) hany]
  exact ⟨rfl, rfl⟩
set_option maxRecDepth 100000 in
theorem contR_c (l : List Int) (hl : l.length ≤ 1000000) (g cap : Nat) (rest : List V) (v : Int) : VKeep Tryz.prog 32 [.raw (.slice (some ⟨g, 0, none⟩) l.length cap), .int v] [.cells g 3 (l.map V.int ++ rest)] (.bool (l.any fun x => decide (v = x))) := by
 refine V_start (nt := 9) Tryz.func32 rfl rfl rfl ?_
 refine Zb (Zd (Zc (Zk rfl (Za (Zi (Zb (Zd (Zc (Zl rfl (Zc (Zl rfl ?_)))))))))))
 refine Zc (Zl3 [.tmp 5, .tmp 6] [_] _ rfl rfl VT.en57 (.refl _) (idxR_c l hl g cap rest v) ?_)
 refine Zc (Zj1 rfl rfl rfl (Zc (Zk rfl (Za (Zi (Zf1 ?_))))))
 refine Zg1 rfl (.tmp rfl) ?_
 rw [idxOf_ge]
 exact ⟨rfl, rfl⟩
set_option maxRecDepth 100000 in
set_option maxHeartbeats 4000000 in
theorem nest_c (L0 : List (Int × List Int)) (hl : L0.length ≤ 1000) (g cap : Nat) (rest : List V) (L : List (Int × List Int × Int)) (hL : LInv L0 L) : VCalls Tryz.prog 34 [.raw (.slice (some ⟨g, 0, none⟩) L0.length cap)] [.cells g 43 (lcells L ++ rest)] fun r S' => ∃ L3, LInv L0 L3 ∧ S' = [.cells g 43 (lcells L3 ++ rest)] := by
 refine V_start (nt := 58) Tryz.func34 rfl rfl rfl ?_
 refine Zb (Zd (Zc (Zl rfl ?_)))
 refine Zc (V_len_raw Tryz.underlying35 rfl ?_)
 refine Zc (Zl rfl (Za (Zi (Zs ?_))))
 refine Zi2 (ι := Nat × List (Int × List Int × Int)) (fun (i, L3) => L0.length - i) (fun (i, L3) => [(0, some (.raw (.slice (some ⟨g, 0, none⟩) L0.length cap))), (7, some (.int L0.length)), (8, some (.int i))]) (fun (i, L3) => [.cells g 43 (lcells L3 ++ rest)]) (fun (i, L3) => i ≤ L0.length ∧ LInv L0 L3) (0, L) ⟨Ym _, hL⟩ ⟨rfl, rfl, rfl, trivial⟩ (Drops.keep (Zt2 _)) ?_
 rintro ⟨i, L3⟩ hA
 change i ≤ L0.length ∧ LInv L0 L3 at hA
 obtain ⟨hi, hI⟩ := hA
 refine Zb (Zd (Zc (Zj1 rfl rfl rfl (Za (Zi (Zb ?_))))))
 refine Zn1 rfl (fun h9 => ?_) (fun h9 => ?_)
 ·
  refine Zi1 (Zi (Zb (Zs (Zb (Zd (Zc (Zl rfl (Zc (Zk rfl (Za (Zi (Zb (Zd (Zc (Zl rfl ?_)))))))))))))))
  refine Zc (V_len_raw Tryz.underlying35 rfl ?_)
  refine Zc (Zl rfl (Za (Zi (Zs ?_))))
  refine Zi2 (ι := Nat × List (Int × List Int × Int)) (fun (j, L3) => L0.length - j) (fun (j, L3) => [(0, some (.raw (.slice (some ⟨g, 0, none⟩) L0.length cap))), (2, some (.int i)), (7, some (.int L0.length)), (8, some (.int i)), (11, some (.raw (.slice (some ⟨g, 0, none⟩) L0.length cap))), (12, some (.int L0.length)), (13, some (.int j))]) (fun (j, L3) => [.cells g 43 (lcells L3 ++ rest)]) (fun (j, L3) => j ≤ L0.length ∧ LInv L0 L3) (0, L3) ⟨Ym _, hI⟩ ⟨rfl, rfl, rfl, rfl, rfl, rfl, rfl, trivial⟩ (Drops.keep (Zt2 _)) ?_
  rintro ⟨j, L3⟩ hB
  change j ≤ L0.length ∧ LInv L0 L3 at hB
  obtain ⟨hj, hI⟩ := hB
  refine Zb (Zd (Zc (Zj1 rfl rfl rfl (Za (Zi (Zb ?_))))))
  refine Zn1 rfl (fun h14 => ?_) (fun h14 => ?_)
  ·
   have hln := linv_len hI
   obtain ⟨y, hy⟩ := get_of_lt L3 j (by omega)
   obtain ⟨x, hx⟩ := get_of_lt L3 i (by omega)
   refine Zi1 (Zi (Zb (Zs (Zb (Zd (Zc (Zl rfl ?_)))))))
   refine Zc (Zr2 VT.sl35 rfl rfl (by omega) (by omega) ?_)
   refine Zc (Ze3 0 j VT.ty43 rfl (by simp) rfl (by rw [lcells_eq]) (lps_3 rfl) (get_mapS lpV hy) ?_)
   refine Zc (Zb2 VT.zr43 _ rfl rfl (fun g4 => ?_))
   refine Zc (Zk rfl (Zc (Zx 0 VT.ty43 rfl rfl rfl rfl rfl (Za (Zi (Zb (Zb ?_)))))))
   rcases Bool.eq_false_or_eq_true (((j : Int) == (i : Int))) with hq20 | hq20
   ·
    refine VW_drawR (G := Unit) [([], [3], []), ([], [2], []), ([1, 0], [18, 19], []), ([2, 1, 0], [20], []), (dn 4, [4, 21], []), (dn 5, [22, 21], []), (dn 4, [0, 21], []), (dn 4, [2, 21], []), ([7, 6, 3, 2, 1, 0], [24, 25, 21], []), ([8, 7, 6, 3, 2, 1, 0], [26, 21], []), ([9, 8, 7, 6, 3, 2, 1, 0], [27, 21], []), (dn 11, [23, 28, 21], []), (dn 12, [29, 21], []), (dn 13, [21, 30], [])] [] (constSt _) [31] [18, 19, 20, 21, 22, 23, 24, 25, 26, 27, 28, 29, 30, 31] rfl VT.mix ?_
    refine ZA (fun γ => Zf (fun _ h3 => Ze (Zn rfl (Zl h3 z0)))) ?_
    refine ZA (fun γ => Zf (fun _ h2 => Ze (Zn rfl (Zl h2 z0)))) ?_
    refine ZA (fun γ => Zw 0 1 rfl (fun _ h18 => Zw 1 0 rfl (fun _ h19 => Ze (Zn rfl (Zj1 h18 h19 rfl z0))))) ?_
    refine ZA (fun γ => Zw 2 0 rfl (fun _ h20 => Ze (Zn rfl (Zl h20 z0)))) ?_
    refine ZA (fun γ => Zf (fun _ h4 => Zw 3 0 rfl (fun _ h21 => Ze (Zy2 (Zr rfl rfl h21 hq20) z0)))) ?_
    refine ZA (fun γ => Zw 4 0 rfl (fun _ h22 => Zw 3 1 rfl (fun _ h21 => Ze (Zy2 (Zr rfl rfl h21 hq20) z0)))) ?_
    refine ZA (fun γ => Zf (fun _ h0 => Zw 3 2 rfl (fun _ h21 => Ze (Zy2 (Zr rfl rfl h21 hq20) z0)))) ?_
    refine ZA (fun γ => Zf (fun _ h2 => Zw 3 3 rfl (fun _ h21 => Ze (Zy2 (Zr rfl rfl h21 hq20) z0)))) ?_
    refine ZA (fun γ => Zw 6 1 rfl (fun _ h24 => Zw 7 0 rfl (fun _ h25 => Zw 3 4 rfl (fun _ h21 => Ze (Zy2 (Zr rfl rfl h21 hq20) z0))))) ?_
    refine ZA (fun γ => Zw 8 0 rfl (fun _ h26 => Zw 3 5 rfl (fun _ h21 => Ze (Zy2 (Zr rfl rfl h21 hq20) z0)))) ?_
    refine ZA (fun γ => Zw 9 0 rfl (fun _ h27 => Zw 3 6 rfl (fun _ h21 => Ze (Zy2 (Zr rfl rfl h21 hq20) z0)))) ?_
    refine ZA (fun γ => Zw 5 5 rfl (fun _ h23 => Zw 10 0 rfl (fun _ h28 => Zw 3 7 rfl (fun _ h21 => Ze (Zy2 (Zr rfl rfl h21 hq20) z0))))) ?_
    refine ZA (fun γ => Zw 11 0 rfl (fun _ h29 => Zw 3 8 rfl (fun _ h21 => Ze (Zy2 (Zr rfl rfl h21 hq20) z0)))) ?_
    refine ZA (fun γ => Zw 3 9 rfl (fun _ h21 => Zw 12 0 rfl (fun _ h30 => Ze (Zn rfl (Zs1 h21 hq20 rfl z0))))) ?_
    refine DrawP_nil (fun γ => Zw 13 0 rfl (fun r31 h31 => Ze ?_))
    have e31 : r31 = some _ := h31
    subst e31
    clear h31
    refine Zi ?_
    refine Zp1 rfl rfl ?_
    refine Zt (Ze1 (Zc1 (Zi (Zd ?_))))
    refine Zc (Zh2 rfl rfl (by omega) ?_)
    refine Zc (Zl rfl (Za (Zi ?_)))
    exact ⟨(j + 1, L3), (by (try simp only []); omega), ⟨by omega, by first | exact hI | exact hI2⟩, ⟨rfl, rfl, rfl, rfl, rfl, rfl, rfl, trivial⟩, (Drops.drop (Drops.keepE (by first | rfl | exact congrArg (fun l => Own.cells g 43 (l ++ rest)) (lcells_set hx _)) (Zt2 _)))⟩
   ·
    refine VW_drawR (G := Unit) [([], [3], []), ([], [2], []), ([1, 0], [18, 19], []), ([2, 1, 0], [20], []), (dn 4, [4, 21], []), (dn 5, [22, 21], []), (dn 4, [0, 21], []), (dn 4, [2, 21], []), ([7, 6, 3, 2, 1, 0], [24, 25, 21], []), ([8, 7, 6, 3, 2, 1, 0], [26, 21], []), ([9, 8, 7, 6, 3, 2, 1, 0], [27, 21], []), (dn 11, [23, 28, 21], []), (dn 12, [29, 21], []), (dn 13, [21, 30], [])] [] (constSt _) [31] [18, 19, 20, 21, 22, 23, 24, 25, 26, 27, 28, 29, 30, 31] rfl VT.mix ?_
    refine ZA (fun γ => Zf (fun _ h3 => Ze (Zn rfl (Zl h3 z0)))) ?_
    refine ZA (fun γ => Zf (fun _ h2 => Ze (Zn rfl (Zl h2 z0)))) ?_
    refine ZA (fun γ => Zw 0 1 rfl (fun _ h18 => Zw 1 0 rfl (fun _ h19 => Ze (Zn rfl (Zj1 h18 h19 rfl z0))))) ?_
    refine ZA (fun γ => Zw 2 0 rfl (fun _ h20 => Ze (Zn rfl (Zl h20 z0)))) ?_
    refine ZA (fun γ => Zf (fun _ h4 => Zw 3 0 rfl (fun _ h21 => Ze (Zn (Zg rfl rfl h21 hq20) (Zj VT.fa43_1 h4 z0))))) ?_
    refine ZA (fun γ => Zw 4 0 rfl (fun _ h22 => Zw 3 1 rfl (fun _ h21 => Ze (Zn (Zg rfl rfl h21 hq20) (Zu 0 VT.ty41 h22 rfl rfl z0))))) ?_
    refine ZA (fun γ => Zf (fun _ h0 => Zw 3 2 rfl (fun _ h21 => Ze (Zn (Zg rfl rfl h21 hq20) (Zl h0 z0))))) ?_
    refine ZA (fun γ => Zf (fun _ h2 => Zw 3 3 rfl (fun _ h21 => Ze (Zn (Zg rfl rfl h21 hq20) (Zl h2 z0))))) ?_
    refine ZA (fun γ => Zw 6 1 rfl (fun _ h24 => Zw 7 0 rfl (fun _ h25 => Zw 3 4 rfl (fun _ h21 => Ze (Zn (Zg rfl rfl h21 hq20) (Zr2 VT.sl35 h24 h25 (by omega) (by omega) z0)))))) ?_
    refine ZA (fun γ => Zw 8 0 rfl (fun _ h26 => Zw 3 5 rfl (fun _ h21 => Ze (Zn (Zg rfl rfl h21 hq20) (Zj VT.fa43_0 h26 z0))))) ?_
    refine ZA (fun γ => Zw 9 0 rfl (fun _ h27 => Zw 3 6 rfl (fun _ h21 => Ze (Zn (Zg rfl rfl h21 hq20) (Zf3 1 (i * 3 + 0) VT.ty3 h27 (by simp) rfl rfl (lcells_get hx).1 z0))))) ?_
    refine ZA (fun γ => Zw 5 5 rfl (fun _ h23 => Zw 10 0 rfl (fun _ h28 => Zw 3 7 rfl (fun _ h21 => Ze (Zn (Zg rfl rfl h21 hq20) (Zx1 [.tmp 23, .tmp 28] rfl (Zp2 h23 (Zp2 h28 Zq2)) VT.en32 (intContains_c y.2.1 none x.1) z0)))))) ?_
    refine ZA (fun γ => Zw 11 0 rfl (fun _ h29 => Zw 3 8 rfl (fun _ h21 => Ze (Zn (Zg rfl rfl h21 hq20) (Zl2 h29 z0))))) ?_
    refine ZA (fun γ => Zw 3 9 rfl (fun _ h21 => Zw 12 0 rfl (fun _ h30 => Ze (Zn rfl (Zt1 h21 hq20 h30 z0))))) ?_
    refine DrawP_nil (fun γ => Zw 13 0 rfl (fun r31 h31 => Ze ?_))
    have e31 : r31 = some _ := h31
    subst e31
    clear h31
    refine Zi ?_
    refine Zo1 rfl (fun h31 => ?_) (fun h31 => ?_)
    ·
     refine Zt (Ze1 (Zc1 (Zi (Zd ?_))))
     refine Zc (Zh2 rfl rfl (by omega) ?_)
     refine Zc (Zl rfl (Za (Zi ?_)))
     exact ⟨(j + 1, L3), (by (try simp only []); omega), ⟨by omega, by first | exact hI | exact hI2⟩, ⟨rfl, rfl, rfl, rfl, rfl, rfl, rfl, trivial⟩, (Drops.drop (Drops.keepE (by first | rfl | exact congrArg (fun l => Own.cells g 43 (l ++ rest)) (lcells_set hx _)) (Zt2 _)))⟩
    ·
     refine Zi1 (Zi (Zb (Zd (Zc (Zl rfl (Zc (Zl rfl ?_)))))))
     refine Zc (Zr2 VT.sl35 rfl rfl (by omega) (by omega) ?_)
     refine Zc (Zj VT.fa43_2 rfl ?_)
     refine Zc (Zf3 1 (i * 3 + 2) VT.ty3 rfl (by simp) rfl rfl (lcells_get hx).2.2 ?_)
     refine Zc (Zk rfl (Za (Zi (Zb ?_))))
     rcases Bool.eq_false_or_eq_true (decide (x.2.2 < 0)) with hq38 | hq38
     ·
      refine VW_drawR (G := Unit) [([], [5], []), ([0], [37], []), ([1, 0], [38], []), ([2, 1, 0], [4, 39], []), (dn 4, [40, 39], []), (dn 5, [41, 39], []), ([2, 1, 0], [0, 39], []), ([2, 1, 0], [5, 39], []), ([7, 6, 2, 1, 0], [43, 44, 39], []), ([8, 7, 6, 2, 1, 0], [45, 39], []), ([9, 8, 7, 6, 2, 1, 0], [46, 39], []), ([10, 9, 8, 7, 6, 2, 1, 0], [47, 39], []), (dn 12, [42, 48, 39], []), (dn 13, [39, 49], [])] [] (constSt _) [50] [37, 38, 39, 40, 41, 42, 43, 44, 45, 46, 47, 48, 49, 50] rfl VT.mix ?_
      refine ZA (fun γ => Zf (fun _ h5 => Ze (Zn rfl (Zl h5 z0)))) ?_
      refine ZA (fun γ => Zw 0 0 rfl (fun _ h37 => Ze (Zn rfl (Zj1 h37 rfl rfl z0)))) ?_
      refine ZA (fun γ => Zw 1 0 rfl (fun _ h38 => Ze (Zn rfl (Zl h38 z0)))) ?_
      refine ZA (fun γ => Zf (fun _ h4 => Zw 2 0 rfl (fun _ h39 => Ze (Zy2 (Zr rfl rfl h39 hq38) z0)))) ?_
      refine ZA (fun γ => Zw 3 0 rfl (fun _ h40 => Zw 2 1 rfl (fun _ h39 => Ze (Zy2 (Zr rfl rfl h39 hq38) z0)))) ?_
      refine ZA (fun γ => Zw 4 0 rfl (fun _ h41 => Zw 2 2 rfl (fun _ h39 => Ze (Zy2 (Zr rfl rfl h39 hq38) z0)))) ?_
      refine ZA (fun γ => Zf (fun _ h0 => Zw 2 3 rfl (fun _ h39 => Ze (Zy2 (Zr rfl rfl h39 hq38) z0)))) ?_
      refine ZA (fun γ => Zf (fun _ h5 => Zw 2 4 rfl (fun _ h39 => Ze (Zy2 (Zr rfl rfl h39 hq38) z0)))) ?_
      refine ZA (fun γ => Zw 6 1 rfl (fun _ h43 => Zw 7 0 rfl (fun _ h44 => Zw 2 5 rfl (fun _ h39 => Ze (Zy2 (Zr rfl rfl h39 hq38) z0))))) ?_
      refine ZA (fun γ => Zw 8 0 rfl (fun _ h45 => Zw 2 6 rfl (fun _ h39 => Ze (Zy2 (Zr rfl rfl h39 hq38) z0)))) ?_
      refine ZA (fun γ => Zw 9 0 rfl (fun _ h46 => Zw 2 7 rfl (fun _ h39 => Ze (Zy2 (Zr rfl rfl h39 hq38) z0)))) ?_
      refine ZA (fun γ => Zw 10 0 rfl (fun _ h47 => Zw 2 8 rfl (fun _ h39 => Ze (Zy2 (Zr rfl rfl h39 hq38) z0)))) ?_
      refine ZA (fun γ => Zw 5 6 rfl (fun _ h42 => Zw 11 0 rfl (fun _ h48 => Zw 2 9 rfl (fun _ h39 => Ze (Zy2 (Zr rfl rfl h39 hq38) z0))))) ?_
      refine ZA (fun γ => Zw 2 10 rfl (fun _ h39 => Zw 12 0 rfl (fun _ h49 => Ze (Zn rfl (Zs1 h39 hq38 rfl z0))))) ?_
      refine DrawP_nil (fun γ => Zw 13 0 rfl (fun r50 h50 => Ze ?_))
      have e50 : r50 = some _ := h50
      subst e50
      clear h50
      refine Zi ?_
      refine Zp1 rfl rfl ?_
      refine Zd (Zc (Zl rfl (Zc (Zl rfl (Zc (Zl rfl ?_))))))
      refine Zc (Zr2 VT.sl35 rfl rfl (by omega) (by omega) ?_)
      refine Zc (Zj VT.fa43_2 rfl ?_)
      refine Zc (Zh3 1 (i * 3 + 2) VT.ty3 rfl (by simp) rfl rfl rfl rfl (by rw [lcells_len]; omega) ?_)
      refine Za (Zb1 (Zi ?_))
      have hI2 := linv_set hI hx (p := (j : Int)) (by omega)
      refine Zd ?_
      refine Zc (Zh2 rfl rfl (by omega) ?_)
      refine Zc (Zl rfl (Za (Zi ?_)))
      exact ⟨(j + 1, L3.set i (x.1, x.2.1, (j : Int))), (by (try simp only []); omega), ⟨by omega, by first | exact hI | exact hI2⟩, ⟨rfl, rfl, rfl, rfl, rfl, rfl, rfl, trivial⟩, (Drops.drop (Drops.keepE (by first | rfl | exact congrArg (fun l => Own.cells g 43 (l ++ rest)) (lcells_set hx _)) (Zt2 _)))⟩
     ·
      have hp0 : ¬ x.2.2 < 0 := of_decide_eq_false hq38
      have hpl := hI.2 x (Yi hx)
      obtain ⟨z, hz⟩ := get_of_lt L3 x.2.2.toNat (by omega)
      refine VW_drawR (G := Unit) [([], [5], []), ([0], [37], []), ([1, 0], [38], []), ([2, 1, 0], [4, 39], []), (dn 4, [40, 39], []), (dn 5, [41, 39], []), ([2, 1, 0], [0, 39], []), ([2, 1, 0], [5, 39], []), ([7, 6, 2, 1, 0], [43, 44, 39], []), ([8, 7, 6, 2, 1, 0], [45, 39], []), ([9, 8, 7, 6, 2, 1, 0], [46, 39], []), ([10, 9, 8, 7, 6, 2, 1, 0], [47, 39], []), (dn 12, [42, 48, 39], []), (dn 13, [39, 49], [])] [] (constSt _) [50] [37, 38, 39, 40, 41, 42, 43, 44, 45, 46, 47, 48, 49, 50] rfl VT.mix ?_
      refine ZA (fun γ => Zf (fun _ h5 => Ze (Zn rfl (Zl h5 z0)))) ?_
      refine ZA (fun γ => Zw 0 0 rfl (fun _ h37 => Ze (Zn rfl (Zj1 h37 rfl rfl z0)))) ?_
      refine ZA (fun γ => Zw 1 0 rfl (fun _ h38 => Ze (Zn rfl (Zl h38 z0)))) ?_
      refine ZA (fun γ => Zf (fun _ h4 => Zw 2 0 rfl (fun _ h39 => Ze (Zn (Zg rfl rfl h39 hq38) (Zj VT.fa43_1 h4 z0))))) ?_
      refine ZA (fun γ => Zw 3 0 rfl (fun _ h40 => Zw 2 1 rfl (fun _ h39 => Ze (Zn (Zg rfl rfl h39 hq38) (Zu 0 VT.ty41 h40 rfl rfl z0))))) ?_
      refine ZA (fun γ => Zw 4 0 rfl (fun _ h41 => Zw 2 2 rfl (fun _ h39 => Ze (Zn (Zg rfl rfl h39 hq38) (Zd2 (n := y.2.1.length) Tryz.underlying41 h41 (by simp) (fun hl42 => z0)))))) ?_
      refine ZA (fun γ => Zf (fun _ h0 => Zw 2 3 rfl (fun _ h39 => Ze (Zn (Zg rfl rfl h39 hq38) (Zl h0 z0))))) ?_
      refine ZA (fun γ => Zf (fun _ h5 => Zw 2 4 rfl (fun _ h39 => Ze (Zn (Zg rfl rfl h39 hq38) (Zl h5 z0))))) ?_
      refine ZA (fun γ => Zw 6 1 rfl (fun _ h43 => Zw 7 0 rfl (fun _ h44 => Zw 2 5 rfl (fun _ h39 => Ze (Zn (Zg rfl rfl h39 hq38) (Zr2 VT.sl35 h43 h44 (by omega) (by omega) z0)))))) ?_
      refine ZA (fun γ => Zw 8 0 rfl (fun _ h45 => Zw 2 6 rfl (fun _ h39 => Ze (Zn (Zg rfl rfl h39 hq38) (Zj VT.fa43_1 h45 z0))))) ?_
      refine ZA (fun γ => Zw 9 0 rfl (fun _ h46 => Zw 2 7 rfl (fun _ h39 => Ze (Zn (Zg rfl rfl h39 hq38) (Zf3 1 (x.2.2.toNat * 3 + 1) VT.ty41 h46 (by simp) rfl rfl (lcells_get hz).2.1 z0))))) ?_
      refine ZA (fun γ => Zw 10 0 rfl (fun _ h47 => Zw 2 8 rfl (fun _ h39 => Ze (Zn (Zg rfl rfl h39 hq38) (Zd2 (n := z.2.1.length) Tryz.underlying41 h47 (by simp) (fun hl48 => z0)))))) ?_
      refine ZA (fun γ => Zw 5 6 rfl (fun _ h42 => Zw 11 0 rfl (fun _ h48 => Zw 2 9 rfl (fun _ h39 => Ze (Zn (Zg rfl rfl h39 hq38) (Zj1 h42 h48 rfl z0)))))) ?_
      refine ZA (fun γ => Zw 2 10 rfl (fun _ h39 => Zw 12 0 rfl (fun _ h49 => Ze (Zn rfl (Zt1 h39 hq38 h49 z0))))) ?_
      refine DrawP_nil (fun γ => Zw 13 0 rfl (fun r50 h50 => Ze ?_))
      have e50 : r50 = some _ := h50
      subst e50
      clear h50
      refine Zi ?_
      refine Zn1 rfl (fun h50 => ?_) (fun h50 => ?_)
      ·
       refine Zd (Zc (Zl rfl (Zc (Zl rfl (Zc (Zl rfl ?_))))))
       refine Zc (Zr2 VT.sl35 rfl rfl (by omega) (by omega) ?_)
       refine Zc (Zj VT.fa43_2 rfl ?_)
       refine Zc (Zh3 1 (i * 3 + 2) VT.ty3 rfl (by simp) rfl rfl rfl rfl (by rw [lcells_len]; omega) ?_)
       refine Za (Zb1 (Zi ?_))
       have hI2 := linv_set hI hx (p := (j : Int)) (by omega)
       refine Zd ?_
       refine Zc (Zh2 rfl rfl (by omega) ?_)
       refine Zc (Zl rfl (Za (Zi ?_)))
       exact ⟨(j + 1, L3.set i (x.1, x.2.1, (j : Int))), (by (try simp only []); omega), ⟨by omega, by first | exact hI | exact hI2⟩, ⟨rfl, rfl, rfl, rfl, rfl, rfl, rfl, trivial⟩, (Drops.drop (Drops.keepE (by first | rfl | exact congrArg (fun l => Own.cells g 43 (l ++ rest)) (lcells_set hx _)) (Zt2 _)))⟩
      ·
       refine Zi1 (Zb1 (Zi (Zd ?_)))
       refine Zc (Zh2 rfl rfl (by omega) ?_)
       refine Zc (Zl rfl (Za (Zi ?_)))
       exact ⟨(j + 1, L3), (by (try simp only []); omega), ⟨by omega, by first | exact hI | exact hI2⟩, ⟨rfl, rfl, rfl, rfl, rfl, rfl, rfl, trivial⟩, (Drops.drop (Drops.keepE (by first | rfl | exact congrArg (fun l => Own.cells g 43 (l ++ rest)) (lcells_set hx _)) (Zt2 _)))⟩
  ·
   refine Zt (Ze1 (Ze1 (Zc1 (Zb1 (Zi (Zd ?_))))))
   refine Zc (Zh2 rfl rfl (by omega) ?_)
   refine Zc (Zl rfl (Za (Zi ?_)))
   exact ⟨(i + 1, L3), (by (try simp only []); omega), ⟨by omega, hI⟩, ⟨rfl, rfl, rfl, trivial⟩, (Drops.keep (Zt2 _))⟩
 ·
  refine Zt (Ze1 (Ze1 (Zc1 ?_)))
  refine Zn3 rfl ?_
  exact ⟨L3, hI, rfl⟩
set_option maxRecDepth 100000 in
theorem nestN_c : VPure Tryz.prog 34 [V.nilSl] (.tup []) := by
 refine V_start (nt := 58) Tryz.func34 rfl rfl rfl ?_
 refine Zb (Zd (Zc (Zl rfl ?_)))
 refine Zc (V_len_raw Tryz.underlying35 rfl ?_)
 refine Zc (Zl rfl (Za (Zi (Zs ?_))))
 refine Zi2 (ι := Unit) (fun _ => 0) (fun _ => [(0, some (V.nilSl)), (7, some (.int 0)), (8, some (.int 0))]) (fun _ => []) (fun _ => True) () trivial ⟨rfl, rfl, rfl, trivial⟩ (Drops.nil _) ?_
 rintro ⟨⟩ hA
 change True at hA
 refine Zb (Zd (Zc (Zj1 rfl rfl rfl (Za (Zi (Zb ?_))))))
 refine Zn1 rfl (fun h9 => ?_) (fun h9 => ?_)
 · exact absurd h9 (by decide)
 ·
  refine Zt (Ze1 (Ze1 (Zc1 ?_)))
  refine Zn3 rfl ?_
  rfl
theorem nestX_c (L0 : List (Int × List Int)) (hl : L0.length ≤ 1000) (o : Option XRow) (ho : xl o = L0.map lp0) (hok : xOk 3 o) : VCalls Tryz.prog 34 [xLeaf o] (xOwn 43 o) fun r S' => ∃ o' L3, LInv L0 L3 ∧ S' = xOwn 43 o' ∧ xLeaf o' = xLeaf o ∧ xl o' = L3.map lpV ∧ xOk 3 o' := by
 cases o with
 | none =>
  have h0 : L0 = [] := by
   have h1 : ([] : List V) = L0.map lp0 := ho
   exact List.map_eq_nil_iff.1 h1.symm
  subst h0
  exact (VPure.keep _ nestN_c).mono fun r S' hr => ⟨none, [], ⟨rfl, fun x hx => by cases hx⟩, hr.2, rfl, rfl, trivial⟩
 | some r =>
  obtain ⟨g, cap, xs, rest⟩ := r
  have ho : xs = L0.map lp0 := ho
  subst ho
  obtain ⟨h1, h2, h3⟩ := hok
  have e1 : xLeaf (some ⟨g, cap, L0.map lp0, rest⟩) = .raw (.slice (some ⟨g, 0, none⟩) L0.length cap) := by
   show V.raw (.slice (some ⟨g, 0, none⟩) (L0.map lp0).length cap) = _
   rw [Ya]
  have e2 : xOwn 43 (some ⟨g, cap, L0.map lp0, rest⟩) = [.cells g 43 (lcells (L0.map fun x => (x.1, x.2, (-1 : Int))) ++ rest)] := by
   show [Own.cells g 43 ((L0.map lp0).flatMap V.leaves ++ rest)] = _
   rw [lp0_map, lcells_eq]
  rw [e1, e2]
  refine (nest_c L0 hl g cap rest _ (linv_start L0)).mono ?_
  rintro r S' ⟨L3, hI, rfl⟩
  have hln := linv_len hI
  refine ⟨some ⟨g, cap, L3.map lpV, rest⟩, L3, hI, ?_, ?_, rfl, ?_, h2, ?_⟩
  ·show _ = [Own.cells g 43 ((L3.map lpV).flatMap V.leaves ++ rest)]
   rw [lcells_eq]
  ·show V.raw (.slice (some ⟨g, 0, none⟩) (L3.map lpV).length cap) = _
   rw [Ya, hln]
  ·show (L3.map lpV).length ≤ cap
   rw [Ya, hln]
   have h4 : (L0.map lp0).length ≤ cap := h1
   rwa [Ya] at h4
  ·show ((L3.map lpV).flatMap V.leaves ++ rest).length = cap * 3
   have h5 : ((L0.map lp0).flatMap V.leaves ++ rest).length = cap * 3 := h3
   rw [lp0_map, lcells_eq, Yb, lcells_len, Ya] at h5
   rw [lcells_eq, Yb, lcells_len, hln]
   exact h5
set_option maxRecDepth 100000 in
set_option maxHeartbeats 16000000 in
theorem Find_c (f : SFunc) : VCalls Tryz.prog 10 [funcV f] [] fun r S' => S' = [] ∧ ((funcF f = 0 ∧ ∃ L3, LInv (findF f) L3 ∧ r = .tup [.sl 3 none (L3.map lpV), .int 0]) ∨ (funcF f ≠ 0 ∧ r = .tup [.sl 3 none [], .int (funcF f)])) := by
 refine VCalls_drops ?_
 have hB := backs_c f
 rw [backsX] at hB
 have hP := Preds_c f
 refine V_start (nt := 113) Tryz.func10 rfl rfl rfl ?_
 refine Zb (Zd ?_)
 refine Zc (Zc2 rfl rfl (fun g1 => ?_))
 refine Zc (Zk rfl (Zc (Zk rfl (Za (Zi (Zb (Zd (Zc (Zv 0 VT.ty34 rfl rfl rfl ?_)))))))))
 by_cases h0 : funcF f = 0
 ·
  rw [if_pos h0] at hB
  rw [if_pos h0, h0] at hP
  have hok := func_ok h0
  have h128 := hok.len
  have ho := order_ok hok.pos hok.edges
  have hbs := backs_small hok
  have hpl := predsF_len f.blocks
  refine Zc (Zx1 [.tmp 20] rfl rfl VT.en29 (hB) ?_)
  refine Zc (Zl rfl (Zc (Zg2 rfl rfl (Zc (Zg2 rfl rfl (Zc (Zk rfl (Zc (Zk rfl (Za (Zi (Zb (Zb (Zd (Zc (Zl rfl (Zc (Zj1 rfl rfl rfl (Za (Zi ?_))))))))))))))))))))
  refine Zm1 rfl (fun h25 => ?_) (fun h25 => ?_)
  · exact absurd rfl h25
  ·
   refine Zi1 (Zi (Zb (Zd (Zc (Zv 0 VT.ty34 rfl rfl rfl ?_)))))
   refine Zc (Zx1 [.tmp 28] rfl rfl VT.en30 (Reachable_c h0) ?_)
   refine Zc (Zl rfl (Zc (Zg2 rfl rfl (Zc (Zg2 rfl rfl (Zc (Zk rfl (Zc (Zk rfl (Za (Zi (Zb (Zd (Zc (Zv 0 VT.ty34 rfl rfl rfl ?_)))))))))))))))
   refine Zc (Zx1 [.tmp 33] rfl rfl VT.en11 (hP) ?_)
   refine Zc (Zl rfl (Zc (Zg2 rfl rfl (Zc (Zg2 rfl rfl (Zc (Zk rfl (Zc (Zk rfl (Za (Zi (Zb (Zd (Zc (Zk rfl (Za (Zi (Zb (Zb (Zd (Zc (Zj VT.fa34_1 rfl (Zc (Zu 0 VT.ty32 rfl rfl rfl ?_))))))))))))))))))))))))
   refine Zc (Zd2 (n := f.blocks.length) Tryz.underlying32 rfl (by simp) (fun hl39 => ?_))
   refine Zc (Zl rfl (Za (Zi (Zs ?_))))
   refine Zi2 (ι := Nat × Option XRow × List (Int × List Int)) (fun (k, out, L) => f.blocks.length - k) (fun (k, out, L) => [(1, some (.ptr g1 0)), (4, some (pairsX (backsF f))), (6, some (intsX (reachL f))), (8, some (rowsX (predsF f.blocks))), (10, some (xLeaf out)), (39, some (.int f.blocks.length)), (40, some (.int k))]) (fun (k, out, L) => .cells g1 34 [.int f.name, blocksX f.blocks] :: xOwn 43 out) (fun (k, out, L) => k ≤ f.blocks.length ∧ L ++ hdr f k = findF f ∧ xl out = L.map lp0 ∧ xOk 3 out ∧ L.length ≤ k) (0, none, []) ⟨Ym _, rfl, rfl, trivial, Yn _⟩ ⟨rfl, rfl, rfl, rfl, rfl, rfl, rfl, trivial⟩ (Zt2 _) ?_
   rintro ⟨k, out, L⟩ hA
   change k ≤ f.blocks.length ∧ L ++ hdr f k = findF f ∧ xl out = L.map lp0 ∧ xOk 3 out ∧ L.length ≤ k at hA
   obtain ⟨hk, hq, hxo, hoo, hLl⟩ := hA
   refine Zb (Zd (Zc (Zj1 rfl rfl rfl (Za (Zi (Zb ?_))))))
   refine Zn1 rfl (fun h41 => ?_) (fun h41 => ?_)
   ·
    have h41n : k < f.blocks.length := by omega
    rw [hdr_step h41n] at hq
    refine Zi1 (Zi (Zb (Zs (Zb (Zd (Zc (Zl rfl (Zc (Zk rfl (Za (Zi (Zb (Zd (Zc (Zk rfl (Za (Zi (Zb (Zb (Zd (Zc (Zl rfl ?_))))))))))))))))))))))
    refine Zc (Zd2 (n := (backsF f).length) Tryz.underlying80 rfl (by simp) (fun hl44 => ?_))
    refine Zc (Zl rfl (Za (Zi (Zs ?_))))
    refine Zi2 (ι := Nat × Option XRow × List Int) (fun (i, w, ws) => (backsF f).length - i) (fun (i, w, ws) => [(1, some (.ptr g1 0)), (4, some (pairsX (backsF f))), (6, some (intsX (reachL f))), (8, some (rowsX (predsF f.blocks))), (10, some (xLeaf out)), (39, some (.int f.blocks.length)), (40, some (.int k)), (11, some (.int k)), (12, some (xLeaf w)), (43, some (pairsX (backsF f))), (44, some (.int (backsF f).length)), (45, some (.int i))]) (fun (i, w, ws) => .cells g1 34 [.int f.name, blocksX f.blocks] :: (xOwn 3 w ++ xOwn 43 out)) (fun (i, w, ws) => i ≤ (backsF f).length ∧ ws ++ (((backsF f).drop i).filter fun x => x.2 == (k : Int)).map (·.1) = workF f k ∧ xl w = ws.map V.int ∧ xOk 1 w ∧ ws.length ≤ i) (0, none, []) ⟨Ym _, rfl, rfl, trivial, Yn _⟩ ⟨rfl, rfl, rfl, rfl, rfl, rfl, rfl, rfl, rfl, rfl, rfl, rfl, trivial⟩ (Zt2 _) ?_
    rintro ⟨i, w, ws⟩ hC
    change i ≤ (backsF f).length ∧ ws ++ (((backsF f).drop i).filter fun x => x.2 == (k : Int)).map (·.1) = workF f k ∧ xl w = ws.map V.int ∧ xOk 1 w ∧ ws.length ≤ i at hC
    obtain ⟨hi, hq2, hxw, how, hwl⟩ := hC
    refine Zb (Zd (Zc (Zj1 rfl rfl rfl (Za (Zi (Zb ?_))))))
    refine Zn1 rfl (fun h46 => ?_) (fun h46 => ?_)
    ·
     obtain ⟨e, he⟩ := get_of_lt (backsF f) i h46
     rw [drop_cons he, work_cons, ← Yc] at hq2
     refine Zi1 (Zi (Zb (Zs (Zb (Zd ?_)))))
     refine Zc (Zz (el := pairV e) VT.sl80 rfl rfl (by omega) (get_mapS _ he) (fun a47 => ?_))
     refine Zc (Za2 VT.ty86 rfl rfl ?_)
     refine Zc (Zb2 VT.zr86 _ rfl rfl (fun g14 => ?_))
     refine Zc (Zx 0 VT.ty86 rfl rfl rfl rfl rfl (Za (Zi (Zb (Zd (Zc (Zj VT.fa86_1 rfl (Zc (Zu 0 VT.ty3 rfl rfl rfl (Zc (Zl rfl (Zc (Zj1 rfl rfl rfl (Za (Zi ?_)))))))))))))))
     refine Zl1 rfl (fun h52 => ?_) (fun h52 => ?_)
     ·
      rw [if_pos h52] at hq2
      have hq3 := hq2
      refine Zd (Zc (Zl rfl (Zc (Zj VT.fa86_0 rfl (Zc (Zu 0 VT.ty3 rfl rfl rfl ?_))))))
      refine Zc (Zk3 [.tmp 55] VT.sl41 rfl rfl rfl rfl rfl ?_)
      refine Zc (V_appendO (o := w) (R := _) VT.sl41 (by decide) rfl rfl pull2 how (ints_1 hxw) (fun _ => List.cons_ne_nil _ _) (by rw [hxw, Ya, Yg]; omega) (flat_1 rfl) (fun o57 e57_1 e57_2 e57_3 => ?_))
      refine Zc (Zk rfl (Za (Zb1 (Zi ?_))))
      have hxw3 : xl o57 = (ws ++ [e.1]).map V.int := by rw [e57_1, hxw, Yd]; rfl
      have how3 := e57_2
      have hwl3 : (ws ++ [e.1]).length ≤ i + 1 := by rw [Yb, Yg]; omega
      refine VW_drops drop21 ?_
      refine Zd ?_
      refine Zc (Zh2 rfl rfl (by omega) ?_)
      refine Zc (Zl rfl (Za (Zi ?_)))
      exact ⟨(i + 1, o57, ws ++ [e.1]), (by (try simp only []); omega), ⟨by omega, hq3, hxw3, how3, hwl3⟩, ⟨rfl, rfl, rfl, rfl, rfl, rfl, rfl, rfl, rfl, rfl, rfl, rfl, trivial⟩, (Drops.keep (Zt2 _))⟩
     ·
      rw [if_neg h52, Ye] at hq2
      have hq3 := hq2
      have hxw3 := hxw
      have how3 := how
      have hwl3 : ws.length ≤ i + 1 := by omega
      refine Zi1 (Zb1 (Zi (Zd ?_)))
      refine Zc (Zh2 rfl rfl (by omega) ?_)
      refine Zc (Zl rfl (Za (Zi ?_)))
      exact ⟨(i + 1, w, ws), (by (try simp only []); omega), ⟨by omega, hq3, hxw3, how3, hwl3⟩, ⟨rfl, rfl, rfl, rfl, rfl, rfl, rfl, rfl, rfl, rfl, rfl, rfl, trivial⟩, (Drops.drop (Drops.keep (Zt2 _)))⟩
    ·
     have hie : i = (backsF f).length := by omega
     subst hie
     rw [Yj, List.filter_nil, List.map_nil, Ye] at hq2
     subst hq2
     refine Zt (Ze1 (Ze1 (Zc1 (Zi (Zb (Zb (Zd ?_)))))))
     refine Zc (Zu2 (Zl rfl ⟨rfl, rfl⟩) ((V.le.of_eq (xLeaf_raw w))) ?_)
     refine Zc (V_len_raw Tryz.underlying41 rfl ?_)
     refine Zc (Zj1 rfl rfl rfl (Za (Zi ?_)))
     refine Zl1 rfl (fun h61 => ?_) (fun h61 => ?_)
     ·
      have hw0 : workF f k = [] := by rw [hxw, Ya] at h61; exact List.length_eq_zero_iff.1 (by omega)
      rw [if_pos hw0, List.nil_append] at hq
      have hq9 := hq
      have hxo9 := hxo
      have hoo9 := hoo
      have hLl9 : L.length ≤ k + 1 := by omega
      refine VW_drops drop_left ?_
      refine Zt (Ze1 (Zc1 (Zi (Zd ?_))))
      refine Zc (Zh2 rfl rfl (by omega) ?_)
      refine Zc (Zl rfl (Za (Zi ?_)))
      exact ⟨(k + 1, out, L), (by (try simp only []); omega), ⟨by omega, hq9, hxo9, hoo9, hLl9⟩, ⟨rfl, rfl, rfl, rfl, rfl, rfl, rfl, trivial⟩, (Drops.keep (Zt2 _))⟩
     ·
      obtain ⟨wr, rfl⟩ : ∃ wr, w = some wr := by cases w with | none => exact absurd rfl h61 | some r => exact ⟨r, rfl⟩
      obtain ⟨gw0, cw0, xw, rw0⟩ := wr
      have hxw : xw = (workF f k).map V.int := hxw
      subst hxw
      obtain ⟨how1, how2, how4⟩ := how
      have how1 : ((workF f k).map V.int).length ≤ cw0 := how1
      have how2 : cw0 ≤ maxLen := how2
      have how4 : (((workF f k).map V.int).flatMap V.leaves ++ rw0).length = cw0 * 1 := how4
      rw [flat_ints2] at how4
      have hwne : workF f k ≠ [] := fun e => h61 (by rw [e]; rfl)
      have hko := (work_head hok hwne).1
      have hinv := loop_start hok h41n
      rw [if_neg hwne, ← Yc] at hq
      have hlc := loopC_small hok [(k : Int)]
      have hwl2 := work_le f k
      rw [Ya] at how1
      rw [Yb, Ya] at how4
      refine VW_drops (S' := .cells g1 34 [.int f.name, blocksX f.blocks] :: .cells gw0 3 ((workF f k).map V.int ++ rw0) :: xOwn 43 out) (.keep (.keepE (congrArg (Own.cells gw0 3) (by rw [flat_ints2])) (.refl _))) ?_
      refine Zi1 (Zi (Zb (Zd (Zc (Zl rfl ?_)))))
      refine Zc (V_litRow [.tmp 62] VT.sl41 rfl rfl rfl rfl rfl (fun g63 => ?_))
      refine Zc (Zk rfl (Za (Zi (Zb (Zs ?_)))))
      refine Zi2 (ι := (List Int × List Int) × Nat × Nat × List V × Nat × Nat × List V) (fun ((sw, sa), gw, cw, rw, ga, ca, ra) => loopW f (sw, sa)) (fun ((sw, sa), gw, cw, rw, ga, ca, ra) => [(1, some (.ptr g1 0)), (4, some (pairsX (backsF f))), (6, some (intsX (reachL f))), (8, some (rowsX (predsF f.blocks))), (10, some (xLeaf out)), (39, some (.int f.blocks.length)), (40, some (.int k)), (11, some (.int k)), (12, some (.raw (.slice (some ⟨gw, 0, none⟩) sw.length cw))), (15, some (.raw (.slice (some ⟨ga, 0, none⟩) sa.length ca)))]) (fun ((sw, sa), gw, cw, rw, ga, ca, ra) => .cells ga 3 (sa.map V.int ++ ra) :: .cells g1 34 [.int f.name, blocksX f.blocks] :: .cells gw 3 (sw.map V.int ++ rw) :: xOwn 43 out) (fun ((sw, sa), gw, cw, rw, ga, ca, ra) => LoopInv f k (sw, sa) ∧ bodyR f (sw, sa) = bodyF f k ∧ loopW f (sw, sa) ≤ 65792 ∧ sw.length ≤ cw ∧ cw ≤ maxLen ∧ sw.length + rw.length = cw * 1 ∧ sa.length ≤ ca ∧ ca ≤ maxLen ∧ sa.length + ra.length = ca * 1) ((workF f k, [(k : Int)]), gw0, cw0, rw0, g63, 1, []) ⟨hinv, body_eq f k, (by show (workF f k).length + loopC f [(k : Int)] ≤ 65792; omega), how1, how2, how4, Yn _, by simp only [maxLen]; omega, rfl⟩ ⟨rfl, rfl, rfl, rfl, rfl, rfl, rfl, rfl, (congrArg (fun n => some (V.raw (.slice (some ⟨gw0, 0, none⟩) n cw0))) (Ya ..)), rfl, trivial⟩ (Drops.keep (Drops.keep (Drops.keep (Zt2 _)))) ?_
      rintro ⟨⟨sw, sa⟩, gw, cw, rw, ga, ca, ra⟩ hD
      change LoopInv f k (sw, sa) ∧ bodyR f (sw, sa) = bodyF f k ∧ loopW f (sw, sa) ≤ 65792 ∧ sw.length ≤ cw ∧ cw ≤ maxLen ∧ sw.length + rw.length = cw * 1 ∧ sa.length ≤ ca ∧ ca ≤ maxLen ∧ sa.length + ra.length = ca * 1 at hD
      obtain ⟨inv, hbr, hW, w1, w2, w3, a1, a2, a3⟩ := hD
      have hal : sa.length ≤ 128 := all_len hok hko inv
      have hswl : sw.length ≤ 65792 := by have h9 : sw.length + loopC f sa ≤ 65792 := hW; omega
      refine Zb (Zb (Zd (Zc (Zl rfl ?_))))
      refine Zc (V_len_raw Tryz.underlying41 rfl ?_)
      refine Zc (Zj1 rfl rfl rfl (Za (Zi ?_)))
      refine Zn1 rfl (fun h66 => ?_) (fun h66 => ?_)
      ·
       have hne : sw ≠ [] := fun e => by rw [e] at h66; simp at h66
       obtain ⟨w0, x, rfl⟩ : ∃ w0 x, sw = w0 ++ [x] := ⟨sw.dropLast, sw.getLast hne, (List.dropLast_concat_getLast hne).symm⟩
       obtain ⟨n, rfl, hn, hnl⟩ := inv.work _ (List.mem_append_right _ (List.mem_singleton.2 rfl))
       have hlw : (w0 ++ [(n : Int)]).length = w0.length + 1 := by simp
       have hgx : (w0 ++ [(n : Int)])[w0.length]? = some (n : Int) := by simp
       obtain ⟨ps, hps⟩ := get_of_lt (predsF f.blocks) n (by omega)
       have hpse : (predsF f.blocks)[n]?.getD [] = ps := by rw [hps]; rfl
       have hpsl : ps.length ≤ 32896 := preds_one hok hps
       refine Zi1 (Zi (Zs (Zb (Zd (Zc (Zl rfl (Zc (Zl rfl ?_))))))))
       refine Zc (V_len_raw Tryz.underlying41 rfl ?_)
       refine Zc (Zk2 rfl rfl (by omega) ?_)
       refine Zc (Zr2 VT.sl41 rfl rfl (by omega) (by omega) ?_)
       refine Zc (Zf3 2 w0.length VT.ty3 rfl (by simp) rfl rfl (get_int hgx) ?_)
       refine Zc (Zk rfl (Za (Zi (Zb (Zd (Zc (Zl rfl (Zc (Zl rfl ?_)))))))))
       refine Zc (V_len_raw Tryz.underlying41 rfl ?_)
       refine Zc (Zk2 rfl rfl (by omega) ?_)
       refine Zc (Zu2 (V_slice_rawTo VT.sl41 rfl rfl (by omega) (by omega) ⟨rfl, rfl⟩) ((V.le.of_eq (congrArg (fun m => V.raw (.slice (some ⟨gw, 0, none⟩) m cw)) (show ((((w0 ++ [(n : Int)]).length : Nat) : Int) - 1).toNat = w0.length by omega)))) ?_)
       refine Zc (Zk rfl (Za (Zi (Zb (Zd (Zc (Zl rfl (Zc (Zl rfl ?_)))))))))
       refine Zc (Zx1 [.tmp 79, .tmp 80] rfl rfl VT.en31 (XS.Bin_c none (reachL f) (n : Int) (reach_ne hok) (by have := reach_len f; have := nodup_lt ho.nodup ho.lt; omega) (reach_sorted f)) ?_)
       refine Zc (Zl rfl (Zc (Zg2 rfl rfl (Zc (Zg2 rfl rfl (Zc (Zk rfl (Zc (Zk rfl (Za (Zi (Zb (Zd (Zc (Zl rfl (Zc (Zl rfl ?_)))))))))))))))))
       refine Zj2 (q := 85) rfl (fun hq85 => ?_) (fun hq85 => ?_)
       ·
        have hin : inR f n = true := by rw [← has_inR]; exact hq85
        refine Zc (Zl rfl ?_) (Zy1 hq85)
        refine Zc (Zl rfl ?_) (Zy1 hq85)
        refine Zc (Zl3 [.tmp 86, .tmp 87] [_] _ rfl rfl VT.en32 (.refl _) (contR_c sa (by omega) ga ca ra (n : Int)) ?_) (Zy1 hq85)
        refine Zc (Zl2 rfl ?_) (Zy1 hq85)
        refine Zc (Zs1 rfl hq85 rfl ?_)
        refine Za (Zi ?_)
        refine Zo1 rfl (fun h90 => ?_) (fun h90 => ?_)
        ·
         have hs2 := lstep hok inv hne (lstep_T hin h90)
         rw [hpse] at hs2
         refine Zb (Zd (Zc (Zl rfl (Zc (Zl rfl ?_)))))
         refine Zc (Zk3 [.tmp 92] VT.sl41 rfl rfl rfl rfl rfl ?_)
         refine Zc (V_appendRaw 0 VT.sl41 (by decide) rfl rfl rfl (by rw [Yb, Ya]; exact a3) a1 a2 (by simp; omega) (flat_1 rfl) (fun g94 cap94 rest94 hc94 hm94 hl94 => ?_))
         refine Zc (Zk rfl (Za (Zi (Zd (Zc (Zl rfl (Zc (Zl rfl (Zc (Zl rfl ?_))))))))))
         refine Zc (Zz (el := intsX ps) VT.sl38 rfl rfl (by omega) (get_mapS intsX hps) (fun a98 => ?_))
         refine Zc (Zz1 VT.ty41 rfl rfl ?_)
         refine Zc (V_appendRaw 2 VT.sl41 (by decide) rfl rfl rfl (by rw [Yb, Ya]; exact w3) (by omega) w2 (by rw [Ya]; omega) (flat_is ps) (fun g100 cap100 rest100 hc100 hm100 hl100 => ?_))
         refine Zc (Zk rfl (Za ?_))
         have k1 : (w0 ++ ps).length ≤ cap100 := by rw [Yb]; rw [Ya] at hc100; omega
         have k2 := hm100
         have k3 : (w0 ++ ps).length + rest100.length = cap100 * 1 := by have h9 := hl100; rw [wk_T, Yb, Ya] at h9; exact h9
         have k4 : (sa ++ [(n : Int)]).length ≤ cap94 := by rw [Yb]; exact hc94
         have k5 := hm94
         have k6 : (sa ++ [(n : Int)]).length + rest94.length = cap94 * 1 := by have h9 := hl94; rw [al_T, Yb, Ya] at h9; exact h9
         refine Zb1 (Zi ?_)
         exact ⟨((w0 ++ ps, sa ++ [(n : Int)]), g100, cap100, rest100, g94, cap94, rest94), (by show loopW f _ < loopW f _; have := hs2.2.1; omega), ⟨hs2.1, hs2.2.2.trans hbr, by omega, k1, k2, k3, k4, k5, k6⟩, ⟨rfl, rfl, rfl, rfl, rfl, rfl, rfl, rfl, (by first | rfl | exact congrArg (fun m => some (V.raw (.slice (some ⟨g100, 0, none⟩) m cap100))) (show w0.length + (ps.map V.int).length = (w0 ++ ps).length by simp)), (by first | rfl | exact congrArg (fun m => some (V.raw (.slice (some ⟨g94, 0, none⟩) m cap94))) (show sa.length + 1 = (sa ++ [(n : Int)]).length by simp)), trivial⟩, (Drops.keepE (by first | rfl | exact congrArg (Own.cells _ 3) (al_T _ _ _ _)) (Drops.keep (Drops.keepE (by first | exact congrArg (Own.cells _ 3) (wk_F _ _ _) | exact congrArg (Own.cells _ 3) (wk_T _ _ _ _ _)) (Zt2 _))))⟩
        ·
         have hs2 := lstep hok inv hne (lstep_F (.inr h90))
         have k1 : w0.length ≤ cw := by omega
         have k2 := w2
         have k3 : w0.length + (V.int n :: rw).length = cw * 1 := by rw [Yh]; omega
         have k4 := a1
         have k5 := a2
         have k6 := a3
         refine Zi1 (Zb1 (Zi ?_))
         exact ⟨((w0, sa), gw, cw, .int n :: rw, ga, ca, ra), (by show loopW f _ < loopW f _; have := hs2.2.1; omega), ⟨hs2.1, hs2.2.2.trans hbr, by omega, k1, k2, k3, k4, k5, k6⟩, ⟨rfl, rfl, rfl, rfl, rfl, rfl, rfl, rfl, (by first | rfl | exact congrArg (fun m => some (V.raw (.slice (some ⟨g100, 0, none⟩) m cap100))) (show w0.length + (ps.map V.int).length = (w0 ++ ps).length by simp)), (by first | rfl | exact congrArg (fun m => some (V.raw (.slice (some ⟨g94, 0, none⟩) m cap94))) (show sa.length + 1 = (sa ++ [(n : Int)]).length by simp)), trivial⟩, (Drops.keepE (by first | rfl | exact congrArg (Own.cells _ 3) (al_T _ _ _ _)) (Drops.keep (Drops.keepE (by first | exact congrArg (Own.cells _ 3) (wk_F _ _ _) | exact congrArg (Own.cells _ 3) (wk_T _ _ _ _ _)) (Zt2 _))))⟩
       ·
        have hin : inR f n = false := by rw [← has_inR]; exact hq85
        have hs2 := lstep hok inv hne (lstep_F (.inl hin))
        have k1 : w0.length ≤ cw := by omega
        have k2 := w2
        have k3 : w0.length + (V.int n :: rw).length = cw * 1 := by rw [Yh]; omega
        have k4 := a1
        have k5 := a2
        have k6 := a3
        refine Zk1 hq85 ?_
        refine Zk1 hq85 ?_
        refine Zk1 hq85 ?_
        refine Zk1 hq85 ?_
        refine Zc (Zt1 rfl hq85 rfl ?_)
        refine Za (Zi ?_)
        refine Zq1 rfl rfl ?_
        refine Zi1 (Zb1 (Zi ?_))
        exact ⟨((w0, sa), gw, cw, .int n :: rw, ga, ca, ra), (by show loopW f _ < loopW f _; have := hs2.2.1; omega), ⟨hs2.1, hs2.2.2.trans hbr, by omega, k1, k2, k3, k4, k5, k6⟩, ⟨rfl, rfl, rfl, rfl, rfl, rfl, rfl, rfl, (by first | rfl | exact congrArg (fun m => some (V.raw (.slice (some ⟨g100, 0, none⟩) m cap100))) (show w0.length + (ps.map V.int).length = (w0 ++ ps).length by simp)), (by first | rfl | exact congrArg (fun m => some (V.raw (.slice (some ⟨g94, 0, none⟩) m cap94))) (show sa.length + 1 = (sa ++ [(n : Int)]).length by simp)), trivial⟩, (Drops.keepE (by first | rfl | exact congrArg (Own.cells _ 3) (al_T _ _ _ _)) (Drops.keep (Drops.keepE (by first | exact congrArg (Own.cells _ 3) (wk_F _ _ _) | exact congrArg (Own.cells _ 3) (wk_T _ _ _ _ _)) (Zt2 _))))⟩
      ·
       have hsw : sw = [] := List.length_eq_zero_iff.1 (by omega)
       subst hsw
       rw [bodyR_end] at hbr
       refine Zt (Ze1 (Ze1 (Zc1 (Zi (Zb (Zd (Zc (Zl rfl ?_))))))))
       refine Zc (V_callG [.tmp 101] [_] _ rfl rfl VT.en33 (.refl _) (XS.Sort_c ga ca 3 sa ra (by omega)) ?_)
       rintro r Sa rfl
       refine ⟨_, Zt2 _, ?_⟩
       refine Za (Zi ?_)
       refine VW_freeze 0 (q := 15) (rest := ra) ((sortL sa).map V.int) rfl rfl (by rw [flat_ints2]; rfl) (by rw [Ya]; exact List.length_mergeSort _) a1 a2 (fits_ints _) ?_
       refine VW_drops (S' := .cells g1 34 [.int f.name, blocksX f.blocks] :: xOwn 43 out) (.keep (.drop (.refl _))) ?_
       refine Zd (Zc (Zl rfl (Zc (Zl rfl (Zc (Zl rfl ?_))))))
       refine Zc (Zf2 [0, 1, 2] [.tmp 104, .tmp 105, .const (.int .i64 (-1))] VT.st43 rfl rfl rfl rfl ?_)
       refine Zc (Zk3 [.tmp 106] VT.sl35 rfl rfl rfl rfl rfl ?_)
       refine Zc (V_appendO (o := out) (R := _) VT.sl35 (by decide) rfl rfl pull0 hoo (lp0_3 hxo) (fun _ => List.cons_ne_nil _ _) (by rw [hxo, Ya, Yg]; omega) (flat_1 rfl) (fun o108 e108_1 e108_2 e108_3 => ?_))
       refine Zc (Zk rfl (Za (Zb1 (Zi ?_))))
       have hxo9 : xl o108 = (L ++ [((k : Int), sortL sa)]).map lp0 := by rw [e108_1, hxo, Yd]; rfl
       have hoo9 := e108_2
       have hLl9 : (L ++ [((k : Int), sortL sa)]).length ≤ k + 1 := by rw [Yb, Yg]; omega
       rw [← hbr] at hq
       have hq9 := hq
       refine VW_drops (Drops.of_perm pull0.symm) ?_
       refine Zd ?_
       refine Zc (Zh2 rfl rfl (by omega) ?_)
       refine Zc (Zl rfl (Za (Zi ?_)))
       exact ⟨(k + 1, o108, L ++ [((k : Int), sortL sa)]), (by (try simp only []); omega), ⟨by omega, hq9, hxo9, hoo9, hLl9⟩, ⟨rfl, rfl, rfl, rfl, rfl, rfl, rfl, trivial⟩, (Drops.keep (Zt2 _))⟩
   ·
    have hke : k = f.blocks.length := by omega
    subst hke
    rw [hdr_end, Ye] at hq
    refine Zt (Ze1 (Ze1 (Zc1 (Zi (Zb (Zd (Zc (Zl rfl ?_))))))))
    refine Zc (V_callG [.tmp 110] (xOwn 43 out) [_] rfl rfl VT.en34 pull0 (nestX_c L (by omega) out hxo hoo) ?_)
    rintro r Sa ⟨o2, L3, hI, rfl, hlf, hx3, hok3⟩
    refine ⟨_, Drops.of_perm pull0.symm, ?_⟩
    refine Za (Zi (Zb (Zd ?_)))
    refine Zc (Zu2 (Zl rfl ⟨rfl, rfl⟩) ((V.le.of_eq hlf.symm)) ?_)
    refine Zc (Zk rfl (Zc (Zk rfl (Za (Zi ?_)))))
    refine VW_freezeO (q := 2) (o := o2) rfl pull0 hok3 (fits_lp hx3) ?_
    refine Zf1 ?_
    refine Zh1 rfl rfl (.cons (.tmp rfl) (.cons (.tmp rfl) (.nil))) ?_
    exact ⟨[], Drops.nil _, rfl, .inl ⟨h0, L3, by rw [← hq]; exact hI, by rw [← hx3]⟩⟩
 ·
  rw [if_neg h0] at hB
  refine Zc (Zx1 [.tmp 20] rfl rfl VT.en29 (hB) ?_)
  refine Zc (Zl rfl (Zc (Zg2 rfl rfl (Zc (Zg2 rfl rfl (Zc (Zk rfl (Zc (Zk rfl (Za (Zi (Zb (Zb (Zd (Zc (Zl rfl (Zc (Zj1 rfl rfl rfl (Za (Zi ?_))))))))))))))))))))
  refine Zm1 rfl (fun h25 => ?_) (fun h25 => ?_)
  ·
   refine Zb (Zd (Zc (Zl rfl ?_)))
   refine Zc (Zu2 (Zk rfl ⟨rfl, rfl⟩) ((V.le.nil 3)) ?_)
   refine Zc (Zk rfl (Za (Zi (Zf1 ?_))))
   refine Zd1 (Zh1 rfl rfl (.cons (.tmp rfl) (.cons (.tmp rfl) (.nil))) ?_)
   exact ⟨[], Drops.nil _, rfl, .inr ⟨h0, rfl⟩⟩
  · exact absurd h25 h0
end Go.Proofs.YtjekhhgjfelpgaaGreat.X23
end
