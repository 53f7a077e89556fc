import Derived.Test.YtjekhhgjfelpgaaGreatX20
set_option linter.all false
open List renaming append_nil → Ya
namespace Go.Proofs.YtjekhhgjfelpgaaGreat.X22
open Go.VL Go.SM Go.Proofs.YtjekhhgjfelpgaaGreat XS X1 X2 X3 X4 X5 X6 X7 X8 X9 X10 X12 X13 X14 X20
theorem climb_nx {bs : List SBlock} (ho : OrderOk bs (orderF bs)) {ov : List Int} (h : Tree bs ov) {v m : Nat} {y : Int} (hv : InT bs ov v) (hy : ov[v]? = some y) (hp : pos bs v < m + 1) : y = -1 ∨ ∃ w : Nat, y = w ∧ InT bs ov w ∧ pos bs w < m := by
  by_cases h0 : v = 0
  · subst h0
    rw [h.root] at hy
    injection hy with hy
    exact .inl hy.symm
  · obtain ⟨q, hq, hi, hp2⟩ := h.parent ho hv h0
    rw [hq] at hy
    injection hy with hy
    exact .inr ⟨q, hy.symm, hi, by omega⟩
def pairV (p : Int × Int) : V := .agg [.int p.1, .int p.2]
abbrev pairsX (l : List (Int × Int)) : V := .sl 2 none (l.map pairV)
def backsX (f : SFunc) : V := if funcF f = 0 then .tup [pairsX (backsF f), .int 0] else .tup [pairsX [], .int (funcF f)]
theorem over_cons {p : SEdge → Bool} {e : SEdge} {l : List SEdge} {k : Int} : ((e :: l).filter p).map (fun e => (k, e.block)) = (if p e = true then [(k, e.block)] else []) ++ (l.filter p).map fun e => (k, e.block) := by
  rw [List.filter_cons]
  split <;> rfl
theorem sort_nil : VPure Tryz.prog 33 [.sl 1 none []] (.raw (.tuple #[])) := fun m w us hu hw => by
  obtain ⟨u, us', rfl, ⟨A, cap, hu1, _⟩, hu2⟩ := hu
  have hu2 : us' = [] := hu2
  have hu1 : u = .slice A 0 cap := hu1
  subst hu1 hu2
  exact (Any.slices_Sort_int_none XS.lays A cap w).mono fun e w' ⟨h1, h2⟩ => ⟨_, [], m, .tuple #[], rfl, h1, rfl, by rw [h2]; exact Step.refl hw⟩
set_option maxRecDepth 100000 in
theorem over_c {f : SFunc} (h : funcF f = 0) (a : Int) {b : Nat} (hb : b ∈ orderF f.blocks) : VPure Tryz.prog 53 [intsX (treeF f.blocks), .int a, .int b] (.bool (overZ f a b)) := by
 have hok := func_ok h
 have ho := order_ok hok.pos hok.edges
 have ht := tree_ok ho hok.edges
 have htl := ht.inv.tree.len
 have hin := ht.all b hb
 refine V_start (nt := 21) Tryz.func53 rfl rfl rfl ?_
 refine Zb (Zd (Zc (Zk rfl (Za (Zi (Zb (Zs ?_)))))))
 refine Zi2 (ι := Nat × Int) (fun (n, x) => n) (fun (n, x) => [(0, some (intsX (treeF f.blocks))), (1, some (.int a)), (2, some (.int x))]) (fun (n, x) => []) (fun (n, x) => climbB (treeF f.blocks) n a x = overZ f a b ∧ (x = -1 ∨ ∃ v : Nat, x = v ∧ InT f.blocks (treeF f.blocks) v ∧ pos f.blocks v < n)) (f.blocks.length + 1, (b : Int)) ⟨rfl, .inr ⟨b, rfl, hin, by have := pos_lt ho hin.1; omega⟩⟩ ⟨rfl, rfl, rfl, trivial⟩ (Drops.nil _) ?_
 rintro ⟨n, x⟩ hA
 change climbB (treeF f.blocks) n a x = overZ f a b ∧ (x = -1 ∨ ∃ v : Nat, x = v ∧ InT f.blocks (treeF f.blocks) v ∧ pos f.blocks v < n) at hA
 obtain ⟨hq, hx⟩ := hA
 refine Zb (Zb (Zd (Zc (Zl rfl (Zc (Zj1 rfl rfl rfl (Zc (Zl rfl ?_))))))))
 refine Zj2 (q := 9) rfl (fun hq9 => ?_) (fun hq9 => ?_)
 ·
  have h9 : x ≥ 0 := of_decide_eq_true hq9
  refine Zc (Zl rfl ?_) (Zy1 hq9)
  refine Zc (Zl rfl ?_) (Zy1 hq9)
  refine Zc (Zj1 rfl rfl rfl ?_) (Zy1 hq9)
  refine Zc (Zs1 rfl hq9 rfl ?_)
  refine Za (Zi ?_)
  refine Zm1 rfl (fun h13 => ?_) (fun h13 => ?_)
  ·
   obtain ⟨v, rfl, hin2, hpv⟩ := hx.resolve_left (by omega)
   obtain ⟨m, rfl⟩ : ∃ m, n = m + 1 := ⟨n - 1, by omega⟩
   rw [climbB, if_pos ⟨h9, h13⟩] at hq
   obtain ⟨y, hy⟩ := get_of_lt (treeF f.blocks) v (by have := ho.lt v hin2.1; omega)
   have hgy := gI_get ho hy
   rw [hgy] at hq
   have hq2 := hq
   have hy2 : y = -1 ∨ ∃ w : Nat, y = w ∧ InT f.blocks (treeF f.blocks) w ∧ pos f.blocks w < m := climb_nx ho ht.inv.tree hin2 hy hpv
   refine Zi1 (Zi (Zs (Zd (Zc (Zl rfl (Zc (Zl rfl ?_)))))))
   refine Zc (Zz (el := V.int y) VT.sl41 rfl rfl (by omega) (get_int hy) (fun a16 => ?_))
   refine Zc (Zz1 VT.ty3 rfl rfl (Zc (Zk rfl (Za (Zb1 (Zi ?_))))))
   exact ⟨(m, y), (by (try simp only []); omega), ⟨hq2, hy2⟩, ⟨rfl, rfl, rfl, trivial⟩, (Drops.nil _)⟩
  ·
   have hfin : overZ f a b = decide (x = a) := by rw [← hq]; cases n with
        | zero => rfl
        | succ n => rw [climbB, if_neg (fun h => h.2 h13)]
   refine Zt (Ze1 (Ze1 (Zc1 (Zi (Zb (Zd (Zc (Zl rfl (Zc (Zl rfl (Zc (Zj1 rfl rfl rfl (Zc (Zk rfl (Za (Zi (Zf1 ?_)))))))))))))))))
   refine Zg1 rfl (.tmp rfl) ?_
   rw [hfin]; exact congrArg V.bool (by rw [Bool.eq_iff_iff, beq_iff_eq, decide_eq_true_eq]; omega)
 ·
  have h9 : ¬ x ≥ 0 := of_decide_eq_false hq9
  refine Zk1 hq9 ?_
  refine Zk1 hq9 ?_
  refine Zk1 hq9 ?_
  refine Zc (Zt1 rfl hq9 rfl ?_)
  refine Za (Zi ?_)
  refine Zq1 rfl rfl ?_
  have hfin : overZ f a b = decide (x = a) := by rw [← hq]; cases n with
        | zero => rfl
        | succ n => rw [climbB, if_neg (fun h => h9 h.1)]
  refine Zt (Ze1 (Ze1 (Zc1 (Zi (Zb (Zd (Zc (Zl rfl (Zc (Zl rfl (Zc (Zj1 rfl rfl rfl (Zc (Zk rfl (Za (Zi (Zf1 ?_)))))))))))))))))
  refine Zg1 rfl (.tmp rfl) ?_
  rw [hfin]; exact congrArg V.bool (by rw [Bool.eq_iff_iff, beq_iff_eq, decide_eq_true_eq]; omega)
set_option maxRecDepth 100000 in
theorem ReachE_c {f : SFunc} (h0 : funcF f ≠ 0) : VPure Tryz.prog 30 [funcV f] (.tup [intsX [], .int (funcF f)]) := by
 have hO := Order_c f
 rw [if_neg h0] at hO
 refine V_start (nt := 15) Tryz.func30 rfl rfl rfl ?_
 refine Zb (Zd ?_)
 refine Zc (Zc2 rfl rfl (fun g1 => ?_))
 refine Zc (Zk rfl (Zc (Zk rfl (Za (Zi (Zb (Zd (Zc (Zv 0 VT.ty34 rfl rfl rfl ?_)))))))))
 refine Zc (Zu2 (Zx1 [.tmp 7] rfl rfl VT.en54 (hO) ⟨rfl, rfl⟩) ((V.le.refl _ : V.le _ (.tup [intsX [], .int (funcF f)]))) ?_)
 refine Zc (Zl rfl (Zc (Zg2 rfl rfl (Zc (Zg2 rfl rfl (Zc (Zk rfl (Zc (Zk rfl (Za (Zi (Zb (Zd (Zc (Zl rfl ?_)))))))))))))))
 refine Zc (Zx1 [.tmp 11] rfl rfl VT.en33 (sort_nil) ?_)
 refine Za (Zi (Zb (Zd (Zc (Zl rfl (Zc (Zl rfl (Zc (Zk rfl (Zc (Zk rfl (Za (Zi (Zf1 ?_))))))))))))))
 refine Zh1 rfl rfl (.cons (.tmp rfl) (.cons (.tmp rfl) (.nil))) ?_
 rfl
set_option maxRecDepth 100000 in
set_option maxHeartbeats 8000000 in
theorem backs_c (f : SFunc) : VPure Tryz.prog 29 [funcV f] (backsX f) := by
 have hr := backsX.eq_def f
 refine V_start (nt := 59) Tryz.func29 rfl rfl rfl ?_
 refine Zb (Zd ?_)
 refine Zc (Zc2 rfl rfl (fun g1 => ?_))
 refine Zc (Zk rfl (Zc (Zk rfl (Za (Zi (Zb (Zd (Zc (Zv 0 VT.ty34 rfl rfl rfl ?_)))))))))
 by_cases h0 : funcF f = 0
 ·
  rw [if_pos h0] at hr
  have hok := func_ok h0
  have h128 := hok.len
  have ho := order_ok hok.pos hok.edges
  have hrl := reach_len f
  have hol := nodup_lt ho.nodup ho.lt
  have hT := Tree_c f
  rw [if_pos h0, h0] at hT
  refine Zc (Zx1 [.tmp 14] rfl rfl VT.en30 (Reachable_c h0) ?_)
  refine Zc (Zl rfl (Zc (Zg2 rfl rfl (Zc (Zg2 rfl rfl (Zc (Zk rfl (Zc (Zk rfl (Za (Zi (Zb (Zb (Zd (Zc (Zl rfl (Zc (Zj1 rfl rfl rfl (Za (Zi ?_))))))))))))))))))))
  refine Zm1 rfl (fun h19 => ?_) (fun h19 => ?_)
  · exact absurd rfl h19
  ·
   refine Zi1 (Zi (Zb (Zd (Zc (Zv 0 VT.ty34 rfl rfl rfl ?_)))))
   refine Zc (Zx1 [.tmp 22] rfl rfl VT.en52 (hT) ?_)
   refine Zc (Zl rfl (Zc (Zg2 rfl rfl (Zc (Zg2 rfl rfl (Zc (Zk rfl (Zc (Zk rfl (Za (Zi (Zb (Zd (Zc (V_assign_nil 86 2 (Za (Zi (Zb (Zb (Zd (Zc (Zl rfl ?_))))))))))))))))))))))
   refine Zc (Zd2 (n := (reachL f).length) Tryz.underlying41 rfl (by simp) (fun hl27 => ?_))
   refine Zc (Zl rfl (Za (Zi (Zs ?_))))
   refine Zi2 (ι := Nat × Tok × List (Int × Int)) (fun (i, tok, out) => (reachL f).length - i) (fun (i, tok, out) => [(1, some (.ptr g1 0)), (6, some (intsX (treeF f.blocks))), (8, some (.sl 2 (some tok) (out.map pairV))), (26, some (intsX (reachL f))), (27, some (.int (reachL f).length)), (28, some (.int i))]) (fun (i, tok, out) => [.buf tok 86 2 out.length, .cells g1 34 [.int f.name, blocksX f.blocks]]) (fun (i, tok, out) => i ≤ (reachL f).length ∧ out ++ ((reachL f).drop i).flatMap (fun k : Int => ((toAt f.blocks k.toNat).filter fun e => overZ f e.block k).map fun e => (k, e.block)) = backsF f ∧ out.length ≤ i * 257) (0, .nil, []) ⟨Nat.zero_le _, rfl, Nat.le_refl _⟩ ⟨rfl, rfl, rfl, rfl, rfl, rfl, trivial⟩ (Drops.buf (by simp) (Drops.keep (Zt2 _))) ?_
   rintro ⟨i, tok, out⟩ hA
   change i ≤ (reachL f).length ∧ out ++ ((reachL f).drop i).flatMap (fun k : Int => ((toAt f.blocks k.toNat).filter fun e => overZ f e.block k).map fun e => (k, e.block)) = backsF f ∧ out.length ≤ i * 257 at hA
   obtain ⟨hi, hq, hol2⟩ := hA
   refine Zb (Zd (Zc (Zj1 rfl rfl rfl (Za (Zi (Zb ?_))))))
   refine Zn1 rfl (fun h29 => ?_) (fun h29 => ?_)
   ·
    obtain ⟨k0, hk0⟩ := get_of_lt (reachL f) i h29
    obtain ⟨k, rfl, hko⟩ := inR_iff.1 (show inR f k0 = true from List.any_eq_true.2 ⟨_, List.mem_of_getElem? hk0, decide_eq_true rfl⟩)
    have hkl := ho.lt k hko
    obtain ⟨b, hb⟩ := get_of_lt f.blocks k (by omega)
    have hte := term_edges hok (List.mem_of_getElem? hb)
    rw [drop_cons hk0, List.flatMap_cons, ← List.append_assoc, Int.toNat_natCast, toAt_get hb] at hq
    refine Zi1 (Zi (Zb (Zs (Zb (Zd ?_)))))
    refine Zc (Zz (el := V.int (k : Int)) VT.sl41 rfl rfl (by omega) (get_int hk0) (fun a30 => ?_))
    refine Zc (Zz1 VT.ty3 rfl rfl (Zc (Zk rfl (Za (Zi (Zb (Zd (Zc (Zj VT.fa34_1 rfl (Zc (Zu 1 VT.ty32 rfl rfl rfl (Zc (Zl rfl ?_)))))))))))))
    refine Zc (Zz (el := blockV b) VT.sl32 rfl rfl (by omega) (get_mapS _ hb) (fun a35 => ?_))
    refine Zc (Zs2 VT.fa50_2 rfl (Zc (Zw1 VT.fa47_4 rfl rfl (Zc (Zz1 VT.ty45 rfl rfl ?_)))))
    refine Zc (Zd2 (n := b.term.to.length) Tryz.underlying45 rfl (by simp) (fun hl39 => ?_))
    refine Zc (Zl rfl (Za (Zi (Zs ?_))))
    refine Zi2 (ι := Nat × Tok × List (Int × Int)) (fun (j, tok2, out2) => b.term.to.length - j) (fun (j, tok2, out2) => [(1, some (.ptr g1 0)), (6, some (intsX (treeF f.blocks))), (8, some (.sl 2 (some tok2) (out2.map pairV))), (10, some (.int k)), (26, some (intsX (reachL f))), (27, some (.int (reachL f).length)), (28, some (.int i)), (38, some (edgesX b.term.to)), (39, some (.int b.term.to.length)), (40, some (.int j))]) (fun (j, tok2, out2) => [.buf tok2 86 2 out2.length, .cells g1 34 [.int f.name, blocksX f.blocks]]) (fun (j, tok2, out2) => j ≤ b.term.to.length ∧ out2 ++ ((b.term.to.drop j).filter (fun e => overZ f e.block k)).map (fun e => ((k : Int), e.block)) = out ++ (b.term.to.filter (fun e => overZ f e.block k)).map (fun e => ((k : Int), e.block)) ∧ out2.length ≤ i * 257 + j) (0, tok, out) ⟨Nat.zero_le _, rfl, hol2⟩ ⟨rfl, rfl, rfl, rfl, rfl, rfl, rfl, rfl, rfl, rfl, trivial⟩ (Drops.buf (by simp) (Drops.keep (Zt2 _))) ?_
    rintro ⟨j, tok2, out2⟩ hB
    change j ≤ b.term.to.length ∧ out2 ++ ((b.term.to.drop j).filter (fun e => overZ f e.block k)).map (fun e => ((k : Int), e.block)) = out ++ (b.term.to.filter (fun e => overZ f e.block k)).map (fun e => ((k : Int), e.block)) ∧ out2.length ≤ i * 257 + j at hB
    obtain ⟨hj, hq2, hol3⟩ := hB
    refine Zb (Zd (Zc (Zj1 rfl rfl rfl (Za (Zi (Zb ?_))))))
    refine Zn1 rfl (fun h41 => ?_) (fun h41 => ?_)
    ·
     obtain ⟨e, he⟩ := get_of_lt b.term.to j h41
     rw [drop_cons he, over_cons, ← List.append_assoc] at hq2
     refine Zi1 (Zi (Zb (Zs (Zb (Zd ?_)))))
     refine Zc (Zz (el := edgeV e) VT.sl45 rfl rfl (by omega) (get_mapS _ he) (fun a42 => ?_))
     refine Zc (Za2 VT.ty79 rfl rfl ?_)
     refine Zc (Zb2 VT.zr79 _ rfl rfl (fun g12 => ?_))
     refine Zc (Zx 0 VT.ty79 rfl rfl rfl rfl rfl (Za (Zi (Zb (Zd (Zc (Zl rfl (Zc (Zj VT.fa79_0 rfl (Zc (Zu 0 VT.ty3 rfl rfl rfl (Zc (Zl rfl ?_)))))))))))))
     refine Zc (Zx1 [.tmp 44, .tmp 46, .tmp 47] rfl rfl VT.en53 (over_c h0 e.block hko) ?_)
     refine Za (Zi ?_)
     refine Zr1 rfl (fun h48 => ?_) (fun h48 => ?_)
     ·
      rw [if_pos h48] at hq2
      have hq3 := hq2
      have hol4 : (out2 ++ [((k : Int), e.block)]).length ≤ i * 257 + (j + 1) := by rw [List.length_append, List.length_singleton]; omega
      refine Zd (Zc (Zl rfl (Zc (Zl rfl (Zc (Zj VT.fa79_0 rfl (Zc (Zu 0 VT.ty3 rfl rfl rfl ?_))))))))
      refine Zc (Zf2 [0, 1] [.tmp 50, .tmp 52] VT.st86 rfl rfl rfl rfl ?_)
      refine Zc (Zk3 [.tmp 53] VT.sl80 rfl rfl rfl rfl rfl ?_)
      refine Zc (Zi3 1 _ VT.sl80 rfl rfl rfl (by simp) (by simp; omega) (fun t55 => ?_))
      refine Zc (Zk rfl (Za (Zb1 (Zi (Zd ?_)))))
      refine Zc (Zh2 rfl rfl (by omega) ?_)
      refine Zc (Zl rfl (Za (Zi ?_)))
      exact ⟨(j + 1, t55, out2 ++ [((k : Int), e.block)]), (by (try simp only []); omega), ⟨by omega, hq3, hol4⟩, ⟨rfl, rfl, (by first | rfl | (rw [List.map_append]; rfl)), rfl, rfl, rfl, rfl, rfl, rfl, rfl, trivial⟩, (Drops.drop (Drops.buf (by simp) (Drops.keep (Zt2 _))))⟩
     ·
      rw [if_neg (by rw [h48]; decide), Ya] at hq2
      have hq3 := hq2
      have hol4 : out2.length ≤ i * 257 + (j + 1) := by omega
      refine Zi1 (Zb1 (Zi (Zd ?_)))
      refine Zc (Zh2 rfl rfl (by omega) ?_)
      refine Zc (Zl rfl (Za (Zi ?_)))
      exact ⟨(j + 1, tok2, out2), (by (try simp only []); omega), ⟨by omega, hq3, hol4⟩, ⟨rfl, rfl, (by first | rfl | (rw [List.map_append]; rfl)), rfl, rfl, rfl, rfl, rfl, rfl, rfl, trivial⟩, (Drops.drop (Drops.buf (by simp) (Drops.keep (Zt2 _))))⟩
    ·
     have hje : j = b.term.to.length := by omega
     subst hje
     rw [List.drop_length, List.filter_nil, List.map_nil, Ya] at hq2
     rw [← hq2] at hq
     refine Zt (Ze1 (Ze1 (Zc1 (Zb1 (Zi (Zd ?_))))))
     refine Zc (Zh2 rfl rfl (by omega) ?_)
     refine Zc (Zl rfl (Za (Zi ?_)))
     exact ⟨(i + 1, tok2, out2), (by (try simp only []); omega), ⟨by omega, hq, by omega⟩, ⟨rfl, rfl, rfl, rfl, rfl, rfl, trivial⟩, (Drops.buf (by simp) (Drops.keep (Zt2 _)))⟩
   ·
    have hie : i = (reachL f).length := by omega
    subst hie
    rw [List.drop_length, List.flatMap_nil, Ya] at hq
    refine Zt (Ze1 (Ze1 (Zc1 (Zi (Zb (Zd (Zc (Zl rfl (Zc (Zk rfl (Zc (Zk rfl (Za (Zi (Zf1 ?_)))))))))))))))
    refine Zh1 rfl rfl (.cons (.strip rfl) (.cons (.tmp rfl) (.nil))) ?_
    rw [hr, hq]
 ·
  rw [if_neg h0] at hr
  refine Zc (Zx1 [.tmp 14] rfl rfl VT.en30 (ReachE_c h0) ?_)
  refine Zc (Zl rfl (Zc (Zg2 rfl rfl (Zc (Zg2 rfl rfl (Zc (Zk rfl (Zc (Zk rfl (Za (Zi (Zb (Zb (Zd (Zc (Zl rfl (Zc (Zj1 rfl rfl rfl (Za (Zi ?_))))))))))))))))))))
  refine Zm1 rfl (fun h19 => ?_) (fun h19 => ?_)
  ·
   refine Zb (Zd (Zc (Zl rfl ?_)))
   refine Zc (Zu2 (Zk rfl ⟨rfl, rfl⟩) ((V.le.nil 2)) ?_)
   refine Zc (Zk rfl (Za (Zi (Zf1 ?_))))
   refine Zd1 (Zh1 rfl rfl (.cons (.strip rfl) (.cons (.tmp rfl) (.nil))) ?_)
   rw [hr]
   rfl
  · exact absurd h19 h0
end Go.Proofs.YtjekhhgjfelpgaaGreat.X22
