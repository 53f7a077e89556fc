import Derived.Test.YtjekhhgjfelpgaaGreatXA
set_option linter.all false
open List renaming perm_append_comm → Ya, mem_of_getElem? → Yb, drop_length → Yc
namespace Go.Proofs.YtjekhhgjfelpgaaGreat.X36
open Go.VL Go.SM Go.Proofs.YtjekhhgjfelpgaaGreat X1 X2 X3 X4 X5 X6 X7 X8 X9 X10 XS X12 X13 X14 X20 X25 X26
theorem perm_c2 {m o : Own} {O : Store} : (m :: o :: O).Perm (O ++ [m, o]) := Ya (l₁ := [m, o])
theorem drop_c2 {m o : Own} {O : Store} : Drops (O ++ [m, o]) (m :: o :: O) := Drops.of_perm (Ya (l₂ := [m, o]))
theorem perm_c3 {m o r : Own} {O : Store} : (m :: o :: r :: O).Perm (O ++ [m, o, r]) := Ya (l₁ := [m, o, r])
theorem drop_c3 {m o r : Own} {O : Store} : Drops (O ++ [m, o, r]) (m :: o :: r :: O) := Drops.of_perm (Ya (l₂ := [m, o, r]))
theorem valuesL_cons (b : SBlock) (l : List SBlock) : valuesL (b :: l) = (b.params ++ b.ins.map (·.to)) ++ valuesL l := by simp [valuesL]
theorem valuesL_mem {bs : List SBlock} {b : SBlock} (hb : b ∈ bs) : (∀ v ∈ b.params, v ∈ valuesL bs) ∧ ∀ i ∈ b.ins, i.to ∈ valuesL bs :=
  ⟨fun v hv => List.mem_flatMap.2 ⟨b, hb, List.mem_append_left _ hv⟩, fun i hi => List.mem_flatMap.2 ⟨b, hb, List.mem_append_right _ (List.mem_map.2 ⟨i, hi, rfl⟩)⟩⟩
set_option maxRecDepth 100000 in
set_option maxHeartbeats 4000000 in
theorem values_c (f : SFunc) {c : FuncId} {caps : List V} (hen : Go.VL.Enters Tryz.prog c) {ι : Type} (O : ι → Store) (g : ι → Int → ι) (s0 : ι) (hc : ∀ s v, v ∈ valuesL f.blocks → VCalls Tryz.prog c (.int v :: caps) (O s) fun r S' => S' = O (g s v)) : VCalls Tryz.prog 50 [funcV f, .clo (.func c) caps] (O s0) fun r S' => S' = O ((valuesL f.blocks).foldl g s0) := by
 refine VCalls_drops ?_
 refine V_start (nt := 41) Tryz.func50 rfl rfl rfl ?_
 refine Zb (Zd ?_)
 refine Zc (Zc2 rfl rfl (fun g2 => ?_))
 refine Za (Zi (Zb (Zd (Zc (Zj VT.fa34_1 rfl (Zc (Zu 0 VT.ty32 rfl rfl rfl ?_)))))))
 refine Zc (Zd2 (n := f.blocks.length) Tryz.underlying32 rfl (by simp) (fun hl12 => ?_))
 refine Zc (Zl rfl (Za (Zi (Zs ?_))))
 refine Zi2 (ι := Nat × ι) (fun (k, s) => f.blocks.length - k) (fun (k, s) => [(1, some (.clo (.func c) caps)), (2, some (.ptr g2 0)), (11, some (blocksX f.blocks)), (12, some (.int f.blocks.length)), (13, some (.int k))]) (fun (k, s) => .cells g2 34 [.int f.name, blocksX f.blocks] :: O s) (fun (k, s) => k ≤ f.blocks.length ∧ (valuesL (f.blocks.drop k)).foldl g s = (valuesL f.blocks).foldl g s0) (0, s0) ⟨Nat.zero_le _, rfl⟩ ⟨rfl, rfl, rfl, rfl, rfl, trivial⟩ (Drops.keep (Zt2 _)) ?_
 rintro ⟨k, s⟩ hA
 obtain ⟨hk, hq⟩ := hA
 try dsimp only at hk hq
 refine Zb (Zd (Zc (Zj1 rfl rfl rfl (Za (Zi (Zb ?_))))))
 refine Zn1 rfl (fun h14 => ?_) (fun h14 => ?_)
 ·
  obtain ⟨b, hb⟩ := get_of_lt f.blocks k h14
  obtain ⟨hvp, hvi⟩ := valuesL_mem (Yb hb)
  rw [drop_cons hb, valuesL_cons, List.foldl_append, List.foldl_append] at hq
  refine Zi1 (Zi (Zb (Zs (Zb (Zd ?_)))))
  refine Zc (Zz (el := blockV b) VT.sl32 rfl rfl (by omega) (get_mapS _ hb) (fun a15 => ?_))
  refine Zc (Za2 VT.ty50 rfl rfl ?_)
  refine Zc (Zb2 VT.zr50 _ rfl rfl (fun g5 => ?_))
  refine Zc (Zx 0 VT.ty50 rfl rfl rfl rfl rfl (Za (Zi (Zb (Zb (Zd (Zc (Zj VT.fa50_0 rfl (Zc (Zu 0 VT.ty41 rfl rfl rfl ?_))))))))))
  refine Zc (Zd2 (n := b.params.length) Tryz.underlying41 rfl (by simp) (fun hl19 => ?_))
  refine Zc (Zl rfl (Za (Zi (Zs ?_))))
  refine Zi2 (ι := Nat × ι) (fun (j, s2) => b.params.length - j) (fun (j, s2) => [(1, some (.clo (.func c) caps)), (2, some (.ptr g2 0)), (11, some (blocksX f.blocks)), (12, some (.int f.blocks.length)), (13, some (.int k)), (5, some (.ptr g5 0)), (18, some (intsX b.params)), (19, some (.int b.params.length)), (20, some (.int j))]) (fun (j, s2) => .cells g5 50 (blockV b).leaves :: .cells g2 34 [.int f.name, blocksX f.blocks] :: O s2) (fun (j, s2) => j ≤ b.params.length ∧ (b.params.drop j).foldl g s2 = b.params.foldl g s) (0, s) ⟨Nat.zero_le _, rfl⟩ ⟨rfl, rfl, rfl, rfl, rfl, rfl, rfl, rfl, rfl, trivial⟩ (Drops.keep (Drops.keep (Zt2 _))) ?_
  rintro ⟨j, s2⟩ hA2
  obtain ⟨hj, hq2⟩ := hA2
  try dsimp only at hj hq2
  refine Zb (Zd (Zc (Zj1 rfl rfl rfl (Za (Zi (Zb ?_))))))
  refine Zn1 rfl (fun h21 => ?_) (fun h21 => ?_)
  ·
   obtain ⟨v, hv⟩ := get_of_lt b.params j h21
   rw [drop_cons hv, List.foldl_cons] at hq2
   refine Zi1 (Zi (Zb (Zs (Zb (Zd ?_)))))
   refine Zc (Zz (el := V.int v) VT.sl41 rfl rfl (by omega) (get_int hv) (fun a22 => ?_))
   refine Zc (Zz1 VT.ty3 rfl rfl (Zc (Zk rfl (Za (Zi (Zd (Zc (Zl rfl (Zc (Zl rfl ?_))))))))))
   refine Zc (V_callCloG [.tmp 25] (O s2) [_, _] rfl rfl rfl hen perm_c2 (hc s2 v (hvp v (Yb hv))) ?_)
   rintro r Sa rfl
   refine ⟨_, drop_c2, ?_⟩
   refine Za (Zb1 (Zi (Zd ?_)))
   refine Zc (Zh2 rfl rfl (by omega) ?_)
   refine Zc (Zl rfl (Za (Zi ?_)))
   exact ⟨(j + 1, g s2 v), (by (try simp only []); omega), ⟨by omega, hq2⟩, ⟨rfl, rfl, rfl, rfl, rfl, rfl, rfl, rfl, rfl, trivial⟩, (Drops.keep (Drops.keep (Zt2 _)))⟩
  ·
   have hje : j = b.params.length := by omega
   subst hje
   rw [Yc, List.foldl_nil] at hq2
   rw [← hq2] at hq
   refine Zt (Ze1 (Ze1 (Zc1 (Zi (Zb (Zd (Zc (Zj VT.fa50_1 rfl (Zc (Zu 0 VT.ty48 rfl rfl rfl ?_))))))))))
   refine Zc (Zd2 (n := b.ins.length) Tryz.underlying48 rfl (by simp) (fun hl30 => ?_))
   refine Zc (Zl rfl (Za (Zi (Zs ?_))))
   refine Zi2 (ι := Nat × ι) (fun (j, s3) => b.ins.length - j) (fun (j, s3) => [(1, some (.clo (.func c) caps)), (2, some (.ptr g2 0)), (11, some (blocksX f.blocks)), (12, some (.int f.blocks.length)), (13, some (.int k)), (5, some (.ptr g5 0)), (29, some (inssX b.ins)), (30, some (.int b.ins.length)), (31, some (.int j))]) (fun (j, s3) => .cells g5 50 (blockV b).leaves :: .cells g2 34 [.int f.name, blocksX f.blocks] :: O s3) (fun (j, s3) => j ≤ b.ins.length ∧ ((b.ins.drop j).map (·.to)).foldl g s3 = (b.ins.map (·.to)).foldl g s2) (0, s2) ⟨Nat.zero_le _, rfl⟩ ⟨rfl, rfl, rfl, rfl, rfl, rfl, rfl, rfl, rfl, trivial⟩ (Drops.keep (Drops.keep (Zt2 _))) ?_
   rintro ⟨j, s3⟩ hA3
   obtain ⟨hj3, hq3⟩ := hA3
   try dsimp only at hj3 hq3
   refine Zb (Zd (Zc (Zj1 rfl rfl rfl (Za (Zi (Zb ?_))))))
   refine Zn1 rfl (fun h32 => ?_) (fun h32 => ?_)
   ·
    obtain ⟨i, hi⟩ := get_of_lt b.ins j h32
    rw [drop_cons hi, List.map_cons, List.foldl_cons] at hq3
    refine Zi1 (Zi (Zb (Zs (Zb (Zd ?_)))))
    refine Zc (Zz (el := insV i) VT.sl48 rfl rfl (by omega) (get_mapS _ hi) (fun a33 => ?_))
    refine Zc (Za2 VT.ty70 rfl rfl ?_)
    refine Zc (Zb2 VT.zr70 _ rfl rfl (fun g9 => ?_))
    refine Zc (Zx 0 VT.ty70 rfl rfl rfl rfl rfl (Za (Zi (Zd (Zc (Zl rfl (Zc (Zj VT.fa70_0 rfl (Zc (Zu 0 VT.ty3 rfl rfl rfl ?_))))))))))
    refine Zc (V_callCloG [.tmp 37] (O s3) [_, _, _] rfl rfl rfl hen perm_c3 (hc s3 i.to (hvi i (Yb hi))) ?_)
    rintro r Sa rfl
    refine ⟨_, drop_c3, ?_⟩
    refine Za (Zb1 (Zi (Zd ?_)))
    refine Zc (Zh2 rfl rfl (by omega) ?_)
    refine Zc (Zl rfl (Za (Zi ?_)))
    exact ⟨(j + 1, g s3 i.to), (by (try simp only []); omega), ⟨by omega, hq3⟩, ⟨rfl, rfl, rfl, rfl, rfl, rfl, rfl, rfl, rfl, trivial⟩, (Drops.drop (Drops.keep (Drops.keep (Zt2 _))))⟩
   ·
    have hje : j = b.ins.length := by omega
    subst hje
    rw [Yc, List.map_nil, List.foldl_nil] at hq3
    rw [← hq3] at hq
    refine Zt (Ze1 (Ze1 (Zc1 (Zb1 (Zi (Zd ?_))))))
    refine Zc (Zh2 rfl rfl (by omega) ?_)
    refine Zc (Zl rfl (Za (Zi ?_)))
    exact ⟨(k + 1, s3), (by (try simp only []); omega), ⟨by omega, hq⟩, ⟨rfl, rfl, rfl, rfl, rfl, trivial⟩, (Drops.drop (Drops.keep (Zt2 _)))⟩
 ·
  have hke : k = f.blocks.length := by omega
  subst hke
  rw [Yc] at hq
  refine Zt (Ze1 (Ze1 (Zc1 ?_)))
  refine Zn3 rfl ?_
  exact ⟨_, Drops.drop (Zt2 _), by rw [← hq]; rfl⟩
set_option maxRecDepth 100000 in
theorem fresh1_c (g : Nat) (n v : Int) (hv : 0 ≤ v ∧ v ≤ 4095) : VCalls Tryz.prog 51 [.int v, .ptr g 0] [.cells g 3 [.int n]] fun r S' => S' = [.cells g 3 [.int (max n (v + 1))]] := by
 refine VCalls_drops ?_
 refine V_start (nt := 7) Tryz.func51 rfl rfl rfl ?_
 refine Zd (Zc (Zu 0 VT.ty3 rfl rfl rfl (Zc (Zl rfl ?_))))
 refine Zc (Zh2 rfl rfl (by omega) ?_)
 refine Zc (V_max2 rfl rfl (Zc (Zy 0 VT.ty3 rfl rfl rfl rfl rfl (Za ?_))))
 refine Zn3 rfl ?_
 exact ⟨_, Zt2 _, congrArg (fun x => [Own.cells g 3 [V.int x]]) (by split <;> omega)⟩
set_option maxRecDepth 100000 in
theorem Fresh_c {f : SFunc} (h : funcF f = 0) : VPure Tryz.prog 26 [funcV f] (.int (freshF f.blocks)) := by
 have hok := func_ok h
 refine V_start (nt := 8) Tryz.func26 rfl rfl rfl ?_
 refine Zb (Zd ?_)
 refine Zc (Zc2 rfl rfl (fun g1 => ?_))
 refine Zc (Zk rfl (Za (Zi (Zb (Zd ?_)))))
 refine Zc (Zb2 VT.zr3 _ rfl rfl (fun g3 => ?_))
 refine Zc (Zy 0 VT.ty3 rfl rfl rfl rfl rfl (Za (Zi (Zb (Zd (Zc (Zv 1 VT.ty34 rfl rfl rfl ?_)))))))
 refine Zc (V_makeFunc [.tmp 3] rfl rfl ?_)
 refine Zc (V_callG [.tmp 4, .tmp 5] [.cells g3 3 [.int 0]] [_] rfl rfl VT.en50 (.refl _) (values_c f VT.en51 (fun n : Int => [.cells g3 3 [.int n]]) (fun n v => max n (v + 1)) 0 (fun n v hv => fresh1_c g3 n v (values_keys hok v hv))) ?_)
 rintro r Sa rfl
 refine ⟨_, Zt2 _, ?_⟩
 refine Za (Zi (Zb (Zd (Zc (Zu 0 VT.ty3 rfl rfl rfl (Zc (Zk rfl (Za (Zi (Zf1 ?_))))))))))
 refine Zg1 rfl (.tmp rfl) ?_
 rfl
end Go.Proofs.YtjekhhgjfelpgaaGreat.X36
