import Derived.Test.YtjekhhgjfelpgaaVT
import Derived.Test.YtjekhhgjfelpgaaS2
import Derived.Test.YtjekhhgjfelpgaaVO
import Derived.Test.YtjekhhgjfelpgaaDZ
import Derived.Test.YtjekhhgjfelpgaaX1
import Derived.Test.YtjekhhgjfelpgaaX2
import Derived.Test.YtjekhhgjfelpgaaX3
import Derived.Test.YtjekhhgjfelpgaaX4
import Derived.Test.YtjekhhgjfelpgaaX5
import Derived.Test.YtjekhhgjfelpgaaX6
import Derived.Test.YtjekhhgjfelpgaaX7
import Derived.Test.YtjekhhgjfelpgaaX8
import Derived.Test.YtjekhhgjfelpgaaX9
import Derived.Test.YtjekhhgjfelpgaaX10
import Derived.Test.YtjekhhgjfelpgaaXS
import Derived.Test.YtjekhhgjfelpgaaX12
import Derived.Test.YtjekhhgjfelpgaaX13
import Derived.Test.YtjekhhgjfelpgaaX20
import Derived.Test.YtjekhhgjfelpgaaX25
import Derived.Test.YtjekhhgjfelpgaaX26
set_option linter.unusedVariables false
set_option linter.unusedSimpArgs false
namespace Go.Proofs.Ytjekhhgjfelpgaa.X36
open Go.VL Go.SM Go.Proofs.Ytjekhhgjfelpgaa Go.Proofs.Ytjekhhgjfelpgaa.X1 Go.Proofs.Ytjekhhgjfelpgaa.X2 Go.Proofs.Ytjekhhgjfelpgaa.X3 Go.Proofs.Ytjekhhgjfelpgaa.X4 Go.Proofs.Ytjekhhgjfelpgaa.X5 Go.Proofs.Ytjekhhgjfelpgaa.X6 Go.Proofs.Ytjekhhgjfelpgaa.X7 Go.Proofs.Ytjekhhgjfelpgaa.X8 Go.Proofs.Ytjekhhgjfelpgaa.X9 Go.Proofs.Ytjekhhgjfelpgaa.X10 Go.Proofs.Ytjekhhgjfelpgaa.XS Go.Proofs.Ytjekhhgjfelpgaa.X12 Go.Proofs.Ytjekhhgjfelpgaa.X13 Go.Proofs.Ytjekhhgjfelpgaa.X20 Go.Proofs.Ytjekhhgjfelpgaa.X25 Go.Proofs.Ytjekhhgjfelpgaa.X26
theorem perm_c2 {m o : Own} {O : Store} : (m :: o :: O).Perm (O ++ [m, o]) := List.perm_append_comm (l₁ := [m, o])
theorem drop_c2 {m o : Own} {O : Store} : Drops (O ++ [m, o]) (m :: o :: O) := Drops.of_perm (List.perm_append_comm (l₂ := [m, o]))
theorem perm_c3 {m o r : Own} {O : Store} : (m :: o :: r :: O).Perm (O ++ [m, o, r]) := List.perm_append_comm (l₁ := [m, o, r])
theorem drop_c3 {m o r : Own} {O : Store} : Drops (O ++ [m, o, r]) (m :: o :: r :: O) := Drops.of_perm (List.perm_append_comm (l₂ := [m, o, r]))
theorem valuesL_cons (b : SBlock) (l : List SBlock) : valuesL (b :: l) = (b.params ++ b.ins.map (·.to)) ++ valuesL l := by simp [valuesL]
theorem valuesL_mem {bs : List SBlock} {b : SBlock} (hb : b ∈ bs) : (∀ v ∈ b.params, v ∈ valuesL bs) ∧ ∀ i ∈ b.ins, i.to ∈ valuesL bs :=
  ⟨fun v hv => List.mem_flatMap.2 ⟨b, hb, List.mem_append_left _ hv⟩, fun i hi => List.mem_flatMap.2 ⟨b, hb, List.mem_append_right _ (List.mem_map.2 ⟨i, hi, rfl⟩)⟩⟩
theorem insN_take : ∀ {l : List SBlock} {k : Nat} {b : SBlock}, l[k]? = some b → insN (l.take (k + 1)) = insN (l.take k) + b.ins.length
  | [], k, b, h => by simp at h
  | c :: l, 0, b, h => by
    have h : c = b := by simpa using h
    subst h
    simp [insN]
  | c :: l, k + 1, b, h => by
    have h : l[k]? = some b := by simpa using h
    have := insN_take h
    rw [List.take_succ_cons, List.take_succ_cons, insN, insN, this]
    omega
theorem fns_le {u : SUnit} (h : unitF u = 0) : u.fns.length ≤ 256 := by
  unfold unitF at h
  split at h
  · cases h
  · split at h
    · cases h
    · omega
open Go.VL renaming VOps_nil → Za, VW_seq → Zb, VW_region → Zd, Then_n → Zi, V_fieldAddr → Zj, V_assign → Zk, V_move → Zl, VW_block → Zs, VW_exit → Zt, V_load → Zu, V_load_agg → Zv, V_store_agg → Zx, V_store → Zy, V_indexAddr → Zz, InBlock_n → Zb1, InBlock_hit → Zc1, Then_e → Ze1, VW_ret → Zf1, VRet_one → Zg1, VW_skip → Zi1, V_bin → Zj1, VW_condP → Zn1, V_pickT → Zs1, V_pickF → Zt1, V_load_ep → Zz1, V_load_ep_agg → Za2, V_alloc → Zb2, V_box → Zc2, V_lenN → Zd2, V_add → Zh2, VW_loopF → Zi2, VOps_split → Zj2, Drops.refl → Zt2, VRet_end → Zn3
set_option maxRecDepth 100000 in
set_option maxHeartbeats 4000000 in
theorem values_c (f : SFunc) {c : FuncId} {caps : List V} (hen : Go.VL.Enters Try.prog c) {ι : Type} (O : ι → Store) (g : ι → Int → ι) (s0 : ι) (hc : ∀ s v, v ∈ valuesL f.blocks → VCalls Try.prog c (.int v :: caps) (O s) fun r S' => S' = O (g s v)) : VCalls Try.prog 17 [funcV f, .clo (.func c) caps] (O s0) fun r S' => S' = O ((valuesL f.blocks).foldl g s0) := by
 refine VCalls_drops ?_
 refine V_start (nt := 41) Try.func17 rfl rfl rfl ?_
 refine Zb (Zd ?_)
 refine Zc (Zc2 rfl rfl (fun g2 => ?_))
 refine Za (Zi (Zb (Zd (Zc (Zj VT.fa36_1 rfl (Zc (Zu 0 VT.ty34 rfl rfl rfl ?_)))))))
 refine Zc (Zd2 (n := f.blocks.length) Try.underlying34 rfl (by simp) (fun hl12 => ?_))
 refine Zc (Zl rfl (Za (Zi (Zs ?_))))
 refine Zi2 (ι := Nat × ι) (fun (k, s) => f.blocks.length - k) (fun (k, s) => [(1, some (.clo (.func c) caps)), (2, some (.ptr g2 0)), (11, some (blocksX f.blocks)), (12, some (.int f.blocks.length)), (13, some (.int k))]) (fun (k, s) => .cells g2 36 [.int f.name, blocksX f.blocks] :: O s) (fun (k, s) => k ≤ f.blocks.length ∧ (valuesL (f.blocks.drop k)).foldl g s = (valuesL f.blocks).foldl g s0) (0, s0) ⟨Nat.zero_le _, rfl⟩ ⟨rfl, rfl, rfl, rfl, rfl, trivial⟩ (Drops.keep (Zt2 _)) ?_
 rintro ⟨k, s⟩ hA
 obtain ⟨hk, hq⟩ := hA
 try dsimp only at hk hq
 refine Zb (Zd (Zc (Zj1 rfl rfl rfl (Za (Zi (Zb ?_))))))
 refine Zn1 rfl (fun h14 => ?_) (fun h14 => ?_)
 ·
  obtain ⟨b, hb⟩ := get_of_lt f.blocks k h14
  obtain ⟨hvp, hvi⟩ := valuesL_mem (List.mem_of_getElem? hb)
  rw [drop_cons hb, valuesL_cons, List.foldl_append, List.foldl_append] at hq
  refine Zi1 (Zi (Zb (Zs (Zb (Zd ?_)))))
  refine Zc (Zz (el := blockV b) VT.sl34 rfl rfl (by omega) (get_mapS _ hb) (fun a15 => ?_))
  refine Zc (Za2 VT.ty48 rfl rfl ?_)
  refine Zc (Zb2 VT.zr48 _ rfl rfl (fun g5 => ?_))
  refine Zc (Zx 0 VT.ty48 rfl rfl rfl rfl rfl (Za (Zi (Zb (Zb (Zd (Zc (Zj VT.fa48_0 rfl (Zc (Zu 0 VT.ty26 rfl rfl rfl ?_))))))))))
  refine Zc (Zd2 (n := b.params.length) Try.underlying26 rfl (by simp) (fun hl19 => ?_))
  refine Zc (Zl rfl (Za (Zi (Zs ?_))))
  refine Zi2 (ι := Nat × ι) (fun (j, s2) => b.params.length - j) (fun (j, s2) => [(1, some (.clo (.func c) caps)), (2, some (.ptr g2 0)), (11, some (blocksX f.blocks)), (12, some (.int f.blocks.length)), (13, some (.int k)), (5, some (.ptr g5 0)), (18, some (intsX b.params)), (19, some (.int b.params.length)), (20, some (.int j))]) (fun (j, s2) => .cells g5 48 (blockV b).leaves :: .cells g2 36 [.int f.name, blocksX f.blocks] :: O s2) (fun (j, s2) => j ≤ b.params.length ∧ (b.params.drop j).foldl g s2 = b.params.foldl g s) (0, s) ⟨Nat.zero_le _, rfl⟩ ⟨rfl, rfl, rfl, rfl, rfl, rfl, rfl, rfl, rfl, trivial⟩ (Drops.keep (Drops.keep (Zt2 _))) ?_
  rintro ⟨j, s2⟩ hA2
  obtain ⟨hj, hq2⟩ := hA2
  try dsimp only at hj hq2
  refine Zb (Zd (Zc (Zj1 rfl rfl rfl (Za (Zi (Zb ?_))))))
  refine Zn1 rfl (fun h21 => ?_) (fun h21 => ?_)
  ·
   obtain ⟨v, hv⟩ := get_of_lt b.params j h21
   rw [drop_cons hv, List.foldl_cons] at hq2
   refine Zi1 (Zi (Zb (Zs (Zb (Zd ?_)))))
   refine Zc (Zz (el := V.int v) VT.sl26 rfl rfl (by omega) (get_int hv) (fun a22 => ?_))
   refine Zc (Zz1 VT.ty3 rfl rfl (Zc (Zk rfl (Za (Zi (Zd (Zc (Zl rfl (Zc (Zl rfl ?_))))))))))
   refine Zc (V_callCloG [.tmp 25] (O s2) [_, _] rfl rfl rfl hen perm_c2 (hc s2 v (hvp v (List.mem_of_getElem? hv))) ?_)
   rintro r Sa rfl
   refine ⟨_, drop_c2, ?_⟩
   refine Za (Zb1 (Zi (Zd ?_)))
   refine Zc (Zh2 rfl rfl (by omega) ?_)
   refine Zc (Zl rfl (Za (Zi ?_)))
   exact ⟨(j + 1, g s2 v), (by (try simp only []); omega), ⟨by omega, hq2⟩, ⟨rfl, rfl, rfl, rfl, rfl, rfl, rfl, rfl, rfl, trivial⟩, (Drops.keep (Drops.keep (Zt2 _)))⟩
  ·
   have hje : j = b.params.length := by omega
   subst hje
   rw [List.drop_length, List.foldl_nil] at hq2
   rw [← hq2] at hq
   refine Zt (Ze1 (Ze1 (Zc1 (Zi (Zb (Zd (Zc (Zj VT.fa48_1 rfl (Zc (Zu 0 VT.ty43 rfl rfl rfl ?_))))))))))
   refine Zc (Zd2 (n := b.ins.length) Try.underlying43 rfl (by simp) (fun hl30 => ?_))
   refine Zc (Zl rfl (Za (Zi (Zs ?_))))
   refine Zi2 (ι := Nat × ι) (fun (j, s3) => b.ins.length - j) (fun (j, s3) => [(1, some (.clo (.func c) caps)), (2, some (.ptr g2 0)), (11, some (blocksX f.blocks)), (12, some (.int f.blocks.length)), (13, some (.int k)), (5, some (.ptr g5 0)), (29, some (inssX b.ins)), (30, some (.int b.ins.length)), (31, some (.int j))]) (fun (j, s3) => .cells g5 48 (blockV b).leaves :: .cells g2 36 [.int f.name, blocksX f.blocks] :: O s3) (fun (j, s3) => j ≤ b.ins.length ∧ ((b.ins.drop j).map (·.to)).foldl g s3 = (b.ins.map (·.to)).foldl g s2) (0, s2) ⟨Nat.zero_le _, rfl⟩ ⟨rfl, rfl, rfl, rfl, rfl, rfl, rfl, rfl, rfl, trivial⟩ (Drops.keep (Drops.keep (Zt2 _))) ?_
   rintro ⟨j, s3⟩ hA3
   obtain ⟨hj3, hq3⟩ := hA3
   try dsimp only at hj3 hq3
   refine Zb (Zd (Zc (Zj1 rfl rfl rfl (Za (Zi (Zb ?_))))))
   refine Zn1 rfl (fun h32 => ?_) (fun h32 => ?_)
   ·
    obtain ⟨i, hi⟩ := get_of_lt b.ins j h32
    rw [drop_cons hi, List.map_cons, List.foldl_cons] at hq3
    refine Zi1 (Zi (Zb (Zs (Zb (Zd ?_)))))
    refine Zc (Zz (el := insV i) VT.sl43 rfl rfl (by omega) (get_mapS _ hi) (fun a33 => ?_))
    refine Zc (Za2 VT.ty50 rfl rfl ?_)
    refine Zc (Zb2 VT.zr50 _ rfl rfl (fun g9 => ?_))
    refine Zc (Zx 0 VT.ty50 rfl rfl rfl rfl rfl (Za (Zi (Zd (Zc (Zl rfl (Zc (Zj VT.fa50_0 rfl (Zc (Zu 0 VT.ty3 rfl rfl rfl ?_))))))))))
    refine Zc (V_callCloG [.tmp 37] (O s3) [_, _, _] rfl rfl rfl hen perm_c3 (hc s3 i.to (hvi i (List.mem_of_getElem? hi))) ?_)
    rintro r Sa rfl
    refine ⟨_, drop_c3, ?_⟩
    refine Za (Zb1 (Zi (Zd ?_)))
    refine Zc (Zh2 rfl rfl (by omega) ?_)
    refine Zc (Zl rfl (Za (Zi ?_)))
    exact ⟨(j + 1, g s3 i.to), (by (try simp only []); omega), ⟨by omega, hq3⟩, ⟨rfl, rfl, rfl, rfl, rfl, rfl, rfl, rfl, rfl, trivial⟩, (Drops.drop (Drops.keep (Drops.keep (Zt2 _))))⟩
   ·
    have hje : j = b.ins.length := by omega
    subst hje
    rw [List.drop_length, List.map_nil, List.foldl_nil] at hq3
    rw [← hq3] at hq
    refine Zt (Ze1 (Ze1 (Zc1 (Zb1 (Zi (Zd ?_))))))
    refine Zc (Zh2 rfl rfl (by omega) ?_)
    refine Zc (Zl rfl (Za (Zi ?_)))
    exact ⟨(k + 1, s3), (by (try simp only []); omega), ⟨by omega, hq⟩, ⟨rfl, rfl, rfl, rfl, rfl, trivial⟩, (Drops.drop (Drops.keep (Zt2 _)))⟩
 ·
  have hke : k = f.blocks.length := by omega
  subst hke
  rw [List.drop_length] at hq
  refine Zt (Ze1 (Ze1 (Zc1 ?_)))
  refine Zn3 rfl ?_
  exact ⟨_, Drops.drop (Zt2 _), by rw [← hq]; rfl⟩
set_option maxRecDepth 100000 in
theorem fresh1_c (g : Nat) (n v : Int) (hv : 0 ≤ v ∧ v ≤ 4095) : VCalls Try.prog 18 [.int v, .ptr g 0] [.cells g 3 [.int n]] fun r S' => S' = [.cells g 3 [.int (max n (v + 1))]] := by
 refine VCalls_drops ?_
 refine V_start (nt := 7) Try.func18 rfl rfl rfl ?_
 refine Zd (Zc (Zu 0 VT.ty3 rfl rfl rfl (Zc (Zl rfl ?_))))
 refine Zc (Zh2 rfl rfl (by omega) ?_)
 refine Zc (V_max2 rfl rfl (Zc (Zy 0 VT.ty3 rfl rfl rfl rfl rfl (Za ?_))))
 refine Zn3 rfl ?_
 exact ⟨_, Zt2 _, congrArg (fun x => [Own.cells g 3 [V.int x]]) (by split <;> omega)⟩
set_option maxRecDepth 100000 in
theorem Fresh_c {f : SFunc} (h : funcF f = 0) : VPure Try.prog 9 [funcV f] (.int (freshF f.blocks)) := by
 have hok := func_ok h
 refine V_start (nt := 8) Try.func9 rfl rfl rfl ?_
 refine Zb (Zd ?_)
 refine Zc (Zc2 rfl rfl (fun g1 => ?_))
 refine Zc (Zk rfl (Za (Zi (Zb (Zd ?_)))))
 refine Zc (Zb2 VT.zr3 _ rfl rfl (fun g3 => ?_))
 refine Zc (Zy 0 VT.ty3 rfl rfl rfl rfl rfl (Za (Zi (Zb (Zd (Zc (Zv 1 VT.ty36 rfl rfl rfl ?_)))))))
 refine Zc (V_makeFunc [.tmp 3] rfl rfl ?_)
 refine Zc (V_callG [.tmp 4, .tmp 5] [.cells g3 3 [.int 0]] [_] rfl rfl VT.en17 (.refl _) (values_c f VT.en18 (fun n : Int => [.cells g3 3 [.int n]]) (fun n v => max n (v + 1)) 0 (fun n v hv => fresh1_c g3 n v (values_keys hok v hv))) ?_)
 rintro r Sa rfl
 refine ⟨_, Zt2 _, ?_⟩
 refine Za (Zi (Zb (Zd (Zc (Zu 0 VT.ty3 rfl rfl rfl (Zc (Zk rfl (Za (Zi (Zf1 ?_))))))))))
 refine Zg1 rfl (.tmp rfl) ?_
 rfl
set_option maxRecDepth 100000 in
set_option maxHeartbeats 4000000 in
theorem simpleB_c {u : SUnit} (hU : unitF u = 0) : VCalls Try.prog 6 [unitV u] [] fun r S' => S' = [] ∧ ∃ b : Bool, r = .bool b ∧ (b = true → ∀ f ∈ u.fns, insN f.blocks ≤ 400) := by
 refine VCalls_drops ?_
 have hfs := nw_fns hU
 have hul := fns_le hU
 refine V_start (nt := 38) Try.func6 rfl rfl rfl ?_
 refine Zb (Zd ?_)
 refine Zc (Zc2 rfl rfl (fun g1 => ?_))
 refine Zc (Zk rfl (Za (Zi (Zb (Zd (Zc (Zk rfl (Za (Zi (Zb (Zb (Zd (Zc (Zj VT.fa24_0 rfl (Zc (Zu 0 VT.ty22 rfl rfl rfl ?_))))))))))))))))
 refine Zc (Zd2 (n := u.fns.length) Try.underlying22 rfl (by simp) (fun hl10 => ?_))
 refine Zc (Zl rfl (Za (Zi (Zs ?_))))
 refine Zi2 (ι := Nat × Int) (fun (i, m) => u.fns.length - i) (fun (i, m) => [(1, some (.ptr g1 0)), (9, some (funcsX u.fns)), (10, some (.int u.fns.length)), (11, some (.int i)), (3, some (.int m))]) (fun (i, m) => [.cells g1 24 [funcsX u.fns, .int u.main]]) (fun (i, m) => i ≤ u.fns.length ∧ 0 ≤ m ∧ m ≤ i * 1280128 ∧ ∀ f ∈ u.fns.take i, (insN f.blocks : Int) ≤ m) (0, 0) ⟨Nat.zero_le _, Int.le_refl _, by omega, fun f hf => by cases hf⟩ ⟨rfl, rfl, rfl, rfl, rfl, trivial⟩ (Drops.keep (Zt2 _)) ?_
 rintro ⟨i, m⟩ hA
 change i ≤ u.fns.length ∧ 0 ≤ m ∧ m ≤ i * 1280128 ∧ ∀ f ∈ u.fns.take i, (insN f.blocks : Int) ≤ m at hA
 obtain ⟨hi, hm0, hm1, hS⟩ := hA
 refine Zb (Zd (Zc (Zj1 rfl rfl rfl (Za (Zi (Zb ?_))))))
 refine Zn1 rfl (fun h12 => ?_) (fun h12 => ?_)
 ·
  obtain ⟨f, hf⟩ := get_of_lt u.fns i h12
  have h0 := hfs f (List.mem_of_getElem? hf)
  have h128 := (func_ok h0).len
  have hcp := (cp_ok h0).block
  refine Zi1 (Zi (Zb (Zs (Zb (Zd ?_)))))
  refine Zc (Zz (el := funcV f) VT.sl22 rfl rfl (by omega) (get_mapS _ hf) (fun a13 => ?_))
  refine Zc (Za2 VT.ty36 rfl rfl ?_)
  refine Zc (Zb2 VT.zr36 _ rfl rfl (fun g5 => ?_))
  refine Zc (Zx 0 VT.ty36 rfl rfl rfl rfl rfl (Za (Zi (Zb (Zd (Zc (Zj VT.fa36_1 rfl (Zc (Zu 0 VT.ty34 rfl rfl rfl ?_)))))))))
  refine Zc (Zd2 (n := f.blocks.length) Try.underlying34 rfl (by simp) (fun hl17 => ?_))
  refine Zc (Zl rfl (Za (Zi (Zs ?_))))
  refine Zi2 (ι := Nat × Int) (fun (j, m2) => f.blocks.length - j) (fun (j, m2) => [(1, some (.ptr g1 0)), (9, some (funcsX u.fns)), (10, some (.int u.fns.length)), (11, some (.int i)), (3, some (.int m2)), (16, some (blocksX f.blocks)), (17, some (.int f.blocks.length)), (18, some (.int j))]) (fun (j, m2) => [.cells g1 24 [funcsX u.fns, .int u.main]]) (fun (j, m2) => j ≤ f.blocks.length ∧ 0 ≤ m2 ∧ m2 ≤ i * 1280128 + j * 10001 ∧ m + (insN (f.blocks.take j) : Int) ≤ m2) (0, m) ⟨Nat.zero_le _, hm0, by omega, by rw [List.take_zero, insN]; omega⟩ ⟨rfl, rfl, rfl, rfl, rfl, rfl, rfl, rfl, trivial⟩ (Drops.drop (Drops.keep (Zt2 _))) ?_
  rintro ⟨j, m2⟩ hB
  change j ≤ f.blocks.length ∧ 0 ≤ m2 ∧ m2 ≤ i * 1280128 + j * 10001 ∧ m + (insN (f.blocks.take j) : Int) ≤ m2 at hB
  obtain ⟨hj, hn0, hn1, hn2⟩ := hB
  refine Zb (Zd (Zc (Zj1 rfl rfl rfl (Za (Zi (Zb ?_))))))
  refine Zn1 rfl (fun h19 => ?_) (fun h19 => ?_)
  ·
   obtain ⟨b, hb⟩ := get_of_lt f.blocks j h19
   have hbi := (hcp b (List.mem_of_getElem? hb)).2.1
   refine Zi1 (Zi (Zb (Zs (Zb (Zd ?_)))))
   refine Zc (Zz (el := blockV b) VT.sl34 rfl rfl (by omega) (get_mapS _ hb) (fun a20 => ?_))
   refine Zc (Za2 VT.ty48 rfl rfl ?_)
   refine Zc (Zb2 VT.zr48 _ rfl rfl (fun g7 => ?_))
   refine Zc (Zx 0 VT.ty48 rfl rfl rfl rfl rfl (Za (Zi (Zd (Zc (Zl rfl (Zc (Zj VT.fa48_1 rfl (Zc (Zu 0 VT.ty43 rfl rfl rfl ?_))))))))))
   refine Zc (Zd2 (n := b.ins.length) Try.underlying43 rfl (by simp) (fun hl25 => ?_))
   refine Zc (Zh2 rfl rfl (by omega) ?_)
   refine Zc (Zh2 rfl rfl (by omega) ?_)
   refine Zc (Zk rfl (Za (Zb1 (Zi (Zd ?_)))))
   refine Zc (Zh2 rfl rfl (by omega) ?_)
   refine Zc (Zl rfl (Za (Zi ?_)))
   exact ⟨(j + 1, m2 + (b.ins.length + 1)), (by (try simp only []); omega), ⟨by omega, by omega, by omega, by rw [insN_take hb]; omega⟩, ⟨rfl, rfl, rfl, rfl, rfl, rfl, rfl, rfl, trivial⟩, (Drops.drop (Drops.keep (Zt2 _)))⟩
  ·
   have hje : j = f.blocks.length := by omega
   subst hje
   rw [List.take_length] at hn2
   have hS2 : ∀ x ∈ u.fns.take (i + 1), (insN x.blocks : Int) ≤ m2 := fun x hx => by rw [take_snoc hf] at hx; rcases List.mem_append.1 hx with h | h; have h9 := hS x h; omega; rw [List.mem_singleton.1 h]; omega
   refine Zt (Ze1 (Ze1 (Zc1 (Zb1 (Zi (Zd ?_))))))
   refine Zc (Zh2 rfl rfl (by omega) ?_)
   refine Zc (Zl rfl (Za (Zi ?_)))
   exact ⟨(i + 1, m2), (by (try simp only []); omega), ⟨by omega, hn0, by omega, hS2⟩, ⟨rfl, rfl, rfl, rfl, rfl, trivial⟩, (Drops.keep (Zt2 _))⟩
 ·
  have hie : i = u.fns.length := by omega
  subst hie
  rw [List.take_length] at hS
  refine Zt (Ze1 (Ze1 (Zc1 (Zi (Zb (Zd (Zc (Zl rfl (Zc (Zj1 rfl rfl rfl (Zc (Zl rfl ?_))))))))))))
  refine Zj2 (q := 32) rfl (fun hq32 => ?_) (fun hq32 => ?_)
  ·
   have hx32 := of_decide_eq_true hq32
   refine Zc (Zj VT.fa24_0 rfl ?_) (Zy1 hq32)
   refine Zc (Zu 0 VT.ty22 rfl rfl rfl ?_) (Zy1 hq32)
   refine Zc (Zd2 (n := u.fns.length) Try.underlying22 rfl (by simp) (fun hl35 => ?_)) (Zy1 hq32)
   refine Zc (Zj1 rfl rfl rfl ?_) (Zy1 hq32)
   refine Zc (Zs1 rfl hq32 rfl ?_)
   refine Zc (Zk rfl (Za (Zi (Zf1 ?_))))
   refine Zg1 rfl (.tmp rfl) ?_
   exact ⟨[], Drops.nil _, rfl, _, rfl, fun _ f hf => by have h9 := hS f hf; omega⟩
  ·
   refine Zk1 hq32 ?_
   refine Zk1 hq32 ?_
   refine Zk1 hq32 ?_
   refine Zk1 hq32 ?_
   refine Zc (Zt1 rfl hq32 rfl ?_)
   refine Zc (Zk rfl (Za (Zi (Zf1 ?_))))
   refine Zg1 rfl (.tmp rfl) ?_
   exact ⟨[], Drops.nil _, rfl, _, rfl, fun h => by cases h⟩
end Go.Proofs.Ytjekhhgjfelpgaa.X36
