import Derived.Test.YtimmnbdajflgmaaVT
import Derived.Test.YtimmnbdajflgmaaS2
import Derived.Test.YtimmnbdajflgmaaVH
import Derived.Test.YtimmnbdajflgmaaDZ
import Derived.Test.YtimmnbdajflgmaaX1
import Derived.Test.YtimmnbdajflgmaaX2
import Derived.Test.YtimmnbdajflgmaaX3
import Derived.Test.YtimmnbdajflgmaaX4
import Derived.Test.YtimmnbdajflgmaaX5
import Derived.Test.YtimmnbdajflgmaaX6
import Derived.Test.YtimmnbdajflgmaaX7
import Derived.Test.YtimmnbdajflgmaaX8
import Derived.Test.YtimmnbdajflgmaaX9
import Derived.Test.YtimmnbdajflgmaaX10
import Derived.Test.YtimmnbdajflgmaaX13
set_option linter.unusedVariables false
set_option linter.unusedSimpArgs false
namespace Go.Proofs.Ytimmnbdajflgmaa.X16
open Go.VL Go.SM Go.Proofs.Ytimmnbdajflgmaa Go.Proofs.Ytimmnbdajflgmaa.X1 Go.Proofs.Ytimmnbdajflgmaa.X2 Go.Proofs.Ytimmnbdajflgmaa.X3 Go.Proofs.Ytimmnbdajflgmaa.X4 Go.Proofs.Ytimmnbdajflgmaa.X5 Go.Proofs.Ytimmnbdajflgmaa.X6 Go.Proofs.Ytimmnbdajflgmaa.X7 Go.Proofs.Ytimmnbdajflgmaa.X8 Go.Proofs.Ytimmnbdajflgmaa.X9 Go.Proofs.Ytimmnbdajflgmaa.X10 Go.Proofs.Ytimmnbdajflgmaa.X13
theorem perm_c2 {m o : Own} {O : Store} : (m :: o :: O).Perm (O ++ [m, o]) := List.perm_append_comm (l₁ := [m, o])
theorem drop_c2 {m o : Own} {O : Store} : Drops (O ++ [m, o]) (m :: o :: O) := Drops.of_perm (List.perm_append_comm (l₂ := [m, o]))
theorem perm_c3 {m o r : Own} {O : Store} : (m :: o :: r :: O).Perm (O ++ [m, o, r]) := List.perm_append_comm (l₁ := [m, o, r])
theorem drop_c3 {m o r : Own} {O : Store} : Drops (O ++ [m, o, r]) (m :: o :: r :: O) := Drops.of_perm (List.perm_append_comm (l₂ := [m, o, r]))
theorem valuesL_cons (b : SBlock) (l : List SBlock) : valuesL (b :: l) = (b.params ++ b.ins.map (·.to)) ++ valuesL l := by simp [valuesL]
theorem valuesL_mem {bs : List SBlock} {b : SBlock} (hb : b ∈ bs) : (∀ v ∈ b.params, v ∈ valuesL bs) ∧ ∀ i ∈ b.ins, i.to ∈ valuesL bs :=
  ⟨fun v hv => List.mem_flatMap.2 ⟨b, hb, List.mem_append_left _ hv⟩, fun i hi => List.mem_flatMap.2 ⟨b, hb, List.mem_append_right _ (List.mem_map.2 ⟨i, hi, rfl⟩)⟩⟩
theorem fits_bools (l : List Bool) : ∀ x ∈ l.map V.bool, x.flat = true := fun x hx => by
  obtain ⟨n, _, rfl⟩ := List.mem_map.1 hx
  rfl
theorem flat_bools (l : List Bool) : (l.map V.bool).flatMap V.leaves = l.map V.bool := by
  induction l with
  | nil => rfl
  | cons a l ih => rw [List.map_cons, List.flatMap_cons, ih]; rfl
theorem fits_boolsR (l : List Bool) : ∀ x ∈ l.map V.bool, x.fits 1 = true ∧ ((∃ ls, x = .agg ls) ∨ x.leaf = true) := fun x hx => by
  obtain ⟨n, _, rfl⟩ := List.mem_map.1 hx
  exact ⟨rfl, .inr rfl⟩
abbrev boolsX (l : List Bool) : V := .sl 1 none (l.map V.bool)
def lsV : Option (List Bool) → V
  | none => V.nilSl
  | some l => .sl 1 none (l.map V.bool)
theorem lsV_le (o : Option (List Bool)) : V.le (lsV o) (.sl 1 none ((o.getD []).map V.bool)) := by
  cases o with
  | none => exact V.le.nil 1
  | some l => exact V.le.refl _
theorem lsV_leaf (o : Option (List Bool)) : (lsV o).leaf = true := by cases o <;> rfl
def lifeL (name : Int) (bs : List SBlock) (many : Nat) (bh : V) : List V := [.int name, blocksX bs, .int many, bh]
theorem params_at {bs : List SBlock} {e : Int} {bl : SBlock} (h : bs[e.toNat]? = some bl) : paramsOf bs e = bl.params := by rw [paramsOf, h]; rfl
theorem set_at {s : Sets} {k : Nat} {o : Option (List Bool)} (h : s[k]? = some o) : setAt s k = o.getD [] := by rw [setAt, h]; rfl
theorem bools_set2 (l : List Bool) (rest : List V) (k : Nat) (b : Bool) : (l.map V.bool).set k (V.bool b) ++ rest = (l.set k b).map V.bool ++ rest := by rw [List.map_set]
theorem sets_set (l : Sets) (k : Nat) (o : List Bool) : (l.map lsV).set k (boolsX o) ++ [] = (l.set k (some o)).map lsV := by rw [List.append_nil, List.map_set]; rfl
theorem flat_sets (l : Sets) : (l.map lsV).flatMap V.leaves = l.map lsV := by
  induction l with
  | nil => rfl
  | cons a l ih => rw [List.map_cons, List.flatMap_cons, ih]; cases a <;> rfl
theorem fits_setsR (l : Sets) : ∀ x ∈ l.map lsV, x.fits 1 = true ∧ ((∃ ls, x = .agg ls) ∨ x.leaf = true) := fun x hx => by
  obtain ⟨o, _, rfl⟩ := List.mem_map.1 hx
  cases o <;> exact ⟨rfl, .inr rfl⟩
def manyF (f : SFunc) : Nat := (freshF f.blocks).toNat + 1
def liveZ (f : SFunc) : LState := liveF f.blocks (manyF f)
theorem many_ok {f : SFunc} (h : FuncOk f) : freshF f.blocks + 1 = (manyF f : Int) ∧ 1 ≤ manyF f ∧ manyF f ≤ 1000000 ∧ RangeOk f.blocks (manyF f) := by
  obtain ⟨h0, h1, _⟩ := fresh_ok h
  unfold manyF
  refine ⟨by omega, by omega, by omega, range_ok h (by omega)⟩
theorem live_lens {bs : List SBlock} {many : Nat} {s : LState} (ok : LiveOk bs many s) : (∀ (k : Nat) (l : List Bool), s.behind[k]? = some (some l) → l.length = many) ∧ ∀ (k : Nat) (l : List Bool), s.first[k]? = some (some l) → l.length = many := by
  refine ⟨fun k l h => (ok.full k l h).1, fun k l h => ?_⟩
  have hk : k < s.first.length := (List.getElem?_eq_some_iff.1 h).1
  obtain ⟨o, ho⟩ := get_of_lt s.behind k (by rw [ok.blen, ← ok.flen]; omega)
  cases o with
  | none => rw [ok.emp k ho] at h; cases h
  | some x =>
    obtain ⟨hx, b, hb, hf, _⟩ := ok.full k x ho
    rw [hf] at h
    injection h with h
    injection h with h
    rw [← h, backF, back_len, hx]
theorem node_eq {bs : List SBlock} {many k : Nat} {s : LState} {b : SBlock} {o : Option (List Bool)} (hb : bs[k]? = some b) (ho : s.behind[k]? = some o) : liveNode bs many s k = if o = some (lastF bs many b.term s.first) then s else ⟨s.behind.set k (some (lastF bs many b.term s.first)), s.first.set k (some (backF b (lastF bs many b.term s.first))), true⟩ := by
  unfold liveNode
  rw [hb, ho]
  rfl
theorem live_stop {bs : List SBlock} {many n : Nat} {s : LState} (h : s.again = false) : liveIter bs many n s = s := by
  cases n with
  | zero => rfl
  | succ n => rw [liveIter, if_neg (by rw [h]; decide)]
def lstV (o : Option (List Bool)) : V := intsX (listF 0 (o.getD []))
def liveX (f : SFunc) : V := if funcF f = 0 then .tup [.sl 1 none ((liveZ f).first.map lstV), .sl 1 none ((liveZ f).behind.map lstV), .int 0] else .tup [.sl 1 none [], .sl 1 none [], .int (funcF f)]
theorem live_len {f : SFunc} (h : funcF f = 0) : (liveZ f).first.length = f.blocks.length ∧ (liveZ f).behind.length = f.blocks.length ∧ f.blocks.length ≤ 128 ∧ (∀ o ∈ (liveZ f).first, (o.getD []).length ≤ 1000000) ∧ ∀ o ∈ (liveZ f).behind, (o.getD []).length ≤ 1000000 := by
  have hok := func_ok h
  have lok := live_ok f.blocks (manyF f)
  obtain ⟨h1, h2⟩ := live_lens lok
  have hm := (many_ok hok).2.2.1
  refine ⟨lok.flen, lok.blen, hok.len, fun o ho => ?_, fun o ho => ?_⟩
  · obtain ⟨k, hk⟩ := List.getElem?_of_mem ho
    cases o with
    | none => exact Nat.zero_le _
    | some l => exact Nat.le_trans (Nat.le_of_eq (h2 k l hk)) hm
  · obtain ⟨k, hk⟩ := List.getElem?_of_mem ho
    cases o with
    | none => exact Nat.zero_le _
    | some l => exact Nat.le_trans (Nat.le_of_eq (h1 k l hk)) hm
open Go.VL renaming VOps_nil → Za, VW_seq → Zb, VW_region → Zd, Needs_nil → Ze, want_of → Zg, Then_n → Zi, V_fieldAddr → Zj, V_assign → Zk, V_move → Zl, eqRes → Zm, vopT → Zn, goodS → Zo, good0 → Zq, skip_of → Zr, VW_block → Zs, VW_exit → Zt, V_load → Zu, V_load_agg → Zv, V_store_agg → Zx, V_store → Zy, V_indexAddr → Zz, InBlock_r → Za1, InBlock_n → Zb1, InBlock_hit → Zc1, Then_r → Zd1, Then_e → Ze1, VW_ret → Zf1, VRet_one → Zg1, VRet_many → Zh1, VW_skip → Zi1, V_bin → Zj1, VW_condEq → Zl1, VW_condNe → Zm1, VW_condP → Zn1, VW_condN → Zo1, VW_condF → Zq1, VW_cond → Zr1, V_pickT → Zs1, V_pickF → Zt1, V_nilCheck → Zv1, V_fieldAddr_ep → Zw1, V_callP → Zx1, V_load_ep → Zz1, V_load_ep_agg → Za2, V_alloc → Zb2, V_box → Zc2, V_lenN → Zd2, V_build → Zf2, V_extract → Zg2, V_add → Zh2, VW_loopF → Zi2, VOps_split → Zj2, V_sub → Zk2, V_not → Zl2, goodA → Zm2, goodU → Zo2, evs_cons → Zp2, evs_nil → Zq2, V_indexAddr_row → Zr2, V_fieldAddr_ep_agg → Zs2, Drops.refl → Zt2, VOp_as → Zu2, perm_erase → Zv2, oneRes → Zw2, oneE → Zx2, vopF → Zy2, epRes → Zb3, epE → Zc3, oneY → Zd3, V_load_elem1 → Zf3, V_store_elem1 → Zh3, V_appendN → Zi3, V_lit → Zk3, V_callKs → Zl3, V_call → Zm3, VRet_end → Zn3
set_option maxRecDepth 100000 in
set_option maxHeartbeats 4000000 in
theorem values_c (f : SFunc) {c : FuncId} {caps : List V} (hen : Enters Try.prog c) {ι : Type} (O : ι → Store) (g : ι → Int → ι) (s0 : ι) (hc : ∀ s v, v ∈ valuesL f.blocks → VCalls Try.prog c (.int v :: caps) (O s) fun r S' => S' = O (g s v)) : VCalls Try.prog 70 [funcV f, .clo (.func c) caps] (O s0) fun r S' => S' = O ((valuesL f.blocks).foldl g s0) := by
 refine VCalls_drops ?_
 refine V_start (nt := 41) Try.func70 rfl rfl rfl ?_
 refine Zb (Zd ?_)
 refine Zc (Zc2 rfl rfl (fun g2 => ?_))
 refine Za (Zi (Zb (Zd (Zc (Zj VT.fa24_1 rfl (Zc (Zu 0 VT.ty22 rfl rfl rfl ?_)))))))
 refine Zc (Zd2 (n := f.blocks.length) Try.underlying22 rfl (by simp) (fun hl12 => ?_))
 refine Zc (Zl rfl (Za (Zi (Zs ?_))))
 refine Zi2 (ι := Nat × ι) (fun (k, s) => f.blocks.length - k) (fun (k, s) => [(1, some (.clo (.func c) caps)), (2, some (.ptr g2 0)), (11, some (blocksX f.blocks)), (12, some (.int f.blocks.length)), (13, some (.int k))]) (fun (k, s) => .cells g2 24 [.int f.name, blocksX f.blocks] :: O s) (fun (k, s) => k ≤ f.blocks.length ∧ (valuesL (f.blocks.drop k)).foldl g s = (valuesL f.blocks).foldl g s0) (0, s0) ⟨Nat.zero_le _, rfl⟩ ⟨rfl, rfl, rfl, rfl, rfl, trivial⟩ (Drops.keep (Zt2 _)) ?_
 rintro ⟨k, s⟩ hA
 obtain ⟨hk, hq⟩ := hA
 try dsimp only at hk hq
 refine Zb (Zd (Zc (Zj1 rfl rfl rfl (Za (Zi (Zb ?_))))))
 refine Zn1 rfl (fun h14 => ?_) (fun h14 => ?_)
 ·
  obtain ⟨b, hb⟩ := get_of_lt f.blocks k h14
  obtain ⟨hvp, hvi⟩ := valuesL_mem (List.mem_of_getElem? hb)
  rw [drop_cons hb, valuesL_cons, List.foldl_append, List.foldl_append] at hq
  refine Zi1 (Zi (Zb (Zs (Zb (Zd ?_)))))
  refine Zc (Zz (el := blockV b) VT.sl22 rfl rfl (by omega) (get_mapS _ hb) (fun a15 => ?_))
  refine Zc (Za2 VT.ty61 rfl rfl ?_)
  refine Zc (Zb2 VT.zr61 _ rfl rfl (fun g5 => ?_))
  refine Zc (Zx 0 VT.ty61 rfl rfl rfl rfl rfl (Za (Zi (Zb (Zb (Zd (Zc (Zj VT.fa61_0 rfl (Zc (Zu 0 VT.ty36 rfl rfl rfl ?_))))))))))
  refine Zc (Zd2 (n := b.params.length) Try.underlying36 rfl (by simp) (fun hl19 => ?_))
  refine Zc (Zl rfl (Za (Zi (Zs ?_))))
  refine Zi2 (ι := Nat × ι) (fun (j, s2) => b.params.length - j) (fun (j, s2) => [(1, some (.clo (.func c) caps)), (2, some (.ptr g2 0)), (11, some (blocksX f.blocks)), (12, some (.int f.blocks.length)), (13, some (.int k)), (5, some (.ptr g5 0)), (18, some (intsX b.params)), (19, some (.int b.params.length)), (20, some (.int j))]) (fun (j, s2) => .cells g5 61 (blockV b).leaves :: .cells g2 24 [.int f.name, blocksX f.blocks] :: O s2) (fun (j, s2) => j ≤ b.params.length ∧ (b.params.drop j).foldl g s2 = b.params.foldl g s) (0, s) ⟨Nat.zero_le _, rfl⟩ ⟨rfl, rfl, rfl, rfl, rfl, rfl, rfl, rfl, rfl, trivial⟩ (Drops.keep (Drops.keep (Zt2 _))) ?_
  rintro ⟨j, s2⟩ hA2
  obtain ⟨hj, hq2⟩ := hA2
  try dsimp only at hj hq2
  refine Zb (Zd (Zc (Zj1 rfl rfl rfl (Za (Zi (Zb ?_))))))
  refine Zn1 rfl (fun h21 => ?_) (fun h21 => ?_)
  ·
   obtain ⟨v, hv⟩ := get_of_lt b.params j h21
   rw [drop_cons hv, List.foldl_cons] at hq2
   refine Zi1 (Zi (Zb (Zs (Zb (Zd ?_)))))
   refine Zc (Zz (el := V.int v) VT.sl36 rfl rfl (by omega) (get_int hv) (fun a22 => ?_))
   refine Zc (Zz1 VT.ty3 rfl rfl (Zc (Zk rfl (Za (Zi (Zd (Zc (Zl rfl (Zc (Zl rfl ?_))))))))))
   refine Zc (V_callCloG [.tmp 25] (O s2) [_, _] rfl rfl rfl hen perm_c2 (hc s2 v (hvp v (List.mem_of_getElem? hv))) ?_)
   rintro r Sa rfl
   refine ⟨_, drop_c2, ?_⟩
   refine Za (Zb1 (Zi (Zd ?_)))
   refine Zc (Zh2 rfl rfl (by omega) ?_)
   refine Zc (Zl rfl (Za (Zi ?_)))
   exact ⟨(j + 1, g s2 v), (by (try simp only []); omega), ⟨by omega, hq2⟩, ⟨rfl, rfl, rfl, rfl, rfl, rfl, rfl, rfl, rfl, trivial⟩, (Drops.keep (Drops.keep (Zt2 _)))⟩
  ·
   have hje : j = b.params.length := by omega
   subst hje
   rw [List.drop_length, List.foldl_nil] at hq2
   rw [← hq2] at hq
   refine Zt (Ze1 (Ze1 (Zc1 (Zi (Zb (Zd (Zc (Zj VT.fa61_1 rfl (Zc (Zu 0 VT.ty59 rfl rfl rfl ?_))))))))))
   refine Zc (Zd2 (n := b.ins.length) Try.underlying59 rfl (by simp) (fun hl30 => ?_))
   refine Zc (Zl rfl (Za (Zi (Zs ?_))))
   refine Zi2 (ι := Nat × ι) (fun (j, s3) => b.ins.length - j) (fun (j, s3) => [(1, some (.clo (.func c) caps)), (2, some (.ptr g2 0)), (11, some (blocksX f.blocks)), (12, some (.int f.blocks.length)), (13, some (.int k)), (5, some (.ptr g5 0)), (29, some (inssX b.ins)), (30, some (.int b.ins.length)), (31, some (.int j))]) (fun (j, s3) => .cells g5 61 (blockV b).leaves :: .cells g2 24 [.int f.name, blocksX f.blocks] :: O s3) (fun (j, s3) => j ≤ b.ins.length ∧ ((b.ins.drop j).map (·.to)).foldl g s3 = (b.ins.map (·.to)).foldl g s2) (0, s2) ⟨Nat.zero_le _, rfl⟩ ⟨rfl, rfl, rfl, rfl, rfl, rfl, rfl, rfl, rfl, trivial⟩ (Drops.keep (Drops.keep (Zt2 _))) ?_
   rintro ⟨j, s3⟩ hA3
   obtain ⟨hj3, hq3⟩ := hA3
   try dsimp only at hj3 hq3
   refine Zb (Zd (Zc (Zj1 rfl rfl rfl (Za (Zi (Zb ?_))))))
   refine Zn1 rfl (fun h32 => ?_) (fun h32 => ?_)
   ·
    obtain ⟨i, hi⟩ := get_of_lt b.ins j h32
    rw [drop_cons hi, List.map_cons, List.foldl_cons] at hq3
    refine Zi1 (Zi (Zb (Zs (Zb (Zd ?_)))))
    refine Zc (Zz (el := insV i) VT.sl59 rfl rfl (by omega) (get_mapS _ hi) (fun a33 => ?_))
    refine Zc (Za2 VT.ty83 rfl rfl ?_)
    refine Zc (Zb2 VT.zr83 _ rfl rfl (fun g9 => ?_))
    refine Zc (Zx 0 VT.ty83 rfl rfl rfl rfl rfl (Za (Zi (Zd (Zc (Zl rfl (Zc (Zj VT.fa83_0 rfl (Zc (Zu 0 VT.ty3 rfl rfl rfl ?_))))))))))
    refine Zc (V_callCloG [.tmp 37] (O s3) [_, _, _] rfl rfl rfl hen perm_c3 (hc s3 i.to (hvi i (List.mem_of_getElem? hi))) ?_)
    rintro r Sa rfl
    refine ⟨_, drop_c3, ?_⟩
    refine Za (Zb1 (Zi (Zd ?_)))
    refine Zc (Zh2 rfl rfl (by omega) ?_)
    refine Zc (Zl rfl (Za (Zi ?_)))
    exact ⟨(j + 1, g s3 i.to), (by (try simp only []); omega), ⟨by omega, hq3⟩, ⟨rfl, rfl, rfl, rfl, rfl, rfl, rfl, rfl, rfl, trivial⟩, (Drops.drop (Drops.keep (Drops.keep (Zt2 _))))⟩
   ·
    have hje : j = b.ins.length := by omega
    subst hje
    rw [List.drop_length, List.map_nil, List.foldl_nil] at hq3
    rw [← hq3] at hq
    refine Zt (Ze1 (Ze1 (Zc1 (Zb1 (Zi (Zd ?_))))))
    refine Zc (Zh2 rfl rfl (by omega) ?_)
    refine Zc (Zl rfl (Za (Zi ?_)))
    exact ⟨(k + 1, s3), (by (try simp only []); omega), ⟨by omega, hq⟩, ⟨rfl, rfl, rfl, rfl, rfl, trivial⟩, (Drops.drop (Drops.keep (Zt2 _)))⟩
 ·
  have hke : k = f.blocks.length := by omega
  subst hke
  rw [List.drop_length] at hq
  refine Zt (Ze1 (Ze1 (Zc1 ?_)))
  refine Zn3 rfl ?_
  exact ⟨_, Drops.drop (Zt2 _), by rw [← hq]; rfl⟩
set_option maxRecDepth 100000 in
theorem fresh1_c (g : Nat) (n v : Int) (hv : 0 ≤ v ∧ v ≤ 4095) : VCalls Try.prog 71 [.int v, .ptr g 0] [.cells g 3 [.int n]] fun r S' => S' = [.cells g 3 [.int (max n (v + 1))]] := by
 refine VCalls_drops ?_
 refine V_start (nt := 7) Try.func71 rfl rfl rfl ?_
 refine Zd (Zc (Zu 0 VT.ty3 rfl rfl rfl (Zc (Zl rfl ?_))))
 refine Zc (Zh2 rfl rfl (by omega) ?_)
 refine Zc (V_max2 rfl rfl (Zc (Zy 0 VT.ty3 rfl rfl rfl rfl rfl (Za ?_))))
 refine Zn3 rfl ?_
 exact ⟨_, Zt2 _, congrArg (fun x => [Own.cells g 3 [V.int x]]) (by split <;> omega)⟩
set_option maxRecDepth 100000 in
theorem Fresh_c {f : SFunc} (h : funcF f = 0) : VPure Try.prog 48 [funcV f] (.int (freshF f.blocks)) := by
 have hok := func_ok h
 refine V_start (nt := 8) Try.func48 rfl rfl rfl ?_
 refine Zb (Zd ?_)
 refine Zc (Zc2 rfl rfl (fun g1 => ?_))
 refine Zc (Zk rfl (Za (Zi (Zb (Zd ?_)))))
 refine Zc (Zb2 VT.zr3 _ rfl rfl (fun g3 => ?_))
 refine Zc (Zy 0 VT.ty3 rfl rfl rfl rfl rfl (Za (Zi (Zb (Zd (Zc (Zv 1 VT.ty24 rfl rfl rfl ?_)))))))
 refine Zc (V_makeFunc [.tmp 3] rfl rfl ?_)
 refine Zc (V_callG [.tmp 4, .tmp 5] [.cells g3 3 [.int 0]] [_] rfl rfl VT.en70 (.refl _) (values_c f VT.en71 (fun n : Int => [.cells g3 3 [.int n]]) (fun n v => max n (v + 1)) 0 (fun n v hv => fresh1_c g3 n v (values_keys hok v hv))) ?_)
 rintro r Sa rfl
 refine ⟨_, Zt2 _, ?_⟩
 refine Za (Zi (Zb (Zd (Zc (Zu 0 VT.ty3 rfl rfl rfl (Zc (Zk rfl (Za (Zi (Zf1 ?_))))))))))
 refine Zg1 rfl (.tmp rfl) ?_
 rfl
set_option maxRecDepth 100000 in
theorem list_c (l : List Bool) (hl : l.length ≤ 1000000) : VPure Try.prog 31 [.sl 1 none (l.map V.bool)] (intsX (listF 0 l)) := by
 refine V_start (nt := 20) Try.func31 rfl rfl rfl ?_
 refine Zb (Zd (Zc (Zk rfl (Za (Zi (Zb (Zd (Zc (V_assign_nil 3 1 (Za (Zi (Zb (Zb (Zd (Zc (Zl rfl ?_))))))))))))))))
 refine Zc (Zd2 (n := l.length) Try.underlying79 rfl (by simp) (fun hl7 => ?_))
 refine Zc (Zl rfl (Za (Zi (Zs ?_))))
 refine Zi2 (ι := Tok × Nat × List Int) (fun (tok, k, out) => l.length - k) (fun (tok, k, out) => [(3, some (.sl 1 (some tok) (out.map V.int))), (6, some (.sl 1 none (l.map V.bool))), (7, some (.int l.length)), (8, some (.int k))]) (fun (tok, k, out) => [.buf tok 3 1 out.length]) (fun (tok, k, out) => k ≤ l.length ∧ out ++ listF k (l.drop k) = listF 0 l ∧ out.length ≤ k) (.nil, 0, []) ⟨Nat.zero_le _, rfl, Nat.le_refl _⟩ ⟨rfl, rfl, rfl, rfl, trivial⟩ (Drops.buf (by simp) (Zt2 _)) ?_
 rintro ⟨tok, k, out⟩ hA
 change k ≤ l.length ∧ out ++ listF k (l.drop k) = listF 0 l ∧ out.length ≤ k at hA
 obtain ⟨hk, hq, hol⟩ := hA
 refine Zb (Zd (Zc (Zj1 rfl rfl rfl (Za (Zi (Zb ?_))))))
 refine Zn1 rfl (fun h9 => ?_) (fun h9 => ?_)
 ·
  obtain ⟨b, hb⟩ := get_of_lt l k h9
  rw [drop_cons hb, listF] at hq
  refine Zi1 (Zi (Zb (Zs (Zb (Zd (Zc (Zl rfl ?_)))))))
  refine Zc (Zz (el := V.bool b) VT.sl79 rfl rfl (by omega) (get_bool hb) (fun a11 => ?_))
  refine Zc (Zz1 VT.ty4 rfl rfl (Zc (Zk rfl (Zc (Zk rfl (Za (Zi (Zb (Zd (Zc (Zl rfl (Za (Zi ?_)))))))))))))
  refine Zr1 rfl (fun h13 => ?_) (fun h13 => ?_)
  ·
   rw [if_pos h13] at hq
   have hA2 : k + 1 ≤ l.length ∧ (out ++ [(k : Int)]) ++ listF (k + 1) (l.drop (k + 1)) = listF 0 l ∧ (out ++ [(k : Int)]).length ≤ k + 1 := ⟨by omega, by rw [List.append_assoc]; exact hq, by simp; omega⟩
   refine Zd (Zc (Zl rfl (Zc (Zl rfl ?_))))
   refine Zc (Zk3 [.tmp 15] VT.sl36 rfl rfl rfl rfl rfl ?_)
   refine Zc (Zi3 0 _ VT.sl36 rfl rfl rfl (by simp) (by simp; omega) (fun t17 => ?_))
   refine Zc (Zk rfl (Za (Zb1 (Zi (Zd ?_)))))
   refine Zc (Zh2 rfl rfl (by omega) ?_)
   refine Zc (Zl rfl (Za (Zi ?_)))
   exact ⟨(t17, k + 1, out ++ [(k : Int)]), (by (try simp only []); omega), hA2, ⟨(by first | rfl | (rw [List.map_append]; rfl)), rfl, rfl, rfl, trivial⟩, (Drops.buf (by simp) (Zt2 _))⟩
  ·
   rw [if_neg (by rw [h13]; decide)] at hq
   have hA2 : k + 1 ≤ l.length ∧ out ++ listF (k + 1) (l.drop (k + 1)) = listF 0 l ∧ out.length ≤ k + 1 := ⟨by omega, hq, by omega⟩
   refine Zi1 (Zb1 (Zi (Zd ?_)))
   refine Zc (Zh2 rfl rfl (by omega) ?_)
   refine Zc (Zl rfl (Za (Zi ?_)))
   exact ⟨(tok, k + 1, out), (by (try simp only []); omega), hA2, ⟨(by first | rfl | (rw [List.map_append]; rfl)), rfl, rfl, rfl, trivial⟩, (Drops.buf (by simp) (Zt2 _))⟩
 ·
  have hke : k = l.length := by omega
  subst hke
  rw [List.drop_length, listF, List.append_nil] at hq
  refine Zt (Ze1 (Ze1 (Zc1 (Zi (Zb (Zd (Zc (Zl rfl (Zc (Zk rfl (Za (Zi (Zf1 ?_)))))))))))))
  refine Zg1 rfl (.strip rfl) ?_
  rw [← hq]
  rfl
set_option maxRecDepth 100000 in
theorem boolEq_c (a b : List Bool) (ta tb : Option Tok) : VPure Try.prog 50 [.sl 1 ta (a.map V.bool), .sl 1 tb (b.map V.bool)] (.bool (decide (a = b))) := by
 refine V_start (nt := 26) Try.func50 rfl rfl rfl ?_
 refine Zb (Zd (Zc (Zk rfl (Za (Zi (Zb (Zb (Zd (Zc (Zl rfl ?_))))))))))
 refine Zc (Zd2 (n := a.length) Try.underlying79 rfl (by simp) (fun hl7 => ?_))
 refine Zc (Zl rfl ?_)
 refine Zc (Zd2 (n := b.length) Try.underlying79 rfl (by simp) (fun hl9 => ?_))
 refine Zc (Zj1 rfl rfl rfl (Za (Zi ?_)))
 refine Zm1 rfl (fun h10 => ?_) (fun h10 => ?_)
 ·
  refine Zb (Zd (Zc (Zk rfl (Za (Zi (Zf1 ?_))))))
  refine Zd1 (Zg1 rfl (.tmp rfl) ?_)
  rw [decide_eq_false (fun h => h10 (by rw [h]))]
 ·
  refine Zi1 (Zi (Zb (Zb (Zd (Zc (Zl rfl ?_))))))
  refine Zc (Zd2 (n := a.length) Try.underlying79 rfl (by simp) (fun hl12 => ?_))
  refine Zc (Zl rfl (Za (Zi (Zs ?_))))
  refine Zi2 (ι := Nat) (fun k => a.length - k) (fun k => [(0, some (.sl 1 ta (a.map V.bool))), (1, some (.sl 1 tb (b.map V.bool))), (11, some (.sl 1 ta (a.map V.bool))), (12, some (.int a.length)), (13, some (.int k))]) (fun k => []) (fun k => k ≤ a.length ∧ a.take k = b.take k) 0 ⟨Nat.zero_le _, rfl⟩ ⟨rfl, rfl, rfl, rfl, rfl, trivial⟩ (Drops.nil _) ?_
  rintro k hA
  change k ≤ a.length ∧ a.take k = b.take k at hA
  obtain ⟨hk, hq⟩ := hA
  refine Zb (Zd (Zc (Zj1 rfl rfl rfl (Za (Zi (Zb ?_))))))
  refine Zn1 rfl (fun h14 => ?_) (fun h14 => ?_)
  ·
   obtain ⟨x, hx⟩ := get_of_lt a k h14
   obtain ⟨y, hy⟩ := get_of_lt b k (by omega)
   refine Zi1 (Zi (Zb (Zs (Zb (Zd (Zc (Zl rfl (Zc (Zk rfl (Za (Zi (Zb ?_))))))))))))
   refine VW_drawR (G := Unit) [([], [0], []), ([], [5], []), ([1, 0], [16, 17], []), ([2, 1, 0], [18], []), ([], [1], []), ([], [5], []), ([5, 4], [20, 21], []), ([6, 5, 4], [22], []), (dn 8, [19, 23], [])] [] (constSt _) [24] [16, 17, 18, 19, 20, 21, 22, 23, 24] rfl VT.mix ?_
   refine Zp (Zm _) (Zq (fun γ => Zf (fun _ h0 => Ze (Zn rfl (Zl h0 ⟨rfl, rfl⟩))))) ?_
   refine Zp (Zm _) (Zq (fun γ => Zf (fun _ h5 => Ze (Zn rfl (Zl h5 ⟨rfl, rfl⟩))))) ?_
   refine Zp (Zb3 _) (Zq (fun γ => Zw 0 1 rfl (fun _ h16 => Zw 1 0 rfl (fun _ h17 => Ze (Zn rfl (Zz (el := V.bool x) VT.sl79 h16 h17 (by omega) (get_bool hx) (fun a18 => ⟨⟨_, rfl⟩, rfl⟩))))))) ?_
   refine Zp (Zm _) (Zq (fun γ => Zw 2 0 rfl (fun _ h18 => Ze (Zc3 h18 (fun a_18 e18 => Zn rfl (Zz1 VT.ty4 e18 rfl ⟨rfl, rfl⟩)))))) ?_
   refine Zp (Zm _) (Zq (fun γ => Zf (fun _ h1 => Ze (Zn rfl (Zl h1 ⟨rfl, rfl⟩))))) ?_
   refine Zp (Zm _) (Zq (fun γ => Zf (fun _ h5 => Ze (Zn rfl (Zl h5 ⟨rfl, rfl⟩))))) ?_
   refine Zp (Zb3 _) (Zq (fun γ => Zw 4 1 rfl (fun _ h20 => Zw 5 0 rfl (fun _ h21 => Ze (Zn rfl (Zz (el := V.bool y) VT.sl79 h20 h21 (by omega) (get_bool hy) (fun a22 => ⟨⟨_, rfl⟩, rfl⟩))))))) ?_
   refine Zp (Zm _) (Zq (fun γ => Zw 6 0 rfl (fun _ h22 => Ze (Zc3 h22 (fun a_22 e22 => Zn rfl (Zz1 VT.ty4 e22 rfl ⟨rfl, rfl⟩)))))) ?_
   refine Zp (Zm _) (Zq (fun γ => Zw 3 4 rfl (fun _ h19 => Zw 7 0 rfl (fun _ h23 => Ze (Zn rfl (V_boolne Try.underlying4 h19 h23 ⟨rfl, rfl⟩)))))) ?_
   refine DrawP_nil (fun γ => Zw 8 0 rfl (fun r24 h24 => Ze ?_))
   have e24 : r24 = some _ := h24
   subst e24
   clear h24
   refine Zi ?_
   refine Zr1 rfl (fun h24 => ?_) (fun h24 => ?_)
   ·
    have h24 : x ≠ y := by simpa using h24
    refine Zb (Zd (Zc (Zk rfl (Za (Zi (Zf1 ?_))))))
    refine Za1 (Zd1 (Zd1 (Za1 (Zd1 (Zg1 rfl (.tmp rfl) ?_)))))
    rw [decide_eq_false (fun h => h24 (by have e := hx; rw [h, hy] at e; injection e with e; exact e.symm))]
   ·
    have h24 : x = y := by simpa using h24
    refine Zi1 (Zb1 (Zi (Zd ?_)))
    refine Zc (Zh2 rfl rfl (by omega) ?_)
    refine Zc (Zl rfl (Za (Zi ?_)))
    exact ⟨k + 1, (by (try simp only []); omega), ⟨by omega, by rw [take_snoc hx, take_snoc hy, hq, h24]⟩, ⟨rfl, rfl, rfl, rfl, rfl, trivial⟩, (Drops.nil _)⟩
  ·
   have hke : k = a.length := by omega
   have hkb : a.length = b.length := by omega
   rw [hke, List.take_length, hkb, List.take_length] at hq
   refine Zt (Ze1 (Ze1 (Zc1 (Zi (Zb (Zd (Zc (Zk rfl (Za (Zi (Zf1 ?_)))))))))))
   refine Zg1 rfl (.tmp rfl) ?_
   rw [decide_eq_true hq]
set_option maxRecDepth 100000 in
theorem boolCloneRow_c (l : List Bool) (hne : l ≠ []) (hl : l.length ≤ 1000000) : VCalls Try.prog 73 [.sl 1 none (l.map V.bool)] [] fun r S' => ∃ g cap rest, l.length ≤ cap ∧ cap ≤ maxLen ∧ r = .raw (.slice (some ⟨g, 0, none⟩) l.length cap) ∧ S' = [.cells g 4 ((l.map V.bool).flatMap V.leaves ++ rest)] := by
 refine VCalls_drops ?_
 refine V_start (nt := 8) Try.func73 rfl rfl rfl ?_
 refine Zb (Zd (Zc (Zk rfl (Za (Zi (Zb (Zb (Zd (Zc (Zl rfl ?_))))))))))
 refine Zc (V_eqNil Try.underlying79 rfl (fun b4 hb4 => ?_))
 refine Za (Zi ?_)
 refine Zr1 rfl (fun h4 => ?_) (fun h4 => ?_)
 · exact absurd (hb4 h4) (by simpa using hne)
 ·
  refine Zi1 (Zi (Zb (Zd ?_)))
  refine Zc (V_litRow [] VT.sl79 rfl rfl rfl rfl rfl (fun g5 => ?_))
  refine Zc (Zl rfl ?_)
  refine Zc (V_appendRow VT.sl79 (by decide) rfl rfl (by have := List.length_pos_iff.2 hne; simpa using this) (by simp; omega) (fits_bools l) (fun g7 cap7 rest7 hc7 hm7 => ?_))
  refine Zc (Zk rfl (Za (Zi (Zf1 ?_))))
  refine Zg1 rfl (.tmp rfl) ?_
  exact ⟨_, Drops.keep (Drops.drop (Zt2 _)), g7, cap7, rest7, by simpa using hc7, hm7, by simp, rfl⟩
set_option maxRecDepth 100000 in
set_option maxHeartbeats 4000000 in
theorem last_c {bs : List SBlock} {many k : Nat} {b : SBlock} {first : Sets} (ok : RangeOk bs many) (hb : bs[k]? = some b) (hfl : first.length = bs.length) (hfe : ∀ (k : Nat) (l : List Bool), first[k]? = some (some l) → l.length = many) (hm : many ≤ 1000000) (gl gf : Nat) (name : Int) (bh : V) : VKeep Try.prog 49 [.ptr gl 0, .int k, .raw (.slice (some ⟨gf, 0, none⟩) bs.length bs.length)] [.cells gl 81 (lifeL name bs many bh), .cells gf 79 (first.map lsV)] (boolsX (lastF bs many b.term first)) := by
 refine VKeep.drops ?_
 have hbm := List.mem_of_getElem? hb
 have hkl : k < bs.length := (List.getElem?_eq_some_iff.1 hb).1
 refine V_start (nt := 102) Try.func49 rfl rfl rfl ?_
 refine Zb (Zd (Zc (Zk rfl (Za (Zi (Zb (Zd (Zc (Zl rfl (Zc (Zv1 rfl (Zc (Zj VT.fa81_0 rfl (Zc (Zj VT.fa24_1 rfl (Zc (Zu 0 VT.ty22 rfl rfl rfl (Zc (Zl rfl ?_)))))))))))))))))))
 refine Zc (Zz (el := blockV b) VT.sl22 rfl rfl (by omega) (get_mapS _ hb) (fun a23 => ?_))
 refine Zc (Zs2 VT.fa61_2 rfl (Zc (Za2 VT.ty58 rfl rfl ?_)))
 refine Zc (Zb2 VT.zr58 _ rfl rfl (fun g7 => ?_))
 refine Zc (Zx 0 VT.ty58 rfl rfl rfl rfl rfl (Za (Zi (Zb (Zd (Zc (Zl rfl (Zc (Zv1 rfl (Zc (Zj VT.fa81_1 rfl (Zc (Zu 1 VT.ty3 rfl rfl rfl ?_)))))))))))))
 refine Zc (V_makeRow (.raw (.bool false)) (fun m => rfl) rfl VT.sl79 rfl rfl (by omega) (by omega) (fun g30 => ?_))
 refine Zc (Zk rfl (Za (Zi ?_)))
 rw [flat_false, Int.toNat_natCast]
 refine Zb (Zb (Zd (Zc (Zj VT.fa58_4 rfl (Zc (Zu 1 VT.ty56 rfl rfl rfl ?_))))))
 refine Zc (Zd2 (n := b.term.to.length) Try.underlying56 rfl (by simp) (fun hl33 => ?_))
 refine Zc (Zl rfl (Za (Zi (Zs ?_))))
 refine Zi2 (ι := Nat × List Bool) (fun (i, o) => b.term.to.length - i) (fun (i, o) => [(0, some (.ptr gl 0)), (2, some (.raw (.slice (some ⟨gf, 0, none⟩) bs.length bs.length))), (7, some (.ptr g7 0)), (8, some (.raw (.slice (some ⟨g30, 0, none⟩) many many))), (32, some (edgesX b.term.to)), (33, some (.int b.term.to.length)), (34, some (.int i))]) (fun (i, o) => [.cells g30 4 (o.map V.bool), .cells g7 58 [.int b.term.kind, .int b.term.arg, .int b.term.n, intsX b.term.cases, edgesX b.term.to], .cells gl 81 (lifeL name bs many bh), .cells gf 79 (first.map lsV)]) (fun (i, o) => i ≤ b.term.to.length ∧ o.length = many ∧ edgesV bs first (b.term.to.drop i) o = (edgesV bs first b.term.to (List.replicate many false))) (0, List.replicate many false) ⟨Nat.zero_le _, List.length_replicate, rfl⟩ ⟨rfl, rfl, rfl, rfl, rfl, rfl, rfl, trivial⟩ (Drops.keepE (congrArg (Own.cells g30 4) (by simp)) (Drops.keep (Drops.keep (Drops.keep (Zt2 _))))) ?_
 rintro ⟨i, o⟩ hA
 change i ≤ b.term.to.length ∧ o.length = many ∧ edgesV bs first (b.term.to.drop i) o = (edgesV bs first b.term.to (List.replicate many false)) at hA
 obtain ⟨hi, hol, hq⟩ := hA
 refine Zb (Zd (Zc (Zj1 rfl rfl rfl (Za (Zi (Zb ?_))))))
 refine Zn1 rfl (fun h35 => ?_) (fun h35 => ?_)
 ·
  obtain ⟨e, he⟩ := get_of_lt b.term.to i h35
  have hem := List.mem_of_getElem? he
  obtain ⟨he1, he2⟩ := ok.edge b hbm e hem
  obtain ⟨bl, hbl⟩ := get_of_lt bs e.block.toNat (by omega)
  obtain ⟨fo, hfo⟩ := get_of_lt first e.block.toNat (by omega)
  have hfl2 : (setAt first e.block.toNat).length ≤ many := by rw [set_at hfo]; cases fo with | none => exact Nat.zero_le _ | some l => exact Nat.le_of_eq (hfe _ l hfo)
  rw [drop_cons he, edgesV] at hq
  have hps := params_at hbl
  refine Zi1 (Zi (Zb (Zs (Zb (Zd ?_)))))
  refine Zc (Zz (el := edgeV e) VT.sl56 rfl rfl (by omega) (get_mapS _ he) (fun a36 => ?_))
  refine Zc (Za2 VT.ty63 rfl rfl ?_)
  refine Zc (Zb2 VT.zr63 _ rfl rfl (fun g10 => ?_))
  refine Zc (Zx 0 VT.ty63 rfl rfl rfl rfl rfl (Za (Zi (Zb (Zd (Zc (Zl rfl (Zc (Zj VT.fa63_0 rfl (Zc (Zu 0 VT.ty3 rfl rfl rfl ?_)))))))))))
  refine Zc (Zr2 VT.sl75 rfl rfl (by omega) (by omega) ?_)
  refine Zc (Zu2 (Zf3 4 e.block.toNat VT.ty79 rfl (by simp) rfl (List.append_nil _).symm (get_mapS lsV hfo) ⟨rfl, rfl⟩) ((by rw [set_at hfo]; exact lsV_le fo : V.le _ (boolsX (setAt first e.block.toNat)))) ?_)
  refine Zc (Zd2 (n := (setAt first e.block.toNat).length) Try.underlying79 rfl (by simp) (fun hl43 => ?_))
  refine Zc (Zl rfl (Za (Zi (Zs ?_))))
  refine Zi2 (ι := Nat × List Bool) (fun (j, o2) => (setAt first e.block.toNat).length - j) (fun (j, o2) => [(0, some (.ptr gl 0)), (2, some (.raw (.slice (some ⟨gf, 0, none⟩) bs.length bs.length))), (7, some (.ptr g7 0)), (8, some (.raw (.slice (some ⟨g30, 0, none⟩) many many))), (10, some (.ptr g10 0)), (32, some (edgesX b.term.to)), (33, some (.int b.term.to.length)), (34, some (.int i)), (42, some (boolsX (setAt first e.block.toNat))), (43, some (.int (setAt first e.block.toNat).length)), (44, some (.int j))]) (fun (j, o2) => [.cells g10 63 [.int e.block, intsX e.args], .cells g30 4 (o2.map V.bool), .cells g7 58 [.int b.term.kind, .int b.term.arg, .int b.term.n, intsX b.term.cases, edgesX b.term.to], .cells gl 81 (lifeL name bs many bh), .cells gf 79 (first.map lsV)]) (fun (j, o2) => j ≤ (setAt first e.block.toNat).length ∧ o2.length = many ∧ edgeV1 bl.params j ((setAt first e.block.toNat).drop j) o2 = edgeV1 (paramsOf bs e.block) 0 (setAt first e.block.toNat) o) (0, o) ⟨Nat.zero_le _, hol, by rw [hps]; rfl⟩ ⟨rfl, rfl, rfl, rfl, rfl, rfl, rfl, rfl, rfl, rfl, rfl, trivial⟩ (Drops.keep (Drops.keep (Drops.keep (Drops.keep (Drops.keep (Zt2 _)))))) ?_
  rintro ⟨j, o2⟩ hA2
  change j ≤ (setAt first e.block.toNat).length ∧ o2.length = many ∧ edgeV1 bl.params j ((setAt first e.block.toNat).drop j) o2 = edgeV1 (paramsOf bs e.block) 0 (setAt first e.block.toNat) o at hA2
  obtain ⟨hj, hol2, hq2⟩ := hA2
  refine Zb (Zd (Zc (Zj1 rfl rfl rfl (Za (Zi (Zb ?_))))))
  refine Zn1 rfl (fun h45 => ?_) (fun h45 => ?_)
  ·
   obtain ⟨v, hv⟩ := get_of_lt (setAt first e.block.toNat) j h45
   rw [drop_cons hv, edgeV1] at hq2
   refine Zi1 (Zi (Zb (Zs (Zb (Zd (Zc (Zl rfl ?_)))))))
   refine Zc (Zz (el := V.bool v) VT.sl79 rfl rfl (by omega) (get_bool hv) (fun a47 => ?_))
   refine Zc (Zz1 VT.ty4 rfl rfl (Zc (Zk rfl (Zc (Zk rfl (Za (Zi (Zb ?_))))))))
   rcases Bool.eq_false_or_eq_true (v) with hq50 | hq50
   ·
    refine VW_drawR (G := Unit) [([], [12], []), ([0], [49], []), ([1, 0], [0, 50], []), ([2, 1, 0], [51, 50], []), (dn 4, [52, 50], []), (dn 5, [53, 50], []), (dn 6, [54, 50], []), ([1, 0], [10, 50], []), ([7, 1, 0], [56, 50], []), (dn 9, [55, 57, 50], []), (dn 10, [58, 50], []), (dn 11, [59, 50], []), ([1, 0], [11, 50], []), (dn 13, [60, 61, 50], []), (dn 14, [62, 50], []), (dn 15, [50, 63], [])] [] (constSt _) [64] [49, 50, 51, 52, 53, 54, 55, 56, 57, 58, 59, 60, 61, 62, 63, 64] rfl VT.mix ?_
    refine Zp (Zm _) (Zq (fun γ => Zf (fun _ h12 => Ze (Zn rfl (Zl h12 ⟨rfl, rfl⟩))))) ?_
    refine Zp (Zm _) (Zq (fun γ => Zw 0 0 rfl (fun _ h49 => Ze (Zn rfl (Zl h49 ⟨rfl, rfl⟩))))) ?_
    refine Zp (Zm _) (Zq (fun γ => Zf (fun _ h0 => Zw 1 0 rfl (fun _ h50 => Ze (Zn (Zg rfl rfl h50 hq50) (Zl h0 ⟨rfl, rfl⟩)))))) ?_
    refine Zp (Zm _) (Zq (fun γ => Zw 2 0 rfl (fun _ h51 => Zw 1 1 rfl (fun _ h50 => Ze (Zn (Zg rfl rfl h50 hq50) (Zv1 h51 ⟨rfl, rfl⟩)))))) ?_
    refine Zp (Zm _) (Zq (fun γ => Zw 3 0 rfl (fun _ h52 => Zw 1 2 rfl (fun _ h50 => Ze (Zn (Zg rfl rfl h50 hq50) (Zj VT.fa81_0 h52 ⟨rfl, rfl⟩)))))) ?_
    refine Zp (Zm _) (Zq (fun γ => Zw 4 0 rfl (fun _ h53 => Zw 1 3 rfl (fun _ h50 => Ze (Zn (Zg rfl rfl h50 hq50) (Zj VT.fa24_1 h53 ⟨rfl, rfl⟩)))))) ?_
    refine Zp (Zm _) (Zq (fun γ => Zw 5 0 rfl (fun _ h54 => Zw 1 4 rfl (fun _ h50 => Ze (Zn (Zg rfl rfl h50 hq50) (Zu 3 VT.ty22 h54 rfl rfl ⟨rfl, rfl⟩)))))) ?_
    refine Zp (Zm _) (Zq (fun γ => Zf (fun _ h10 => Zw 1 5 rfl (fun _ h50 => Ze (Zn (Zg rfl rfl h50 hq50) (Zj VT.fa63_0 h10 ⟨rfl, rfl⟩)))))) ?_
    refine Zp (Zm _) (Zq (fun γ => Zw 7 0 rfl (fun _ h56 => Zw 1 6 rfl (fun _ h50 => Ze (Zn (Zg rfl rfl h50 hq50) (Zu 0 VT.ty3 h56 rfl rfl ⟨rfl, rfl⟩)))))) ?_
    refine Zp (Zb3 _) (Zq (fun γ => Zw 6 2 rfl (fun _ h55 => Zw 8 0 rfl (fun _ h57 => Zw 1 7 rfl (fun _ h50 => Ze (Zn (Zg rfl rfl h50 hq50) (Zz (el := blockV bl) VT.sl22 h55 h57 (by omega) (get_mapS _ hbl) (fun a58 => ⟨⟨_, rfl⟩, rfl⟩)))))))) ?_
    refine Zp (Zb3 _) (Zq (fun γ => Zw 9 0 rfl (fun _ h58 => Zw 1 8 rfl (fun _ h50 => Ze (Zc3 h58 (fun a_58 e58 => Zn (Zg rfl rfl h50 hq50) (Zw1 VT.fa61_0 e58 rfl ⟨⟨_, rfl⟩, rfl⟩))))))) ?_
    refine Zp (Zm _) (Zq (fun γ => Zw 10 0 rfl (fun _ h59 => Zw 1 9 rfl (fun _ h50 => Ze (Zc3 h59 (fun a_59 e59 => Zn (Zg rfl rfl h50 hq50) (Zz1 VT.ty36 e59 rfl ⟨rfl, rfl⟩))))))) ?_
    refine Zp (Zm _) (Zq (fun γ => Zf (fun _ h11 => Zw 1 10 rfl (fun _ h50 => Ze (Zn (Zg rfl rfl h50 hq50) (Zl h11 ⟨rfl, rfl⟩)))))) ?_
    refine Zp (Zm _) (Zq (fun γ => Zw 11 1 rfl (fun _ h60 => Zw 12 0 rfl (fun _ h61 => Zw 1 11 rfl (fun _ h50 => Ze (Zn (Zg rfl rfl h50 hq50) (Zx1 [.tmp 60, .tmp 61] rfl (Zp2 h60 (Zp2 h61 Zq2)) VT.en72 (intContains_c bl.params none j) ⟨rfl, rfl⟩))))))) ?_
    refine Zp (Zm _) (Zq (fun γ => Zw 13 0 rfl (fun _ h62 => Zw 1 12 rfl (fun _ h50 => Ze (Zn (Zg rfl rfl h50 hq50) (Zl2 h62 ⟨rfl, rfl⟩)))))) ?_
    refine Zp (Zm _) (Zq (fun γ => Zw 1 13 rfl (fun _ h50 => Zw 14 0 rfl (fun _ h63 => Ze (Zn rfl (Zs1 h50 hq50 h63 ⟨rfl, rfl⟩)))))) ?_
    refine DrawP_nil (fun γ => Zw 15 0 rfl (fun r64 h64 => Ze ?_))
    have e64 : r64 = some _ := h64
    subst e64
    clear h64
    refine Zi ?_
    refine Zo1 rfl (fun h64 => ?_) (fun h64 => ?_)
    ·
     have hc3 : (v && !(bl.params.any fun x => decide ((j : Int) = x))) = true := by rw [hq50, h64]; rfl
     rw [if_pos hc3] at hq2
     have hol3 : (o2.set j true).length = many := by rw [List.length_set]; exact hol2
     have hq3 := hq2
     refine Zd (Zc (Zl rfl (Zc (Zl rfl ?_))))
     refine Zc (Zr2 VT.sl79 rfl rfl (by omega) (by omega) ?_)
     refine Zc (Zh3 1 j VT.ty4 rfl (by simp) rfl rfl rfl (List.append_nil _).symm (by rw [List.length_map]; omega) ?_)
     refine Za (Zb1 (Zi (Zd ?_)))
     refine Zc (Zh2 rfl rfl (by omega) ?_)
     refine Zc (Zl rfl (Za (Zi ?_)))
     exact ⟨(j + 1, o2.set j true), (by (try simp only []); omega), ⟨by omega, hol3, hq3⟩, ⟨rfl, rfl, rfl, rfl, rfl, rfl, rfl, rfl, rfl, rfl, rfl, trivial⟩, (Drops.keep (Drops.keepE (by first | rfl | exact congrArg (Own.cells g30 4) (bools_set _ _ _)) (Drops.keep (Drops.keep (Drops.keep (Zt2 _))))))⟩
    ·
     have hc3 : ¬ (v && !(bl.params.any fun x => decide ((j : Int) = x))) = true := by rw [hq50, h64]; decide
     rw [if_neg hc3] at hq2
     have hol3 := hol2
     have hq3 := hq2
     refine Zi1 (Zb1 (Zi (Zd ?_)))
     refine Zc (Zh2 rfl rfl (by omega) ?_)
     refine Zc (Zl rfl (Za (Zi ?_)))
     exact ⟨(j + 1, o2), (by (try simp only []); omega), ⟨by omega, hol3, hq3⟩, ⟨rfl, rfl, rfl, rfl, rfl, rfl, rfl, rfl, rfl, rfl, rfl, trivial⟩, (Drops.keep (Drops.keepE (by first | rfl | exact congrArg (Own.cells g30 4) (bools_set _ _ _)) (Drops.keep (Drops.keep (Drops.keep (Zt2 _))))))⟩
   ·
    refine VW_drawR (G := Unit) [([], [12], []), ([0], [49], []), ([1, 0], [0, 50], []), ([2, 1, 0], [51, 50], []), (dn 4, [52, 50], []), (dn 5, [53, 50], []), (dn 6, [54, 50], []), ([1, 0], [10, 50], []), ([7, 1, 0], [56, 50], []), (dn 9, [55, 57, 50], []), (dn 10, [58, 50], []), (dn 11, [59, 50], []), ([1, 0], [11, 50], []), (dn 13, [60, 61, 50], []), (dn 14, [62, 50], []), (dn 15, [50, 63], [])] [] (constSt _) [64] [49, 50, 51, 52, 53, 54, 55, 56, 57, 58, 59, 60, 61, 62, 63, 64] rfl VT.mix ?_
    refine Zp (Zm _) (Zq (fun γ => Zf (fun _ h12 => Ze (Zn rfl (Zl h12 ⟨rfl, rfl⟩))))) ?_
    refine Zp (Zm _) (Zq (fun γ => Zw 0 0 rfl (fun _ h49 => Ze (Zn rfl (Zl h49 ⟨rfl, rfl⟩))))) ?_
    refine Zp (Zm _) (Zq (fun γ => Zf (fun _ h0 => Zw 1 0 rfl (fun _ h50 => Ze (Zy2 (Zr rfl rfl h50 hq50) ⟨rfl, rfl⟩))))) ?_
    refine Zp (Zm _) (Zq (fun γ => Zw 2 0 rfl (fun _ h51 => Zw 1 1 rfl (fun _ h50 => Ze (Zy2 (Zr rfl rfl h50 hq50) ⟨rfl, rfl⟩))))) ?_
    refine Zp (Zm _) (Zq (fun γ => Zw 3 0 rfl (fun _ h52 => Zw 1 2 rfl (fun _ h50 => Ze (Zy2 (Zr rfl rfl h50 hq50) ⟨rfl, rfl⟩))))) ?_
    refine Zp (Zm _) (Zq (fun γ => Zw 4 0 rfl (fun _ h53 => Zw 1 3 rfl (fun _ h50 => Ze (Zy2 (Zr rfl rfl h50 hq50) ⟨rfl, rfl⟩))))) ?_
    refine Zp (Zm _) (Zq (fun γ => Zw 5 0 rfl (fun _ h54 => Zw 1 4 rfl (fun _ h50 => Ze (Zy2 (Zr rfl rfl h50 hq50) ⟨rfl, rfl⟩))))) ?_
    refine Zp (Zm _) (Zq (fun γ => Zf (fun _ h10 => Zw 1 5 rfl (fun _ h50 => Ze (Zy2 (Zr rfl rfl h50 hq50) ⟨rfl, rfl⟩))))) ?_
    refine Zp (Zm _) (Zq (fun γ => Zw 7 0 rfl (fun _ h56 => Zw 1 6 rfl (fun _ h50 => Ze (Zy2 (Zr rfl rfl h50 hq50) ⟨rfl, rfl⟩))))) ?_
    refine Zp (Zm _) (Zq (fun γ => Zw 6 2 rfl (fun _ h55 => Zw 8 0 rfl (fun _ h57 => Zw 1 7 rfl (fun _ h50 => Ze (Zy2 (Zr rfl rfl h50 hq50) ⟨rfl, rfl⟩)))))) ?_
    refine Zp (Zm _) (Zq (fun γ => Zw 9 0 rfl (fun _ h58 => Zw 1 8 rfl (fun _ h50 => Ze (Zy2 (Zr rfl rfl h50 hq50) ⟨rfl, rfl⟩))))) ?_
    refine Zp (Zm _) (Zq (fun γ => Zw 10 0 rfl (fun _ h59 => Zw 1 9 rfl (fun _ h50 => Ze (Zy2 (Zr rfl rfl h50 hq50) ⟨rfl, rfl⟩))))) ?_
    refine Zp (Zm _) (Zq (fun γ => Zf (fun _ h11 => Zw 1 10 rfl (fun _ h50 => Ze (Zy2 (Zr rfl rfl h50 hq50) ⟨rfl, rfl⟩))))) ?_
    refine Zp (Zm _) (Zq (fun γ => Zw 11 1 rfl (fun _ h60 => Zw 12 0 rfl (fun _ h61 => Zw 1 11 rfl (fun _ h50 => Ze (Zy2 (Zr rfl rfl h50 hq50) ⟨rfl, rfl⟩)))))) ?_
    refine Zp (Zm _) (Zq (fun γ => Zw 13 0 rfl (fun _ h62 => Zw 1 12 rfl (fun _ h50 => Ze (Zy2 (Zr rfl rfl h50 hq50) ⟨rfl, rfl⟩))))) ?_
    refine Zp (Zm _) (Zq (fun γ => Zw 1 13 rfl (fun _ h50 => Zw 14 0 rfl (fun _ h63 => Ze (Zn rfl (Zt1 h50 hq50 rfl ⟨rfl, rfl⟩)))))) ?_
    refine DrawP_nil (fun γ => Zw 15 0 rfl (fun r64 h64 => Ze ?_))
    have e64 : r64 = some _ := h64
    subst e64
    clear h64
    refine Zi ?_
    refine Zq1 rfl rfl ?_
    have hc3 : ¬ (v && !(bl.params.any fun x => decide ((j : Int) = x))) = true := by rw [hq50, Bool.false_and]; decide
    rw [if_neg hc3] at hq2
    have hol3 := hol2
    have hq3 := hq2
    refine Zi1 (Zb1 (Zi (Zd ?_)))
    refine Zc (Zh2 rfl rfl (by omega) ?_)
    refine Zc (Zl rfl (Za (Zi ?_)))
    exact ⟨(j + 1, o2), (by (try simp only []); omega), ⟨by omega, hol3, hq3⟩, ⟨rfl, rfl, rfl, rfl, rfl, rfl, rfl, rfl, rfl, rfl, rfl, trivial⟩, (Drops.keep (Drops.keepE (by first | rfl | exact congrArg (Own.cells g30 4) (bools_set _ _ _)) (Drops.keep (Drops.keep (Drops.keep (Zt2 _))))))⟩
  ·
   have hje : j = (setAt first e.block.toNat).length := by omega
   subst hje
   rw [List.drop_length, edgeV1] at hq2
   rw [← hq2] at hq
   refine Zt (Ze1 (Ze1 (Zc1 (Zb1 (Zi (Zd ?_))))))
   refine Zc (Zh2 rfl rfl (by omega) ?_)
   refine Zc (Zl rfl (Za (Zi ?_)))
   exact ⟨(i + 1, o2), (by (try simp only []); omega), ⟨by omega, hol2, hq⟩, ⟨rfl, rfl, rfl, rfl, rfl, rfl, rfl, trivial⟩, (Drops.drop (Drops.keep (Drops.keep (Drops.keep (Drops.keep (Zt2 _))))))⟩
 ·
  have hie : i = b.term.to.length := by omega
  subst hie
  rw [List.drop_length, edgesV] at hq
  subst hq
  refine Zt (Ze1 (Ze1 (Zc1 (Zi ?_))))
  refine VW_cutF [(7, some (.ptr g7 0)), (8, some (.raw (.slice (some ⟨g30, 0, none⟩) many many)))] [.cells g30 4 ((termV1 b.term (edgesV bs first b.term.to (List.replicate many false))).map V.bool), .cells g7 58 [.int b.term.kind, .int b.term.arg, .int b.term.n, intsX b.term.cases, edgesX b.term.to], .cells gl 81 (lifeL name bs many bh), .cells gf 79 (first.map lsV)] ?_ ?_
  ·
   refine Zb (Zd (Zc (Zj VT.fa58_0 rfl (Zc (Zu 1 VT.ty3 rfl rfl rfl (Zc (Zj1 rfl rfl rfl (Zc (Zl rfl ?_)))))))))
   refine Zj2 (q := 73) rfl (fun hq73 => ?_) (fun hq73 => ?_)
   ·
    refine Zc (Zj VT.fa58_0 rfl ?_) (Zy1 hq73)
    refine Zc (Zu 1 VT.ty3 rfl rfl rfl ?_) (Zy1 hq73)
    refine Zc (Zj1 rfl rfl rfl ?_) (Zy1 hq73)
    refine Zc (Zs1 rfl hq73 rfl ?_)
    refine Za (Zi ?_)
    refine Zm1 rfl (fun h77 => ?_) (fun h77 => ?_)
    ·
     have hk1 : b.term.kind ≠ 1 := by simpa using hq73
     have ht1 : termV1 b.term (edgesV bs first b.term.to (List.replicate many false)) = (edgesV bs first b.term.to (List.replicate many false)).set b.term.arg.toNat true := by rw [termV1, if_pos ⟨hk1, h77⟩]
     obtain ⟨ha1, ha2⟩ := ok.arg b hbm ⟨hk1, h77⟩
     refine Zd (Zc (Zl rfl (Zc (Zj VT.fa58_1 rfl (Zc (Zu 1 VT.ty3 rfl rfl rfl ?_))))))
     refine Zc (Zr2 VT.sl79 rfl rfl (by omega) (by omega) ?_)
     refine Zc (Zh3 0 b.term.arg.toNat VT.ty4 rfl (by simp) rfl rfl rfl (List.append_nil _).symm (by rw [List.length_map]; omega) ?_)
     refine Za (Zi ?_)
     exact ⟨⟨rfl, rfl, trivial⟩, (Drops.keepE (congrArg (Own.cells g30 4) (by rw [ht1]; try exact bools_set _ _ _)) (Drops.keep (Drops.keep (Drops.keep (Zt2 _)))))⟩
    ·
     have ht1 : termV1 b.term (edgesV bs first b.term.to (List.replicate many false)) = (edgesV bs first b.term.to (List.replicate many false)) := by rw [termV1, if_neg (fun h => h.2 h77)]
     refine Zi1 (Zi ?_)
     exact ⟨⟨rfl, rfl, trivial⟩, (Drops.keepE (congrArg (Own.cells g30 4) (by rw [ht1]; try exact bools_set _ _ _)) (Drops.keep (Drops.keep (Drops.keep (Zt2 _)))))⟩
   ·
    refine Zk1 hq73 ?_
    refine Zk1 hq73 ?_
    refine Zk1 hq73 ?_
    refine Zc (Zt1 rfl hq73 rfl ?_)
    refine Za (Zi ?_)
    refine Zq1 rfl rfl ?_
    have hk1 : b.term.kind = 1 := by simpa using hq73
    have ht1 : termV1 b.term (edgesV bs first b.term.to (List.replicate many false)) = (edgesV bs first b.term.to (List.replicate many false)) := by rw [termV1, if_neg (fun h => h.1 hk1)]
    refine Zi1 (Zi ?_)
    exact ⟨⟨rfl, rfl, trivial⟩, (Drops.keepE (congrArg (Own.cells g30 4) (by rw [ht1]; try exact bools_set _ _ _)) (Drops.keep (Drops.keep (Drops.keep (Zt2 _)))))⟩
  ·
   refine Zb (Zb (Zd (Zc (Zj VT.fa58_4 rfl (Zc (Zu 1 VT.ty56 rfl rfl rfl ?_))))))
   refine Zc (Zd2 (n := b.term.to.length) Try.underlying56 rfl (by simp) (fun hl84 => ?_))
   refine Zc (Zl rfl (Za (Zi (Zs ?_))))
   refine Zi2 (ι := Nat × List Bool) (fun (i, o) => b.term.to.length - i) (fun (i, o) => [(8, some (.raw (.slice (some ⟨g30, 0, none⟩) many many))), (83, some (edgesX b.term.to)), (84, some (.int b.term.to.length)), (85, some (.int i))]) (fun (i, o) => [.cells g30 4 (o.map V.bool), .cells gl 81 (lifeL name bs many bh), .cells gf 79 (first.map lsV)]) (fun (i, o) => i ≤ b.term.to.length ∧ o.length = many ∧ argsV (b.term.to.drop i) o = lastF bs many b.term first) (0, termV1 b.term (edgesV bs first b.term.to (List.replicate many false))) ⟨Nat.zero_le _, by rw [term1_len, edges_len, List.length_replicate], rfl⟩ ⟨rfl, rfl, rfl, rfl, trivial⟩ (Drops.keep (Drops.drop (Drops.keep (Drops.keep (Zt2 _))))) ?_
   rintro ⟨i, o⟩ hA
   change i ≤ b.term.to.length ∧ o.length = many ∧ argsV (b.term.to.drop i) o = lastF bs many b.term first at hA
   obtain ⟨hi, hol, hq⟩ := hA
   refine Zb (Zd (Zc (Zj1 rfl rfl rfl (Za (Zi (Zb ?_))))))
   refine Zn1 rfl (fun h86 => ?_) (fun h86 => ?_)
   ·
    obtain ⟨e, he⟩ := get_of_lt b.term.to i h86
    have hea := ok.eargs b hbm e (List.mem_of_getElem? he)
    rw [drop_cons he, argsV] at hq
    refine Zi1 (Zi (Zb (Zs (Zb (Zd ?_)))))
    refine Zc (Zz (el := edgeV e) VT.sl56 rfl rfl (by omega) (get_mapS _ he) (fun a87 => ?_))
    refine Zc (Za2 VT.ty63 rfl rfl ?_)
    refine Zc (Zb2 VT.zr63 _ rfl rfl (fun g14 => ?_))
    refine Zc (Zx 0 VT.ty63 rfl rfl rfl rfl rfl (Za (Zi (Zb (Zd (Zc (Zj VT.fa63_1 rfl (Zc (Zu 0 VT.ty36 rfl rfl rfl ?_)))))))))
    refine Zc (Zd2 (n := e.args.length) Try.underlying36 rfl (by simp) (fun hl91 => ?_))
    refine Zc (Zl rfl (Za (Zi (Zs ?_))))
    refine Zi2 (ι := Nat × List Bool) (fun (j, o2) => e.args.length - j) (fun (j, o2) => [(8, some (.raw (.slice (some ⟨g30, 0, none⟩) many many))), (83, some (edgesX b.term.to)), (84, some (.int b.term.to.length)), (85, some (.int i)), (90, some (intsX e.args)), (91, some (.int e.args.length)), (92, some (.int j))]) (fun (j, o2) => [.cells g30 4 (o2.map V.bool), .cells gl 81 (lifeL name bs many bh), .cells gf 79 (first.map lsV)]) (fun (j, o2) => j ≤ e.args.length ∧ o2.length = many ∧ setsF o2 (e.args.drop j) = setsF o e.args) (0, o) ⟨Nat.zero_le _, hol, rfl⟩ ⟨rfl, rfl, rfl, rfl, rfl, rfl, rfl, trivial⟩ (Drops.drop (Drops.keep (Drops.keep (Drops.keep (Zt2 _))))) ?_
    rintro ⟨j, o2⟩ hA2
    change j ≤ e.args.length ∧ o2.length = many ∧ setsF o2 (e.args.drop j) = setsF o e.args at hA2
    obtain ⟨hj, hol2, hq2⟩ := hA2
    refine Zb (Zd (Zc (Zj1 rfl rfl rfl (Za (Zi (Zb ?_))))))
    refine Zn1 rfl (fun h93 => ?_) (fun h93 => ?_)
    ·
     obtain ⟨a, ha⟩ := get_of_lt e.args j h93
     obtain ⟨ha1, ha2⟩ := hea a (List.mem_of_getElem? ha)
     rw [drop_cons ha] at hq2
     change setsF (o2.set a.toNat true) (e.args.drop (j + 1)) = _ at hq2
     refine Zi1 (Zi (Zb (Zs (Zb (Zd ?_)))))
     refine Zc (Zz (el := V.int a) VT.sl36 rfl rfl (by omega) (get_int ha) (fun a94 => ?_))
     refine Zc (Zz1 VT.ty3 rfl rfl (Zc (Zk rfl (Za (Zi (Zd (Zc (Zl rfl (Zc (Zl rfl ?_))))))))))
     refine Zc (Zr2 VT.sl79 rfl rfl (by omega) (by omega) ?_)
     refine Zc (Zh3 0 a.toNat VT.ty4 rfl (by simp) rfl rfl rfl (List.append_nil _).symm (by rw [List.length_map]; omega) ?_)
     refine Za (Zb1 (Zi (Zd ?_)))
     refine Zc (Zh2 rfl rfl (by omega) ?_)
     refine Zc (Zl rfl (Za (Zi ?_)))
     exact ⟨(j + 1, o2.set a.toNat true), (by (try simp only []); omega), ⟨by omega, by rw [List.length_set]; exact hol2, hq2⟩, ⟨rfl, rfl, rfl, rfl, rfl, rfl, rfl, trivial⟩, (Drops.keepE (congrArg (Own.cells g30 4) (bools_set _ _ _)) (Drops.keep (Drops.keep (Zt2 _))))⟩
    ·
     have hje : j = e.args.length := by omega
     subst hje
     rw [List.drop_length] at hq2
     change o2 = _ at hq2
     rw [← hq2] at hq
     refine Zt (Ze1 (Ze1 (Zc1 (Zb1 (Zi (Zd ?_))))))
     refine Zc (Zh2 rfl rfl (by omega) ?_)
     refine Zc (Zl rfl (Za (Zi ?_)))
     exact ⟨(i + 1, o2), (by (try simp only []); omega), ⟨by omega, hol2, hq⟩, ⟨rfl, rfl, rfl, rfl, trivial⟩, (Drops.keep (Drops.keep (Drops.keep (Zt2 _))))⟩
   ·
    have hie : i = b.term.to.length := by omega
    subst hie
    rw [List.drop_length, argsV] at hq
    refine Zt (Ze1 (Ze1 (Zc1 (Zi ?_))))
    refine VW_freeze 0 (q := 8) (rest := []) (o.map V.bool) rfl rfl (by rw [flat_bools, List.append_nil]) (by simp [hol]) (Nat.le_refl _) (by simp only [maxLen]; omega) (fits_boolsR _) ?_
    refine Zb (Zd (Zc (Zl rfl (Zc (Zk rfl (Za (Zi (Zf1 ?_))))))))
    refine Zg1 rfl (.tmp rfl) ?_
    exact ⟨by rw [← hq], (Drops.keep (Drops.keep (Zt2 _)))⟩
set_option maxRecDepth 100000 in
set_option maxHeartbeats 4000000 in
theorem back0_c {bs : List SBlock} {many k : Nat} {b : SBlock} {behind : Sets} {s : List Bool} (ok : RangeOk bs many) (hb : bs[k]? = some b) (hbl : behind.length = bs.length) (hs : behind[k]? = some (some s)) (hsl : s.length = many) (h1 : 1 ≤ many) (hm : many ≤ 1000000) (gl gb : Nat) (name : Int) : VKeep Try.prog 51 [.ptr gl 0, .int k, .raw .nilFunc] [.cells gl 81 (lifeL name bs many (.raw (.slice (some ⟨gb, 0, none⟩) bs.length bs.length))), .cells gb 79 (behind.map lsV)] (boolsX (backF b s)) := by
 refine VKeep.drops ?_
 have hbm := List.mem_of_getElem? hb
 have hkl : k < bs.length := (List.getElem?_eq_some_iff.1 hb).1
 have hil : b.ins.length ≤ b.ins.length := Nat.le_refl _
 refine V_start (nt := 64) Try.func51 rfl rfl rfl ?_
 refine Zb (Zd (Zc (Zk rfl (Za (Zi (Zb (Zd (Zc (Zl rfl (Zc (Zv1 rfl (Zc (Zj VT.fa81_0 rfl (Zc (Zj VT.fa24_1 rfl (Zc (Zu 0 VT.ty22 rfl rfl rfl (Zc (Zl rfl ?_)))))))))))))))))))
 refine Zc (Zz (el := blockV b) VT.sl22 rfl rfl (by omega) (get_mapS _ hb) (fun a19 => ?_))
 refine Zc (Za2 VT.ty61 rfl rfl ?_)
 refine Zc (Zb2 VT.zr61 _ rfl rfl (fun g7 => ?_))
 refine Zc (Zx 0 VT.ty61 rfl rfl rfl rfl rfl (Za (Zi (Zb (Zd (Zc (Zl rfl (Zc (Zv1 rfl (Zc (Zj VT.fa81_2 rfl (Zc (Zu 1 VT.ty75 rfl rfl rfl (Zc (Zl rfl ?_)))))))))))))))
 refine Zc (Zr2 VT.sl75 rfl rfl (by omega) (by omega) ?_)
 refine Zc (Zf3 2 k VT.ty79 rfl (by simp) rfl (List.append_nil _).symm (get_mapS lsV hs) ?_)
 refine Zc (Zm3 [.tmp 27] [] _ rfl rfl VT.en73 (.refl _) (boolCloneRow_c s (fun e => by rw [e] at hsl; simp at hsl; omega) (by omega)) ?_)
 rintro r Sa ⟨gr, cap, rest, hcc, hcm, rfl, rfl⟩
 rw [flat_bools]
 refine Zc (Zk rfl (Za (Zi (Zb (Zd (Zc (Zj VT.fa61_1 rfl (Zc (Zu 1 VT.ty59 rfl rfl rfl ?_)))))))))
 refine Zc (Zd2 (n := b.ins.length) Try.underlying59 rfl (by simp) (fun hl31 => ?_))
 refine Zc (Zk rfl (Za (Zi (Zs ?_))))
 refine Zi2 (ι := Nat × List Bool) (fun (n, now) => n) (fun (n, now) => [(2, some (.raw .nilFunc)), (7, some (.ptr g7 0)), (8, some (.raw (.slice (some ⟨gr, 0, none⟩) s.length cap))), (9, some (.int n))]) (fun (n, now) => [.cells gr 4 (now.map V.bool ++ rest), .cells g7 61 (blockV b).leaves, .cells gl 81 (lifeL name bs many (.raw (.slice (some ⟨gb, 0, none⟩) bs.length bs.length))), .cells gb 79 (behind.map lsV)]) (fun (n, now) => n ≤ b.ins.length ∧ now.length = s.length ∧ backI (b.ins.take n).reverse now = backF b s) (b.ins.length, s) ⟨Nat.le_refl _, rfl, by rw [List.take_of_length_le (Nat.le_refl _)]; rfl⟩ ⟨rfl, rfl, rfl, rfl, trivial⟩ (Drops.keep (Drops.keep (Drops.keep (Drops.keep (Zt2 _))))) ?_
 rintro ⟨n, now⟩ hA
 change n ≤ b.ins.length ∧ now.length = s.length ∧ backI (b.ins.take n).reverse now = backF b s at hA
 obtain ⟨hn, hnl, hq⟩ := hA
 refine Zb (Zs (Zb (Zb (Zd (Zc (Zl rfl ?_))))))
 refine Zc (V_fnNeF Try.underlying142 rfl ?_)
 refine Za (Zi ?_)
 refine Zq1 rfl rfl ?_
 refine Zi1 (Zi (Zb (Zb (Zd (Zc (Zl rfl (Zc (Zj1 rfl rfl rfl (Za (Zi ?_))))))))))
 refine Zl1 rfl (fun h41 => ?_) (fun h41 => ?_)
 ·
  have hn0 : n = 0 := by omega
  subst hn0
  rw [List.take_zero, List.reverse_nil] at hq
  change now = _ at hq
  refine VW_freeze 0 (q := 8) (rest := rest) (now.map V.bool) rfl rfl (by rw [flat_bools]) (by simp [hnl]) hcc hcm (fits_boolsR _) ?_
  refine Zb (Zd (Zc (Zl rfl (Zc (Zk rfl (Za (Zi (Zf1 ?_))))))))
  refine Zd1 (Za1 (Zd1 (Zd1 (Za1 (Zg1 rfl (.tmp rfl) ?_)))))
  exact ⟨by rw [← hq], (Drops.drop (Drops.keep (Drops.keep (Zt2 _))))⟩
 ·
  obtain ⟨m, rfl⟩ : ∃ m, n = m + 1 := ⟨n - 1, by omega⟩
  obtain ⟨i, hi⟩ := get_of_lt b.ins m (by omega)
  have him := List.mem_of_getElem? hi
  obtain ⟨ht1, ht2⟩ := ok.to b hbm i him
  have hia := ok.args b hbm i him
  rw [take_snoc hi, List.reverse_append, List.reverse_singleton, List.singleton_append, backI] at hq
  refine Zi1 (Zi (Zb (Zd (Zc (Zj VT.fa61_1 rfl (Zc (Zu 1 VT.ty59 rfl rfl rfl (Zc (Zl rfl ?_)))))))))
  refine Zc (Zu2 (Zk2 rfl rfl (by omega) ⟨rfl, rfl⟩) ((V.le.of_eq (congrArg V.int (show ((m + 1 : Nat) : Int) - 1 = (m : Int) by omega)) : V.le _ (.int (m : Int)))) ?_)
  refine Zc (Zz (el := insV i) VT.sl59 rfl rfl (by omega) (get_mapS _ hi) (fun a47 => ?_))
  refine Zc (Za2 VT.ty83 rfl rfl ?_)
  refine Zc (Zb2 VT.zr83 _ rfl rfl (fun g10 => ?_))
  refine Zc (Zx 0 VT.ty83 rfl rfl rfl rfl rfl (Za (Zi (Zb (Zd (Zc (Zl rfl (Zc (Zj VT.fa83_0 rfl (Zc (Zu 0 VT.ty3 rfl rfl rfl ?_)))))))))))
  refine Zc (Zr2 VT.sl79 rfl rfl (by omega) (by omega) ?_)
  refine Zc (Zh3 1 i.to.toNat VT.ty4 rfl (by simp) rfl rfl rfl rfl (by rw [List.length_map]; omega) ?_)
  refine Za (Zi ?_)
  rw [bools_set2]
  refine Zb (Zd (Zc (Zj VT.fa83_3 rfl (Zc (Zu 0 VT.ty36 rfl rfl rfl ?_)))))
  refine Zc (Zd2 (n := i.args.length) Try.underlying36 rfl (by simp) (fun hl55 => ?_))
  refine Zc (Zl rfl (Za (Zi (Zs ?_))))
  refine Zi2 (ι := Nat × List Bool) (fun (j, now2) => i.args.length - j) (fun (j, now2) => [(2, some (.raw .nilFunc)), (7, some (.ptr g7 0)), (8, some (.raw (.slice (some ⟨gr, 0, none⟩) s.length cap))), (9, some (.int ((m + 1 : Nat) : Int))), (54, some (intsX i.args)), (55, some (.int i.args.length)), (56, some (.int j))]) (fun (j, now2) => [.cells gr 4 (now2.map V.bool ++ rest), .cells g7 61 (blockV b).leaves, .cells gl 81 (lifeL name bs many (.raw (.slice (some ⟨gb, 0, none⟩) bs.length bs.length))), .cells gb 79 (behind.map lsV)]) (fun (j, now2) => j ≤ i.args.length ∧ now2.length = s.length ∧ setsF now2 (i.args.drop j) = setsF (now.set i.to.toNat false) i.args) (0, now.set i.to.toNat false) ⟨Nat.zero_le _, by rw [List.length_set]; exact hnl, rfl⟩ ⟨rfl, rfl, rfl, rfl, rfl, rfl, rfl, trivial⟩ (Drops.drop (Drops.keep (Drops.keep (Drops.keep (Drops.keep (Zt2 _)))))) ?_
  rintro ⟨j, now2⟩ hA2
  change j ≤ i.args.length ∧ now2.length = s.length ∧ setsF now2 (i.args.drop j) = setsF (now.set i.to.toNat false) i.args at hA2
  obtain ⟨hj, hnl2, hq2⟩ := hA2
  refine Zb (Zd (Zc (Zj1 rfl rfl rfl (Za (Zi (Zb ?_))))))
  refine Zn1 rfl (fun h57 => ?_) (fun h57 => ?_)
  ·
   obtain ⟨a, ha⟩ := get_of_lt i.args j h57
   obtain ⟨ha1, ha2⟩ := hia a (List.mem_of_getElem? ha)
   rw [drop_cons ha] at hq2
   change setsF (now2.set a.toNat true) (i.args.drop (j + 1)) = _ at hq2
   refine Zi1 (Zi (Zb (Zs (Zb (Zd ?_)))))
   refine Zc (Zz (el := V.int a) VT.sl36 rfl rfl (by omega) (get_int ha) (fun a58 => ?_))
   refine Zc (Zz1 VT.ty3 rfl rfl (Zc (Zk rfl (Za (Zi (Zd (Zc (Zl rfl (Zc (Zl rfl ?_))))))))))
   refine Zc (Zr2 VT.sl79 rfl rfl (by omega) (by omega) ?_)
   refine Zc (Zh3 0 a.toNat VT.ty4 rfl (by simp) rfl rfl rfl rfl (by rw [List.length_map]; omega) ?_)
   refine Za (Zb1 (Zi (Zd ?_)))
   refine Zc (Zh2 rfl rfl (by omega) ?_)
   refine Zc (Zl rfl (Za (Zi ?_)))
   exact ⟨(j + 1, now2.set a.toNat true), (by (try simp only []); omega), ⟨by omega, by rw [List.length_set]; exact hnl2, hq2⟩, ⟨rfl, rfl, rfl, rfl, rfl, rfl, rfl, trivial⟩, (Drops.keepE (congrArg (Own.cells gr 4) (bools_set2 _ _ _ _)) (Drops.keep (Drops.keep (Drops.keep (Zt2 _)))))⟩
  ·
   have hje : j = i.args.length := by omega
   subst hje
   rw [List.drop_length] at hq2
   change now2 = _ at hq2
   rw [← hq2] at hq
   refine Zt (Ze1 (Ze1 (Zc1 (Zb1 (Zi (Zd (Zc (Zl rfl ?_))))))))
   refine Zc (Zk2 rfl rfl (by omega) ?_)
   refine Zc (Zk rfl (Za (Zi ?_)))
   exact ⟨(m, now2), (by (try simp only []); omega), ⟨by omega, hnl2, hq⟩, ⟨rfl, rfl, rfl, (congrArg (fun n : Int => some (V.int n)) (by omega)), trivial⟩, (Drops.keep (Drops.keep (Drops.keep (Drops.keep (Zt2 _)))))⟩
set_option maxRecDepth 100000 in
set_option maxHeartbeats 8000000 in
theorem build_c (f : SFunc) : VCalls Try.prog 30 [funcV f] [] fun r S' => (funcF f ≠ 0 ∧ r = .tup [.raw (.pointer none), V.nilSl, .int (funcF f)] ∧ S' = []) ∨ (funcF f = 0 ∧ ∃ gl gb, r = .tup [.ptr gl 0, .sl 1 none ((liveZ f).first.map lsV), .int 0] ∧ S' = [.cells gl 81 (lifeL f.name f.blocks (manyF f) (.raw (.slice (some ⟨gb, 0, none⟩) f.blocks.length f.blocks.length))), .cells gb 79 ((liveZ f).behind.map lsV)]) := by
 refine VCalls_drops ?_
 refine V_start (nt := 77) Try.func30 rfl rfl rfl ?_
 refine Zb (Zd ?_)
 refine Zc (Zc2 rfl rfl (fun g1 => ?_))
 refine Zc (Zk rfl (Zc (Zk rfl (Zc (Zk rfl (Za (Zi (Zb (Zb (Zd (Zc (Zv 0 VT.ty24 rfl rfl rfl ?_))))))))))))
 refine Zc (Zx1 [.tmp 11] rfl rfl VT.en34 (CheckFunc_c f) ?_)
 refine Zc (Zk rfl (Za (Zi (Zb (Zd (Zc (Zl rfl (Zc (Zj1 rfl rfl rfl (Za (Zi ?_)))))))))))
 refine Zm1 rfl (fun h14 => ?_) (fun h14 => ?_)
 ·
  refine Zb (Zd (Zc (Zl rfl (Zc (Zk rfl (Zc (Zk rfl (Zc (Zk rfl (Za (Zi (Zf1 ?_))))))))))))
  refine Zd1 (Zh1 rfl rfl (.cons (.tmp rfl) (.cons (.tmp rfl) (.cons (.tmp rfl) (.nil)))) ?_)
  exact ⟨_, Drops.nil _, .inl ⟨h14, rfl, rfl⟩⟩
 ·
  have h0 : funcF f = 0 := h14
  have hok := func_ok h0
  obtain ⟨hmi, hm1, hm2, rok⟩ := many_ok hok
  have hbp := hok.pos
  have h128 := hok.len
  refine Zi1 (Zi (Zb ?_))
  refine VW_drawR (G := Nat) [([], [1], []), ([], [1], []), ([1], [17], []), ([2, 1], [18], []), ([], [1], []), ([4], [20], []), ([5, 4], [21], []), ([6, 5, 4], [22], [0]), (dn 8, [16, 19, 23], [0]), (dn 9, [24], [1]), (dn 10, [25], [1])] [7, 9] (twoSt _ (fun x => [.cells x 79 (List.replicate f.blocks.length V.nilSl), .cells g1 24 [.int f.name, blocksX f.blocks]]) (fun x y => [.cells y 81 [.int f.name, blocksX f.blocks, .int (manyF f), .raw (.slice (some ⟨x, 0, none⟩) f.blocks.length f.blocks.length)], .cells x 79 (List.replicate f.blocks.length V.nilSl), .cells g1 24 [.int f.name, blocksX f.blocks]])) [6] [6, 16, 17, 18, 19, 20, 21, 22, 23, 24, 25] rfl VT.mix ?_
  refine Zp (Zm _) (Zo rfl rfl ⟨(fun γ => Zf (fun _ h1 => Ze (Zn rfl (Zv 0 VT.ty24 h1 rfl rfl ⟨rfl, rfl⟩)))), (fun γ => Zf (fun _ h1 => Ze (Zn rfl (Zv 1 VT.ty24 h1 rfl rfl ⟨rfl, rfl⟩)))), trivial⟩) ?_
  refine Zp (Zm _) (Zo rfl rfl ⟨(fun γ => Zf (fun _ h1 => Ze (Zn rfl (Zv 0 VT.ty24 h1 rfl rfl ⟨rfl, rfl⟩)))), (fun γ => Zf (fun _ h1 => Ze (Zn rfl (Zv 1 VT.ty24 h1 rfl rfl ⟨rfl, rfl⟩)))), trivial⟩) ?_
  refine Zp (Zm _) (Zm2 rfl (fun _ => (fun γ => Zw 1 0 rfl (fun _ h17 => Ze (Zn rfl (Zx1 [.tmp 17] rfl (Zp2 h17 Zq2) VT.en48 (Fresh_c h0) ⟨rfl, rfl⟩)))))) ?_
  refine Zp (Zm _) (Zm2 rfl (fun _ => (fun γ => Zw 2 0 rfl (fun _ h18 => Ze (Zn rfl (Zu2 (Zh2 h18 rfl (by omega) ⟨rfl, rfl⟩) ((V.le.of_eq (congrArg V.int hmi) : V.le _ (.int ((manyF f) : Int)))) ⟨rfl, rfl⟩)))))) ?_
  refine Zp (Zm _) (Zo rfl rfl ⟨(fun γ => Zf (fun _ h1 => Ze (Zn rfl (Zj VT.fa24_1 h1 ⟨rfl, rfl⟩)))), trivial⟩) ?_
  refine Zp (Zm _) (Zo rfl rfl ⟨(fun γ => Zw 4 0 rfl (fun _ h20 => Ze (Zn rfl (Zu 0 VT.ty22 h20 rfl rfl ⟨rfl, rfl⟩)))), trivial⟩) ?_
  refine Zp (Zm _) (Zo rfl rfl ⟨(fun γ => Zw 5 0 rfl (fun _ h21 => Ze (Zn rfl (Zd2 (n := f.blocks.length) Try.underlying22 h21 (by simp) (fun hl22 => ⟨rfl, rfl⟩))))), trivial⟩) ?_
  refine Zp (Zw2 (fun g => .raw (.slice (some ⟨g, 0, none⟩) f.blocks.length f.blocks.length))) (Zo2 0 rfl (fun γ => Zw 6 0 rfl (fun _ h22 => Ze (Zn rfl (V_makeRow (.raw (.slice none 0 0)) (fun m => rfl) rfl VT.sl75 h22 h22 (by omega) (by omega) (fun g23 => ⟨g23, ⟨g23, rfl, rfl⟩, cons_cells (by rw [Int.toNat_natCast]; exact flat_nil _)⟩)))))) ?_
  refine Zp (Zw2 (fun g => .agg [.int f.name, blocksX f.blocks, .int (manyF f), .raw (.slice (some ⟨g, 0, none⟩) f.blocks.length f.blocks.length)])) (Zo rfl rfl ⟨(fun γ => Zw 0 7 rfl (fun _ h16 => Zw 3 4 rfl (fun _ h19 => Zw 7 0 rfl (fun _ h23 => Ze (Zx2 h23 (fun e23 => Zn rfl (Zf2 [0, 1, 2] [.tmp 16, .tmp 19, .tmp 23] VT.st81 rfl rfl (Zp2 h16 (Zp2 h19 (Zp2 e23 Zq2))) rfl ⟨⟨_, rfl, rfl⟩, rfl⟩))))))), trivial⟩) ?_
  refine Zp (Zw2 (fun g => .ptr g 0)) (Zo2 1 rfl (fun γ => Zw 8 0 rfl (fun _ h24 => Ze (Zx2 h24 (fun e24 => Zn rfl (Zc2 e24 rfl (fun g25 => ⟨g25, ⟨g25, rfl, rfl⟩, rfl⟩))))))) ?_
  refine Zp (Zw2 (fun g => .ptr g 0)) (Zo rfl rfl ⟨(fun γ => Zw 9 0 rfl (fun _ h25 => Ze (Zx2 h25 (fun e25 => Zn rfl (Zk e25 ⟨⟨_, rfl, rfl⟩, rfl⟩))))), trivial⟩) ?_
  refine DrawP_nil (fun γ => Zw 10 0 rfl (fun r6 h6 => Ze ?_))
  have e6 : r6 = some _ := Zd3 h6
  subst e6
  clear h6
  refine Zi (Zb (Zd (Zc (Zj VT.fa24_1 rfl (Zc (Zu 2 VT.ty22 rfl rfl rfl ?_))))))
  refine Zc (Zd2 (n := f.blocks.length) Try.underlying22 rfl (by simp) (fun hl28 => ?_))
  refine Zc (V_makeRow (.raw (.slice none 0 0)) (fun m => rfl) rfl VT.sl75 rfl rfl (by omega) (by omega) (fun g29 => ?_))
  refine Zc (Zk rfl (Za (Zi ?_)))
  rw [Int.toNat_natCast, flat_nil]
  refine Zb (Zb (Zd (Zc (Zk rfl (Za (Zi (Zs ?_)))))))
  refine Zi2 (ι := Nat × LState) (fun (n, s) => n) (fun (n, s) => [(1, some (.ptr g1 0)), (6, some (.ptr (γ 1) 0)), (7, some (.raw (.slice (some ⟨g29, 0, none⟩) f.blocks.length f.blocks.length))), (8, some (.bool s.again))]) (fun (n, s) => [.cells g29 79 (s.first.map lsV), .cells (γ 0) 79 (s.behind.map lsV), .cells (γ 1) 81 (lifeL f.name f.blocks (manyF f) (.raw (.slice (some ⟨(γ 0), 0, none⟩) f.blocks.length f.blocks.length))), .cells g1 24 [.int f.name, blocksX f.blocks]]) (fun (n, s) => liveIter f.blocks (manyF f) n s = liveZ f ∧ LiveOk f.blocks (manyF f) s ∧ liveW (manyF f) s + (if s.again = true then 1 else 0) ≤ n) (f.blocks.length * ((manyF f) + 1) + 2, liveStart f.blocks.length) ⟨rfl, live_start _ _, by rw [live_w]; have h9 : (liveStart f.blocks.length).again = true := rfl; rw [h9, if_pos rfl]; omega⟩ ⟨rfl, rfl, rfl, rfl, trivial⟩ (Drops.pick 0 rfl (congrArg (Own.cells _ 79) (by rw [liveStart, List.map_replicate]; rfl)) (Drops.pick 1 rfl (congrArg (Own.cells _ 79) (by rw [liveStart, List.map_replicate]; rfl)) (Drops.pick 0 rfl rfl (Drops.pick 0 rfl rfl (Drops.nil _))))) ?_
  rintro ⟨n, s⟩ hA
  obtain ⟨hq, lok, hw⟩ := hA
  try dsimp only at hq lok hw
  refine Zb (Zb (Zd (Zc (Zl rfl (Za (Zi ?_))))))
  refine Zr1 rfl (fun h30 => ?_) (fun h30 => ?_)
  ·
   obtain ⟨n', rfl, hq2, lok2, hw2⟩ := live_round lok h30 (by rw [if_pos h30] at hw; exact hw)
   refine Zi1 (Zi (Zs (Zb (Zd (Zc (Zk rfl (Za (Zi (Zb (Zd (Zc (Zj VT.fa24_1 rfl (Zc (Zu 3 VT.ty22 rfl rfl rfl ?_))))))))))))))
   refine Zc (Zd2 (n := f.blocks.length) Try.underlying22 rfl (by simp) (fun hl33 => ?_))
   refine Zc (Zu2 (Zk2 rfl rfl (by omega) ⟨rfl, rfl⟩) ((V.le.refl _ : V.le _ (.int ((f.blocks.length : Int) - 1)))) ?_)
   refine Zc (Zk rfl (Za (Zi (Zs ?_))))
   refine Zi2 (ι := Nat × LState) (fun (k, s2) => k) (fun (k, s2) => [(1, some (.ptr g1 0)), (6, some (.ptr (γ 1) 0)), (7, some (.raw (.slice (some ⟨g29, 0, none⟩) f.blocks.length f.blocks.length))), (8, some (.bool s2.again)), (9, some (.int ((k : Int) - 1)))]) (fun (k, s2) => [.cells g29 79 (s2.first.map lsV), .cells (γ 0) 79 (s2.behind.map lsV), .cells (γ 1) 81 (lifeL f.name f.blocks (manyF f) (.raw (.slice (some ⟨(γ 0), 0, none⟩) f.blocks.length f.blocks.length))), .cells g1 24 [.int f.name, blocksX f.blocks]]) (fun (k, s2) => k ≤ f.blocks.length ∧ livePass f.blocks (manyF f) k s2 = livePass f.blocks (manyF f) f.blocks.length { s with again := false } ∧ LiveOk f.blocks (manyF f) s2) (f.blocks.length, { s with again := false }) ⟨Nat.le_refl _, rfl, ⟨lok.blen, lok.flen, lok.emp, lok.full, lok.live⟩⟩ ⟨rfl, rfl, rfl, rfl, rfl, trivial⟩ (Drops.keep (Drops.keep (Drops.keep (Drops.keep (Zt2 _))))) ?_
   rintro ⟨k, s2⟩ hB
   obtain ⟨hkb, hp, lk⟩ := hB
   try dsimp only at hkb hp lk
   refine Zb (Zb (Zd (Zc (Zl rfl (Zc (Zj1 rfl rfl rfl (Za (Zi ?_))))))))
   refine Zn1 rfl (fun h36 => ?_) (fun h36 => ?_)
   ·
    obtain ⟨k, rfl⟩ : ∃ m, k = m + 1 := ⟨k - 1, by omega⟩
    have hke : ((k + 1 : Nat) : Int) - 1 = (k : Int) := by omega
    obtain ⟨b, hb⟩ := get_of_lt f.blocks k (by omega)
    have hbl := lk.blen
    have hfl := lk.flen
    obtain ⟨o, ho⟩ := get_of_lt s2.behind k (by omega)
    have hnode := node_eq (many := (manyF f)) hb ho
    have lk2 := (live_node lk (k := k) (by omega)).1
    obtain ⟨hbe, hfe⟩ := live_lens lk
    rw [livePass] at hp
    generalize hnx : lastF f.blocks (manyF f) b.term s2.first = nx at hnode
    have hnl : nx.length = (manyF f) := by rw [← hnx, last_len]
    refine Zi1 (Zi (Zb (Zs (Zb (Zd (Zc (Zl rfl ?_)))))))
    refine Zc (Zu2 (Zl rfl ⟨rfl, rfl⟩) ((V.le.of_eq (congrArg V.int hke) : V.le _ (.int (k : Int)))) ?_)
    refine Zc (Zl rfl ?_)
    refine Zc (Zu2 (Zl3 [.tmp 39, .tmp 40, .tmp 41] [_, _] _ rfl rfl VT.en49 ((Zv2 (i := 2) rfl).trans (.cons _ (.refl _))) (last_c rok hb lk.flen hfe hm2 _ _ _ _) ⟨rfl, rfl⟩) ((V.le.of_eq (congrArg boolsX hnx) : V.le _ (boolsX nx))) ?_)
    refine Zc (Zk rfl (Za (Zi (Zb (Zb (Zd ?_))))))
    rcases o with _ | old
    ·
     refine Zc (Zl rfl (Zc (Zv1 rfl (Zc (Zj VT.fa81_2 rfl (Zc (Zu 2 VT.ty75 rfl rfl rfl ?_)))))))
     refine Zc (Zu2 (Zl rfl ⟨rfl, rfl⟩) ((V.le.of_eq (congrArg V.int hke) : V.le _ (.int (k : Int)))) ?_)
     refine Zc (Zr2 VT.sl75 rfl rfl (by omega) (by omega) ?_)
     refine Zc (Zf3 1 k VT.ty79 rfl (by simp) rfl (List.append_nil _).symm (get_mapS lsV ho) ?_)
     refine Zc (V_neNilF Try.underlying79 rfl ?_)
     refine Zc (Zl rfl ?_)
     refine Zk1 rfl ?_
     refine Zk1 rfl ?_
     refine Zk1 rfl ?_
     refine Zk1 rfl ?_
     refine Zk1 rfl ?_
     refine Zk1 rfl ?_
     refine Zk1 rfl ?_
     refine Zk1 rfl ?_
     refine Zk1 rfl ?_
     refine Zc (Zt1 rfl rfl rfl (Za (Zi ?_)))
     refine Zq1 rfl rfl ?_
     rw [if_neg (by simp)] at hnode
     rw [hnode] at hp lk2
     have hp2 := hp
     refine Zi1 (Zi (Zb (Zd (Zc (Zl rfl (Zc (Zv1 rfl (Zc (Zj VT.fa81_2 rfl (Zc (Zu 2 VT.ty75 rfl rfl rfl ?_)))))))))))
     refine Zc (Zu2 (Zl rfl ⟨rfl, rfl⟩) ((V.le.of_eq (congrArg V.int hke) : V.le _ (.int (k : Int)))) ?_)
     refine Zc (Zl rfl ?_)
     refine Zc (Zr2 VT.sl75 rfl rfl (by omega) (by omega) ?_)
     refine Zc (Zh3 1 k VT.ty79 rfl (by simp) rfl rfl rfl (List.append_nil _).symm (by rw [List.length_map]; omega) ?_)
     refine Zc (Zk rfl (Za (Zi ?_)))
     rw [sets_set]
     refine Zd (Zc (Zl rfl ?_))
     refine Zc (Zu2 (Zl rfl ⟨rfl, rfl⟩) ((V.le.of_eq (congrArg V.int hke) : V.le _ (.int (k : Int)))) ?_)
     refine Zc (Zl rfl ?_)
     refine Zc (Zu2 (Zl rfl ⟨rfl, rfl⟩) ((V.le.of_eq (congrArg V.int hke) : V.le _ (.int (k : Int)))) ?_)
     refine Zc (Zl3 [.tmp 71, .tmp 72, .const _] [_, _] _ rfl rfl VT.en51 ((Zv2 (i := 2) rfl).trans (.cons _ ((Zv2 (i := 1) rfl).trans (.cons _ (.refl _))))) (back0_c rok hb (by rw [List.length_set]; exact hbl) (by rw [List.getElem?_set_self (by omega)]) hnl hm1 hm2 _ _ _) ?_)
     refine Zc (Zr2 VT.sl75 rfl rfl (by omega) (by omega) ?_)
     refine Zc (Zh3 0 k VT.ty79 rfl (by simp) rfl rfl rfl (List.append_nil _).symm (by rw [List.length_map]; omega) ?_)
     refine Za (Zb1 (Zi ?_))
     rw [sets_set]
     refine Zd (Zc (Zl rfl ?_))
     refine Zc (Zk2 rfl rfl (by omega) ?_)
     refine Zc (Zk rfl (Za (Zi ?_)))
     exact ⟨(k, ⟨s2.behind.set k (some nx), s2.first.set k (some (backF b nx)), true⟩), (by (try simp only []); omega), ⟨by omega, hp2, lk2⟩, ⟨rfl, rfl, rfl, rfl, (congrArg (fun n : Int => some (V.int n)) (by omega)), trivial⟩, (Drops.keep (Drops.keep (Drops.keep (Drops.keep (Zt2 _)))))⟩
    ·
     refine Zc (Zl rfl (Zc (Zv1 rfl (Zc (Zj VT.fa81_2 rfl (Zc (Zu 2 VT.ty75 rfl rfl rfl ?_)))))))
     refine Zc (Zu2 (Zl rfl ⟨rfl, rfl⟩) ((V.le.of_eq (congrArg V.int hke) : V.le _ (.int (k : Int)))) ?_)
     refine Zc (Zr2 VT.sl75 rfl rfl (by omega) (by omega) ?_)
     refine Zc (Zf3 1 k VT.ty79 rfl (by simp) rfl (List.append_nil _).symm (get_mapS lsV ho) ?_)
     refine Zc (V_neNilT Try.underlying79 rfl (by have h9 := hbe k old ho; intro e; rw [List.map_eq_nil_iff] at e; rw [e, List.length_nil] at h9; omega) ?_)
     refine Zc (Zl rfl ?_)
     refine Zc (Zl rfl ?_) (Zy1 rfl)
     refine Zc (Zl rfl ?_) (Zy1 rfl)
     refine Zc (Zv1 rfl ?_) (Zy1 rfl)
     refine Zc (Zj VT.fa81_2 rfl ?_) (Zy1 rfl)
     refine Zc (Zu 2 VT.ty75 rfl rfl rfl ?_) (Zy1 rfl)
     refine Zc (Zu2 (Zl rfl ⟨rfl, rfl⟩) ((V.le.of_eq (congrArg V.int hke) : V.le _ (.int (k : Int)))) ?_) (Zy1 rfl)
     refine Zc (Zr2 VT.sl75 rfl rfl (by omega) (by omega) ?_) (Zy1 rfl)
     refine Zc (Zf3 1 k VT.ty79 rfl (by simp) rfl (List.append_nil _).symm (get_mapS lsV ho) ?_) (Zy1 rfl)
     refine Zc (Zx1 [.tmp 52, .tmp 59] rfl rfl VT.en50 (boolEq_c nx old none none) ?_) (Zy1 rfl)
     refine Zc (Zs1 rfl rfl rfl (Za (Zi ?_)))
     refine Zr1 rfl (fun h61 => ?_) (fun h61 => ?_)
     ·
      have hno : nx = old := of_decide_eq_true h61
      subst hno
      rw [if_pos rfl] at hnode
      rw [hnode] at hp lk2
      have hp2 := hp
      refine Zt (Ze1 (Zc1 (Zi (Zd (Zc (Zl rfl ?_))))))
      refine Zc (Zk2 rfl rfl (by omega) ?_)
      refine Zc (Zk rfl (Za (Zi ?_)))
      exact ⟨(k, s2), (by (try simp only []); omega), ⟨by omega, hp2, lk2⟩, ⟨rfl, rfl, rfl, rfl, (congrArg (fun n : Int => some (V.int n)) (by omega)), trivial⟩, (Drops.keep (Drops.keep (Drops.keep (Drops.keep (Zt2 _)))))⟩
     ·
      have hno : nx ≠ old := of_decide_eq_false h61
      rw [if_neg (fun e => hno (Option.some.inj e).symm)] at hnode
      rw [hnode] at hp lk2
      have hp2 := hp
      refine Zi1 (Zi (Zb (Zd (Zc (Zl rfl (Zc (Zv1 rfl (Zc (Zj VT.fa81_2 rfl (Zc (Zu 2 VT.ty75 rfl rfl rfl ?_)))))))))))
      refine Zc (Zu2 (Zl rfl ⟨rfl, rfl⟩) ((V.le.of_eq (congrArg V.int hke) : V.le _ (.int (k : Int)))) ?_)
      refine Zc (Zl rfl ?_)
      refine Zc (Zr2 VT.sl75 rfl rfl (by omega) (by omega) ?_)
      refine Zc (Zh3 1 k VT.ty79 rfl (by simp) rfl rfl rfl (List.append_nil _).symm (by rw [List.length_map]; omega) ?_)
      refine Zc (Zk rfl (Za (Zi ?_)))
      rw [sets_set]
      refine Zd (Zc (Zl rfl ?_))
      refine Zc (Zu2 (Zl rfl ⟨rfl, rfl⟩) ((V.le.of_eq (congrArg V.int hke) : V.le _ (.int (k : Int)))) ?_)
      refine Zc (Zl rfl ?_)
      refine Zc (Zu2 (Zl rfl ⟨rfl, rfl⟩) ((V.le.of_eq (congrArg V.int hke) : V.le _ (.int (k : Int)))) ?_)
      refine Zc (Zl3 [.tmp 71, .tmp 72, .const _] [_, _] _ rfl rfl VT.en51 ((Zv2 (i := 2) rfl).trans (.cons _ ((Zv2 (i := 1) rfl).trans (.cons _ (.refl _))))) (back0_c rok hb (by rw [List.length_set]; exact hbl) (by rw [List.getElem?_set_self (by omega)]) hnl hm1 hm2 _ _ _) ?_)
      refine Zc (Zr2 VT.sl75 rfl rfl (by omega) (by omega) ?_)
      refine Zc (Zh3 0 k VT.ty79 rfl (by simp) rfl rfl rfl (List.append_nil _).symm (by rw [List.length_map]; omega) ?_)
      refine Za (Zb1 (Zi ?_))
      rw [sets_set]
      refine Zd (Zc (Zl rfl ?_))
      refine Zc (Zk2 rfl rfl (by omega) ?_)
      refine Zc (Zk rfl (Za (Zi ?_)))
      exact ⟨(k, ⟨s2.behind.set k (some nx), s2.first.set k (some (backF b nx)), true⟩), (by (try simp only []); omega), ⟨by omega, hp2, lk2⟩, ⟨rfl, rfl, rfl, rfl, (congrArg (fun n : Int => some (V.int n)) (by omega)), trivial⟩, (Drops.keep (Drops.keep (Drops.keep (Drops.keep (Zt2 _)))))⟩
   ·
    have hk0 : k = 0 := by omega
    subst hk0
    rw [livePass] at hp
    subst hp
    refine Zt (Ze1 (Ze1 (Zc1 (Zb1 (Zi ?_)))))
    exact ⟨(n', livePass f.blocks (manyF f) f.blocks.length { s with again := false }), (by (try simp only []); omega), ⟨hq2.symm.trans hq, lok2, hw2⟩, ⟨rfl, rfl, rfl, rfl, trivial⟩, (Drops.keep (Drops.keep (Drops.keep (Drops.keep (Zt2 _)))))⟩
  ·
   rw [live_stop h30] at hq
   refine Zt (Ze1 (Ze1 (Zc1 (Zi ?_))))
   rw [hq]
   refine VW_freeze 0 (q := 7) (rest := []) ((liveZ f).first.map lsV) rfl rfl (by rw [flat_sets, List.append_nil]) (by rw [List.length_map]; rw [← hq]; exact lok.flen) (Nat.le_refl _) (by simp only [maxLen]; omega) (fits_setsR _) ?_
   refine Zb (Zd (Zc (Zl rfl (Zc (Zl rfl (Zc (Zk rfl (Zc (Zk rfl (Zc (Zk rfl (Za (Zi (Zf1 ?_))))))))))))))
   refine Zh1 rfl rfl (.cons (.tmp rfl) (.cons (.tmp rfl) (.cons (.tmp rfl) (.nil)))) ?_
   exact ⟨_, (Drops.pick 1 rfl rfl (Drops.pick 0 rfl rfl (Drops.nil _))), .inr ⟨h0, _, _, rfl, rfl⟩⟩
theorem build_e {f : SFunc} (h : funcF f ≠ 0) : VPure Try.prog 30 [funcV f] (.tup [.raw (.pointer none), V.nilSl, .int (funcF f)]) :=
  (build_c f).mono fun r S' hr => by
    rcases hr with ⟨_, rfl, _⟩ | ⟨h0, _⟩
    · rfl
    · exact absurd h0 h
theorem build_o {f : SFunc} (h : funcF f = 0) : VCalls Try.prog 30 [funcV f] [] fun r S' => ∃ gl gb, r = .tup [.ptr gl 0, .sl 1 none ((liveZ f).first.map lsV), .int 0] ∧ S' = [.cells gl 81 (lifeL f.name f.blocks (manyF f) (.raw (.slice (some ⟨gb, 0, none⟩) f.blocks.length f.blocks.length))), .cells gb 79 ((liveZ f).behind.map lsV)] :=
  (build_c f).mono fun r S' hr => by
    rcases hr with ⟨h0, _⟩ | ⟨_, hr⟩
    · exact absurd h h0
    · exact hr
set_option maxRecDepth 100000 in
set_option maxHeartbeats 8000000 in
theorem Live_c (f : SFunc) : VPure Try.prog 16 [funcV f] (liveX f) := by
 have hr := liveX.eq_def f
 refine V_start (nt := 48) Try.func16 rfl rfl rfl ?_
 refine Zb (Zd ?_)
 refine Zc (Zc2 rfl rfl (fun g1 => ?_))
 refine Zc (Zk rfl (Zc (Zk rfl (Zc (Zk rfl (Za (Zi (Zb (Zd (Zc (Zv 0 VT.ty24 rfl rfl rfl ?_)))))))))))
 by_cases h0 : funcF f = 0
 ·
  rw [if_pos h0] at hr
  obtain ⟨hfl, hbl, h128, hfs, hbs⟩ := live_len h0
  refine Zc (Zm3 [.tmp 12] [] _ rfl rfl VT.en30 (.refl _) (build_o h0) ?_)
  rintro r Sa ⟨gl, gb, rfl, rfl⟩
  refine Zc (Zl rfl (Zc (Zg2 rfl rfl (Zc (Zg2 rfl rfl (Zc (Zg2 rfl rfl (Zc (Zk rfl (Zc (Zk rfl (Zc (Zk rfl (Za (Zi (Zb (Zb (Zd (Zc (Zl rfl ?_))))))))))))))))))))
  refine Zc (Zj1 rfl rfl rfl (Za (Zi ?_)))
  refine Zm1 rfl (fun h18 => ?_) (fun h18 => ?_)
  · exact absurd rfl h18
  ·
   refine Zi1 (Zi (Zb (Zd (Zc (V_assign_nil 36 1 (Zc (V_assign_nil 36 1 (Za (Zi (Zb (Zb (Zd (Zc (Zj VT.fa24_1 rfl (Zc (Zu 4 VT.ty22 rfl rfl rfl ?_))))))))))))))))
   refine Zc (Zd2 (n := f.blocks.length) Try.underlying22 rfl (by simp) (fun hl22 => ?_))
   refine Zc (Zl rfl (Za (Zi (Zs ?_))))
   refine Zi2 (ι := Nat × Tok × Tok) (fun (k, ta, tb) => f.blocks.length - k) (fun (k, ta, tb) => [(1, some (.ptr g1 0)), (5, some (.ptr gl 0)), (6, some (.sl 1 none ((liveZ f).first.map lsV))), (8, some (.sl 1 (some ta) (((liveZ f).first.take k).map lstV))), (9, some (.sl 1 (some tb) (((liveZ f).behind.take k).map lstV))), (22, some (.int f.blocks.length)), (23, some (.int k))]) (fun (k, ta, tb) => [.buf tb 36 1 (((liveZ f).behind.take k).map lstV).length, .buf ta 36 1 (((liveZ f).first.take k).map lstV).length, .cells gl 81 (lifeL f.name f.blocks (manyF f) (.raw (.slice (some ⟨gb, 0, none⟩) f.blocks.length f.blocks.length))), .cells gb 79 ((liveZ f).behind.map lsV), .cells g1 24 [.int f.name, blocksX f.blocks]]) (fun (k, ta, tb) => k ≤ f.blocks.length) (0, .nil, .nil) (Nat.zero_le _) ⟨rfl, rfl, rfl, rfl, rfl, rfl, rfl, trivial⟩ (Drops.buf rfl (Drops.buf rfl (Drops.keep (Drops.keep (Drops.keep (Zt2 _)))))) ?_
   rintro ⟨k, ta, tb⟩ hk
   change k ≤ f.blocks.length at hk
   refine Zb (Zd (Zc (Zj1 rfl rfl rfl (Za (Zi (Zb ?_))))))
   refine Zn1 rfl (fun h24 => ?_) (fun h24 => ?_)
   ·
    obtain ⟨o, ho⟩ := get_of_lt (liveZ f).first k (by omega)
    obtain ⟨p, hp⟩ := get_of_lt (liveZ f).behind k (by omega)
    have hos := hfs o (List.mem_of_getElem? ho)
    have hps := hbs p (List.mem_of_getElem? hp)
    have htl : ((liveZ f).first.take k).length ≤ 1000 := by rw [List.length_take]; omega
    have htl2 : ((liveZ f).behind.take k).length ≤ 1000 := by rw [List.length_take]; omega
    refine Zi1 (Zi (Zb (Zs (Zb (Zd (Zc (Zl rfl (Zc (Zk rfl (Za (Zi ?_)))))))))))
    refine VW_drawMod (G := Tok) [([], [8], []), ([], [6], []), ([], [10], []), ([2, 1], [27, 28], []), ([3, 2, 1], [29], []), ([4, 3, 2, 1], [30], []), ([5, 4, 3, 2, 1], [31], []), (dn 7, [26, 32], [0]), ([], [9], []), ([], [5], []), ([9], [35], []), ([10, 9], [36], []), ([11, 10, 9], [37], []), ([], [10], []), ([13, 12, 11, 10, 9], [38, 39], []), ([14, 13, 12, 11, 10, 9], [40], []), ([15, 14, 13, 12, 11, 10, 9, 7, 6, 5, 4, 3, 2, 1, 0], [41], []), ([16, 15, 14, 13, 12, 11, 10, 9, 7, 6, 5, 4, 3, 2, 1, 0], [42], []), (dn 18, [34, 43], [1]), (dn 19, [33], [0]), (dn 20, [44], [1])] [7, 18] [(1, .buf tb 36 1 (((liveZ f).behind.take k).map lstV).length, fun x => .buf x 36 1 (((liveZ f).behind.take k).map lstV ++ [lstV p]).length), (0, .buf ta 36 1 (((liveZ f).first.take k).map lstV).length, fun x => .buf x 36 1 (((liveZ f).first.take k).map lstV ++ [lstV o]).length)] ([.cells gl 81 (lifeL f.name f.blocks (manyF f) (.raw (.slice (some ⟨gb, 0, none⟩) f.blocks.length f.blocks.length))), .cells gb 79 ((liveZ f).behind.map lsV), .cells g1 24 [.int f.name, blocksX f.blocks]]) [8, 9] [8, 9, 26, 27, 28, 29, 30, 31, 32, 33, 34, 35, 36, 37, 38, 39, 40, 41, 42, 43, 44] rfl VT.mix ?_
    refine ZpM (Zm _) (goodAM (by kernel_rfl) (fun _ => (fun γ => Zf (fun _ h8 => Ze (Zn rfl (Zl h8 ⟨rfl, rfl⟩)))))) ?_
    refine ZpM (Zm _) (goodAM (by kernel_rfl) (fun _ => (fun γ => Zf (fun _ h6 => Ze (Zn rfl (Zl h6 ⟨rfl, rfl⟩)))))) ?_
    refine ZpM (Zm _) (goodAM (by kernel_rfl) (fun _ => (fun γ => Zf (fun _ h10 => Ze (Zn rfl (Zl h10 ⟨rfl, rfl⟩)))))) ?_
    refine ZpM (Zb3 _) (goodAM (by kernel_rfl) (fun _ => (fun γ => Zw 1 1 rfl (fun _ h27 => Zw 2 0 rfl (fun _ h28 => Ze (Zn rfl (Zz (el := lsV o) VT.sl75 h27 h28 (by omega) (get_mapS lsV ho) (fun a29 => ⟨⟨_, rfl⟩, rfl⟩)))))))) ?_
    refine ZpM (Zm _) (goodAM (by kernel_rfl) (fun _ => (fun γ => Zw 3 0 rfl (fun _ h29 => Ze (Zc3 h29 (fun a_29 e29 => Zn rfl (Zu2 (Zz1 VT.ty79 e29 (lsV_leaf o) ⟨rfl, rfl⟩) ((lsV_le o : V.le _ (boolsX (o.getD [])))) ⟨rfl, rfl⟩))))))) ?_
    refine ZpM (Zm _) (goodAM (by kernel_rfl) (fun _ => (fun γ => Zw 4 0 rfl (fun _ h30 => Ze (Zn rfl (Zx1 [.tmp 30] rfl (Zp2 h30 Zq2) VT.en31 (list_c (o.getD []) hos) ⟨rfl, rfl⟩)))))) ?_
    refine ZpM (Zm _) (goodSM (l := [[]]) (by kernel_rfl) (by kernel_rfl) ⟨(fun γ => Zw 5 0 rfl (fun _ h31 => Ze (Zn rfl (Zk3 [.tmp 31] VT.sl48 rfl rfl rfl (Zp2 h31 Zq2) rfl ⟨rfl, rfl⟩)))), trivial⟩) ?_
    refine ZpM (Zw2 (fun x => .sl 1 (some x) (((liveZ f).first.take k).map lstV ++ [lstV o]))) (goodMod (q := 0) (l := [[]]) (by kernel_rfl) (by kernel_rfl) ⟨(fun γ => Zw 0 6 rfl (fun _ h26 => Zw 6 0 rfl (fun _ h32 => Ze (Zn rfl (Zi3 1 _ VT.sl48 h26 h32 rfl rfl (by simp; omega) (fun t33 => ⟨t33, ⟨t33, rfl, rfl⟩, rfl⟩)))))), trivial⟩) ?_
    refine ZpM (Zm _) (goodAM (by kernel_rfl) (fun _ => (fun γ => Zf (fun _ h9 => Ze (Zn rfl (Zl h9 ⟨rfl, rfl⟩)))))) ?_
    refine ZpM (Zm _) (goodAM (by kernel_rfl) (fun _ => (fun γ => Zf (fun _ h5 => Ze (Zn rfl (Zl h5 ⟨rfl, rfl⟩)))))) ?_
    refine ZpM (Zm _) (goodAM (by kernel_rfl) (fun _ => (fun γ => Zw 9 0 rfl (fun _ h35 => Ze (Zn rfl (Zv1 h35 ⟨rfl, rfl⟩)))))) ?_
    refine ZpM (Zm _) (goodAM (by kernel_rfl) (fun _ => (fun γ => Zw 10 0 rfl (fun _ h36 => Ze (Zn rfl (Zj VT.fa81_2 h36 ⟨rfl, rfl⟩)))))) ?_
    refine ZpM (Zm _) (goodSM (l := [[], [0]]) (by kernel_rfl) (by kernel_rfl) ⟨(fun γ => Zw 11 0 rfl (fun _ h37 => Ze (Zn rfl (Zu 2 VT.ty75 h37 rfl rfl ⟨rfl, rfl⟩)))), (fun γ => Zw 11 0 rfl (fun _ h37 => Ze (Zn rfl (Zu 2 VT.ty75 h37 rfl rfl ⟨rfl, rfl⟩)))), trivial⟩) ?_
    refine ZpM (Zm _) (goodAM (by kernel_rfl) (fun _ => (fun γ => Zf (fun _ h10 => Ze (Zn rfl (Zl h10 ⟨rfl, rfl⟩)))))) ?_
    refine ZpM (Zm _) (goodAM (by kernel_rfl) (fun _ => (fun γ => Zw 12 1 rfl (fun _ h38 => Zw 13 0 rfl (fun _ h39 => Ze (Zn rfl (Zr2 VT.sl75 h38 h39 (by omega) (by omega) ⟨rfl, rfl⟩))))))) ?_
    refine ZpM (Zm _) (goodSM (l := [[], [0]]) (by kernel_rfl) (by kernel_rfl) ⟨(fun γ => Zw 14 0 rfl (fun _ h40 => Ze (Zn rfl (Zu2 (Zf3 3 k VT.ty79 h40 (by simp) rfl (List.append_nil _).symm (get_mapS lsV hp) ⟨rfl, rfl⟩) ((lsV_le p : V.le _ (boolsX (p.getD [])))) ⟨rfl, rfl⟩)))), (fun γ => Zw 14 0 rfl (fun _ h40 => Ze (Zn rfl (Zu2 (Zf3 3 k VT.ty79 h40 (by simp) rfl (List.append_nil _).symm (get_mapS lsV hp) ⟨rfl, rfl⟩) ((lsV_le p : V.le _ (boolsX (p.getD [])))) ⟨rfl, rfl⟩)))), trivial⟩) ?_
    refine ZpM (Zm _) (goodAM (by kernel_rfl) (fun _ => (fun γ => Zw 15 0 rfl (fun _ h41 => Ze (Zn rfl (Zx1 [.tmp 41] rfl (Zp2 h41 Zq2) VT.en31 (list_c (p.getD []) hps) ⟨rfl, rfl⟩)))))) ?_
    refine ZpM (Zm _) (goodSM (l := [[0]]) (by kernel_rfl) (by kernel_rfl) ⟨(fun γ => Zw 16 0 rfl (fun _ h42 => Ze (Zn rfl (Zk3 [.tmp 42] VT.sl48 rfl rfl rfl (Zp2 h42 Zq2) rfl ⟨rfl, rfl⟩)))), trivial⟩) ?_
    refine ZpM (Zw2 (fun x => .sl 1 (some x) (((liveZ f).behind.take k).map lstV ++ [lstV p]))) (goodMod (q := 1) (l := [[0]]) (by kernel_rfl) (by kernel_rfl) ⟨(fun γ => Zw 8 9 rfl (fun _ h34 => Zw 17 0 rfl (fun _ h43 => Ze (Zn rfl (Zi3 0 _ VT.sl48 h34 h43 rfl rfl (by simp; omega) (fun t44 => ⟨t44, ⟨t44, rfl, rfl⟩, rfl⟩)))))), trivial⟩) ?_
    refine ZpM (Zw2 (fun x => .sl 1 (some x) (((liveZ f).first.take k).map lstV ++ [lstV o]))) (goodAM (by kernel_rfl) (fun _ => (fun γ => Zw 7 11 rfl (fun _ h33 => Ze (Zx2 h33 (fun e33 => Zn rfl (Zk e33 ⟨⟨_, rfl, rfl⟩, rfl⟩))))))) ?_
    refine ZpM (Zw2 (fun x => .sl 1 (some x) (((liveZ f).behind.take k).map lstV ++ [lstV p]))) (goodAM (by kernel_rfl) (fun _ => (fun γ => Zw 18 1 rfl (fun _ h44 => Ze (Zx2 h44 (fun e44 => Zn rfl (Zk e44 ⟨⟨_, rfl, rfl⟩, rfl⟩))))))) ?_
    refine DrawM_nil (fun δ => Zw 19 1 rfl (fun r8 h8 => Zw 20 0 rfl (fun r9 h9 => Ze ?_)))
    have e8 : r8 = some _ := Zd3 h8
    subst e8
    clear h8
    have e9 : r9 = some _ := Zd3 h9
    subst e9
    clear h9
    refine Zb1 (Zi (Zd ?_))
    refine Zc (Zh2 rfl rfl (by omega) ?_)
    refine Zc (Zl rfl (Za (Zi ?_)))
    exact ⟨(k + 1, δ 0, δ 1), (by (try simp only []); omega), (by omega), ⟨rfl, rfl, rfl, (by rw [take_snoc ho, List.map_append]; rfl), (by rw [take_snoc hp, List.map_append]; rfl), rfl, rfl, trivial⟩, (Drops.buf (by rw [take_snoc hp, List.map_append]; rfl) (Drops.buf (by rw [take_snoc ho, List.map_append]; rfl) (Drops.keep (Drops.keep (Drops.keep (Zt2 _))))))⟩
   ·
    have hke : k = f.blocks.length := by omega
    refine Zt (Ze1 (Ze1 (Zc1 (Zi (Zb (Zd ?_))))))
    refine Zc (Zu2 (Zl rfl ⟨rfl, rfl⟩) ((V.le.strip : V.le (.sl 1 (some _) _) (.sl 1 none _))) ?_)
    refine Zc (Zu2 (Zl rfl ⟨rfl, rfl⟩) ((V.le.strip : V.le (.sl 1 (some _) _) (.sl 1 none _))) ?_)
    refine Zc (Zk rfl (Zc (Zk rfl (Zc (Zk rfl (Za (Zi (Zf1 ?_))))))))
    refine Zh1 rfl rfl (.cons (.tmp rfl) (.cons (.tmp rfl) (.cons (.tmp rfl) (.nil)))) ?_
    rw [hr, hke]
    rw [List.take_of_length_le (Nat.le_of_eq hfl), List.take_of_length_le (Nat.le_of_eq hbl)]
 ·
  rw [if_neg h0] at hr
  refine Zc (Zx1 [.tmp 12] rfl rfl VT.en30 (build_e h0) ?_)
  refine Zc (Zl rfl (Zc (Zg2 rfl rfl (Zc (Zg2 rfl rfl (Zc (Zg2 rfl rfl (Zc (Zk rfl (Zc (Zk rfl (Zc (Zk rfl (Za (Zi (Zb (Zb (Zd (Zc (Zl rfl ?_))))))))))))))))))))
  refine Zc (Zj1 rfl rfl rfl (Za (Zi ?_)))
  refine Zm1 rfl (fun h18 => ?_) (fun h18 => ?_)
  ·
   refine Zb (Zd (Zc (Zl rfl ?_)))
   refine Zc (Zu2 (Zk rfl ⟨rfl, rfl⟩) ((V.le.nil 1)) ?_)
   refine Zc (Zu2 (Zk rfl ⟨rfl, rfl⟩) ((V.le.nil 1)) ?_)
   refine Zc (Zk rfl (Za (Zi (Zf1 ?_))))
   refine Zd1 (Zh1 rfl rfl (.cons (.tmp rfl) (.cons (.tmp rfl) (.cons (.tmp rfl) (.nil)))) ?_)
   rw [hr]
  · exact absurd h18 h0
end Go.Proofs.Ytimmnbdajflgmaa.X16
