import Derived.Test.YtigkaadmobgfnaaVT
import Derived.Test.YtigkaadmobgfnaaS2
import Derived.Test.YtigkaadmobgfnaaVM
import Derived.Test.YtigkaadmobgfnaaDZ
import Derived.Test.YtigkaadmobgfnaaX1
import Derived.Test.YtigkaadmobgfnaaX2
import Derived.Test.YtigkaadmobgfnaaX3
import Derived.Test.YtigkaadmobgfnaaX4
import Derived.Test.YtigkaadmobgfnaaX5
import Derived.Test.YtigkaadmobgfnaaX6
import Derived.Test.YtigkaadmobgfnaaX7
import Derived.Test.YtigkaadmobgfnaaX8
import Derived.Test.YtigkaadmobgfnaaX9
import Derived.Test.YtigkaadmobgfnaaX10
import Derived.Test.YtigkaadmobgfnaaX12
import Derived.Test.YtigkaadmobgfnaaX25
import Derived.Test.YtigkaadmobgfnaaX26
open List renaming append_assoc → Ya, length_append → Yb, length_map → Yc, getElem?_eq_some_iff → Yd, getElem?_drop → Ye, mem_of_getElem? → Yf, drop_length → Yg, getElem?_zip_eq_some → Yh
set_option linter.unusedVariables false
set_option linter.unusedSimpArgs false
namespace Go.Proofs.Ytigkaadmobgfnaa.X30
open Go.VL Go.SM Go.Proofs.Ytigkaadmobgfnaa Go.Proofs.Ytigkaadmobgfnaa.X1 Go.Proofs.Ytigkaadmobgfnaa.X2 Go.Proofs.Ytigkaadmobgfnaa.X3 Go.Proofs.Ytigkaadmobgfnaa.X4 Go.Proofs.Ytigkaadmobgfnaa.X5 Go.Proofs.Ytigkaadmobgfnaa.X6 Go.Proofs.Ytigkaadmobgfnaa.X7 Go.Proofs.Ytigkaadmobgfnaa.X8 Go.Proofs.Ytigkaadmobgfnaa.X9 Go.Proofs.Ytigkaadmobgfnaa.X10 Go.Proofs.Ytigkaadmobgfnaa.X12 Go.Proofs.Ytigkaadmobgfnaa.X25 Go.Proofs.Ytigkaadmobgfnaa.X26
def jV (x : Nat × SEdge) : V := blockV (jumpB x.2)
theorem cat_7 {bs : List SBlock} {rows : List (Option XRow)} {X : Cut} {xs : List V} (h : xs = cpL bs rows ++ X.map jV) : ∀ x ∈ xs, x.leaves.length = 7 := fun x hx => by
  rw [h] at hx
  rcases List.mem_append.1 hx with hx | hx
  · exact cpL_7 rfl x hx
  · obtain ⟨y, _, rfl⟩ := List.mem_map.1 hx
    rfl
theorem cat_get {bs : List SBlock} {rows : List (Option XRow)} {X : Cut} {xs : List V} {k : Nat} {b : SBlock} {o o2 : Option XRow} (h : xs = cpL bs rows ++ X.map jV) (hb : bs[k]? = some b) (ho : rows[k]? = some o) (hl : xLeaf o2 = xLeaf o) : xs[k]? = some (cpV b o2) := by
  have h1 := cpL_get hb ho
  rw [h, List.getElem?_append_left (Yd.1 h1).1, h1, cp_leaf hl]
theorem blk_leaf {xs : List V} {k : Nat} {b : SBlock} {o : Option XRow} (rest : List V) (h7 : ∀ x ∈ xs, x.leaves.length = 7) (h : xs[k]? = some (cpV b o)) : (xs.flatMap V.leaves ++ rest)[k * 7 + 2 + 4]? = some (xLeaf o) := by
  have h1 := flat_drop (rest := rest) h7 h
  have h2 : (((xs.flatMap V.leaves ++ rest).drop (k * 7)).take 7)[6]? = some (xLeaf o) := by rw [h1]; rfl
  rw [List.getElem?_take_of_lt (by omega), Ye] at h2
  exact h2
theorem mid_eq {dn to : List SEdge} {i : Nat} {e : SEdge} (he : to[i]? = some e) : dn ++ to.drop i = (dn ++ [e]) ++ to.drop (i + 1) := by
  rw [drop_cons he, Ya]
  rfl
theorem mid_get {dn to : List SEdge} {i : Nat} {e : SEdge} (hd : dn.length = i) (he : to[i]? = some e) : (dn ++ to.drop i)[i]? = some e := by
  rw [List.getElem?_append_right (by omega), hd, Nat.sub_self, Ye, Nat.add_zero]
  exact he
theorem mid_set {dn to : List SEdge} {i : Nat} {e x : SEdge} (hd : dn.length = i) (he : to[i]? = some e) : ((dn ++ to.drop i).map edgeV).set i (edgeV x) = ((dn ++ [x]) ++ to.drop (i + 1)).map edgeV := by
  rw [← List.map_set, List.set_append_right _ _ (by omega), hd, Nat.sub_self, drop_cons he, List.set_cons_zero, Ya]
  rfl
theorem eown_raw {rows : List (Option XRow)} {v : Nat} (hv : v < rows.length) (r : XRow) (es : List SEdge) : (eOwn (rows.set v (setE (some r) es))).Perm (.cells r.g 40 ((es.map edgeV).flatMap V.leaves ++ r.rest) :: eOwn (rows.set v none)) := eown_set hv (setE (some r) es)
theorem eown_back {rows : List (Option XRow)} {v : Nat} (hv : v < rows.length) (r : XRow) {dn to : List SEdge} {i : Nat} {e x : SEdge} (hd : dn.length = i) (he : to[i]? = some e) : (.cells r.g 40 ((((dn ++ to.drop i).map edgeV).set i (edgeV x)).flatMap V.leaves ++ r.rest) :: eOwn (rows.set v none)).Perm (eOwn (rows.set v (setE (some r) ((dn ++ [x]) ++ to.drop (i + 1))))) := by
  rw [mid_set hd he]
  exact (eown_raw hv r _).symm
theorem drop_split {α : Type} {L l : List α} {x : α} {k : Nat} (h : x :: l = L.drop k) : L[k]? = some x ∧ l = L.drop (k + 1) := by
  have h1 : (L.drop k)[0]? = some x := by rw [← h]; rfl
  rw [Ye, Nat.add_zero] at h1
  rw [drop_cons h1] at h
  injection h with _ h
  exact ⟨h1, h⟩
theorem crit_1 {bs : List SBlock} {b : SBlock} {e : SEdge} (h : (b.term.to.length : Int) < 2) : ¬ critB bs b e = true := by
  unfold critB
  rw [decide_eq_true h]
  simp
theorem crit_2 {bs : List SBlock} {b : SBlock} {e : SEdge} {P : List Int} (hP : (predsF bs)[e.block.toNat]? = some P) (h : (P.length : Int) < 2) : ¬ critB bs b e = true := by
  unfold critB
  rw [hP, Option.getD_some, decide_eq_true h]
  simp
theorem crit_3 {bs : List SBlock} {b : SBlock} {e : SEdge} {P : List Int} (hP : (predsF bs)[e.block.toNat]? = some P) (h1 : ¬ (b.term.to.length : Int) < 2) (h2 : ¬ (P.length : Int) < 2) : critB bs b e = true := by
  unfold critB
  rw [hP, Option.getD_some, decide_eq_false h1, decide_eq_false h2]
  rfl
def toS (f : SFunc) (k v : Nat) (b : SBlock) : List SEdge := if v < k then ((splitP f).1[v]?.getD default).term.to else b.term.to
structure SInv (f : SFunc) (rows rows2 : List (Option XRow)) (k : Nat) : Prop where
  len : rows2.length = rows.length
  row : ∀ (v : Nat) (b : SBlock) (o o2 : Option XRow), f.blocks[v]? = some b → rows[v]? = some o → rows2[v]? = some o2 → xLeaf o2 = xLeaf o ∧ xOk 2 o2 ∧ xl o2 = (toS f k v b).map edgeV
theorem sinv_start {f : SFunc} {rows : List (Option XRow)} (h : RowsOk f.blocks rows) : SInv f rows rows 0 := ⟨rfl, fun v b o o2 hb ho h2 => by
  rw [ho] at h2
  injection h2 with h2
  subst h2
  obtain ⟨h3, h4⟩ := h.row v b o hb ho
  exact ⟨rfl, h4, by rw [toS, if_neg (by omega)]; exact h3⟩⟩
theorem sinv_step {f : SFunc} {rows rows2 : List (Option XRow)} {k : Nat} {b : SBlock} {o2 : Option XRow} {dn : List SEdge} (h : SInv f rows rows2 k) (hb : f.blocks[k]? = some b) (h2 : rows2[k]? = some o2) (hx : xl o2 = b.term.to.map edgeV) (hg : (splitP f).1[k]? = some (setTo b dn)) (hl : dn.length = b.term.to.length) : SInv f rows (rows2.set k (setE o2 dn)) (k + 1) := by
  refine ⟨by rw [List.length_set]; exact h.len, fun w c o p hc ho hp => ?_⟩
  rw [List.getElem?_set] at hp
  split at hp
  · rename_i e
    subst e
    rw [hb] at hc
    injection hc with hc
    subst hc
    split at hp
    · injection hp with hp
      subst hp
      obtain ⟨a1, a2, a3⟩ := h.row k b o o2 hb ho h2
      have hl2 : (xl o2).length = dn.length := by rw [hx, Yc, hl]
      refine ⟨(xLeaf_set hl2).trans a1, xOk_set hx (by rw [hl]) a2, ?_⟩
      rw [xl_set hl2, toS, if_pos (by omega), hg]
      rfl
    · cases hp
  · rename_i e
    obtain ⟨a1, a2, a3⟩ := h.row w c o p hc ho hp
    refine ⟨a1, a2, ?_⟩
    rw [a3]
    unfold toS
    by_cases hw : w < k
    · rw [if_pos hw, if_pos (by omega)]
    · rw [if_neg hw, if_neg (by omega)]
theorem set_mid {rows : List (Option XRow)} {v : Nat} {o : Option XRow} {to : List SEdge} (h : rows[v]? = some o) (hx : xl o = to.map edgeV) : rows.set v (setE o ([] ++ to.drop 0)) = rows := by
  rw [List.nil_append, List.drop_zero, setE_self hx]
  apply List.ext_getElem?
  intro i
  rw [List.getElem?_set]
  split
  · rename_i e
    subst e
    rw [if_pos (Yd.1 h).1, h]
  · rfl
def pairsS (f : SFunc) (rows2 : List (Option XRow)) : List (SBlock × Option XRow) := (splitP f).1.zip rows2
theorem split_plen (f : SFunc) : (splitP f).1.length = f.blocks.length := spB_len ..
theorem split_get {f : SFunc} {v : Nat} {b : SBlock} (hb : f.blocks[v]? = some b) : ∃ to, (splitP f).1[v]? = some (setTo b to) := by
  obtain ⟨to, h, _⟩ := spB_get (critB f.blocks) f.blocks.length f.blocks 0 [] v b hb
  exact ⟨to, h⟩
theorem pairsS_ok {f : SFunc} {rows rows2 : List (Option XRow)} (hr : rows.length = f.blocks.length) (h : SInv f rows rows2 f.blocks.length) : ∀ x ∈ pairsS f rows2, xl x.2 = x.1.term.to.map edgeV ∧ xOk 2 x.2 := fun x hx => by
  obtain ⟨v, hv⟩ := List.getElem?_of_mem hx
  unfold pairsS at hv
  obtain ⟨c, o2⟩ := x
  obtain ⟨h1, h2⟩ := Yh.1 hv
  have hvl := (Yd.1 h1).1
  rw [split_plen] at hvl
  obtain ⟨b, hb⟩ := get_of_lt f.blocks v (by omega)
  obtain ⟨o, ho⟩ := get_of_lt rows v (by omega)
  obtain ⟨a1, a2, a3⟩ := h.row v b o o2 hb ho h2
  rw [toS, if_pos hvl, h1] at a3
  exact ⟨a3, a2⟩
theorem pairsS_cp {f : SFunc} {rows rows2 : List (Option XRow)} (hr : rows.length = f.blocks.length) (h : SInv f rows rows2 f.blocks.length) : (pairsS f rows2).map (fun x => cpV x.1 x.2) = cpL f.blocks rows := by
  unfold pairsS cpL
  apply List.ext_getElem?
  intro v
  rw [List.getElem?_map, List.getElem?_zipWith]
  by_cases hv : v < f.blocks.length
  · obtain ⟨b, hb⟩ := get_of_lt f.blocks v (by omega)
    obtain ⟨o, ho⟩ := get_of_lt rows v (by omega)
    obtain ⟨o2, h2⟩ := get_of_lt rows2 v (by rw [h.len]; omega)
    obtain ⟨to, hg⟩ := split_get hb
    rw [hb, ho, (Yh (z := (setTo b to, o2))).2 ⟨hg, h2⟩]
    show some (cpV (setTo b to) o2) = some (cpV b o)
    rw [cp_leaf (h.row v b o o2 hb ho h2).1]
    rfl
  · have e1 : ((splitP f).1.zip rows2)[v]? = none := List.getElem?_eq_none (by rw [List.length_zip, split_plen]; omega)
    have e2 : f.blocks[v]? = none := List.getElem?_eq_none (by omega)
    rw [e1, e2]
    rfl
theorem pairsS_rows {f : SFunc} {rows2 : List (Option XRow)} (h : rows2.length = f.blocks.length) : (pairsS f rows2).map (·.2) = rows2 := List.map_snd_zip (by rw [split_plen]; omega)
theorem pairsS_blocks {f : SFunc} {rows2 : List (Option XRow)} (h : rows2.length = f.blocks.length) : (pairsS f rows2).map (fun x => blockV x.1) = (splitP f).1.map blockV := by
  have : (pairsS f rows2).map (·.1) = (splitP f).1 := List.map_fst_zip (by rw [split_plen]; omega)
  rw [← this, List.map_map]
  rfl
theorem split_flat {f : SFunc} (rest : List V) : [] ++ (((splitP f).1.map blockV).flatMap V.leaves ++ (((splitP f).2.map jV).flatMap V.leaves ++ rest)) = ((splitF f).blocks.map blockV).flatMap V.leaves ++ rest := by
  unfold splitF
  dsimp only
  rw [List.nil_append, List.map_append, List.flatMap_append, Ya, List.map_map]
  rfl
def splitX (f : SFunc) : V := if funcF f ≠ 0 then .tup [.agg VT.zs31, .int (funcF f)] else if 128 < ((splitF f).blocks.length : Int) then .tup [.agg VT.zs31, .int 2] else .tup [funcV (splitF f), .int 0]
theorem jv_flat (e : SEdge) : ∀ y ∈ [blockV (jumpB e)], y.flat = true := fun y hy => by
  rw [List.mem_singleton.1 hy]
  rfl
theorem some_of {α : Type} {o : Option α} (h : o ≠ none) : ∃ r, o = some r := by
  cases o with
  | none => exact absurd rfl h
  | some r => exact ⟨r, rfl⟩
open Go.VL renaming VOps_nil → Za, VW_seq → Zb, VW_region → Zd, Then_n → Zi, V_fieldAddr → Zj, V_assign → Zk, V_move → Zl, VW_block → Zs, VW_exit → Zt, V_load → Zu, V_load_agg → Zv, V_store_agg → Zx, V_store → Zy, V_indexAddr → Zz, InBlock_n → Zb1, InBlock_hit → Zc1, Then_r → Zd1, Then_e → Ze1, VW_ret → Zf1, VRet_many → Zh1, VW_skip → Zi1, V_bin → Zj1, VW_condNe → Zm1, VW_condP → Zn1, VW_condT → Zp1, V_pickT → Zs1, V_pickF → Zt1, V_callP → Zx1, V_load_ep → Zz1, V_alloc → Zb2, V_box → Zc2, V_lenN → Zd2, V_build → Zf2, V_extract → Zg2, V_add → Zh2, VW_loopF → Zi2, VOps_split → Zj2, V_indexAddr_row → Zr2, Drops.refl → Zt2, VOp_as → Zu2, V_load_elem → Ze3, V_store_elem → Zg3, V_lit → Zk3
set_option maxRecDepth 100000 in
set_option maxHeartbeats 16000000 in
theorem Split_c (f : SFunc) : VPure Try.prog 25 [funcV f] (splitX f) := by
 have hr := splitX.eq_def f
 have hPr := Preds_c f
 refine V_start (nt := 78) Try.func25 rfl rfl rfl ?_
 refine Zb (Zd ?_)
 refine Zc (Zc2 rfl rfl (fun g1 => ?_))
 refine Zc (Zb2 VT.zr31 _ rfl rfl (fun g2 => ?_))
 refine Zc (Zk rfl (Za (Zi (Zb (Zd (Zc (Zv 1 VT.ty31 rfl rfl rfl ?_)))))))
 by_cases h0 : funcF f = 0
 ·
  rw [if_neg (fun h => h h0)] at hr
  rw [if_pos h0, h0] at hPr
  have hok := func_ok h0
  have hpos := hok.pos
  have h128 := hok.len
  have hpl := predsF_len f.blocks
  have hcl := (split_is f).len
  refine Zc (Zx1 [.tmp 12] rfl rfl VT.en38 (hPr) ?_)
  refine Zc (Zl rfl (Zc (Zg2 rfl rfl (Zc (Zg2 rfl rfl (Zc (Zk rfl (Zc (Zk rfl (Za (Zi (Zb (Zb (Zd (Zc (Zl rfl (Zc (Zj1 rfl rfl rfl (Za (Zi ?_))))))))))))))))))))
  refine Zm1 rfl (fun h17 => ?_) (fun h17 => ?_)
  · exact absurd rfl h17
  ·
   refine Zi1 (Zi (Zb (Zd (Zc (Zv 1 VT.ty31 rfl rfl rfl ?_)))))
   refine Zc (V_callB [.tmp 20] [_, _] _ rfl rfl VT.en27 (.refl _) (CopyX_c (cp_ok h0)) ?_)
   rintro r0 Sa ⟨rows, out, hR, hxu, huo, rfl, rfl⟩
   refine Zc (Zb2 VT.zr31 _ rfl rfl (fun g6 => ?_))
   refine Zc (Zx 0 VT.ty31 rfl rfl rfl rfl rfl (Za (Zi (Zb (Zb (Zd (Zc (Zj VT.fa31_1 rfl (Zc (Zu 2 VT.ty29 rfl rfl rfl ?_))))))))))
   refine Zc (Zd2 (n := f.blocks.length) Try.underlying29 rfl (by simp) (fun hl24 => ?_))
   refine Zc (Zl rfl (Za (Zi ?_)))
   have hRl := hR.len
   obtain ⟨r, rfl⟩ : ∃ r, out = some r := by cases out with
   | none =>
    have h9 := congrArg List.length hxu
    rw [cpL_len hR] at h9
    change 0 = _ at h9
    omega
   | some r => exact ⟨r, rfl⟩
   have hxu : r.xs = cpL f.blocks rows := hxu
   refine VW_perm (S' := .cells r.g 38 (r.xs.flatMap V.leaves ++ r.rest) :: .cells g6 31 [.int f.name, xLeaf (some r)] :: .cells g2 31 VT.zs31 :: .cells g1 31 [.int f.name, blocksX f.blocks] :: (eOwn rows)) (List.perm_middle (l₁ := [_, _, _])) ?_
   refine Zs ?_
   refine Zi2 (ι := Nat × Cut × List (Option XRow) × XRow) (fun (k, X, rows2, r) => f.blocks.length - k) (fun (k, X, rows2, r) => [(1, some (.ptr g1 0)), (2, some (.ptr g2 0)), (4, some (rowsX (predsF f.blocks))), (6, some (.ptr g6 0)), (23, some (blocksX f.blocks)), (24, some (.int f.blocks.length)), (25, some (.int k))]) (fun (k, X, rows2, r) => .cells r.g 38 (r.xs.flatMap V.leaves ++ r.rest) :: .cells g6 31 [.int f.name, xLeaf (some r)] :: .cells g2 31 VT.zs31 :: .cells g1 31 [.int f.name, blocksX f.blocks] :: (eOwn rows2)) (fun (k, X, rows2, r) => k ≤ f.blocks.length ∧ SInv f rows rows2 k ∧ (spB (critB f.blocks) f.blocks.length k (f.blocks.drop k) X).1 = (splitP f).1.drop k ∧ (spB (critB f.blocks) f.blocks.length k (f.blocks.drop k) X).2 = (splitP f).2 ∧ r.xs = cpL f.blocks rows ++ X.map jV ∧ xOk 7 (some r) ∧ X.length ≤ k * 257) (0, [], rows, r) ⟨Nat.zero_le _, sinv_start hR, rfl, rfl, by rw [hxu]; simp, huo, Nat.zero_le _⟩ ⟨rfl, rfl, rfl, rfl, rfl, rfl, rfl, trivial⟩ (Drops.keep (Drops.keep (Drops.keep (Drops.keep (Zt2 _))))) ?_
   rintro ⟨k, X, rows2, r⟩ hA
   change k ≤ f.blocks.length ∧ SInv f rows rows2 k ∧ (spB (critB f.blocks) f.blocks.length k (f.blocks.drop k) X).1 = (splitP f).1.drop k ∧ (spB (critB f.blocks) f.blocks.length k (f.blocks.drop k) X).2 = (splitP f).2 ∧ r.xs = cpL f.blocks rows ++ X.map jV ∧ xOk 7 (some r) ∧ X.length ≤ k * 257 at hA
   obtain ⟨hk, hI, hG, hX, hrx, hro2, hXl⟩ := hA
   have hrl : r.xs.length = f.blocks.length + X.length := by rw [hrx, Yb, cpL_len hR, Yc]
   refine Zb (Zd (Zc (Zj1 rfl rfl rfl (Za (Zi (Zb ?_))))))
   refine Zn1 rfl (fun h26 => ?_) (fun h26 => ?_)
   ·
    obtain ⟨b, hb⟩ := get_of_lt f.blocks k (by omega)
    obtain ⟨o, hro⟩ := get_of_lt rows k (by omega)
    have hIl := hI.len
    obtain ⟨o2, h2⟩ := get_of_lt rows2 k (by omega)
    obtain ⟨hlf, hok2, hx2⟩ := hI.row k b o o2 hb hro h2
    rw [toS, if_neg (by omega)] at hx2
    have hkr : k < rows2.length := (Yd.1 h2).1
    have hte := term_edges hok (Yf hb)
    have hlx : (xl o2).length = b.term.to.length := by rw [hx2, Yc]
    rw [drop_cons hb, spB] at hG hX
    obtain ⟨hGk, hG2⟩ := drop_split hG
    refine Zi1 (Zi (Zb (Zs (Zb (Zd (Zc (Zl rfl (Zc (Zk rfl (Za (Zi (Zb (Zd (Zc (Zj VT.fa31_1 rfl (Zc (Zu 1 VT.ty29 rfl rfl rfl (Zc (Zl rfl ?_)))))))))))))))))))
    refine Zc (Zu2 (Zr2 VT.sl29 rfl rfl (by omega) (by omega) ⟨rfl, rfl⟩) ((V.le.of_eq (congrArg (V.ptr r.g) (by omega)) : V.le _ (.ptr r.g (k * 7)))) ?_)
    refine Zc (Zj VT.fa38_2 rfl (Zc (Zj VT.fa36_4 rfl ?_)))
    refine Zc (Zu2 (Zu 0 VT.ty34 rfl rfl (blk_leaf _ (cat_7 hrx) (cat_get hrx hb hro hlf)) ⟨rfl, rfl⟩) ((V.le.of_eq (xLeaf_raw o2) : V.le _ (.raw (.slice (xA o2) (xl o2).length (xcap o2))))) ?_)
    refine Zc (Zk rfl (Za (Zi (Zb (Zd (Zc (Zl rfl ?_)))))))
    refine Zc (V_len_raw Try.underlying34 rfl ?_)
    refine Zc (Zl rfl (Za (Zi ?_)))
    rw [hlx]
    refine VW_perm (S' := .cells r.g 38 (r.xs.flatMap V.leaves ++ r.rest) :: .cells g6 31 [.int f.name, xLeaf (some r)] :: .cells g2 31 VT.zs31 :: .cells g1 31 [.int f.name, blocksX f.blocks] :: (eOwn (rows2.set k (setE o2 ([] ++ b.term.to.drop 0))))) (by rw [set_mid h2 hx2]) ?_
    refine Zs ?_
    refine Zi2 (ι := Nat × List SEdge × Cut × XRow) (fun (i, dn, X2, s) => b.term.to.length - i) (fun (i, dn, X2, s) => [(1, some (.ptr g1 0)), (2, some (.ptr g2 0)), (4, some (rowsX (predsF f.blocks))), (6, some (.ptr g6 0)), (23, some (blocksX f.blocks)), (24, some (.int f.blocks.length)), (25, some (.int k)), (7, some (.int k)), (8, some (.raw (.slice (xA o2) b.term.to.length (xcap o2)))), (35, some (.raw (.slice (xA o2) b.term.to.length (xcap o2)))), (36, some (.int b.term.to.length)), (37, some (.int i))]) (fun (i, dn, X2, s) => .cells s.g 38 (s.xs.flatMap V.leaves ++ s.rest) :: .cells g6 31 [.int f.name, xLeaf (some s)] :: .cells g2 31 VT.zs31 :: .cells g1 31 [.int f.name, blocksX f.blocks] :: (eOwn (rows2.set k (setE o2 (dn ++ b.term.to.drop i))))) (fun (i, dn, X2, s) => i ≤ b.term.to.length ∧ dn.length = i ∧ dn ++ (spE (critB f.blocks b) f.blocks.length k (b.term.to.drop i) X2).1 = (spE (critB f.blocks b) f.blocks.length k b.term.to X).1 ∧ (spE (critB f.blocks b) f.blocks.length k (b.term.to.drop i) X2).2 = (spE (critB f.blocks b) f.blocks.length k b.term.to X).2 ∧ s.xs = cpL f.blocks rows ++ X2.map jV ∧ xOk 7 (some s) ∧ X2.length ≤ k * 257 + i) (0, [], X, r) ⟨Nat.zero_le _, rfl, rfl, rfl, hrx, hro2, hXl⟩ ⟨rfl, rfl, rfl, rfl, rfl, rfl, rfl, rfl, rfl, rfl, rfl, rfl, trivial⟩ (Drops.keep (Drops.keep (Drops.keep (Drops.keep (Zt2 _))))) ?_
    rintro ⟨i, dn, X2, s⟩ hB
    change i ≤ b.term.to.length ∧ dn.length = i ∧ dn ++ (spE (critB f.blocks b) f.blocks.length k (b.term.to.drop i) X2).1 = (spE (critB f.blocks b) f.blocks.length k b.term.to X).1 ∧ (spE (critB f.blocks b) f.blocks.length k (b.term.to.drop i) X2).2 = (spE (critB f.blocks b) f.blocks.length k b.term.to X).2 ∧ s.xs = cpL f.blocks rows ++ X2.map jV ∧ xOk 7 (some s) ∧ X2.length ≤ k * 257 + i at hB
    obtain ⟨hi, hdl, hD, hX3, hrs, hso, hX2l⟩ := hB
    have hsl : s.xs.length = f.blocks.length + X2.length := by rw [hrs, Yb, cpL_len hR, Yc]
    refine Zb (Zd (Zc (Zj1 rfl rfl rfl (Za (Zi (Zb ?_))))))
    refine Zn1 rfl (fun h38 => ?_) (fun h38 => ?_)
    ·
     obtain ⟨e, he⟩ := get_of_lt b.term.to i (by omega)
     have hmg := mid_get hdl he
     obtain ⟨q, rfl, hql⟩ := row_some hx2 he
     obtain ⟨hE1, hE2⟩ := hok.edges b (Yf hb) e (Yf he)
     obtain ⟨P, hP⟩ := get_of_lt (predsF f.blocks) e.block.toNat (by omega)
     rw [drop_cons he] at hD hX3
     refine VW_perm (S' := .cells q.g 40 (((dn ++ b.term.to.drop i).map edgeV).flatMap V.leaves ++ q.rest) :: .cells s.g 38 (s.xs.flatMap V.leaves ++ s.rest) :: .cells g6 31 [.int f.name, xLeaf (some s)] :: .cells g2 31 VT.zs31 :: .cells g1 31 [.int f.name, blocksX f.blocks] :: (eOwn (rows2.set k none))) (pullL [.cells s.g 38 (s.xs.flatMap V.leaves ++ s.rest), .cells g6 31 [.int f.name, xLeaf (some s)], .cells g2 31 VT.zs31, .cells g1 31 [.int f.name, blocksX f.blocks]] (eown_raw hkr q (dn ++ b.term.to.drop i))) ?_
     refine Zi1 (Zi (Zb (Zs (Zb (Zd (Zc (Zl rfl ?_)))))))
     refine Zc (Zu2 (Zr2 VT.sl34 rfl rfl (by omega) (by omega) ⟨rfl, rfl⟩) ((V.le.of_eq (congrArg (V.ptr q.g) (by omega)) : V.le _ (.ptr q.g (i * 2)))) ?_)
     refine Zc (Ze3 0 i VT.ty40 rfl rfl rfl rfl (edges_2 rfl) (get_mapS edgeV hmg) ?_)
     refine Zc (Zb2 VT.zr40 _ rfl rfl (fun g10 => ?_))
     refine Zc (Zk rfl (Zc (Zx 0 VT.ty40 rfl rfl rfl rfl rfl (Za (Zi (Zb (Zb (Zd (Zc (Zl rfl ?_))))))))))
     refine Zc (V_len_raw Try.underlying34 rfl ?_)
     refine Zc (Zj1 rfl rfl rfl (Zc (Zl rfl ?_)))
     refine Zj2 (q := 45) rfl (fun hq45 => ?_) (fun hq45 => ?_)
     ·
      have hc := crit_1 (bs := f.blocks) (b := b) (e := e) (of_decide_eq_true hq45)
      refine Zk0 hq45 ?_
      refine Zk0 hq45 ?_
      refine Zk0 hq45 ?_
      refine Zk0 hq45 ?_
      refine Zk0 hq45 ?_
      refine Zk0 hq45 ?_
      refine Zk0 hq45 ?_
      refine Zc (Zs1 rfl hq45 rfl ?_)
      refine Za (Zi ?_)
      refine Zp1 rfl rfl ?_
      rw [spE, if_neg hc] at hD hX3
      have hA2 := And.intro (show i + 1 ≤ b.term.to.length by omega) (And.intro (show (dn ++ [e]).length = i + 1 by rw [Yb, hdl]; rfl) (And.intro (show (dn ++ [e]) ++ (spE (critB f.blocks b) f.blocks.length k (b.term.to.drop (i + 1)) (X2)).1 = (spE (critB f.blocks b) f.blocks.length k b.term.to X).1 by rw [Ya]; exact hD) (And.intro hX3 (And.intro hrs (And.intro hso (show (X2).length ≤ k * 257 + (i + 1) by omega))))))
      refine VW_perm (S' := .cells g10 40 [.int e.block, intsX e.args] :: .cells s.g 38 (s.xs.flatMap V.leaves ++ s.rest) :: .cells g6 31 [.int f.name, xLeaf (some s)] :: .cells g2 31 VT.zs31 :: .cells g1 31 [.int f.name, blocksX f.blocks] :: (eOwn (rows2.set k (setE (some q) ((dn ++ [e]) ++ b.term.to.drop (i + 1)))))) (by rw [← mid_eq he]; exact .cons _ (pullL [.cells s.g 38 (s.xs.flatMap V.leaves ++ s.rest), .cells g6 31 [.int f.name, xLeaf (some s)], .cells g2 31 VT.zs31, .cells g1 31 [.int f.name, blocksX f.blocks]] (eown_raw hkr q (dn ++ b.term.to.drop i))).symm) ?_
      refine Zt (Ze1 (Zc1 (Zi (Zd ?_))))
      refine Zc (Zh2 rfl rfl (by omega) ?_)
      refine Zc (Zl rfl (Za (Zi ?_)))
      exact ⟨(i + 1, dn ++ [e], X2, s), (by (try simp only []); omega), hA2, ⟨rfl, rfl, rfl, rfl, rfl, rfl, rfl, rfl, rfl, rfl, rfl, rfl, trivial⟩, (Drops.drop (Drops.keep (Drops.keep (Drops.keep (Drops.keep (Zt2 _))))))⟩
     ·
      have hx45 := of_decide_eq_false hq45
      refine Zc (Zl rfl ?_) (Zy0 hq45)
      refine Zc (Zj VT.fa40_0 rfl ?_) (Zy0 hq45)
      refine Zc (Zu 0 VT.ty3 rfl rfl rfl ?_) (Zy0 hq45)
      refine Zc (Zz (el := intsX P) VT.sl80 rfl rfl (by omega) (get_mapS _ hP) (fun a49 => ?_)) (Zy0 hq45)
      refine Zc (Zz1 VT.ty32 rfl rfl ?_) (Zy0 hq45)
      refine Zc (Zd2 (n := P.length) Try.underlying32 rfl (by simp) (fun hl51 => ?_)) (Zy0 hq45)
      refine Zc (Zj1 rfl rfl rfl ?_) (Zy0 hq45)
      refine Zc (Zt1 rfl hq45 rfl ?_)
      refine Za (Zi ?_)
      refine Zn1 rfl (fun h53 => ?_) (fun h53 => ?_)
      ·
       have hc := crit_2 (b := b) hP h53
       rw [spE, if_neg hc] at hD hX3
       have hA2 := And.intro (show i + 1 ≤ b.term.to.length by omega) (And.intro (show (dn ++ [e]).length = i + 1 by rw [Yb, hdl]; rfl) (And.intro (show (dn ++ [e]) ++ (spE (critB f.blocks b) f.blocks.length k (b.term.to.drop (i + 1)) (X2)).1 = (spE (critB f.blocks b) f.blocks.length k b.term.to X).1 by rw [Ya]; exact hD) (And.intro hX3 (And.intro hrs (And.intro hso (show (X2).length ≤ k * 257 + (i + 1) by omega))))))
       refine VW_perm (S' := .cells g10 40 [.int e.block, intsX e.args] :: .cells s.g 38 (s.xs.flatMap V.leaves ++ s.rest) :: .cells g6 31 [.int f.name, xLeaf (some s)] :: .cells g2 31 VT.zs31 :: .cells g1 31 [.int f.name, blocksX f.blocks] :: (eOwn (rows2.set k (setE (some q) ((dn ++ [e]) ++ b.term.to.drop (i + 1)))))) (by rw [← mid_eq he]; exact .cons _ (pullL [.cells s.g 38 (s.xs.flatMap V.leaves ++ s.rest), .cells g6 31 [.int f.name, xLeaf (some s)], .cells g2 31 VT.zs31, .cells g1 31 [.int f.name, blocksX f.blocks]] (eown_raw hkr q (dn ++ b.term.to.drop i))).symm) ?_
       refine Zt (Ze1 (Zc1 (Zi (Zd ?_))))
       refine Zc (Zh2 rfl rfl (by omega) ?_)
       refine Zc (Zl rfl (Za (Zi ?_)))
       exact ⟨(i + 1, dn ++ [e], X2, s), (by (try simp only []); omega), hA2, ⟨rfl, rfl, rfl, rfl, rfl, rfl, rfl, rfl, rfl, rfl, rfl, rfl, trivial⟩, (Drops.drop (Drops.keep (Drops.keep (Drops.keep (Drops.keep (Zt2 _))))))⟩
      ·
       have hc := crit_3 hP hx45 h53
       rw [spE, if_pos hc] at hD hX3
       refine Zi1 (Zi (Zb (Zd (Zc (Zl rfl (Zc (Zl rfl (Zc (Zj VT.fa31_1 rfl (Zc (Zu 3 VT.ty29 rfl rfl rfl ?_)))))))))))
       refine Zc (V_len_raw Try.underlying29 rfl ?_)
       refine Zc (Zu2 (Zf2 [0] [.tmp 58] VT.st40 rfl rfl rfl rfl ⟨rfl, rfl⟩) ((by rw [hsl]; exact V.le.agg ⟨V.le.refl _, rfl, V.le.nil 1, rfl, trivial⟩ : V.le _ (edgeV (⟨((f.blocks.length + X2.length : Nat) : Int), []⟩ : SEdge)))) ?_)
       refine Zc (Zu2 (Zr2 VT.sl34 rfl rfl (by omega) (by omega) ⟨rfl, rfl⟩) ((V.le.of_eq (congrArg (V.ptr q.g) (by omega)) : V.le _ (.ptr q.g (i * 2)))) ?_)
       refine Zc (Zg3 1 i VT.ty40 rfl rfl rfl rfl rfl rfl (edges_2 rfl) (by rw [Yc, Yb, List.length_drop]; omega) ?_)
       refine Za (Zi (Zd (Zc (Zj VT.fa31_1 rfl (Zc (Zu 3 VT.ty29 rfl rfl rfl (Zc (Zv 0 VT.ty40 rfl rfl rfl ?_))))))))
       refine Zc (Zk3 [.tmp 63] VT.sl34 rfl rfl rfl rfl rfl ?_)
       refine Zc (Zf2 [0, 4] [.const (.int .i64 (1)), .tmp 64] VT.st36 rfl rfl rfl rfl ?_)
       refine Zc (Zu2 (Zf2 [2] [.tmp 65] VT.st38 rfl rfl rfl rfl ⟨rfl, rfl⟩) ((by exact V.le.agg ⟨V.le.nil 1, rfl, V.le.nil 4, rfl, V.le.refl _, rfl, V.le.refl _, rfl, V.le.refl _, rfl, V.le.nil 1, rfl, V.le.refl _, rfl, trivial⟩ : V.le _ (blockV (jumpB e)))) ?_)
       refine Zc (Zk3 [.tmp 66] VT.sl29 rfl rfl rfl rfl rfl ?_)
       refine Zc (V_appendOT (o := (some s)) (_) (fun o' => xOwn 38 o' ++ _) VT.sl29 (by decide) rfl rfl (List.perm_middle (l₁ := [_, _])) (fun _ => .refl _) hso (cat_7 hrs) (fun h => by cases h) (by show (s.xs.length + _) * _ ≤ _; rw [hsl, List.length_singleton]; omega) (jv_flat e) (fun o68 e68_1 e68_2 e68_3 => ?_))
       obtain ⟨s3, rfl⟩ := some_of e68_3
       refine Zc (Zj VT.fa31_1 rfl ?_)
       refine Zc (Zy 3 VT.ty29 rfl rfl (xLeaf_leaf _) rfl rfl ?_)
       refine Za (Zb1 (Zi ?_))
       have hrs3 : s3.xs = cpL f.blocks rows ++ (X2 ++ [(k, e)]).map jV := by have h9 : s3.xs = s.xs ++ [blockV (jumpB e)] := e68_1; rw [h9, hrs, List.map_append, Ya]; rfl
       have hA2 := And.intro (show i + 1 ≤ b.term.to.length by omega) (And.intro (show (dn ++ [(⟨((f.blocks.length + X2.length : Nat) : Int), []⟩ : SEdge)]).length = i + 1 by rw [Yb, hdl]; rfl) (And.intro (show (dn ++ [(⟨((f.blocks.length + X2.length : Nat) : Int), []⟩ : SEdge)]) ++ (spE (critB f.blocks b) f.blocks.length k (b.term.to.drop (i + 1)) (X2 ++ [(k, e)])).1 = (spE (critB f.blocks b) f.blocks.length k b.term.to X).1 by rw [Ya]; exact hD) (And.intro hX3 (And.intro hrs3 (And.intro e68_2 (show (X2 ++ [(k, e)]).length ≤ k * 257 + (i + 1) by rw [Yb, List.length_singleton]; omega))))))
       refine VW_perm (S' := .cells s3.g 38 (s3.xs.flatMap V.leaves ++ s3.rest) :: .cells g10 40 [.int e.block, intsX e.args] :: .cells g6 31 [.int f.name, xLeaf (some s3)] :: .cells g2 31 VT.zs31 :: .cells g1 31 [.int f.name, blocksX f.blocks] :: (eOwn (rows2.set k (setE (some q) ((dn ++ [(⟨((f.blocks.length + X2.length : Nat) : Int), []⟩ : SEdge)]) ++ b.term.to.drop (i + 1)))))) (.cons _ (.cons _ (pullL [.cells g6 31 [.int f.name, xLeaf (some s3)], .cells g2 31 VT.zs31, .cells g1 31 [.int f.name, blocksX f.blocks]] (eown_back hkr q hdl he (x := (⟨((f.blocks.length + X2.length : Nat) : Int), []⟩ : SEdge))).symm).symm)) ?_
       refine Zd ?_
       refine Zc (Zh2 rfl rfl (by omega) ?_)
       refine Zc (Zl rfl (Za (Zi ?_)))
       exact ⟨(i + 1, dn ++ [(⟨((f.blocks.length + X2.length : Nat) : Int), []⟩ : SEdge)], X2 ++ [(k, e)], s3), (by (try simp only []); omega), hA2, ⟨rfl, rfl, rfl, rfl, rfl, rfl, rfl, rfl, rfl, rfl, rfl, rfl, trivial⟩, (Drops.keep (Drops.drop (Drops.keep (Drops.keep (Drops.keep (Zt2 _))))))⟩
    ·
     have hie : i = b.term.to.length := by omega
     subst hie
     rw [Yg] at hD hX3
     change dn ++ [] = _ at hD
     change X2 = _ at hX3
     rw [List.append_nil] at hD
     refine VW_perm (S' := .cells s.g 38 (s.xs.flatMap V.leaves ++ s.rest) :: .cells g6 31 [.int f.name, xLeaf (some s)] :: .cells g2 31 VT.zs31 :: .cells g1 31 [.int f.name, blocksX f.blocks] :: (eOwn (rows2.set k (setE o2 (dn))))) (by show (Own.cells s.g 38 (s.xs.flatMap V.leaves ++ s.rest) :: Own.cells g6 31 [.int f.name, xLeaf (some s)] :: Own.cells g2 31 VT.zs31 :: Own.cells g1 31 [.int f.name, blocksX f.blocks] :: (eOwn (rows2.set k (setE o2 (dn ++ b.term.to.drop b.term.to.length)))) : Store).Perm _; rw [Yg, List.append_nil]) ?_
     refine Zt (Ze1 (Ze1 (Zc1 (Zb1 (Zi (Zd ?_))))))
     refine Zc (Zh2 rfl rfl (by omega) ?_)
     refine Zc (Zl rfl (Za (Zi ?_)))
     exact ⟨(k + 1, X2, rows2.set k (setE o2 dn), s), (by (try simp only []); omega), ⟨by omega, sinv_step hI hb h2 hx2 (by rw [hD]; exact hGk) (by rw [hD]; exact spE_len ..), by rw [hX3]; exact hG2, by rw [hX3]; exact hX, hrs, hso, by omega⟩, ⟨rfl, rfl, rfl, rfl, rfl, rfl, rfl, trivial⟩, (Drops.keep (Drops.keep (Drops.keep (Drops.keep (Zt2 _)))))⟩
   ·
    have hke : k = f.blocks.length := by omega
    subst hke
    rw [Yg] at hX
    change X = _ at hX
    subst hX
    have hsl2 : r.xs.length = (splitF f).blocks.length := by omega
    refine Zt (Ze1 (Ze1 (Zc1 (Zi (Zb (Zb (Zd (Zc (Zj VT.fa31_1 rfl (Zc (Zu 1 VT.ty29 rfl rfl rfl ?_)))))))))))
    refine Zc (V_len_raw Try.underlying29 rfl ?_)
    refine Zc (Zj1 rfl rfl rfl (Za (Zi ?_)))
    refine Zn1 rfl (fun h75 => ?_) (fun h75 => ?_)
    ·
     rw [if_pos (by omega)] at hr
     refine Zb (Zd ?_)
     refine Zc (Zf2 [] [] VT.st31 rfl rfl rfl rfl ?_)
     refine Zc (Zx 2 VT.ty31 rfl rfl rfl rfl rfl (Zc (Zk rfl (Za (Zi (Zf1 ?_))))))
     refine Zd1 (Zh1 rfl rfl (.cons (.agg (i := 2) VT.ty31 rfl rfl rfl) (.cons (.tmp rfl) (.nil))) ?_)
     rw [hr]
     rfl
    ·
     rw [if_neg (by omega)] at hr
     refine Zi1 (Zi ?_)
     obtain ⟨c1, c2, c3⟩ := hro2
     have hIl := hI.len
     have hP2 := pairsS_rows (f := f) (hIl.trans hRl)
     have hcell : r.xs.flatMap V.leaves ++ r.rest = [] ++ (((pairsS f rows2).map fun x => cpV x.1 x.2).flatMap V.leaves ++ (((splitP f).2.map jV).flatMap V.leaves ++ r.rest)) := by rw [hrx, ← pairsS_cp hRl hI, List.flatMap_append, Ya]; rfl
     refine VW_drops (S' := .cells r.g 38 ([] ++ (((pairsS f rows2).map fun x => cpV x.1 x.2).flatMap V.leaves ++ (((splitP f).2.map jV).flatMap V.leaves ++ r.rest))) :: (eOwn ((pairsS f rows2).map (·.2)) ++ [.cells g6 31 [.int f.name, xLeaf (some r)], .cells g2 31 VT.zs31])) (Drops.trans (.keep (.keep (.keep (.drop (.refl _))))) (.of_perm ?_)) ?_
     · rw [hcell, hP2]; exact .cons _ (List.perm_append_comm (l₁ := [_, _]))
     refine freeze_blocks r.g _ (pairsS f rows2) [] [.cells g6 31 [.int f.name, xLeaf (some r)], .cells g2 31 VT.zs31] (pairsS_ok hRl hI) ?_
     rw [pairsS_blocks (hIl.trans hRl)]
     refine VW_freezeC 0 0 1 (sz := 7) (rest := r.rest) ((splitF f).blocks.map blockV) rfl rfl rfl (split_flat _) (by rw [Yc]; exact hsl2.symm) c1 c2 (fits_bs _) ?_
     show VW Try.prog _ _ _ _ [.cells g6 31 [.int f.name, blocksX (splitF f).blocks], .cells g2 31 VT.zs31]
     refine Zb (Zd (Zc (Zv 0 VT.ty31 rfl rfl rfl (Zc (Zx 1 VT.ty31 rfl rfl rfl rfl rfl (Zc (Zk rfl (Za (Zi (Zf1 ?_))))))))))
     refine Zh1 rfl rfl (.cons (.agg (i := 1) VT.ty31 rfl rfl rfl) (.cons (.tmp rfl) (.nil))) ?_
     rw [hr]
     rfl
 ·
  rw [if_pos h0] at hr
  refine Zc (Zx1 [.tmp 12] rfl rfl VT.en38 (hPr) ?_)
  refine Zc (Zl rfl (Zc (Zg2 rfl rfl (Zc (Zg2 rfl rfl (Zc (Zk rfl (Zc (Zk rfl (Za (Zi (Zb (Zb (Zd (Zc (Zl rfl (Zc (Zj1 rfl rfl rfl (Za (Zi ?_))))))))))))))))))))
  refine Zm1 rfl (fun h17 => ?_) (fun h17 => ?_)
  ·
   refine Zb (Zd ?_)
   refine Zc (Zf2 [] [] VT.st31 rfl rfl rfl rfl ?_)
   refine Zc (Zl rfl (Zc (Zx 0 VT.ty31 rfl rfl rfl rfl rfl (Zc (Zk rfl (Za (Zi (Zf1 ?_))))))))
   refine Zd1 (Zh1 rfl rfl (.cons (.agg (i := 0) VT.ty31 rfl rfl rfl) (.cons (.tmp rfl) (.nil))) ?_)
   rw [hr]
   rfl
  · exact absurd h17 h0
theorem Split_0 {f : SFunc} (h : funcF f = 0) (hl : ¬ 128 < ((splitF f).blocks.length : Int)) : VPure Try.prog 25 [funcV f] (.tup [funcV (splitF f), .int 0]) := by
  have h1 := Split_c f
  rwa [splitX, if_neg (fun hn => hn h), if_neg hl] at h1
theorem Split_big {f : SFunc} (h : funcF f = 0) (hl : 128 < ((splitF f).blocks.length : Int)) : VPure Try.prog 25 [funcV f] (.tup [.agg VT.zs31, .int 2]) := by
  have h1 := Split_c f
  rwa [splitX, if_neg (fun hn => hn h), if_pos hl] at h1
end Go.Proofs.Ytigkaadmobgfnaa.X30
