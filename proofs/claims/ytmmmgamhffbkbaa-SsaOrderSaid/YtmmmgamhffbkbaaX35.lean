import Derived.Test.YtmmmgamhffbkbaaVT
import Derived.Test.YtmmmgamhffbkbaaS2
import Derived.Test.YtmmmgamhffbkbaaVO
import Derived.Test.YtmmmgamhffbkbaaDZ
import Derived.Test.YtmmmgamhffbkbaaX1
import Derived.Test.YtmmmgamhffbkbaaX2
import Derived.Test.YtmmmgamhffbkbaaX3
import Derived.Test.YtmmmgamhffbkbaaX4
import Derived.Test.YtmmmgamhffbkbaaX5
import Derived.Test.YtmmmgamhffbkbaaX6
import Derived.Test.YtmmmgamhffbkbaaX7
import Derived.Test.YtmmmgamhffbkbaaX8
import Derived.Test.YtmmmgamhffbkbaaX9
import Derived.Test.YtmmmgamhffbkbaaX10
import Derived.Test.YtmmmgamhffbkbaaXW
import Derived.Test.YtmmmgamhffbkbaaX25
import Derived.Test.YtmmmgamhffbkbaaX26
import Derived.Test.YtmmmgamhffbkbaaX34
set_option linter.unusedVariables false
set_option linter.unusedSimpArgs false
namespace Go.Proofs.Ytmmmgamhffbkbaa.X35
open Go.VL Go.SM Go.Proofs.Ytmmmgamhffbkbaa Go.Proofs.Ytmmmgamhffbkbaa.X1 Go.Proofs.Ytmmmgamhffbkbaa.X2 Go.Proofs.Ytmmmgamhffbkbaa.X3 Go.Proofs.Ytmmmgamhffbkbaa.X4 Go.Proofs.Ytmmmgamhffbkbaa.X5 Go.Proofs.Ytmmmgamhffbkbaa.X6 Go.Proofs.Ytmmmgamhffbkbaa.X7 Go.Proofs.Ytmmmgamhffbkbaa.X8 Go.Proofs.Ytmmmgamhffbkbaa.X9 Go.Proofs.Ytmmmgamhffbkbaa.X10 Go.Proofs.Ytmmmgamhffbkbaa.XW Go.Proofs.Ytmmmgamhffbkbaa.X25 Go.Proofs.Ytmmmgamhffbkbaa.X26 Go.Proofs.Ytmmmgamhffbkbaa.X34
def rowV (rows : List (Option XRow)) (v : Nat) : Option XRow := rows[v]?.getD none
def reV (n : Nat) (e : SEdge) : SEdge := ⟨(n : Int) - e.block, e.args⟩
def mixV (n : Nat) (to : List SEdge) (j : Nat) : List SEdge := (to.take j).map (reV n) ++ to.drop j
theorem mixV_len (n : Nat) (to : List SEdge) (j : Nat) : (mixV n to j).length = to.length := by
  unfold mixV
  rw [List.length_append, List.length_map, List.length_take, List.length_drop]
  omega
theorem mixV_zero (n : Nat) (to : List SEdge) : mixV n to 0 = to := by simp [mixV]
theorem mixV_end (n : Nat) (to : List SEdge) : mixV n to to.length = to.map (reV n) := by simp [mixV]
theorem mixV_get {n : Nat} {to : List SEdge} {j : Nat} {e : SEdge} (h : to[j]? = some e) : (mixV n to j)[j]? = some e := by
  have hj := (List.getElem?_eq_some_iff.1 h).1
  have hl : ((to.take j).map (reV n)).length = j := by rw [List.length_map, List.length_take]; omega
  unfold mixV
  rw [List.getElem?_append_right (by omega), hl, Nat.sub_self, List.getElem?_drop, Nat.add_zero]
  exact h
theorem mixV_step {n : Nat} {to : List SEdge} {j : Nat} {e : SEdge} (h : to[j]? = some e) : (mixV n to j).set j (reV n e) = mixV n to (j + 1) := by
  have hj := (List.getElem?_eq_some_iff.1 h).1
  have hl : ((to.take j).map (reV n)).length = j := by rw [List.length_map, List.length_take]; omega
  unfold mixV
  rw [List.set_append_right _ _ (by omega), hl, Nat.sub_self, drop_cons h, List.set_cons_zero, take_snoc h, List.map_append, List.append_assoc]
  rfl
theorem rowV_set {n : Nat} {to : List SEdge} {j : Nat} {e : SEdge} (h : to[j]? = some e) (rest : List V) : (ecells (mixV n to j) ++ rest).set (j * 2 + 0) (.int ((n : Int) - e.block)) = ecells (mixV n to (j + 1)) ++ rest := by
  have hj := (List.getElem?_eq_some_iff.1 h).1
  rw [Nat.add_zero, List.set_append_left _ _ (by rw [ecells_len, mixV_len]; omega), ecells_set (mixV_get h)]
  exact congrArg (fun l => ecells l ++ rest) (mixV_step h)
theorem setV_self {rows : List (Option XRow)} {v : Nat} {o : Option XRow} {n : Nat} {to : List SEdge} (h : rows[v]? = some o) (hx : xl o = to.map edgeV) : rows.set v (setE o (mixV n to 0)) = rows := by
  rw [mixV_zero, setE_self hx]
  apply List.ext_getElem?
  intro i
  rw [List.getElem?_set]
  split
  · rename_i e
    subst e
    rw [if_pos (List.getElem?_eq_some_iff.1 h).1, h]
  · rfl
theorem reV_eq {f : SFunc} (hE : ∀ b ∈ f.blocks, ∀ e ∈ b.term.to, 1 ≤ e.block ∧ e.block < f.blocks.length) {b : SBlock} (hb : b ∈ f.blocks) : b.term.to.map (reV f.blocks.length) = (reP (piN f.blocks.length) b).term.to := by
  unfold reP
  dsimp only
  refine List.map_congr_left fun e he => ?_
  have := hE b hb e he
  unfold reV piN
  rw [if_neg (by omega)]
  congr 1
  omega
structure QInv (f : SFunc) (rows rows2 : List (Option XRow)) (p : Nat) : Prop where
  len : rows2.length = rows.length
  row : ∀ (v : Nat) (b : SBlock) (o o2 : Option XRow), f.blocks[v]? = some b → rows[v]? = some o → rows2[v]? = some o2 → xLeaf o2 = xLeaf o ∧ xOk 2 o2 ∧ xl o2 = (if v ∈ (ixR f.blocks.length 0).take p then b.term.to.map (reV f.blocks.length) else b.term.to).map edgeV
theorem qinv_start {f : SFunc} {rows : List (Option XRow)} (h : RowsOk f.blocks rows) : QInv f rows rows 0 := ⟨rfl, fun v b o o2 hb ho h2 => by
  rw [ho] at h2
  injection h2 with h2
  subst h2
  obtain ⟨h3, h4⟩ := h.row v b o hb ho
  exact ⟨rfl, h4, by rw [List.take_zero, if_neg (by simp)]; exact h3⟩⟩
theorem qinv_step {f : SFunc} {rows rows2 : List (Option XRow)} {p v : Nat} {b : SBlock} {o2 : Option XRow} (h : QInv f rows rows2 p) (hv : (ixR f.blocks.length 0)[p]? = some v) (hb : f.blocks[v]? = some b) (h2 : rows2[v]? = some o2) (hx : xl o2 = b.term.to.map edgeV) : QInv f rows (rows2.set v (setE o2 (mixV f.blocks.length b.term.to b.term.to.length))) (p + 1) := by
  refine ⟨by rw [List.length_set]; exact h.len, fun w c o q hc ho hp => ?_⟩
  rw [List.getElem?_set] at hp
  split at hp
  · rename_i e
    subst e
    rw [hb] at hc
    injection hc with hc
    subst hc
    split at hp
    · injection hp with hp
      subst hp
      obtain ⟨a1, a2, a3⟩ := h.row v b o o2 hb ho h2
      have hl : (xl o2).length = (mixV f.blocks.length b.term.to b.term.to.length).length := by rw [hx, List.length_map, mixV_len]
      refine ⟨(xLeaf_set hl).trans a1, xOk_set hx (by rw [mixV_len]) a2, ?_⟩
      rw [if_pos (by rw [take_snoc hv]; simp), xl_set hl, mixV_end]
    · cases hp
  · rename_i e
    obtain ⟨a1, a2, a3⟩ := h.row w c o q hc ho hp
    refine ⟨a1, a2, ?_⟩
    rw [a3]
    have : w ∈ (ixR f.blocks.length 0).take (p + 1) ↔ w ∈ (ixR f.blocks.length 0).take p := by
      rw [take_snoc hv, List.mem_append, List.mem_singleton]
      exact ⟨fun h => h.resolve_right fun h => e h.symm, .inl⟩
    simp only [this]
theorem not_yet {n p v : Nat} (hv : (ixR n 0)[p]? = some v) : v ∉ (ixR n 0).take p := fun h => by
  obtain ⟨j, hj⟩ := List.getElem?_of_mem h
  have hjp := (List.getElem?_eq_some_iff.1 hj).1
  rw [List.length_take] at hjp
  rw [List.getElem?_take_of_lt (by omega)] at hj
  obtain ⟨a1, a2⟩ := List.getElem?_eq_some_iff.1 hv
  obtain ⟨b1, b2⟩ := List.getElem?_eq_some_iff.1 hj
  have := (List.getElem_inj (ixR_nodup n 0)).1 (a2.trans b2.symm)
  omega
def laid (f : SFunc) (rows : List (Option XRow)) (l : List Nat) : List V := l.map fun v => cpV (bAt f.blocks v) (rowV rows v)
theorem laid_get {f : SFunc} {rows : List (Option XRow)} {l : List Nat} {p v : Nat} {b : SBlock} {o o2 : Option XRow} (hv : l[p]? = some v) (hb : f.blocks[v]? = some b) (ho : rows[v]? = some o) (hl : xLeaf o2 = xLeaf o) : (laid f rows l)[p]? = some (cpV b o2) := by
  unfold laid
  rw [List.getElem?_map, hv]
  show some (cpV (bAt f.blocks v) (rowV rows v)) = _
  have e : rowV rows v = o := by unfold rowV; rw [ho]; rfl
  rw [bAt_get hb, e, cp_leaf hl]
theorem laid_snoc {f : SFunc} {rows : List (Option XRow)} {k : Nat} {b : SBlock} {o : Option XRow} (hk : k + 1 < f.blocks.length) (hb : f.blocks[k + 1]? = some b) (ho : rows[k + 1]? = some o) : laid f rows (ixR f.blocks.length (k + 1)) ++ [cpV b o] = laid f rows (ixR f.blocks.length k) := by
  unfold laid
  have e : rowV rows (k + 1) = o := by unfold rowV; rw [ho]; rfl
  rw [ixR_step hk, List.map_append, List.map_singleton, bAt_get hb, e]
theorem laid_start {f : SFunc} {rows : List (Option XRow)} (hr : rows.length = f.blocks.length) (hn : 0 < f.blocks.length) : (cpL f.blocks rows).take 1 = laid f rows (ixR f.blocks.length (f.blocks.length - 1)) := by
  rw [ixR_start]
  obtain ⟨b, hb⟩ := get_of_lt f.blocks 0 (by omega)
  obtain ⟨o, ho⟩ := get_of_lt rows 0 (by omega)
  have h := cpL_get hb ho
  show _ = [cpV (bAt f.blocks 0) (rowV rows 0)]
  have e : rowV rows 0 = o := by unfold rowV; rw [ho]; rfl
  rw [bAt_get hb, e]
  cases hc : cpL f.blocks rows with
  | nil => rw [hc] at h; cases h
  | cons x l =>
    rw [hc] at h
    injection h with h
    rw [h]
    rfl
theorem laid_len (f : SFunc) (rows : List (Option XRow)) (l : List Nat) : (laid f rows l).length = l.length := List.length_map ..
theorem repL_setv {m : Mem} {v' : V} : ∀ {ls : List V} {us : List Value} {j : Nat} {v : V}, RepL m ls us → ls[j]? = some v → (∀ u, Rep m v u → Rep m v' u) → RepL m (ls.set j v') us
  | [], _, _, _, _, h, _ => by simp at h
  | x :: ls, us, 0, v, ⟨u, us', e, r, k⟩, h, hc => by
    have h : x = v := by simpa using h
    subst h
    exact ⟨u, us', e, hc u r, k⟩
  | x :: ls, us, j + 1, v, ⟨u, us', e, r, k⟩, h, hc => ⟨u, us', e, r, repL_setv k (by simpa using h) hc⟩
theorem cp_conv {m : Mem} {b b' : SBlock} {o : Option XRow} (h : cpV b o = cpV b' o) (hc : ∀ u, Rep m (xLeaf o) u → Rep m (edgesX b'.term.to) u) : ∀ u, Rep m (cpV b o) u → Rep m (blockV b') u := fun u hu => by
  rw [h] at hu
  obtain ⟨_, cs, e, r⟩ := hu
  exact ⟨rfl, cs, e, repL_setv (j := 6) r rfl hc⟩
theorem mid_one {α : Type} {pre post : List α} {x x' : α} {p : Nat} {y y' : α} (h1 : (pre ++ x :: post)[p]? = some y) (h2 : (pre ++ x' :: post)[p]? = some y') : y = x ∧ y' = x' ∨ y = y' := by
  by_cases h : p < pre.length
  · rw [List.getElem?_append_left h] at h1 h2
    rw [h1] at h2
    injection h2 with h2
    exact .inr h2
  · rw [List.getElem?_append_right (by omega)] at h1 h2
    cases hp : p - pre.length with
    | zero =>
      rw [hp] at h1 h2
      injection h1 with h1
      injection h2 with h2
      exact .inl ⟨h1.symm, h2.symm⟩
    | succ q =>
      rw [hp] at h1 h2
      have h1 : post[q]? = some y := h1
      have h2 : post[q]? = some y' := h2
      rw [h1] at h2
      injection h2 with h2
      exact .inr h2
theorem freeze_laid {nt : Nat} {Q : Exit → Fr → Store → Prop} {F : Fr} {c : Code} (g : Nat) (nm : V) (R : Store) : ∀ (L : List (SBlock × Option XRow)) (pre : List V), (∀ x ∈ L, xl x.2 = x.1.term.to.map edgeV ∧ xOk 2 x.2) → VW Try.prog nt c Q F (.cells g 37 [nm, .sl 7 none (pre ++ L.map fun x => blockV x.1)] :: R) → VW Try.prog nt c Q F (.cells g 37 [nm, .sl 7 none (pre ++ L.map fun x => cpV x.1 x.2)] :: (eOwn (L.map (·.2)) ++ R))
  | [], pre, _, h => h
  | (b, o) :: L, pre, ho, h => by
    obtain ⟨hx, hk⟩ := ho _ (List.mem_cons_self ..)
    have h2 := freeze_laid g nm R L (pre ++ [blockV b]) (fun x hx => ho x (List.mem_cons_of_mem _ hx)) (by rw [List.append_assoc]; exact h)
    rw [List.append_assoc] at h2
    have h2 : VW Try.prog nt c Q F (.cells g 37 [nm, .sl 7 none (pre ++ blockV b :: L.map fun x => cpV x.1 x.2)] :: (eOwn (L.map (·.2)) ++ R)) := h2
    cases o with
    | none =>
      have hto : b.term.to = [] := by
        have hx : ([] : List V) = b.term.to.map edgeV := hx
        exact List.map_eq_nil_iff.1 hx.symm
      refine VW_cellS 0 1 (ys' := pre ++ blockV b :: L.map fun x => cpV x.1 x.2) rfl rfl (by simp) (fun p y y' h3 h4 => ?_) h2
      rcases mid_one h3 h4 with ⟨rfl, rfl⟩ | rfl
      · exact fun m u hu => cp_conv rfl (fun u hu => by rw [hto]; exact V.le.nil 2 m u hu) u hu
      · exact V.le.refl _
    | some r =>
      obtain ⟨q2, q3, q4⟩ := hk
      have hx : r.xs = b.term.to.map edgeV := hx
      refine VW_freezeS 1 0 1 (sz := 2) (rest := r.rest) (ys' := pre ++ blockV b :: L.map fun x => cpV x.1 x.2) (b.term.to.map edgeV) rfl rfl rfl (by rw [hx]) (by rw [hx]) q2 q3 (fits_es _) (by simp) (fun m hm p y y' h3 h4 => ?_) h2
      rcases mid_one h3 h4 with ⟨rfl, rfl⟩ | rfl
      · refine cp_conv rfl fun u hu => ?_
        have hu : u = .slice (some ⟨r.g, 0, none⟩) r.xs.length r.cap := hu
        rw [hu]
        exact hm
      · exact fun u hu => hu
def pairsO (f : SFunc) (rows2 : List (Option XRow)) : List (SBlock × Option XRow) := (ixR f.blocks.length 0).map fun v => (reP (piN f.blocks.length) (bAt f.blocks v), rowV rows2 v)
theorem pairsO_ok {f : SFunc} (hf : FuncOk f) {rows rows2 : List (Option XRow)} (hr : rows.length = f.blocks.length) (h : QInv f rows rows2 f.blocks.length) : ∀ x ∈ pairsO f rows2, xl x.2 = x.1.term.to.map edgeV ∧ xOk 2 x.2 := fun x hx => by
  obtain ⟨v, hv, rfl⟩ := List.mem_map.1 hx
  have hvl := ixR_lt hf.pos hv
  obtain ⟨b, hb⟩ := get_of_lt f.blocks v (by omega)
  obtain ⟨o, h1⟩ := get_of_lt rows v (by omega)
  obtain ⟨o2, h2⟩ := get_of_lt rows2 v (by rw [h.len]; omega)
  obtain ⟨a1, a2, a3⟩ := h.row v b o o2 hb h1 h2
  have hl : (ixR f.blocks.length 0).length = f.blocks.length := ixR_len hf.pos
  rw [List.take_of_length_le (by omega), if_pos hv, reV_eq hf.edges (List.mem_of_getElem? hb)] at a3
  have e1 : rowV rows2 v = o2 := by unfold rowV; rw [h2]; rfl
  dsimp only
  rw [e1, bAt_get hb]
  exact ⟨a3, a2⟩
theorem pairsO_cp {f : SFunc} (hf : FuncOk f) {rows rows2 : List (Option XRow)} (hr : rows.length = f.blocks.length) (h : QInv f rows rows2 f.blocks.length) : laid f rows (ixR f.blocks.length 0) = (pairsO f rows2).map fun x => cpV x.1 x.2 := by
  unfold pairsO laid
  rw [List.map_map]
  refine List.map_congr_left fun v hv => ?_
  have hvl := ixR_lt hf.pos hv
  obtain ⟨b, hb⟩ := get_of_lt f.blocks v (by omega)
  obtain ⟨o, h1⟩ := get_of_lt rows v (by omega)
  obtain ⟨o2, h2⟩ := get_of_lt rows2 v (by rw [h.len]; omega)
  obtain ⟨a1, _, _⟩ := h.row v b o o2 hb h1 h2
  have e1 : rowV rows2 v = o2 := by unfold rowV; rw [h2]; rfl
  have e3 : rowV rows v = o := by unfold rowV; rw [h1]; rfl
  show cpV (bAt f.blocks v) (rowV rows v) = cpV (reP _ (bAt f.blocks v)) (rowV rows2 v)
  rw [e1, e3, cp_leaf a1]
  rfl
theorem rowsO_perm {f : SFunc} (hf : FuncOk f) {rows2 : List (Option XRow)} (h : rows2.length = f.blocks.length) : (eOwn rows2).Perm (eOwn ((pairsO f rows2).map (·.2))) := by
  have h1 : ((pairsO f rows2).map (·.2)) = (ixR f.blocks.length 0).map (rowV rows2) := by
    unfold pairsO
    rw [List.map_map]
    rfl
  have h2 : ((ixR f.blocks.length 0).map (rowV rows2)).Perm rows2 := by
    have h3 := ((List.perm_ext_iff_of_nodup (ixR_nodup f.blocks.length 0) List.nodup_range).2 fun a => ⟨fun h => List.mem_range.2 (ixR_lt hf.pos h), fun h => ixR_mem (List.mem_range.1 h)⟩).map (rowV rows2)
    have h4 : (List.range f.blocks.length).map (rowV rows2) = rows2 := by
      apply List.ext_getElem
      · simp [h]
      · intro i a b
        simp [rowV, List.getElem?_eq_getElem b]
    rw [h4] at h3
    exact h3
  rw [h1]
  exact h2.symm.flatMap_right _
theorem pairsO_blocks (f : SFunc) (rows2 : List (Option XRow)) : (pairsO f rows2).map (fun x => blockV x.1) = (revF f).blocks.map blockV := by
  unfold pairsO revF
  rw [List.map_map, List.map_map]
  rfl
theorem fns_256 {u : SUnit} (h : unitF u = 0) : u.fns.length ≤ 256 := by
  unfold unitF at h
  split at h
  · cases h
  · split at h
    · cases h
    · omega
open Go.VL renaming VOps_nil → Za, VW_seq → Zb, VW_region → Zd, Needs_nil → Ze, Then_n → Zi, V_fieldAddr → Zj, V_assign → Zk, V_move → Zl, eqRes → Zm, vopT → Zn, goodS → Zo, VW_block → Zs, VW_exit → Zt, V_load → Zu, V_load_agg → Zv, V_store_agg → Zx, V_store → Zy, V_indexAddr → Zz, InBlock_n → Zb1, InBlock_hit → Zc1, Then_r → Zd1, Then_e → Ze1, VW_ret → Zf1, VRet_one → Zg1, VW_skip → Zi1, V_bin → Zj1, VW_condNe → Zm1, VW_condP → Zn1, VW_condF → Zq1, V_pickT → Zs1, V_fieldAddr_ep → Zw1, V_callP → Zx1, V_load_ep → Zz1, V_load_ep_agg → Za2, V_alloc → Zb2, V_box → Zc2, V_len → Ze2, V_build → Zf2, V_extract → Zg2, V_add → Zh2, VW_loopF → Zi2, VOps_split → Zj2, V_sub → Zk2, V_not → Zl2, goodA → Zm2, goodU1 → Zn2, goodU → Zo2, evs_cons → Zp2, evs_nil → Zq2, V_indexAddr_row → Zr2, V_fieldAddr_ep_agg → Zs2, Drops.refl → Zt2, VOp_as → Zu2, oneRes → Zw2, oneE → Zx2, anyRes → Za3, epRes → Zb3, epE → Zc3, oneY → Zd3, V_appendN → Zi3, V_lit → Zk3
set_option maxRecDepth 100000 in
set_option maxHeartbeats 16000000 in
theorem ssaOrder_c (u : SUnit) : VPure Try.prog 4 [unitV u] (.bool true) := by
 refine V_start (nt := 132) Try.func4 rfl rfl rfl ?_
 refine Zb (Zd ?_)
 refine Zc (Zc2 rfl rfl (fun g1 => ?_))
 refine Zc (Zk rfl (Za (Zi (Zb (Zb (Zd ?_))))))
 refine Zc (Zx1 [] rfl rfl VT.en6 (works_c) ?_)
 refine Zc (Zl2 rfl (Za (Zi ?_)))
 refine Zq1 rfl (rfl) ?_
 refine Zi1 (Zi (Zb (Zd (Zc (Zv 0 VT.ty24 rfl rfl rfl ?_)))))
 refine Zc (Zx1 [.tmp 19, .const (.int .i64 (2000))] rfl rfl VT.en7 (Run_c u 2000) ?_)
 refine Zc (Zl rfl (Zc (Zg2 rfl rfl (Zc (Zg2 rfl rfl (Zc (Zg2 rfl rfl ?_)))))))
 refine Zc (Zb2 VT.zr28 _ rfl rfl (fun g3 => ?_))
 refine Zc (Zx 0 VT.ty28 rfl rfl rfl rfl rfl (Zc (Zk rfl (Zc (Zk rfl (Za (Zi (Zb (Zb (Zd (Zc (Zl rfl (Zc (Zj1 rfl rfl rfl (Za (Zi ?_))))))))))))))))
 refine Zm1 rfl (fun h25 => ?_) (fun h25 => ?_)
 ·
  refine Zb (Zd (Zc (Zk rfl (Za (Zi (Zf1 ?_))))))
  refine Zd1 (Zg1 rfl (.tmp rfl) ?_)
  first | rfl | exact congrArg V.bool (sameOut_iff.2 rfl)
 ·
  have hx0 : (runF u 2000).2.2 = 0 := h25
  have hU := run_unit hx0
  have hfs := rv_fns hU
  have hul := fns_256 hU
  have hrun := rev_run hx0
  have hcp : ∀ f ∈ u.fns, CpOk f := fun f hf => cp_ok (hfs f hf)
  refine Zi1 (Zi (Zb (Zd (Zc (Zj VT.fa24_1 rfl (Zc (Zu 1 VT.ty3 rfl rfl rfl ?_)))))))
  refine Zc (Zf2 [1] [.tmp 27] VT.st24 rfl rfl rfl rfl ?_)
  refine Zc (Zb2 VT.zr24 _ rfl rfl (fun g6 => ?_))
  refine Zc (Zx 0 VT.ty24 rfl rfl rfl rfl rfl (Za (Zi ?_)))
  refine VW_cells 0 (ls' := [.sl 2 (some .nil) [], .int u.main]) rfl ⟨V.le.nilTok 2, rfl, V.le.refl _, rfl, trivial⟩ ?_
  refine VW_nilBuf 37 2 ?_
  refine Zb (Zb (Zd (Zc (Zv 3 VT.ty24 rfl rfl rfl ?_))))
  refine Zc (V_callB [.tmp 29] [_, _, _, _] _ rfl rfl VT.en8 (.refl _) (CopyUnit_c hcp hul) ?_)
  rintro r0 Sa ⟨Rs, hRs, rfl, rfl⟩
  refine Zc (V_field (x := 0) VT.fa24_0 rfl rfl ?_)
  refine Zc (Ze2 Try.underlying22 rfl (fun hl32 => ?_))
  refine Zc (Zl rfl (Za (Zi ?_)))
  have hcl := cuL_len hRs
  rw [hcl]
  refine Zs ?_
  refine Zi2 (ι := Nat × Tok) (fun (i, tok) => u.fns.length - i) (fun (i, tok) => [(1, some (.ptr g1 0)), (3, some (.ptr g3 0)), (4, some (.int (runF u 2000).2.1)), (6, some (.ptr g6 0)), (31, some (.sl 2 none (cuL u.fns Rs))), (32, some (.int u.fns.length)), (33, some (.int i))]) (fun (i, tok) => .buf tok 37 2 i :: .cells g6 24 [.sl 2 (some tok) ((u.fns.take i).map fun f => funcV (revF f)), .int u.main] :: .cells g3 28 (resultV (runF u 2000).1).leaves :: .cells g1 24 [funcsX u.fns, .int u.main] :: uOwn (Rs.drop i)) (fun (i, tok) => i ≤ u.fns.length) (0, .nil) (Nat.zero_le _) ⟨rfl, rfl, rfl, rfl, rfl, rfl, rfl, trivial⟩ (Drops.buf (by simp) (Drops.keep (Drops.keep (Drops.keep (Zt2 _))))) ?_
  rintro ⟨i, tok⟩ hi
  change i ≤ u.fns.length at hi
  refine Zb (Zd (Zc (Zj1 rfl rfl rfl (Za (Zi (Zb ?_))))))
  refine Zn1 rfl (fun h34 => ?_) (fun h34 => ?_)
  ·
   obtain ⟨f, hf⟩ := get_of_lt u.fns i h34
   have hRl := hRs.1
   obtain ⟨rows, hrs⟩ := get_of_lt Rs i (by omega)
   have hR := hRs.2 i f rows hf hrs
   have h0 := hfs f (List.mem_of_getElem? hf)
   have hok := func_ok h0
   have hpos := hok.pos
   have h128 := hok.len
   have hcl2 := cpL_len hR
   have hRl2 := hR.len
   have hxl : (ixR f.blocks.length 0).length = f.blocks.length := ixR_len hpos
   have hY : uOwn (Rs.drop i) = eOwn rows ++ uOwn (Rs.drop (i + 1)) := by rw [drop_cons hrs]; rfl
   refine VW_perm (S' := .buf tok 37 2 i :: .cells g6 24 [.sl 2 (some tok) ((u.fns.take i).map fun f => funcV (revF f)), .int u.main] :: .cells g3 28 (resultV (runF u 2000).1).leaves :: .cells g1 24 [funcsX u.fns, .int u.main] :: (eOwn rows ++ uOwn (Rs.drop (i + 1)))) (by show (Own.buf tok 37 2 i :: Own.cells g6 24 [.sl 2 (some tok) ((u.fns.take i).map fun f => funcV (revF f)), .int u.main] :: Own.cells g3 28 (resultV (runF u 2000).1).leaves :: Own.cells g1 24 [funcsX u.fns, .int u.main] :: (uOwn (Rs.drop i)) : Store).Perm _; rw [hY]) ?_
   refine Zi1 (Zi (Zb (Zs (Zb (Zd ?_)))))
   refine Zc (Zz (el := cuV f rows) VT.sl22 rfl rfl (by omega) (cuL_get hf hrs) (fun a35 => ?_))
   refine Zc (Za2 VT.ty37 rfl rfl ?_)
   refine Zc (Zb2 VT.zr37 _ rfl rfl (fun g8 => ?_))
   refine Zc (Zx 0 VT.ty37 rfl rfl rfl rfl rfl (Za (Zi (Zb ?_))))
   refine VW_drawR (G := Nat) [([], [8], []), ([0], [37], []), ([], [8], []), ([2], [39], []), ([3, 2], [40], []), (dn 5, [38, 41], []), ([], [], [0]), (dn 7, [9, 42], [])] [6, 7] (twoSt _ (fun x => .cells x 37 VT.zs37 :: .cells g8 37 [.int f.name, .sl 7 none (cpL f.blocks rows)] :: .buf tok 37 2 i :: .cells g6 24 [.sl 2 (some tok) ((u.fns.take i).map fun f => funcV (revF f)), .int u.main] :: .cells g3 28 (resultV (runF u 2000).1).leaves :: .cells g1 24 [funcsX u.fns, .int u.main] :: (eOwn rows ++ uOwn (Rs.drop (i + 1)))) (fun x _ => .cells x 37 [.int f.name, .sl 7 none (laid f rows (ixR f.blocks.length (f.blocks.length - 1)))] :: .cells g8 37 [.int f.name, .sl 7 none (cpL f.blocks rows)] :: .buf tok 37 2 i :: .cells g6 24 [.sl 2 (some tok) ((u.fns.take i).map fun f => funcV (revF f)), .int u.main] :: .cells g3 28 (resultV (runF u 2000).1).leaves :: .cells g1 24 [funcsX u.fns, .int u.main] :: (eOwn rows ++ uOwn (Rs.drop (i + 1))))) [9] [9, 37, 38, 39, 40, 41, 42] rfl VT.mix ?_
   refine Zp (Zm _) (Zm2 rfl (fun _ => (fun γ => Zf (fun _ h8 => Ze (Zn rfl (Zj VT.fa37_0 h8 ⟨rfl, rfl⟩)))))) ?_
   refine Zp (Zm _) (Zo rfl rfl ⟨(fun γ => Zw 0 0 rfl (fun _ h37 => Ze (Zn rfl (Zu 0 VT.ty3 h37 rfl rfl ⟨rfl, rfl⟩)))), (fun γ => Zw 0 0 rfl (fun _ h37 => Ze (Zn rfl (Zu 1 VT.ty3 h37 rfl rfl ⟨rfl, rfl⟩)))), trivial⟩) ?_
   refine Zp (Zm _) (Zm2 rfl (fun _ => (fun γ => Zf (fun _ h8 => Ze (Zn rfl (Zj VT.fa37_1 h8 ⟨rfl, rfl⟩)))))) ?_
   refine Zp (Zm _) (Zo rfl rfl ⟨(fun γ => Zw 2 0 rfl (fun _ h39 => Ze (Zn rfl (Zu 0 VT.ty35 h39 rfl rfl ⟨rfl, rfl⟩)))), (fun γ => Zw 2 0 rfl (fun _ h39 => Ze (Zn rfl (Zu 1 VT.ty35 h39 rfl rfl ⟨rfl, rfl⟩)))), trivial⟩) ?_
   refine Zp (Zm _) (Zm2 rfl (fun _ => (fun γ => Zw 3 0 rfl (fun _ h40 => Ze (Zn rfl (Zu2 (V_sliceTo VT.sl35 h40 rfl (by omega) (by rw [hcl2]; omega) ⟨rfl, rfl⟩) (V.le.of_eq (v' := .sl 7 none (laid f rows (ixR f.blocks.length (f.blocks.length - 1)))) (congrArg (V.sl 7 none) (laid_start hRl2 hpos))) ⟨rfl, rfl⟩)))))) ?_
   refine Zp (Zm _) (Zm2 rfl (fun _ => (fun γ => Zw 1 3 rfl (fun _ h38 => Zw 4 0 rfl (fun _ h41 => Ze (Zn rfl (Zf2 [0, 1] [.tmp 38, .tmp 41] VT.st37 rfl rfl (Zp2 h38 (Zp2 h41 Zq2)) rfl ⟨rfl, rfl⟩))))))) ?_
   refine Zp (Zw2 (fun g => .ptr g 0)) (Zo2 0 rfl (fun γ => Ze (Zn rfl (Zb2 VT.zr37 _ rfl rfl (fun g9 => ⟨g9, ⟨g9, rfl, rfl⟩, rfl⟩))))) ?_
   refine Zp Za3 (Zo2 1 rfl (fun γ => Zw 6 0 rfl (fun _ h9 => Zw 5 1 rfl (fun _ h42 => Ze (Zx2 h9 (fun e9 => Zn rfl (Zx 0 VT.ty37 e9 h42 rfl rfl rfl ⟨default, trivial, rfl⟩))))))) ?_
   refine DrawP_nil (fun γ => Zw 6 1 rfl (fun r9 h9 => Ze ?_))
   have e9 : r9 = some _ := Zd3 h9
   subst e9
   clear h9
   refine Zi ?_
   refine VW_perm (S' := .cells (γ 0) 37 [.int f.name, .sl 7 none (laid f rows (ixR f.blocks.length (f.blocks.length - 1)))] :: .cells g8 37 [.int f.name, .sl 7 none (cpL f.blocks rows)] :: .buf tok 37 2 i :: .cells g6 24 [.sl 2 (some tok) ((u.fns.take i).map fun f => funcV (revF f)), .int u.main] :: .cells g3 28 (resultV (runF u 2000).1).leaves :: .cells g1 24 [funcsX u.fns, .int u.main] :: (eOwn rows ++ uOwn (Rs.drop (i + 1)))) (List.Perm.refl _) ?_
   generalize hg9 : γ 0 = g9
   refine Zb (Zb (Zd (Zc (Zj VT.fa37_1 rfl (Zc (Zu 1 VT.ty35 rfl rfl rfl ?_))))))
   refine Zc (Zu2 (Ze2 Try.underlying35 rfl (fun hl45 => ⟨rfl, rfl⟩)) ((V.le.of_eq (by rw [hcl2]) : V.le _ (.int (f.blocks.length : Int)))) ?_)
   refine Zc (Zk2 rfl rfl (by omega) ?_)
   refine Zc (Zk rfl (Za (Zi (Zs ?_))))
   refine Zi2 (ι := Nat) (fun k => k) (fun k => [(1, some (.ptr g1 0)), (3, some (.ptr g3 0)), (4, some (.int (runF u 2000).2.1)), (6, some (.ptr g6 0)), (31, some (.sl 2 none (cuL u.fns Rs))), (32, some (.int u.fns.length)), (33, some (.int i)), (8, some (.ptr g8 0)), (9, some (.ptr g9 0)), (10, some (.int k))]) (fun k => .cells g9 37 [.int f.name, .sl 7 none (laid f rows (ixR f.blocks.length k))] :: .cells g8 37 [.int f.name, .sl 7 none (cpL f.blocks rows)] :: .buf tok 37 2 i :: .cells g6 24 [.sl 2 (some tok) ((u.fns.take i).map fun f => funcV (revF f)), .int u.main] :: .cells g3 28 (resultV (runF u 2000).1).leaves :: .cells g1 24 [funcsX u.fns, .int u.main] :: (eOwn rows ++ uOwn (Rs.drop (i + 1)))) (fun k => k < f.blocks.length) (f.blocks.length - 1) (by show _ < _; omega) ⟨rfl, rfl, rfl, rfl, rfl, rfl, rfl, rfl, rfl, (congrArg (fun n : Int => some (V.int n)) (by omega)), trivial⟩ (Drops.keep (Drops.keep (Drops.buf (by simp) (Drops.keep (Drops.keep (Drops.keep (Zt2 _))))))) ?_
   rintro k hk
   change k < f.blocks.length at hk
   refine Zb (Zb (Zd (Zc (Zl rfl (Zc (Zj1 rfl rfl rfl (Za (Zi ?_))))))))
   refine Zn1 rfl (fun h48 => ?_) (fun h48 => ?_)
   ·
    obtain ⟨k, rfl⟩ : ∃ q, k = q + 1 := ⟨k - 1, by omega⟩
    obtain ⟨b, hb⟩ := get_of_lt f.blocks (k + 1) (by omega)
    obtain ⟨o, hro⟩ := get_of_lt rows (k + 1) (by omega)
    refine Zi1 (Zi (Zb (Zs ?_)))
    refine VW_drawR (G := Tok) [([], [], []), ([], [9], []), ([1], [52], []), ([2, 1, 0], [51, 53], [0]), ([], [8], []), ([4], [55], []), ([], [10], []), ([6, 5, 4], [56, 57], []), ([7, 6, 5, 4], [58], []), ([8, 7, 6, 5, 4], [59], []), (dn 10, [54, 60], [1]), (dn 11, [9], []), (dn 12, [62, 61], [])] [3, 10, 12] (fourSt _ (fun x => .buf x 44 7 (laid f rows (ixR f.blocks.length (k + 1))).length :: .cells g9 37 [.int f.name, .sl 7 none (laid f rows (ixR f.blocks.length (k + 1)))] :: .cells g8 37 [.int f.name, .sl 7 none (cpL f.blocks rows)] :: .buf tok 37 2 i :: .cells g6 24 [.sl 2 (some tok) ((u.fns.take i).map fun f => funcV (revF f)), .int u.main] :: .cells g3 28 (resultV (runF u 2000).1).leaves :: .cells g1 24 [funcsX u.fns, .int u.main] :: (eOwn rows ++ uOwn (Rs.drop (i + 1)))) (fun x y => .buf y 44 7 ((laid f rows (ixR f.blocks.length (k + 1))) ++ [cpV b o]).length :: .cells g9 37 [.int f.name, .sl 7 none (laid f rows (ixR f.blocks.length (k + 1)))] :: .cells g8 37 [.int f.name, .sl 7 none (cpL f.blocks rows)] :: .buf tok 37 2 i :: .cells g6 24 [.sl 2 (some tok) ((u.fns.take i).map fun f => funcV (revF f)), .int u.main] :: .cells g3 28 (resultV (runF u 2000).1).leaves :: .cells g1 24 [funcsX u.fns, .int u.main] :: (eOwn rows ++ uOwn (Rs.drop (i + 1)))) (fun x y _ => .buf y 44 7 ((laid f rows (ixR f.blocks.length (k + 1))) ++ [cpV b o]).length :: .cells g9 37 [.int f.name, .sl 7 (some y) ((laid f rows (ixR f.blocks.length (k + 1))) ++ [cpV b o])] :: .cells g8 37 [.int f.name, .sl 7 none (cpL f.blocks rows)] :: .buf tok 37 2 i :: .cells g6 24 [.sl 2 (some tok) ((u.fns.take i).map fun f => funcV (revF f)), .int u.main] :: .cells g3 28 (resultV (runF u 2000).1).leaves :: .cells g1 24 [funcsX u.fns, .int u.main] :: (eOwn rows ++ uOwn (Rs.drop (i + 1))))) [] [51, 52, 53, 54, 55, 56, 57, 58, 59, 60, 61, 62] rfl VT.mix ?_
    refine Zp (Zm _) (Zo rfl rfl ⟨(fun γ => Ze (Zn rfl (V_lit0 [] VT.sl35 rfl rfl rfl Zq2 rfl rfl ⟨rfl, rfl⟩))), trivial⟩) ?_
    refine Zp (Zm _) (Zo rfl rfl ⟨(fun γ => Zf (fun _ h9 => Ze (Zn rfl (Zj VT.fa37_1 h9 ⟨rfl, rfl⟩)))), trivial⟩) ?_
    refine Zp (Zm _) (Zo rfl rfl ⟨(fun γ => Zw 1 0 rfl (fun _ h52 => Ze (Zn rfl (Zu 0 VT.ty35 h52 rfl rfl ⟨rfl, rfl⟩)))), trivial⟩) ?_
    refine Zp (Zw2 (fun x => .sl 7 (some x) (laid f rows (ixR f.blocks.length (k + 1))))) (Zo2 0 rfl (fun γ => Zw 0 2 rfl (fun _ h51 => Zw 2 0 rfl (fun _ h53 => Ze (Zn rfl (V_append0 VT.sl35 h51 h53 (by rw [laid_len, ixR_len (by omega)]; omega) (fun t54 => ⟨t54, ⟨t54, rfl, rfl⟩, rfl⟩))))))) ?_
    refine Zp (Zm _) (Zm2 rfl (fun _ => (fun γ => Zf (fun _ h8 => Ze (Zn rfl (Zj VT.fa37_1 h8 ⟨rfl, rfl⟩)))))) ?_
    refine Zp (Zm _) (Zo rfl rfl ⟨(fun γ => Zw 4 0 rfl (fun _ h55 => Ze (Zn rfl (Zu 1 VT.ty35 h55 rfl rfl ⟨rfl, rfl⟩)))), (fun γ => Zw 4 0 rfl (fun _ h55 => Ze (Zn rfl (Zu 2 VT.ty35 h55 rfl rfl ⟨rfl, rfl⟩)))), trivial⟩) ?_
    refine Zp (Zm _) (Zm2 rfl (fun _ => (fun γ => Zf (fun _ h10 => Ze (Zn rfl (Zl h10 ⟨rfl, rfl⟩)))))) ?_
    refine Zp (Zb3 _) (Zm2 rfl (fun _ => (fun γ => Zw 5 1 rfl (fun _ h56 => Zw 6 0 rfl (fun _ h57 => Ze (Zn rfl (Zz (el := cpV b o) VT.sl35 h56 h57 (by omega) (cpL_get hb hro) (fun a58 => ⟨⟨_, rfl⟩, rfl⟩)))))))) ?_
    refine Zp (Zm _) (Zm2 rfl (fun _ => (fun γ => Zw 7 0 rfl (fun _ h58 => Ze (Zc3 h58 (fun a_58 e58 => Zn rfl (Za2 VT.ty44 e58 rfl ⟨rfl, rfl⟩))))))) ?_
    refine Zp (Zm _) (Zo rfl rfl ⟨(fun γ => Zw 8 0 rfl (fun _ h59 => Ze (Zn rfl (Zk3 [.tmp 59] VT.sl35 rfl rfl rfl (Zp2 h59 Zq2) (cpV_fit b o) ⟨rfl, rfl⟩)))), (fun γ => Zw 8 0 rfl (fun _ h59 => Ze (Zn rfl (Zk3 [.tmp 59] VT.sl35 rfl rfl rfl (Zp2 h59 Zq2) (cpV_fit b o) ⟨rfl, rfl⟩)))), trivial⟩) ?_
    refine Zp (Zw2 (fun y => .sl 7 (some y) ((laid f rows (ixR f.blocks.length (k + 1))) ++ [cpV b o]))) (Zo2 1 rfl (fun γ => Zw 3 6 rfl (fun _ h54 => Zw 9 0 rfl (fun _ h60 => Ze (Zx2 h54 (fun e54 => Zn rfl (Zi3 0 _ VT.sl35 e54 h60 rfl rfl (by rw [laid_len, ixR_len (by omega), List.length_singleton]; omega) (fun t61 => ⟨t61, ⟨t61, rfl, rfl⟩, rfl⟩)))))))) ?_
    refine Zp (Zm _) (Zo rfl rfl ⟨(fun γ => Zf (fun _ h9 => Ze (Zn rfl (Zj VT.fa37_1 h9 ⟨rfl, rfl⟩)))), trivial⟩) ?_
    refine Zp Za3 (Zo2 2 rfl (fun γ => Zw 11 0 rfl (fun _ h62 => Zw 10 1 rfl (fun _ h61 => Ze (Zx2 h61 (fun e61 => Zn rfl (Zy 1 VT.ty35 h62 e61 rfl rfl rfl ⟨default, trivial, rfl⟩))))))) ?_
    refine DrawP_nil (fun γ => Ze ?_)
    refine Zb1 (Zi ?_)
    refine VW_drops (.drop (.refl _)) ?_
    refine VW_cells 0 (ls' := [.int f.name, .sl 7 none (laid f rows (ixR f.blocks.length k))]) rfl ⟨V.le.refl _, rfl, (by rw [← laid_snoc (by omega) hb hro]; exact V.le.strip), rfl, trivial⟩ ?_
    refine Zd (Zc (Zl rfl ?_))
    refine Zc (Zk2 rfl rfl (by omega) ?_)
    refine Zc (Zk rfl (Za (Zi ?_)))
    exact ⟨k, (by (try simp only []); omega), (by show _ < _; omega), ⟨rfl, rfl, rfl, rfl, rfl, rfl, rfl, rfl, rfl, (congrArg (fun n : Int => some (V.int n)) (by omega)), trivial⟩, (Drops.keep (Drops.keep (Drops.buf (by simp) (Drops.keep (Drops.keep (Drops.keep (Zt2 _)))))))⟩
   ·
    have hk0 : k = 0 := by omega
    subst hk0
    refine Zt (Ze1 (Ze1 (Zc1 (Zi (Zb (Zb (Zd (Zc (Zj VT.fa37_1 rfl (Zc (Zu 0 VT.ty35 rfl rfl rfl ?_)))))))))))
    refine Zc (Zu2 (Ze2 Try.underlying35 rfl (fun hl65 => ⟨rfl, rfl⟩)) ((V.le.of_eq (by rw [laid_len, hxl]) : V.le _ (.int (f.blocks.length : Int)))) ?_)
    refine Zc (Zl rfl (Za (Zi (Zs ?_))))
    refine Zi2 (ι := Nat × List (Option XRow)) (fun (p, rows2) => f.blocks.length - p) (fun (p, rows2) => [(1, some (.ptr g1 0)), (3, some (.ptr g3 0)), (4, some (.int (runF u 2000).2.1)), (6, some (.ptr g6 0)), (31, some (.sl 2 none (cuL u.fns Rs))), (32, some (.int u.fns.length)), (33, some (.int i)), (8, some (.ptr g8 0)), (9, some (.ptr g9 0)), (65, some (.int f.blocks.length)), (66, some (.int p))]) (fun (p, rows2) => .cells g9 37 [.int f.name, .sl 7 none (laid f rows (ixR f.blocks.length 0))] :: .cells g8 37 [.int f.name, .sl 7 none (cpL f.blocks rows)] :: .buf tok 37 2 i :: .cells g6 24 [.sl 2 (some tok) ((u.fns.take i).map fun f => funcV (revF f)), .int u.main] :: .cells g3 28 (resultV (runF u 2000).1).leaves :: .cells g1 24 [funcsX u.fns, .int u.main] :: (eOwn rows2 ++ uOwn (Rs.drop (i + 1)))) (fun (p, rows2) => p ≤ f.blocks.length ∧ QInv f rows rows2 p) (0, rows) ⟨Nat.zero_le _, qinv_start hR⟩ ⟨rfl, rfl, rfl, rfl, rfl, rfl, rfl, rfl, rfl, rfl, rfl, trivial⟩ (Drops.keep (Drops.keep (Drops.buf (by simp) (Drops.keep (Drops.keep (Drops.keep (Zt2 _))))))) ?_
    rintro ⟨p, rows2⟩ hB
    change p ≤ f.blocks.length ∧ QInv f rows rows2 p at hB
    obtain ⟨hp, hQ⟩ := hB
    refine Zb (Zd (Zc (Zj1 rfl rfl rfl (Za (Zi (Zb ?_))))))
    refine Zn1 rfl (fun h67 => ?_) (fun h67 => ?_)
    ·
     obtain ⟨v, hv⟩ := get_of_lt (ixR f.blocks.length 0) p (by omega)
     have hvl := ixR_lt hpos (List.mem_of_getElem? hv)
     obtain ⟨b, hb⟩ := get_of_lt f.blocks v (by omega)
     obtain ⟨o, hro⟩ := get_of_lt rows v (by omega)
     have hQl := hQ.len
     obtain ⟨o2, h2⟩ := get_of_lt rows2 v (by omega)
     obtain ⟨hlf, hok2, hx2⟩ := hQ.row v b o o2 hb hro h2
     rw [if_neg (not_yet hv)] at hx2
     have hvr : v < rows2.length := (List.getElem?_eq_some_iff.1 h2).1
     have hte := term_edges hok (List.mem_of_getElem? hb)
     have hlx : (xl o2).length = b.term.to.length := by rw [hx2, List.length_map]
     refine Zi1 (Zi (Zb (Zs (Zb (Zd (Zc (Zl rfl (Zc (Zk rfl (Za (Zi (Zb (Zd (Zc (Zj VT.fa37_1 rfl (Zc (Zu 0 VT.ty35 rfl rfl rfl (Zc (Zl rfl ?_)))))))))))))))))))
     refine Zc (Zz (el := cpV b o2) VT.sl35 rfl rfl (by omega) (laid_get hv hb hro hlf) (fun a72 => ?_))
     refine Zc (Zs2 VT.fa44_2 rfl (Zc (Zw1 VT.fa42_4 rfl rfl ?_)))
     refine Zc (Zu2 (Zz1 VT.ty40 rfl (xLeaf_leaf _) ⟨rfl, rfl⟩) ((V.le.of_eq (xLeaf_raw o2) : V.le _ (.raw (.slice (xA o2) (xl o2).length (xcap o2))))) ?_)
     refine Zc (V_len_raw Try.underlying40 rfl ?_)
     refine Zc (Zl rfl (Za (Zi ?_)))
     have hs0 := setV_self (n := f.blocks.length) h2 hx2
     rw [hlx]
     refine VW_perm (S' := .cells g9 37 [.int f.name, .sl 7 none (laid f rows (ixR f.blocks.length 0))] :: .cells g8 37 [.int f.name, .sl 7 none (cpL f.blocks rows)] :: .buf tok 37 2 i :: .cells g6 24 [.sl 2 (some tok) ((u.fns.take i).map fun f => funcV (revF f)), .int u.main] :: .cells g3 28 (resultV (runF u 2000).1).leaves :: .cells g1 24 [funcsX u.fns, .int u.main] :: (eOwn (rows2.set v (setE o2 (mixV f.blocks.length b.term.to 0))) ++ uOwn (Rs.drop (i + 1)))) (by rw [hs0]) ?_
     refine Zs ?_
     refine Zi2 (ι := Nat) (fun j => b.term.to.length - j) (fun j => [(1, some (.ptr g1 0)), (3, some (.ptr g3 0)), (4, some (.int (runF u 2000).2.1)), (6, some (.ptr g6 0)), (31, some (.sl 2 none (cuL u.fns Rs))), (32, some (.int u.fns.length)), (33, some (.int i)), (8, some (.ptr g8 0)), (9, some (.ptr g9 0)), (11, some (.int p)), (65, some (.int f.blocks.length)), (66, some (.int p)), (76, some (.int b.term.to.length)), (77, some (.int j))]) (fun j => .cells g9 37 [.int f.name, .sl 7 none (laid f rows (ixR f.blocks.length 0))] :: .cells g8 37 [.int f.name, .sl 7 none (cpL f.blocks rows)] :: .buf tok 37 2 i :: .cells g6 24 [.sl 2 (some tok) ((u.fns.take i).map fun f => funcV (revF f)), .int u.main] :: .cells g3 28 (resultV (runF u 2000).1).leaves :: .cells g1 24 [funcsX u.fns, .int u.main] :: (eOwn (rows2.set v (setE o2 (mixV f.blocks.length b.term.to j))) ++ uOwn (Rs.drop (i + 1)))) (fun j => j ≤ b.term.to.length) 0 (Nat.zero_le _) ⟨rfl, rfl, rfl, rfl, rfl, rfl, rfl, rfl, rfl, rfl, rfl, rfl, rfl, rfl, trivial⟩ (Drops.keep (Drops.keep (Drops.buf (by simp) (Drops.keep (Drops.keep (Drops.keep (Zt2 _))))))) ?_
     rintro j hj
     change j ≤ b.term.to.length at hj
     refine Zb (Zd (Zc (Zj1 rfl rfl rfl (Za (Zi (Zb ?_))))))
     refine Zn1 rfl (fun h78 => ?_) (fun h78 => ?_)
     ·
      obtain ⟨e, he⟩ := get_of_lt b.term.to j h78
      have hmx := mixV_get (n := f.blocks.length) he
      obtain ⟨r, rfl, hrl⟩ := row_some hx2 he
      obtain ⟨hE1, hE2⟩ := hok.edges b (List.mem_of_getElem? hb) e (List.mem_of_getElem? he)
      refine VW_perm (S' := .cells r.g 48 (ecells (mixV f.blocks.length b.term.to j) ++ r.rest) :: .cells g9 37 [.int f.name, .sl 7 none (laid f rows (ixR f.blocks.length 0))] :: .cells g8 37 [.int f.name, .sl 7 none (cpL f.blocks rows)] :: .buf tok 37 2 i :: .cells g6 24 [.sl 2 (some tok) ((u.fns.take i).map fun f => funcV (revF f)), .int u.main] :: .cells g3 28 (resultV (runF u 2000).1).leaves :: .cells g1 24 [funcsX u.fns, .int u.main] :: (eOwn (rows2.set v none) ++ uOwn (Rs.drop (i + 1)))) (pullL [.cells g9 37 [.int f.name, .sl 7 none (laid f rows (ixR f.blocks.length 0))], .cells g8 37 [.int f.name, .sl 7 none (cpL f.blocks rows)], .buf tok 37 2 i, .cells g6 24 [.sl 2 (some tok) ((u.fns.take i).map fun f => funcV (revF f)), .int u.main], .cells g3 28 (resultV (runF u 2000).1).leaves, .cells g1 24 [funcsX u.fns, .int u.main]] ((eown_some hvr r (mixV f.blocks.length b.term.to j)).append_right _)) ?_
      refine Zi1 (Zi (Zb (Zs (Zb (Zd (Zc (Zl rfl (Zc (Zk rfl (Za (Zi ?_)))))))))))
      refine VW_drawR (G := Unit) [([], [9], []), ([0], [80], []), ([], [11], []), ([2, 1, 0], [81, 82], []), (dn 4, [83], []), (dn 5, [84], []), (dn 6, [85], []), ([], [12], []), ([], [8], []), ([8], [88], []), ([9, 8], [89], []), ([], [9], []), ([11], [91], []), ([], [11], []), ([13, 12, 11], [92, 93], []), ([14, 13, 12, 11], [94], []), ([15, 14, 13, 12, 11], [95], []), ([16, 15, 14, 13, 12, 11], [96], []), ([], [12], []), ([18, 17, 16, 15, 14, 13, 12, 11], [97, 98], []), ([19, 18, 17, 16, 15, 14, 13, 12, 11], [99], []), ([20, 19, 18, 17, 16, 15, 14, 13, 12, 11], [100], []), ([21, 20, 19, 18, 17, 16, 15, 14, 13, 12, 11, 10, 9, 8], [90, 101], []), (dn 23, [86, 87], []), (dn 24, [103], []), (dn 25, [104, 102], [])] [25] (setSt _ 0 (fun _ => .cells r.g 48 ((ecells (mixV f.blocks.length b.term.to j) ++ r.rest).set (j * 2 + 0) (.int ((f.blocks.length : Int) - e.block))))) [] [80, 81, 82, 83, 84, 85, 86, 87, 88, 89, 90, 91, 92, 93, 94, 95, 96, 97, 98, 99, 100, 101, 102, 103, 104] rfl VT.mix ?_
      refine Zp (Zm _) (Zo rfl rfl ⟨(fun γ => Zf (fun _ h9 => Ze (Zn rfl (Zj VT.fa37_1 h9 ⟨rfl, rfl⟩)))), trivial⟩) ?_
      refine Zp (Zm _) (Zo rfl rfl ⟨(fun γ => Zw 0 0 rfl (fun _ h80 => Ze (Zn rfl (Zu 1 VT.ty35 h80 rfl rfl ⟨rfl, rfl⟩)))), trivial⟩) ?_
      refine Zp (Zm _) (Zo rfl rfl ⟨(fun γ => Zf (fun _ h11 => Ze (Zn rfl (Zl h11 ⟨rfl, rfl⟩)))), trivial⟩) ?_
      refine Zp (Zb3 _) (Zo rfl rfl ⟨(fun γ => Zw 1 1 rfl (fun _ h81 => Zw 2 0 rfl (fun _ h82 => Ze (Zn rfl (Zz (el := cpV b (some r)) VT.sl35 h81 h82 (by omega) (laid_get hv hb hro hlf) (fun a83 => ⟨⟨_, rfl⟩, rfl⟩)))))), trivial⟩) ?_
      refine Zp (Zb3 _) (Zo rfl rfl ⟨(fun γ => Zw 3 0 rfl (fun _ h83 => Ze (Zc3 h83 (fun a_83 e83 => Zn rfl (Zs2 VT.fa44_2 e83 ⟨⟨_, rfl⟩, rfl⟩))))), trivial⟩) ?_
      refine Zp (Zb3 _) (Zo rfl rfl ⟨(fun γ => Zw 4 0 rfl (fun _ h84 => Ze (Zc3 h84 (fun a_84 e84 => Zn rfl (Zw1 VT.fa42_4 e84 rfl ⟨⟨_, rfl⟩, rfl⟩))))), trivial⟩) ?_
      refine Zp (Zm _) (Zo rfl rfl ⟨(fun γ => Zw 5 0 rfl (fun _ h85 => Ze (Zc3 h85 (fun a_85 e85 => Zn rfl (Zz1 VT.ty40 e85 (xLeaf_leaf _) ⟨rfl, rfl⟩))))), trivial⟩) ?_
      refine Zp (Zm _) (Zo rfl rfl ⟨(fun γ => Zf (fun _ h12 => Ze (Zn rfl (Zl h12 ⟨rfl, rfl⟩)))), trivial⟩) ?_
      refine Zp (Zm _) (Zo rfl rfl ⟨(fun γ => Zf (fun _ h8 => Ze (Zn rfl (Zj VT.fa37_1 h8 ⟨rfl, rfl⟩)))), trivial⟩) ?_
      refine Zp (Zm _) (Zo rfl rfl ⟨(fun γ => Zw 8 0 rfl (fun _ h88 => Ze (Zn rfl (Zu 2 VT.ty35 h88 rfl rfl ⟨rfl, rfl⟩)))), trivial⟩) ?_
      refine Zp (Zm _) (Zo rfl rfl ⟨(fun γ => Zw 9 0 rfl (fun _ h89 => Ze (Zn rfl (Zu2 (Ze2 Try.underlying35 h89 (fun hl90 => ⟨rfl, rfl⟩)) ((V.le.of_eq (by rw [hcl2]) : V.le _ (.int (f.blocks.length : Int)))) ⟨rfl, rfl⟩)))), trivial⟩) ?_
      refine Zp (Zm _) (Zo rfl rfl ⟨(fun γ => Zf (fun _ h9 => Ze (Zn rfl (Zj VT.fa37_1 h9 ⟨rfl, rfl⟩)))), trivial⟩) ?_
      refine Zp (Zm _) (Zo rfl rfl ⟨(fun γ => Zw 11 0 rfl (fun _ h91 => Ze (Zn rfl (Zu 1 VT.ty35 h91 rfl rfl ⟨rfl, rfl⟩)))), trivial⟩) ?_
      refine Zp (Zm _) (Zo rfl rfl ⟨(fun γ => Zf (fun _ h11 => Ze (Zn rfl (Zl h11 ⟨rfl, rfl⟩)))), trivial⟩) ?_
      refine Zp (Zb3 _) (Zo rfl rfl ⟨(fun γ => Zw 12 1 rfl (fun _ h92 => Zw 13 0 rfl (fun _ h93 => Ze (Zn rfl (Zz (el := cpV b (some r)) VT.sl35 h92 h93 (by omega) (laid_get hv hb hro hlf) (fun a94 => ⟨⟨_, rfl⟩, rfl⟩)))))), trivial⟩) ?_
      refine Zp (Zb3 _) (Zo rfl rfl ⟨(fun γ => Zw 14 0 rfl (fun _ h94 => Ze (Zc3 h94 (fun a_94 e94 => Zn rfl (Zs2 VT.fa44_2 e94 ⟨⟨_, rfl⟩, rfl⟩))))), trivial⟩) ?_
      refine Zp (Zb3 _) (Zo rfl rfl ⟨(fun γ => Zw 15 0 rfl (fun _ h95 => Ze (Zc3 h95 (fun a_95 e95 => Zn rfl (Zw1 VT.fa42_4 e95 rfl ⟨⟨_, rfl⟩, rfl⟩))))), trivial⟩) ?_
      refine Zp (Zm _) (Zo rfl rfl ⟨(fun γ => Zw 16 0 rfl (fun _ h96 => Ze (Zc3 h96 (fun a_96 e96 => Zn rfl (Zz1 VT.ty40 e96 (xLeaf_leaf _) ⟨rfl, rfl⟩))))), trivial⟩) ?_
      refine Zp (Zm _) (Zo rfl rfl ⟨(fun γ => Zf (fun _ h12 => Ze (Zn rfl (Zl h12 ⟨rfl, rfl⟩)))), trivial⟩) ?_
      refine Zp (Zm _) (Zo rfl rfl ⟨(fun γ => Zw 17 1 rfl (fun _ h97 => Zw 18 0 rfl (fun _ h98 => Ze (Zn rfl (Zu2 (Zr2 VT.sl40 h97 h98 (by omega) (by omega) ⟨rfl, rfl⟩) ((V.le.of_eq (congrArg (V.ptr r.g) (by omega)) : V.le _ (.ptr r.g (j * 2)))) ⟨rfl, rfl⟩))))), trivial⟩) ?_
      refine Zp (Zm _) (Zo rfl rfl ⟨(fun γ => Zw 19 0 rfl (fun _ h99 => Ze (Zn rfl (Zj VT.fa48_0 h99 ⟨rfl, rfl⟩)))), trivial⟩) ?_
      refine Zp (Zm _) (Zo rfl rfl ⟨(fun γ => Zw 20 0 rfl (fun _ h100 => Ze (Zn rfl (Zu 0 VT.ty3 h100 rfl (row_get hmx _) ⟨rfl, rfl⟩)))), trivial⟩) ?_
      refine Zp (Zm _) (Zo rfl rfl ⟨(fun γ => Zw 10 11 rfl (fun _ h90 => Zw 21 0 rfl (fun _ h101 => Ze (Zn rfl (Zk2 h90 h101 (by omega) ⟨rfl, rfl⟩))))), trivial⟩) ?_
      refine Zp (Zm _) (Zo rfl rfl ⟨(fun γ => Zw 6 16 rfl (fun _ h86 => Zw 7 15 rfl (fun _ h87 => Ze (Zn rfl (Zu2 (Zr2 VT.sl40 h86 h87 (by omega) (by omega) ⟨rfl, rfl⟩) ((V.le.of_eq (congrArg (V.ptr r.g) (by omega)) : V.le _ (.ptr r.g (j * 2)))) ⟨rfl, rfl⟩))))), trivial⟩) ?_
      refine Zp (Zm _) (Zo rfl rfl ⟨(fun γ => Zw 23 0 rfl (fun _ h103 => Ze (Zn rfl (Zj VT.fa48_0 h103 ⟨rfl, rfl⟩)))), trivial⟩) ?_
      refine Zp Za3 (Zn2 rfl (fun γ => Zw 24 0 rfl (fun _ h104 => Zw 22 2 rfl (fun _ h102 => Ze (Zn rfl (Zy 0 VT.ty3 h104 h102 rfl rfl (Nat.ble_eq_true_of_le (by rw [List.length_append, ecells_len, mixV_len]; omega)) ⟨default, trivial, rfl⟩)))))) ?_
      refine DrawP_nil (fun γ => Ze ?_)
      refine Zb1 (Zi ?_)
      refine VW_perm (S' := .cells g9 37 [.int f.name, .sl 7 none (laid f rows (ixR f.blocks.length 0))] :: .cells g8 37 [.int f.name, .sl 7 none (cpL f.blocks rows)] :: .buf tok 37 2 i :: .cells g6 24 [.sl 2 (some tok) ((u.fns.take i).map fun f => funcV (revF f)), .int u.main] :: .cells g3 28 (resultV (runF u 2000).1).leaves :: .cells g1 24 [funcsX u.fns, .int u.main] :: (eOwn (rows2.set v (setE (some r) (mixV f.blocks.length b.term.to (j + 1)))) ++ uOwn (Rs.drop (i + 1)))) (by rw [rowV_set he]; exact (pullL [.cells g9 37 [.int f.name, .sl 7 none (laid f rows (ixR f.blocks.length 0))], .cells g8 37 [.int f.name, .sl 7 none (cpL f.blocks rows)], .buf tok 37 2 i, .cells g6 24 [.sl 2 (some tok) ((u.fns.take i).map fun f => funcV (revF f)), .int u.main], .cells g3 28 (resultV (runF u 2000).1).leaves, .cells g1 24 [funcsX u.fns, .int u.main]] ((eown_some hvr r (mixV f.blocks.length b.term.to (j + 1))).append_right _)).symm) ?_
      refine Zd ?_
      refine Zc (Zh2 rfl rfl (by omega) ?_)
      refine Zc (Zl rfl (Za (Zi ?_)))
      exact ⟨j + 1, (by (try simp only []); omega), (by omega), ⟨rfl, rfl, rfl, rfl, rfl, rfl, rfl, rfl, rfl, rfl, rfl, rfl, rfl, rfl, trivial⟩, (Drops.keep (Drops.keep (Drops.buf (by simp) (Drops.keep (Drops.keep (Drops.keep (Zt2 _)))))))⟩
     ·
      have hje : j = b.term.to.length := by omega
      subst hje
      refine Zt (Ze1 (Ze1 (Zc1 (Zb1 (Zi (Zd ?_))))))
      refine Zc (Zh2 rfl rfl (by omega) ?_)
      refine Zc (Zl rfl (Za (Zi ?_)))
      exact ⟨(p + 1, (rows2.set v (setE o2 (mixV f.blocks.length b.term.to b.term.to.length)))), (by (try simp only []); omega), ⟨by omega, qinv_step hQ hv hb h2 hx2⟩, ⟨rfl, rfl, rfl, rfl, rfl, rfl, rfl, rfl, rfl, rfl, rfl, trivial⟩, (Drops.keep (Drops.keep (Drops.buf (by simp) (Drops.keep (Drops.keep (Drops.keep (Zt2 _)))))))⟩
    ·
     have hpe : p = f.blocks.length := by omega
     subst hpe
     refine Zt (Ze1 (Ze1 (Zc1 (Zi ?_))))
     refine VW_drops (S' := .cells g9 37 [.int f.name, .sl 7 none ([] ++ (pairsO f rows2).map fun x => cpV x.1 x.2)] :: (eOwn ((pairsO f rows2).map (·.2)) ++ (.buf tok 37 2 i :: .cells g6 24 [.sl 2 (some tok) ((u.fns.take i).map fun f => funcV (revF f)), .int u.main] :: .cells g3 28 (resultV (runF u 2000).1).leaves :: .cells g1 24 [funcsX u.fns, .int u.main] :: (uOwn (Rs.drop (i + 1)))))) (Drops.trans (.keep (.drop (.refl _))) (.of_perm ?_)) ?_
     · rw [pairsO_cp hok hRl2 hQ]; exact .cons _ ((((rowsO_perm hok (hQ.len.trans hRl2)).append_right _).append_left [_, _, _, _]).trans (pullC [_, _, _, _]))
     refine freeze_laid g9 (.int f.name) (.buf tok 37 2 i :: .cells g6 24 [.sl 2 (some tok) ((u.fns.take i).map fun f => funcV (revF f)), .int u.main] :: .cells g3 28 (resultV (runF u 2000).1).leaves :: .cells g1 24 [funcsX u.fns, .int u.main] :: (uOwn (Rs.drop (i + 1)))) (pairsO f rows2) [] (pairsO_ok hok hRl2 hQ) ?_
     rw [pairsO_blocks]
     show VW Try.prog _ _ _ _ (Own.cells g9 37 [.int f.name, blocksX (revF f).blocks] :: Own.buf tok 37 2 i :: Own.cells g6 24 [.sl 2 (some tok) ((u.fns.take i).map fun f => funcV (revF f)), .int u.main] :: Own.cells g3 28 (resultV (runF u 2000).1).leaves :: Own.cells g1 24 [funcsX u.fns, .int u.main] :: (uOwn (Rs.drop (i + 1))))
     refine Zd (Zc (Zj VT.fa24_0 rfl (Zc (Zu 2 VT.ty22 rfl rfl rfl (Zc (Zv 0 VT.ty37 rfl rfl rfl ?_))))))
     refine Zc (Zk3 [.tmp 109] VT.sl22 rfl rfl rfl rfl rfl ?_)
     refine Zc (Zi3 1 _ VT.sl22 rfl rfl rfl (by simp; omega) (by simp; omega) (fun t111 => ?_))
     refine Zc (Zj VT.fa24_0 rfl (Zc (Zy 2 VT.ty22 rfl rfl rfl rfl rfl (Za (Zb1 (Zi (Zd ?_)))))))
     refine Zc (Zh2 rfl rfl (by omega) ?_)
     refine Zc (Zl rfl (Za (Zi ?_)))
     exact ⟨(i + 1, t111), (by (try simp only []); omega), (by omega), ⟨rfl, rfl, rfl, rfl, rfl, rfl, rfl, trivial⟩, (Drops.drop (Drops.buf (by simp; omega) (Drops.keepE (congrArg (fun l => Own.cells g6 24 [.sl 2 (some t111) l, .int u.main]) (by rw [take_snoc hf, List.map_append]; rfl)) (Drops.keep (Drops.keep (Zt2 _))))))⟩
  ·
   have hie : i = u.fns.length := by omega
   subst hie
   have hst : V.le (.sl 2 (some tok) ((u.fns.take u.fns.length).map fun f => funcV (revF f))) (funcsX (revU u).fns) := by rw [List.take_length]; show V.le _ (.sl 2 none ((u.fns.map revF).map funcV)); rw [List.map_map]; exact V.le.strip
   refine Zt (Ze1 (Ze1 (Zc1 (Zi ?_))))
   refine VW_cells 1 (ls' := [funcsX (revU u).fns, .int u.main]) rfl ⟨hst, rfl, V.le.refl _, rfl, trivial⟩ ?_
   refine Zb (Zd (Zc (Zv 1 VT.ty24 rfl rfl rfl ?_)))
   refine Zc (Zu2 (Zx1 [.tmp 115, .const (.int .i64 (2000))] rfl rfl VT.en7 (Run_c (revU u) 2000) ⟨rfl, rfl⟩) ((V.le.of_eq (by rw [hrun, hx0]) : V.le _ (.tup [resultV (runF u 2000).1, .int (runF u 2000).2.1, .int 0]))) ?_)
   refine Zc (Zl rfl (Zc (Zg2 rfl rfl (Zc (Zg2 rfl rfl (Zc (Zg2 rfl rfl ?_)))))))
   refine Zc (Zb2 VT.zr28 _ rfl rfl (fun g13 => ?_))
   refine Zc (Zx 0 VT.ty28 rfl rfl rfl rfl rfl (Zc (Zk rfl (Zc (Zk rfl (Za (Zi (Zb (Zd (Zc (Zl rfl (Zc (Zj1 rfl rfl rfl (Zc (Zl rfl ?_)))))))))))))))
   refine Zj2 (q := 122) rfl (fun hq122 => ?_) (fun hq122 => ?_)
   ·
    refine Zc (Zl rfl ?_) (Zy1 hq122)
    refine Zc (Zl rfl ?_) (Zy1 hq122)
    refine Zc (Zj1 rfl rfl rfl ?_) (Zy1 hq122)
    refine Zc (Zs1 rfl hq122 rfl ?_)
    refine Zc (Zl rfl ?_)
    refine Zj2 (q := 127) rfl (fun hq127 => ?_) (fun hq127 => ?_)
    ·
     refine Zc (Zv 3 VT.ty28 rfl rfl rfl ?_) (Zy1 hq127)
     refine Zc (Zv 0 VT.ty28 rfl rfl rfl ?_) (Zy1 hq127)
     refine Zc (Zx1 [.tmp 128, .tmp 129] rfl rfl VT.en11 (SameResult_c (runF u 2000).1 (runF u 2000).1) ?_) (Zy1 hq127)
     refine Zc (Zs1 rfl hq127 rfl ?_)
     refine Zc (Zk rfl (Za (Zi (Zf1 ?_))))
     refine Zg1 rfl (.tmp rfl) ?_
     first | rfl | exact congrArg V.bool (sameOut_iff.2 rfl)
    · exact absurd hq127 (by simp)
   · exact absurd hq122 (by decide)
end Go.Proofs.Ytmmmgamhffbkbaa.X35
