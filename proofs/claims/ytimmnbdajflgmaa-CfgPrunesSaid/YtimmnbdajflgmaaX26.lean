import Derived.Test.YtimmnbdajflgmaaVT
import Derived.Test.YtimmnbdajflgmaaS2
import Derived.Test.YtimmnbdajflgmaaVM
import Derived.Test.YtimmnbdajflgmaaDZ
import Derived.Test.YtimmnbdajflgmaaXS
import Derived.Test.YtimmnbdajflgmaaX1
import Derived.Test.YtimmnbdajflgmaaX2
import Derived.Test.YtimmnbdajflgmaaX3
import Derived.Test.YtimmnbdajflgmaaX4
import Derived.Test.YtimmnbdajflgmaaX5
import Derived.Test.YtimmnbdajflgmaaX6
import Derived.Test.YtimmnbdajflgmaaX7
import Derived.Test.YtimmnbdajflgmaaX8
import Derived.Test.YtimmnbdajflgmaaX9
import Derived.Test.YtimmnbdajflgmaaX10
import Derived.Test.YtimmnbdajflgmaaXW
import Derived.Test.YtimmnbdajflgmaaX12
import Derived.Test.YtimmnbdajflgmaaX13
import Derived.Test.YtimmnbdajflgmaaX14
import Derived.Test.YtimmnbdajflgmaaX20
import Derived.Test.YtimmnbdajflgmaaX25
set_option linter.unusedVariables false
set_option linter.unusedSimpArgs false
namespace Go.Proofs.Ytimmnbdajflgmaa.X26
open Go.VL Go.SM Go.Proofs.Ytimmnbdajflgmaa Go.Proofs.Ytimmnbdajflgmaa.XS Go.Proofs.Ytimmnbdajflgmaa.X1 Go.Proofs.Ytimmnbdajflgmaa.X2 Go.Proofs.Ytimmnbdajflgmaa.X3 Go.Proofs.Ytimmnbdajflgmaa.X4 Go.Proofs.Ytimmnbdajflgmaa.X5 Go.Proofs.Ytimmnbdajflgmaa.X6 Go.Proofs.Ytimmnbdajflgmaa.X7 Go.Proofs.Ytimmnbdajflgmaa.X8 Go.Proofs.Ytimmnbdajflgmaa.X9 Go.Proofs.Ytimmnbdajflgmaa.X10 Go.Proofs.Ytimmnbdajflgmaa.XW Go.Proofs.Ytimmnbdajflgmaa.X12 Go.Proofs.Ytimmnbdajflgmaa.X13 Go.Proofs.Ytimmnbdajflgmaa.X14 Go.Proofs.Ytimmnbdajflgmaa.X20 Go.Proofs.Ytimmnbdajflgmaa.X25
def reE (at_ : List Int) (e : SEdge) : SEdge := ⟨gI at_ e.block, e.args⟩
def setE (o : Option XRow) (es : List SEdge) : Option XRow := o.map fun r => ⟨r.g, r.cap, es.map edgeV, r.rest⟩
def mixE (f : SFunc) (to : List SEdge) (j : Nat) : List SEdge := (to.take j).map (reE (atF f)) ++ to.drop j
def blk (f : SFunc) (v : Nat) : SBlock := f.blocks[v]?.getD default
def rowAt (rows : List (Option XRow)) (v : Nat) : Option XRow := rows[v]?.getD none
def ecells (es : List SEdge) : List V := es.flatMap fun e => [.int e.block, intsX e.args]
theorem ecells_eq (es : List SEdge) : (es.map edgeV).flatMap V.leaves = ecells es := by
  rw [List.flatMap_map]
  rfl
theorem ecells_get {es : List SEdge} {j : Nat} {e : SEdge} (h : es[j]? = some e) : (ecells es)[j * 2]? = some (.int e.block) := by
  induction es generalizing j with
  | nil => simp at h
  | cons a es ih =>
    have hl : ecells (a :: es) = [.int a.block, intsX a.args] ++ ecells es := rfl
    cases j with
    | zero =>
      have h : a = e := by simpa using h
      subst h
      rfl
    | succ j =>
      have h : es[j]? = some e := by simpa using h
      rw [hl, show (j + 1) * 2 = j * 2 + 2 by omega, List.getElem?_append_right (by simp)]
      exact ih h
theorem ecells_len (es : List SEdge) : (ecells es).length = es.length * 2 := by
  induction es with
  | nil => rfl
  | cons a es ih =>
    have hl : ecells (a :: es) = [.int a.block, intsX a.args] ++ ecells es := rfl
    rw [hl, List.length_append, ih]
    simp only [List.length_cons, List.length_nil]
    omega
theorem ecells_set {es : List SEdge} {j : Nat} {e : SEdge} (h : es[j]? = some e) (p : Int) : (ecells es).set (j * 2) (.int p) = ecells (es.set j ⟨p, e.args⟩) := by
  induction es generalizing j with
  | nil => simp at h
  | cons a es ih =>
    have hl : ∀ a : SEdge, ∀ es : List SEdge, ecells (a :: es) = [.int a.block, intsX a.args] ++ ecells es := fun _ _ => rfl
    cases j with
    | zero =>
      have h : a = e := by simpa using h
      subst h
      rfl
    | succ j =>
      have h : es[j]? = some e := by simpa using h
      rw [List.set_cons_succ, hl, hl, ← ih h, List.set_append]
      have e1 : ¬ ((j + 1) * 2 < ([V.int a.block, intsX a.args] : List V).length) := by simp only [List.length_cons, List.length_nil]; omega
      have e2 : (j + 1) * 2 - ([V.int a.block, intsX a.args] : List V).length = j * 2 := by simp only [List.length_cons, List.length_nil]; omega
      rw [if_neg e1, e2]
theorem mix_zero (f : SFunc) (to : List SEdge) : mixE f to 0 = to := by simp [mixE]
theorem mix_end (f : SFunc) (to : List SEdge) : mixE f to to.length = to.map (reE (atF f)) := by simp [mixE]
theorem mix_len (f : SFunc) (to : List SEdge) (j : Nat) : (mixE f to j).length = to.length := by
  unfold mixE
  rw [List.length_append, List.length_map, List.length_take, List.length_drop]
  omega
theorem mix_get {f : SFunc} {to : List SEdge} {j : Nat} {e : SEdge} (h : to[j]? = some e) : (mixE f to j)[j]? = some e := by
  have hj := (List.getElem?_eq_some_iff.1 h).1
  have hl : ((to.take j).map (reE (atF f))).length = j := by rw [List.length_map, List.length_take]; omega
  unfold mixE
  rw [List.getElem?_append_right (by omega), hl, Nat.sub_self, List.getElem?_drop, Nat.add_zero]
  exact h
theorem mix_step {f : SFunc} {to : List SEdge} {j : Nat} {e : SEdge} (h : to[j]? = some e) : (mixE f to j).set j (reE (atF f) e) = mixE f to (j + 1) := by
  have hj := (List.getElem?_eq_some_iff.1 h).1
  have hl : ((to.take j).map (reE (atF f))).length = j := by rw [List.length_map, List.length_take]; omega
  unfold mixE
  rw [List.set_append_right _ _ (by omega), hl, Nat.sub_self, drop_cons h, List.set_cons_zero, take_snoc h, List.map_append, List.append_assoc]
  rfl
theorem setE_self {o : Option XRow} {es : List SEdge} (h : xl o = es.map edgeV) : setE o es = o := by
  cases o with
  | none => rfl
  | some r =>
    have h : r.xs = es.map edgeV := h
    show some (XRow.mk r.g r.cap (es.map edgeV) r.rest) = some r
    rw [← h]
theorem eown_set {rows : List (Option XRow)} {v : Nat} (hv : v < rows.length) (o : Option XRow) : (eOwn (rows.set v o)).Perm (xOwn 63 o ++ eOwn (rows.set v none)) := by
  have h2 : ∀ x, rows.set v x = rows.take v ++ x :: rows.drop (v + 1) := fun x => by rw [List.set_eq_take_append_cons_drop, if_pos hv]
  unfold eOwn
  rw [h2, h2, List.flatMap_append, List.flatMap_cons, List.flatMap_append, List.flatMap_cons]
  show (_ ++ (xOwn 63 o ++ _)).Perm (xOwn 63 o ++ (_ ++ ([] ++ _)))
  rw [List.nil_append, ← List.append_assoc, ← List.append_assoc]
  exact List.perm_append_comm.append_right _
structure PInv (f : SFunc) (rows rows2 : List (Option XRow)) (i : Nat) : Prop where
  len : rows2.length = rows.length
  row : ∀ (v : Nat) (b : SBlock) (o o2 : Option XRow), f.blocks[v]? = some b → rows[v]? = some o → rows2[v]? = some o2 → xLeaf o2 = xLeaf o ∧ xOk 2 o2 ∧ xl o2 = (if v ∈ (reachN f).take i then b.term.to.map (reE (atF f)) else b.term.to).map edgeV
theorem pinv_start {f : SFunc} {rows : List (Option XRow)} (h : RowsOk f.blocks rows) : PInv f rows rows 0 := ⟨rfl, fun v b o o2 hb ho h2 => by
  rw [ho] at h2
  injection h2 with h2
  subst h2
  obtain ⟨h3, h4⟩ := h.row v b o hb ho
  exact ⟨rfl, h4, by rw [List.take_zero, if_neg (by simp)]; exact h3⟩⟩
theorem xLeaf_set {o : Option XRow} {es : List SEdge} (h : (xl o).length = es.length) : xLeaf (setE o es) = xLeaf o := by
  cases o with
  | none => rfl
  | some r =>
    have h : r.xs.length = es.length := h
    show V.raw (.slice (some ⟨r.g, 0, none⟩) (es.map edgeV).length r.cap) = .raw (.slice (some ⟨r.g, 0, none⟩) r.xs.length r.cap)
    rw [List.length_map, h]
theorem xOk_set {o : Option XRow} {es0 es : List SEdge} (h0 : xl o = es0.map edgeV) (h : es0.length = es.length) (hk : xOk 2 o) : xOk 2 (setE o es) := by
  cases o with
  | none => trivial
  | some r =>
    have h0 : r.xs = es0.map edgeV := h0
    obtain ⟨h1, h2, h3⟩ := hk
    rw [h0] at h1 h3
    rw [ecells_eq, List.length_append, ecells_len] at h3
    rw [List.length_map] at h1
    refine ⟨?_, h2, ?_⟩
    · show (es.map edgeV).length ≤ r.cap
      rw [List.length_map]; omega
    · show ((es.map edgeV).flatMap V.leaves ++ r.rest).length = r.cap * 2
      rw [ecells_eq, List.length_append, ecells_len]
      omega
theorem xl_set {o : Option XRow} {es : List SEdge} (h : (xl o).length = es.length) : xl (setE o es) = es.map edgeV := by
  cases o with
  | none =>
    have h : 0 = es.length := h
    rw [List.length_eq_zero_iff.1 h.symm]
    rfl
  | some r => rfl
theorem pinv_step {f : SFunc} {rows rows2 : List (Option XRow)} {i v : Nat} {b : SBlock} {o2 : Option XRow} (h : PInv f rows rows2 i) (hv : (reachN f)[i]? = some v) (hb : f.blocks[v]? = some b) (h2 : rows2[v]? = some o2) (hx : xl o2 = b.term.to.map edgeV) : PInv f rows (rows2.set v (setE o2 (mixE f b.term.to b.term.to.length))) (i + 1) := by
  refine ⟨by rw [List.length_set]; exact h.len, fun w c o p hc ho hp => ?_⟩
  rw [List.getElem?_set] at hp
  split at hp
  · rename_i e
    subst e
    rw [hb] at hc
    injection hc with hc
    subst hc
    split at hp
    · injection hp with hp
      subst hp
      obtain ⟨a1, a2, a3⟩ := h.row v b o o2 hb ho h2
      have hl : (xl o2).length = (mixE f b.term.to b.term.to.length).length := by rw [hx, List.length_map, mix_len]
      refine ⟨(xLeaf_set hl).trans a1, xOk_set hx (by rw [mix_len]) a2, ?_⟩
      rw [if_pos (by rw [take_snoc hv]; simp), xl_set hl, mix_end]
    · cases hp
  · rename_i e
    obtain ⟨a1, a2, a3⟩ := h.row w c o p hc ho hp
    refine ⟨a1, a2, ?_⟩
    rw [a3]
    have : w ∈ (reachN f).take (i + 1) ↔ w ∈ (reachN f).take i := by
      rw [take_snoc hv, List.mem_append, List.mem_singleton]
      exact ⟨fun h => h.resolve_right fun h => e h.symm, .inl⟩
    simp only [this]
theorem not_done {f : SFunc} {i v : Nat} (hv : (reachN f)[i]? = some v) : v ∉ (reachN f).take i := fun h => by
  obtain ⟨j, hj⟩ := List.getElem?_of_mem h
  have hji := (List.getElem?_eq_some_iff.1 hj).1
  rw [List.length_take] at hji
  rw [List.getElem?_take] at hj
  split at hj
  · have := sorted_inj reachN_sorted hj hv
    omega
  · cases hj
theorem cpL_get {bs : List SBlock} {rows : List (Option XRow)} {v : Nat} {b : SBlock} {o : Option XRow} (hb : bs[v]? = some b) (ho : rows[v]? = some o) : (cpL bs rows)[v]? = some (cpV b o) := by
  unfold cpL
  rw [List.getElem?_zipWith, hb, ho]
theorem cps_7 {f : SFunc} {rows : List (Option XRow)} {xs : List V} {l : List Nat} (h : xs = l.map fun v => cpV (blk f v) (rowAt rows v)) : ∀ x ∈ xs, x.leaves.length = 7 := fun x hx => by
  rw [h] at hx
  obtain ⟨v, _, rfl⟩ := List.mem_map.1 hx
  rfl
theorem cp_flat (b : SBlock) (o : Option XRow) : ∀ y ∈ [cpV b o], y.flat = true := fun y hy => by
  rw [List.mem_singleton.1 hy]
  cases o <;> rfl
theorem cp_ok {f : SFunc} (h0 : funcF f = 0) : CpOk f := by
  have hok := func_ok h0
  have fi := func_iff.1 h0
  have hl := nodup_wi fi.kok.nodup fi.kok.wi
  rw [keysL] at hl
  have h128 := hok.len
  have hp : ∀ b ∈ f.blocks, b.params.length ≤ 4096 ∧ b.ins.length ≤ 4096 := fun b hb => by
    obtain ⟨s, t, e⟩ := List.append_of_mem hb
    rw [e, List.flatMap_append, List.flatMap_cons, List.length_append, List.length_append, List.length_map, dB, List.length_append, keysI_len, List.length_map] at hl
    omega
  refine ⟨by omega, fun b hb => ?_⟩
  obtain ⟨b1, b2⟩ := fi.block b hb
  have he := endF_ok b2
  have h1 := hp b hb
  have h2 := term_edges hok hb
  have h3 := he.many
  refine ⟨by omega, by omega, by omega, by omega, fun i hi => ?_, fun e hem => ?_⟩
  · have := (form_of (b1 i hi)).many
    omega
  · obtain ⟨x1, x2, x3⟩ := he.edges e hem
    obtain ⟨c, hc⟩ : ∃ c, f.blocks[e.block.toNat]? = some c := ⟨_, List.getElem?_eq_getElem (by omega)⟩
    have h4 := (hp c (List.mem_of_getElem? hc)).1
    unfold paramsOf at x3
    rw [hc] at x3
    have x3 : e.args.length = c.params.length := x3
    omega
theorem fits_es (l : List SEdge) : ∀ x ∈ l.map edgeV, x.fits 2 = true ∧ ((∃ ls, x = .agg ls) ∨ x.leaf = true) := fun x hx => by
  obtain ⟨n, _, rfl⟩ := List.mem_map.1 hx
  exact ⟨rfl, .inl ⟨_, rfl⟩⟩
theorem freeze_blocks {nt : Nat} {Q : Exit → Fr → Store → Prop} {F : Fr} {c : Code} (go : Nat) (rest : List V) : ∀ (L : List (SBlock × Option XRow)) (pre : List V) (R : Store), (∀ x ∈ L, xl x.2 = x.1.term.to.map edgeV ∧ xOk 2 x.2) → VW Try.prog nt c Q F (.cells go 61 (pre ++ ((L.map fun x => blockV x.1).flatMap V.leaves ++ rest)) :: R) → VW Try.prog nt c Q F (.cells go 61 (pre ++ ((L.map fun x => cpV x.1 x.2).flatMap V.leaves ++ rest)) :: (eOwn (L.map (·.2)) ++ R))
  | [], pre, R, _, h => h
  | (b, o) :: L, pre, R, ho, h => by
    obtain ⟨hx, hk⟩ := ho _ (List.mem_cons_self ..)
    have e : ∀ (a : List V) (l : List V), pre ++ (a ++ l ++ rest) = (pre ++ a) ++ (l ++ rest) := fun a l => by simp
    have h2 := freeze_blocks go rest L (pre ++ (blockV b).leaves) R (fun x hx => ho x (List.mem_cons_of_mem _ hx)) (by rw [List.map_cons, List.flatMap_cons, e] at h; exact h)
    have hset : ∀ (x y : V), (pre ++ ([intsX b.params, inssX b.ins, .int b.term.kind, .int b.term.arg, .int b.term.n, intsX b.term.cases, x] ++ (L.map fun x => cpV x.1 x.2).flatMap V.leaves ++ rest)).set (pre.length + 6) y = (pre ++ [intsX b.params, inssX b.ins, .int b.term.kind, .int b.term.arg, .int b.term.n, intsX b.term.cases, y]) ++ ((L.map fun x => cpV x.1 x.2).flatMap V.leaves ++ rest) := fun x y => by
      rw [List.set_append_right _ _ (by omega), Nat.add_sub_cancel_left]
      simp
    have hget : ∀ (x : V), (pre ++ ([intsX b.params, inssX b.ins, .int b.term.kind, .int b.term.arg, .int b.term.n, intsX b.term.cases, x] ++ (L.map fun x => cpV x.1 x.2).flatMap V.leaves ++ rest))[pre.length + 6]? = some x := fun x => by
      rw [List.getElem?_append_right (by omega), Nat.add_sub_cancel_left]
      rfl
    rw [List.map_cons, List.flatMap_cons]
    cases o with
    | none =>
      have hto : b.term.to = [] := by
        have hx : ([] : List V) = b.term.to.map edgeV := hx
        exact List.map_eq_nil_iff.1 hx.symm
      refine VW_cellAt 0 (pre.length + 6) (v' := .sl 2 none []) rfl (hget V.nilSl) (V.le.nil 2) rfl ?_
      show VW Try.prog nt c Q F (.cells go 61 ((pre ++ ([intsX b.params, inssX b.ins, .int b.term.kind, .int b.term.arg, .int b.term.n, intsX b.term.cases, V.nilSl] ++ (L.map fun x => cpV x.1 x.2).flatMap V.leaves ++ rest)).set (pre.length + 6) (.sl 2 none [])) :: (eOwn (L.map (·.2)) ++ R))
      rw [hset]
      have e3 : (blockV b).leaves = [intsX b.params, inssX b.ins, .int b.term.kind, .int b.term.arg, .int b.term.n, intsX b.term.cases, .sl 2 none []] := by
        show [_, _, _, _, _, _, edgesX b.term.to] = _
        rw [hto]
        rfl
      rw [← e3]
      exact h2
    | some r =>
      obtain ⟨q2, q3, q4⟩ := hk
      have hx : r.xs = b.term.to.map edgeV := hx
      refine VW_freezeC 1 0 (pre.length + 6) (sz := 2) (rest := r.rest) (b.term.to.map edgeV) rfl rfl (hget _) (by rw [hx]) (by rw [hx]) q2 q3 (fits_es _) ?_
      show VW Try.prog nt c Q F (.cells go 61 ((pre ++ ([intsX b.params, inssX b.ins, .int b.term.kind, .int b.term.arg, .int b.term.n, intsX b.term.cases, xLeaf (some r)] ++ (L.map fun x => cpV x.1 x.2).flatMap V.leaves ++ rest)).set (pre.length + 6) (.sl 2 none (b.term.to.map edgeV))) :: (eOwn (L.map (·.2)) ++ R))
      rw [hset]
      exact h2
theorem fits_bs (l : List SBlock) : ∀ x ∈ l.map blockV, x.fits 7 = true ∧ ((∃ ls, x = .agg ls) ∨ x.leaf = true) := fun x hx => by
  obtain ⟨n, _, rfl⟩ := List.mem_map.1 hx
  exact ⟨rfl, .inl ⟨_, rfl⟩⟩
theorem rows_sub (f : SFunc) {rows : List (Option XRow)} (h : rows.length = f.blocks.length) : ((reachN f).map (rowAt rows)).Sublist rows := by
  have h1 : ((reachN f).map (rowAt rows)).Sublist ((List.range rows.length).map (rowAt rows)) := by
    unfold reachN
    rw [h]
    exact (List.filter_sublist ..).map _
  have h2 : (List.range rows.length).map (rowAt rows) = rows := by
    apply List.ext_getElem
    · simp
    · intro i a b
      simp [rowAt, List.getElem?_eq_getElem b]
  rw [h2] at h1
  exact h1
def pairsP (f : SFunc) (rows2 : List (Option XRow)) : List (SBlock × Option XRow) := (reachN f).map fun v => (reB (atF f) (blk f v), rowAt rows2 v)
theorem pairs_ok {f : SFunc} (ho : OrderOk f.blocks (orderF f.blocks)) {rows rows2 : List (Option XRow)} (hr : rows.length = f.blocks.length) (h : PInv f rows rows2 (reachN f).length) : ∀ x ∈ pairsP f rows2, xl x.2 = x.1.term.to.map edgeV ∧ xOk 2 x.2 := fun x hx => by
  obtain ⟨v, hv, rfl⟩ := List.mem_map.1 hx
  have hvl := ho.lt v ((reachN_mem ho).1 hv)
  obtain ⟨b, hb⟩ : ∃ b, f.blocks[v]? = some b := ⟨_, List.getElem?_eq_getElem hvl⟩
  obtain ⟨o, h1⟩ : ∃ o, rows[v]? = some o := ⟨_, List.getElem?_eq_getElem (by omega)⟩
  obtain ⟨o2, h2⟩ : ∃ o2, rows2[v]? = some o2 := ⟨_, List.getElem?_eq_getElem (by rw [h.len]; omega)⟩
  obtain ⟨a1, a2, a3⟩ := h.row v b o o2 hb h1 h2
  rw [List.take_length, if_pos hv] at a3
  have e1 : rowAt rows2 v = o2 := by unfold rowAt; rw [h2]; rfl
  have e2 : blk f v = b := by unfold blk; rw [hb]; rfl
  dsimp only
  rw [e1, e2]
  exact ⟨a3, a2⟩
theorem pairs_blocks {f : SFunc} (ho : OrderOk f.blocks (orderF f.blocks)) (rows2 : List (Option XRow)) : (pairsP f rows2).map (fun x => blockV x.1) = (pruneF f).blocks.map blockV := by
  unfold pairsP
  rw [prune_blocks ho, List.map_map, List.map_map, List.map_map]
  rfl
theorem pairs_cp {f : SFunc} (ho : OrderOk f.blocks (orderF f.blocks)) {rows rows2 : List (Option XRow)} (hr : rows.length = f.blocks.length) (h : PInv f rows rows2 (reachN f).length) : (reachN f).map (fun v => cpV (blk f v) (rowAt rows v)) = (pairsP f rows2).map fun x => cpV x.1 x.2 := by
  unfold pairsP
  rw [List.map_map]
  refine List.map_congr_left fun v hv => ?_
  have hvl := ho.lt v ((reachN_mem ho).1 hv)
  obtain ⟨b, hb⟩ : ∃ b, f.blocks[v]? = some b := ⟨_, List.getElem?_eq_getElem hvl⟩
  obtain ⟨o, h1⟩ : ∃ o, rows[v]? = some o := ⟨_, List.getElem?_eq_getElem (by omega)⟩
  obtain ⟨o2, h2⟩ : ∃ o2, rows2[v]? = some o2 := ⟨_, List.getElem?_eq_getElem (by rw [h.len]; omega)⟩
  obtain ⟨a1, _, _⟩ := h.row v b o o2 hb h1 h2
  have e1 : rowAt rows2 v = o2 := by unfold rowAt; rw [h2]; rfl
  have e3 : rowAt rows v = o := by unfold rowAt; rw [h1]; rfl
  show cpV (blk f v) (rowAt rows v) = cpV (reB (atF f) (blk f v)) (rowAt rows2 v)
  rw [e1, e3]
  show V.agg [_, _, _, _, _, _, xLeaf o] = V.agg [_, _, _, _, _, _, xLeaf o2]
  rw [a1]
  rfl
theorem pairs_rows (f : SFunc) (rows2 : List (Option XRow)) : (pairsP f rows2).map (·.2) = (reachN f).map (rowAt rows2) := by
  unfold pairsP
  rw [List.map_map]
  rfl
theorem sort_nil : VPure Try.prog 29 [.sl 1 none []] (.raw (.tuple #[])) := fun m w us hu hw => by
  obtain ⟨u, us', rfl, ⟨A, cap, hu1, _⟩, hu2⟩ := hu
  have hu2 : us' = [] := hu2
  have hu1 : u = .slice A 0 cap := hu1
  subst hu1 hu2
  exact (Any.slices_Sort_int_none XS.lays A cap w).mono fun e w' ⟨h1, h2⟩ => ⟨_, [], m, .tuple #[], rfl, h1, rfl, by rw [h2]; exact Step.refl hw⟩
theorem row_get {es : List SEdge} {j : Nat} {e : SEdge} (h : es[j]? = some e) (rest : List V) : (ecells es ++ rest)[j * 2 + 0]? = some (.int e.block) := by
  have hj := (List.getElem?_eq_some_iff.1 h).1
  rw [Nat.add_zero, List.getElem?_append_left (by rw [ecells_len]; omega)]
  exact ecells_get h
theorem row_set {f : SFunc} {to : List SEdge} {j : Nat} {e : SEdge} (h : to[j]? = some e) (rest : List V) : (ecells (mixE f to j) ++ rest).set (j * 2 + 0) (.int (gI (atF f) e.block)) = ecells (mixE f to (j + 1)) ++ rest := by
  have hj := (List.getElem?_eq_some_iff.1 h).1
  rw [Nat.add_zero, List.set_append_left _ _ (by rw [ecells_len, mix_len]; omega), ecells_set (mix_get h)]
  exact congrArg (fun l => ecells l ++ rest) (mix_step h)
theorem eown_some {rows : List (Option XRow)} {v : Nat} (hv : v < rows.length) (r : XRow) (es : List SEdge) : (eOwn (rows.set v (setE (some r) es))).Perm (.cells r.g 63 (ecells es ++ r.rest) :: eOwn (rows.set v none)) := by
  have h := eown_set hv (setE (some r) es)
  have e : xOwn 63 (setE (some r) es) = [.cells r.g 63 (ecells es ++ r.rest)] := by
    show [Own.cells r.g 63 ((es.map edgeV).flatMap V.leaves ++ r.rest)] = _
    rw [ecells_eq]
  rw [e] at h
  exact h
theorem set0_self {rows : List (Option XRow)} {v : Nat} {o : Option XRow} {f : SFunc} {to : List SEdge} (h : rows[v]? = some o) (hx : xl o = to.map edgeV) : rows.set v (setE o (mixE f to 0)) = rows := by
  rw [mix_zero, setE_self hx]
  apply List.ext_getElem?
  intro i
  rw [List.getElem?_set]
  split
  · rename_i e
    subst e
    rw [if_pos (List.getElem?_eq_some_iff.1 h).1, h]
  · rfl
theorem at_get {f : SFunc} {k : Int} (h0 : 0 ≤ k) (h : k < f.blocks.length) : (atF f)[k.toNat]? = some (gI (atF f) k) := by
  have hl : k.toNat < (atF f).length := by unfold atF placeF; rw [List.length_map, List.length_range]; omega
  rw [gI, List.getElem?_eq_getElem hl]
  rfl
theorem at_len (f : SFunc) : (atF f).length = f.blocks.length := by unfold atF placeF; rw [List.length_map, List.length_range]
theorem at_idx {f : SFunc} {k : Nat} (hk : k < f.blocks.length) : (atF f)[k]? = some (idxOf (fun x => decide ((k : Int) = x)) (reachL f)) := by
  unfold atF placeF
  rw [List.getElem?_map, List.getElem?_range hk]
  rfl
theorem cp_leaf {b : SBlock} {o o2 : Option XRow} (h : xLeaf o2 = xLeaf o) : cpV b o = cpV b o2 := by
  unfold cpV
  rw [h]
theorem out_snoc {f : SFunc} {rows : List (Option XRow)} {i v : Nat} {b : SBlock} {o o2 out : Option XRow} {xs : List V} (hv : (reachN f)[i]? = some v) (hb : f.blocks[v]? = some b) (ho : rows[v]? = some o) (hl : xLeaf o2 = xLeaf o) (hx : xl out = ((reachN f).take i).map fun v => cpV (blk f v) (rowAt rows v)) (h : xs = xl out ++ [cpV b o2]) : xs = ((reachN f).take (i + 1)).map fun v => cpV (blk f v) (rowAt rows v) := by
  have e1 : rowAt rows v = o := by unfold rowAt; rw [ho]; rfl
  have e2 : blk f v = b := by unfold blk; rw [hb]; rfl
  rw [h, hx, take_snoc hv, List.map_append, List.map_singleton, e1, e2, cp_leaf hl]
theorem row_some {o : Option XRow} {l : List SEdge} {j : Nat} {e : SEdge} (hx : xl o = l.map edgeV) (h : l[j]? = some e) : ∃ r, o = some r ∧ r.xs.length = l.length := by
  cases o with
  | none =>
    have hx : [] = l.map edgeV := hx
    have : l = [] := List.map_eq_nil_iff.1 hx.symm
    rw [this] at h
    cases h
  | some r =>
    have hx : r.xs = l.map edgeV := hx
    exact ⟨r, rfl, by rw [hx, List.length_map]⟩
theorem out_end {f : SFunc} {out : Option XRow} {L : List (SBlock × Option XRow)} (hne : L ≠ []) (h : xl out = L.map fun x => cpV x.1 x.2) : ∃ r, out = some r ∧ r.xs = L.map fun x => cpV x.1 x.2 := by
  cases out with
  | none =>
    have h : [] = L.map fun x => cpV x.1 x.2 := h
    exact absurd (List.map_eq_nil_iff.1 h.symm) hne
  | some r => exact ⟨r, rfl, h⟩
theorem rows_drop (f : SFunc) {rows2 : List (Option XRow)} (h : rows2.length = f.blocks.length) : Drops (eOwn rows2) (eOwn ((pairsP f rows2).map (·.2))) := by
  rw [pairs_rows]
  exact drops_sub (rows_sub f h)
def pruneX (f : SFunc) : V := if funcF f = 0 then .tup [funcV (pruneF f), intsX (atF f), .int 0] else .tup [.agg VT.zs24, .sl 1 none [], .int (funcF f)]
open Go.VL renaming VOps_nil → Za, VW_seq → Zb, VW_region → Zd, Needs_nil → Ze, Then_n → Zi, V_fieldAddr → Zj, V_assign → Zk, V_move → Zl, eqRes → Zm, vopT → Zn, goodS → Zo, VW_block → Zs, VW_exit → Zt, V_load → Zu, V_load_agg → Zv, V_store_agg → Zx, V_store → Zy, V_indexAddr → Zz, InBlock_n → Zb1, InBlock_hit → Zc1, Then_r → Zd1, Then_e → Ze1, VW_ret → Zf1, VRet_many → Zh1, VW_skip → Zi1, V_bin → Zj1, VW_condNe → Zm1, VW_condP → Zn1, V_callP → Zx1, V_load_ep → Zz1, V_load_ep_agg → Za2, V_alloc → Zb2, V_box → Zc2, V_lenN → Zd2, V_build → Zf2, V_extract → Zg2, V_add → Zh2, VW_loopF → Zi2, goodU1 → Zn2, V_indexAddr_row → Zr2, Drops.refl → Zt2, VOp_as → Zu2, anyRes → Za3, epRes → Zb3, epE → Zc3, V_lit → Zk3
set_option maxRecDepth 100000 in
theorem ReachE_c {f : SFunc} (h0 : funcF f ≠ 0) : VPure Try.prog 13 [funcV f] (.tup [intsX [], .int (funcF f)]) := by
 have hO := Order_c f
 rw [if_neg h0] at hO
 refine V_start (nt := 15) Try.func13 rfl rfl rfl ?_
 refine Zb (Zd ?_)
 refine Zc (Zc2 rfl rfl (fun g1 => ?_))
 refine Zc (Zk rfl (Zc (Zk rfl (Za (Zi (Zb (Zd (Zc (Zv 0 VT.ty24 rfl rfl rfl ?_)))))))))
 refine Zc (Zu2 (Zx1 [.tmp 7] rfl rfl VT.en28 (hO) ⟨rfl, rfl⟩) ((V.le.refl _ : V.le _ (.tup [intsX [], .int (funcF f)]))) ?_)
 refine Zc (Zl rfl (Zc (Zg2 rfl rfl (Zc (Zg2 rfl rfl (Zc (Zk rfl (Zc (Zk rfl (Za (Zi (Zb (Zd (Zc (Zl rfl ?_)))))))))))))))
 refine Zc (Zx1 [.tmp 11] rfl rfl VT.en29 (sort_nil) ?_)
 refine Za (Zi (Zb (Zd (Zc (Zl rfl (Zc (Zl rfl (Zc (Zk rfl (Zc (Zk rfl (Za (Zi (Zf1 ?_))))))))))))))
 refine Zh1 rfl rfl (.cons (.tmp rfl) (.cons (.tmp rfl) (.nil))) ?_
 rfl
set_option maxRecDepth 100000 in
set_option maxHeartbeats 16000000 in
theorem Prune_c (f : SFunc) : VPure Try.prog 12 [funcV f] (pruneX f) := by
 have hr := pruneX.eq_def f
 refine V_start (nt := 89) Try.func12 rfl rfl rfl ?_
 refine Zb (Zd ?_)
 refine Zc (Zc2 rfl rfl (fun g1 => ?_))
 refine Zc (Zb2 VT.zr24 _ rfl rfl (fun g2 => ?_))
 refine Zc (Zk rfl (Zc (Zk rfl (Za (Zi (Zb (Zd (Zc (Zv 1 VT.ty24 rfl rfl rfl ?_)))))))))
 by_cases h0 : funcF f = 0
 ·
  rw [if_pos h0] at hr
  have hok := func_ok h0
  have ho := order_ok hok.pos hok.edges
  have h128 := hok.len
  have hrl := reach_len f
  have hol := nodup_lt ho.nodup ho.lt
  have hal := at_len f
  have hre := reach_eq ho
  have hnl : (reachL f).length = (reachN f).length := by rw [hre, List.length_map]
  refine Zc (Zx1 [.tmp 16] rfl rfl VT.en13 (Reachable_c h0) ?_)
  refine Zc (Zl rfl (Zc (Zg2 rfl rfl (Zc (Zg2 rfl rfl (Zc (Zk rfl (Zc (Zk rfl (Za (Zi (Zb (Zb (Zd (Zc (Zl rfl (Zc (Zj1 rfl rfl rfl (Za (Zi ?_))))))))))))))))))))
  refine Zm1 rfl (fun h21 => ?_) (fun h21 => ?_)
  · exact absurd rfl h21
  ·
   refine Zi1 (Zi (Zb (Zd (Zc (Zj VT.fa24_1 rfl (Zc (Zu 1 VT.ty22 rfl rfl rfl ?_)))))))
   refine Zc (Zd2 (n := f.blocks.length) Try.underlying22 rfl (by simp) (fun hl26 => ?_))
   refine Zc (V_makeRow (.raw (.int .i64 0)) (fun m => rfl) rfl VT.sl36 rfl rfl (by omega) (by omega) (fun g27 => ?_))
   refine Zc (Zk rfl (Za (Zi (Zb (Zb (Zd (Zc (Zl rfl ?_))))))))
   refine Zc (V_len_raw Try.underlying36 rfl ?_)
   refine Zc (Zl rfl (Za (Zi (Zs ?_))))
   refine Zi2 (ι := Nat) (fun k => f.blocks.length - k) (fun k => [(1, some (.ptr g1 0)), (2, some (.ptr g2 0)), (5, some (intsX (reachL f))), (7, some (.raw (.slice (some ⟨g27, 0, none⟩) f.blocks.length f.blocks.length))), (28, some (.raw (.slice (some ⟨g27, 0, none⟩) f.blocks.length f.blocks.length))), (29, some (.int f.blocks.length)), (30, some (.int k))]) (fun k => [.cells g27 3 (((atF f).take k ++ (List.replicate f.blocks.length 0).drop k).map V.int), .cells g2 24 VT.zs24, .cells g1 24 [.int f.name, blocksX f.blocks]]) (fun k => k ≤ f.blocks.length) 0 (Nat.zero_le _) ⟨rfl, rfl, rfl, rfl, rfl, rfl, rfl, trivial⟩ (Drops.keepE (congrArg (Own.cells g27 3) (by rw [fill_zero, List.map_replicate, Int.toNat_natCast]; exact flat_zero _)) (Drops.keep (Drops.keep (Zt2 _)))) ?_
   rintro k hk
   change k ≤ f.blocks.length at hk
   refine Zb (Zd (Zc (Zj1 rfl rfl rfl (Za (Zi (Zb ?_))))))
   refine Zn1 rfl (fun h31 => ?_) (fun h31 => ?_)
   ·
    refine Zi1 (Zi (Zb (Zs (Zb (Zd (Zc (Zl rfl (Zc (Zk rfl (Za (Zi (Zd (Zc (Zl rfl (Zc (Zl rfl (Zc (Zl rfl (Zc (Zl rfl ?_))))))))))))))))))))
    refine Zc (Zx1 [.tmp 35, .tmp 36] rfl rfl VT.en27 (intIndex_c (reachL f) none (k : Int)) ?_)
    refine Zc (Zu2 (Zr2 VT.sl36 rfl rfl (by omega) (by omega) ⟨rfl, rfl⟩) ((V.le.of_eq (congrArg (V.ptr g27) (by omega)) : V.le _ (.ptr g27 k))) ?_)
    refine Zc (Zy 0 VT.ty3 rfl rfl rfl rfl (Nat.ble_eq_true_of_le (by rw [List.length_map, fill_len (by simp [hal])]; simp; omega)) ?_)
    refine Za (Zb1 (Zi (Zd ?_)))
    refine Zc (Zh2 rfl rfl (by omega) ?_)
    refine Zc (Zl rfl (Za (Zi ?_)))
    exact ⟨k + 1, (by (try simp only []); omega), (by omega), ⟨rfl, rfl, rfl, rfl, rfl, rfl, rfl, trivial⟩, (Drops.keepE (congrArg (Own.cells g27 3) (fill_set (by simp [hal]) (at_idx (by omega)))) (Drops.keep (Drops.keep (Zt2 _))))⟩
   ·
    have hkn : ¬ k < (atF f).length := by omega
    rw [fill_end (l := atF f) (z := (List.replicate f.blocks.length 0)) (by simp [hal]) hkn]
    refine Zt (Ze1 (Ze1 (Zc1 (Zi ?_))))
    refine VW_freeze 0 (q := 7) (rest := []) ((atF f).map V.int) rfl rfl (by rw [flat_ints2, List.append_nil]) (by rw [List.length_map]; exact hal) (Nat.le_refl _) (by simp only [maxLen]; omega) (fits_ints _) ?_
    refine Zb (Zd (Zc (Zv 1 VT.ty24 rfl rfl rfl ?_)))
    refine Zc (V_callB [.tmp 40] [_, _] _ rfl rfl VT.en20 (.refl _) (Copy_c (cp_ok h0)) ?_)
    rintro r Sa ⟨rows, hR, rfl, rfl⟩
    refine Zc (Zb2 VT.zr24 _ rfl rfl (fun g9 => ?_))
    refine Zc (Zx 0 VT.ty24 rfl rfl rfl rfl rfl (Za (Zi (Zb (Zd (Zc (Zj VT.fa24_0 rfl (Zc (Zu 2 VT.ty3 rfl rfl rfl ?_)))))))))
    refine Zc (Zf2 [0] [.tmp 43] VT.st24 rfl rfl rfl rfl ?_)
    refine Zc (Zb2 VT.zr24 _ rfl rfl (fun g10 => ?_))
    refine Zc (Zx 0 VT.ty24 rfl rfl rfl rfl rfl (Za (Zi (Zb (Zb (Zd (Zc (Zl rfl ?_))))))))
    refine Zc (Zd2 (n := (reachL f).length) Try.underlying36 rfl (by simp) (fun hl46 => ?_))
    refine Zc (Zl rfl (Za (Zi (Zs ?_))))
    refine Zi2 (ι := Nat × List (Option XRow) × Option XRow) (fun (i, rows2, out) => (reachL f).length - i) (fun (i, rows2, out) => [(1, some (.ptr g1 0)), (2, some (.ptr g2 0)), (7, some (intsX (atF f))), (9, some (.ptr g9 0)), (10, some (.ptr g10 0)), (45, some (intsX (reachL f))), (46, some (.int (reachL f).length)), (47, some (.int i))]) (fun (i, rows2, out) => .cells g10 24 [.int f.name, xLeaf out] :: .cells g9 24 [.int f.name, .sl 7 none (cpL f.blocks rows)] :: .cells g2 24 VT.zs24 :: .cells g1 24 [.int f.name, blocksX f.blocks] :: (xOwn 61 out ++ eOwn rows2)) (fun (i, rows2, out) => i ≤ (reachN f).length ∧ PInv f rows rows2 i ∧ xl out = ((reachN f).take i).map (fun v => cpV (blk f v) (rowAt rows v)) ∧ xOk 7 out) (0, rows, none) ⟨Nat.zero_le _, pinv_start hR, rfl, trivial⟩ ⟨rfl, rfl, rfl, rfl, rfl, rfl, rfl, rfl, trivial⟩ (Drops.keep (Drops.keep (Drops.keep (Drops.keep (Zt2 _))))) ?_
    rintro ⟨i, rows2, out⟩ hA
    change i ≤ (reachN f).length ∧ PInv f rows rows2 i ∧ xl out = ((reachN f).take i).map (fun v => cpV (blk f v) (rowAt rows v)) ∧ xOk 7 out at hA
    obtain ⟨hi, hP, hxo, hoo⟩ := hA
    refine Zb (Zd (Zc (Zj1 rfl rfl rfl (Za (Zi (Zb ?_))))))
    refine Zn1 rfl (fun h48 => ?_) (fun h48 => ?_)
    ·
     obtain ⟨v, hv⟩ := get_of_lt (reachN f) i (by omega)
     have hvo := (reachN_mem ho).1 (List.mem_of_getElem? hv)
     have hvl := ho.lt v hvo
     obtain ⟨b, hb⟩ := get_of_lt f.blocks v (by omega)
     have hRl := hR.len
     obtain ⟨o, hro⟩ := get_of_lt rows v (by omega)
     have hPl := hP.len
     obtain ⟨o2, h2⟩ := get_of_lt rows2 v (by omega)
     obtain ⟨hlf, hok2, hx2⟩ := hP.row v b o o2 hb hro h2
     rw [if_neg (not_done hv)] at hx2
     have hvr : v < rows2.length := (List.getElem?_eq_some_iff.1 h2).1
     have hte := term_edges hok (List.mem_of_getElem? hb)
     have hxl : (xl out).length = i := by rw [hxo, List.length_map, List.length_take]; omega
     have hlx : (xl o2).length = b.term.to.length := by rw [hx2, List.length_map]
     refine Zi1 (Zi (Zb (Zs (Zb (Zd ?_)))))
     refine Zc (Zz (el := V.int (v : Int)) VT.sl36 rfl rfl (by omega) (by rw [hre]; exact get_int (by rw [Int.toNat_natCast, List.getElem?_map, hv]; rfl)) (fun a49 => ?_))
     refine Zc (Zz1 VT.ty3 rfl rfl (Zc (Zk rfl (Za (Zi (Zb (Zd (Zc (Zj VT.fa24_1 rfl (Zc (Zu 1 VT.ty22 rfl rfl rfl (Zc (Zl rfl ?_)))))))))))))
     refine Zc (Zz (el := cpV b o2) VT.sl22 rfl rfl (by omega) (by rw [← cp_leaf hlf]; exact cpL_get hb hro) (fun a54 => ?_))
     refine Zc (Za2 VT.ty61 rfl rfl ?_)
     refine Zc (Zb2 VT.zr61 _ rfl rfl (fun g13 => ?_))
     refine Zc (Zx 0 VT.ty61 rfl rfl rfl rfl rfl (Za (Zi (Zb (Zb (Zd (Zc (Zj VT.fa61_2 rfl (Zc (Zj VT.fa58_4 rfl ?_))))))))))
     refine Zc (Zu2 (Zu 0 VT.ty56 rfl rfl rfl ⟨rfl, rfl⟩) ((V.le.of_eq (xLeaf_raw o2) : V.le _ (.raw (.slice (xA o2) (xl o2).length (xcap o2))))) ?_)
     refine Zc (V_len_raw Try.underlying56 rfl ?_)
     refine Zc (Zl rfl (Za (Zi ?_)))
     have hs0 := set0_self (f := f) h2 hx2
     rw [hlx]
     refine VW_perm (S' := .cells g13 61 [intsX b.params, inssX b.ins, .int b.term.kind, .int b.term.arg, .int b.term.n, intsX b.term.cases, xLeaf o2] :: .cells g10 24 [.int f.name, xLeaf out] :: .cells g9 24 [.int f.name, .sl 7 none (cpL f.blocks rows)] :: .cells g2 24 VT.zs24 :: .cells g1 24 [.int f.name, blocksX f.blocks] :: (xOwn 61 out ++ eOwn (rows2.set v (setE o2 (mixE f b.term.to 0))))) (by rw [hs0]; exact List.Perm.refl _) ?_
     refine Zs ?_
     refine Zi2 (ι := Nat) (fun j => b.term.to.length - j) (fun j => [(1, some (.ptr g1 0)), (2, some (.ptr g2 0)), (7, some (intsX (atF f))), (9, some (.ptr g9 0)), (10, some (.ptr g10 0)), (45, some (intsX (reachL f))), (46, some (.int (reachL f).length)), (47, some (.int i)), (13, some (.ptr g13 0)), (59, some (.int b.term.to.length)), (60, some (.int j))]) (fun j => .cells g13 61 [intsX b.params, inssX b.ins, .int b.term.kind, .int b.term.arg, .int b.term.n, intsX b.term.cases, xLeaf o2] :: .cells g10 24 [.int f.name, xLeaf out] :: .cells g9 24 [.int f.name, .sl 7 none (cpL f.blocks rows)] :: .cells g2 24 VT.zs24 :: .cells g1 24 [.int f.name, blocksX f.blocks] :: (xOwn 61 out ++ eOwn (rows2.set v (setE o2 (mixE f b.term.to j))))) (fun j => j ≤ b.term.to.length) 0 (Nat.zero_le _) ⟨rfl, rfl, rfl, rfl, rfl, rfl, rfl, rfl, rfl, rfl, rfl, trivial⟩ (Drops.keep (Drops.keep (Drops.keep (Drops.keep (Drops.keep (Zt2 _)))))) ?_
     rintro j hj
     change j ≤ b.term.to.length at hj
     refine Zb (Zd (Zc (Zj1 rfl rfl rfl (Za (Zi (Zb ?_))))))
     refine Zn1 rfl (fun h61 => ?_) (fun h61 => ?_)
     ·
      obtain ⟨e, he⟩ := get_of_lt b.term.to j h61
      have hmx := mix_get (f := f) he
      obtain ⟨r, rfl, hrl⟩ := row_some hx2 he
      obtain ⟨hE1, hE2⟩ := hok.edges b (List.mem_of_getElem? hb) e (List.mem_of_getElem? he)
      refine VW_perm (S' := .cells r.g 63 (ecells (mixE f b.term.to j) ++ r.rest) :: .cells g13 61 [intsX b.params, inssX b.ins, .int b.term.kind, .int b.term.arg, .int b.term.n, intsX b.term.cases, xLeaf (some r)] :: .cells g10 24 [.int f.name, xLeaf out] :: .cells g9 24 [.int f.name, .sl 7 none (cpL f.blocks rows)] :: .cells g2 24 VT.zs24 :: .cells g1 24 [.int f.name, blocksX f.blocks] :: ((xOwn 61 out ++ eOwn (rows2.set v none)))) (pullL [.cells g13 61 [intsX b.params, inssX b.ins, .int b.term.kind, .int b.term.arg, .int b.term.n, intsX b.term.cases, xLeaf (some r)], .cells g10 24 [.int f.name, xLeaf out], .cells g9 24 [.int f.name, .sl 7 none (cpL f.blocks rows)], .cells g2 24 VT.zs24, .cells g1 24 [.int f.name, blocksX f.blocks]] (pullL (xOwn 61 out) (eown_some hvr r (mixE f b.term.to j)))) ?_
      refine Zi1 (Zi (Zb (Zs (Zb (Zd (Zc (Zl rfl (Zc (Zk rfl (Za (Zi ?_)))))))))))
      refine VW_drawR (G := Unit) [([], [13], []), ([0], [63], []), ([1, 0], [64], []), ([], [14], []), ([], [7], []), ([], [13], []), ([5], [68], []), ([6, 5], [69], []), ([], [14], []), ([8, 7, 6, 5], [70, 71], []), ([9, 8, 7, 6, 5], [72], []), ([10, 9, 8, 7, 6, 5], [73], []), ([11, 10, 9, 8, 7, 6, 5, 4], [67, 74], []), ([12, 11, 10, 9, 8, 7, 6, 5, 4], [75], []), (dn 14, [65, 66], []), (dn 15, [77], []), (dn 16, [78, 76], [])] [16] (setSt _ 0 (fun _ => .cells r.g 63 ((ecells (mixE f b.term.to j) ++ r.rest).set (j * 2 + 0) (.int (gI (atF f) e.block))))) [] [63, 64, 65, 66, 67, 68, 69, 70, 71, 72, 73, 74, 75, 76, 77, 78] rfl VT.mix ?_
      refine Zp (Zm _) (Zo rfl rfl ⟨(fun γ => Zf (fun _ h13 => Ze (Zn rfl (Zj VT.fa61_2 h13 ⟨rfl, rfl⟩)))), trivial⟩) ?_
      refine Zp (Zm _) (Zo rfl rfl ⟨(fun γ => Zw 0 0 rfl (fun _ h63 => Ze (Zn rfl (Zj VT.fa58_4 h63 ⟨rfl, rfl⟩)))), trivial⟩) ?_
      refine Zp (Zm _) (Zo rfl rfl ⟨(fun γ => Zw 1 0 rfl (fun _ h64 => Ze (Zn rfl (Zu 1 VT.ty56 h64 rfl rfl ⟨rfl, rfl⟩)))), trivial⟩) ?_
      refine Zp (Zm _) (Zo rfl rfl ⟨(fun γ => Zf (fun _ h14 => Ze (Zn rfl (Zl h14 ⟨rfl, rfl⟩)))), trivial⟩) ?_
      refine Zp (Zm _) (Zo rfl rfl ⟨(fun γ => Zf (fun _ h7 => Ze (Zn rfl (Zl h7 ⟨rfl, rfl⟩)))), trivial⟩) ?_
      refine Zp (Zm _) (Zo rfl rfl ⟨(fun γ => Zf (fun _ h13 => Ze (Zn rfl (Zj VT.fa61_2 h13 ⟨rfl, rfl⟩)))), trivial⟩) ?_
      refine Zp (Zm _) (Zo rfl rfl ⟨(fun γ => Zw 5 0 rfl (fun _ h68 => Ze (Zn rfl (Zj VT.fa58_4 h68 ⟨rfl, rfl⟩)))), trivial⟩) ?_
      refine Zp (Zm _) (Zo rfl rfl ⟨(fun γ => Zw 6 0 rfl (fun _ h69 => Ze (Zn rfl (Zu 1 VT.ty56 h69 rfl rfl ⟨rfl, rfl⟩)))), trivial⟩) ?_
      refine Zp (Zm _) (Zo rfl rfl ⟨(fun γ => Zf (fun _ h14 => Ze (Zn rfl (Zl h14 ⟨rfl, rfl⟩)))), trivial⟩) ?_
      refine Zp (Zm _) (Zo rfl rfl ⟨(fun γ => Zw 7 1 rfl (fun _ h70 => Zw 8 0 rfl (fun _ h71 => Ze (Zn rfl (Zu2 (Zr2 VT.sl56 h70 h71 (by omega) (by omega) ⟨rfl, rfl⟩) ((V.le.of_eq (congrArg (V.ptr r.g) (by omega)) : V.le _ (.ptr r.g (j * 2)))) ⟨rfl, rfl⟩))))), trivial⟩) ?_
      refine Zp (Zm _) (Zo rfl rfl ⟨(fun γ => Zw 9 0 rfl (fun _ h72 => Ze (Zn rfl (Zj VT.fa63_0 h72 ⟨rfl, rfl⟩)))), trivial⟩) ?_
      refine Zp (Zm _) (Zo rfl rfl ⟨(fun γ => Zw 10 0 rfl (fun _ h73 => Ze (Zn rfl (Zu 0 VT.ty3 h73 rfl (row_get hmx _) ⟨rfl, rfl⟩)))), trivial⟩) ?_
      refine Zp (Zb3 _) (Zo rfl rfl ⟨(fun γ => Zw 4 7 rfl (fun _ h67 => Zw 11 0 rfl (fun _ h74 => Ze (Zn rfl (Zz (el := V.int (gI (atF f) e.block)) VT.sl36 h67 h74 (by omega) (get_int (at_get (by omega) hE2)) (fun a75 => ⟨⟨_, rfl⟩, rfl⟩)))))), trivial⟩) ?_
      refine Zp (Zm _) (Zo rfl rfl ⟨(fun γ => Zw 12 0 rfl (fun _ h75 => Ze (Zc3 h75 (fun a_75 e75 => Zn rfl (Zz1 VT.ty3 e75 rfl ⟨rfl, rfl⟩))))), trivial⟩) ?_
      refine Zp (Zm _) (Zo rfl rfl ⟨(fun γ => Zw 2 11 rfl (fun _ h65 => Zw 3 10 rfl (fun _ h66 => Ze (Zn rfl (Zu2 (Zr2 VT.sl56 h65 h66 (by omega) (by omega) ⟨rfl, rfl⟩) ((V.le.of_eq (congrArg (V.ptr r.g) (by omega)) : V.le _ (.ptr r.g (j * 2)))) ⟨rfl, rfl⟩))))), trivial⟩) ?_
      refine Zp (Zm _) (Zo rfl rfl ⟨(fun γ => Zw 14 0 rfl (fun _ h77 => Ze (Zn rfl (Zj VT.fa63_0 h77 ⟨rfl, rfl⟩)))), trivial⟩) ?_
      refine Zp Za3 (Zn2 rfl (fun γ => Zw 15 0 rfl (fun _ h78 => Zw 13 2 rfl (fun _ h76 => Ze (Zn rfl (Zy 0 VT.ty3 h78 h76 rfl rfl (Nat.ble_eq_true_of_le (by rw [List.length_append, ecells_len, mix_len]; omega)) ⟨default, trivial, rfl⟩)))))) ?_
      refine DrawP_nil (fun γ => Ze ?_)
      refine Zb1 (Zi ?_)
      refine VW_perm (S' := .cells g13 61 [intsX b.params, inssX b.ins, .int b.term.kind, .int b.term.arg, .int b.term.n, intsX b.term.cases, xLeaf (some r)] :: .cells g10 24 [.int f.name, xLeaf out] :: .cells g9 24 [.int f.name, .sl 7 none (cpL f.blocks rows)] :: .cells g2 24 VT.zs24 :: .cells g1 24 [.int f.name, blocksX f.blocks] :: (xOwn 61 out ++ eOwn (rows2.set v (setE (some r) (mixE f b.term.to (j + 1)))))) (by rw [row_set he]; exact (pullL [.cells g13 61 [intsX b.params, inssX b.ins, .int b.term.kind, .int b.term.arg, .int b.term.n, intsX b.term.cases, xLeaf (some r)], .cells g10 24 [.int f.name, xLeaf out], .cells g9 24 [.int f.name, .sl 7 none (cpL f.blocks rows)], .cells g2 24 VT.zs24, .cells g1 24 [.int f.name, blocksX f.blocks]] (pullL (xOwn 61 out) (eown_some hvr r (mixE f b.term.to (j + 1))))).symm) ?_
      refine Zd ?_
      refine Zc (Zh2 rfl rfl (by omega) ?_)
      refine Zc (Zl rfl (Za (Zi ?_)))
      exact ⟨j + 1, (by (try simp only []); omega), (by omega), ⟨rfl, rfl, rfl, rfl, rfl, rfl, rfl, rfl, rfl, rfl, rfl, trivial⟩, (Drops.keep (Drops.keep (Drops.keep (Drops.keep (Drops.keep (Zt2 _))))))⟩
     ·
      have hje : j = b.term.to.length := by omega
      subst hje
      refine Zt (Ze1 (Ze1 (Zc1 (Zi (Zd (Zc (Zj VT.fa24_1 rfl (Zc (Zu 1 VT.ty22 rfl rfl rfl (Zc (Zv 0 VT.ty61 rfl rfl rfl ?_)))))))))))
      refine Zc (Zk3 [.tmp 82] VT.sl22 rfl rfl rfl rfl (cpV_fit b o2) ?_)
      refine Zc (V_appendOT (o := out) ([.cells g13 61 [intsX b.params, inssX b.ins, .int b.term.kind, .int b.term.arg, .int b.term.n, intsX b.term.cases, xLeaf o2], .cells g10 24 [.int f.name, xLeaf out], .cells g9 24 [.int f.name, .sl 7 none (cpL f.blocks rows)], .cells g2 24 VT.zs24, .cells g1 24 [.int f.name, blocksX f.blocks]] ++ eOwn (rows2.set v (setE o2 (mixE f b.term.to b.term.to.length)))) (fun o' => .cells g13 61 [intsX b.params, inssX b.ins, .int b.term.kind, .int b.term.arg, .int b.term.n, intsX b.term.cases, xLeaf o2] :: .cells g10 24 [.int f.name, xLeaf out] :: .cells g9 24 [.int f.name, .sl 7 none (cpL f.blocks rows)] :: .cells g2 24 VT.zs24 :: .cells g1 24 [.int f.name, blocksX f.blocks] :: (xOwn 61 o' ++ eOwn (rows2.set v (setE o2 (mixE f b.term.to b.term.to.length))))) VT.sl22 (by decide) rfl rfl (pullC [.cells g13 61 [intsX b.params, inssX b.ins, .int b.term.kind, .int b.term.arg, .int b.term.n, intsX b.term.cases, xLeaf o2], .cells g10 24 [.int f.name, xLeaf out], .cells g9 24 [.int f.name, .sl 7 none (cpL f.blocks rows)], .cells g2 24 VT.zs24, .cells g1 24 [.int f.name, blocksX f.blocks]]) (fun o' => (pullC [.cells g13 61 [intsX b.params, inssX b.ins, .int b.term.kind, .int b.term.arg, .int b.term.n, intsX b.term.cases, xLeaf o2], .cells g10 24 [.int f.name, xLeaf out], .cells g9 24 [.int f.name, .sl 7 none (cpL f.blocks rows)], .cells g2 24 VT.zs24, .cells g1 24 [.int f.name, blocksX f.blocks]]).symm) hoo (cps_7 hxo) (fun _ => List.cons_ne_nil _ _) (by rw [hxl, List.length_singleton]; omega) (cp_flat b o2) (fun o84 e84_1 e84_2 e84_3 => ?_))
      refine Zc (Zj VT.fa24_1 rfl ?_)
      refine Zc (Zy 1 VT.ty22 rfl rfl (xLeaf_leaf _) rfl rfl ?_)
      refine Za (Zb1 (Zi (Zd ?_)))
      refine Zc (Zh2 rfl rfl (by omega) ?_)
      refine Zc (Zl rfl (Za (Zi ?_)))
      exact ⟨(i + 1, rows2.set v (setE o2 (mixE f b.term.to b.term.to.length)), o84), (by (try simp only []); omega), ⟨by omega, pinv_step hP hv hb h2 hx2, out_snoc hv hb hro hlf hxo e84_1, e84_2⟩, ⟨rfl, rfl, rfl, rfl, rfl, rfl, rfl, rfl, trivial⟩, (Drops.drop (Drops.keep (Drops.keep (Drops.keep (Drops.keep (Zt2 _))))))⟩
    ·
     have hie : i = (reachN f).length := by omega
     subst hie
     rw [List.take_length, pairs_cp ho hR.len hP] at hxo
     have hrn : 0 < (reachN f).length := by rw [← hnl, hrl]; exact (List.getElem?_eq_some_iff.1 ho.zero).1
     have hne : (pairsP f rows2) ≠ [] := fun e => by have h9 := congrArg List.length e; unfold pairsP at h9; rw [List.length_map, List.length_nil] at h9; omega
     obtain ⟨r, rfl, hrx⟩ := out_end (f := f) hne hxo
     obtain ⟨c1, c2, c3⟩ := hoo
     refine Zt (Ze1 (Ze1 (Zc1 (Zi ?_))))
     refine VW_drops (S' := .cells r.g 61 ([] ++ (((pairsP f rows2).map fun x => cpV x.1 x.2).flatMap V.leaves ++ r.rest)) :: (eOwn ((pairsP f rows2).map (·.2)) ++ [.cells g10 24 [.int f.name, xLeaf (some r)], .cells g2 24 VT.zs24])) (Drops.trans (.keep (.drop (.keep (.drop (.keep (rows_drop f (hP.len.trans hR.len))))))) (.of_perm ?_)) ?_
     · rw [← hrx]; exact List.perm_append_comm (l₁ := [_, _])
     refine freeze_blocks r.g r.rest (pairsP f rows2) [] [.cells g10 24 [.int f.name, xLeaf (some r)], .cells g2 24 VT.zs24] (pairs_ok ho hR.len hP) ?_
     rw [pairs_blocks ho]
     refine VW_freezeC 0 0 1 (sz := 7) (rest := r.rest) ((pruneF f).blocks.map blockV) rfl rfl rfl (List.nil_append _) (by rw [List.length_map, prune_len, hnl, hrx]; unfold pairsP; rw [List.length_map, List.length_map]) c1 c2 (fits_bs _) ?_
     show VW Try.prog _ _ _ _ [.cells g10 24 [.int f.name, blocksX (pruneF f).blocks], .cells g2 24 VT.zs24]
     refine Zb (Zd (Zc (Zv 0 VT.ty24 rfl rfl rfl (Zc (Zl rfl (Zc (Zx 1 VT.ty24 rfl rfl rfl rfl rfl (Zc (Zk rfl (Zc (Zk rfl (Za (Zi (Zf1 ?_))))))))))))))
     refine Zh1 rfl rfl (.cons (.agg (i := 1) VT.ty24 rfl rfl rfl) (.cons (.tmp rfl) (.cons (.tmp rfl) (.nil)))) ?_
     rw [hr]
     rfl
 ·
  rw [if_neg h0] at hr
  refine Zc (Zx1 [.tmp 16] rfl rfl VT.en13 (ReachE_c h0) ?_)
  refine Zc (Zl rfl (Zc (Zg2 rfl rfl (Zc (Zg2 rfl rfl (Zc (Zk rfl (Zc (Zk rfl (Za (Zi (Zb (Zb (Zd (Zc (Zl rfl (Zc (Zj1 rfl rfl rfl (Za (Zi ?_))))))))))))))))))))
  refine Zm1 rfl (fun h21 => ?_) (fun h21 => ?_)
  ·
   refine Zb (Zd ?_)
   refine Zc (Zf2 [] [] VT.st24 rfl rfl rfl rfl ?_)
   refine Zc (Zl rfl (Zc (Zx 0 VT.ty24 rfl rfl rfl rfl rfl ?_)))
   refine Zc (Zu2 (Zk rfl ⟨rfl, rfl⟩) ((V.le.nil 1)) ?_)
   refine Zc (Zk rfl (Za (Zi (Zf1 ?_))))
   refine Zd1 (Zh1 rfl rfl (.cons (.agg (i := 0) VT.ty24 rfl rfl rfl) (.cons (.tmp rfl) (.cons (.tmp rfl) (.nil)))) ?_)
   rw [hr]
   rfl
  · exact absurd h21 h0
theorem Prune_c0 {f : SFunc} (h : funcF f = 0) : VPure Try.prog 12 [funcV f] (.tup [funcV (pruneF f), intsX (atF f), .int 0]) := by
  have h1 := Prune_c f
  rwa [pruneX, if_pos h] at h1
end Go.Proofs.Ytimmnbdajflgmaa.X26
