import Derived.Test.YtjekhhgjfelpgaaGreatX20
import Derived.Test.YtjekhhgjfelpgaaGreatX25
set_option linter.all false
open List renaming length_append → Ya, length_map → Yb, flatMap_cons → Yc, length_cons → Yd, length_nil → Ye, flatMap_append → Yf
namespace Go.Proofs.YtjekhhgjfelpgaaGreat.X26
open Go.VL Go.SM Go.Proofs.YtjekhhgjfelpgaaGreat XS X1 X2 X3 X4 X5 X6 X7 X8 X9 X10 X12 X13 X14 X20 X25
def reE (at_ : List Int) (e : SEdge) : SEdge := ⟨gI at_ e.block, e.args⟩
def setE (o : Option XRow) (es : List SEdge) : Option XRow := o.map fun r => ⟨r.g, r.cap, es.map edgeV, r.rest⟩
def blk (f : SFunc) (v : Nat) : SBlock := f.blocks[v]?.getD default
def ecells (es : List SEdge) : List V := es.flatMap fun e => [.int e.block, intsX e.args]
theorem ecells_eq (es : List SEdge) : (es.map edgeV).flatMap V.leaves = ecells es := by
  rw [List.flatMap_map]
  rfl
theorem ecells_len (es : List SEdge) : (ecells es).length = es.length * 2 := by
  induction es with
  | nil => rfl
  | cons a es ih =>
    have hl : ecells (a :: es) = [.int a.block, intsX a.args] ++ ecells es := rfl
    rw [hl, Ya, ih]
    simp only [Yd, Ye]
    omega
theorem ecells_set {es : List SEdge} {j : Nat} {e : SEdge} (h : es[j]? = some e) (p : Int) : (ecells es).set (j * 2) (.int p) = ecells (es.set j ⟨p, e.args⟩) := by
  induction es generalizing j with
  | nil => simp at h
  | cons a es ih =>
    have hl : ∀ a : SEdge, ∀ es : List SEdge, ecells (a :: es) = [.int a.block, intsX a.args] ++ ecells es := fun _ _ => rfl
    cases j with
    | zero =>
      have h : a = e := by simpa using h
      subst h
      rfl
    | succ j =>
      have h : es[j]? = some e := by simpa using h
      rw [List.set_cons_succ, hl, hl, ← ih h, List.set_append]
      have e1 : ¬ ((j + 1) * 2 < ([V.int a.block, intsX a.args] : List V).length) := by simp only [Yd, Ye]; omega
      have e2 : (j + 1) * 2 - ([V.int a.block, intsX a.args] : List V).length = j * 2 := by simp only [Yd, Ye]; omega
      rw [if_neg e1, e2]
theorem setE_self {o : Option XRow} {es : List SEdge} (h : xl o = es.map edgeV) : setE o es = o := by
  cases o with
  | none => rfl
  | some r =>
    have h : r.xs = es.map edgeV := h
    show some (XRow.mk r.g r.cap (es.map edgeV) r.rest) = some r
    rw [← h]
theorem eown_set {rows : List (Option XRow)} {v : Nat} (hv : v < rows.length) (o : Option XRow) : (eOwn (rows.set v o)).Perm (xOwn 79 o ++ eOwn (rows.set v none)) := by
  have h2 : ∀ x, rows.set v x = rows.take v ++ x :: rows.drop (v + 1) := fun x => by rw [List.set_eq_take_append_cons_drop, if_pos hv]
  unfold eOwn
  rw [h2, h2, Yf, Yc, Yf, Yc]
  show (_ ++ (xOwn 79 o ++ _)).Perm (xOwn 79 o ++ (_ ++ ([] ++ _)))
  rw [List.nil_append, ← List.append_assoc, ← List.append_assoc]
  exact List.perm_append_comm.append_right _
structure PInv (f : SFunc) (rows rows2 : List (Option XRow)) (i : Nat) : Prop where
  len : rows2.length = rows.length
  row : ∀ (v : Nat) (b : SBlock) (o o2 : Option XRow), f.blocks[v]? = some b → rows[v]? = some o → rows2[v]? = some o2 → xLeaf o2 = xLeaf o ∧ xOk 2 o2 ∧ xl o2 = (if v ∈ (reachN f).take i then b.term.to.map (reE (atF f)) else b.term.to).map edgeV
theorem xLeaf_set {o : Option XRow} {es : List SEdge} (h : (xl o).length = es.length) : xLeaf (setE o es) = xLeaf o := by
  cases o with
  | none => rfl
  | some r =>
    have h : r.xs.length = es.length := h
    show V.raw (.slice (some ⟨r.g, 0, none⟩) (es.map edgeV).length r.cap) = .raw (.slice (some ⟨r.g, 0, none⟩) r.xs.length r.cap)
    rw [Yb, h]
theorem xOk_set {o : Option XRow} {es0 es : List SEdge} (h0 : xl o = es0.map edgeV) (h : es0.length = es.length) (hk : xOk 2 o) : xOk 2 (setE o es) := by
  cases o with
  | none => trivial
  | some r =>
    have h0 : r.xs = es0.map edgeV := h0
    obtain ⟨h1, h2, h3⟩ := hk
    rw [h0] at h1 h3
    rw [ecells_eq, Ya, ecells_len] at h3
    rw [Yb] at h1
    refine ⟨?_, h2, ?_⟩
    · show (es.map edgeV).length ≤ r.cap
      rw [Yb]; omega
    · show ((es.map edgeV).flatMap V.leaves ++ r.rest).length = r.cap * 2
      rw [ecells_eq, Ya, ecells_len]
      omega
theorem xl_set {o : Option XRow} {es : List SEdge} (h : (xl o).length = es.length) : xl (setE o es) = es.map edgeV := by
  cases o with
  | none =>
    have h : 0 = es.length := h
    rw [List.length_eq_zero_iff.1 h.symm]
    rfl
  | some r => rfl
theorem cpL_get {bs : List SBlock} {rows : List (Option XRow)} {v : Nat} {b : SBlock} {o : Option XRow} (hb : bs[v]? = some b) (ho : rows[v]? = some o) : (cpL bs rows)[v]? = some (cpV b o) := by
  unfold cpL
  rw [List.getElem?_zipWith, hb, ho]
theorem cp_ok {f : SFunc} (h0 : funcF f = 0) : CpOk f := by
  have hok := func_ok h0
  have fi := func_iff.1 h0
  have hl := nodup_wi fi.kok.nodup fi.kok.wi
  rw [keysL] at hl
  have h128 := hok.len
  have hp : ∀ b ∈ f.blocks, b.params.length ≤ 4096 ∧ b.ins.length ≤ 4096 := fun b hb => by
    obtain ⟨s, t, e⟩ := List.append_of_mem hb
    rw [e, Yf, Yc, Ya, Ya, Yb, dB, Ya, keysI_len, Yb] at hl
    omega
  refine ⟨by omega, fun b hb => ?_⟩
  obtain ⟨b1, b2⟩ := fi.block b hb
  have he := endF_ok b2
  have h1 := hp b hb
  have h2 := term_edges hok hb
  have h3 := he.many
  refine ⟨by omega, by omega, by omega, by omega, fun i hi => ?_, fun e hem => ?_⟩
  · have := (form_of (b1 i hi)).many
    omega
  · obtain ⟨x1, x2, x3⟩ := he.edges e hem
    obtain ⟨c, hc⟩ : ∃ c, f.blocks[e.block.toNat]? = some c := ⟨_, List.getElem?_eq_getElem (by omega)⟩
    have h4 := (hp c (List.mem_of_getElem? hc)).1
    unfold paramsOf at x3
    rw [hc] at x3
    have x3 : e.args.length = c.params.length := x3
    omega
theorem fits_es (l : List SEdge) : ∀ x ∈ l.map edgeV, x.fits 2 = true ∧ ((∃ ls, x = .agg ls) ∨ x.leaf = true) := fun x hx => by
  obtain ⟨n, _, rfl⟩ := List.mem_map.1 hx
  exact ⟨rfl, .inl ⟨_, rfl⟩⟩
theorem freeze_blocks {nt : Nat} {Q : Exit → Fr → Store → Prop} {F : Fr} {c : Code} (go : Nat) (rest : List V) : ∀ (L : List (SBlock × Option XRow)) (pre : List V) (R : Store), (∀ x ∈ L, xl x.2 = x.1.term.to.map edgeV ∧ xOk 2 x.2) → VW Tryz.prog nt c Q F (.cells go 50 (pre ++ ((L.map fun x => blockV x.1).flatMap V.leaves ++ rest)) :: R) → VW Tryz.prog nt c Q F (.cells go 50 (pre ++ ((L.map fun x => cpV x.1 x.2).flatMap V.leaves ++ rest)) :: (eOwn (L.map (·.2)) ++ R))
  | [], pre, R, _, h => h
  | (b, o) :: L, pre, R, ho, h => by
    obtain ⟨hx, hk⟩ := ho _ (List.mem_cons_self ..)
    have e : ∀ (a : List V) (l : List V), pre ++ (a ++ l ++ rest) = (pre ++ a) ++ (l ++ rest) := fun a l => by simp
    have h2 := freeze_blocks go rest L (pre ++ (blockV b).leaves) R (fun x hx => ho x (List.mem_cons_of_mem _ hx)) (by rw [List.map_cons, Yc, e] at h; exact h)
    have hset : ∀ (x y : V), (pre ++ ([intsX b.params, inssX b.ins, .int b.term.kind, .int b.term.arg, .int b.term.n, intsX b.term.cases, x] ++ (L.map fun x => cpV x.1 x.2).flatMap V.leaves ++ rest)).set (pre.length + 6) y = (pre ++ [intsX b.params, inssX b.ins, .int b.term.kind, .int b.term.arg, .int b.term.n, intsX b.term.cases, y]) ++ ((L.map fun x => cpV x.1 x.2).flatMap V.leaves ++ rest) := fun x y => by
      rw [List.set_append_right _ _ (by omega), Nat.add_sub_cancel_left]
      simp
    have hget : ∀ (x : V), (pre ++ ([intsX b.params, inssX b.ins, .int b.term.kind, .int b.term.arg, .int b.term.n, intsX b.term.cases, x] ++ (L.map fun x => cpV x.1 x.2).flatMap V.leaves ++ rest))[pre.length + 6]? = some x := fun x => by
      rw [List.getElem?_append_right (by omega), Nat.add_sub_cancel_left]
      rfl
    rw [List.map_cons, Yc]
    cases o with
    | none =>
      have hto : b.term.to = [] := by
        have hx : ([] : List V) = b.term.to.map edgeV := hx
        exact List.map_eq_nil_iff.1 hx.symm
      refine VW_cellAt 0 (pre.length + 6) (v' := .sl 2 none []) rfl (hget V.nilSl) (V.le.nil 2) rfl ?_
      show VW Tryz.prog nt c Q F (.cells go 50 ((pre ++ ([intsX b.params, inssX b.ins, .int b.term.kind, .int b.term.arg, .int b.term.n, intsX b.term.cases, V.nilSl] ++ (L.map fun x => cpV x.1 x.2).flatMap V.leaves ++ rest)).set (pre.length + 6) (.sl 2 none [])) :: (eOwn (L.map (·.2)) ++ R))
      rw [hset]
      have e3 : (blockV b).leaves = [intsX b.params, inssX b.ins, .int b.term.kind, .int b.term.arg, .int b.term.n, intsX b.term.cases, .sl 2 none []] := by
        show [_, _, _, _, _, _, edgesX b.term.to] = _
        rw [hto]
        rfl
      rw [← e3]
      exact h2
    | some r =>
      obtain ⟨q2, q3, q4⟩ := hk
      have hx : r.xs = b.term.to.map edgeV := hx
      refine VW_freezeC 1 0 (pre.length + 6) (sz := 2) (rest := r.rest) (b.term.to.map edgeV) rfl rfl (hget _) (by rw [hx]) (by rw [hx]) q2 q3 (fits_es _) ?_
      show VW Tryz.prog nt c Q F (.cells go 50 ((pre ++ ([intsX b.params, inssX b.ins, .int b.term.kind, .int b.term.arg, .int b.term.n, intsX b.term.cases, xLeaf (some r)] ++ (L.map fun x => cpV x.1 x.2).flatMap V.leaves ++ rest)).set (pre.length + 6) (.sl 2 none (b.term.to.map edgeV))) :: (eOwn (L.map (·.2)) ++ R))
      rw [hset]
      exact h2
theorem fits_bs (l : List SBlock) : ∀ x ∈ l.map blockV, x.fits 7 = true ∧ ((∃ ls, x = .agg ls) ∨ x.leaf = true) := fun x hx => by
  obtain ⟨n, _, rfl⟩ := List.mem_map.1 hx
  exact ⟨rfl, .inl ⟨_, rfl⟩⟩
theorem sort_nil : VPure Tryz.prog 33 [.sl 1 none []] (.raw (.tuple #[])) := fun m w us hu hw => by
  obtain ⟨u, us', rfl, ⟨A, cap, hu1, _⟩, hu2⟩ := hu
  have hu2 : us' = [] := hu2
  have hu1 : u = .slice A 0 cap := hu1
  subst hu1 hu2
  exact (Any.slices_Sort_int_none XS.lays A cap w).mono fun e w' ⟨h1, h2⟩ => ⟨_, [], m, .tuple #[], rfl, h1, rfl, by rw [h2]; exact Step.refl hw⟩
theorem eown_some {rows : List (Option XRow)} {v : Nat} (hv : v < rows.length) (r : XRow) (es : List SEdge) : (eOwn (rows.set v (setE (some r) es))).Perm (.cells r.g 79 (ecells es ++ r.rest) :: eOwn (rows.set v none)) := by
  have h := eown_set hv (setE (some r) es)
  have e : xOwn 79 (setE (some r) es) = [.cells r.g 79 (ecells es ++ r.rest)] := by
    show [Own.cells r.g 79 ((es.map edgeV).flatMap V.leaves ++ r.rest)] = _
    rw [ecells_eq]
  rw [e] at h
  exact h
theorem cp_leaf {b : SBlock} {o o2 : Option XRow} (h : xLeaf o2 = xLeaf o) : cpV b o = cpV b o2 := by
  unfold cpV
  rw [h]
theorem row_some {o : Option XRow} {l : List SEdge} {j : Nat} {e : SEdge} (hx : xl o = l.map edgeV) (h : l[j]? = some e) : ∃ r, o = some r ∧ r.xs.length = l.length := by
  cases o with
  | none =>
    have hx : [] = l.map edgeV := hx
    have : l = [] := List.map_eq_nil_iff.1 hx.symm
    rw [this] at h
    cases h
  | some r =>
    have hx : r.xs = l.map edgeV := hx
    exact ⟨r, rfl, by rw [hx, Yb]⟩
set_option maxRecDepth 100000 in
theorem ReachE_c {f : SFunc} (h0 : funcF f ≠ 0) : VPure Tryz.prog 30 [funcV f] (.tup [intsX [], .int (funcF f)]) := by
 have hO := Order_c f
 rw [if_neg h0] at hO
 refine V_start (nt := 15) Tryz.func30 rfl rfl rfl ?_
 refine Zb (Zd ?_)
 refine Zc (Zc2 rfl rfl (fun g1 => ?_))
 refine Zc (Zk rfl (Zc (Zk rfl (Za (Zi (Zb (Zd (Zc (Zv 0 VT.ty34 rfl rfl rfl ?_)))))))))
 refine Zc (Zu2 (Zx1 [.tmp 7] rfl rfl VT.en54 (hO) ⟨rfl, rfl⟩) ((V.le.refl _ : V.le _ (.tup [intsX [], .int (funcF f)]))) ?_)
 refine Zc (Zl rfl (Zc (Zg2 rfl rfl (Zc (Zg2 rfl rfl (Zc (Zk rfl (Zc (Zk rfl (Za (Zi (Zb (Zd (Zc (Zl rfl ?_)))))))))))))))
 refine Zc (Zx1 [.tmp 11] rfl rfl VT.en33 (sort_nil) ?_)
 refine Za (Zi (Zb (Zd (Zc (Zl rfl (Zc (Zl rfl (Zc (Zk rfl (Zc (Zk rfl (Za (Zi (Zf1 ?_))))))))))))))
 refine Zh1 rfl rfl (.cons (.tmp rfl) (.cons (.tmp rfl) (.nil))) ?_
 rfl
end Go.Proofs.YtjekhhgjfelpgaaGreat.X26
