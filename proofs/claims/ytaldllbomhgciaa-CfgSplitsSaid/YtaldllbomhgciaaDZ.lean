import Derived.Test.YtaldllbomhgciaaSZ
import Derived.Test.YtaldllbomhgciaaW1
import Derived.Test.YtaldllbomhgciaaS2
section
set_option linter.unusedVariables false
namespace Go.SM
open Go.VL
def rowsX (l : List (List Int)) : V := .sl 1 none (l.map intsX)
def predE (k : Nat) (P : List (List Int)) (e : SEdge) : List (List Int) := P.set e.block.toNat ((P[e.block.toNat]?.getD []) ++ [(k : Int)])
def predB (k : Nat) (P : List (List Int)) (b : SBlock) : List (List Int) := b.term.to.foldl (predE k) P
def predL : Nat → List SBlock → List (List Int) → List (List Int)
  | _, [], P => P
  | k, b :: l, P => predL (k + 1) l (predB k P b)
def predsF (bs : List SBlock) : List (List Int) := predL 0 bs (List.replicate bs.length [])
theorem predE_len (k : Nat) (P : List (List Int)) (e : SEdge) : (predE k P e).length = P.length := by simp [predE]
theorem foldl_len {k : Nat} : ∀ (l : List SEdge) (P : List (List Int)), (l.foldl (predE k) P).length = P.length
  | [], P => rfl
  | e :: l, P => by rw [List.foldl_cons, foldl_len l, predE_len]
theorem predL_len : ∀ (k : Nat) (l : List SBlock) (P : List (List Int)), (predL k l P).length = P.length
  | k, [], P => rfl
  | k, b :: l, P => by rw [predL, predL_len (k + 1) l, predB, foldl_len]
theorem predsF_len (bs : List SBlock) : (predsF bs).length = bs.length := by rw [predsF, predL_len, List.length_replicate]
def total (P : List (List Int)) : Nat := (P.map List.length).sum
def edgesN : List SBlock → Nat
  | [] => 0
  | b :: l => b.term.to.length + edgesN l
theorem total_set {P : List (List Int)} {t : Nat} {x : Int} (h : t < P.length) : total (P.set t ((P[t]?.getD []) ++ [x])) = total P + 1 := by
  have h1 : (P.map List.length)[t]? = some (P[t]?.getD []).length := by rw [List.getElem?_map, List.getElem?_eq_getElem h]; rfl
  have := sum_set (y := ((P[t]?.getD []) ++ [x]).length) h1
  unfold total
  rw [List.map_set]
  rw [List.length_append] at this ⊢
  simp at this ⊢
  omega
theorem total_set2 {P : List (List Int)} {t : Nat} {l : List Int} {x : Int} (h : P[t]? = some l) : total (P.set t (l ++ [x])) = total P + 1 := by
  have := total_set (x := x) (List.getElem?_eq_some_iff.1 h).1
  rw [h] at this
  exact this
theorem total_zero (n : Nat) : total (List.replicate n []) = 0 := by simp [total]
theorem edgesN_take {l : List SBlock} {k : Nat} {b : SBlock} (h : l[k]? = some b) : edgesN (l.take (k + 1)) = edgesN (l.take k) + b.term.to.length := by
  induction l generalizing k with
  | nil => simp at h
  | cons a l ih =>
    cases k with
    | zero => simp at h; subst h; simp [edgesN]
    | succ k => simp at h; have := ih h; simp [edgesN, this]; omega
theorem edgesN_takele : ∀ (l : List SBlock) (k : Nat), edgesN (l.take k) ≤ edgesN l
  | [], k => by simp
  | b :: l, 0 => by simp [edgesN]
  | b :: l, k + 1 => by
    have := edgesN_takele l k
    rw [List.take_succ_cons, edgesN, edgesN]
    omega
theorem edgesN_le : ∀ {l : List SBlock} {n : Nat}, (∀ b ∈ l, b.term.to.length ≤ n) → edgesN l ≤ n * l.length
  | [], n, _ => by simp [edgesN]
  | b :: l, n, h => by
    have := edgesN_le fun c hc => h c (List.mem_cons_of_mem b hc)
    have := h b (List.mem_cons_self ..)
    rw [edgesN, List.length_cons, Nat.mul_add]
    omega
theorem term_edges {f : SFunc} (h : FuncOk f) {b : SBlock} (hb : b ∈ f.blocks) : b.term.to.length ≤ 257 := by
  have he := endF_ok (h.block hb).2
  have hm := he.many
  have hs := he.shape
  unfold shapeF at hs
  repeat' split at hs
  all_goals first | (simp only [Bool.and_eq_true, decide_eq_true_eq] at hs; omega) | cases hs
theorem FuncOk.edges {f : SFunc} (h : FuncOk f) : ∀ b ∈ f.blocks, ∀ e ∈ b.term.to, 1 ≤ e.block ∧ e.block < f.blocks.length := blocks_edges h.blocks
theorem edges_small {f : SFunc} (h : FuncOk f) : edgesN f.blocks ≤ 32896 := by
  have := edgesN_le fun b hb => term_edges h (b := b) hb
  have := h.len
  omega
end Go.SM
end
section
set_option linter.unusedVariables false
set_option linter.unusedSimpArgs false
namespace Go.SM
open Go.VL
structure DState where
  seen : List Bool
  stack : List (Nat × Nat)
  out : List Nat
def toAt (bs : List SBlock) (b : Nat) : List SEdge := ((bs[b]?).map (·.term.to)).getD []
def Edge (bs : List SBlock) (p v : Nat) : Prop := ∃ x ∈ toAt bs p, x.block.toNat = v
def dfsStep (bs : List SBlock) (s : DState) : DState :=
  match s.stack with
  | [] => s
  | (b, e) :: st =>
    match (toAt bs b)[e]? with
    | none => ⟨s.seen, st, s.out ++ [b]⟩
    | some x => if s.seen[x.block.toNat]? = some false then ⟨s.seen.set x.block.toNat true, (x.block.toNat, 0) :: (b, e + 1) :: st, s.out⟩ else ⟨s.seen, (b, e + 1) :: st, s.out⟩
def dfsRun (bs : List SBlock) : Nat → DState → DState
  | 0, s => s
  | n + 1, s => if s.stack = [] then s else dfsRun bs n (dfsStep bs s)
def dfsStart (n : Nat) : DState := ⟨(List.replicate n false).set 0 true, [(0, 0)], []⟩
def postF (bs : List SBlock) : List Nat := (dfsRun bs (edgesN bs + bs.length) (dfsStart bs.length)).out
def orderF (bs : List SBlock) : List Nat := (postF bs).reverse
theorem toAt_get {bs : List SBlock} {k : Nat} {b : SBlock} (h : bs[k]? = some b) : toAt bs k = b.term.to := by rw [toAt, h]; rfl
structure DfsInv0 (bs : List SBlock) (s : DState) : Prop where
  len : s.seen.length = bs.length
  stk : ∀ x ∈ s.stack, x.1 < bs.length ∧ x.2 ≤ (toAt bs x.1).length ∧ s.seen[x.1]? = some true
def StackOk (bs : List SBlock) : List (Nat × Nat) → Prop
  | [] => True
  | [x] => x.1 = 0
  | x :: y :: st => Edge bs y.1 x.1 ∧ StackOk bs (y :: st)
def seenB (s : DState) (v : Nat) : Prop := s.seen[v]? = some true
structure DfsInv (bs : List SBlock) (s : DState) : Prop extends DfsInv0 bs s where
  out : ∀ v ∈ s.out, v < bs.length ∧ seenB s v
  nodup : (s.stack.map (·.1) ++ s.out).Nodup
  cover : ∀ v, seenB s v → v ∈ s.stack.map (·.1) ∨ v ∈ s.out
  closedO : ∀ v ∈ s.out, ∀ x ∈ toAt bs v, seenB s x.block.toNat
  closedS : ∀ y ∈ s.stack, ∀ i x, i < y.2 → (toAt bs y.1)[i]? = some x → seenB s x.block.toNat
  chain : StackOk bs s.stack
  par : ∀ (i v : Nat), s.out[i]? = some v → v ≠ 0 → ∃ p, Edge bs p v ∧ (p ∈ s.stack.map (·.1) ∨ ∃ j, i < j ∧ s.out[j]? = some p)
  root : s.stack = [] → ∃ l, s.out = l ++ [0]
theorem StackOk.tail {bs : List SBlock} {x : Nat × Nat} : ∀ {st : List (Nat × Nat)}, StackOk bs (x :: st) → StackOk bs st
  | [], _ => trivial
  | y :: st, h => h.2
theorem nodup_lt {l : List Nat} {n : Nat} (h : l.Nodup) (hr : ∀ v ∈ l, v < n) : l.length ≤ n := by
  have := h.length_le_of_subset (l₂ := List.range n) fun v hv => List.mem_range.2 (hr v hv)
  simpa using this
structure OrderOk (bs : List SBlock) (l : List Nat) : Prop where
  nodup : l.Nodup
  lt : ∀ v ∈ l, v < bs.length
  zero : l[0]? = some 0
  closed : ∀ v ∈ l, ∀ w, Edge bs v w → w ∈ l
  par : ∀ (j v : Nat), l[j]? = some v → v ≠ 0 → ∃ i p, i < j ∧ l[i]? = some p ∧ Edge bs p v
end Go.SM
end
section
set_option linter.unusedVariables false
set_option linter.unusedSimpArgs false
set_option linter.unusedSectionVars false
namespace Go.SM
open Go.VL
def gI (l : List Int) (i : Int) : Int := l[i.toNat]?.getD 0
def meetF (ov pl : List Int) : Nat → Int → Int → Int
  | 0, a, _ => a
  | n + 1, a, b => if a = b then a else if gI pl a > gI pl b then meetF ov pl n (gI ov a) b else meetF ov pl n a (gI ov b)
def skipP (ov pl : List Int) (p : Int) : Bool := decide (gI pl p < 0) || (decide (p ≠ 0) && decide (gI ov p < 0))
def nextL (ov pl : List Int) (m : Nat) : Int → List Int → Int
  | cur, [] => cur
  | cur, p :: ps => nextL ov pl m (if skipP ov pl p then cur else if cur < 0 then p else meetF ov pl m cur p) ps
def placeF (ord : List Int) (n : Nat) : List Int := (List.range n).map fun k : Nat => idxOf (fun x => decide ((k : Int) = x)) ord
structure TState where
  ov : List Int
  again : Bool
def ordZ (bs : List SBlock) : List Int := (orderF bs).map fun k : Nat => (k : Int)
def placeZ (bs : List SBlock) : List Int := placeF (ordZ bs) bs.length
theorem idx_nat {l : List Nat} {v : Nat} : idxOf (fun x => decide ((v : Int) = x)) (l.map fun k : Nat => (k : Int)) = -1 ∧ v ∉ l ∨ ∃ i, idxOf (fun x => decide ((v : Int) = x)) (l.map fun k : Nat => (k : Int)) = (i : Nat) ∧ l[i]? = some v := by
  rcases idxOf_range (fun x => decide ((v : Int) = x)) (l.map fun k : Nat => (k : Int)) with ⟨h1, h2⟩ | ⟨i, x, h1, h2, h3, _⟩
  · refine .inl ⟨h1, fun hm => ?_⟩
    rw [List.any_eq_false] at h2
    exact h2 (v : Int) (List.mem_map.2 ⟨v, hm, rfl⟩) (by simp)
  · refine .inr ⟨i, h1, ?_⟩
    rw [List.getElem?_map] at h2
    obtain ⟨w, hw, rfl⟩ := Option.map_eq_some_iff.1 h2
    rw [hw]
    have : (v : Int) = (w : Int) := by simpa using h3
    congr 1
    omega
theorem place_get {bs : List SBlock} {v : Nat} (hv : v < bs.length) : gI (placeZ bs) v = -1 ∧ v ∉ orderF bs ∨ ∃ i, gI (placeZ bs) v = (i : Nat) ∧ (orderF bs)[i]? = some v := by
  have : gI (placeZ bs) v = idxOf (fun x => decide ((v : Int) = x)) (ordZ bs) := by
    unfold gI placeZ placeF
    rw [Int.toNat_natCast, List.getElem?_map, List.getElem?_range hv]
    rfl
  rw [this]
  exact idx_nat
def pos (bs : List SBlock) (v : Nat) : Nat := (gI (placeZ bs) v).toNat
section
variable {bs : List SBlock} (ho : OrderOk bs (orderF bs))
include ho
theorem place_of {v : Nat} (hv : v ∈ orderF bs) : gI (placeZ bs) v = (pos bs v : Nat) ∧ (orderF bs)[pos bs v]? = some v := by
  rcases place_get (ho.lt v hv) with ⟨_, h⟩ | ⟨i, h1, h2⟩
  · exact absurd hv h
  · unfold pos
    rw [h1, Int.toNat_natCast]
    exact ⟨rfl, h2⟩
theorem pos_inj {v w : Nat} (hv : v ∈ orderF bs) (hw : w ∈ orderF bs) (h : pos bs v = pos bs w) : v = w := by
  have h1 := (place_of ho hv).2
  have h2 := (place_of ho hw).2
  rw [h, h2] at h1
  injection h1 with h1
  exact h1.symm
theorem pos_lt {v : Nat} (hv : v ∈ orderF bs) : pos bs v < bs.length := by
  have := (List.getElem?_eq_some_iff.1 (place_of ho hv).2).1
  have := nodup_lt ho.nodup ho.lt
  omega
open Classical in
omit ho in
noncomputable def pi (bs : List SBlock) (v : Nat) : Nat := if h : ∃ p, p ∈ orderF bs ∧ pos bs p < pos bs v ∧ Edge bs p v then Classical.choose h else 0
end
inductive Anc (ov : List Int) : Nat → Nat → Prop where
  | refl (a : Nat) : Anc ov a a
  | step {a q x : Nat} : ov[a]? = some (q : Int) → Anc ov q x → Anc ov a x
inductive AncP (bs : List SBlock) : Nat → Nat → Prop where
  | refl (a : Nat) : AncP bs a a
  | step {a x : Nat} : a ≠ 0 → AncP bs (pi bs a) x → AncP bs a x
theorem Anc.trans {ov : List Int} {a b c : Nat} (h : Anc ov a b) (k : Anc ov b c) : Anc ov a c := by
  induction h with
  | refl => exact k
  | step h _ ih => exact .step h (ih k)
structure Tree (bs : List SBlock) (ov : List Int) : Prop where
  len : ov.length = bs.length
  root : ov[0]? = some (-1)
  out : ∀ v, v < bs.length → v ∉ orderF bs → ov[v]? = some (-1)
  up : ∀ (v : Nat) (x : Int), v ∈ orderF bs → v ≠ 0 → ov[v]? = some x → 0 ≤ x → ∃ q : Nat, x = q ∧ q ∈ orderF bs ∧ pos bs q < pos bs v ∧ (q = 0 ∨ ∃ y : Int, ov[q]? = some y ∧ 0 ≤ y)
  low : ∀ (v : Nat) (x : Int), ov[v]? = some x → x < 0 → x = -1
def InT (bs : List SBlock) (ov : List Int) (v : Nat) : Prop := v ∈ orderF bs ∧ (v = 0 ∨ ∃ x : Int, ov[v]? = some x ∧ 0 ≤ x)
section
variable {bs : List SBlock} (ho : OrderOk bs (orderF bs)) {ov : List Int}
include ho
theorem Tree.parent (h : Tree bs ov) {v : Nat} (hv : InT bs ov v) (h0 : v ≠ 0) : ∃ q : Nat, ov[v]? = some (q : Int) ∧ InT bs ov q ∧ pos bs q < pos bs v := by
  obtain ⟨hm, hv⟩ := hv
  rcases hv with hv | ⟨x, hx, hx0⟩
  · exact absurd hv h0
  · obtain ⟨q, rfl, h1, h2, h3⟩ := h.up v x hm h0 hx hx0
    exact ⟨q, hx, ⟨h1, h3⟩, h2⟩
theorem Tree.anc (h : Tree bs ov) {v x : Nat} (hv : InT bs ov v) (ha : Anc ov v x) : InT bs ov x ∧ pos bs x ≤ pos bs v ∧ (x ≠ v → pos bs x < pos bs v) := by
  induction ha with
  | refl a => exact ⟨hv, Nat.le_refl _, fun h => absurd rfl h⟩
  | @step a q x hq _ ih =>
    by_cases h0 : a = 0
    · subst h0
      rw [h.root] at hq
      injection hq with hq
      omega
    · obtain ⟨q', hq', hi, hp⟩ := h.parent ho hv h0
      rw [hq] at hq'
      injection hq' with hq'
      have : q = q' := by omega
      subst this
      have := ih hi
      exact ⟨this.1, by omega, fun _ => by omega⟩
theorem Tree.zero (h : Tree bs ov) {x : Nat} (ha : Anc ov 0 x) : x = 0 := by
  cases ha with
  | refl => rfl
  | step hq _ =>
    rw [h.root] at hq
    injection hq with hq
    omega
theorem Tree.cases (h : Tree bs ov) {v q x : Nat} (hq : ov[v]? = some (q : Int)) (ha : Anc ov v x) : x = v ∨ Anc ov q x := by
  cases ha with
  | refl => exact .inl rfl
  | @step _ q' _ hq' k =>
    rw [hq] at hq'
    injection hq' with hq'
    have : q = q' := by omega
    subst this
    exact .inr k
theorem Tree.chain (h : Tree bs ov) {v x y : Nat} (hv : InT bs ov v) (hx : Anc ov v x) (hy : Anc ov v y) (hp : pos bs x ≤ pos bs y) : Anc ov y x := by
  induction hx with
  | refl a =>
    have := h.anc ho hv hy
    have : pos bs y = pos bs a := by omega
    rw [pos_inj ho (h.anc ho hv hy).1.1 hv.1 this]
    exact .refl _
  | @step a q x hq ha ih =>
    by_cases h0 : a = 0
    · subst h0
      rw [h.root] at hq
      injection hq with hq
      omega
    · obtain ⟨q', hq', hi, _⟩ := h.parent ho hv h0
      rw [hq] at hq'
      injection hq' with hq'
      have : q = q' := by omega
      subst this
      rcases h.cases ho hq hy with rfl | hy
      · exact .step hq ha
      · exact ih hi hy hp
theorem InT.fuel {v : Nat} (h : InT bs ov v) : pos bs v < bs.length := pos_lt ho h.1
end
end Go.SM
end
section
set_option linter.unusedVariables false
set_option linter.unusedSimpArgs false
set_option linter.unusedSectionVars false
namespace Go.SM
open Go.VL
structure TInv (bs : List SBlock) (ov : List Int) (i : Nat) : Prop where
  tree : Tree bs ov
  done : ∀ (j v : Nat), j < i → (orderF bs)[j]? = some v → InT bs ov v
  down : ∀ (v w : Nat), InT bs ov v → w ∈ orderF bs → pos bs w < pos bs v → InT bs ov w
  anc : ∀ (v x : Nat), InT bs ov v → Anc ov v x → AncP bs v x
  most : ∀ (v q : Nat), InT bs ov v → v ≠ 0 → ov[v]? = some (q : Int) → ∀ y, (∀ p, Edge bs p v → InT bs ov p → Anc ov p y) → pos bs y ≤ pos bs q
  past : ∀ (v : Nat), v ∈ orderF bs → pos bs v < i → ∀ q x, AncP bs v q → Anc ov v x → pos bs x ≤ pos bs q → Anc ov q x
theorem AncP.ne {bs : List SBlock} {v x : Nat} (h : AncP bs v x) (hx : x ≠ v) : v ≠ 0 ∧ AncP bs (pi bs v) x := by
  cases h with
  | refl => exact absurd rfl hx
  | step h0 k => exact ⟨h0, k⟩
def hW (bs : List SBlock) (x : Int) : Nat := if x < 0 then bs.length else pos bs x.toNat
section
variable {bs : List SBlock} (ho : OrderOk bs (orderF bs)) (hE : ∀ b ∈ bs, ∀ e ∈ b.term.to, 1 ≤ e.block ∧ e.block < bs.length) {ov : List Int}
include ho
structure TreeOk (bs : List SBlock) (ov : List Int) : Prop where
  inv : TInv bs ov 1
  all : ∀ v, v ∈ orderF bs → InT bs ov v
  fix : ∀ v, v ∈ orderF bs → v ≠ 0 → gI ov v = nextL ov (placeZ bs) (2 * bs.length + 1) (-1) ((predsF bs)[v]?.getD [])
end
end Go.SM
end
section
set_option linter.unusedVariables false
set_option linter.unusedSimpArgs false
set_option linter.unusedSectionVars false
namespace Go.SM
open Go.VL
section
variable {bs : List SBlock} (ho : OrderOk bs (orderF bs)) {ov : List Int}
include ho
structure Up (bs : List SBlock) (ov : List Int) (a : Nat) (l : List Int) (k : Int) (n : Nat) : Prop where
  len : l.length = n
  at_ : k = -1 ∨ ∃ v : Nat, k = v ∧ InT bs ov v ∧ n + pos bs v ≤ pos bs a
  mem : ∀ y : Nat, Anc ov a y ↔ (y : Int) ∈ l ∨ ∃ v : Nat, k = v ∧ Anc ov v y
  le : n ≤ bs.length
omit ho in
structure Climb (bs : List SBlock) (ov : List Int) (a b : Nat) (v n : Nat) : Prop where
  at_ : Anc ov b v
  bound : n + pos bs v ≤ pos bs b
  none : ∀ y, Anc ov b y → pos bs v < pos bs y → ¬ Anc ov a y
omit ho in
end
end Go.SM
end
section
set_option linter.unusedVariables false
set_option linter.unusedSimpArgs false
namespace Go.SM
open Go.VL
def reachL (f : SFunc) : List Int := (ordZ f.blocks).mergeSort fun x y => decide (x ≤ y)
section
variable {bs : List SBlock} (ho : OrderOk bs (orderF bs)) {ov : List Int}
include ho
end
end Go.SM
end
section
set_option linter.unusedVariables false
set_option linter.unusedSimpArgs false
namespace Go.SM
open Go.VL
section
variable {bs : List SBlock} (ho : OrderOk bs (orderF bs)) {ov : List Int}
include ho
end
end Go.SM
end
section
set_option linter.unusedVariables false
set_option linter.unusedSimpArgs false
namespace Go.SM
open Go.VL
theorem again_keep {n : Nat} {d d' : Dom} (h : StepW n d d') (ha : d'.again = false) : d' = d := by
  rcases h.2 with h | ⟨h, _⟩
  · exact h
  · rw [ha] at h; cases h
theorem edges_fix {n k : Nat} (hk : k < n) : ∀ {l : List SEdge} {d : Dom}, DomOk n d → (∀ e ∈ l, 1 ≤ e.block ∧ e.block < n) → (l.foldl (domEdge k) d).again = false → l.foldl (domEdge k) d = d ∧ ∀ e ∈ l, domEdge k d e = d
  | [], d, _, _, _ => ⟨rfl, fun e he => by cases he⟩
  | e :: l, d, ok, h, ha => by
    have h1 := domEdge_w ok hk (h e (List.mem_cons_self ..)).1 (h e (List.mem_cons_self ..)).2
    have hl := fun x hx => h x (List.mem_cons_of_mem e hx)
    have h2 := edges_w hk h1.1 hl
    rw [List.foldl_cons] at ha ⊢
    have e2 := again_keep h2 ha
    have e1 : domEdge k d e = d := again_keep h1 (by rw [← e2]; exact ha)
    rw [e1] at ha ⊢
    obtain ⟨g1, g2⟩ := edges_fix hk ok hl ha
    refine ⟨g1, fun x hx => ?_⟩
    rcases List.mem_cons.1 hx with rfl | hx
    · exact e1
    · exact g2 x hx
theorem block_fix {n k : Nat} {b : SBlock} {d : Dom} (hk : k < n) (ok : DomOk n d) (h : ∀ e ∈ b.term.to, 1 ≤ e.block ∧ e.block < n) (ha : (domBlock d k b).again = false) : domBlock d k b = d ∧ (d.seen.has k = true → ∀ e ∈ b.term.to, domEdge k d e = d) := by
  unfold domBlock at ha ⊢
  split
  · rename_i hs
    rw [if_pos hs] at ha
    obtain ⟨h1, h2⟩ := edges_fix hk ok h ha
    exact ⟨h1, fun _ => h2⟩
  · rename_i hs
    exact ⟨rfl, fun h => absurd h hs⟩
theorem pass_fix {n : Nat} : ∀ {l : List SBlock} {k : Nat} {d : Dom}, k + l.length = n → DomOk n d → (∀ b ∈ l, ∀ e ∈ b.term.to, 1 ≤ e.block ∧ e.block < n) → (domPass k l d).again = false →
    ∀ (j : Nat) (b : SBlock), l[j]? = some b → d.seen.has (k + j) = true → ∀ e ∈ b.term.to, domEdge (k + j) d e = d
  | [], k, d, _, _, _, _, j, b, hb => by simp at hb
  | c :: l, k, d, hl, ok, h, ha, j, b, hb => by
    have hl' : k + (l.length + 1) = n := hl
    have h1 := block_w (k := k) (by omega) ok (h c (List.mem_cons_self ..))
    have hr := fun x hx => h x (List.mem_cons_of_mem c hx)
    have h2 := pass_w (l := l) (k := k + 1) (by omega) h1.1 hr
    rw [domPass] at ha
    have e2 := again_keep h2 ha
    have ha1 : (domBlock d k c).again = false := by rw [← e2]; exact ha
    obtain ⟨e1, g⟩ := block_fix (by omega) ok (h c (List.mem_cons_self ..)) ha1
    rw [e1] at ha
    cases j with
    | zero =>
      simp at hb
      subst hb
      exact g
    | succ j =>
      simp at hb
      have := pass_fix (by omega) ok hr ha j b hb
      rwa [show k + 1 + j = k + (j + 1) by omega] at this
structure DomFix (bs : List SBlock) (d : Dom) : Prop where
  ok : DomOk bs.length d
  seen0 : d.seen.has 0 = true
  at0 : d.at 0 = BSet.with noSet 0
  fix : ∀ (k : Nat) (b : SBlock), bs[k]? = some b → d.seen.has k = true → ∀ e ∈ b.term.to, domEdge k d e = d
def DomZ (n : Nat) (d : Dom) : Prop := d.seen.has 0 = true ∧ d.at 0 = BSet.with noSet 0
theorem edge_z {n k : Nat} {d : Dom} {e : SEdge} (ok : DomOk n d) (h1 : 1 ≤ e.block) (h2 : e.block < n) (hz : DomZ n d) : DomZ n (domEdge k d e) := by
  unfold domEdge
  dsimp only
  have hn := ok.le
  split
  · refine ⟨?_, ?_⟩
    · rw [has_with _ (by omega) (by omega), hz.1]; rfl
    · rw [at_set (by rw [ok.len]; omega), if_neg (by omega)]; exact hz.2
  · exact hz
theorem edges_z {n k : Nat} (hk : k < n) : ∀ {l : List SEdge} {d : Dom}, DomOk n d → (∀ e ∈ l, 1 ≤ e.block ∧ e.block < n) → DomZ n d → DomZ n (l.foldl (domEdge k) d)
  | [], d, _, _, hz => hz
  | e :: l, d, ok, h, hz => by
    have he := h e (List.mem_cons_self ..)
    show DomZ n (l.foldl (domEdge k) (domEdge k d e))
    exact edges_z (l := l) hk (domEdge_w ok hk he.1 he.2).1 (fun x hx => h x (List.mem_cons_of_mem e hx)) (edge_z ok he.1 he.2 hz)
theorem block_z {n k : Nat} {b : SBlock} {d : Dom} (hk : k < n) (ok : DomOk n d) (h : ∀ e ∈ b.term.to, 1 ≤ e.block ∧ e.block < n) (hz : DomZ n d) : DomZ n (domBlock d k b) := by
  unfold domBlock
  split
  · exact edges_z hk ok h hz
  · exact hz
theorem pass_z {n : Nat} : ∀ {l : List SBlock} {k : Nat} {d : Dom}, k + l.length = n → DomOk n d → (∀ b ∈ l, ∀ e ∈ b.term.to, 1 ≤ e.block ∧ e.block < n) → DomZ n d → DomZ n (domPass k l d)
  | [], k, d, _, _, _, hz => hz
  | c :: l, k, d, hl, ok, h, hz => by
    have hl' : k + (l.length + 1) = n := hl
    show DomZ n (domPass (k + 1) l (domBlock d k c))
    exact pass_z (l := l) (by omega) (block_w (k := k) (by omega) ok (h c (List.mem_cons_self ..))).1 (fun x hx => h x (List.mem_cons_of_mem c hx)) (block_z (by omega) ok (h c (List.mem_cons_self ..)) hz)
theorem domIter_fix {bs : List SBlock} (h : ∀ b ∈ bs, ∀ e ∈ b.term.to, 1 ≤ e.block ∧ e.block < bs.length) : ∀ (n : Nat) (d : Dom), DomOk bs.length d → DomZ bs.length d → weight bs.length d + (if d.again then 1 else 0) ≤ n → (d.again = false → DomFix bs d) → DomFix bs (domIter bs n d)
  | 0, d, ok, hz, hw, hf => by
    cases ha : d.again with
    | false => exact hf ha
    | true => rw [ha, if_pos rfl] at hw; omega
  | n + 1, d, ok, hz, hw, hf => by
    cases ha : d.again with
    | false => rw [domIter, if_neg (by rw [ha]; decide)]; exact hf ha
    | true =>
      obtain ⟨n', e, h1, h2, h3⟩ := round ok h hw ha
      have : n = n' := by omega
      subst this
      have ok0 : DomOk bs.length { d with again := false } := ⟨ok.len, ok.le, ok.self⟩
      have hz1 : DomZ bs.length (domPass 0 bs { d with again := false }) := pass_z (by omega) ok0 h hz
      rw [h1]
      refine domIter_fix h n _ h2 hz1 h3 fun ha2 => ?_
      have e2 := again_keep (pass_w (l := bs) (k := 0) (by omega) ok0 h) ha2
      have hfx := pass_fix (l := bs) (k := 0) (by omega) ok0 h ha2
      rw [e2] at hz1 ⊢
      exact ⟨ok0, hz1.1, hz1.2, fun k b hb hs => by have := hfx k b hb (by rw [Nat.zero_add]; exact hs); rwa [Nat.zero_add] at this⟩
theorem dom_fix {bs : List SBlock} (h0 : 0 < bs.length) (hn : bs.length ≤ 128) (h : ∀ b ∈ bs, ∀ e ∈ b.term.to, 1 ≤ e.block ∧ e.block < bs.length) : DomFix bs (domF bs) := by
  refine domIter_fix h _ _ (start_ok h0 hn) ⟨?_, ?_⟩ ?_ fun h => by cases h
  · show (BSet.with noSet 0).has 0 = true
    rw [has_with _ (by omega) (by omega)]
    simp
  · unfold domStart Dom.at
    rw [List.getElem?_set, if_pos rfl, if_pos (by simpa using h0)]
    rfl
  · have := start_w bs.length
    have ha : (domStart bs.length).again = true := rfl
    rw [ha, if_pos rfl, domFuel]
    omega
inductive Way (bs : List SBlock) : List Nat → Nat → Prop where
  | start : Way bs [] 0
  | step {l : List Nat} {p k : Nat} : Way bs l p → Edge bs p k → Way bs (p :: l) k
theorem dom_way {bs : List SBlock} {d : Dom} (hd : DomFix bs d) (h : ∀ b ∈ bs, ∀ e ∈ b.term.to, 1 ≤ e.block ∧ e.block < bs.length) {l : List Nat} {k : Nat} (hw : Way bs l k) : d.seen.has k = true ∧ k < 128 ∧ ∀ j, j < 128 → (d.at k).has j = true → j = k ∨ j ∈ l := by
  induction hw with
  | start =>
    refine ⟨hd.seen0, by omega, fun j hj hh => ?_⟩
    rw [hd.at0, has_with _ (by omega) hj, has_no, Bool.false_or, decide_eq_true_eq] at hh
    exact .inl hh
  | @step l p k hw he ih =>
    obtain ⟨hs, hp, ih⟩ := ih
    obtain ⟨e, hem, rfl⟩ := he
    obtain ⟨b, hb, hem⟩ : ∃ b, bs[p]? = some b ∧ e ∈ b.term.to := by
      unfold toAt at hem
      cases hb : bs[p]? with
      | none => rw [hb] at hem; cases hem
      | some b => rw [hb] at hem; exact ⟨b, rfl, hem⟩
    have hr := h b (List.mem_of_getElem? hb) e hem
    have hn := hd.ok.le
    have ht : e.block.toNat < 128 := by omega
    have hfx := hd.fix p b hb hs e hem
    unfold domEdge at hfx
    dsimp only at hfx
    split at hfx
    · rename_i hc
      -- a change cannot leave all as it was
      exfalso
      have h1 : (d.over.set e.block.toNat (((d.at e.block.toNat).both (d.at p)).with e.block.toNat))[e.block.toNat]? = d.over[e.block.toNat]? := by
        have := congrArg Dom.over hfx
        dsimp only at this
        rw [this]
      have h2 := congrArg Dom.seen hfx
      dsimp only at h2
      rcases hc with hc | hc
      · rw [List.getElem?_set, if_pos rfl, if_pos (by rw [hd.ok.len]; omega)] at h1
        have h3 : d.at e.block.toNat = ((d.at e.block.toNat).both (d.at p)).with e.block.toNat := (congrArg (fun o : Option BSet => o.getD noSet) h1).symm
        exact hc h3.symm
      · rw [← h2, has_with _ ht ht] at hc
        simp at hc
    · rename_i hc
      rw [not_or] at hc
      obtain ⟨h1, h2⟩ := hc
      have h1 := Classical.not_not.1 h1
      refine ⟨by simpa using h2, ht, fun j hj hh => ?_⟩
      rw [← h1, has_with _ ht hj, has_both, Bool.or_eq_true, Bool.and_eq_true, decide_eq_true_eq] at hh
      rcases hh with hh | hh
      · rcases ih j hj hh.2 with h3 | h3
        · exact .inr (by rw [h3]; exact List.mem_cons_self ..)
        · exact .inr (List.mem_cons_of_mem _ h3)
      · exact .inl hh
end Go.SM
end
section
set_option linter.unusedVariables false
set_option linter.unusedSimpArgs false
set_option linter.unusedSectionVars false
namespace Go.SM
open Go.VL
def Doms (bs : List SBlock) (x v : Nat) : Prop := ∀ l, Way bs l v → x = v ∨ x ∈ l
theorem doms_pred {bs : List SBlock} {x p v : Nat} (h : Doms bs x v) (hx : x ≠ v) (he : Edge bs p v) : Doms bs x p := fun l hl => by
  rcases h _ (.step hl he) with e | e
  · exact absurd e hx
  · rcases List.mem_cons.1 e with e | e
    · exact .inl e
    · exact .inr e
section
variable {bs : List SBlock} (ho : OrderOk bs (orderF bs)) (hE : ∀ b ∈ bs, ∀ e ∈ b.term.to, 1 ≤ e.block ∧ e.block < bs.length) {ov : List Int}
include ho
end
end Go.SM
end
section
set_option linter.unusedVariables false
set_option linter.unusedSimpArgs false
namespace Go.SM
open Go.VL
structure DomMost (bs : List SBlock) (d : Dom) : Prop where
  most : ∀ k j : Nat, k < bs.length → j < bs.length → Doms bs j k → (d.at k).has j = true
  seen : ∀ k : Nat, k < 128 → d.seen.has k = true → ∃ l, Way bs l k
theorem most_start {bs : List SBlock} (h0 : 0 < bs.length) (hn : bs.length ≤ 128) : DomMost bs (domStart bs.length) := by
  refine ⟨fun k j hk hj hd => ?_, fun k hk hs => ?_⟩
  · unfold domStart Dom.at
    dsimp only
    rw [List.getElem?_set]
    split
    · rename_i e
      subst e
      rw [if_pos (by simpa using h0)]
      rcases hd [] .start with e | e
      · subst e
        show (BSet.with noSet 0).has 0 = true
        rw [has_with _ (by omega) (by omega)]
        simp
      · cases e
    · rw [List.getElem?_replicate, if_pos hk]
      show (allSet bs.length).has j = true
      rw [has_all _ hn j (by omega)]
      exact decide_eq_true hj
  · have hs : (BSet.with noSet 0).has k = true := hs
    rw [has_with _ (by omega) hk, has_no, Bool.false_or, decide_eq_true_eq] at hs
    subst hs
    exact ⟨[], .start⟩
theorem most_edge {bs : List SBlock} (hn : bs.length ≤ 128) {d : Dom} (ok : DomOk bs.length d) {k : Nat} {e : SEdge} (hk : k < bs.length) (he : e ∈ toAt bs k) (h1 : 1 ≤ e.block) (h2 : e.block < bs.length) (hs : d.seen.has k = true) (h : DomMost bs d) : DomMost bs (domEdge k d e) := by
  unfold domEdge
  dsimp only
  have hte : Edge bs k e.block.toNat := ⟨e, he, rfl⟩
  split
  · refine ⟨fun v j hv hj hd => ?_, fun v hv hsv => ?_⟩
    · rw [at_set (by rw [ok.len]; omega)]
      split
      · rename_i e1
        subst e1
        rw [has_with _ (by omega) (by omega), has_both]
        by_cases hjt : j = e.block.toNat
        · rw [decide_eq_true hjt, Bool.or_true]
        · rw [h.most _ j hv hj hd, h.most k j hk hj (doms_pred hd hjt hte)]
          rfl
      · exact h.most v j hv hj hd
    · have hsv : (d.seen.with e.block.toNat).has v = true := hsv
      rw [has_with _ (by omega) hv, Bool.or_eq_true, decide_eq_true_eq] at hsv
      rcases hsv with hsv | rfl
      · exact h.seen v hv hsv
      · obtain ⟨l, hl⟩ := h.seen k (by omega) hs
        exact ⟨_, .step hl hte⟩
  · exact h
theorem seen_edge {n k : Nat} {d : Dom} {e : SEdge} (hn : n ≤ 128) (hk : k < n) (h1 : 1 ≤ e.block) (h2 : e.block < n) (hs : d.seen.has k = true) : (domEdge k d e).seen.has k = true := by
  unfold domEdge
  dsimp only
  split
  · rw [has_with _ (by omega) (by omega), hs]; rfl
  · exact hs
theorem most_edges {bs : List SBlock} (hn : bs.length ≤ 128) {k : Nat} (hk : k < bs.length) : ∀ {l : List SEdge} {d : Dom}, DomOk bs.length d → (∀ e ∈ l, e ∈ toAt bs k) → (∀ e ∈ l, 1 ≤ e.block ∧ e.block < bs.length) → d.seen.has k = true → DomMost bs d → DomMost bs (l.foldl (domEdge k) d)
  | [], d, _, _, _, _, h => h
  | e :: l, d, ok, hl, hb, hs, h => by
    have he := hb e (List.mem_cons_self ..)
    show DomMost bs (l.foldl (domEdge k) (domEdge k d e))
    exact most_edges hn hk (l := l) (domEdge_w ok hk he.1 he.2).1 (fun x hx => hl x (List.mem_cons_of_mem _ hx)) (fun x hx => hb x (List.mem_cons_of_mem _ hx)) (seen_edge hn hk he.1 he.2 hs) (most_edge hn ok hk (hl e (List.mem_cons_self ..)) he.1 he.2 hs h)
theorem most_block {bs : List SBlock} (hn : bs.length ≤ 128) {k : Nat} {b : SBlock} {d : Dom} (hb : bs[k]? = some b) (ok : DomOk bs.length d) (hE : ∀ e ∈ b.term.to, 1 ≤ e.block ∧ e.block < bs.length) (h : DomMost bs d) : DomMost bs (domBlock d k b) := by
  unfold domBlock
  split
  · rename_i hs
    exact most_edges hn (List.getElem?_eq_some_iff.1 hb).1 ok (fun e he => by rw [toAt_get hb]; exact he) hE hs h
  · exact h
theorem most_pass {bs : List SBlock} (hn : bs.length ≤ 128) (hE : ∀ b ∈ bs, ∀ e ∈ b.term.to, 1 ≤ e.block ∧ e.block < bs.length) : ∀ {l : List SBlock} {k : Nat} {d : Dom}, bs.drop k = l → DomOk bs.length d → DomMost bs d → DomMost bs (domPass k l d)
  | [], k, d, _, _, h => h
  | c :: l, k, d, hl, ok, h => by
    have hb : bs[k]? = some c := by
      have h9 : (bs.drop k)[0]? = some c := by rw [hl]; rfl
      rwa [List.getElem?_drop, Nat.add_zero] at h9
    have hl2 : bs.drop (k + 1) = l := by
      have h9 : (bs.drop k).drop 1 = l := by rw [hl]; rfl
      rwa [List.drop_drop] at h9
    have hk := (List.getElem?_eq_some_iff.1 hb).1
    have hc := hE c (List.mem_of_getElem? hb)
    show DomMost bs (domPass (k + 1) l (domBlock d k c))
    exact most_pass hn hE hl2 (block_w hk ok hc).1 (most_block hn hb ok hc h)
theorem most_iter {bs : List SBlock} (hn : bs.length ≤ 128) (hE : ∀ b ∈ bs, ∀ e ∈ b.term.to, 1 ≤ e.block ∧ e.block < bs.length) : ∀ (n : Nat) (d : Dom), DomOk bs.length d → DomMost bs d → DomMost bs (domIter bs n d)
  | 0, d, _, h => h
  | n + 1, d, ok, h => by
    rw [domIter]
    split
    · have ok0 : DomOk bs.length { d with again := false } := ⟨ok.len, ok.le, ok.self⟩
      exact most_iter hn hE n _ (pass_w (l := bs) (k := 0) (by omega) ok0 hE).1 (most_pass hn hE rfl ok0 ⟨h.most, h.seen⟩)
    · exact h
theorem dom_most {bs : List SBlock} (h0 : 0 < bs.length) (hn : bs.length ≤ 128) (hE : ∀ b ∈ bs, ∀ e ∈ b.term.to, 1 ≤ e.block ∧ e.block < bs.length) : DomMost bs (domF bs) := most_iter hn hE _ _ (start_ok h0 hn) (most_start h0 hn)
theorem has_iff {bs : List SBlock} (h0 : 0 < bs.length) (hn : bs.length ≤ 128) (hE : ∀ b ∈ bs, ∀ e ∈ b.term.to, 1 ≤ e.block ∧ e.block < bs.length) {k j : Nat} (hk : ∃ l, Way bs l k) (hkl : k < bs.length) (hj : j < bs.length) : ((domF bs).at k).has j = true ↔ Doms bs j k :=
  ⟨fun h l hw => (dom_way (dom_fix h0 hn hE) hE hw).2.2 j (by omega) h, (dom_most h0 hn hE).most k j hkl hj⟩
theorem seen_iff {bs : List SBlock} (h0 : 0 < bs.length) (hn : bs.length ≤ 128) (hE : ∀ b ∈ bs, ∀ e ∈ b.term.to, 1 ≤ e.block ∧ e.block < bs.length) {k : Nat} (hk : k < 128) : (domF bs).seen.has k = true ↔ ∃ l, Way bs l k :=
  ⟨(dom_most h0 hn hE).seen k hk, fun ⟨l, hw⟩ => (dom_way (dom_fix h0 hn hE) hE hw).1⟩
end Go.SM
end
section
set_option linter.unusedVariables false
set_option linter.unusedSimpArgs false
namespace Go.SM
open Go.VL
abbrev keys (d : Defs) : List Int := d.map (·.1)
structure KOk (d new : Defs) : Prop where
  wi : ∀ x ∈ keys new, wi x 0 4095 = true
  nodup : (keys new).Nodup
  fresh : ∀ x ∈ keys new, x ∉ keys d
theorem kok_nil (d : Defs) : KOk d [] := ⟨by simp, by simp, by simp⟩
theorem kok_append {d a b : Defs} : KOk d (a ++ b) ↔ KOk d a ∧ KOk (d ++ a) b := by
  constructor
  · rintro ⟨h1, h2, h3⟩
    simp only [keys, List.map_append] at h1 h2 h3
    obtain ⟨n1, n2, n3⟩ := List.nodup_append.1 h2
    refine ⟨⟨fun x hx => h1 x (List.mem_append_left _ hx), n1, fun x hx => h3 x (List.mem_append_left _ hx)⟩, ⟨fun x hx => h1 x (List.mem_append_right _ hx), n2, fun x hx => ?_⟩⟩
    simp only [keys, List.map_append, List.mem_append, not_or]
    exact ⟨h3 x (List.mem_append_right _ hx), fun hm => n3 x hm x hx rfl⟩
  · rintro ⟨⟨a1, a2, a3⟩, ⟨b1, b2, b3⟩⟩
    simp only [keys, List.map_append] at b3
    refine ⟨fun x hx => ?_, ?_, fun x hx => ?_⟩ <;> simp only [keys, List.map_append] at *
    · rcases List.mem_append.1 hx with h | h
      · exact a1 x h
      · exact b1 x h
    · exact List.nodup_append.2 ⟨a2, b2, fun x hx y hy e => by subst e; exact b3 x hy (List.mem_append_right _ hx)⟩
    · rcases List.mem_append.1 hx with h | h
      · exact a3 x h
      · exact fun hm => b3 x h (List.mem_append_left _ hm)
theorem kok_one {d : Defs} {v : Int} {p : Int × Int} : KOk d [(v, p)] ↔ wi v 0 4095 = true ∧ v ∉ keys d := by
  constructor
  · rintro ⟨h1, _, h3⟩
    exact ⟨h1 v (by simp), h3 v (by simp)⟩
  · rintro ⟨h1, h2⟩
    exact ⟨fun x hx => by simp at hx; subst hx; exact h1, by simp, fun x hx => by simp at hx; subst hx; exact h2⟩
theorem dget_out {v : Int} : ∀ {d : Defs}, dget d v = none ↔ v ∉ keys d
  | [] => by simp [dget]
  | (k, p) :: d => by
    rw [dget]
    split
    · rename_i e
      subst e
      simp
    · rename_i e
      rw [dget_out]
      simp only [keys, List.map_cons, List.mem_cons, not_or]
      exact ⟨fun h => ⟨fun e2 => e e2.symm, h⟩, fun h => h.2⟩
theorem define_iff {v : Int} {p : Int × Int} {d : Defs} : (defineF v p d).1 = 0 ↔ KOk d [(v, p)] := by
  rw [kok_one]
  unfold defineF
  cases hw : wi v 0 4095 with
  | false => simp
  | true =>
    rw [if_neg (by decide)]
    cases hd : dget d v with
    | none =>
      rw [if_neg (by decide)]
      exact ⟨fun _ => ⟨rfl, dget_out.1 hd⟩, fun _ => rfl⟩
    | some x =>
      rw [if_pos (show (some x).isSome = true from rfl)]
      have : ¬ v ∉ keys d := fun h => by rw [dget_out.2 h] at hd; cases hd
      exact ⟨fun h => absurd (show (7 : Int) = 0 from h) (by decide), fun h => absurd h.2 this⟩
theorem define_eq {v : Int} {p : Int × Int} {d : Defs} (h : (defineF v p d).1 = 0) : (defineF v p d).2 = d ++ [(v, p)] := by
  have h2 := h
  rw [define_iff, kok_one] at h2
  unfold defineF
  rw [if_neg (by rw [h2.1]; decide), dget_out.2 h2.2, if_neg (by decide)]
theorem params_iff {k : Int} : ∀ {ps : List Int} {d : Defs}, ((paramsF k ps d).1 = 0 ↔ KOk d (defsP k ps)) ∧ ((paramsF k ps d).1 = 0 → (paramsF k ps d).2 = d ++ defsP k ps)
  | [], d => ⟨⟨fun _ => kok_nil d, fun _ => rfl⟩, fun _ => by simp [paramsF, defsP]⟩
  | p :: ps, d => by
    have hc : defsP k (p :: ps) = [(p, (k, 0))] ++ defsP k ps := rfl
    rw [hc, kok_append, paramsF]
    by_cases h : (defineF p (k, 0) d).1 = 0
    · rw [if_neg (fun h2 => h2 h)]
      have he := define_eq h
      obtain ⟨h1, h2⟩ := params_iff (k := k) (ps := ps) (d := (defineF p (k, 0) d).2)
      rw [he] at h1 h2
      rw [he]
      exact ⟨⟨fun h3 => ⟨define_iff.1 h, h1.1 h3⟩, fun h3 => h1.2 h3.2⟩, fun h3 => by rw [h2 h3, List.append_assoc]⟩
    · rw [if_pos h]
      exact ⟨⟨fun h3 => absurd h3 h, fun h3 => absurd (define_iff.2 h3.1) h⟩, fun h3 => absurd h3 h⟩
theorem inss_iff {k : Int} : ∀ {is : List SIns} {n : Int} {d : Defs}, ((inssF k n is d).1 = 0 ↔ KOk d (defsI k n is) ∧ ∀ i ∈ is, formF i = 0) ∧ ((inssF k n is d).1 = 0 → (inssF k n is d).2 = d ++ defsI k n is)
  | [], n, d => ⟨⟨fun _ => ⟨kok_nil d, fun i hi => by cases hi⟩, fun _ => rfl⟩, fun _ => by simp [inssF, defsI]⟩
  | i :: is, n, d => by
    have hc : defsI k n (i :: is) = [(i.to, (k, n + 1))] ++ defsI k (n + 1) is := rfl
    rw [hc, kok_append, inssF]
    by_cases h : (defineF i.to (k, n + 1) d).1 = 0
    · rw [if_neg (fun h2 => h2 h)]
      have he := define_eq h
      by_cases hf : formF i = 0
      · rw [if_neg (fun h2 => h2 hf)]
        obtain ⟨h1, h2⟩ := inss_iff (k := k) (is := is) (n := n + 1) (d := (defineF i.to (k, n + 1) d).2)
        rw [he] at h1 h2
        rw [he]
        refine ⟨⟨fun h3 => ?_, fun h3 => ?_⟩, fun h3 => by rw [h2 h3, List.append_assoc]⟩
        · have h4 := h1.1 h3
          refine ⟨⟨define_iff.1 h, h4.1⟩, fun j hj => ?_⟩
          rcases List.mem_cons.1 hj with rfl | hj
          · exact hf
          · exact h4.2 j hj
        · exact h1.2 ⟨h3.1.2, fun j hj => h3.2 j (List.mem_cons_of_mem _ hj)⟩
      · rw [if_pos hf]
        exact ⟨⟨fun h3 => absurd h3 hf, fun h3 => absurd (h3.2 i (List.mem_cons_self ..)) hf⟩, fun h3 => absurd h3 hf⟩
    · rw [if_pos h]
      exact ⟨⟨fun h3 => absurd h3 h, fun h3 => absurd (define_iff.2 h3.1.1) h⟩, fun h3 => absurd h3 h⟩
theorem block_iff {bs : List SBlock} {k : Int} {b : SBlock} {d : Defs} : ((blockF bs k b d).1 = 0 ↔ KOk d (defsB k b) ∧ blockOk bs b) ∧ ((blockF bs k b d).1 = 0 → (blockF bs k b d).2 = d ++ defsB k b) := by
  unfold blockF defsB blockOk
  rw [kok_append]
  obtain ⟨p1, p2⟩ := params_iff (k := k) (ps := b.params) (d := d)
  by_cases hp : (paramsF k b.params d).1 = 0
  · rw [if_neg (fun h => h hp)]
    rw [p2 hp]
    obtain ⟨i1, i2⟩ := inss_iff (k := k) (is := b.ins) (n := 0) (d := d ++ defsP k b.params)
    by_cases hi : (inssF k 0 b.ins (d ++ defsP k b.params)).1 = 0
    · rw [if_neg (fun h => h hi)]
      dsimp only
      rw [i2 hi]
      exact ⟨⟨fun h => ⟨⟨p1.1 hp, (i1.1 hi).1⟩, (i1.1 hi).2, h⟩, fun h => h.2.2⟩, fun h => List.append_assoc ..⟩
    · rw [if_pos hi]
      exact ⟨⟨fun h => absurd h hi, fun h => absurd (i1.2 ⟨h.1.2, h.2.1⟩) hi⟩, fun h => absurd h hi⟩
  · rw [if_pos hp]
    exact ⟨⟨fun h => absurd h hp, fun h => absurd (p1.2 h.1.1) hp⟩, fun h => absurd h hp⟩
theorem blocks_iff {bs : List SBlock} : ∀ {l : List SBlock} {k : Int} {d : Defs}, ((blocksF bs k l d).1 = 0 ↔ KOk d (defsL k l) ∧ ∀ b ∈ l, blockOk bs b) ∧ ((blocksF bs k l d).1 = 0 → (blocksF bs k l d).2 = d ++ defsL k l)
  | [], k, d => ⟨⟨fun _ => ⟨kok_nil d, fun i hi => by cases hi⟩, fun _ => rfl⟩, fun _ => by simp [blocksF, defsL]⟩
  | b :: l, k, d => by
    rw [defsL, kok_append, blocksF]
    obtain ⟨b1, b2⟩ := block_iff (bs := bs) (k := k) (b := b) (d := d)
    by_cases h : (blockF bs k b d).1 = 0
    · rw [if_neg (fun h2 => h2 h), b2 h]
      obtain ⟨h1, h2⟩ := blocks_iff (bs := bs) (l := l) (k := k + 1) (d := d ++ defsB k b)
      refine ⟨⟨fun h3 => ?_, fun h3 => ?_⟩, fun h3 => by rw [h2 h3, List.append_assoc]⟩
      · have h4 := h1.1 h3
        refine ⟨⟨(b1.1 h).1, h4.1⟩, fun j hj => ?_⟩
        rcases List.mem_cons.1 hj with rfl | hj
        · exact (b1.1 h).2
        · exact h4.2 j hj
      · exact h1.2 ⟨h3.1.2, fun j hj => h3.2 j (List.mem_cons_of_mem _ hj)⟩
    · rw [if_pos h]
      exact ⟨⟨fun h3 => absurd h3 h, fun h3 => absurd (b1.2 ⟨h3.1.1, h3.2 b (List.mem_cons_self ..)⟩) h⟩, fun h3 => absurd h3 h⟩
theorem dget_at {v : Int} {p : Int × Int} : ∀ {d : Defs}, (keys d).Nodup → (dget d v = some p ↔ (v, p) ∈ d)
  | [], _ => by simp [dget]
  | (k, q) :: d, h => by
    obtain ⟨h1, h2⟩ := List.nodup_cons.1 (show (k :: keys d).Nodup from h)
    rw [dget]
    split
    · rename_i e
      subst e
      constructor
      · intro e; injection e with e; subst e; exact List.mem_cons_self ..
      · intro hm
        rcases List.mem_cons.1 hm with e | hm
        · injection e with _ e; rw [e]
        · exact absurd (List.mem_map.2 ⟨_, hm, rfl⟩) h1
    · rename_i e
      rw [dget_at h2]
      constructor
      · intro hm; exact List.mem_cons_of_mem _ hm
      · intro hm
        rcases List.mem_cons.1 hm with e2 | hm
        · injection e2 with e2 _; exact absurd e2.symm e
        · exact hm
def dI : Int → List SIns → List (Int × Int)
  | _, [] => []
  | n, i :: is => (i.to, n + 1) :: dI (n + 1) is
def dB (b : SBlock) : List (Int × Int) := b.params.map (fun p => (p, 0)) ++ dI 0 b.ins
theorem defsI_eq (k : Int) : ∀ (is : List SIns) (n : Int), defsI k n is = (dI n is).map fun e => (e.1, (k, e.2))
  | [], n => rfl
  | i :: is, n => by rw [defsI, dI, List.map_cons, defsI_eq k is]
theorem defsB_eq (k : Int) (b : SBlock) : defsB k b = (dB b).map fun e => (e.1, (k, e.2)) := by
  unfold defsB dB defsP
  rw [List.map_append, List.map_map, defsI_eq]
  rfl
theorem defsL_at {x : Int × Int × Int} : ∀ {l : List SBlock} {k : Int}, x ∈ defsL k l ↔ ∃ (j : Nat) (b : SBlock), l[j]? = some b ∧ x.2.1 = k + j ∧ (x.1, x.2.2) ∈ dB b
  | [], k => by simp [defsL]
  | c :: l, k => by
    rw [defsL, List.mem_append, defsL_at (l := l), defsB_eq, List.mem_map]
    constructor
    · rintro (⟨e, he, rfl⟩ | ⟨j, b, hb, h1, h2⟩)
      · exact ⟨0, c, rfl, by simp, he⟩
      · exact ⟨j + 1, b, by simpa using hb, by rw [h1]; simp; omega, h2⟩
    · rintro ⟨j, b, hb, h1, h2⟩
      cases j with
      | zero =>
        have hb : c = b := by simpa using hb
        subst hb
        refine .inl ⟨_, h2, ?_⟩
        obtain ⟨a, b, e⟩ := x
        have h1 : b = k + (0 : Nat) := h1
        rw [show b = k by rw [h1]; simp]
      | succ j => exact .inr ⟨j, b, by simpa using hb, by rw [h1]; simp; omega, h2⟩
theorem keysI_len : ∀ (is : List SIns) (n : Int), (dI n is).length = is.length
  | [], n => rfl
  | i :: is, n => by rw [dI, List.length_cons, keysI_len is, List.length_cons]
def insN : List SBlock → Nat
  | [] => 0
  | b :: l => b.ins.length + insN l
theorem keysL : ∀ (l : List SBlock) (k : Int), keys (defsL k l) = l.flatMap fun b => (dB b).map (·.1)
  | [], k => rfl
  | b :: l, k => by
    rw [defsL, keys, List.map_append, List.flatMap_cons]
    have h := keysL l (k + 1)
    rw [keys] at h
    rw [h, defsB_eq, List.map_map]
    rfl
theorem insN_le : ∀ (l : List SBlock), insN l ≤ (l.flatMap fun b => (dB b).map (·.1)).length
  | [] => Nat.le_refl _
  | b :: l => by
    have h := insN_le l
    rw [insN, List.flatMap_cons, List.length_append, List.length_map, dB, List.length_append, keysI_len]
    omega
theorem nodup_wi {l : List Int} (h : l.Nodup) (hw : ∀ x ∈ l, wi x 0 4095 = true) : l.length ≤ 4096 := by
  have h1 := nodup_lt (l := l.map Int.toNat) (n := 4096) ?_ fun v hv => by
    obtain ⟨x, hx, rfl⟩ := List.mem_map.1 hv
    have := wi_iff.1 (hw x hx)
    omega
  · rwa [List.length_map] at h1
  · rw [List.Nodup, List.pairwise_map]
    refine List.Pairwise.imp_of_mem (fun {a c} ha hc hne e => hne ?_) h
    have h1 := wi_iff.1 (hw a ha)
    have h2 := wi_iff.1 (hw c hc)
    omega
theorem count_eq : ∀ (l : List SBlock) (n : Int), 0 ≤ n → n + insN l ≤ 9223372036854775807 → countIns n l = n + insN l
  | [], n, _, _ => by simp [countIns, insN]
  | b :: l, n, h0, h => by
    rw [insN] at h
    rw [countIns, insN]
    have e : IntKind.i64.wrap (n + b.ins.length) = n + b.ins.length := by rw [IntKind.wrap_i64]; omega
    rw [e, count_eq l _ (by omega) (by omega)]
    omega
structure FuncIs (f : SFunc) : Prop where
  pos : 0 < f.blocks.length
  len : f.blocks.length ≤ 128
  ins : insN f.blocks ≤ 1024
  params : (paramsOf f.blocks 0).length ≤ 6
  name : wi f.name (-1) 1048575 = true
  kok : KOk [] (defsL 0 f.blocks)
  block : ∀ b ∈ f.blocks, blockOk f.blocks b
  uses : usesF (defsL 0 f.blocks) (domF f.blocks) 0 f.blocks = 0
theorem func_iff {f : SFunc} : funcF f = 0 ↔ FuncIs f := by
  constructor
  · intro h
    have hok := func_ok h
    obtain ⟨h1, h2⟩ := blocks_iff (bs := f.blocks) (l := f.blocks) (k := 0) (d := [])
    have h3 := h1.1 hok.blocks
    have h4 := h2 hok.blocks
    have hu := hok.uses
    rw [h4, List.nil_append] at hu
    have hl := nodup_wi h3.1.nodup h3.1.wi
    rw [keysL] at hl
    have hi := insN_le f.blocks
    have hc := hok.ins
    rw [count_eq _ _ (by omega) (by omega)] at hc
    exact ⟨hok.pos, hok.len, by omega, hok.params, wi_iff.2 hok.name, h3.1, h3.2, hu⟩
  · intro h
    obtain ⟨h1, h2⟩ := blocks_iff (bs := f.blocks) (l := f.blocks) (k := 0) (d := [])
    have h3 := h1.2 ⟨h.kok, h.block⟩
    have h4 := h2 h3
    have a1 := h.pos
    have a2 := h.len
    have a3 := h.ins
    have a4 := h.params
    unfold funcF
    rw [if_neg (by omega), if_neg (by rw [count_eq _ _ (by omega) (by omega)]; omega), if_neg (by rw [h.name]; decide), if_neg (fun hn => hn h3), h4, List.nil_append]
    exact h.uses
end Go.SM
end
section
set_option linter.unusedVariables false
set_option linter.unusedSimpArgs false
namespace Go.SM
open Go.VL
def atF (f : SFunc) : List Int := placeF (reachL f) f.blocks.length
def reachN (f : SFunc) : List Nat := (List.range f.blocks.length).filter fun v => decide (v ∈ orderF f.blocks)
section
variable {f : SFunc} (ho : OrderOk f.blocks (orderF f.blocks))
include ho
end
theorem edgesF_iff {bs : List SBlock} : ∀ {l : List SEdge}, (∀ e ∈ l, 1 ≤ e.block ∧ e.block < bs.length ∧ e.args.length = (paramsOf bs e.block).length) → edgesF bs l = 0
  | [], _ => rfl
  | e :: l, h => by
    have h1 := h e (List.mem_cons_self ..)
    rw [edgesF, if_neg (by rw [wi_iff.2 ⟨h1.1, by omega⟩]; decide), if_neg (fun hn => hn h1.2.2)]
    exact edgesF_iff fun x hx => h x (List.mem_cons_of_mem _ hx)
theorem usesF_iff {d : Defs} {o : Dom} : ∀ {l : List SBlock} {k : Nat}, usesF d o k l = 0 ↔ ∀ (j : Nat) (b : SBlock), l[j]? = some b → usesIns d o (k + j) 0 b.ins = true ∧ usedF b.term (fineF d o (k + j) b.ins.length) = true
  | [], k => by simp [usesF]
  | c :: l, k => by
    rw [usesF]
    constructor
    · intro h j b hb
      split at h
      · cases h
      · rename_i h1
        split at h
        · cases h
        · rename_i h2
          cases j with
          | zero =>
            have hb : c = b := by simpa using hb
            subst hb
            exact ⟨by simpa using h1, by simpa using h2⟩
          | succ j =>
            have := usesF_iff.1 h j b (by simpa using hb)
            rwa [show k + 1 + j = k + (j + 1) by omega] at this
    · intro h
      have h0 := h 0 c rfl
      rw [Nat.add_zero] at h0
      rw [if_neg (by rw [h0.1]; decide), if_neg (by rw [h0.2]; decide)]
      exact usesF_iff.2 fun j b hb => by
        have := h (j + 1) b (by simpa using hb)
        rwa [show k + (j + 1) = k + 1 + j by omega] at this
theorem usesIns_imp {d d' : Defs} {o o' : Dom} {k k' : Nat} (h : ∀ n u, fineF d o k n u = true → fineF d' o' k' n u = true) : ∀ {is : List SIns} {n : Int}, usesIns d o k n is = true → usesIns d' o' k' n is = true
  | [], n, _ => rfl
  | i :: is, n, hu => by
    rw [usesIns, Bool.and_eq_true, List.all_eq_true] at hu ⊢
    exact ⟨fun u hu2 => h n u (hu.1 u hu2), usesIns_imp h hu.2⟩
end Go.SM
end
section
set_option linter.unusedVariables false
set_option linter.unusedSimpArgs false
set_option linter.unusedSectionVars false
namespace Go.SM
open Go.VL
def jumpB (e : SEdge) : SBlock := ⟨[], [], ⟨1, 0, 0, [], [e]⟩⟩
abbrev Cut := List (Nat × SEdge)
def spE (c : SEdge → Bool) (n k : Nat) : List SEdge → Cut → List SEdge × Cut
  | [], X => ([], X)
  | e :: l, X => if c e = true then (⟨((n + X.length : Nat) : Int), []⟩ :: (spE c n k l (X ++ [(k, e)])).1, (spE c n k l (X ++ [(k, e)])).2) else (e :: (spE c n k l X).1, (spE c n k l X).2)
def setTo (b : SBlock) (to : List SEdge) : SBlock := { b with term := { b.term with to := to } }
def spB (c : SBlock → SEdge → Bool) (n : Nat) : Nat → List SBlock → Cut → List SBlock × Cut
  | _, [], X => ([], X)
  | k, b :: l, X => (setTo b (spE (c b) n k b.term.to X).1 :: (spB c n (k + 1) l (spE (c b) n k b.term.to X).2).1, (spB c n (k + 1) l (spE (c b) n k b.term.to X).2).2)
def critB (bs : List SBlock) (b : SBlock) (e : SEdge) : Bool := !(decide ((b.term.to.length : Int) < 2) || decide ((((predsF bs)[e.block.toNat]?.getD []).length : Int) < 2))
def splitP (f : SFunc) : List SBlock × Cut := spB (critB f.blocks) f.blocks.length 0 f.blocks []
def splitF (f : SFunc) : SFunc := ⟨f.name, (splitP f).1 ++ (splitP f).2.map fun x => jumpB x.2⟩
theorem spE_pre (c : SEdge → Bool) (n k : Nat) : ∀ (l : List SEdge) (X : Cut), ∃ Y, (spE c n k l X).2 = X ++ Y ∧ Y.length ≤ l.length ∧ ∀ x ∈ Y, x.1 = k ∧ x.2 ∈ l
  | [], X => ⟨[], by rw [spE, List.append_nil], Nat.le_refl _, fun x h => by cases h⟩
  | e :: l, X => by
    rw [spE]
    split
    · obtain ⟨Y, h1, h2, h3⟩ := spE_pre c n k l (X ++ [(k, e)])
      refine ⟨(k, e) :: Y, by rw [h1, List.append_assoc]; rfl, by simp; omega, fun x hx => ?_⟩
      rcases List.mem_cons.1 hx with rfl | hx
      · exact ⟨rfl, List.mem_cons_self ..⟩
      · exact ⟨(h3 x hx).1, List.mem_cons_of_mem _ (h3 x hx).2⟩
    · obtain ⟨Y, h1, h2, h3⟩ := spE_pre c n k l X
      exact ⟨Y, h1, by simp; omega, fun x hx => ⟨(h3 x hx).1, List.mem_cons_of_mem _ (h3 x hx).2⟩⟩
theorem spE_len (c : SEdge → Bool) (n k : Nat) : ∀ (l : List SEdge) (X : Cut), (spE c n k l X).1.length = l.length
  | [], X => rfl
  | e :: l, X => by
    rw [spE]
    split
    · show (_ :: _).length = _
      rw [List.length_cons, spE_len, List.length_cons]
    · show (_ :: _).length = _
      rw [List.length_cons, spE_len, List.length_cons]
theorem spE_get (c : SEdge → Bool) (n k : Nat) : ∀ (l : List SEdge) (X : Cut) (i : Nat) (e : SEdge), l[i]? = some e → (spE c n k l X).1[i]? = some e ∨ ∃ j, (spE c n k l X).2[j]? = some (k, e) ∧ (spE c n k l X).1[i]? = some ⟨((n + j : Nat) : Int), []⟩
  | [], X, i, e, h => by simp at h
  | a :: l, X, i, e, h => by
    rw [spE]
    split
    · dsimp only
      cases i with
      | zero =>
        have h : a = e := by simpa using h
        subst h
        obtain ⟨Y, h1, _⟩ := spE_pre c n k l (X ++ [(k, a)])
        refine .inr ⟨X.length, ?_, rfl⟩
        rw [h1, List.append_assoc, List.getElem?_append_right (Nat.le_refl _), Nat.sub_self]
        rfl
      | succ i =>
        have h : l[i]? = some e := by simpa using h
        simpa using spE_get c n k l _ i e h
    · dsimp only
      cases i with
      | zero =>
        have h : a = e := by simpa using h
        subst h
        exact .inl rfl
      | succ i =>
        have h : l[i]? = some e := by simpa using h
        simpa using spE_get c n k l _ i e h
theorem spB_pre (c : SBlock → SEdge → Bool) (n : Nat) : ∀ (l : List SBlock) (k : Nat) (X : Cut), ∃ Y, (spB c n k l X).2 = X ++ Y ∧ ∀ x ∈ Y, ∃ i b, l[i]? = some b ∧ x.1 = k + i ∧ x.2 ∈ b.term.to
  | [], k, X => ⟨[], by rw [spB, List.append_nil], fun x h => by cases h⟩
  | b :: l, k, X => by
    rw [spB]
    obtain ⟨Y, h1, _, h2⟩ := spE_pre (c b) n k b.term.to X
    obtain ⟨Z, h3, h4⟩ := spB_pre c n l (k + 1) (spE (c b) n k b.term.to X).2
    refine ⟨Y ++ Z, by rw [h3, h1, List.append_assoc], fun x hx => ?_⟩
    rcases List.mem_append.1 hx with hx | hx
    · exact ⟨0, b, rfl, (h2 x hx).1, (h2 x hx).2⟩
    · obtain ⟨i, d, g1, g2, g3⟩ := h4 x hx
      exact ⟨i + 1, d, by simpa using g1, by omega, g3⟩
theorem spB_len (c : SBlock → SEdge → Bool) (n : Nat) : ∀ (l : List SBlock) (k : Nat) (X : Cut), (spB c n k l X).1.length = l.length
  | [], k, X => rfl
  | b :: l, k, X => by
    rw [spB]
    show (_ :: _).length = _
    rw [List.length_cons, spB_len, List.length_cons]
theorem spB_get (c : SBlock → SEdge → Bool) (n : Nat) : ∀ (l : List SBlock) (k : Nat) (X : Cut) (i : Nat) (b : SBlock), l[i]? = some b → ∃ to : List SEdge, (spB c n k l X).1[i]? = some (setTo b to) ∧ to.length = b.term.to.length ∧ ∀ (j : Nat) (e : SEdge), b.term.to[j]? = some e → to[j]? = some e ∨ ∃ m, (spB c n k l X).2[m]? = some (k + i, e) ∧ to[j]? = some ⟨((n + m : Nat) : Int), []⟩
  | [], k, X, i, b, h => by simp at h
  | a :: l, k, X, i, b, h => by
    rw [spB]
    dsimp only
    cases i with
    | zero =>
      have h : a = b := by simpa using h
      subst h
      refine ⟨_, rfl, spE_len .., fun j e he => ?_⟩
      rcases spE_get (c a) n k a.term.to X j e he with h | ⟨m, h1, h2⟩
      · exact .inl h
      · obtain ⟨Y, h3, _⟩ := spB_pre c n l (k + 1) (spE (c a) n k a.term.to X).2
        refine .inr ⟨m, ?_, h2⟩
        rw [h3, List.getElem?_append_left (List.getElem?_eq_some_iff.1 h1).1]
        exact h1
    | succ i =>
      have h : l[i]? = some b := by simpa using h
      obtain ⟨to, h1, h2, h3⟩ := spB_get c n l (k + 1) (spE (c a) n k a.term.to X).2 i b h
      refine ⟨to, by simpa using h1, h2, fun j e he => (h3 j e he).imp id fun ⟨m, g1, g2⟩ => ⟨m, ?_, g2⟩⟩
      rw [g1, show k + 1 + i = k + (i + 1) by omega]
structure SplitOk (bs gs : List SBlock) (E : Cut) : Prop where
  len : gs.length = bs.length + E.length
  old : ∀ k b, bs[k]? = some b → ∃ to : List SEdge, gs[k]? = some (setTo b to) ∧ to.length = b.term.to.length ∧ ∀ (j : Nat) (e : SEdge), b.term.to[j]? = some e → to[j]? = some e ∨ ∃ m, E[m]? = some (k, e) ∧ to[j]? = some ⟨((bs.length + m : Nat) : Int), []⟩
  new : ∀ m k e, E[m]? = some (k, e) → gs[bs.length + m]? = some (jumpB e) ∧ ∃ b, bs[k]? = some b ∧ e ∈ b.term.to
theorem split_is (f : SFunc) : SplitOk f.blocks (splitF f).blocks (splitP f).2 := by
  have hl : (splitP f).1.length = f.blocks.length := spB_len ..
  refine ⟨by unfold splitF; dsimp only; rw [List.length_append, List.length_map, hl], fun k b hb => ?_, fun m k e he => ?_⟩
  · obtain ⟨to, h1, h2, h3⟩ := spB_get (critB f.blocks) f.blocks.length f.blocks 0 [] k b hb
    have hk := (List.getElem?_eq_some_iff.1 hb).1
    refine ⟨to, ?_, h2, fun j e he => (h3 j e he).imp id fun ⟨m, g1, g2⟩ => ⟨m, by rw [Nat.zero_add] at g1; exact g1, g2⟩⟩
    unfold splitF
    dsimp only
    rw [List.getElem?_append_left (by omega)]
    exact h1
  · obtain ⟨Y, h1, h2⟩ := spB_pre (critB f.blocks) f.blocks.length f.blocks 0 []
    refine ⟨?_, ?_⟩
    · unfold splitF
      dsimp only
      rw [List.getElem?_append_right (by omega), hl, Nat.add_sub_cancel_left, List.getElem?_map, he]
      rfl
    · have hm : (k, e) ∈ Y := by
        have := List.mem_of_getElem? he
        unfold splitP at this
        rw [h1] at this
        exact this
      obtain ⟨i, b, g1, g2, g3⟩ := h2 _ hm
      have g2 : k = 0 + i := g2
      rw [Nat.zero_add] at g2
      subst g2
      exact ⟨b, g1, g3⟩
section
variable {bs gs : List SBlock} {E : Cut} (h : SplitOk bs gs E) (hE : ∀ b ∈ bs, ∀ e ∈ b.term.to, 1 ≤ e.block ∧ e.block < bs.length)
include h hE
theorem way_split {l : List Nat} {v : Nat} (hw : Way bs l v) : ∃ l', Way gs l' v ∧ ∀ y ∈ l', y < bs.length → y ∈ l := by
  induction hw with
  | start => exact ⟨[], .start, fun y hy => by cases hy⟩
  | @step l p k _ he ih =>
    obtain ⟨l', h1, h2⟩ := ih
    obtain ⟨e, he, hek⟩ := he
    have hpl : p < bs.length := Classical.byContradiction fun hn => by
      rw [toAt, List.getElem?_eq_none (by omega)] at he
      cases he
    obtain ⟨b, hb⟩ := get_of_lt bs p (by omega)
    rw [toAt_get hb] at he
    obtain ⟨j, hj⟩ := List.getElem?_of_mem he
    obtain ⟨to, g1, g2, g3⟩ := h.old p b hb
    have hto : toAt gs p = to := by rw [toAt_get g1]; rfl
    rcases g3 j e hj with g | ⟨m, g4, g5⟩
    · refine ⟨p :: l', .step h1 ⟨e, by rw [hto]; exact List.mem_of_getElem? g, hek⟩, fun y hy hyl => ?_⟩
      rcases List.mem_cons.1 hy with rfl | hy
      · exact List.mem_cons_self ..
      · exact List.mem_cons_of_mem _ (h2 y hy hyl)
    · have hn := (h.new m p e g4).1
      refine ⟨(bs.length + m) :: p :: l', .step (.step h1 ⟨_, by rw [hto]; exact List.mem_of_getElem? g5, by dsimp only; omega⟩) ⟨e, by rw [toAt_get hn]; exact List.mem_singleton.2 rfl, hek⟩, fun y hy hyl => ?_⟩
      rcases List.mem_cons.1 hy with rfl | hy
      · omega
      · rcases List.mem_cons.1 hy with rfl | hy
        · exact List.mem_cons_self ..
        · exact List.mem_cons_of_mem _ (h2 y hy hyl)
theorem split_way {l : List Nat} {v : Nat} (hw : Way gs l v) : (v < bs.length → ∃ l0, Way bs l0 v ∧ ∀ y ∈ l0, y ∈ l) ∧
    ∀ m k e, v = bs.length + m → E[m]? = some (k, e) → k ∈ l ∧ ∃ l0, Way bs l0 k ∧ ∀ y ∈ l0, y ∈ l := by
  induction hw with
  | start => exact ⟨fun _ => ⟨[], .start, fun y hy => by cases hy⟩, fun m k e hv he => by
      obtain ⟨_, b, hb, hm⟩ := h.new m k e he
      have := hE b (List.mem_of_getElem? hb) e hm
      omega⟩
  | @step l p v hw he ih =>
    obtain ⟨ih1, ih2⟩ := ih
    obtain ⟨e, he, hev⟩ := he
    by_cases hp : p < bs.length
    · obtain ⟨l0, w0, s0⟩ := ih1 hp
      obtain ⟨b, hb⟩ := get_of_lt bs p (by omega)
      obtain ⟨to, g1, g2, g3⟩ := h.old p b hb
      have hto : toAt gs p = to := by rw [toAt_get g1]; rfl
      rw [hto] at he
      obtain ⟨j, hj⟩ := List.getElem?_of_mem he
      have hjl := (List.getElem?_eq_some_iff.1 hj).1
      obtain ⟨x, hx⟩ := get_of_lt b.term.to j (by omega)
      have hxe := hE b (List.mem_of_getElem? hb) x (List.mem_of_getElem? hx)
      rcases g3 j x hx with g | ⟨m, g4, g5⟩
      · rw [hj] at g
        injection g with g
        subst g
        refine ⟨fun _ => ⟨p :: l0, .step w0 ⟨e, by rw [toAt_get hb]; exact List.mem_of_getElem? hx, hev⟩, fun y hy => ?_⟩, fun m k x2 hv _ => by omega⟩
        rcases List.mem_cons.1 hy with rfl | hy
        · exact List.mem_cons_self ..
        · exact List.mem_cons_of_mem _ (s0 y hy)
      · rw [hj] at g5
        injection g5 with g5
        subst g5
        dsimp only at hev
        refine ⟨fun hl => by omega, fun m2 k x2 hv he2 => ?_⟩
        have : m2 = m := by omega
        subst this
        rw [g4] at he2
        injection he2 with he2
        injection he2 with he2 he3
        subst he2
        exact ⟨List.mem_cons_self .., l0, w0, fun y hy => List.mem_cons_of_mem _ (s0 y hy)⟩
    · have hpl : p < gs.length := Classical.byContradiction fun hn => by
        rw [toAt, List.getElem?_eq_none (by omega)] at he
        cases he
      have hlen := h.len
      obtain ⟨⟨q, x⟩, hx⟩ := get_of_lt E (p - bs.length) (by omega)
      obtain ⟨n1, b, hb, hm⟩ := h.new _ q x hx
      rw [show bs.length + (p - bs.length) = p by omega] at n1
      obtain ⟨i1, l0, w0, s0⟩ := ih2 (p - bs.length) q x (by omega) hx
      rw [toAt_get n1] at he
      have he : e = x := List.mem_singleton.1 he
      subst he
      have hxe := hE b (List.mem_of_getElem? hb) e hm
      refine ⟨fun _ => ⟨q :: l0, .step w0 ⟨e, by rw [toAt_get hb]; exact hm, hev⟩, fun y hy => ?_⟩, fun m k x2 hv _ => by omega⟩
      rcases List.mem_cons.1 hy with rfl | hy
      · exact List.mem_cons_of_mem _ i1
      · exact List.mem_cons_of_mem _ (s0 y hy)
theorem split_reach {v : Nat} (hv : v < bs.length) : (∃ l, Way gs l v) ↔ ∃ l, Way bs l v :=
  ⟨fun ⟨l, hw⟩ => let ⟨l0, w0, _⟩ := (split_way h hE hw).1 hv; ⟨l0, w0⟩, fun ⟨l, hw⟩ => let ⟨l', w', _⟩ := way_split h hE hw; ⟨l', w'⟩⟩
theorem split_doms {a b : Nat} (ha : a < bs.length) (hb : b < bs.length) : Doms gs a b ↔ Doms bs a b := by
  constructor
  · intro hd l hw
    obtain ⟨l', w', s'⟩ := way_split h hE hw
    exact (hd l' w').imp id fun hm => s' a hm ha
  · intro hd l hw
    obtain ⟨l0, w0, s0⟩ := (split_way h hE hw).1 hb
    exact (hd l0 w0).imp id (s0 a)
end
end Go.SM
end
section
set_option linter.unusedVariables false
set_option linter.unusedSimpArgs false
namespace Go.SM
open Go.VL
theorem defsL_append : ∀ (a b : List SBlock) (k : Int), defsL k (a ++ b) = defsL k a ++ defsL (k + a.length) b
  | [], b, k => by simp [defsL]
  | x :: a, b, k => by
    rw [List.cons_append, defsL, defsL, defsL_append a b, List.append_assoc, List.length_cons, show k + 1 + (a.length : Int) = k + ((a.length + 1 : Nat) : Int) by omega]
theorem defsL_jump : ∀ (E : Cut) (k : Int), defsL k (E.map fun x => jumpB x.2) = []
  | [], k => rfl
  | x :: E, k => by rw [List.map_cons, defsL, defsL_jump E]; rfl
theorem defsL_spB (c : SBlock → SEdge → Bool) (n : Nat) : ∀ (l : List SBlock) (k : Nat) (X : Cut) (m : Int), defsL m (spB c n k l X).1 = defsL m l
  | [], k, X, m => rfl
  | b :: l, k, X, m => by
    rw [spB, defsL]
    show defsL m (_ :: _) = _
    rw [defsL, defsL_spB c n l]
    rfl
theorem defs_split (f : SFunc) : defsL 0 (splitF f).blocks = defsL 0 f.blocks := by
  unfold splitF
  dsimp only
  rw [defsL_append, defsL_jump, List.append_nil]
  exact defsL_spB ..
theorem insN_append : ∀ a b : List SBlock, insN (a ++ b) = insN a + insN b
  | [], b => by rw [List.nil_append, insN, Nat.zero_add]
  | x :: a, b => by rw [List.cons_append, insN, insN, insN_append a b]; omega
theorem insN_jump : ∀ E : Cut, insN (E.map fun x => jumpB x.2) = 0
  | [] => rfl
  | x :: E => by rw [List.map_cons, insN, insN_jump E]; rfl
theorem insN_spB (c : SBlock → SEdge → Bool) (n : Nat) : ∀ (l : List SBlock) (k : Nat) (X : Cut), insN (spB c n k l X).1 = insN l
  | [], k, X => rfl
  | b :: l, k, X => by
    rw [spB, insN]
    show insN (_ :: _) = _
    rw [insN, insN_spB c n l]
    rfl
theorem insN_split (f : SFunc) : insN (splitF f).blocks = insN f.blocks := by
  unfold splitF
  dsimp only
  rw [insN_append, insN_jump, Nat.add_zero]
  exact insN_spB ..
theorem split_ok {f : SFunc} (h0 : funcF f = 0) (hl : (splitF f).blocks.length ≤ 128) : funcF (splitF f) = 0 := by
  have hok := func_ok h0
  have hE := hok.edges
  have fi := func_iff.1 h0
  have h := split_is f
  have hlen := h.len
  have hpos := hok.pos
  have hpar : ∀ v : Int, 0 ≤ v → v < f.blocks.length → paramsOf (splitF f).blocks v = paramsOf f.blocks v := fun v h1 h2 => by
    obtain ⟨b, hb⟩ := get_of_lt f.blocks v.toNat (by omega)
    obtain ⟨to, g1, _⟩ := h.old _ b hb
    rw [paramsOf_get g1, paramsOf_get hb]
    rfl
  have hjmp : ∀ (m k : Nat) (e : SEdge), (splitP f).2[m]? = some (k, e) → paramsOf (splitF f).blocks ((f.blocks.length + m : Nat) : Int) = [] := fun m k e hm => by
    rw [paramsOf_get (k := ((f.blocks.length + m : Nat) : Int)) (b := jumpB e) (by rw [Int.toNat_natCast]; exact (h.new m k e hm).1)]
    rfl
  have hget : ∀ (i : Nat) (c : SBlock), (splitF f).blocks[i]? = some c → (∃ b to, f.blocks[i]? = some b ∧ c = setTo b to ∧ to.length = b.term.to.length ∧ ∀ e' ∈ to, e' ∈ b.term.to ∨ ∃ m e, (splitP f).2[m]? = some (i, e) ∧ e' = ⟨((f.blocks.length + m : Nat) : Int), []⟩) ∨
      ∃ m k e b, i = f.blocks.length + m ∧ (splitP f).2[m]? = some (k, e) ∧ c = jumpB e ∧ f.blocks[k]? = some b ∧ e ∈ b.term.to := fun i c hc => by
    have hil := (List.getElem?_eq_some_iff.1 hc).1
    by_cases hi : i < f.blocks.length
    · obtain ⟨b, hb⟩ := get_of_lt f.blocks i (by omega)
      obtain ⟨to, g1, g2, g3⟩ := h.old i b hb
      rw [hc] at g1
      injection g1 with g1
      refine .inl ⟨b, to, hb, g1, g2, fun e' he' => ?_⟩
      obtain ⟨j, hj⟩ := List.getElem?_of_mem he'
      have hjl := (List.getElem?_eq_some_iff.1 hj).1
      obtain ⟨x, hx⟩ := get_of_lt b.term.to j (by omega)
      rcases g3 j x hx with g | ⟨m, g4, g5⟩
      · rw [hj] at g
        injection g with g
        exact .inl (g ▸ List.mem_of_getElem? hx)
      · rw [hj] at g5
        injection g5 with g5
        exact .inr ⟨m, x, g4, g5⟩
    · obtain ⟨⟨k, e⟩, hx⟩ := get_of_lt (splitP f).2 (i - f.blocks.length) (by omega)
      obtain ⟨g1, b, hb, hm⟩ := h.new _ k e hx
      rw [show f.blocks.length + (i - f.blocks.length) = i by omega, hc] at g1
      injection g1 with g1
      exact .inr ⟨_, k, e, b, by omega, hx, g1, hb, hm⟩
  have hed : ∀ b ∈ f.blocks, ∀ e ∈ b.term.to, 1 ≤ e.block ∧ e.block < (splitF f).blocks.length ∧ e.args.length = (paramsOf (splitF f).blocks e.block).length := fun b hb e he => by
    obtain ⟨x1, x2, x3⟩ := (endF_ok (fi.block b hb).2).edges e he
    exact ⟨x1, by omega, by rw [hpar _ (by omega) x2]; exact x3⟩
  have hblk : ∀ c ∈ (splitF f).blocks, blockOk (splitF f).blocks c := fun c hc => by
    obtain ⟨i, hi⟩ := List.getElem?_of_mem hc
    rcases hget i c hi with ⟨b, to, hb, rfl, hto, hes⟩ | ⟨m, k, e, b, rfl, hx, rfl, hb, hm⟩
    · have hbm := List.mem_of_getElem? hb
      obtain ⟨b1, b2⟩ := fi.block b hbm
      refine ⟨b1, ?_⟩
      have he := endF_ok b2
      unfold endF at b2 ⊢
      have hsh : shapeF (setTo b to).term = shapeF b.term := by
        unfold shapeF setTo
        simp only [hto]
      rw [hsh, if_neg (by rw [he.shape]; decide)]
      change (if 256 < (b.term.cases.length : Int) then 2 else if b.term.kind = 4 ∧ wi b.term.n 1 6 = false then 4 else if casesF [] b.term.cases ≠ 0 then casesF [] b.term.cases else edgesF (splitF f).blocks to) = 0
      rw [if_neg (by rw [he.shape]; decide)] at b2
      split at b2
      · cases b2
      · rename_i h2
        rw [if_neg h2]
        split at b2
        · cases b2
        · rename_i h3
          rw [if_neg h3, if_neg (fun hn => hn he.cases)]
          refine edgesF_iff fun e' he' => ?_
          rcases hes e' he' with h4 | ⟨m, e, hm, rfl⟩
          · exact hed b hbm e' h4
          · have hml := (List.getElem?_eq_some_iff.1 hm).1
            refine ⟨by dsimp only; omega, by dsimp only; omega, ?_⟩
            dsimp only
            rw [hjmp m i e hm]
    · refine ⟨fun i hi => (by cases hi), ?_⟩
      have h1 := hed b (List.mem_of_getElem? hb) e hm
      have h2 : edgesF (splitF f).blocks [e] = 0 := edgesF_iff fun x hx => by
        rw [List.mem_singleton.1 hx]
        exact h1
      show endF _ ⟨1, 0, 0, [], [e]⟩ = 0
      unfold endF
      rw [if_neg (by simp [shapeF]), if_neg (by simp), if_neg (by simp), if_neg (by simp [casesF])]
      exact h2
  have hEg : ∀ b ∈ (splitF f).blocks, ∀ e ∈ b.term.to, 1 ≤ e.block ∧ e.block < (splitF f).blocks.length := fun b hb e he => by
    have := (endF_ok (hblk b hb).2).edges e he
    exact ⟨this.1, this.2.1⟩
  have hgpos : 0 < (splitF f).blocks.length := by omega
  have hlen128 := hok.len
  refine func_iff.2 ⟨hgpos, hl, by rw [insN_split]; exact fi.ins, ?_, fi.name, by rw [defs_split]; exact fi.kok, hblk, ?_⟩
  · rw [hpar 0 (Int.le_refl _) (by omega)]
    exact fi.params
  · rw [defs_split]
    refine usesF_iff.2 fun i c hi => ?_
    rw [Nat.zero_add]
    have hil := (List.getElem?_eq_some_iff.1 hi).1
    have hunseen : ∀ {at_ u : Int}, (¬ ∃ l, Way (splitF f).blocks l i) → (dget (defsL 0 f.blocks) u).isSome = true → fineF (defsL 0 f.blocks) (domF (splitF f).blocks) i at_ u = true := fun {at_ u} hn hs => by
      have hsn : (domF (splitF f).blocks).seen.has i = false := by
        cases hc : (domF (splitF f).blocks).seen.has i with
        | false => rfl
        | true => exact absurd ((seen_iff hgpos hl hEg (by omega)).1 hc) hn
      unfold fineF
      cases hg : dget (defsL 0 f.blocks) u with
      | none => rw [hg] at hs; cases hs
      | some p => dsimp only; rw [hsn]; simp
    -- what a use of the old function knows
    have hknow : ∀ {k : Nat} {at_ u : Int}, k < f.blocks.length → fineF (defsL 0 f.blocks) (domF f.blocks) k at_ u = true → ∃ j q, j < f.blocks.length ∧ dget (defsL 0 f.blocks) u = some ((j : Int), q) ∧ ((∃ l, Way f.blocks l k) → j = k ∧ q ≤ at_ ∨ j ≠ k ∧ Doms f.blocks j k) := fun {k at_ u} hk hf => by
      unfold fineF at hf
      cases hg : dget (defsL 0 f.blocks) u with
      | none => rw [hg] at hf; cases hf
      | some p =>
        rw [hg] at hf
        dsimp only at hf
        obtain ⟨j, bj, hbj, hp1, hp2⟩ := defsL_at.1 ((dget_at fi.kok.nodup).1 hg)
        obtain ⟨p1, q⟩ := p
        have hp1 : p1 = (0 : Int) + j := hp1
        rw [Int.zero_add] at hp1
        subst hp1
        have hjl := (List.getElem?_eq_some_iff.1 hbj).1
        refine ⟨j, q, hjl, rfl, fun hw => ?_⟩
        have hseen : (domF f.blocks).seen.has k = true := (seen_iff hok.pos hok.len hE (by omega)).2 hw
        rw [hseen] at hf
        simp only [Bool.not_true, Bool.or_false, Bool.or_eq_true, Bool.and_eq_true, decide_eq_true_eq, Int.toNat_natCast] at hf
        rcases hf with ⟨h1, h2⟩ | ⟨h1, h2⟩
        · exact .inl ⟨by omega, h2⟩
        · exact .inr ⟨fun e => h1 (by rw [e]), (has_iff hok.pos hok.len hE hw hk hjl).1 h2⟩
    have hdom : ∀ {j : Nat} {at_ u q : Int}, j < f.blocks.length → dget (defsL 0 f.blocks) u = some ((j : Int), q) → (∃ l, Way (splitF f).blocks l i) → (j = i ∧ q ≤ at_ ∨ j ≠ i ∧ Doms (splitF f).blocks j i) → fineF (defsL 0 f.blocks) (domF (splitF f).blocks) i at_ u = true := fun {j at_ u q} hj hg hw hor => by
      unfold fineF
      rw [hg]
      dsimp only
      rcases hor with ⟨rfl, h2⟩ | ⟨h1, h2⟩
      · simp [h2]
      · have hh : ((domF (splitF f).blocks).at i).has j = true := (has_iff hgpos hl hEg hw hil (by omega)).2 h2
        rw [Int.toNat_natCast, hh]
        have hne : ¬ (j : Int) = (i : Int) := fun e => h1 (by omega)
        simp [hne]
    rcases hget i c hi with ⟨b, to, hb, rfl, hto, hes⟩ | ⟨m, k, e, b, rfl, hx, rfl, hb, hm⟩
    · have hu := usesF_iff.1 fi.uses i b hb
      rw [Nat.zero_add] at hu
      have hin : i < f.blocks.length := (List.getElem?_eq_some_iff.1 hb).1
      have hfine : ∀ n u, fineF (defsL 0 f.blocks) (domF f.blocks) i n u = true → fineF (defsL 0 f.blocks) (domF (splitF f).blocks) i n u = true := fun n u hf => by
        obtain ⟨j, q, hj, hg, hor⟩ := hknow hin hf
        by_cases hr : ∃ l, Way (splitF f).blocks l i
        · refine hdom hj hg hr ?_
          exact (hor ((split_reach h hE hin).1 hr)).imp id fun h1 => ⟨h1.1, (split_doms h hE hj hin).2 h1.2⟩
        · exact hunseen hr (by rw [hg]; rfl)
      refine ⟨usesIns_imp hfine hu.1, ?_⟩
      have h2 := hu.2
      show usedF { b.term with to := to } (fineF _ _ i b.ins.length) = true
      unfold usedF at h2 ⊢
      dsimp only
      split at h2
      · cases h2
      · rename_i h1
        rw [if_neg (fun h3 => h1 ⟨h3.1, by
          cases hc : fineF (defsL 0 f.blocks) (domF f.blocks) i b.ins.length b.term.arg with
          | false => rfl
          | true => rw [hfine _ _ hc] at h3; exact absurd h3.2 (by decide)⟩)]
        rw [List.all_eq_true] at h2 ⊢
        intro e' he'
        rcases hes e' he' with h4 | ⟨m, e, _, rfl⟩
        · have := h2 e' h4
          rw [List.all_eq_true] at this ⊢
          exact fun u hu2 => hfine _ u (this u hu2)
        · rfl
    · refine ⟨rfl, ?_⟩
      have hkl : k < f.blocks.length := (List.getElem?_eq_some_iff.1 hb).1
      have hu := (usesF_iff.1 fi.uses k b hb).2
      rw [Nat.zero_add] at hu
      have hall := (List.all_eq_true.1 (show b.term.to.all (fun e => e.args.all (fineF (defsL 0 f.blocks) (domF f.blocks) k b.ins.length)) = true by
        unfold usedF at hu
        split at hu
        · cases hu
        · exact hu)) e hm
      rw [List.all_eq_true] at hall
      show usedF ⟨1, 0, 0, [], [e]⟩ _ = true
      unfold usedF
      rw [if_neg (fun h3 => h3.1.1 rfl), List.all_eq_true]
      intro e' he'
      rw [List.mem_singleton.1 he', List.all_eq_true]
      intro u hu2
      obtain ⟨j, q, hj, hg, hor⟩ := hknow hkl (hall u hu2)
      by_cases hr : ∃ l, Way (splitF f).blocks l (f.blocks.length + m)
      · refine hdom hj hg hr (.inr ⟨by omega, fun l hw => .inr ?_⟩)
        obtain ⟨g1, l0, w0, s0⟩ := (split_way h hE hw).2 m k e rfl hx
        rcases hor ⟨l0, w0⟩ with ⟨rfl, _⟩ | ⟨_, hd⟩
        · exact g1
        · rcases hd l0 w0 with rfl | hd
          · exact g1
          · exact s0 j hd
      · exact hunseen hr (by rw [hg]; rfl)
end Go.SM
end
section
set_option linter.unusedVariables false
set_option linter.unusedSimpArgs false
set_option linter.unusedSectionVars false
namespace Go.SM
open Go.VL
def renT (r : Int → Int) (t : STerm) : STerm := { t with to := t.to.map fun e => ⟨r e.block, e.args⟩ }
structure Ren (u v : SUnit) (ρ : Int → Int → Int) (good : Int → Int → Prop) : Prop where
  main : v.main = u.main
  entry : ∀ k, entryOf v k = entryOf u k
  zero : ∀ fn, good fn 0 ∧ ρ fn 0 = 0
  blk : ∀ fn k, good fn k → (blockAt v fn (ρ fn k)).params = (blockAt u fn k).params ∧ (blockAt v fn (ρ fn k)).ins = (blockAt u fn k).ins ∧ (blockAt v fn (ρ fn k)).term = renT (ρ fn) (blockAt u fn k).term ∧ ∀ e ∈ (blockAt u fn k).term.to, good fn e.block
def wst (s : List MFrame) (M : Mach) : Mach := { M with stack := s }
section
variable {u v : SUnit} {ρ : Int → Int → Int} {good : Int → Int → Prop} (h : Ren u v ρ good)
end
end Go.SM
end
section
set_option linter.unusedVariables false
set_option linter.unusedSimpArgs false
set_option linter.unusedSectionVars false
namespace Go.SM
open Go.VL
def splitU (u : SUnit) : SUnit := ⟨u.fns.map splitF, u.main⟩
theorem fns_ok {u : SUnit} (h : unitF u = 0) : ∀ f ∈ u.fns, funcF f = 0 := by
  unfold unitF at h
  split at h
  · cases h
  · split at h
    · cases h
    · split at h
      · cases h
      · split at h
        · rename_i hn; exact absurd h hn
        · rename_i hn
          exact firstE_ok (Decidable.not_not.1 hn)
theorem firstE_zero {α : Type} {f : α → Int} : ∀ {l : List α}, (∀ x ∈ l, f x = 0) → firstE f l = 0
  | [], _ => rfl
  | x :: l, h => by
    rw [firstE, if_neg (fun hn => hn (h x (List.mem_cons_self ..)))]
    exact firstE_zero fun y hy => h y (List.mem_cons_of_mem _ hy)
theorem split_params {f : SFunc} {v : Int} (h0 : 0 ≤ v) (h : v < f.blocks.length) : paramsOf (splitF f).blocks v = paramsOf f.blocks v := by
  obtain ⟨b, hb⟩ := get_of_lt f.blocks v.toNat (by omega)
  obtain ⟨to, g1, _⟩ := (split_is f).old _ b hb
  rw [paramsOf_get g1, paramsOf_get hb]
  rfl
theorem splitU_get (u : SUnit) (k : Int) : (splitU u).fns[k.toNat]? = (u.fns[k.toNat]?).map splitF := List.getElem?_map ..
theorem splitU_entry {u : SUnit} (hf : ∀ f ∈ u.fns, funcF f = 0) (k : Int) : entryOf (splitU u) k = entryOf u k := by
  unfold entryOf
  rw [splitU_get]
  cases h : u.fns[k.toNat]? with
  | none => rfl
  | some f => exact split_params (Int.le_refl _) (by have := (func_ok (hf f (List.mem_of_getElem? h))).pos; omega)
theorem split_unit {u : SUnit} (h : unitF u = 0) (hl : ∀ f ∈ u.fns, (splitF f).blocks.length ≤ 128) : unitF (splitU u) = 0 := by
  have hf := fns_ok h
  have hl1 : (splitU u).fns.length = u.fns.length := List.length_map ..
  have hc : ∀ i, callF (splitU u) i = callF u i := fun i => by
    unfold callF
    rw [hl1, splitU_entry hf]
  have hcalls : callsF u = 0 → callsF (splitU u) = 0 := fun hcu => by
    refine firstE_zero fun g hg => ?_
    obtain ⟨f, hfm, rfl⟩ := List.mem_map.1 hg
    have h1 := firstE_ok hcu f hfm
    have hs := split_is f
    refine firstE_zero fun c hcm => ?_
    obtain ⟨i, hi⟩ := List.getElem?_of_mem hcm
    have hil := (List.getElem?_eq_some_iff.1 hi).1
    by_cases hin : i < f.blocks.length
    · obtain ⟨b, hb⟩ := get_of_lt f.blocks i (by omega)
      obtain ⟨to, g1, _⟩ := hs.old i b hb
      rw [hi] at g1
      injection g1 with g1
      subst g1
      have h2 := firstE_ok h1 b (List.mem_of_getElem? hb)
      exact firstE_zero fun x hx => (hc x).trans (firstE_ok h2 x hx)
    · obtain ⟨⟨k, e⟩, hx⟩ := get_of_lt (splitP f).2 (i - f.blocks.length) (by have := hs.len; omega)
      have g1 := (hs.new _ k e hx).1
      rw [show f.blocks.length + (i - f.blocks.length) = i by omega, hi] at g1
      injection g1 with g1
      subst g1
      rfl
  have hfn : firstE funcF (splitU u).fns = 0 := firstE_zero fun g hg => by
    obtain ⟨f, hfm, rfl⟩ := List.mem_map.1 hg
    exact split_ok (hf f hfm) (hl f hfm)
  have hm : (splitU u).main = u.main := rfl
  unfold unitF at h ⊢
  rw [hl1, hm, hfn, splitU_entry hf]
  split at h
  · cases h
  · rename_i g1
    rw [if_neg g1]
    split at h
    · cases h
    · rename_i g2
      rw [if_neg g2]
      split at h
      · cases h
      · rename_i g3
        rw [if_neg g3, if_neg (fun e => e rfl)]
        split at h
        · rename_i hn; exact absurd h hn
        · split at h
          · cases h
          · rename_i g5
            rw [if_neg g5]
            exact hcalls h
section
variable {u : SUnit} (hu : unitF u = 0)
include hu
theorem ins_split (f : MFrame) (i : SIns) (fs : List MFrame) (M : Mach) : insF (splitU u) f i fs M = insF u f i fs M := by
  have he := splitU_entry (fns_ok hu)
  have hen : ∀ n args to, enterF (splitU u) n args to M = enterF u n args to M := fun n args to => by
    unfold enterF entered
    rw [he]
  unfold insF
  dsimp only
  rw [hen, hen, he]
theorem follow_split {f : MFrame} {F : SFunc} {b : SBlock} {e : SEdge} (hF : u.fns[f.fn.toNat]? = some F) (hb : b ∈ F.blocks) (he : e ∈ b.term.to) : followF (splitU u) f e = followF u f e := by
  have hok := func_ok (fns_ok hu F (List.mem_of_getElem? hF))
  have hE := hok.edges b hb e he
  obtain ⟨c, hc⟩ := get_of_lt F.blocks e.block.toNat (by omega)
  obtain ⟨to, g1, _⟩ := (split_is F).old _ c hc
  unfold followF blockAt
  rw [splitU_get, hF]
  show ({ f with block := e.block, at_ := 0, vals := vputs f.vals (((splitF F).blocks[e.block.toNat]?).getD default).params (takeF f.vals e.args) } : MFrame) = { f with block := e.block, at_ := 0, vals := vputs f.vals ((F.blocks[e.block.toNat]?).getD default).params (takeF f.vals e.args) }
  rw [g1, hc]
  rfl
omit hu in
def StepRel (v : SUnit) (M X Y : Mach) : Prop := X = Y ∨ ∃ S', X = wst S' M ∧ Y.left = M.left ∧ Y.short = M.short ∧ Y.over = M.over ∧ ∀ c, stepF v (addL c (wst S' M)) = addL c Y
theorem step_split {M : Mach} (hM : MOk u M) : StepRel (splitU u) M (stepF (splitU u) M) (stepF u M) := by
  cases hst : M.stack with
  | nil =>
    refine .inl ?_
    unfold stepF
    rw [hst]
  | cons f fs =>
    obtain ⟨_, hb0, ⟨F, b, hF, hb, _, _⟩, _⟩ := hM.frames f (by rw [hst]; exact List.mem_cons_self ..)
    have h0 := fns_ok hu F (List.mem_of_getElem? hF)
    have hok := func_ok h0
    have hs := split_is F
    obtain ⟨to, g1, g2, g3⟩ := hs.old _ b hb
    have eb : blockAt u f.fn f.block = b := by
      unfold blockAt
      rw [hF]
      show (F.blocks[f.block.toNat]?).getD default = b
      rw [hb]; rfl
    have ec : blockAt (splitU u) f.fn f.block = setTo b to := by
      unfold blockAt
      rw [splitU_get, hF]
      show ((splitF F).blocks[f.block.toNat]?).getD default = setTo b to
      rw [g1]; rfl
    have hT : TermOk F b.term := ((unit_of hu).u).term F (List.mem_of_getElem? hF) b (List.mem_of_getElem? hb)
    unfold stepF
    rw [hst]
    dsimp only
    rw [eb, ec]
    show StepRel (splitU u) M (if f.at_ = (b.ins.length : Int) then termF (splitU u) f (setTo b to).term fs M else insF (splitU u) { f with at_ := f.at_ + 1 } (b.ins[f.at_.toNat]?.getD default) fs { M with stack := { f with at_ := f.at_ + 1 } :: fs }) _
    by_cases h1 : f.at_ = (b.ins.length : Int)
    · rw [if_pos h1, if_pos h1]
      -- the edges
      have key : ∀ k : Nat, k < b.term.to.length → ({ M with stack := followF (splitU u) f (edgeAt (setTo b to).term k) :: fs } : Mach) = { M with stack := followF u f (edgeAt b.term k) :: fs } ∨ ∃ S', ({ M with stack := followF (splitU u) f (edgeAt (setTo b to).term k) :: fs } : Mach) = wst S' M ∧ ∀ c, stepF (splitU u) (addL c (wst S' M)) = addL c { M with stack := followF u f (edgeAt b.term k) :: fs } := fun k hk => by
        obtain ⟨e, he⟩ := get_of_lt b.term.to k (by omega)
        have e1 : edgeAt b.term k = e := by unfold edgeAt; rw [he]; rfl
        have hfl := follow_split hu hF (List.mem_of_getElem? hb) (List.mem_of_getElem? he)
        rcases g3 k e he with g | ⟨m, g4, g5⟩
        · have e2 : edgeAt (setTo b to).term k = e := by
            show (to[k]?).getD default = e
            rw [g]; rfl
          rw [e1, e2, hfl]
          exact .inl rfl
        · have e2 : edgeAt (setTo b to).term k = ⟨((F.blocks.length + m : Nat) : Int), []⟩ := by
            show (to[k]?).getD default = _
            rw [g5]; rfl
          have hn := (hs.new m _ e g4).1
          have ej : blockAt (splitU u) f.fn ((F.blocks.length + m : Nat) : Int) = jumpB e := by
            unfold blockAt
            rw [splitU_get, hF]
            show ((splitF F).blocks[(((F.blocks.length + m : Nat) : Int)).toNat]?).getD default = _
            rw [Int.toNat_natCast, hn]; rfl
          have e3 : followF (splitU u) f ⟨((F.blocks.length + m : Nat) : Int), []⟩ = { f with block := ((F.blocks.length + m : Nat) : Int), at_ := 0 } := by
            unfold followF
            dsimp only
            rw [ej]
            rfl
          rw [e1, e2, e3]
          refine .inr ⟨_, rfl, fun c => ?_⟩
          unfold stepF
          show (if (0 : Int) = ((blockAt (splitU u) f.fn ((F.blocks.length + m : Nat) : Int)).ins.length : Int) then termF (splitU u) { f with block := ((F.blocks.length + m : Nat) : Int), at_ := 0 } (blockAt (splitU u) f.fn ((F.blocks.length + m : Nat) : Int)).term fs (addL c (wst ({ f with block := ((F.blocks.length + m : Nat) : Int), at_ := 0 } :: fs) M)) else _) = _
          rw [ej, if_pos (show (0 : Int) = ((jumpB e).ins.length : Int) from rfl)]
          have e4 : followF (splitU u) { f with block := ((F.blocks.length + m : Nat) : Int), at_ := 0 } e = followF u f e := by
            have h5 := follow_split hu (f := { f with block := ((F.blocks.length + m : Nat) : Int), at_ := 0 }) hF (List.mem_of_getElem? hb) (List.mem_of_getElem? he)
            rw [h5]
            rfl
          show termF (splitU u) { f with block := ((F.blocks.length + m : Nat) : Int), at_ := 0 } ⟨1, 0, 0, [], [e]⟩ fs _ = _
          unfold termF
          rw [if_neg (show ¬ (1 : Int) = 4 by decide), if_pos rfl]
          show ({ addL c (wst _ M) with stack := followF (splitU u) { f with block := ((F.blocks.length + m : Nat) : Int), at_ := 0 } e :: fs } : Mach) = _
          rw [e4]
          rfl
      unfold termF
      show StepRel (splitU u) M (if b.term.kind = 4 then stopF b.term.n 0 M else if b.term.kind = 1 then { M with stack := followF (splitU u) f (edgeAt (setTo b to).term 0) :: fs } else if b.term.kind = 0 then leaveF f (vget f.vals b.term.arg) fs M else if (vget f.vals b.term.arg).kind ≠ 0 then stopF 5 0 M else { M with stack := followF (splitU u) f (edgeAt (setTo b to).term (choiceF b.term (vget f.vals b.term.arg).n).toNat) :: fs }) _
      by_cases k4 : b.term.kind = 4
      · rw [if_pos k4, if_pos k4]; exact .inl rfl
      · rw [if_neg k4, if_neg k4]
        by_cases k1 : b.term.kind = 1
        · rw [if_pos k1, if_pos k1]
          rcases key 0 (hT.one k1) with h2 | ⟨S', h2, h3⟩
          · exact .inl h2
          · exact .inr ⟨S', h2, rfl, rfl, rfl, h3⟩
        · rw [if_neg k1, if_neg k1]
          by_cases k0 : b.term.kind = 0
          · rw [if_pos k0, if_pos k0]; exact .inl rfl
          · rw [if_neg k0, if_neg k0]
            by_cases kw : (vget f.vals b.term.arg).kind ≠ 0
            · rw [if_pos kw, if_pos kw]; exact .inl rfl
            · rw [if_neg kw, if_neg kw]
              have hch := choice_lt hT (vget f.vals b.term.arg).n k0 k1 k4
              rcases key (choiceF b.term (vget f.vals b.term.arg).n).toNat (by omega) with h2 | ⟨S', h2, h3⟩
              · exact .inl h2
              · exact .inr ⟨S', h2, rfl, rfl, rfl, h3⟩
    · rw [if_neg h1, if_neg h1]
      exact .inl (ins_split hu ..)
theorem go_split : ∀ (n : Nat) (M : Mach) (d : Int), M.short = false → M.over = false → Good u M → (goF u n M).over = true → (goF u n M).short = false → M.left ≤ d → ∀ N : Nat, 2 * n ≤ N → ∃ d', goF (splitU u) N (addL d M) = addL d' (goF u n M)
  | 0, M, d, hs, ho, hg, hov, _, _, _, _ => by
    have hov : M.over = true := hov
    rw [ho] at hov
    cases hov
  | n + 1, M, d, hs, ho, hg, hov, hsh, hd, N, hN => by
    obtain ⟨N, rfl⟩ : ∃ j, N = j + 2 := ⟨N - 2, by omega⟩
    have hU := (unit_of hu).u
    cases hp : (payF 1 M).short with
    | true =>
      rw [goF_short ho n hp] at hsh
      rw [hp] at hsh
      cases hsh
    | false =>
      obtain ⟨e1, hl1⟩ := payF_ok hp
      rw [goF_step ho n hp, e1] at hov hsh ⊢
      have hg2 := good_step hU hg ho hl1
      have hM1 : MOk u { M with left := M.left - 1 } := by
        have := hg.1
        exact ⟨this.frames, this.heap, this.out, by show 0 ≤ M.left - 1; omega, by have h9 := this.left; show M.left - 1 + (M.stack.length : Int) ≤ 1000001; omega⟩
      have hs1 : ({ M with left := M.left - 1 } : Mach).short = false := hs
      have ho1 : ({ M with left := M.left - 1 } : Mach).over = false := ho
      generalize hM1e : ({ M with left := M.left - 1 } : Mach) = M1 at hov hsh hg2 hM1 hs1 ho1 ⊢
      have hl : M1.left = M.left - 1 := by rw [← hM1e]
      have hs2 : (stepF u M1).short = false := by
        cases hx : (stepF u M1).short with
        | false => rfl
        | true => rw [goF_over (step_short hs1 hx), hx] at hsh; cases hsh
      have hl0 := hg2.1.left0
      have hl2 := step_left u M1
      -- the first step of the split unit
      have oA : (addL d M).over = false := ho
      have pA : payF 1 (addL d M) = addL d M1 := by
        unfold payF
        rw [if_neg (by show ¬ M.left + d < 1; omega), ← hM1e]
        show ({ addL d M with left := M.left + d - 1 } : Mach) = { addL d M with left := M.left - 1 + d }
        rw [show M.left + d - 1 = M.left - 1 + d by omega]
      have sA : (payF 1 (addL d M)).short = false := by rw [pA]; exact hs1
      rw [goF_step oA (N + 1) sA, pA]
      have fin : ∀ (d2 : Int) (N2 : Nat), (stepF u M1).left ≤ d2 → 2 * n ≤ N2 → ∃ d', goF (splitU u) N2 (addL d2 (stepF u M1)) = addL d' (goF u n (stepF u M1)) := fun d2 N2 hd2 hN2 => by
        cases ho2 : (stepF u M1).over with
        | true =>
          rw [goF_over ho2, goF_over (M := addL d2 (stepF u M1)) ho2]
          exact ⟨d2, rfl⟩
        | false => exact go_split n _ d2 hs2 ho2 hg2 hov hsh hd2 N2 hN2
      rcases step_split hu hM1 with h1 | ⟨S', h1, h2, h3, h4, h5⟩
      · have h6 := (step_addL (u := splitU u) (d := d) hs1 (by rw [h1]; exact hs2) (by omega)).1 (by rw [h1]; omega)
        rw [h6, h1]
        exact fin d _ (by omega) (by omega)
      · have h6 := (step_addL (u := splitU u) (d := d) hs1 (by rw [h1]; exact hs1) (by omega)).1 (by rw [h1]; show 0 ≤ M1.left + d; omega)
        rw [h6, h1]
        have oB : (addL d (wst S' M1)).over = false := ho1
        have pB : payF 1 (addL d (wst S' M1)) = addL (d - 1) (wst S' M1) := by
          unfold payF
          rw [if_neg (by show ¬ M1.left + d < 1; omega)]
          show ({ addL d (wst S' M1) with left := M1.left + d - 1 } : Mach) = { addL d (wst S' M1) with left := M1.left + (d - 1) }
          rw [show M1.left + d - 1 = M1.left + (d - 1) by omega]
        have sB : (payF 1 (addL d (wst S' M1))).short = false := by rw [pB]; exact hs1
        rw [goF_step oB N sB, pB, h5]
        exact fin (d - 1) _ (by omega) (by omega)
theorem split_run (hv : unitF (splitU u) = 0) {a b : Int} (h : (runF u a).2.2 = 0) (hb : 2 * a ≤ b) (hb2 : b ≤ 1000000) (hab : 2 * (a + 1) ≤ b + 1) : (runF (splitU u) b).2.2 = 0 ∧ (runF (splitU u) b).1 = (runF u a).1 := by
  obtain ⟨_, h1, h2⟩ := run_ok h
  have hU := (unit_of hu).u
  rw [run_perform hu h1 h2] at h ⊢
  rw [run_perform hv (by omega) hb2]
  rw [perform_eq] at h ⊢
  rw [perform_eq]
  have hsh : (goF u (a.toNat + 1) (startF u a)).short = false := by
    cases hx : (goF u (a.toNat + 1) (startF u a)).short with
    | false => rfl
    | true => rw [hx, if_pos rfl] at h; cases h
  have hg := good_start hU (fuel := a) (by omega) h2
  have hov : (goF u (a.toNat + 1) (startF u a)).over = true := goF_end hU _ _ hg (fun _ => rfl) (by show a + 1 ≤ _; omega)
  have hst : startF (splitU u) b = addL (b - a) (startF u a) := by
    rw [start_addL, show a + (b - a) = b by omega]
    unfold startF enterF entered
    rw [splitU_entry (fns_ok hu)]
    rfl
  obtain ⟨d', hd'⟩ := go_split hu (a.toNat + 1) (startF u a) (b - a) rfl rfl hg hov hsh (by show a ≤ b - a; omega) (b.toNat + 1) (by omega)
  have hsh2 : (addL d' (goF u (a.toNat + 1) (startF u a))).short = false := hsh
  rw [hst, hd', hsh, hsh2]
  exact ⟨rfl, rfl⟩
end
end Go.SM
end
section
set_option linter.unusedVariables false
set_option linter.unusedSimpArgs false
namespace Go.SM
open Go.VL
def cntE (t : Nat) (l : List SEdge) : Nat := l.countP fun e => decide (e.block.toNat = t)
def cntB (t : Nat) : List SBlock → Nat
  | [] => 0
  | b :: l => cntE t b.term.to + cntB t l
def cntX (t : Nat) (X : Cut) : Nat := X.countP fun x => decide (x.2.block.toNat = t)
theorem cntE_cons (t : Nat) (e : SEdge) (l : List SEdge) : cntE t (e :: l) = cntE t l + if e.block.toNat = t then 1 else 0 := by
  unfold cntE
  rw [List.countP_cons]
  simp
theorem cntB_append (t : Nat) : ∀ a b : List SBlock, cntB t (a ++ b) = cntB t a + cntB t b
  | [], b => by rw [List.nil_append, cntB, Nat.zero_add]
  | x :: a, b => by rw [List.cons_append, cntB, cntB, cntB_append t a b]; omega
theorem cntX_append (t : Nat) (X Y : Cut) : cntX t (X ++ Y) = cntX t X + cntX t Y := List.countP_append
theorem cntX_one (t k : Nat) (e : SEdge) : cntX t [(k, e)] = if e.block.toNat = t then 1 else 0 := by
  unfold cntX
  rw [List.countP_singleton]
  simp
theorem predE_cnt {k t : Nat} {P : List (List Int)} {e : SEdge} (ht : t < P.length) : ((predE k P e)[t]?.getD []).length = (P[t]?.getD []).length + if e.block.toNat = t then 1 else 0 := by
  unfold predE
  rw [List.getElem?_set]
  by_cases h : e.block.toNat = t
  · rw [if_pos h, if_pos h, if_pos (by omega), Option.getD_some, List.length_append, h]
    rfl
  · rw [if_neg h, if_neg h, Nat.add_zero]
theorem foldE_cnt {k t : Nat} : ∀ {l : List SEdge} {P : List (List Int)}, t < P.length → ((l.foldl (predE k) P)[t]?.getD []).length = (P[t]?.getD []).length + cntE t l
  | [], P, _ => rfl
  | e :: l, P, ht => by rw [List.foldl_cons, foldE_cnt (by rw [predE_len]; exact ht), predE_cnt ht, cntE_cons]; omega
theorem predL_cnt {t : Nat} : ∀ {l : List SBlock} {k : Nat} {P : List (List Int)}, t < P.length → ((predL k l P)[t]?.getD []).length = (P[t]?.getD []).length + cntB t l
  | [], k, P, _ => rfl
  | b :: l, k, P, ht => by rw [predL, predL_cnt (by rw [predB, foldl_len]; exact ht), predB, foldE_cnt ht, cntB]; omega
theorem preds_cnt {bs : List SBlock} {t : Nat} (ht : t < bs.length) : ((predsF bs)[t]?.getD []).length = cntB t bs := by
  unfold predsF
  rw [predL_cnt (by rw [List.length_replicate]; exact ht), List.getElem?_replicate, if_pos ht]
  simp
theorem spE_cnt (c : SEdge → Bool) {n t : Nat} (k : Nat) (ht : t < n) : ∀ (l : List SEdge) (X : Cut), cntE t (spE c n k l X).1 + cntX t (spE c n k l X).2 = cntE t l + cntX t X
  | [], X => rfl
  | e :: l, X => by
    rw [spE]
    split
    · dsimp only
      have h := spE_cnt c k ht l (X ++ [(k, e)])
      rw [cntX_append, cntX_one] at h
      rw [cntE_cons, cntE_cons, if_neg (by dsimp only; omega)]
      omega
    · dsimp only
      have h := spE_cnt c k ht l X
      rw [cntE_cons, cntE_cons]
      omega
theorem spB_cnt (c : SBlock → SEdge → Bool) {n t : Nat} (ht : t < n) : ∀ (l : List SBlock) (k : Nat) (X : Cut), cntB t (spB c n k l X).1 + cntX t (spB c n k l X).2 = cntB t l + cntX t X
  | [], k, X => rfl
  | b :: l, k, X => by
    rw [spB]
    dsimp only
    rw [cntB, cntB]
    have h1 := spE_cnt (c b) k ht b.term.to X
    have h2 := spB_cnt c ht l (k + 1) (spE (c b) n k b.term.to X).2
    show cntE t (spE (c b) n k b.term.to X).1 + _ + _ = _
    omega
theorem jump_cnt (t : Nat) : ∀ E : Cut, cntB t (E.map fun x => jumpB x.2) = cntX t E
  | [] => rfl
  | (k, e) :: E => by
    have h : (k, e) :: E = [(k, e)] ++ E := rfl
    rw [List.map_cons, cntB, jump_cnt t E, h, cntX_append, cntX_one]
    show cntE t [e] + _ = _
    rw [cntE_cons]
    show 0 + _ + _ = _
    omega
theorem spE_new (c : SEdge → Bool) {n : Nat} (k j : Nat) : ∀ (l : List SEdge) (X : Cut), (∀ e ∈ l, e.block.toNat < n) → cntE (n + j) (spE c n k l X).1 ≤ if X.length ≤ j ∧ j < (spE c n k l X).2.length then 1 else 0
  | [], X, _ => Nat.zero_le _
  | e :: l, X, h => by
    have he := h e (List.mem_cons_self ..)
    have hl : ∀ e ∈ l, e.block.toNat < n := fun x hx => h x (List.mem_cons_of_mem _ hx)
    rw [spE]
    split
    · dsimp only
      have h1 := spE_new c k j l (X ++ [(k, e)]) hl
      obtain ⟨Y, h2, _⟩ := spE_pre c n k l (X ++ [(k, e)])
      have h3 : (spE c n k l (X ++ [(k, e)])).2.length = X.length + 1 + Y.length := by rw [h2, List.length_append, List.length_append]; rfl
      rw [h3] at h1 ⊢
      rw [List.length_append, List.length_singleton] at h1
      rw [cntE_cons]
      dsimp only
      split at h1 <;> split <;> split <;> omega
    · dsimp only
      have h1 := spE_new c k j l X hl
      rw [cntE_cons, if_neg (by omega)]
      exact h1
theorem spB_new (c : SBlock → SEdge → Bool) {n : Nat} (j : Nat) : ∀ (l : List SBlock) (k : Nat) (X : Cut), (∀ b ∈ l, ∀ e ∈ b.term.to, e.block.toNat < n) → cntB (n + j) (spB c n k l X).1 ≤ if X.length ≤ j ∧ j < (spB c n k l X).2.length then 1 else 0
  | [], k, X, _ => Nat.zero_le _
  | b :: l, k, X, h => by
    rw [spB]
    dsimp only
    rw [cntB]
    have h1 := spE_new (c b) (n := n) k j b.term.to X (h b (List.mem_cons_self ..))
    have h2 := spB_new c (n := n) j l (k + 1) (spE (c b) n k b.term.to X).2 fun x hx => h x (List.mem_cons_of_mem _ hx)
    obtain ⟨Y, h3, _⟩ := spE_pre (c b) n k b.term.to X
    obtain ⟨Z, h4, _⟩ := spB_pre c n l (k + 1) (spE (c b) n k b.term.to X).2
    have h5 : (spE (c b) n k b.term.to X).2.length = X.length + Y.length := by rw [h3, List.length_append]
    have h6 : (spB c n (k + 1) l (spE (c b) n k b.term.to X).2).2.length = X.length + Y.length + Z.length := by rw [h4, List.length_append, h5]
    rw [h6] at h2 ⊢
    rw [h5] at h1 h2
    show cntE (n + j) (spE (c b) n k b.term.to X).1 + _ ≤ _
    split at h1 <;> split at h2 <;> split <;> omega
theorem jump_new {n j : Nat} : ∀ E : Cut, (∀ x ∈ E, x.2.block.toNat < n) → cntX (n + j) E = 0
  | [], _ => rfl
  | (k, e) :: E, h => by
    have h1 : (k, e) :: E = [(k, e)] ++ E := rfl
    have h2 := h (k, e) (List.mem_cons_self ..)
    rw [h1, cntX_append, cntX_one, if_neg (by dsimp only at h2; omega), jump_new E fun x hx => h x (List.mem_cons_of_mem _ hx)]
section
variable {f : SFunc} (hf : FuncOk f)
include hf
omit hf in
theorem split_cnt {t : Nat} (ht : t < f.blocks.length) : cntB t (splitF f).blocks = cntB t f.blocks := by
  have h := spB_cnt (critB f.blocks) ht f.blocks 0 []
  unfold splitF
  dsimp only
  rw [cntB_append, jump_cnt]
  have e : cntX t [] = 0 := rfl
  rw [e] at h
  exact h
theorem split_new {j : Nat} : cntB (f.blocks.length + j) (splitF f).blocks ≤ 1 := by
  have hE := hf.edges
  have h1 := spB_new (critB f.blocks) (n := f.blocks.length) j f.blocks 0 [] fun b hb e he => by have := hE b hb e he; omega
  unfold splitF
  dsimp only
  rw [cntB_append, jump_cnt, jump_new]
  · show cntB _ (spB (critB f.blocks) f.blocks.length 0 f.blocks []).1 + 0 ≤ 1
    split at h1 <;> omega
  · intro x hx
    obtain ⟨Y, h2, h3⟩ := spB_pre (critB f.blocks) f.blocks.length f.blocks 0 []
    have hx : x ∈ (spB (critB f.blocks) f.blocks.length 0 f.blocks []).2 := hx
    rw [h2] at hx
    obtain ⟨i, b, hb, _, hm⟩ := h3 x hx
    have := hE b (List.mem_of_getElem? hb) x.2 hm
    omega
end
theorem spE_keep (c : SEdge → Bool) (n k : Nat) : ∀ (l : List SEdge) (X : Cut), ∀ x ∈ (spE c n k l X).1, (x ∈ l ∧ c x = false) ∨ ∃ m, x = ⟨((n + m : Nat) : Int), []⟩
  | [], X, x, hx => by cases hx
  | e :: l, X, x, hx => by
    rw [spE] at hx
    split at hx
    · rcases List.mem_cons.1 hx with rfl | hx
      · exact .inr ⟨_, rfl⟩
      · exact (spE_keep c n k l _ x hx).imp (fun h => ⟨List.mem_cons_of_mem _ h.1, h.2⟩) id
    · rename_i hc
      rcases List.mem_cons.1 hx with rfl | hx
      · exact .inl ⟨List.mem_cons_self .., by simpa using hc⟩
      · exact (spE_keep c n k l _ x hx).imp (fun h => ⟨List.mem_cons_of_mem _ h.1, h.2⟩) id
theorem spB_keep (c : SBlock → SEdge → Bool) (n : Nat) : ∀ (l : List SBlock) (k : Nat) (X : Cut), ∀ y ∈ (spB c n k l X).1, ∃ b ∈ l, ∃ to, y = setTo b to ∧ to.length = b.term.to.length ∧ ∀ x ∈ to, (x ∈ b.term.to ∧ c b x = false) ∨ ∃ m, x = ⟨((n + m : Nat) : Int), []⟩
  | [], k, X, y, hy => by cases hy
  | b :: l, k, X, y, hy => by
    rw [spB] at hy
    rcases List.mem_cons.1 hy with rfl | hy
    · exact ⟨b, List.mem_cons_self .., _, rfl, spE_len .., spE_keep (c b) n k b.term.to X⟩
    · obtain ⟨d, hd, h⟩ := spB_keep c n l (k + 1) _ y hy
      exact ⟨d, List.mem_cons_of_mem _ hd, h⟩
theorem split_crit {f : SFunc} (h0 : funcF f = 0) (hl : (splitF f).blocks.length ≤ 128) : ∀ c ∈ (splitF f).blocks, ∀ x ∈ c.term.to, critB (splitF f).blocks c x = false := fun c hc x hx => by
  have hok := func_ok h0
  have gok := func_ok (split_ok h0 hl)
  have hgE := gok.edges c hc x hx
  have key : (c.term.to.length : Int) < 2 ∨ (((predsF (splitF f).blocks)[x.block.toNat]?.getD []).length : Int) < 2 := by
    rw [preds_cnt (by omega)]
    have hc2 := hc
    unfold splitF at hc2
    rcases List.mem_append.1 hc2 with h1 | h1
    · obtain ⟨b, hb, to, rfl, hto, h2⟩ := spB_keep (critB f.blocks) f.blocks.length f.blocks 0 [] c h1
      have hx : x ∈ to := hx
      rcases h2 x hx with ⟨h3, h4⟩ | ⟨m, rfl⟩
      · have hE := hok.edges b hb x h3
        unfold critB at h4
        rw [preds_cnt (by omega)] at h4
        have h5 : (b.term.to.length : Int) < 2 ∨ ((cntB x.block.toNat f.blocks : Nat) : Int) < 2 := by
          have h6 : 2 ≤ (b.term.to.length : Int) → ((cntB x.block.toNat f.blocks : Nat) : Int) < 2 := by simpa using h4
          by_cases h7 : (b.term.to.length : Int) < 2
          · exact .inl h7
          · exact .inr (h6 (by omega))
        rcases h5 with h5 | h5
        · left; show (to.length : Int) < 2; rw [hto]; exact h5
        · right
          rw [split_cnt (by omega)]
          exact h5
      · right
        have := split_new hok (j := m)
        rw [show (({ block := ((f.blocks.length + m : Nat) : Int), args := [] } : SEdge).block).toNat = f.blocks.length + m from Int.toNat_natCast _]
        omega
    · obtain ⟨y, _, rfl⟩ := List.mem_map.1 h1
      left
      show ((1 : Nat) : Int) < 2
      decide
  unfold critB
  rcases key with h | h
  · rw [decide_eq_true h]; rfl
  · rw [decide_eq_true h, Bool.or_true]; rfl
theorem spE_id (c : SEdge → Bool) (n k : Nat) : ∀ (l : List SEdge) (X : Cut), (∀ e ∈ l, c e = false) → spE c n k l X = (l, X)
  | [], X, _ => rfl
  | e :: l, X, h => by
    rw [spE, if_neg (by rw [h e (List.mem_cons_self ..)]; decide), spE_id c n k l X fun x hx => h x (List.mem_cons_of_mem _ hx)]
theorem spB_id (c : SBlock → SEdge → Bool) (n : Nat) : ∀ (l : List SBlock) (k : Nat) (X : Cut), (∀ b ∈ l, ∀ e ∈ b.term.to, c b e = false) → spB c n k l X = (l, X)
  | [], k, X, _ => rfl
  | b :: l, k, X, h => by
    rw [spB, spE_id (c b) n k b.term.to X (h b (List.mem_cons_self ..))]
    dsimp only
    rw [spB_id c n l (k + 1) X fun x hx => h x (List.mem_cons_of_mem _ hx)]
    rfl
theorem split_again {f : SFunc} (h0 : funcF f = 0) (hl : (splitF f).blocks.length ≤ 128) : splitF (splitF f) = splitF f := by
  have h := spB_id (critB (splitF f).blocks) (splitF f).blocks.length (splitF f).blocks 0 [] (split_crit h0 hl)
  have h2 : splitP (splitF f) = ((splitF f).blocks, []) := h
  show SFunc.mk (splitF f).name ((splitP (splitF f)).1 ++ (splitP (splitF f)).2.map fun x => jumpB x.2) = _
  rw [h2]
  show SFunc.mk (splitF f).name ((splitF f).blocks ++ []) = _
  rw [List.append_nil]
end Go.SM
end
