import Derived.Test.YtmmmgamhffbkbaaSZ
import Derived.Test.YtmmmgamhffbkbaaS2
section
set_option linter.unusedVariables false
namespace Go.SM
open Go.VL
def predE (k : Nat) (P : List (List Int)) (e : SEdge) : List (List Int) := P.set e.block.toNat ((P[e.block.toNat]?.getD []) ++ [(k : Int)])
def predB (k : Nat) (P : List (List Int)) (b : SBlock) : List (List Int) := b.term.to.foldl (predE k) P
def predL : Nat → List SBlock → List (List Int) → List (List Int)
  | _, [], P => P
  | k, b :: l, P => predL (k + 1) l (predB k P b)
def predsF (bs : List SBlock) : List (List Int) := predL 0 bs (List.replicate bs.length [])
def edgesN : List SBlock → Nat
  | [] => 0
  | b :: l => b.term.to.length + edgesN l
theorem term_edges {f : SFunc} (h : FuncOk f) {b : SBlock} (hb : b ∈ f.blocks) : b.term.to.length ≤ 257 := by
  have he := endF_ok (h.block hb).2
  have hm := he.many
  have hs := he.shape
  unfold shapeF at hs
  repeat' split at hs
  all_goals first | (simp only [Bool.and_eq_true, decide_eq_true_eq] at hs; omega) | cases hs
theorem FuncOk.edges {f : SFunc} (h : FuncOk f) : ∀ b ∈ f.blocks, ∀ e ∈ b.term.to, 1 ≤ e.block ∧ e.block < f.blocks.length := blocks_edges h.blocks
end Go.SM
end
section
set_option linter.unusedVariables false
set_option linter.unusedSimpArgs false
namespace Go.SM
open Go.VL
structure DState where
  seen : List Bool
  stack : List (Nat × Nat)
  out : List Nat
def toAt (bs : List SBlock) (b : Nat) : List SEdge := ((bs[b]?).map (·.term.to)).getD []
def Edge (bs : List SBlock) (p v : Nat) : Prop := ∃ x ∈ toAt bs p, x.block.toNat = v
def dfsStep (bs : List SBlock) (s : DState) : DState :=
  match s.stack with
  | [] => s
  | (b, e) :: st =>
    match (toAt bs b)[e]? with
    | none => ⟨s.seen, st, s.out ++ [b]⟩
    | some x => if s.seen[x.block.toNat]? = some false then ⟨s.seen.set x.block.toNat true, (x.block.toNat, 0) :: (b, e + 1) :: st, s.out⟩ else ⟨s.seen, (b, e + 1) :: st, s.out⟩
def dfsRun (bs : List SBlock) : Nat → DState → DState
  | 0, s => s
  | n + 1, s => if s.stack = [] then s else dfsRun bs n (dfsStep bs s)
def dfsStart (n : Nat) : DState := ⟨(List.replicate n false).set 0 true, [(0, 0)], []⟩
def postF (bs : List SBlock) : List Nat := (dfsRun bs (edgesN bs + bs.length) (dfsStart bs.length)).out
def orderF (bs : List SBlock) : List Nat := (postF bs).reverse
theorem toAt_get {bs : List SBlock} {k : Nat} {b : SBlock} (h : bs[k]? = some b) : toAt bs k = b.term.to := by rw [toAt, h]; rfl
structure DfsInv0 (bs : List SBlock) (s : DState) : Prop where
  len : s.seen.length = bs.length
  stk : ∀ x ∈ s.stack, x.1 < bs.length ∧ x.2 ≤ (toAt bs x.1).length ∧ s.seen[x.1]? = some true
def StackOk (bs : List SBlock) : List (Nat × Nat) → Prop
  | [] => True
  | [x] => x.1 = 0
  | x :: y :: st => Edge bs y.1 x.1 ∧ StackOk bs (y :: st)
def seenB (s : DState) (v : Nat) : Prop := s.seen[v]? = some true
structure DfsInv (bs : List SBlock) (s : DState) : Prop extends DfsInv0 bs s where
  out : ∀ v ∈ s.out, v < bs.length ∧ seenB s v
  nodup : (s.stack.map (·.1) ++ s.out).Nodup
  cover : ∀ v, seenB s v → v ∈ s.stack.map (·.1) ∨ v ∈ s.out
  closedO : ∀ v ∈ s.out, ∀ x ∈ toAt bs v, seenB s x.block.toNat
  closedS : ∀ y ∈ s.stack, ∀ i x, i < y.2 → (toAt bs y.1)[i]? = some x → seenB s x.block.toNat
  chain : StackOk bs s.stack
  par : ∀ (i v : Nat), s.out[i]? = some v → v ≠ 0 → ∃ p, Edge bs p v ∧ (p ∈ s.stack.map (·.1) ∨ ∃ j, i < j ∧ s.out[j]? = some p)
  root : s.stack = [] → ∃ l, s.out = l ++ [0]
theorem StackOk.tail {bs : List SBlock} {x : Nat × Nat} : ∀ {st : List (Nat × Nat)}, StackOk bs (x :: st) → StackOk bs st
  | [], _ => trivial
  | y :: st, h => h.2
theorem nodup_lt {l : List Nat} {n : Nat} (h : l.Nodup) (hr : ∀ v ∈ l, v < n) : l.length ≤ n := by
  have := h.length_le_of_subset (l₂ := List.range n) fun v hv => List.mem_range.2 (hr v hv)
  simpa using this
structure OrderOk (bs : List SBlock) (l : List Nat) : Prop where
  nodup : l.Nodup
  lt : ∀ v ∈ l, v < bs.length
  zero : l[0]? = some 0
  closed : ∀ v ∈ l, ∀ w, Edge bs v w → w ∈ l
  par : ∀ (j v : Nat), l[j]? = some v → v ≠ 0 → ∃ i p, i < j ∧ l[i]? = some p ∧ Edge bs p v
end Go.SM
end
section
set_option linter.unusedVariables false
set_option linter.unusedSimpArgs false
set_option linter.unusedSectionVars false
namespace Go.SM
open Go.VL
def gI (l : List Int) (i : Int) : Int := l[i.toNat]?.getD 0
def meetF (ov pl : List Int) : Nat → Int → Int → Int
  | 0, a, _ => a
  | n + 1, a, b => if a = b then a else if gI pl a > gI pl b then meetF ov pl n (gI ov a) b else meetF ov pl n a (gI ov b)
def skipP (ov pl : List Int) (p : Int) : Bool := decide (gI pl p < 0) || (decide (p ≠ 0) && decide (gI ov p < 0))
def nextL (ov pl : List Int) (m : Nat) : Int → List Int → Int
  | cur, [] => cur
  | cur, p :: ps => nextL ov pl m (if skipP ov pl p then cur else if cur < 0 then p else meetF ov pl m cur p) ps
def placeF (ord : List Int) (n : Nat) : List Int := (List.range n).map fun k : Nat => idxOf (fun x => decide ((k : Int) = x)) ord
structure TState where
  ov : List Int
  again : Bool
def ordZ (bs : List SBlock) : List Int := (orderF bs).map fun k : Nat => (k : Int)
def placeZ (bs : List SBlock) : List Int := placeF (ordZ bs) bs.length
theorem idx_nat {l : List Nat} {v : Nat} : idxOf (fun x => decide ((v : Int) = x)) (l.map fun k : Nat => (k : Int)) = -1 ∧ v ∉ l ∨ ∃ i, idxOf (fun x => decide ((v : Int) = x)) (l.map fun k : Nat => (k : Int)) = (i : Nat) ∧ l[i]? = some v := by
  rcases idxOf_range (fun x => decide ((v : Int) = x)) (l.map fun k : Nat => (k : Int)) with ⟨h1, h2⟩ | ⟨i, x, h1, h2, h3, _⟩
  · refine .inl ⟨h1, fun hm => ?_⟩
    rw [List.any_eq_false] at h2
    exact h2 (v : Int) (List.mem_map.2 ⟨v, hm, rfl⟩) (by simp)
  · refine .inr ⟨i, h1, ?_⟩
    rw [List.getElem?_map] at h2
    obtain ⟨w, hw, rfl⟩ := Option.map_eq_some_iff.1 h2
    rw [hw]
    have : (v : Int) = (w : Int) := by simpa using h3
    congr 1
    omega
theorem place_get {bs : List SBlock} {v : Nat} (hv : v < bs.length) : gI (placeZ bs) v = -1 ∧ v ∉ orderF bs ∨ ∃ i, gI (placeZ bs) v = (i : Nat) ∧ (orderF bs)[i]? = some v := by
  have : gI (placeZ bs) v = idxOf (fun x => decide ((v : Int) = x)) (ordZ bs) := by
    unfold gI placeZ placeF
    rw [Int.toNat_natCast, List.getElem?_map, List.getElem?_range hv]
    rfl
  rw [this]
  exact idx_nat
def pos (bs : List SBlock) (v : Nat) : Nat := (gI (placeZ bs) v).toNat
section
variable {bs : List SBlock} (ho : OrderOk bs (orderF bs))
include ho
theorem place_of {v : Nat} (hv : v ∈ orderF bs) : gI (placeZ bs) v = (pos bs v : Nat) ∧ (orderF bs)[pos bs v]? = some v := by
  rcases place_get (ho.lt v hv) with ⟨_, h⟩ | ⟨i, h1, h2⟩
  · exact absurd hv h
  · unfold pos
    rw [h1, Int.toNat_natCast]
    exact ⟨rfl, h2⟩
theorem pos_inj {v w : Nat} (hv : v ∈ orderF bs) (hw : w ∈ orderF bs) (h : pos bs v = pos bs w) : v = w := by
  have h1 := (place_of ho hv).2
  have h2 := (place_of ho hw).2
  rw [h, h2] at h1
  injection h1 with h1
  exact h1.symm
theorem pos_lt {v : Nat} (hv : v ∈ orderF bs) : pos bs v < bs.length := by
  have := (List.getElem?_eq_some_iff.1 (place_of ho hv).2).1
  have := nodup_lt ho.nodup ho.lt
  omega
open Classical in
omit ho in
noncomputable def pi (bs : List SBlock) (v : Nat) : Nat := if h : ∃ p, p ∈ orderF bs ∧ pos bs p < pos bs v ∧ Edge bs p v then Classical.choose h else 0
end
inductive Anc (ov : List Int) : Nat → Nat → Prop where
  | refl (a : Nat) : Anc ov a a
  | step {a q x : Nat} : ov[a]? = some (q : Int) → Anc ov q x → Anc ov a x
inductive AncP (bs : List SBlock) : Nat → Nat → Prop where
  | refl (a : Nat) : AncP bs a a
  | step {a x : Nat} : a ≠ 0 → AncP bs (pi bs a) x → AncP bs a x
theorem Anc.trans {ov : List Int} {a b c : Nat} (h : Anc ov a b) (k : Anc ov b c) : Anc ov a c := by
  induction h with
  | refl => exact k
  | step h _ ih => exact .step h (ih k)
structure Tree (bs : List SBlock) (ov : List Int) : Prop where
  len : ov.length = bs.length
  root : ov[0]? = some (-1)
  out : ∀ v, v < bs.length → v ∉ orderF bs → ov[v]? = some (-1)
  up : ∀ (v : Nat) (x : Int), v ∈ orderF bs → v ≠ 0 → ov[v]? = some x → 0 ≤ x → ∃ q : Nat, x = q ∧ q ∈ orderF bs ∧ pos bs q < pos bs v ∧ (q = 0 ∨ ∃ y : Int, ov[q]? = some y ∧ 0 ≤ y)
  low : ∀ (v : Nat) (x : Int), ov[v]? = some x → x < 0 → x = -1
def InT (bs : List SBlock) (ov : List Int) (v : Nat) : Prop := v ∈ orderF bs ∧ (v = 0 ∨ ∃ x : Int, ov[v]? = some x ∧ 0 ≤ x)
section
variable {bs : List SBlock} (ho : OrderOk bs (orderF bs)) {ov : List Int}
include ho
theorem Tree.parent (h : Tree bs ov) {v : Nat} (hv : InT bs ov v) (h0 : v ≠ 0) : ∃ q : Nat, ov[v]? = some (q : Int) ∧ InT bs ov q ∧ pos bs q < pos bs v := by
  obtain ⟨hm, hv⟩ := hv
  rcases hv with hv | ⟨x, hx, hx0⟩
  · exact absurd hv h0
  · obtain ⟨q, rfl, h1, h2, h3⟩ := h.up v x hm h0 hx hx0
    exact ⟨q, hx, ⟨h1, h3⟩, h2⟩
theorem Tree.anc (h : Tree bs ov) {v x : Nat} (hv : InT bs ov v) (ha : Anc ov v x) : InT bs ov x ∧ pos bs x ≤ pos bs v ∧ (x ≠ v → pos bs x < pos bs v) := by
  induction ha with
  | refl a => exact ⟨hv, Nat.le_refl _, fun h => absurd rfl h⟩
  | @step a q x hq _ ih =>
    by_cases h0 : a = 0
    · subst h0
      rw [h.root] at hq
      injection hq with hq
      omega
    · obtain ⟨q', hq', hi, hp⟩ := h.parent ho hv h0
      rw [hq] at hq'
      injection hq' with hq'
      have : q = q' := by omega
      subst this
      have := ih hi
      exact ⟨this.1, by omega, fun _ => by omega⟩
theorem Tree.zero (h : Tree bs ov) {x : Nat} (ha : Anc ov 0 x) : x = 0 := by
  cases ha with
  | refl => rfl
  | step hq _ =>
    rw [h.root] at hq
    injection hq with hq
    omega
theorem Tree.cases (h : Tree bs ov) {v q x : Nat} (hq : ov[v]? = some (q : Int)) (ha : Anc ov v x) : x = v ∨ Anc ov q x := by
  cases ha with
  | refl => exact .inl rfl
  | @step _ q' _ hq' k =>
    rw [hq] at hq'
    injection hq' with hq'
    have : q = q' := by omega
    subst this
    exact .inr k
theorem Tree.chain (h : Tree bs ov) {v x y : Nat} (hv : InT bs ov v) (hx : Anc ov v x) (hy : Anc ov v y) (hp : pos bs x ≤ pos bs y) : Anc ov y x := by
  induction hx with
  | refl a =>
    have := h.anc ho hv hy
    have : pos bs y = pos bs a := by omega
    rw [pos_inj ho (h.anc ho hv hy).1.1 hv.1 this]
    exact .refl _
  | @step a q x hq ha ih =>
    by_cases h0 : a = 0
    · subst h0
      rw [h.root] at hq
      injection hq with hq
      omega
    · obtain ⟨q', hq', hi, _⟩ := h.parent ho hv h0
      rw [hq] at hq'
      injection hq' with hq'
      have : q = q' := by omega
      subst this
      rcases h.cases ho hq hy with rfl | hy
      · exact .step hq ha
      · exact ih hi hy hp
theorem InT.fuel {v : Nat} (h : InT bs ov v) : pos bs v < bs.length := pos_lt ho h.1
end
end Go.SM
end
section
set_option linter.unusedVariables false
set_option linter.unusedSimpArgs false
set_option linter.unusedSectionVars false
namespace Go.SM
open Go.VL
structure TInv (bs : List SBlock) (ov : List Int) (i : Nat) : Prop where
  tree : Tree bs ov
  done : ∀ (j v : Nat), j < i → (orderF bs)[j]? = some v → InT bs ov v
  down : ∀ (v w : Nat), InT bs ov v → w ∈ orderF bs → pos bs w < pos bs v → InT bs ov w
  anc : ∀ (v x : Nat), InT bs ov v → Anc ov v x → AncP bs v x
  most : ∀ (v q : Nat), InT bs ov v → v ≠ 0 → ov[v]? = some (q : Int) → ∀ y, (∀ p, Edge bs p v → InT bs ov p → Anc ov p y) → pos bs y ≤ pos bs q
  past : ∀ (v : Nat), v ∈ orderF bs → pos bs v < i → ∀ q x, AncP bs v q → Anc ov v x → pos bs x ≤ pos bs q → Anc ov q x
theorem AncP.ne {bs : List SBlock} {v x : Nat} (h : AncP bs v x) (hx : x ≠ v) : v ≠ 0 ∧ AncP bs (pi bs v) x := by
  cases h with
  | refl => exact absurd rfl hx
  | step h0 k => exact ⟨h0, k⟩
def hW (bs : List SBlock) (x : Int) : Nat := if x < 0 then bs.length else pos bs x.toNat
section
variable {bs : List SBlock} (ho : OrderOk bs (orderF bs)) (hE : ∀ b ∈ bs, ∀ e ∈ b.term.to, 1 ≤ e.block ∧ e.block < bs.length) {ov : List Int}
include ho
structure TreeOk (bs : List SBlock) (ov : List Int) : Prop where
  inv : TInv bs ov 1
  all : ∀ v, v ∈ orderF bs → InT bs ov v
  fix : ∀ v, v ∈ orderF bs → v ≠ 0 → gI ov v = nextL ov (placeZ bs) (2 * bs.length + 1) (-1) ((predsF bs)[v]?.getD [])
end
end Go.SM
end
section
set_option linter.unusedVariables false
namespace Go.SM
open Go.VL
def withinF (n m : Int) : Int := if n.tmod m < 0 then n.tmod m + m else n.tmod m
theorem within_ok {n : Int} {m : Nat} (h : 0 < m) : ∃ k : Nat, withinF n m = k ∧ k < m := by
  have h1 : n.tmod m < m := Int.tmod_lt_of_pos _ (by omega)
  have h2 : -(m : Int) < n.tmod m := Int.lt_tmod_of_pos _ (by omega)
  unfold withinF
  split
  · exact ⟨(n.tmod m + m).toNat, by omega, by omega⟩
  · exact ⟨(n.tmod m).toNat, by omega, by omega⟩
end Go.SM
end
section
set_option linter.unusedVariables false
set_option linter.unusedSimpArgs false
set_option linter.unusedSectionVars false
namespace Go.SM
open Go.VL
section
variable {bs : List SBlock} (ho : OrderOk bs (orderF bs)) {ov : List Int}
include ho
structure Up (bs : List SBlock) (ov : List Int) (a : Nat) (l : List Int) (k : Int) (n : Nat) : Prop where
  len : l.length = n
  at_ : k = -1 ∨ ∃ v : Nat, k = v ∧ InT bs ov v ∧ n + pos bs v ≤ pos bs a
  mem : ∀ y : Nat, Anc ov a y ↔ (y : Int) ∈ l ∨ ∃ v : Nat, k = v ∧ Anc ov v y
  le : n ≤ bs.length
omit ho in
structure Climb (bs : List SBlock) (ov : List Int) (a b : Nat) (v n : Nat) : Prop where
  at_ : Anc ov b v
  bound : n + pos bs v ≤ pos bs b
  none : ∀ y, Anc ov b y → pos bs v < pos bs y → ¬ Anc ov a y
omit ho in
end
end Go.SM
end
section
set_option linter.unusedVariables false
set_option linter.unusedSimpArgs false
namespace Go.SM
open Go.VL
def reachL (f : SFunc) : List Int := (ordZ f.blocks).mergeSort fun x y => decide (x ≤ y)
section
variable {bs : List SBlock} (ho : OrderOk bs (orderF bs)) {ov : List Int}
include ho
end
end Go.SM
end
section
set_option linter.unusedVariables false
set_option linter.unusedSimpArgs false
namespace Go.SM
open Go.VL
section
variable {bs : List SBlock} (ho : OrderOk bs (orderF bs)) {ov : List Int}
include ho
end
end Go.SM
end
section
set_option linter.unusedVariables false
set_option linter.unusedSimpArgs false
namespace Go.SM
open Go.VL
theorem again_keep {n : Nat} {d d' : Dom} (h : StepW n d d') (ha : d'.again = false) : d' = d := by
  rcases h.2 with h | ⟨h, _⟩
  · exact h
  · rw [ha] at h; cases h
theorem edges_fix {n k : Nat} (hk : k < n) : ∀ {l : List SEdge} {d : Dom}, DomOk n d → (∀ e ∈ l, 1 ≤ e.block ∧ e.block < n) → (l.foldl (domEdge k) d).again = false → l.foldl (domEdge k) d = d ∧ ∀ e ∈ l, domEdge k d e = d
  | [], d, _, _, _ => ⟨rfl, fun e he => by cases he⟩
  | e :: l, d, ok, h, ha => by
    have h1 := domEdge_w ok hk (h e (List.mem_cons_self ..)).1 (h e (List.mem_cons_self ..)).2
    have hl := fun x hx => h x (List.mem_cons_of_mem e hx)
    have h2 := edges_w hk h1.1 hl
    rw [List.foldl_cons] at ha ⊢
    have e2 := again_keep h2 ha
    have e1 : domEdge k d e = d := again_keep h1 (by rw [← e2]; exact ha)
    rw [e1] at ha ⊢
    obtain ⟨g1, g2⟩ := edges_fix hk ok hl ha
    refine ⟨g1, fun x hx => ?_⟩
    rcases List.mem_cons.1 hx with rfl | hx
    · exact e1
    · exact g2 x hx
theorem block_fix {n k : Nat} {b : SBlock} {d : Dom} (hk : k < n) (ok : DomOk n d) (h : ∀ e ∈ b.term.to, 1 ≤ e.block ∧ e.block < n) (ha : (domBlock d k b).again = false) : domBlock d k b = d ∧ (d.seen.has k = true → ∀ e ∈ b.term.to, domEdge k d e = d) := by
  unfold domBlock at ha ⊢
  split
  · rename_i hs
    rw [if_pos hs] at ha
    obtain ⟨h1, h2⟩ := edges_fix hk ok h ha
    exact ⟨h1, fun _ => h2⟩
  · rename_i hs
    exact ⟨rfl, fun h => absurd h hs⟩
theorem pass_fix {n : Nat} : ∀ {l : List SBlock} {k : Nat} {d : Dom}, k + l.length = n → DomOk n d → (∀ b ∈ l, ∀ e ∈ b.term.to, 1 ≤ e.block ∧ e.block < n) → (domPass k l d).again = false →
    ∀ (j : Nat) (b : SBlock), l[j]? = some b → d.seen.has (k + j) = true → ∀ e ∈ b.term.to, domEdge (k + j) d e = d
  | [], k, d, _, _, _, _, j, b, hb => by simp at hb
  | c :: l, k, d, hl, ok, h, ha, j, b, hb => by
    have hl' : k + (l.length + 1) = n := hl
    have h1 := block_w (k := k) (by omega) ok (h c (List.mem_cons_self ..))
    have hr := fun x hx => h x (List.mem_cons_of_mem c hx)
    have h2 := pass_w (l := l) (k := k + 1) (by omega) h1.1 hr
    rw [domPass] at ha
    have e2 := again_keep h2 ha
    have ha1 : (domBlock d k c).again = false := by rw [← e2]; exact ha
    obtain ⟨e1, g⟩ := block_fix (by omega) ok (h c (List.mem_cons_self ..)) ha1
    rw [e1] at ha
    cases j with
    | zero =>
      simp at hb
      subst hb
      exact g
    | succ j =>
      simp at hb
      have := pass_fix (by omega) ok hr ha j b hb
      rwa [show k + 1 + j = k + (j + 1) by omega] at this
structure DomFix (bs : List SBlock) (d : Dom) : Prop where
  ok : DomOk bs.length d
  seen0 : d.seen.has 0 = true
  at0 : d.at 0 = BSet.with noSet 0
  fix : ∀ (k : Nat) (b : SBlock), bs[k]? = some b → d.seen.has k = true → ∀ e ∈ b.term.to, domEdge k d e = d
def DomZ (n : Nat) (d : Dom) : Prop := d.seen.has 0 = true ∧ d.at 0 = BSet.with noSet 0
theorem edge_z {n k : Nat} {d : Dom} {e : SEdge} (ok : DomOk n d) (h1 : 1 ≤ e.block) (h2 : e.block < n) (hz : DomZ n d) : DomZ n (domEdge k d e) := by
  unfold domEdge
  dsimp only
  have hn := ok.le
  split
  · refine ⟨?_, ?_⟩
    · rw [has_with _ (by omega) (by omega), hz.1]; rfl
    · rw [at_set (by rw [ok.len]; omega), if_neg (by omega)]; exact hz.2
  · exact hz
theorem edges_z {n k : Nat} (hk : k < n) : ∀ {l : List SEdge} {d : Dom}, DomOk n d → (∀ e ∈ l, 1 ≤ e.block ∧ e.block < n) → DomZ n d → DomZ n (l.foldl (domEdge k) d)
  | [], d, _, _, hz => hz
  | e :: l, d, ok, h, hz => by
    have he := h e (List.mem_cons_self ..)
    show DomZ n (l.foldl (domEdge k) (domEdge k d e))
    exact edges_z (l := l) hk (domEdge_w ok hk he.1 he.2).1 (fun x hx => h x (List.mem_cons_of_mem e hx)) (edge_z ok he.1 he.2 hz)
theorem block_z {n k : Nat} {b : SBlock} {d : Dom} (hk : k < n) (ok : DomOk n d) (h : ∀ e ∈ b.term.to, 1 ≤ e.block ∧ e.block < n) (hz : DomZ n d) : DomZ n (domBlock d k b) := by
  unfold domBlock
  split
  · exact edges_z hk ok h hz
  · exact hz
theorem pass_z {n : Nat} : ∀ {l : List SBlock} {k : Nat} {d : Dom}, k + l.length = n → DomOk n d → (∀ b ∈ l, ∀ e ∈ b.term.to, 1 ≤ e.block ∧ e.block < n) → DomZ n d → DomZ n (domPass k l d)
  | [], k, d, _, _, _, hz => hz
  | c :: l, k, d, hl, ok, h, hz => by
    have hl' : k + (l.length + 1) = n := hl
    show DomZ n (domPass (k + 1) l (domBlock d k c))
    exact pass_z (l := l) (by omega) (block_w (k := k) (by omega) ok (h c (List.mem_cons_self ..))).1 (fun x hx => h x (List.mem_cons_of_mem c hx)) (block_z (by omega) ok (h c (List.mem_cons_self ..)) hz)
theorem domIter_fix {bs : List SBlock} (h : ∀ b ∈ bs, ∀ e ∈ b.term.to, 1 ≤ e.block ∧ e.block < bs.length) : ∀ (n : Nat) (d : Dom), DomOk bs.length d → DomZ bs.length d → weight bs.length d + (if d.again then 1 else 0) ≤ n → (d.again = false → DomFix bs d) → DomFix bs (domIter bs n d)
  | 0, d, ok, hz, hw, hf => by
    cases ha : d.again with
    | false => exact hf ha
    | true => rw [ha, if_pos rfl] at hw; omega
  | n + 1, d, ok, hz, hw, hf => by
    cases ha : d.again with
    | false => rw [domIter, if_neg (by rw [ha]; decide)]; exact hf ha
    | true =>
      obtain ⟨n', e, h1, h2, h3⟩ := round ok h hw ha
      have : n = n' := by omega
      subst this
      have ok0 : DomOk bs.length { d with again := false } := ⟨ok.len, ok.le, ok.self⟩
      have hz1 : DomZ bs.length (domPass 0 bs { d with again := false }) := pass_z (by omega) ok0 h hz
      rw [h1]
      refine domIter_fix h n _ h2 hz1 h3 fun ha2 => ?_
      have e2 := again_keep (pass_w (l := bs) (k := 0) (by omega) ok0 h) ha2
      have hfx := pass_fix (l := bs) (k := 0) (by omega) ok0 h ha2
      rw [e2] at hz1 ⊢
      exact ⟨ok0, hz1.1, hz1.2, fun k b hb hs => by have := hfx k b hb (by rw [Nat.zero_add]; exact hs); rwa [Nat.zero_add] at this⟩
theorem dom_fix {bs : List SBlock} (h0 : 0 < bs.length) (hn : bs.length ≤ 128) (h : ∀ b ∈ bs, ∀ e ∈ b.term.to, 1 ≤ e.block ∧ e.block < bs.length) : DomFix bs (domF bs) := by
  refine domIter_fix h _ _ (start_ok h0 hn) ⟨?_, ?_⟩ ?_ fun h => by cases h
  · show (BSet.with noSet 0).has 0 = true
    rw [has_with _ (by omega) (by omega)]
    simp
  · unfold domStart Dom.at
    rw [List.getElem?_set, if_pos rfl, if_pos (by simpa using h0)]
    rfl
  · have := start_w bs.length
    have ha : (domStart bs.length).again = true := rfl
    rw [ha, if_pos rfl, domFuel]
    omega
inductive Way (bs : List SBlock) : List Nat → Nat → Prop where
  | start : Way bs [] 0
  | step {l : List Nat} {p k : Nat} : Way bs l p → Edge bs p k → Way bs (p :: l) k
theorem dom_way {bs : List SBlock} {d : Dom} (hd : DomFix bs d) (h : ∀ b ∈ bs, ∀ e ∈ b.term.to, 1 ≤ e.block ∧ e.block < bs.length) {l : List Nat} {k : Nat} (hw : Way bs l k) : d.seen.has k = true ∧ k < 128 ∧ ∀ j, j < 128 → (d.at k).has j = true → j = k ∨ j ∈ l := by
  induction hw with
  | start =>
    refine ⟨hd.seen0, by omega, fun j hj hh => ?_⟩
    rw [hd.at0, has_with _ (by omega) hj, has_no, Bool.false_or, decide_eq_true_eq] at hh
    exact .inl hh
  | @step l p k hw he ih =>
    obtain ⟨hs, hp, ih⟩ := ih
    obtain ⟨e, hem, rfl⟩ := he
    obtain ⟨b, hb, hem⟩ : ∃ b, bs[p]? = some b ∧ e ∈ b.term.to := by
      unfold toAt at hem
      cases hb : bs[p]? with
      | none => rw [hb] at hem; cases hem
      | some b => rw [hb] at hem; exact ⟨b, rfl, hem⟩
    have hr := h b (List.mem_of_getElem? hb) e hem
    have hn := hd.ok.le
    have ht : e.block.toNat < 128 := by omega
    have hfx := hd.fix p b hb hs e hem
    unfold domEdge at hfx
    dsimp only at hfx
    split at hfx
    · rename_i hc
      -- a change cannot leave all as it was
      exfalso
      have h1 : (d.over.set e.block.toNat (((d.at e.block.toNat).both (d.at p)).with e.block.toNat))[e.block.toNat]? = d.over[e.block.toNat]? := by
        have := congrArg Dom.over hfx
        dsimp only at this
        rw [this]
      have h2 := congrArg Dom.seen hfx
      dsimp only at h2
      rcases hc with hc | hc
      · rw [List.getElem?_set, if_pos rfl, if_pos (by rw [hd.ok.len]; omega)] at h1
        have h3 : d.at e.block.toNat = ((d.at e.block.toNat).both (d.at p)).with e.block.toNat := (congrArg (fun o : Option BSet => o.getD noSet) h1).symm
        exact hc h3.symm
      · rw [← h2, has_with _ ht ht] at hc
        simp at hc
    · rename_i hc
      rw [not_or] at hc
      obtain ⟨h1, h2⟩ := hc
      have h1 := Classical.not_not.1 h1
      refine ⟨by simpa using h2, ht, fun j hj hh => ?_⟩
      rw [← h1, has_with _ ht hj, has_both, Bool.or_eq_true, Bool.and_eq_true, decide_eq_true_eq] at hh
      rcases hh with hh | hh
      · rcases ih j hj hh.2 with h3 | h3
        · exact .inr (by rw [h3]; exact List.mem_cons_self ..)
        · exact .inr (List.mem_cons_of_mem _ h3)
      · exact .inl hh
end Go.SM
end
section
set_option linter.unusedVariables false
set_option linter.unusedSimpArgs false
set_option linter.unusedSectionVars false
namespace Go.SM
open Go.VL
def Doms (bs : List SBlock) (x v : Nat) : Prop := ∀ l, Way bs l v → x = v ∨ x ∈ l
theorem doms_pred {bs : List SBlock} {x p v : Nat} (h : Doms bs x v) (hx : x ≠ v) (he : Edge bs p v) : Doms bs x p := fun l hl => by
  rcases h _ (.step hl he) with e | e
  · exact absurd e hx
  · rcases List.mem_cons.1 e with e | e
    · exact .inl e
    · exact .inr e
section
variable {bs : List SBlock} (ho : OrderOk bs (orderF bs)) (hE : ∀ b ∈ bs, ∀ e ∈ b.term.to, 1 ≤ e.block ∧ e.block < bs.length) {ov : List Int}
include ho
end
end Go.SM
end
section
set_option linter.unusedVariables false
set_option linter.unusedSimpArgs false
namespace Go.SM
open Go.VL
structure DomMost (bs : List SBlock) (d : Dom) : Prop where
  most : ∀ k j : Nat, k < bs.length → j < bs.length → Doms bs j k → (d.at k).has j = true
  seen : ∀ k : Nat, k < 128 → d.seen.has k = true → ∃ l, Way bs l k
theorem most_start {bs : List SBlock} (h0 : 0 < bs.length) (hn : bs.length ≤ 128) : DomMost bs (domStart bs.length) := by
  refine ⟨fun k j hk hj hd => ?_, fun k hk hs => ?_⟩
  · unfold domStart Dom.at
    dsimp only
    rw [List.getElem?_set]
    split
    · rename_i e
      subst e
      rw [if_pos (by simpa using h0)]
      rcases hd [] .start with e | e
      · subst e
        show (BSet.with noSet 0).has 0 = true
        rw [has_with _ (by omega) (by omega)]
        simp
      · cases e
    · rw [List.getElem?_replicate, if_pos hk]
      show (allSet bs.length).has j = true
      rw [has_all _ hn j (by omega)]
      exact decide_eq_true hj
  · have hs : (BSet.with noSet 0).has k = true := hs
    rw [has_with _ (by omega) hk, has_no, Bool.false_or, decide_eq_true_eq] at hs
    subst hs
    exact ⟨[], .start⟩
theorem most_edge {bs : List SBlock} (hn : bs.length ≤ 128) {d : Dom} (ok : DomOk bs.length d) {k : Nat} {e : SEdge} (hk : k < bs.length) (he : e ∈ toAt bs k) (h1 : 1 ≤ e.block) (h2 : e.block < bs.length) (hs : d.seen.has k = true) (h : DomMost bs d) : DomMost bs (domEdge k d e) := by
  unfold domEdge
  dsimp only
  have hte : Edge bs k e.block.toNat := ⟨e, he, rfl⟩
  split
  · refine ⟨fun v j hv hj hd => ?_, fun v hv hsv => ?_⟩
    · rw [at_set (by rw [ok.len]; omega)]
      split
      · rename_i e1
        subst e1
        rw [has_with _ (by omega) (by omega), has_both]
        by_cases hjt : j = e.block.toNat
        · rw [decide_eq_true hjt, Bool.or_true]
        · rw [h.most _ j hv hj hd, h.most k j hk hj (doms_pred hd hjt hte)]
          rfl
      · exact h.most v j hv hj hd
    · have hsv : (d.seen.with e.block.toNat).has v = true := hsv
      rw [has_with _ (by omega) hv, Bool.or_eq_true, decide_eq_true_eq] at hsv
      rcases hsv with hsv | rfl
      · exact h.seen v hv hsv
      · obtain ⟨l, hl⟩ := h.seen k (by omega) hs
        exact ⟨_, .step hl hte⟩
  · exact h
theorem seen_edge {n k : Nat} {d : Dom} {e : SEdge} (hn : n ≤ 128) (hk : k < n) (h1 : 1 ≤ e.block) (h2 : e.block < n) (hs : d.seen.has k = true) : (domEdge k d e).seen.has k = true := by
  unfold domEdge
  dsimp only
  split
  · rw [has_with _ (by omega) (by omega), hs]; rfl
  · exact hs
theorem most_edges {bs : List SBlock} (hn : bs.length ≤ 128) {k : Nat} (hk : k < bs.length) : ∀ {l : List SEdge} {d : Dom}, DomOk bs.length d → (∀ e ∈ l, e ∈ toAt bs k) → (∀ e ∈ l, 1 ≤ e.block ∧ e.block < bs.length) → d.seen.has k = true → DomMost bs d → DomMost bs (l.foldl (domEdge k) d)
  | [], d, _, _, _, _, h => h
  | e :: l, d, ok, hl, hb, hs, h => by
    have he := hb e (List.mem_cons_self ..)
    show DomMost bs (l.foldl (domEdge k) (domEdge k d e))
    exact most_edges hn hk (l := l) (domEdge_w ok hk he.1 he.2).1 (fun x hx => hl x (List.mem_cons_of_mem _ hx)) (fun x hx => hb x (List.mem_cons_of_mem _ hx)) (seen_edge hn hk he.1 he.2 hs) (most_edge hn ok hk (hl e (List.mem_cons_self ..)) he.1 he.2 hs h)
theorem most_block {bs : List SBlock} (hn : bs.length ≤ 128) {k : Nat} {b : SBlock} {d : Dom} (hb : bs[k]? = some b) (ok : DomOk bs.length d) (hE : ∀ e ∈ b.term.to, 1 ≤ e.block ∧ e.block < bs.length) (h : DomMost bs d) : DomMost bs (domBlock d k b) := by
  unfold domBlock
  split
  · rename_i hs
    exact most_edges hn (List.getElem?_eq_some_iff.1 hb).1 ok (fun e he => by rw [toAt_get hb]; exact he) hE hs h
  · exact h
theorem most_pass {bs : List SBlock} (hn : bs.length ≤ 128) (hE : ∀ b ∈ bs, ∀ e ∈ b.term.to, 1 ≤ e.block ∧ e.block < bs.length) : ∀ {l : List SBlock} {k : Nat} {d : Dom}, bs.drop k = l → DomOk bs.length d → DomMost bs d → DomMost bs (domPass k l d)
  | [], k, d, _, _, h => h
  | c :: l, k, d, hl, ok, h => by
    have hb : bs[k]? = some c := by
      have h9 : (bs.drop k)[0]? = some c := by rw [hl]; rfl
      rwa [List.getElem?_drop, Nat.add_zero] at h9
    have hl2 : bs.drop (k + 1) = l := by
      have h9 : (bs.drop k).drop 1 = l := by rw [hl]; rfl
      rwa [List.drop_drop] at h9
    have hk := (List.getElem?_eq_some_iff.1 hb).1
    have hc := hE c (List.mem_of_getElem? hb)
    show DomMost bs (domPass (k + 1) l (domBlock d k c))
    exact most_pass hn hE hl2 (block_w hk ok hc).1 (most_block hn hb ok hc h)
theorem most_iter {bs : List SBlock} (hn : bs.length ≤ 128) (hE : ∀ b ∈ bs, ∀ e ∈ b.term.to, 1 ≤ e.block ∧ e.block < bs.length) : ∀ (n : Nat) (d : Dom), DomOk bs.length d → DomMost bs d → DomMost bs (domIter bs n d)
  | 0, d, _, h => h
  | n + 1, d, ok, h => by
    rw [domIter]
    split
    · have ok0 : DomOk bs.length { d with again := false } := ⟨ok.len, ok.le, ok.self⟩
      exact most_iter hn hE n _ (pass_w (l := bs) (k := 0) (by omega) ok0 hE).1 (most_pass hn hE rfl ok0 ⟨h.most, h.seen⟩)
    · exact h
theorem dom_most {bs : List SBlock} (h0 : 0 < bs.length) (hn : bs.length ≤ 128) (hE : ∀ b ∈ bs, ∀ e ∈ b.term.to, 1 ≤ e.block ∧ e.block < bs.length) : DomMost bs (domF bs) := most_iter hn hE _ _ (start_ok h0 hn) (most_start h0 hn)
theorem has_iff {bs : List SBlock} (h0 : 0 < bs.length) (hn : bs.length ≤ 128) (hE : ∀ b ∈ bs, ∀ e ∈ b.term.to, 1 ≤ e.block ∧ e.block < bs.length) {k j : Nat} (hk : ∃ l, Way bs l k) (hkl : k < bs.length) (hj : j < bs.length) : ((domF bs).at k).has j = true ↔ Doms bs j k :=
  ⟨fun h l hw => (dom_way (dom_fix h0 hn hE) hE hw).2.2 j (by omega) h, (dom_most h0 hn hE).most k j hkl hj⟩
end Go.SM
end
section
set_option linter.unusedVariables false
set_option linter.unusedSimpArgs false
namespace Go.SM
open Go.VL
abbrev keys (d : Defs) : List Int := d.map (·.1)
structure KOk (d new : Defs) : Prop where
  wi : ∀ x ∈ keys new, wi x 0 4095 = true
  nodup : (keys new).Nodup
  fresh : ∀ x ∈ keys new, x ∉ keys d
theorem kok_nil (d : Defs) : KOk d [] := ⟨by simp, by simp, by simp⟩
theorem kok_append {d a b : Defs} : KOk d (a ++ b) ↔ KOk d a ∧ KOk (d ++ a) b := by
  constructor
  · rintro ⟨h1, h2, h3⟩
    simp only [keys, List.map_append] at h1 h2 h3
    obtain ⟨n1, n2, n3⟩ := List.nodup_append.1 h2
    refine ⟨⟨fun x hx => h1 x (List.mem_append_left _ hx), n1, fun x hx => h3 x (List.mem_append_left _ hx)⟩, ⟨fun x hx => h1 x (List.mem_append_right _ hx), n2, fun x hx => ?_⟩⟩
    simp only [keys, List.map_append, List.mem_append, not_or]
    exact ⟨h3 x (List.mem_append_right _ hx), fun hm => n3 x hm x hx rfl⟩
  · rintro ⟨⟨a1, a2, a3⟩, ⟨b1, b2, b3⟩⟩
    simp only [keys, List.map_append] at b3
    refine ⟨fun x hx => ?_, ?_, fun x hx => ?_⟩ <;> simp only [keys, List.map_append] at *
    · rcases List.mem_append.1 hx with h | h
      · exact a1 x h
      · exact b1 x h
    · exact List.nodup_append.2 ⟨a2, b2, fun x hx y hy e => by subst e; exact b3 x hy (List.mem_append_right _ hx)⟩
    · rcases List.mem_append.1 hx with h | h
      · exact a3 x h
      · exact fun hm => b3 x h (List.mem_append_left _ hm)
theorem kok_one {d : Defs} {v : Int} {p : Int × Int} : KOk d [(v, p)] ↔ wi v 0 4095 = true ∧ v ∉ keys d := by
  constructor
  · rintro ⟨h1, _, h3⟩
    exact ⟨h1 v (by simp), h3 v (by simp)⟩
  · rintro ⟨h1, h2⟩
    exact ⟨fun x hx => by simp at hx; subst hx; exact h1, by simp, fun x hx => by simp at hx; subst hx; exact h2⟩
theorem dget_out {v : Int} : ∀ {d : Defs}, dget d v = none ↔ v ∉ keys d
  | [] => by simp [dget]
  | (k, p) :: d => by
    rw [dget]
    split
    · rename_i e
      subst e
      simp
    · rename_i e
      rw [dget_out]
      simp only [keys, List.map_cons, List.mem_cons, not_or]
      exact ⟨fun h => ⟨fun e2 => e e2.symm, h⟩, fun h => h.2⟩
theorem define_iff {v : Int} {p : Int × Int} {d : Defs} : (defineF v p d).1 = 0 ↔ KOk d [(v, p)] := by
  rw [kok_one]
  unfold defineF
  cases hw : wi v 0 4095 with
  | false => simp
  | true =>
    rw [if_neg (by decide)]
    cases hd : dget d v with
    | none =>
      rw [if_neg (by decide)]
      exact ⟨fun _ => ⟨rfl, dget_out.1 hd⟩, fun _ => rfl⟩
    | some x =>
      rw [if_pos (show (some x).isSome = true from rfl)]
      have : ¬ v ∉ keys d := fun h => by rw [dget_out.2 h] at hd; cases hd
      exact ⟨fun h => absurd (show (7 : Int) = 0 from h) (by decide), fun h => absurd h.2 this⟩
theorem define_eq {v : Int} {p : Int × Int} {d : Defs} (h : (defineF v p d).1 = 0) : (defineF v p d).2 = d ++ [(v, p)] := by
  have h2 := h
  rw [define_iff, kok_one] at h2
  unfold defineF
  rw [if_neg (by rw [h2.1]; decide), dget_out.2 h2.2, if_neg (by decide)]
theorem params_iff {k : Int} : ∀ {ps : List Int} {d : Defs}, ((paramsF k ps d).1 = 0 ↔ KOk d (defsP k ps)) ∧ ((paramsF k ps d).1 = 0 → (paramsF k ps d).2 = d ++ defsP k ps)
  | [], d => ⟨⟨fun _ => kok_nil d, fun _ => rfl⟩, fun _ => by simp [paramsF, defsP]⟩
  | p :: ps, d => by
    have hc : defsP k (p :: ps) = [(p, (k, 0))] ++ defsP k ps := rfl
    rw [hc, kok_append, paramsF]
    by_cases h : (defineF p (k, 0) d).1 = 0
    · rw [if_neg (fun h2 => h2 h)]
      have he := define_eq h
      obtain ⟨h1, h2⟩ := params_iff (k := k) (ps := ps) (d := (defineF p (k, 0) d).2)
      rw [he] at h1 h2
      rw [he]
      exact ⟨⟨fun h3 => ⟨define_iff.1 h, h1.1 h3⟩, fun h3 => h1.2 h3.2⟩, fun h3 => by rw [h2 h3, List.append_assoc]⟩
    · rw [if_pos h]
      exact ⟨⟨fun h3 => absurd h3 h, fun h3 => absurd (define_iff.2 h3.1) h⟩, fun h3 => absurd h3 h⟩
theorem inss_iff {k : Int} : ∀ {is : List SIns} {n : Int} {d : Defs}, ((inssF k n is d).1 = 0 ↔ KOk d (defsI k n is) ∧ ∀ i ∈ is, formF i = 0) ∧ ((inssF k n is d).1 = 0 → (inssF k n is d).2 = d ++ defsI k n is)
  | [], n, d => ⟨⟨fun _ => ⟨kok_nil d, fun i hi => by cases hi⟩, fun _ => rfl⟩, fun _ => by simp [inssF, defsI]⟩
  | i :: is, n, d => by
    have hc : defsI k n (i :: is) = [(i.to, (k, n + 1))] ++ defsI k (n + 1) is := rfl
    rw [hc, kok_append, inssF]
    by_cases h : (defineF i.to (k, n + 1) d).1 = 0
    · rw [if_neg (fun h2 => h2 h)]
      have he := define_eq h
      by_cases hf : formF i = 0
      · rw [if_neg (fun h2 => h2 hf)]
        obtain ⟨h1, h2⟩ := inss_iff (k := k) (is := is) (n := n + 1) (d := (defineF i.to (k, n + 1) d).2)
        rw [he] at h1 h2
        rw [he]
        refine ⟨⟨fun h3 => ?_, fun h3 => ?_⟩, fun h3 => by rw [h2 h3, List.append_assoc]⟩
        · have h4 := h1.1 h3
          refine ⟨⟨define_iff.1 h, h4.1⟩, fun j hj => ?_⟩
          rcases List.mem_cons.1 hj with rfl | hj
          · exact hf
          · exact h4.2 j hj
        · exact h1.2 ⟨h3.1.2, fun j hj => h3.2 j (List.mem_cons_of_mem _ hj)⟩
      · rw [if_pos hf]
        exact ⟨⟨fun h3 => absurd h3 hf, fun h3 => absurd (h3.2 i (List.mem_cons_self ..)) hf⟩, fun h3 => absurd h3 hf⟩
    · rw [if_pos h]
      exact ⟨⟨fun h3 => absurd h3 h, fun h3 => absurd (define_iff.2 h3.1.1) h⟩, fun h3 => absurd h3 h⟩
theorem block_iff {bs : List SBlock} {k : Int} {b : SBlock} {d : Defs} : ((blockF bs k b d).1 = 0 ↔ KOk d (defsB k b) ∧ blockOk bs b) ∧ ((blockF bs k b d).1 = 0 → (blockF bs k b d).2 = d ++ defsB k b) := by
  unfold blockF defsB blockOk
  rw [kok_append]
  obtain ⟨p1, p2⟩ := params_iff (k := k) (ps := b.params) (d := d)
  by_cases hp : (paramsF k b.params d).1 = 0
  · rw [if_neg (fun h => h hp)]
    rw [p2 hp]
    obtain ⟨i1, i2⟩ := inss_iff (k := k) (is := b.ins) (n := 0) (d := d ++ defsP k b.params)
    by_cases hi : (inssF k 0 b.ins (d ++ defsP k b.params)).1 = 0
    · rw [if_neg (fun h => h hi)]
      dsimp only
      rw [i2 hi]
      exact ⟨⟨fun h => ⟨⟨p1.1 hp, (i1.1 hi).1⟩, (i1.1 hi).2, h⟩, fun h => h.2.2⟩, fun h => List.append_assoc ..⟩
    · rw [if_pos hi]
      exact ⟨⟨fun h => absurd h hi, fun h => absurd (i1.2 ⟨h.1.2, h.2.1⟩) hi⟩, fun h => absurd h hi⟩
  · rw [if_pos hp]
    exact ⟨⟨fun h => absurd h hp, fun h => absurd (p1.2 h.1.1) hp⟩, fun h => absurd h hp⟩
theorem blocks_iff {bs : List SBlock} : ∀ {l : List SBlock} {k : Int} {d : Defs}, ((blocksF bs k l d).1 = 0 ↔ KOk d (defsL k l) ∧ ∀ b ∈ l, blockOk bs b) ∧ ((blocksF bs k l d).1 = 0 → (blocksF bs k l d).2 = d ++ defsL k l)
  | [], k, d => ⟨⟨fun _ => ⟨kok_nil d, fun i hi => by cases hi⟩, fun _ => rfl⟩, fun _ => by simp [blocksF, defsL]⟩
  | b :: l, k, d => by
    rw [defsL, kok_append, blocksF]
    obtain ⟨b1, b2⟩ := block_iff (bs := bs) (k := k) (b := b) (d := d)
    by_cases h : (blockF bs k b d).1 = 0
    · rw [if_neg (fun h2 => h2 h), b2 h]
      obtain ⟨h1, h2⟩ := blocks_iff (bs := bs) (l := l) (k := k + 1) (d := d ++ defsB k b)
      refine ⟨⟨fun h3 => ?_, fun h3 => ?_⟩, fun h3 => by rw [h2 h3, List.append_assoc]⟩
      · have h4 := h1.1 h3
        refine ⟨⟨(b1.1 h).1, h4.1⟩, fun j hj => ?_⟩
        rcases List.mem_cons.1 hj with rfl | hj
        · exact (b1.1 h).2
        · exact h4.2 j hj
      · exact h1.2 ⟨h3.1.2, fun j hj => h3.2 j (List.mem_cons_of_mem _ hj)⟩
    · rw [if_pos h]
      exact ⟨⟨fun h3 => absurd h3 h, fun h3 => absurd (b1.2 ⟨h3.1.1, h3.2 b (List.mem_cons_self ..)⟩) h⟩, fun h3 => absurd h3 h⟩
def dI : Int → List SIns → List (Int × Int)
  | _, [] => []
  | n, i :: is => (i.to, n + 1) :: dI (n + 1) is
def dB (b : SBlock) : List (Int × Int) := b.params.map (fun p => (p, 0)) ++ dI 0 b.ins
theorem defsI_eq (k : Int) : ∀ (is : List SIns) (n : Int), defsI k n is = (dI n is).map fun e => (e.1, (k, e.2))
  | [], n => rfl
  | i :: is, n => by rw [defsI, dI, List.map_cons, defsI_eq k is]
theorem defsB_eq (k : Int) (b : SBlock) : defsB k b = (dB b).map fun e => (e.1, (k, e.2)) := by
  unfold defsB dB defsP
  rw [List.map_append, List.map_map, defsI_eq]
  rfl
theorem keysI_len : ∀ (is : List SIns) (n : Int), (dI n is).length = is.length
  | [], n => rfl
  | i :: is, n => by rw [dI, List.length_cons, keysI_len is, List.length_cons]
def insN : List SBlock → Nat
  | [] => 0
  | b :: l => b.ins.length + insN l
theorem keysL : ∀ (l : List SBlock) (k : Int), keys (defsL k l) = l.flatMap fun b => (dB b).map (·.1)
  | [], k => rfl
  | b :: l, k => by
    rw [defsL, keys, List.map_append, List.flatMap_cons]
    have h := keysL l (k + 1)
    rw [keys] at h
    rw [h, defsB_eq, List.map_map]
    rfl
theorem insN_le : ∀ (l : List SBlock), insN l ≤ (l.flatMap fun b => (dB b).map (·.1)).length
  | [] => Nat.le_refl _
  | b :: l => by
    have h := insN_le l
    rw [insN, List.flatMap_cons, List.length_append, List.length_map, dB, List.length_append, keysI_len]
    omega
theorem nodup_wi {l : List Int} (h : l.Nodup) (hw : ∀ x ∈ l, wi x 0 4095 = true) : l.length ≤ 4096 := by
  have h1 := nodup_lt (l := l.map Int.toNat) (n := 4096) ?_ fun v hv => by
    obtain ⟨x, hx, rfl⟩ := List.mem_map.1 hv
    have := wi_iff.1 (hw x hx)
    omega
  · rwa [List.length_map] at h1
  · rw [List.Nodup, List.pairwise_map]
    refine List.Pairwise.imp_of_mem (fun {a c} ha hc hne e => hne ?_) h
    have h1 := wi_iff.1 (hw a ha)
    have h2 := wi_iff.1 (hw c hc)
    omega
theorem count_eq : ∀ (l : List SBlock) (n : Int), 0 ≤ n → n + insN l ≤ 9223372036854775807 → countIns n l = n + insN l
  | [], n, _, _ => by simp [countIns, insN]
  | b :: l, n, h0, h => by
    rw [insN] at h
    rw [countIns, insN]
    have e : IntKind.i64.wrap (n + b.ins.length) = n + b.ins.length := by rw [IntKind.wrap_i64]; omega
    rw [e, count_eq l _ (by omega) (by omega)]
    omega
structure FuncIs (f : SFunc) : Prop where
  pos : 0 < f.blocks.length
  len : f.blocks.length ≤ 128
  ins : insN f.blocks ≤ 1024
  params : (paramsOf f.blocks 0).length ≤ 6
  name : wi f.name (-1) 1048575 = true
  kok : KOk [] (defsL 0 f.blocks)
  block : ∀ b ∈ f.blocks, blockOk f.blocks b
  uses : usesF (defsL 0 f.blocks) (domF f.blocks) 0 f.blocks = 0
theorem func_iff {f : SFunc} : funcF f = 0 ↔ FuncIs f := by
  constructor
  · intro h
    have hok := func_ok h
    obtain ⟨h1, h2⟩ := blocks_iff (bs := f.blocks) (l := f.blocks) (k := 0) (d := [])
    have h3 := h1.1 hok.blocks
    have h4 := h2 hok.blocks
    have hu := hok.uses
    rw [h4, List.nil_append] at hu
    have hl := nodup_wi h3.1.nodup h3.1.wi
    rw [keysL] at hl
    have hi := insN_le f.blocks
    have hc := hok.ins
    rw [count_eq _ _ (by omega) (by omega)] at hc
    exact ⟨hok.pos, hok.len, by omega, hok.params, wi_iff.2 hok.name, h3.1, h3.2, hu⟩
  · intro h
    obtain ⟨h1, h2⟩ := blocks_iff (bs := f.blocks) (l := f.blocks) (k := 0) (d := [])
    have h3 := h1.2 ⟨h.kok, h.block⟩
    have h4 := h2 h3
    have a1 := h.pos
    have a2 := h.len
    have a3 := h.ins
    have a4 := h.params
    unfold funcF
    rw [if_neg (by omega), if_neg (by rw [count_eq _ _ (by omega) (by omega)]; omega), if_neg (by rw [h.name]; decide), if_neg (fun hn => hn h3), h4, List.nil_append]
    exact h.uses
end Go.SM
end
section
set_option linter.unusedVariables false
set_option linter.unusedSimpArgs false
namespace Go.SM
open Go.VL
def atF (f : SFunc) : List Int := placeF (reachL f) f.blocks.length
def reachN (f : SFunc) : List Nat := (List.range f.blocks.length).filter fun v => decide (v ∈ orderF f.blocks)
section
variable {f : SFunc} (ho : OrderOk f.blocks (orderF f.blocks))
include ho
end
theorem mem_zero_key {d : Defs} : (∀ x ∈ keys d, x ∉ keys ([] : Defs)) := fun x _ h => by cases h
end Go.SM
end
section
set_option linter.unusedVariables false
set_option linter.unusedSimpArgs false
namespace Go.SM
open Go.VL
def setsF (o : List Bool) (l : List Int) : List Bool := l.foldl (fun s a => s.set a.toNat true) o
def backI : List SIns → List Bool → List Bool
  | [], s => s
  | i :: l, s => backI l (setsF (s.set i.to.toNat false) i.args)
def backF (b : SBlock) (s : List Bool) : List Bool := backI b.ins.reverse s
def edgeV1 (ps : List Int) : Nat → List Bool → List Bool → List Bool
  | _, [], o => o
  | v, is :: l, o => edgeV1 ps (v + 1) l (if (is && !(ps.any fun x => decide ((v : Int) = x))) = true then o.set v true else o)
abbrev Sets := List (Option (List Bool))
def setAt (s : Sets) (k : Nat) : List Bool := (s[k]?.getD none).getD []
def edgesV (bs : List SBlock) (first : Sets) : List SEdge → List Bool → List Bool
  | [], o => o
  | e :: l, o => edgesV bs first l (edgeV1 (paramsOf bs e.block) 0 (setAt first e.block.toNat) o)
def argsV : List SEdge → List Bool → List Bool
  | [], o => o
  | e :: l, o => argsV l (setsF o e.args)
def termV1 (t : STerm) (o : List Bool) : List Bool := if t.kind ≠ 1 ∧ t.kind ≠ 4 then o.set t.arg.toNat true else o
def lastF (bs : List SBlock) (many : Nat) (t : STerm) (first : Sets) : List Bool := argsV t.to (termV1 t (edgesV bs first t.to (List.replicate many false)))
structure LState where
  behind : Sets
  first : Sets
  again : Bool
def Mem1 (s : List Bool) (v : Nat) : Prop := s[v]? = some true
def TermUse (t : STerm) (v : Nat) : Prop := (t.kind ≠ 1 ∧ t.kind ≠ 4) ∧ t.arg.toNat = v ∨ ∃ e ∈ t.to, ∃ a ∈ e.args, a.toNat = v
def Exp (l : List SIns) (v : Nat) : Prop := ∃ (j : Nat) (i : SIns), l[j]? = some i ∧ (∃ a ∈ i.args, a.toNat = v) ∧ ∀ (j' : Nat) (x : SIns), j' < j → l[j']? = some x → x.to.toNat ≠ v
theorem Exp.append {l : List SIns} {v : Nat} (h : Exp l v) (m : List SIns) : Exp (l ++ m) v := by
  obtain ⟨j, i, h1, h2, h3⟩ := h
  have hj := (List.getElem?_eq_some_iff.1 h1).1
  exact ⟨j, i, by rw [List.getElem?_append_left hj]; exact h1, h2, fun j' x hlt hx => h3 j' x hlt (by rwa [List.getElem?_append_left (by omega)] at hx)⟩
inductive LiveIn (bs : List SBlock) (v : Nat) : Nat → Prop where
  | use {k : Nat} {b : SBlock} : bs[k]? = some b → Exp b.ins v → LiveIn bs v k
  | term {k : Nat} {b : SBlock} : bs[k]? = some b → (∀ x ∈ b.ins, x.to.toNat ≠ v) → TermUse b.term v → LiveIn bs v k
  | pass {k : Nat} {b : SBlock} {e : SEdge} : bs[k]? = some b → (∀ x ∈ b.ins, x.to.toNat ≠ v) → e ∈ b.term.to → (v : Int) ∉ paramsOf bs e.block → LiveIn bs v e.block.toNat → LiveIn bs v k
end Go.SM
end
section
set_option linter.unusedVariables false
set_option linter.unusedSimpArgs false
namespace Go.SM
open Go.VL
def Sub1 (s t : List Bool) : Prop := ∀ v, Mem1 s v → Mem1 t v
structure LiveOk (bs : List SBlock) (many : Nat) (s : LState) : Prop where
  blen : s.behind.length = bs.length
  flen : s.first.length = bs.length
  emp : ∀ (k : Nat), s.behind[k]? = some none → s.first[k]? = some none
  full : ∀ (k : Nat) (l : List Bool), s.behind[k]? = some (some l) → l.length = many ∧ ∃ b, bs[k]? = some b ∧ s.first[k]? = some (some (backF b l)) ∧ Sub1 l (lastF bs many b.term s.first)
  live : ∀ (k v : Nat), Mem1 (setAt s.first k) v → LiveIn bs v k
theorem dget_mem {v : Int} {p : Int × Int} : ∀ {d : Defs}, dget d v = some p → (v, p) ∈ d
  | [], h => by cases h
  | (k, q) :: d, h => by
    rw [dget] at h
    split at h
    · rename_i e
      subst e
      injection h with h
      subst h
      exact List.mem_cons_self ..
    · exact List.mem_cons_of_mem _ (dget_mem h)
theorem usesIns_all {d : Defs} {o : Dom} {k : Nat} : ∀ {l : List SIns} {n : Int}, usesIns d o k n l = true → ∀ (j : Nat) (i : SIns), l[j]? = some i → ∀ a ∈ i.args, fineF d o k (n + j) a = true
  | [], n, h, j, i, hi => by simp at hi
  | x :: l, n, h, j, i, hi => by
    rw [usesIns, Bool.and_eq_true, List.all_eq_true] at h
    cases j with
    | zero =>
      simp at hi
      subst hi
      intro a ha
      have := h.1 a ha
      simpa using this
    | succ j =>
      simp at hi
      intro a ha
      have := usesIns_all h.2 j i hi a ha
      rwa [show n + 1 + (j : Int) = n + ((j + 1 : Nat) : Int) by omega] at this
theorem usesF_all {d : Defs} {o : Dom} : ∀ {l : List SBlock} {k : Nat}, usesF d o k l = 0 → ∀ (j : Nat) (b : SBlock), l[j]? = some b → usesIns d o (k + j) 0 b.ins = true ∧ usedF b.term (fineF d o (k + j) b.ins.length) = true
  | [], k, h, j, b, hb => by simp at hb
  | c :: l, k, h, j, b, hb => by
    rw [usesF] at h
    split at h
    · cases h
    · split at h
      · cases h
      · rename_i h1 h2
        cases j with
        | zero =>
          simp at hb
          subst hb
          exact ⟨by simpa using h1, by simpa using h2⟩
        | succ j =>
          simp at hb
          have := usesF_all h j b hb
          rwa [show k + 1 + j = k + (j + 1) by omega] at this
end Go.SM
end
section
set_option linter.unusedVariables false
namespace Go.SM
open Go.VL
def valuesL (bs : List SBlock) : List Int := bs.flatMap fun b => b.params ++ b.ins.map (·.to)
def freshF (bs : List SBlock) : Int := (valuesL bs).foldl (fun n v => max n (v + 1)) 0
theorem fold_fresh : ∀ (l : List Int) (n : Int), n ≤ l.foldl (fun n v => max n (v + 1)) n ∧ ∀ v ∈ l, v < l.foldl (fun n v => max n (v + 1)) n
  | [], n => ⟨Int.le_refl _, fun v hv => by cases hv⟩
  | a :: l, n => by
    obtain ⟨h1, h2⟩ := fold_fresh l (max n (a + 1))
    rw [List.foldl_cons]
    refine ⟨by omega, fun v hv => ?_⟩
    rcases List.mem_cons.1 hv with rfl | hv
    · omega
    · exact h2 v hv
theorem fold_le {m : Int} : ∀ (l : List Int) (n : Int), n ≤ m → (∀ v ∈ l, v < m) → l.foldl (fun n v => max n (v + 1)) n ≤ m
  | [], n, hn, _ => hn
  | a :: l, n, hn, h => by
    have := h a (List.mem_cons_self ..)
    exact fold_le l _ (by show max n (a + 1) ≤ m; omega) fun v hv => h v (List.mem_cons_of_mem _ hv)
theorem values_keys {f : SFunc} (h : FuncOk f) : ∀ v ∈ valuesL f.blocks, 0 ≤ v ∧ v ≤ 4095 := fun v hv => h.keys.range v (by rw [dkeys_defsL]; exact hv)
theorem fresh_ok {f : SFunc} (h : FuncOk f) : 0 ≤ freshF f.blocks ∧ freshF f.blocks ≤ 4096 ∧ ∀ v ∈ valuesL f.blocks, v < freshF f.blocks := by
  obtain ⟨h1, h2⟩ := fold_fresh (valuesL f.blocks) 0
  exact ⟨h1, fold_le _ 0 (by decide) fun v hv => by have := values_keys h v hv; omega, h2⟩
def listF : Nat → List Bool → List Int
  | _, [] => []
  | v, b :: l => if b = true then (v : Int) :: listF (v + 1) l else listF (v + 1) l
theorem list_len : ∀ (l : List Bool) (w : Nat), (listF w l).length ≤ l.length
  | [], w => Nat.le_refl _
  | b :: l, w => by
    rw [listF]
    have := list_len l (w + 1)
    split <;> simp <;> omega
end Go.SM
end
section
set_option linter.unusedVariables false
set_option linter.unusedSimpArgs false
namespace Go.SM
open Go.VL
end Go.SM
end
section
set_option linter.unusedVariables false
set_option linter.unusedSimpArgs false
set_option linter.unusedSectionVars false
namespace Go.SM
open Go.VL
def renT (r : Int → Int) (t : STerm) : STerm := { t with to := t.to.map fun e => ⟨r e.block, e.args⟩ }
structure Ren (u v : SUnit) (ρ : Int → Int → Int) (good : Int → Int → Prop) : Prop where
  main : v.main = u.main
  entry : ∀ k, entryOf v k = entryOf u k
  zero : ∀ fn, good fn 0 ∧ ρ fn 0 = 0
  blk : ∀ fn k, good fn k → (blockAt v fn (ρ fn k)).params = (blockAt u fn k).params ∧ (blockAt v fn (ρ fn k)).ins = (blockAt u fn k).ins ∧ (blockAt v fn (ρ fn k)).term = renT (ρ fn) (blockAt u fn k).term ∧ ∀ e ∈ (blockAt u fn k).term.to, good fn e.block
def wst (s : List MFrame) (M : Mach) : Mach := { M with stack := s }
theorem pay_st (n : Int) (M : Mach) (s : List MFrame) : payF n (wst s M) = wst s (payF n M) := by
  unfold payF
  show (if M.left < n then _ else _) = _
  split <;> rfl
theorem alloc_st (a b : Val) (M : Mach) (s : List MFrame) : allocF a b (wst s M) = (wst s (allocF a b M).1, (allocF a b M).2) := by
  unfold allocF
  rw [pay_st]
  by_cases h1 : a.kind ≠ 0
  · rw [if_pos h1, if_pos h1]
  · rw [if_neg h1, if_neg h1]
    by_cases h2 : a.n < 0 ∨ 1024 < a.n
    · rw [if_pos h2, if_pos h2]
    · rw [if_neg h2, if_neg h2]
      show (if (payF a.n M).short = true then _ else _) = _
      by_cases h3 : (payF a.n M).short = true
      · rw [if_pos h3, if_pos h3]
      · rw [if_neg h3, if_neg h3]; rfl
theorem effect_st (i : SIns) (args : List Val) (M : Mach) (s : List MFrame) : effectF i args (wst s M) = (wst s (effectF i args M).1, (effectF i args M).2) := by
  unfold effectF
  rw [alloc_st]
  show (if i.op = 15 then if (argAt args 0).kind ≠ 0 then _ else if (M.out.length : Int) = 1000 then _ else _ else if i.op = 16 then _ else if i.op = 18 then if allK 0 args = false then _ else if _ then _ else _ else if _ then _ else if i.op = 17 then _ else if (argAt args 1).n < 0 ∨ ((arrOf M (argAt args 0)).length : Int) ≤ (argAt args 1).n then _ else if i.op = 19 then _ else _) = _
  by_cases h1 : i.op = 15
  · rw [if_pos h1, if_pos h1]
    by_cases h2 : (argAt args 0).kind ≠ 0
    · rw [if_pos h2, if_pos h2]
    · rw [if_neg h2, if_neg h2]
      by_cases h3 : (M.out.length : Int) = 1000
      · rw [if_pos h3, if_pos h3]
      · rw [if_neg h3, if_neg h3]; rfl
  · rw [if_neg h1, if_neg h1]
    by_cases h2 : i.op = 16
    · rw [if_pos h2, if_pos h2]
    · rw [if_neg h2, if_neg h2]
      by_cases h3 : i.op = 18
      · rw [if_pos h3, if_pos h3]
        by_cases h4 : allK 0 args = false
        · rw [if_pos h4, if_pos h4]
        · rw [if_neg h4, if_neg h4]
          by_cases h5 : (argAt args 0).n < 0 ∨ (argAt args 1).n ≤ (argAt args 0).n
          · rw [if_pos h5, if_pos h5]
          · rw [if_neg h5, if_neg h5]
      · rw [if_neg h3, if_neg h3]
        by_cases h4 : (argAt args 0).kind ≠ 3 ∨ i.op ≠ 17 ∧ (argAt args 1).kind ≠ 0
        · rw [if_pos h4, if_pos h4]
        · rw [if_neg h4, if_neg h4]
          by_cases h5 : i.op = 17
          · rw [if_pos h5, if_pos h5]; rfl
          · rw [if_neg h5, if_neg h5]
            by_cases h6 : (argAt args 1).n < 0 ∨ ((arrOf M (argAt args 0)).length : Int) ≤ (argAt args 1).n
            · rw [if_pos h6, if_pos h6]
            · rw [if_neg h6, if_neg h6]
              by_cases h7 : i.op = 19
              · rw [if_pos h7, if_pos h7]; rfl
              · rw [if_neg h7, if_neg h7]
                have : ∀ l, setArr (wst s M) (argAt args 0) l = wst s (setArr M (argAt args 0) l) := fun l => by
                  unfold setArr
                  cases (argAt args 0).arr <;> rfl
                rw [this]; rfl
theorem exec_st (i : SIns) (args : List Val) (M : Mach) (s : List MFrame) : execF i args (wst s M) = (wst s (execF i args M).1, (execF i args M).2) := by
  unfold execF
  rw [effect_st]
  by_cases h1 : i.op = 0
  · rw [if_pos h1, if_pos h1]
  · rw [if_neg h1, if_neg h1]
    by_cases h2 : elemJ i.op [1, 2, 3, 4, 5, 6, 7] = true
    · rw [if_pos h2, if_pos h2]
      by_cases h3 : allK 0 args = false
      · rw [if_pos h3, if_pos h3]
      · rw [if_neg h3, if_neg h3]
    · rw [if_neg h2, if_neg h2]
      by_cases h3 : i.op = 8
      · rw [if_pos h3, if_pos h3]
      · rw [if_neg h3, if_neg h3]
        by_cases h4 : i.op = 9
        · rw [if_pos h4, if_pos h4]
        · rw [if_neg h4, if_neg h4]
          by_cases h5 : elemJ i.op [10, 11, 12, 21] = true
          · rw [if_pos h5, if_pos h5]
          · rw [if_neg h5, if_neg h5]
            by_cases h6 : elemJ i.op [22, 23, 24] = true
            · rw [if_pos h6, if_pos h6]
            · rw [if_neg h6, if_neg h6]
              by_cases h7 : i.op = 100
              · rw [if_pos h7, if_pos h7]
              · rw [if_neg h7, if_neg h7]
section
variable {u v : SUnit} {ρ : Int → Int → Int} {good : Int → Int → Prop} (h : Ren u v ρ good)
end
theorem run_unit {u : SUnit} {fuel : Int} (h : (runF u fuel).2.2 = 0) : unitF u = 0 := by
  unfold runF at h
  by_cases hu : unitF u ≠ 0
  · rw [if_pos hu] at h
    exact absurd h hu
  · exact Decidable.not_not.1 hu
end Go.SM
end
section
set_option linter.unusedVariables false
set_option linter.unusedSimpArgs false
namespace Go.SM
open Go.VL
structure RangeOk (bs : List SBlock) (many : Nat) : Prop where
  to : ∀ b ∈ bs, ∀ i ∈ b.ins, 0 ≤ i.to ∧ i.to < many
  args : ∀ b ∈ bs, ∀ i ∈ b.ins, ∀ a ∈ i.args, 0 ≤ a ∧ a < many
  arg : ∀ b ∈ bs, b.term.kind ≠ 1 ∧ b.term.kind ≠ 4 → 0 ≤ b.term.arg ∧ b.term.arg < many
  eargs : ∀ b ∈ bs, ∀ e ∈ b.term.to, ∀ a ∈ e.args, 0 ≤ a ∧ a < many
  edge : ∀ b ∈ bs, ∀ e ∈ b.term.to, 1 ≤ e.block ∧ e.block < bs.length
theorem fine_key {f : SFunc} (h : FuncOk f) {k : Nat} {at_ a : Int} (hf : fineF (blocksF f.blocks 0 f.blocks []).2 (domF f.blocks) k at_ a = true) : a ∈ valuesL f.blocks := by
  rw [h.defs.1] at hf
  unfold fineF at hf
  cases hd : dget (defsL 0 f.blocks) a with
  | none => rw [hd] at hf; cases hf
  | some p =>
    have hmem := dget_mem hd
    have : a ∈ dkeys (defsL 0 f.blocks) := List.mem_map.2 ⟨_, hmem, rfl⟩
    rwa [dkeys_defsL] at this
theorem used_all {t : STerm} {use : Int → Bool} (h : usedF t use = true) : (t.kind ≠ 1 ∧ t.kind ≠ 4 → use t.arg = true) ∧ ∀ e ∈ t.to, ∀ a ∈ e.args, use a = true := by
  unfold usedF at h
  split at h
  · cases h
  · rename_i hc
    refine ⟨fun hk => ?_, fun e he a ha => ?_⟩
    · cases hu : use t.arg with
      | true => rfl
      | false => exact absurd ⟨hk, hu⟩ hc
    · rw [List.all_eq_true] at h
      have := h e he
      rw [List.all_eq_true] at this
      exact this a ha
theorem range_ok {f : SFunc} (h : FuncOk f) {many : Nat} (hm : freshF f.blocks ≤ many) : RangeOk f.blocks many := by
  have key : ∀ a ∈ valuesL f.blocks, 0 ≤ a ∧ a < many := fun a ha => by
    have h1 := values_keys h a ha
    have h2 := (fresh_ok h).2.2 a ha
    exact ⟨h1.1, by omega⟩
  have hu := usesF_all h.uses
  refine ⟨fun b hb i hi => key _ (List.mem_flatMap.2 ⟨b, hb, List.mem_append_right _ (List.mem_map.2 ⟨i, hi, rfl⟩)⟩), fun b hb i hi a ha => ?_, fun b hb hk => ?_, fun b hb e he a ha => ?_, h.edges⟩
  · obtain ⟨k, hk⟩ := List.getElem?_of_mem hb
    obtain ⟨j, hj⟩ := List.getElem?_of_mem hi
    exact key a (fine_key h (usesIns_all (hu k b hk).1 j i hj a ha))
  · obtain ⟨k, hkb⟩ := List.getElem?_of_mem hb
    exact key _ (fine_key h ((used_all (hu k b hkb).2).1 hk))
  · obtain ⟨k, hk⟩ := List.getElem?_of_mem hb
    exact key a (fine_key h ((used_all (hu k b hk).2).2 e he a ha))
end Go.SM
end
section
set_option linter.unusedVariables false
set_option linter.unusedSimpArgs false
set_option linter.unusedSectionVars false
namespace Go.SM
open Go.VL
def mainF (u : SUnit) : SFunc := u.fns[u.main.toNat]?.getD default
def frU (u : SUnit) : Int := freshF (mainF u).blocks
theorem nw_fns {u : SUnit} (h : unitF u = 0) : ∀ f ∈ u.fns, funcF f = 0 := by
  unfold unitF at h
  split at h
  · cases h
  · split at h
    · cases h
    · split at h
      · cases h
      · split at h
        · rename_i hn; exact absurd h hn
        · rename_i hn
          exact firstE_ok (Decidable.not_not.1 hn)
theorem nw_all {α : Type} {f : α → Int} : ∀ {l : List α}, (∀ x ∈ l, f x = 0) → firstE f l = 0
  | [], _ => rfl
  | x :: l, h => by
    rw [firstE, if_neg (fun hn => hn (h x (List.mem_cons_self ..)))]
    exact nw_all fun y hy => h y (List.mem_cons_of_mem _ hy)
theorem vget_vput (k : Int) (v : Val) (x : Int) : ∀ m : Vals, vget (vput m k v) x = if k = x then v else vget m x
  | [] => by
    show (if k = x then v else vget [] x) = _
    rfl
  | (j, a) :: m => by
    rw [vput]
    by_cases hj : j = k
    · subst hj
      rw [if_pos rfl, vget, vget]
      by_cases hx : j = x
      · rw [if_pos hx, if_pos hx]
      · rw [if_neg hx, if_neg hx, if_neg hx]
    · rw [if_neg hj, vget, vget_vput k v x m, vget]
      by_cases hx : j = x
      · rw [if_pos hx, if_neg (by omega), if_pos hx]
      · rw [if_neg hx, if_neg hx]
def Agree (q : Int → Prop) (m m' : Vals) : Prop := ∀ x, q x → vget m' x = vget m x
theorem Agree.put {q : Int → Prop} {m m' : Vals} (h : Agree q m m') (k : Int) (v : Val) : Agree q (vput m k v) (vput m' k v) := fun x hx => by
  rw [vget_vput, vget_vput, h x hx]
theorem Agree.puts {q : Int → Prop} : ∀ {ps : List Int} {vs : List Val} {m m' : Vals}, Agree q m m' → Agree q (vputs m ps vs) (vputs m' ps vs)
  | [], vs, m, m', h => by cases vs <;> exact h
  | p :: ps, [], m, m', h => h
  | p :: ps, v :: vs, m, m', h => by
    rw [vputs, vputs]
    exact Agree.puts (h.put p v)
theorem Agree.take {q : Int → Prop} {m m' : Vals} (h : Agree q m m') {l : List Int} (hl : ∀ a ∈ l, q a) : takeF m' l = takeF m l := List.map_congr_left fun a ha => h a (hl a ha)
def inB (u : SUnit) (f : MFrame) : Prop := f.fn = u.main ∧ f.block = 0
open Classical in
noncomputable def shF (u : SUnit) (f : MFrame) : Int := if inB u f then 1 else 0
def okX (u : SUnit) (f : MFrame) (x : Int) : Prop := f.fn = u.main → x ≠ frU u
structure FR (u : SUnit) (f f' : MFrame) : Prop where
  fn : f'.fn = f.fn
  block : f'.block = f.block
  to : f'.to = f.to
  at_ : f'.at_ = f.at_ + shF u f
  vals : Agree (okX u f) f.vals f'.vals
inductive SR (u : SUnit) : List MFrame → List MFrame → Prop where
  | nil : SR u [] []
  | cons {f f' : MFrame} {fs fs' : List MFrame} : FR u f f' → SR u fs fs' → SR u (f :: fs) (f' :: fs')
inductive PR (u : SUnit) : List MFrame → List MFrame → Prop where
  | mk {f : MFrame} {fs fs' : List MFrame} : inB u f → f.at_ = 0 → SR u fs fs' → PR u (f :: fs) (f :: fs')
section
variable {u : SUnit} {w : Int} (hu : unitF u = 0)
include hu
end
end Go.SM
end
section
set_option linter.unusedVariables false
set_option linter.unusedSimpArgs false
set_option linter.unusedSectionVars false
namespace Go.SM
open Go.VL
def sgF (d : Nat) (x : Int) : Int := if 0 ≤ x ∧ x ≤ 4095 then (x + d) % 4096 else x
def sgI (d : Nat) (i : SIns) : SIns := ⟨sgF d i.to, i.op, i.n, i.args.map (sgF d)⟩
def sgE (d : Nat) (e : SEdge) : SEdge := ⟨e.block, e.args.map (sgF d)⟩
def sgA (d : Nat) (t : STerm) : Int := if t.kind ≠ 1 ∧ t.kind ≠ 4 then sgF d t.arg else t.arg
def sgT (d : Nat) (t : STerm) : STerm := ⟨t.kind, sgA d t, t.n, t.cases, t.to.map (sgE d)⟩
def sgB (d : Nat) (b : SBlock) : SBlock := ⟨b.params.map (sgF d), b.ins.map (sgI d), sgT d b.term⟩
def sgN (d : Nat) (f : SFunc) : SFunc := ⟨f.name, f.blocks.map (sgB d)⟩
def sgU (d : Nat) (u : SUnit) : SUnit := ⟨u.fns.map (sgN d), u.main⟩
theorem sg_inj {d : Nat} (hd : d < 4096) {x y : Int} (h : sgF d x = sgF d y) : x = y := by
  unfold sgF at h
  split at h <;> split at h <;> omega
theorem sg_wi {d : Nat} {x : Int} (h : wi x 0 4095 = true) : wi (sgF d x) 0 4095 = true := by
  have h := wi_iff.1 h
  refine wi_iff.2 ?_
  unfold sgF
  rw [if_pos h]
  omega
theorem sg_params (d : Nat) (bs : List SBlock) (k : Int) : paramsOf (bs.map (sgB d)) k = (paramsOf bs k).map (sgF d) := by
  unfold paramsOf
  rw [List.getElem?_map]
  cases bs[k.toNat]? <;> rfl
theorem sg_form (d : Nat) (i : SIns) : formF (sgI d i) = formF i := by
  have h : (sgI d i).args.length = i.args.length := List.length_map ..
  unfold formF formBad formLarge
  rw [h]
  rfl
theorem sg_shape (d : Nat) (t : STerm) : shapeF (sgT d t) = shapeF t := by
  have h : (sgT d t).to.length = t.to.length := List.length_map ..
  unfold shapeF
  rw [h]
  show (if t.kind = 0 then _ else if t.kind = 1 then decide ((t.to.length : Int) = 1) && decide (sgA d t = 0) && decide (t.n = 0) && decide ((t.cases.length : Int) = 0) else if t.kind = 2 then _ else if t.kind = 3 then _ else if t.kind = 4 then decide ((t.to.length : Int) = 0) && decide (sgA d t = 0) && decide ((t.cases.length : Int) = 0) else false) = _
  by_cases hk : t.kind ≠ 1 ∧ t.kind ≠ 4
  · rw [if_neg hk.1, if_neg hk.1, if_neg hk.2, if_neg hk.2]
    rfl
  · have : sgA d t = t.arg := if_neg hk
    rw [this]
    rfl
theorem sg_edges (d : Nat) (bs : List SBlock) : ∀ l : List SEdge, edgesF (bs.map (sgB d)) (l.map (sgE d)) = edgesF bs l
  | [] => rfl
  | e :: l => by
    have h1 : (sgE d e).block = e.block := rfl
    have h2 : (sgE d e).args.length = e.args.length := List.length_map ..
    rw [List.map_cons, edgesF, edgesF, sg_edges d bs l, h1, h2, sg_params, List.length_map, List.length_map]
theorem sg_end (d : Nat) (bs : List SBlock) (t : STerm) : endF (bs.map (sgB d)) (sgT d t) = endF bs t := by
  unfold endF
  rw [sg_shape]
  show (if _ then _ else if _ then _ else if _ then _ else if casesF [] t.cases ≠ 0 then _ else edgesF (bs.map (sgB d)) (t.to.map (sgE d))) = _
  rw [sg_edges]
  rfl
theorem sg_domBlock (d : Nat) (o : Dom) (k : Nat) (b : SBlock) : domBlock o k (sgB d b) = domBlock o k b := by
  unfold domBlock
  show (if o.seen.has k then (b.term.to.map (sgE d)).foldl (domEdge k) o else o) = _
  rw [List.foldl_map]
  rfl
theorem sg_domPass (d : Nat) : ∀ (l : List SBlock) (k : Nat) (o : Dom), domPass k (l.map (sgB d)) o = domPass k l o
  | [], k, o => rfl
  | b :: l, k, o => by rw [List.map_cons, domPass, domPass, sg_domBlock, sg_domPass d l]
theorem sg_domIter (d : Nat) (bs : List SBlock) : ∀ (n : Nat) (o : Dom), domIter (bs.map (sgB d)) n o = domIter bs n o
  | 0, o => rfl
  | n + 1, o => by
    rw [domIter, domIter, sg_domPass]
    split
    · exact sg_domIter d bs n _
    · rfl
theorem sg_dom (d : Nat) (bs : List SBlock) : domF (bs.map (sgB d)) = domF bs := by
  unfold domF
  rw [List.length_map, sg_domIter]
def sgD (d : Nat) (l : Defs) : Defs := l.map fun e => (sgF d e.1, e.2)
theorem sg_defsI (d : Nat) (k : Int) : ∀ (is : List SIns) (n : Int), defsI k n (is.map (sgI d)) = sgD d (defsI k n is)
  | [], n => rfl
  | i :: is, n => by
    rw [List.map_cons, defsI, defsI, sg_defsI d k is]
    rfl
theorem sg_defsP (d : Nat) (k : Int) (ps : List Int) : defsP k (ps.map (sgF d)) = sgD d (defsP k ps) := by
  unfold defsP sgD
  rw [List.map_map, List.map_map]
  rfl
theorem sg_defsL (d : Nat) : ∀ (l : List SBlock) (k : Int), defsL k (l.map (sgB d)) = sgD d (defsL k l)
  | [], k => rfl
  | b :: l, k => by
    rw [List.map_cons, defsL, defsL, sg_defsL d l]
    unfold defsB
    show defsP k (b.params.map (sgF d)) ++ defsI k 0 (b.ins.map (sgI d)) ++ _ = _
    rw [sg_defsP, sg_defsI]
    unfold sgD
    rw [List.map_append, List.map_append]
theorem sg_dget {d : Nat} (hd : d < 4096) (x : Int) : ∀ l : Defs, dget (sgD d l) (sgF d x) = dget l x
  | [] => rfl
  | (k, p) :: l => by
    show dget ((sgF d k, p) :: sgD d l) (sgF d x) = _
    rw [dget, dget, sg_dget hd x l]
    by_cases e : k = x
    · rw [if_pos e, if_pos (by rw [e])]
    · rw [if_neg e, if_neg (fun e2 => e (sg_inj hd e2))]
theorem sg_fine {d : Nat} (hd : d < 4096) (l : Defs) (o : Dom) (k : Nat) (at_ v : Int) : fineF (sgD d l) o k at_ (sgF d v) = fineF l o k at_ v := by
  unfold fineF
  rw [sg_dget hd]
theorem sg_all {d : Nat} {p q : Int → Bool} (h : ∀ v, p (sgF d v) = q v) (l : List Int) : (l.map (sgF d)).all p = l.all q := by
  rw [List.all_map]
  exact congrArg _ (funext h)
theorem sg_usesIns {d : Nat} (hd : d < 4096) (l : Defs) (o : Dom) (k : Nat) : ∀ (is : List SIns) (n : Int), usesIns (sgD d l) o k n (is.map (sgI d)) = usesIns l o k n is
  | [], n => rfl
  | i :: is, n => by
    rw [List.map_cons, usesIns, usesIns, sg_usesIns hd l o k is]
    show ((i.args.map (sgF d)).all _ && _) = _
    rw [sg_all (fun v => sg_fine hd l o k n v)]
theorem sg_used {d : Nat} {p q : Int → Bool} (h : ∀ v, p (sgF d v) = q v) (t : STerm) : usedF (sgT d t) p = usedF t q := by
  unfold usedF
  show (if (t.kind ≠ 1 ∧ t.kind ≠ 4) ∧ p (sgA d t) = false then false else (t.to.map (sgE d)).all fun e => e.args.all p) = _
  have h1 : ((t.to.map (sgE d)).all fun e => e.args.all p) = t.to.all fun e => e.args.all q := by
    rw [List.all_map]
    exact congrArg _ (funext fun e => sg_all h e.args)
  rw [h1]
  by_cases hk : t.kind ≠ 1 ∧ t.kind ≠ 4
  · have : sgA d t = sgF d t.arg := if_pos hk
    rw [this, h]
  · rw [if_neg (fun h => hk h.1), if_neg (fun h => hk h.1)]
theorem sg_uses {d : Nat} (hd : d < 4096) (l : Defs) (o : Dom) : ∀ (bs : List SBlock) (k : Nat), usesF (sgD d l) o k (bs.map (sgB d)) = usesF l o k bs
  | [], k => rfl
  | b :: bs, k => by
    rw [List.map_cons, usesF, usesF, sg_uses hd l o bs]
    show (if usesIns (sgD d l) o k 0 (b.ins.map (sgI d)) = false then _ else if usedF (sgT d b.term) (fineF (sgD d l) o k ((b.ins.map (sgI d)).length : Nat)) = false then _ else _) = _
    rw [sg_usesIns hd, List.length_map, sg_used (fun v => sg_fine hd l o k _ v)]
theorem sg_insN (d : Nat) : ∀ bs : List SBlock, insN (bs.map (sgB d)) = insN bs
  | [] => rfl
  | b :: bs => by
    rw [List.map_cons, insN, insN, sg_insN d bs]
    show (b.ins.map (sgI d)).length + _ = _
    rw [List.length_map]
theorem sg_ok {d : Nat} (hd : d < 4096) {f : SFunc} (h : funcF f = 0) : funcF (sgN d f) = 0 := by
  have fi := func_iff.1 h
  have hk : keys (defsL 0 (f.blocks.map (sgB d))) = (keys (defsL 0 f.blocks)).map (sgF d) := by
    rw [sg_defsL]
    unfold keys sgD
    rw [List.map_map, List.map_map]
    rfl
  refine func_iff.2 ⟨?_, ?_, ?_, ?_, fi.name, ⟨fun x hx => ?_, ?_, mem_zero_key⟩, fun c hc => ?_, ?_⟩
  · show 0 < (f.blocks.map (sgB d)).length
    rw [List.length_map]; exact fi.pos
  · show (f.blocks.map (sgB d)).length ≤ 128
    rw [List.length_map]; exact fi.len
  · show insN (f.blocks.map (sgB d)) ≤ 1024
    rw [sg_insN]; exact fi.ins
  · show (paramsOf (f.blocks.map (sgB d)) 0).length ≤ 6
    rw [sg_params, List.length_map]; exact fi.params
  · have hx : x ∈ keys (defsL 0 (f.blocks.map (sgB d))) := hx
    rw [hk] at hx
    obtain ⟨y, hy, rfl⟩ := List.mem_map.1 hx
    exact sg_wi (fi.kok.wi y hy)
  · show (keys (defsL 0 (f.blocks.map (sgB d)))).Nodup
    rw [hk, List.Nodup, List.pairwise_map]
    exact fi.kok.nodup.imp fun hne e => hne (sg_inj hd e)
  · obtain ⟨b, hb, rfl⟩ := List.mem_map.1 hc
    obtain ⟨b1, b2⟩ := fi.block b hb
    refine ⟨fun i hi => ?_, (sg_end d f.blocks b.term).trans b2⟩
    obtain ⟨j, hj, rfl⟩ := List.mem_map.1 hi
    rw [sg_form]
    exact b1 j hj
  · show usesF (defsL 0 (f.blocks.map (sgB d))) (domF (f.blocks.map (sgB d))) 0 (f.blocks.map (sgB d)) = 0
    rw [sg_defsL, sg_dom, sg_uses hd]
    exact fi.uses
theorem sg_get (d : Nat) (u : SUnit) (k : Nat) : (sgU d u).fns[k]? = (u.fns[k]?).map (sgN d) := List.getElem?_map ..
theorem sg_entry (d : Nat) (u : SUnit) (k : Int) : entryOf (sgU d u) k = (entryOf u k).map (sgF d) := by
  unfold entryOf
  rw [sg_get]
  cases u.fns[k.toNat]? with
  | none => rfl
  | some f => exact sg_params d f.blocks 0
theorem sg_call (d : Nat) (u : SUnit) (i : SIns) : callF (sgU d u) (sgI d i) = callF u i := by
  have h1 : (sgI d i).args.length = i.args.length := List.length_map ..
  have h2 : (sgU d u).fns.length = u.fns.length := List.length_map ..
  have h3 : (entryOf (sgU d u) (sgI d i).n).length = (entryOf u i.n).length := by rw [sg_entry, List.length_map]; rfl
  unfold callF
  rw [h1, h2, h3]
  rfl
theorem sg_unit {d : Nat} (hd : d < 4096) {u : SUnit} (h : unitF u = 0) : unitF (sgU d u) = 0 := by
  have hf := nw_fns h
  have hl : (sgU d u).fns.length = u.fns.length := List.length_map ..
  have hcalls : callsF u = 0 → callsF (sgU d u) = 0 := fun hcu => nw_all fun g hg => by
    obtain ⟨f, hfm, rfl⟩ := List.mem_map.1 hg
    have h1 := firstE_ok hcu f hfm
    refine nw_all fun c hc => ?_
    obtain ⟨b, hb, rfl⟩ := List.mem_map.1 hc
    have h2 := firstE_ok h1 b hb
    refine nw_all fun x hx => ?_
    obtain ⟨i, hi, rfl⟩ := List.mem_map.1 hx
    exact (sg_call d u i).trans (firstE_ok h2 i hi)
  have hfn : firstE funcF (sgU d u).fns = 0 := nw_all fun g hg => by
    obtain ⟨f, hfm, rfl⟩ := List.mem_map.1 hg
    exact sg_ok hd (hf f hfm)
  have hm : (sgU d u).main = u.main := rfl
  unfold unitF at h ⊢
  rw [hl, hm, hfn, sg_entry, List.length_map]
  split at h
  · cases h
  · rename_i g1
    rw [if_neg g1]
    split at h
    · cases h
    · rename_i g2
      rw [if_neg g2]
      split at h
      · cases h
      · rename_i g3
        rw [if_neg g3, if_neg (fun e => e rfl)]
        split at h
        · rename_i hn; exact absurd h hn
        · split at h
          · cases h
          · rename_i g5
            rw [if_neg g5]
            exact hcalls h
def SgV (d : Nat) (m m' : Vals) : Prop := ∀ x, vget m' (sgF d x) = vget m x
structure SgR (d : Nat) (f f' : MFrame) : Prop where
  fn : f'.fn = f.fn
  block : f'.block = f.block
  at_ : f'.at_ = f.at_
  vals : SgV d f.vals f'.vals
inductive SgS (d : Nat) : List MFrame → List MFrame → Prop where
  | nil : SgS d [] []
  | cons {f f' : MFrame} {fs fs' : List MFrame} : SgR d f f' → (fs ≠ [] → f'.to = sgF d f.to) → SgS d fs fs' → SgS d (f :: fs) (f' :: fs')
section
variable {d : Nat} (hd : d < 4096)
include hd
theorem SgV.put {m m' : Vals} (h : SgV d m m') (k : Int) (v : Val) : SgV d (vput m k v) (vput m' (sgF d k) v) := fun x => by
  rw [vget_vput, vget_vput, h x]
  by_cases e : k = x
  · rw [if_pos e, if_pos (by rw [e])]
  · rw [if_neg e, if_neg (fun e2 => e (sg_inj hd e2))]
theorem SgV.puts : ∀ {ps : List Int} {vs : List Val} {m m' : Vals}, SgV d m m' → SgV d (vputs m ps vs) (vputs m' (ps.map (sgF d)) vs)
  | [], vs, m, m', h => by cases vs <;> exact h
  | p :: ps, [], m, m', h => h
  | p :: ps, v :: vs, m, m', h => by
    rw [List.map_cons, vputs, vputs]
    exact SgV.puts (SgV.put hd h p v)
omit hd in
theorem SgV.take {m m' : Vals} (h : SgV d m m') (l : List Int) : takeF m' (l.map (sgF d)) = takeF m l := by
  unfold takeF
  rw [List.map_map]
  exact List.map_congr_left fun a _ => h a
variable {u : SUnit} (hu : unitF u = 0)
include hu
omit hd hu in
theorem sg_block {fn k : Int} {F : SFunc} {b : SBlock} (hF : u.fns[fn.toNat]? = some F) (hb : F.blocks[k.toNat]? = some b) : blockAt u fn k = b ∧ blockAt (sgU d u) fn k = sgB d b := by
  unfold blockAt
  rw [sg_get, hF]
  refine ⟨?_, ?_⟩
  · show (F.blocks[k.toNat]?).getD default = b
    rw [hb]; rfl
  · show ((F.blocks.map (sgB d))[k.toNat]?).getD default = sgB d b
    rw [List.getElem?_map, hb]; rfl
omit hu in
theorem sg_entered (n : Int) (args : List Val) (to to' : Int) : SgR d (entered u n args to) (entered (sgU d u) n args to') := by
  refine ⟨rfl, rfl, rfl, ?_⟩
  show SgV d (vputs [] (entryOf u n) args) (vputs [] (entryOf (sgU d u) n) args)
  rw [sg_entry]
  exact SgV.puts hd fun x => rfl
theorem sg_follow {f f' : MFrame} {F : SFunc} {b : SBlock} {e : SEdge} (h : SgR d f f') (hF : u.fns[f.fn.toNat]? = some F) (hb : F.blocks[e.block.toNat]? = some b) : SgR d (followF u f e) (followF (sgU d u) f' (sgE d e)) := by
  obtain ⟨e1, e2⟩ := sg_block (d := d) hF hb
  refine ⟨h.fn, rfl, rfl, ?_⟩
  show SgV d (vputs f.vals (blockAt u f.fn e.block).params (takeF f.vals e.args)) (vputs f'.vals (blockAt (sgU d u) f'.fn e.block).params (takeF f'.vals (e.args.map (sgF d))))
  rw [h.fn, e1, e2, h.vals.take]
  exact SgV.puts hd h.vals
theorem sg_step {M : Mach} {S' : List MFrame} (hM : MOk u M) (hS : SgS d M.stack S') : ∃ S'', SgS d (stepF u M).stack S'' ∧ stepF (sgU d u) (wst S' M) = wst S'' (stepF u M) := by
  cases hst : M.stack with
  | nil =>
    rw [hst] at hS
    cases hS
    have e : stepF u M = M := by unfold stepF; rw [hst]
    rw [e]
    exact ⟨[], by rw [hst]; exact .nil, rfl⟩
  | cons f fs =>
    rw [hst] at hS
    cases hS with
    | @cons _ f' _ fs' hf hto hfs =>
    obtain ⟨hf0, hb0, ⟨F, b, hF, hb, ha0, ha1⟩, _⟩ := hM.frames f (by rw [hst]; exact List.mem_cons_self ..)
    have hFm := List.mem_of_getElem? hF
    have hbm := List.mem_of_getElem? hb
    obtain ⟨eb, eb'⟩ := sg_block (d := d) hF hb
    have hstep : stepF u M = if f.at_ = (b.ins.length : Int) then termF u f b.term fs M else insF u { f with at_ := f.at_ + 1 } (b.ins[f.at_.toNat]?.getD default) fs (wst ({ f with at_ := f.at_ + 1 } :: fs) M) := by
      unfold stepF
      rw [hst]
      dsimp only
      rw [eb]
      rfl
    have hstep2 : stepF (sgU d u) (wst (f' :: fs') M) = if f.at_ = (b.ins.length : Int) then termF (sgU d u) f' (sgT d b.term) fs' (wst (f' :: fs') M) else insF (sgU d u) { f' with at_ := f'.at_ + 1 } ((b.ins.map (sgI d))[f.at_.toNat]?.getD default) fs' (wst ({ f' with at_ := f'.at_ + 1 } :: fs') M) := by
      unfold stepF
      show (if f'.at_ = ((blockAt (sgU d u) f'.fn f'.block).ins.length : Int) then termF (sgU d u) f' (blockAt (sgU d u) f'.fn f'.block).term fs' _ else insF (sgU d u) _ ((blockAt (sgU d u) f'.fn f'.block).ins[f'.at_.toNat]?.getD default) fs' _) = _
      rw [hf.fn, hf.block, eb', hf.at_]
      show (if f.at_ = ((b.ins.map (sgI d)).length : Int) then _ else _) = _
      rw [List.length_map]
      rfl
    rw [hstep, hstep2]
    by_cases h1 : f.at_ = (b.ins.length : Int)
    · rw [if_pos h1, if_pos h1]
      have hT : TermOk F b.term := ((unit_of hu).u).term F hFm b hbm
      have hsr : SgS d (f :: fs) (f' :: fs') := .cons hf hto hfs
      have go : ∀ k : Nat, k < b.term.to.length → ∃ S'', SgS d ({ M with stack := followF u f (edgeAt b.term k) :: fs } : Mach).stack S'' ∧ ({ wst (f' :: fs') M with stack := followF (sgU d u) f' (edgeAt (sgT d b.term) k) :: fs' } : Mach) = wst S'' { M with stack := followF u f (edgeAt b.term k) :: fs } := fun k hk => by
        obtain ⟨e, he⟩ := get_of_lt b.term.to k (by omega)
        have e1 : edgeAt b.term k = e := by unfold edgeAt; rw [he]; rfl
        have e2 : edgeAt (sgT d b.term) k = sgE d e := by
          unfold edgeAt
          show ((b.term.to.map (sgE d))[k]?).getD default = _
          rw [List.getElem?_map, he]; rfl
        obtain ⟨_, ⟨c, hc, _⟩, _⟩ := hT.edges e (List.mem_of_getElem? he)
        rw [e1, e2]
        exact ⟨_, .cons (sg_follow hd hu hf hF hc) hto hfs, rfl⟩
      have harg : b.term.kind ≠ 1 ∧ b.term.kind ≠ 4 → vget f'.vals (sgA d b.term) = vget f.vals b.term.arg := fun hk => by
        have : sgA d b.term = sgF d b.term.arg := if_pos hk
        rw [this]
        exact hf.vals _
      have same : ∀ X : Mach, X.stack = f :: fs → ∃ S'', SgS d X.stack S'' ∧ wst (f' :: fs') X = wst S'' X := fun X hX => ⟨_, by rw [hX]; exact hsr, rfl⟩
      unfold termF
      show ∃ S'', SgS d (if b.term.kind = 4 then stopF b.term.n 0 M else if b.term.kind = 1 then ({ M with stack := followF u f (edgeAt b.term 0) :: fs } : Mach) else if b.term.kind = 0 then leaveF f (vget f.vals b.term.arg) fs M else if (vget f.vals b.term.arg).kind ≠ 0 then stopF 5 0 M else ({ M with stack := followF u f (edgeAt b.term (choiceF b.term (vget f.vals b.term.arg).n).toNat) :: fs } : Mach)).stack S'' ∧
        (if b.term.kind = 4 then stopF b.term.n 0 (wst (f' :: fs') M) else if b.term.kind = 1 then ({ wst (f' :: fs') M with stack := followF (sgU d u) f' (edgeAt (sgT d b.term) 0) :: fs' } : Mach) else if b.term.kind = 0 then leaveF f' (vget f'.vals (sgA d b.term)) fs' (wst (f' :: fs') M) else if (vget f'.vals (sgA d b.term)).kind ≠ 0 then stopF 5 0 (wst (f' :: fs') M) else ({ wst (f' :: fs') M with stack := followF (sgU d u) f' (edgeAt (sgT d b.term) (choiceF b.term (vget f'.vals (sgA d b.term)).n).toNat) :: fs' } : Mach)) = wst S'' _
      by_cases k4 : b.term.kind = 4
      · rw [if_pos k4, if_pos k4]; exact same (stopF b.term.n 0 M) hst
      · rw [if_neg k4, if_neg k4]
        by_cases k1 : b.term.kind = 1
        · rw [if_pos k1, if_pos k1]; exact go 0 (hT.one k1)
        · rw [if_neg k1, if_neg k1, harg ⟨k1, k4⟩]
          by_cases k0 : b.term.kind = 0
          · rw [if_pos k0, if_pos k0]
            cases hfs with
            | nil => exact ⟨[], .nil, rfl⟩
            | @cons g g' gs gs' hg hgt hgs =>
              refine ⟨{ g' with vals := vput g'.vals f'.to (vget f.vals b.term.arg) } :: gs', .cons ⟨hg.fn, hg.block, hg.at_, ?_⟩ hgt hgs, rfl⟩
              rw [hto (by simp)]
              exact SgV.put hd hg.vals _ _
          · rw [if_neg k0, if_neg k0]
            by_cases kw : (vget f.vals b.term.arg).kind ≠ 0
            · rw [if_pos kw, if_pos kw]; exact same (stopF 5 0 M) hst
            · rw [if_neg kw, if_neg kw]
              have hch := choice_lt hT (vget f.vals b.term.arg).n k0 k1 k4
              exact go _ (by omega)
    · rw [if_neg h1, if_neg h1]
      obtain ⟨i, hi⟩ := get_of_lt b.ins f.at_.toNat (by omega)
      rw [List.getElem?_map, hi, Option.map_some, Option.getD_some, Option.getD_some]
      have hargs : takeF f'.vals (i.args.map (sgF d)) = takeF f.vals i.args := hf.vals.take i.args
      have hf1 : SgR d { f with at_ := f.at_ + 1 } { f' with at_ := f'.at_ + 1 } := ⟨hf.fn, hf.block, by show f'.at_ + 1 = f.at_ + 1; rw [hf.at_], hf.vals⟩
      have ent : ∀ n, ∃ S'', SgS d (enterF u n (takeF f.vals i.args) i.to (wst ({ f with at_ := f.at_ + 1 } :: fs) M)).stack S'' ∧ enterF (sgU d u) n (takeF f.vals i.args) (sgF d i.to) (wst ({ f' with at_ := f'.at_ + 1 } :: fs') M) = wst S'' (enterF u n (takeF f.vals i.args) i.to (wst ({ f with at_ := f.at_ + 1 } :: fs) M)) := fun n =>
        ⟨entered (sgU d u) n (takeF f.vals i.args) (sgF d i.to) :: { f' with at_ := f'.at_ + 1 } :: fs', .cons (sg_entered hd _ _ _ _) (fun _ => rfl) (.cons hf1 hto hfs), rfl⟩
      have e2 := exec_st i (takeF f.vals i.args) M ({ f' with at_ := f'.at_ + 1 } :: fs')
      have e1 := exec_st i (takeF f.vals i.args) M ({ f with at_ := f.at_ + 1 } :: fs)
      have ex : execF (sgI d i) (takeF f.vals i.args) (wst ({ f' with at_ := f'.at_ + 1 } :: fs') M) = execF i (takeF f.vals i.args) (wst ({ f' with at_ := f'.at_ + 1 } :: fs') M) := rfl
      unfold insF
      show ∃ S'', _ ∧ (if i.op = 13 then enterF (sgU d u) i.n (takeF f'.vals (i.args.map (sgF d))) (sgF d i.to) (wst ({ f' with at_ := f'.at_ + 1 } :: fs') M) else if i.op = 14 then if (argAt (takeF f'.vals (i.args.map (sgF d))) 0).kind = 2 ∧ (entryOf (sgU d u) (argAt (takeF f'.vals (i.args.map (sgF d))) 0).n).length = (takeF f'.vals (i.args.map (sgF d))).length then enterF (sgU d u) (argAt (takeF f'.vals (i.args.map (sgF d))) 0).n (takeF f'.vals (i.args.map (sgF d))) (sgF d i.to) (wst ({ f' with at_ := f'.at_ + 1 } :: fs') M) else stopF 5 0 (wst ({ f' with at_ := f'.at_ + 1 } :: fs') M) else
        ({ (if (execF (sgI d i) (takeF f'.vals (i.args.map (sgF d))) (wst ({ f' with at_ := f'.at_ + 1 } :: fs') M)).2.2 ≠ 0 then stopF (execF (sgI d i) (takeF f'.vals (i.args.map (sgF d))) (wst ({ f' with at_ := f'.at_ + 1 } :: fs') M)).2.2 0 (execF (sgI d i) (takeF f'.vals (i.args.map (sgF d))) (wst ({ f' with at_ := f'.at_ + 1 } :: fs') M)).1 else (execF (sgI d i) (takeF f'.vals (i.args.map (sgF d))) (wst ({ f' with at_ := f'.at_ + 1 } :: fs') M)).1) with stack := { f' with at_ := f'.at_ + 1, vals := vput f'.vals (sgF d i.to) (execF (sgI d i) (takeF f'.vals (i.args.map (sgF d))) (wst ({ f' with at_ := f'.at_ + 1 } :: fs') M)).2.1 } :: fs' } : Mach)) = _
      dsimp only
      rw [hargs, sg_entry, List.length_map, ex]
      by_cases o13 : i.op = 13
      · rw [if_pos o13, if_pos o13]; exact ent _
      · rw [if_neg o13, if_neg o13]
        by_cases o14 : i.op = 14
        · rw [if_pos o14, if_pos o14]
          by_cases hc : (argAt (takeF f.vals i.args) 0).kind = 2 ∧ (entryOf u (argAt (takeF f.vals i.args) 0).n).length = (takeF f.vals i.args).length
          · rw [if_pos hc, if_pos hc]; exact ent _
          · rw [if_neg hc, if_neg hc]
            exact ⟨_, .cons hf1 hto hfs, rfl⟩
        · rw [if_neg o14, if_neg o14, e1, e2]
          dsimp only
          refine ⟨{ f' with at_ := f'.at_ + 1, vals := vput f'.vals (sgF d i.to) (execF i (takeF f.vals i.args) M).2.1 } :: fs', .cons ⟨hf1.fn, hf1.block, hf1.at_, SgV.put hd hf.vals _ _⟩ hto hfs, ?_⟩
          by_cases hx : (execF i (takeF f.vals i.args) M).2.2 ≠ 0
          · rw [if_pos hx, if_pos hx]; rfl
          · rw [if_neg hx, if_neg hx]; rfl
theorem sg_go : ∀ (n : Nat) (M : Mach) (S' : List MFrame), Good u M → SgS d M.stack S' → ∃ S'', goF (sgU d u) n (wst S' M) = wst S'' (goF u n M)
  | 0, M, S', _, _ => ⟨S', rfl⟩
  | n + 1, M, S', hg, hS => by
    cases ho : M.over with
    | true =>
      rw [goF_over ho, goF_over (M := wst S' M) ho]
      exact ⟨S', rfl⟩
    | false =>
      have hp2 : payF 1 (wst S' M) = wst S' (payF 1 M) := pay_st 1 M S'
      cases hp : (payF 1 M).short with
      | true =>
        rw [goF_short ho n hp, goF_short (M := wst S' M) ho n (by rw [hp2]; exact hp), hp2]
        exact ⟨S', rfl⟩
      | false =>
        obtain ⟨e1, hl1⟩ := payF_ok hp
        rw [goF_step ho n hp, goF_step (M := wst S' M) ho n (by rw [hp2]; exact hp), hp2, e1]
        have hg2 := good_step ((unit_of hu).u) hg ho hl1
        have hM1 : MOk u { M with left := M.left - 1 } := by
          have := hg.1
          exact ⟨this.frames, this.heap, this.out, by show 0 ≤ M.left - 1; omega, by have h9 := this.left; show M.left - 1 + (M.stack.length : Int) ≤ 1000001; omega⟩
        obtain ⟨S2, h2, e2⟩ := sg_step hd hu hM1 (S' := S') hS
        rw [e2]
        exact sg_go n _ S2 hg2 h2
theorem sg_run {fuel : Int} (h1 : 1 ≤ fuel) (h2 : fuel ≤ 1000000) : runF (sgU d u) fuel = runF u fuel := by
  have hv := sg_unit hd hu
  have hU := (unit_of hu).u
  rw [run_perform hu h1 h2, run_perform hv h1 h2, perform_eq, perform_eq]
  have hst : startF (sgU d u) fuel = wst [entered (sgU d u) u.main [] 0] (startF u fuel) := rfl
  obtain ⟨S'', e⟩ := sg_go hd hu (fuel.toNat + 1) (startF u fuel) [entered (sgU d u) u.main [] 0] (good_start hU (by omega) h2) (.cons (sg_entered hd _ _ _ _) (fun h => absurd rfl h) .nil)
  rw [hst, e]
  rfl
end
end Go.SM
end
section
set_option linter.unusedVariables false
set_option linter.unusedSimpArgs false
namespace Go.SM
open Go.VL
end Go.SM
end
section
set_option linter.unusedVariables false
set_option linter.unusedSimpArgs false
set_option linter.unusedSectionVars false
namespace Go.SM
open Go.VL
def reP (π : Nat → Nat) (b : SBlock) : SBlock := { b with term := { b.term with to := b.term.to.map fun e => ⟨((π e.block.toNat : Nat) : Int), e.args⟩ } }
structure PermOk (bs gs : List SBlock) (π : Nat → Nat) : Prop where
  perm : gs.Perm (bs.map (reP π))
  at_ : ∀ v b, bs[v]? = some b → gs[π v]? = some (reP π b)
  inj : ∀ v w, v < bs.length → w < bs.length → π v = π w → v = w
  surj : ∀ i, i < bs.length → ∃ v, v < bs.length ∧ π v = i
  zero : π 0 = 0
section
variable {bs gs : List SBlock} {π : Nat → Nat} (h : PermOk bs gs π)
include h
variable (hE : ∀ b ∈ bs, ∀ e ∈ b.term.to, 1 ≤ e.block ∧ e.block < bs.length)
include hE
end
end Go.SM
end
section
set_option linter.unusedVariables false
set_option linter.unusedSimpArgs false
namespace Go.SM
open Go.VL
end Go.SM
end
