import Derived.Test.YtmmmgamhffbkbaaSZ
import Derived.Test.YtmmmgamhffbkbaaW1
import Derived.Test.YtmmmgamhffbkbaaS2
section
set_option linter.unusedVariables false
namespace Go.SM
open Go.VL
def predE (k : Nat) (P : List (List Int)) (e : SEdge) : List (List Int) := P.set e.block.toNat ((P[e.block.toNat]?.getD []) ++ [(k : Int)])
def predB (k : Nat) (P : List (List Int)) (b : SBlock) : List (List Int) := b.term.to.foldl (predE k) P
def predL : Nat → List SBlock → List (List Int) → List (List Int)
  | _, [], P => P
  | k, b :: l, P => predL (k + 1) l (predB k P b)
def predsF (bs : List SBlock) : List (List Int) := predL 0 bs (List.replicate bs.length [])
def edgesN : List SBlock → Nat
  | [] => 0
  | b :: l => b.term.to.length + edgesN l
theorem term_edges {f : SFunc} (h : FuncOk f) {b : SBlock} (hb : b ∈ f.blocks) : b.term.to.length ≤ 257 := by
  have he := endF_ok (h.block hb).2
  have hm := he.many
  have hs := he.shape
  unfold shapeF at hs
  repeat' split at hs
  all_goals first | (simp only [Bool.and_eq_true, decide_eq_true_eq] at hs; omega) | cases hs
theorem FuncOk.edges {f : SFunc} (h : FuncOk f) : ∀ b ∈ f.blocks, ∀ e ∈ b.term.to, 1 ≤ e.block ∧ e.block < f.blocks.length := blocks_edges h.blocks
end Go.SM
end
section
set_option linter.unusedVariables false
set_option linter.unusedSimpArgs false
namespace Go.SM
open Go.VL
structure DState where
  seen : List Bool
  stack : List (Nat × Nat)
  out : List Nat
def toAt (bs : List SBlock) (b : Nat) : List SEdge := ((bs[b]?).map (·.term.to)).getD []
def Edge (bs : List SBlock) (p v : Nat) : Prop := ∃ x ∈ toAt bs p, x.block.toNat = v
def dfsStep (bs : List SBlock) (s : DState) : DState :=
  match s.stack with
  | [] => s
  | (b, e) :: st =>
    match (toAt bs b)[e]? with
    | none => ⟨s.seen, st, s.out ++ [b]⟩
    | some x => if s.seen[x.block.toNat]? = some false then ⟨s.seen.set x.block.toNat true, (x.block.toNat, 0) :: (b, e + 1) :: st, s.out⟩ else ⟨s.seen, (b, e + 1) :: st, s.out⟩
def dfsRun (bs : List SBlock) : Nat → DState → DState
  | 0, s => s
  | n + 1, s => if s.stack = [] then s else dfsRun bs n (dfsStep bs s)
def dfsStart (n : Nat) : DState := ⟨(List.replicate n false).set 0 true, [(0, 0)], []⟩
def postF (bs : List SBlock) : List Nat := (dfsRun bs (edgesN bs + bs.length) (dfsStart bs.length)).out
def orderF (bs : List SBlock) : List Nat := (postF bs).reverse
theorem toAt_get {bs : List SBlock} {k : Nat} {b : SBlock} (h : bs[k]? = some b) : toAt bs k = b.term.to := by rw [toAt, h]; rfl
structure DfsInv0 (bs : List SBlock) (s : DState) : Prop where
  len : s.seen.length = bs.length
  stk : ∀ x ∈ s.stack, x.1 < bs.length ∧ x.2 ≤ (toAt bs x.1).length ∧ s.seen[x.1]? = some true
def StackOk (bs : List SBlock) : List (Nat × Nat) → Prop
  | [] => True
  | [x] => x.1 = 0
  | x :: y :: st => Edge bs y.1 x.1 ∧ StackOk bs (y :: st)
def seenB (s : DState) (v : Nat) : Prop := s.seen[v]? = some true
structure DfsInv (bs : List SBlock) (s : DState) : Prop extends DfsInv0 bs s where
  out : ∀ v ∈ s.out, v < bs.length ∧ seenB s v
  nodup : (s.stack.map (·.1) ++ s.out).Nodup
  cover : ∀ v, seenB s v → v ∈ s.stack.map (·.1) ∨ v ∈ s.out
  closedO : ∀ v ∈ s.out, ∀ x ∈ toAt bs v, seenB s x.block.toNat
  closedS : ∀ y ∈ s.stack, ∀ i x, i < y.2 → (toAt bs y.1)[i]? = some x → seenB s x.block.toNat
  chain : StackOk bs s.stack
  par : ∀ (i v : Nat), s.out[i]? = some v → v ≠ 0 → ∃ p, Edge bs p v ∧ (p ∈ s.stack.map (·.1) ∨ ∃ j, i < j ∧ s.out[j]? = some p)
  root : s.stack = [] → ∃ l, s.out = l ++ [0]
theorem StackOk.tail {bs : List SBlock} {x : Nat × Nat} : ∀ {st : List (Nat × Nat)}, StackOk bs (x :: st) → StackOk bs st
  | [], _ => trivial
  | y :: st, h => h.2
theorem nodup_lt {l : List Nat} {n : Nat} (h : l.Nodup) (hr : ∀ v ∈ l, v < n) : l.length ≤ n := by
  have := h.length_le_of_subset (l₂ := List.range n) fun v hv => List.mem_range.2 (hr v hv)
  simpa using this
structure OrderOk (bs : List SBlock) (l : List Nat) : Prop where
  nodup : l.Nodup
  lt : ∀ v ∈ l, v < bs.length
  zero : l[0]? = some 0
  closed : ∀ v ∈ l, ∀ w, Edge bs v w → w ∈ l
  par : ∀ (j v : Nat), l[j]? = some v → v ≠ 0 → ∃ i p, i < j ∧ l[i]? = some p ∧ Edge bs p v
end Go.SM
end
section
set_option linter.unusedVariables false
set_option linter.unusedSimpArgs false
set_option linter.unusedSectionVars false
namespace Go.SM
open Go.VL
def gI (l : List Int) (i : Int) : Int := l[i.toNat]?.getD 0
def meetF (ov pl : List Int) : Nat → Int → Int → Int
  | 0, a, _ => a
  | n + 1, a, b => if a = b then a else if gI pl a > gI pl b then meetF ov pl n (gI ov a) b else meetF ov pl n a (gI ov b)
def skipP (ov pl : List Int) (p : Int) : Bool := decide (gI pl p < 0) || (decide (p ≠ 0) && decide (gI ov p < 0))
def nextL (ov pl : List Int) (m : Nat) : Int → List Int → Int
  | cur, [] => cur
  | cur, p :: ps => nextL ov pl m (if skipP ov pl p then cur else if cur < 0 then p else meetF ov pl m cur p) ps
def placeF (ord : List Int) (n : Nat) : List Int := (List.range n).map fun k : Nat => idxOf (fun x => decide ((k : Int) = x)) ord
structure TState where
  ov : List Int
  again : Bool
def ordZ (bs : List SBlock) : List Int := (orderF bs).map fun k : Nat => (k : Int)
def placeZ (bs : List SBlock) : List Int := placeF (ordZ bs) bs.length
theorem idx_nat {l : List Nat} {v : Nat} : idxOf (fun x => decide ((v : Int) = x)) (l.map fun k : Nat => (k : Int)) = -1 ∧ v ∉ l ∨ ∃ i, idxOf (fun x => decide ((v : Int) = x)) (l.map fun k : Nat => (k : Int)) = (i : Nat) ∧ l[i]? = some v := by
  rcases idxOf_range (fun x => decide ((v : Int) = x)) (l.map fun k : Nat => (k : Int)) with ⟨h1, h2⟩ | ⟨i, x, h1, h2, h3, _⟩
  · refine .inl ⟨h1, fun hm => ?_⟩
    rw [List.any_eq_false] at h2
    exact h2 (v : Int) (List.mem_map.2 ⟨v, hm, rfl⟩) (by simp)
  · refine .inr ⟨i, h1, ?_⟩
    rw [List.getElem?_map] at h2
    obtain ⟨w, hw, rfl⟩ := Option.map_eq_some_iff.1 h2
    rw [hw]
    have : (v : Int) = (w : Int) := by simpa using h3
    congr 1
    omega
theorem place_get {bs : List SBlock} {v : Nat} (hv : v < bs.length) : gI (placeZ bs) v = -1 ∧ v ∉ orderF bs ∨ ∃ i, gI (placeZ bs) v = (i : Nat) ∧ (orderF bs)[i]? = some v := by
  have : gI (placeZ bs) v = idxOf (fun x => decide ((v : Int) = x)) (ordZ bs) := by
    unfold gI placeZ placeF
    rw [Int.toNat_natCast, List.getElem?_map, List.getElem?_range hv]
    rfl
  rw [this]
  exact idx_nat
def pos (bs : List SBlock) (v : Nat) : Nat := (gI (placeZ bs) v).toNat
section
variable {bs : List SBlock} (ho : OrderOk bs (orderF bs))
include ho
theorem place_of {v : Nat} (hv : v ∈ orderF bs) : gI (placeZ bs) v = (pos bs v : Nat) ∧ (orderF bs)[pos bs v]? = some v := by
  rcases place_get (ho.lt v hv) with ⟨_, h⟩ | ⟨i, h1, h2⟩
  · exact absurd hv h
  · unfold pos
    rw [h1, Int.toNat_natCast]
    exact ⟨rfl, h2⟩
theorem pos_inj {v w : Nat} (hv : v ∈ orderF bs) (hw : w ∈ orderF bs) (h : pos bs v = pos bs w) : v = w := by
  have h1 := (place_of ho hv).2
  have h2 := (place_of ho hw).2
  rw [h, h2] at h1
  injection h1 with h1
  exact h1.symm
theorem pos_lt {v : Nat} (hv : v ∈ orderF bs) : pos bs v < bs.length := by
  have := (List.getElem?_eq_some_iff.1 (place_of ho hv).2).1
  have := nodup_lt ho.nodup ho.lt
  omega
open Classical in
omit ho in
noncomputable def pi (bs : List SBlock) (v : Nat) : Nat := if h : ∃ p, p ∈ orderF bs ∧ pos bs p < pos bs v ∧ Edge bs p v then Classical.choose h else 0
end
inductive Anc (ov : List Int) : Nat → Nat → Prop where
  | refl (a : Nat) : Anc ov a a
  | step {a q x : Nat} : ov[a]? = some (q : Int) → Anc ov q x → Anc ov a x
inductive AncP (bs : List SBlock) : Nat → Nat → Prop where
  | refl (a : Nat) : AncP bs a a
  | step {a x : Nat} : a ≠ 0 → AncP bs (pi bs a) x → AncP bs a x
theorem Anc.trans {ov : List Int} {a b c : Nat} (h : Anc ov a b) (k : Anc ov b c) : Anc ov a c := by
  induction h with
  | refl => exact k
  | step h _ ih => exact .step h (ih k)
structure Tree (bs : List SBlock) (ov : List Int) : Prop where
  len : ov.length = bs.length
  root : ov[0]? = some (-1)
  out : ∀ v, v < bs.length → v ∉ orderF bs → ov[v]? = some (-1)
  up : ∀ (v : Nat) (x : Int), v ∈ orderF bs → v ≠ 0 → ov[v]? = some x → 0 ≤ x → ∃ q : Nat, x = q ∧ q ∈ orderF bs ∧ pos bs q < pos bs v ∧ (q = 0 ∨ ∃ y : Int, ov[q]? = some y ∧ 0 ≤ y)
  low : ∀ (v : Nat) (x : Int), ov[v]? = some x → x < 0 → x = -1
def InT (bs : List SBlock) (ov : List Int) (v : Nat) : Prop := v ∈ orderF bs ∧ (v = 0 ∨ ∃ x : Int, ov[v]? = some x ∧ 0 ≤ x)
section
variable {bs : List SBlock} (ho : OrderOk bs (orderF bs)) {ov : List Int}
include ho
theorem Tree.parent (h : Tree bs ov) {v : Nat} (hv : InT bs ov v) (h0 : v ≠ 0) : ∃ q : Nat, ov[v]? = some (q : Int) ∧ InT bs ov q ∧ pos bs q < pos bs v := by
  obtain ⟨hm, hv⟩ := hv
  rcases hv with hv | ⟨x, hx, hx0⟩
  · exact absurd hv h0
  · obtain ⟨q, rfl, h1, h2, h3⟩ := h.up v x hm h0 hx hx0
    exact ⟨q, hx, ⟨h1, h3⟩, h2⟩
theorem Tree.anc (h : Tree bs ov) {v x : Nat} (hv : InT bs ov v) (ha : Anc ov v x) : InT bs ov x ∧ pos bs x ≤ pos bs v ∧ (x ≠ v → pos bs x < pos bs v) := by
  induction ha with
  | refl a => exact ⟨hv, Nat.le_refl _, fun h => absurd rfl h⟩
  | @step a q x hq _ ih =>
    by_cases h0 : a = 0
    · subst h0
      rw [h.root] at hq
      injection hq with hq
      omega
    · obtain ⟨q', hq', hi, hp⟩ := h.parent ho hv h0
      rw [hq] at hq'
      injection hq' with hq'
      have : q = q' := by omega
      subst this
      have := ih hi
      exact ⟨this.1, by omega, fun _ => by omega⟩
theorem Tree.zero (h : Tree bs ov) {x : Nat} (ha : Anc ov 0 x) : x = 0 := by
  cases ha with
  | refl => rfl
  | step hq _ =>
    rw [h.root] at hq
    injection hq with hq
    omega
theorem Tree.cases (h : Tree bs ov) {v q x : Nat} (hq : ov[v]? = some (q : Int)) (ha : Anc ov v x) : x = v ∨ Anc ov q x := by
  cases ha with
  | refl => exact .inl rfl
  | @step _ q' _ hq' k =>
    rw [hq] at hq'
    injection hq' with hq'
    have : q = q' := by omega
    subst this
    exact .inr k
theorem Tree.chain (h : Tree bs ov) {v x y : Nat} (hv : InT bs ov v) (hx : Anc ov v x) (hy : Anc ov v y) (hp : pos bs x ≤ pos bs y) : Anc ov y x := by
  induction hx with
  | refl a =>
    have := h.anc ho hv hy
    have : pos bs y = pos bs a := by omega
    rw [pos_inj ho (h.anc ho hv hy).1.1 hv.1 this]
    exact .refl _
  | @step a q x hq ha ih =>
    by_cases h0 : a = 0
    · subst h0
      rw [h.root] at hq
      injection hq with hq
      omega
    · obtain ⟨q', hq', hi, _⟩ := h.parent ho hv h0
      rw [hq] at hq'
      injection hq' with hq'
      have : q = q' := by omega
      subst this
      rcases h.cases ho hq hy with rfl | hy
      · exact .step hq ha
      · exact ih hi hy hp
theorem InT.fuel {v : Nat} (h : InT bs ov v) : pos bs v < bs.length := pos_lt ho h.1
end
end Go.SM
end
section
set_option linter.unusedVariables false
set_option linter.unusedSimpArgs false
set_option linter.unusedSectionVars false
namespace Go.SM
open Go.VL
structure TInv (bs : List SBlock) (ov : List Int) (i : Nat) : Prop where
  tree : Tree bs ov
  done : ∀ (j v : Nat), j < i → (orderF bs)[j]? = some v → InT bs ov v
  down : ∀ (v w : Nat), InT bs ov v → w ∈ orderF bs → pos bs w < pos bs v → InT bs ov w
  anc : ∀ (v x : Nat), InT bs ov v → Anc ov v x → AncP bs v x
  most : ∀ (v q : Nat), InT bs ov v → v ≠ 0 → ov[v]? = some (q : Int) → ∀ y, (∀ p, Edge bs p v → InT bs ov p → Anc ov p y) → pos bs y ≤ pos bs q
  past : ∀ (v : Nat), v ∈ orderF bs → pos bs v < i → ∀ q x, AncP bs v q → Anc ov v x → pos bs x ≤ pos bs q → Anc ov q x
theorem AncP.ne {bs : List SBlock} {v x : Nat} (h : AncP bs v x) (hx : x ≠ v) : v ≠ 0 ∧ AncP bs (pi bs v) x := by
  cases h with
  | refl => exact absurd rfl hx
  | step h0 k => exact ⟨h0, k⟩
def hW (bs : List SBlock) (x : Int) : Nat := if x < 0 then bs.length else pos bs x.toNat
section
variable {bs : List SBlock} (ho : OrderOk bs (orderF bs)) (hE : ∀ b ∈ bs, ∀ e ∈ b.term.to, 1 ≤ e.block ∧ e.block < bs.length) {ov : List Int}
include ho
structure TreeOk (bs : List SBlock) (ov : List Int) : Prop where
  inv : TInv bs ov 1
  all : ∀ v, v ∈ orderF bs → InT bs ov v
  fix : ∀ v, v ∈ orderF bs → v ≠ 0 → gI ov v = nextL ov (placeZ bs) (2 * bs.length + 1) (-1) ((predsF bs)[v]?.getD [])
end
end Go.SM
end
section
set_option linter.unusedVariables false
set_option linter.unusedSimpArgs false
set_option linter.unusedSectionVars false
namespace Go.SM
open Go.VL
section
variable {bs : List SBlock} (ho : OrderOk bs (orderF bs)) {ov : List Int}
include ho
structure Up (bs : List SBlock) (ov : List Int) (a : Nat) (l : List Int) (k : Int) (n : Nat) : Prop where
  len : l.length = n
  at_ : k = -1 ∨ ∃ v : Nat, k = v ∧ InT bs ov v ∧ n + pos bs v ≤ pos bs a
  mem : ∀ y : Nat, Anc ov a y ↔ (y : Int) ∈ l ∨ ∃ v : Nat, k = v ∧ Anc ov v y
  le : n ≤ bs.length
omit ho in
structure Climb (bs : List SBlock) (ov : List Int) (a b : Nat) (v n : Nat) : Prop where
  at_ : Anc ov b v
  bound : n + pos bs v ≤ pos bs b
  none : ∀ y, Anc ov b y → pos bs v < pos bs y → ¬ Anc ov a y
omit ho in
end
end Go.SM
end
section
set_option linter.unusedVariables false
set_option linter.unusedSimpArgs false
namespace Go.SM
open Go.VL
def reachL (f : SFunc) : List Int := (ordZ f.blocks).mergeSort fun x y => decide (x ≤ y)
section
variable {bs : List SBlock} (ho : OrderOk bs (orderF bs)) {ov : List Int}
include ho
end
end Go.SM
end
section
set_option linter.unusedVariables false
set_option linter.unusedSimpArgs false
namespace Go.SM
open Go.VL
section
variable {bs : List SBlock} (ho : OrderOk bs (orderF bs)) {ov : List Int}
include ho
end
end Go.SM
end
section
set_option linter.unusedVariables false
set_option linter.unusedSimpArgs false
namespace Go.SM
open Go.VL
theorem again_keep {n : Nat} {d d' : Dom} (h : StepW n d d') (ha : d'.again = false) : d' = d := by
  rcases h.2 with h | ⟨h, _⟩
  · exact h
  · rw [ha] at h; cases h
theorem edges_fix {n k : Nat} (hk : k < n) : ∀ {l : List SEdge} {d : Dom}, DomOk n d → (∀ e ∈ l, 1 ≤ e.block ∧ e.block < n) → (l.foldl (domEdge k) d).again = false → l.foldl (domEdge k) d = d ∧ ∀ e ∈ l, domEdge k d e = d
  | [], d, _, _, _ => ⟨rfl, fun e he => by cases he⟩
  | e :: l, d, ok, h, ha => by
    have h1 := domEdge_w ok hk (h e (List.mem_cons_self ..)).1 (h e (List.mem_cons_self ..)).2
    have hl := fun x hx => h x (List.mem_cons_of_mem e hx)
    have h2 := edges_w hk h1.1 hl
    rw [List.foldl_cons] at ha ⊢
    have e2 := again_keep h2 ha
    have e1 : domEdge k d e = d := again_keep h1 (by rw [← e2]; exact ha)
    rw [e1] at ha ⊢
    obtain ⟨g1, g2⟩ := edges_fix hk ok hl ha
    refine ⟨g1, fun x hx => ?_⟩
    rcases List.mem_cons.1 hx with rfl | hx
    · exact e1
    · exact g2 x hx
theorem block_fix {n k : Nat} {b : SBlock} {d : Dom} (hk : k < n) (ok : DomOk n d) (h : ∀ e ∈ b.term.to, 1 ≤ e.block ∧ e.block < n) (ha : (domBlock d k b).again = false) : domBlock d k b = d ∧ (d.seen.has k = true → ∀ e ∈ b.term.to, domEdge k d e = d) := by
  unfold domBlock at ha ⊢
  split
  · rename_i hs
    rw [if_pos hs] at ha
    obtain ⟨h1, h2⟩ := edges_fix hk ok h ha
    exact ⟨h1, fun _ => h2⟩
  · rename_i hs
    exact ⟨rfl, fun h => absurd h hs⟩
theorem pass_fix {n : Nat} : ∀ {l : List SBlock} {k : Nat} {d : Dom}, k + l.length = n → DomOk n d → (∀ b ∈ l, ∀ e ∈ b.term.to, 1 ≤ e.block ∧ e.block < n) → (domPass k l d).again = false →
    ∀ (j : Nat) (b : SBlock), l[j]? = some b → d.seen.has (k + j) = true → ∀ e ∈ b.term.to, domEdge (k + j) d e = d
  | [], k, d, _, _, _, _, j, b, hb => by simp at hb
  | c :: l, k, d, hl, ok, h, ha, j, b, hb => by
    have hl' : k + (l.length + 1) = n := hl
    have h1 := block_w (k := k) (by omega) ok (h c (List.mem_cons_self ..))
    have hr := fun x hx => h x (List.mem_cons_of_mem c hx)
    have h2 := pass_w (l := l) (k := k + 1) (by omega) h1.1 hr
    rw [domPass] at ha
    have e2 := again_keep h2 ha
    have ha1 : (domBlock d k c).again = false := by rw [← e2]; exact ha
    obtain ⟨e1, g⟩ := block_fix (by omega) ok (h c (List.mem_cons_self ..)) ha1
    rw [e1] at ha
    cases j with
    | zero =>
      simp at hb
      subst hb
      exact g
    | succ j =>
      simp at hb
      have := pass_fix (by omega) ok hr ha j b hb
      rwa [show k + 1 + j = k + (j + 1) by omega] at this
structure DomFix (bs : List SBlock) (d : Dom) : Prop where
  ok : DomOk bs.length d
  seen0 : d.seen.has 0 = true
  at0 : d.at 0 = BSet.with noSet 0
  fix : ∀ (k : Nat) (b : SBlock), bs[k]? = some b → d.seen.has k = true → ∀ e ∈ b.term.to, domEdge k d e = d
def DomZ (n : Nat) (d : Dom) : Prop := d.seen.has 0 = true ∧ d.at 0 = BSet.with noSet 0
theorem edge_z {n k : Nat} {d : Dom} {e : SEdge} (ok : DomOk n d) (h1 : 1 ≤ e.block) (h2 : e.block < n) (hz : DomZ n d) : DomZ n (domEdge k d e) := by
  unfold domEdge
  dsimp only
  have hn := ok.le
  split
  · refine ⟨?_, ?_⟩
    · rw [has_with _ (by omega) (by omega), hz.1]; rfl
    · rw [at_set (by rw [ok.len]; omega), if_neg (by omega)]; exact hz.2
  · exact hz
theorem edges_z {n k : Nat} (hk : k < n) : ∀ {l : List SEdge} {d : Dom}, DomOk n d → (∀ e ∈ l, 1 ≤ e.block ∧ e.block < n) → DomZ n d → DomZ n (l.foldl (domEdge k) d)
  | [], d, _, _, hz => hz
  | e :: l, d, ok, h, hz => by
    have he := h e (List.mem_cons_self ..)
    show DomZ n (l.foldl (domEdge k) (domEdge k d e))
    exact edges_z (l := l) hk (domEdge_w ok hk he.1 he.2).1 (fun x hx => h x (List.mem_cons_of_mem e hx)) (edge_z ok he.1 he.2 hz)
theorem block_z {n k : Nat} {b : SBlock} {d : Dom} (hk : k < n) (ok : DomOk n d) (h : ∀ e ∈ b.term.to, 1 ≤ e.block ∧ e.block < n) (hz : DomZ n d) : DomZ n (domBlock d k b) := by
  unfold domBlock
  split
  · exact edges_z hk ok h hz
  · exact hz
theorem pass_z {n : Nat} : ∀ {l : List SBlock} {k : Nat} {d : Dom}, k + l.length = n → DomOk n d → (∀ b ∈ l, ∀ e ∈ b.term.to, 1 ≤ e.block ∧ e.block < n) → DomZ n d → DomZ n (domPass k l d)
  | [], k, d, _, _, _, hz => hz
  | c :: l, k, d, hl, ok, h, hz => by
    have hl' : k + (l.length + 1) = n := hl
    show DomZ n (domPass (k + 1) l (domBlock d k c))
    exact pass_z (l := l) (by omega) (block_w (k := k) (by omega) ok (h c (List.mem_cons_self ..))).1 (fun x hx => h x (List.mem_cons_of_mem c hx)) (block_z (by omega) ok (h c (List.mem_cons_self ..)) hz)
theorem domIter_fix {bs : List SBlock} (h : ∀ b ∈ bs, ∀ e ∈ b.term.to, 1 ≤ e.block ∧ e.block < bs.length) : ∀ (n : Nat) (d : Dom), DomOk bs.length d → DomZ bs.length d → weight bs.length d + (if d.again then 1 else 0) ≤ n → (d.again = false → DomFix bs d) → DomFix bs (domIter bs n d)
  | 0, d, ok, hz, hw, hf => by
    cases ha : d.again with
    | false => exact hf ha
    | true => rw [ha, if_pos rfl] at hw; omega
  | n + 1, d, ok, hz, hw, hf => by
    cases ha : d.again with
    | false => rw [domIter, if_neg (by rw [ha]; decide)]; exact hf ha
    | true =>
      obtain ⟨n', e, h1, h2, h3⟩ := round ok h hw ha
      have : n = n' := by omega
      subst this
      have ok0 : DomOk bs.length { d with again := false } := ⟨ok.len, ok.le, ok.self⟩
      have hz1 : DomZ bs.length (domPass 0 bs { d with again := false }) := pass_z (by omega) ok0 h hz
      rw [h1]
      refine domIter_fix h n _ h2 hz1 h3 fun ha2 => ?_
      have e2 := again_keep (pass_w (l := bs) (k := 0) (by omega) ok0 h) ha2
      have hfx := pass_fix (l := bs) (k := 0) (by omega) ok0 h ha2
      rw [e2] at hz1 ⊢
      exact ⟨ok0, hz1.1, hz1.2, fun k b hb hs => by have := hfx k b hb (by rw [Nat.zero_add]; exact hs); rwa [Nat.zero_add] at this⟩
theorem dom_fix {bs : List SBlock} (h0 : 0 < bs.length) (hn : bs.length ≤ 128) (h : ∀ b ∈ bs, ∀ e ∈ b.term.to, 1 ≤ e.block ∧ e.block < bs.length) : DomFix bs (domF bs) := by
  refine domIter_fix h _ _ (start_ok h0 hn) ⟨?_, ?_⟩ ?_ fun h => by cases h
  · show (BSet.with noSet 0).has 0 = true
    rw [has_with _ (by omega) (by omega)]
    simp
  · unfold domStart Dom.at
    rw [List.getElem?_set, if_pos rfl, if_pos (by simpa using h0)]
    rfl
  · have := start_w bs.length
    have ha : (domStart bs.length).again = true := rfl
    rw [ha, if_pos rfl, domFuel]
    omega
inductive Way (bs : List SBlock) : List Nat → Nat → Prop where
  | start : Way bs [] 0
  | step {l : List Nat} {p k : Nat} : Way bs l p → Edge bs p k → Way bs (p :: l) k
theorem dom_way {bs : List SBlock} {d : Dom} (hd : DomFix bs d) (h : ∀ b ∈ bs, ∀ e ∈ b.term.to, 1 ≤ e.block ∧ e.block < bs.length) {l : List Nat} {k : Nat} (hw : Way bs l k) : d.seen.has k = true ∧ k < 128 ∧ ∀ j, j < 128 → (d.at k).has j = true → j = k ∨ j ∈ l := by
  induction hw with
  | start =>
    refine ⟨hd.seen0, by omega, fun j hj hh => ?_⟩
    rw [hd.at0, has_with _ (by omega) hj, has_no, Bool.false_or, decide_eq_true_eq] at hh
    exact .inl hh
  | @step l p k hw he ih =>
    obtain ⟨hs, hp, ih⟩ := ih
    obtain ⟨e, hem, rfl⟩ := he
    obtain ⟨b, hb, hem⟩ : ∃ b, bs[p]? = some b ∧ e ∈ b.term.to := by
      unfold toAt at hem
      cases hb : bs[p]? with
      | none => rw [hb] at hem; cases hem
      | some b => rw [hb] at hem; exact ⟨b, rfl, hem⟩
    have hr := h b (List.mem_of_getElem? hb) e hem
    have hn := hd.ok.le
    have ht : e.block.toNat < 128 := by omega
    have hfx := hd.fix p b hb hs e hem
    unfold domEdge at hfx
    dsimp only at hfx
    split at hfx
    · rename_i hc
      -- a change cannot leave all as it was
      exfalso
      have h1 : (d.over.set e.block.toNat (((d.at e.block.toNat).both (d.at p)).with e.block.toNat))[e.block.toNat]? = d.over[e.block.toNat]? := by
        have := congrArg Dom.over hfx
        dsimp only at this
        rw [this]
      have h2 := congrArg Dom.seen hfx
      dsimp only at h2
      rcases hc with hc | hc
      · rw [List.getElem?_set, if_pos rfl, if_pos (by rw [hd.ok.len]; omega)] at h1
        have h3 : d.at e.block.toNat = ((d.at e.block.toNat).both (d.at p)).with e.block.toNat := (congrArg (fun o : Option BSet => o.getD noSet) h1).symm
        exact hc h3.symm
      · rw [← h2, has_with _ ht ht] at hc
        simp at hc
    · rename_i hc
      rw [not_or] at hc
      obtain ⟨h1, h2⟩ := hc
      have h1 := Classical.not_not.1 h1
      refine ⟨by simpa using h2, ht, fun j hj hh => ?_⟩
      rw [← h1, has_with _ ht hj, has_both, Bool.or_eq_true, Bool.and_eq_true, decide_eq_true_eq] at hh
      rcases hh with hh | hh
      · rcases ih j hj hh.2 with h3 | h3
        · exact .inr (by rw [h3]; exact List.mem_cons_self ..)
        · exact .inr (List.mem_cons_of_mem _ h3)
      · exact .inl hh
end Go.SM
end
section
set_option linter.unusedVariables false
set_option linter.unusedSimpArgs false
set_option linter.unusedSectionVars false
namespace Go.SM
open Go.VL
def Doms (bs : List SBlock) (x v : Nat) : Prop := ∀ l, Way bs l v → x = v ∨ x ∈ l
theorem doms_pred {bs : List SBlock} {x p v : Nat} (h : Doms bs x v) (hx : x ≠ v) (he : Edge bs p v) : Doms bs x p := fun l hl => by
  rcases h _ (.step hl he) with e | e
  · exact absurd e hx
  · rcases List.mem_cons.1 e with e | e
    · exact .inl e
    · exact .inr e
section
variable {bs : List SBlock} (ho : OrderOk bs (orderF bs)) (hE : ∀ b ∈ bs, ∀ e ∈ b.term.to, 1 ≤ e.block ∧ e.block < bs.length) {ov : List Int}
include ho
end
end Go.SM
end
section
set_option linter.unusedVariables false
set_option linter.unusedSimpArgs false
namespace Go.SM
open Go.VL
structure DomMost (bs : List SBlock) (d : Dom) : Prop where
  most : ∀ k j : Nat, k < bs.length → j < bs.length → Doms bs j k → (d.at k).has j = true
  seen : ∀ k : Nat, k < 128 → d.seen.has k = true → ∃ l, Way bs l k
theorem most_start {bs : List SBlock} (h0 : 0 < bs.length) (hn : bs.length ≤ 128) : DomMost bs (domStart bs.length) := by
  refine ⟨fun k j hk hj hd => ?_, fun k hk hs => ?_⟩
  · unfold domStart Dom.at
    dsimp only
    rw [List.getElem?_set]
    split
    · rename_i e
      subst e
      rw [if_pos (by simpa using h0)]
      rcases hd [] .start with e | e
      · subst e
        show (BSet.with noSet 0).has 0 = true
        rw [has_with _ (by omega) (by omega)]
        simp
      · cases e
    · rw [List.getElem?_replicate, if_pos hk]
      show (allSet bs.length).has j = true
      rw [has_all _ hn j (by omega)]
      exact decide_eq_true hj
  · have hs : (BSet.with noSet 0).has k = true := hs
    rw [has_with _ (by omega) hk, has_no, Bool.false_or, decide_eq_true_eq] at hs
    subst hs
    exact ⟨[], .start⟩
theorem most_edge {bs : List SBlock} (hn : bs.length ≤ 128) {d : Dom} (ok : DomOk bs.length d) {k : Nat} {e : SEdge} (hk : k < bs.length) (he : e ∈ toAt bs k) (h1 : 1 ≤ e.block) (h2 : e.block < bs.length) (hs : d.seen.has k = true) (h : DomMost bs d) : DomMost bs (domEdge k d e) := by
  unfold domEdge
  dsimp only
  have hte : Edge bs k e.block.toNat := ⟨e, he, rfl⟩
  split
  · refine ⟨fun v j hv hj hd => ?_, fun v hv hsv => ?_⟩
    · rw [at_set (by rw [ok.len]; omega)]
      split
      · rename_i e1
        subst e1
        rw [has_with _ (by omega) (by omega), has_both]
        by_cases hjt : j = e.block.toNat
        · rw [decide_eq_true hjt, Bool.or_true]
        · rw [h.most _ j hv hj hd, h.most k j hk hj (doms_pred hd hjt hte)]
          rfl
      · exact h.most v j hv hj hd
    · have hsv : (d.seen.with e.block.toNat).has v = true := hsv
      rw [has_with _ (by omega) hv, Bool.or_eq_true, decide_eq_true_eq] at hsv
      rcases hsv with hsv | rfl
      · exact h.seen v hv hsv
      · obtain ⟨l, hl⟩ := h.seen k (by omega) hs
        exact ⟨_, .step hl hte⟩
  · exact h
theorem seen_edge {n k : Nat} {d : Dom} {e : SEdge} (hn : n ≤ 128) (hk : k < n) (h1 : 1 ≤ e.block) (h2 : e.block < n) (hs : d.seen.has k = true) : (domEdge k d e).seen.has k = true := by
  unfold domEdge
  dsimp only
  split
  · rw [has_with _ (by omega) (by omega), hs]; rfl
  · exact hs
theorem most_edges {bs : List SBlock} (hn : bs.length ≤ 128) {k : Nat} (hk : k < bs.length) : ∀ {l : List SEdge} {d : Dom}, DomOk bs.length d → (∀ e ∈ l, e ∈ toAt bs k) → (∀ e ∈ l, 1 ≤ e.block ∧ e.block < bs.length) → d.seen.has k = true → DomMost bs d → DomMost bs (l.foldl (domEdge k) d)
  | [], d, _, _, _, _, h => h
  | e :: l, d, ok, hl, hb, hs, h => by
    have he := hb e (List.mem_cons_self ..)
    show DomMost bs (l.foldl (domEdge k) (domEdge k d e))
    exact most_edges hn hk (l := l) (domEdge_w ok hk he.1 he.2).1 (fun x hx => hl x (List.mem_cons_of_mem _ hx)) (fun x hx => hb x (List.mem_cons_of_mem _ hx)) (seen_edge hn hk he.1 he.2 hs) (most_edge hn ok hk (hl e (List.mem_cons_self ..)) he.1 he.2 hs h)
theorem most_block {bs : List SBlock} (hn : bs.length ≤ 128) {k : Nat} {b : SBlock} {d : Dom} (hb : bs[k]? = some b) (ok : DomOk bs.length d) (hE : ∀ e ∈ b.term.to, 1 ≤ e.block ∧ e.block < bs.length) (h : DomMost bs d) : DomMost bs (domBlock d k b) := by
  unfold domBlock
  split
  · rename_i hs
    exact most_edges hn (List.getElem?_eq_some_iff.1 hb).1 ok (fun e he => by rw [toAt_get hb]; exact he) hE hs h
  · exact h
theorem most_pass {bs : List SBlock} (hn : bs.length ≤ 128) (hE : ∀ b ∈ bs, ∀ e ∈ b.term.to, 1 ≤ e.block ∧ e.block < bs.length) : ∀ {l : List SBlock} {k : Nat} {d : Dom}, bs.drop k = l → DomOk bs.length d → DomMost bs d → DomMost bs (domPass k l d)
  | [], k, d, _, _, h => h
  | c :: l, k, d, hl, ok, h => by
    have hb : bs[k]? = some c := by
      have h9 : (bs.drop k)[0]? = some c := by rw [hl]; rfl
      rwa [List.getElem?_drop, Nat.add_zero] at h9
    have hl2 : bs.drop (k + 1) = l := by
      have h9 : (bs.drop k).drop 1 = l := by rw [hl]; rfl
      rwa [List.drop_drop] at h9
    have hk := (List.getElem?_eq_some_iff.1 hb).1
    have hc := hE c (List.mem_of_getElem? hb)
    show DomMost bs (domPass (k + 1) l (domBlock d k c))
    exact most_pass hn hE hl2 (block_w hk ok hc).1 (most_block hn hb ok hc h)
theorem most_iter {bs : List SBlock} (hn : bs.length ≤ 128) (hE : ∀ b ∈ bs, ∀ e ∈ b.term.to, 1 ≤ e.block ∧ e.block < bs.length) : ∀ (n : Nat) (d : Dom), DomOk bs.length d → DomMost bs d → DomMost bs (domIter bs n d)
  | 0, d, _, h => h
  | n + 1, d, ok, h => by
    rw [domIter]
    split
    · have ok0 : DomOk bs.length { d with again := false } := ⟨ok.len, ok.le, ok.self⟩
      exact most_iter hn hE n _ (pass_w (l := bs) (k := 0) (by omega) ok0 hE).1 (most_pass hn hE rfl ok0 ⟨h.most, h.seen⟩)
    · exact h
theorem dom_most {bs : List SBlock} (h0 : 0 < bs.length) (hn : bs.length ≤ 128) (hE : ∀ b ∈ bs, ∀ e ∈ b.term.to, 1 ≤ e.block ∧ e.block < bs.length) : DomMost bs (domF bs) := most_iter hn hE _ _ (start_ok h0 hn) (most_start h0 hn)
theorem has_iff {bs : List SBlock} (h0 : 0 < bs.length) (hn : bs.length ≤ 128) (hE : ∀ b ∈ bs, ∀ e ∈ b.term.to, 1 ≤ e.block ∧ e.block < bs.length) {k j : Nat} (hk : ∃ l, Way bs l k) (hkl : k < bs.length) (hj : j < bs.length) : ((domF bs).at k).has j = true ↔ Doms bs j k :=
  ⟨fun h l hw => (dom_way (dom_fix h0 hn hE) hE hw).2.2 j (by omega) h, (dom_most h0 hn hE).most k j hkl hj⟩
theorem seen_iff {bs : List SBlock} (h0 : 0 < bs.length) (hn : bs.length ≤ 128) (hE : ∀ b ∈ bs, ∀ e ∈ b.term.to, 1 ≤ e.block ∧ e.block < bs.length) {k : Nat} (hk : k < 128) : (domF bs).seen.has k = true ↔ ∃ l, Way bs l k :=
  ⟨(dom_most h0 hn hE).seen k hk, fun ⟨l, hw⟩ => (dom_way (dom_fix h0 hn hE) hE hw).1⟩
end Go.SM
end
section
set_option linter.unusedVariables false
set_option linter.unusedSimpArgs false
namespace Go.SM
open Go.VL
abbrev keys (d : Defs) : List Int := d.map (·.1)
structure KOk (d new : Defs) : Prop where
  wi : ∀ x ∈ keys new, wi x 0 4095 = true
  nodup : (keys new).Nodup
  fresh : ∀ x ∈ keys new, x ∉ keys d
theorem kok_nil (d : Defs) : KOk d [] := ⟨by simp, by simp, by simp⟩
theorem kok_append {d a b : Defs} : KOk d (a ++ b) ↔ KOk d a ∧ KOk (d ++ a) b := by
  constructor
  · rintro ⟨h1, h2, h3⟩
    simp only [keys, List.map_append] at h1 h2 h3
    obtain ⟨n1, n2, n3⟩ := List.nodup_append.1 h2
    refine ⟨⟨fun x hx => h1 x (List.mem_append_left _ hx), n1, fun x hx => h3 x (List.mem_append_left _ hx)⟩, ⟨fun x hx => h1 x (List.mem_append_right _ hx), n2, fun x hx => ?_⟩⟩
    simp only [keys, List.map_append, List.mem_append, not_or]
    exact ⟨h3 x (List.mem_append_right _ hx), fun hm => n3 x hm x hx rfl⟩
  · rintro ⟨⟨a1, a2, a3⟩, ⟨b1, b2, b3⟩⟩
    simp only [keys, List.map_append] at b3
    refine ⟨fun x hx => ?_, ?_, fun x hx => ?_⟩ <;> simp only [keys, List.map_append] at *
    · rcases List.mem_append.1 hx with h | h
      · exact a1 x h
      · exact b1 x h
    · exact List.nodup_append.2 ⟨a2, b2, fun x hx y hy e => by subst e; exact b3 x hy (List.mem_append_right _ hx)⟩
    · rcases List.mem_append.1 hx with h | h
      · exact a3 x h
      · exact fun hm => b3 x h (List.mem_append_left _ hm)
theorem kok_one {d : Defs} {v : Int} {p : Int × Int} : KOk d [(v, p)] ↔ wi v 0 4095 = true ∧ v ∉ keys d := by
  constructor
  · rintro ⟨h1, _, h3⟩
    exact ⟨h1 v (by simp), h3 v (by simp)⟩
  · rintro ⟨h1, h2⟩
    exact ⟨fun x hx => by simp at hx; subst hx; exact h1, by simp, fun x hx => by simp at hx; subst hx; exact h2⟩
theorem dget_out {v : Int} : ∀ {d : Defs}, dget d v = none ↔ v ∉ keys d
  | [] => by simp [dget]
  | (k, p) :: d => by
    rw [dget]
    split
    · rename_i e
      subst e
      simp
    · rename_i e
      rw [dget_out]
      simp only [keys, List.map_cons, List.mem_cons, not_or]
      exact ⟨fun h => ⟨fun e2 => e e2.symm, h⟩, fun h => h.2⟩
theorem define_iff {v : Int} {p : Int × Int} {d : Defs} : (defineF v p d).1 = 0 ↔ KOk d [(v, p)] := by
  rw [kok_one]
  unfold defineF
  cases hw : wi v 0 4095 with
  | false => simp
  | true =>
    rw [if_neg (by decide)]
    cases hd : dget d v with
    | none =>
      rw [if_neg (by decide)]
      exact ⟨fun _ => ⟨rfl, dget_out.1 hd⟩, fun _ => rfl⟩
    | some x =>
      rw [if_pos (show (some x).isSome = true from rfl)]
      have : ¬ v ∉ keys d := fun h => by rw [dget_out.2 h] at hd; cases hd
      exact ⟨fun h => absurd (show (7 : Int) = 0 from h) (by decide), fun h => absurd h.2 this⟩
theorem define_eq {v : Int} {p : Int × Int} {d : Defs} (h : (defineF v p d).1 = 0) : (defineF v p d).2 = d ++ [(v, p)] := by
  have h2 := h
  rw [define_iff, kok_one] at h2
  unfold defineF
  rw [if_neg (by rw [h2.1]; decide), dget_out.2 h2.2, if_neg (by decide)]
theorem params_iff {k : Int} : ∀ {ps : List Int} {d : Defs}, ((paramsF k ps d).1 = 0 ↔ KOk d (defsP k ps)) ∧ ((paramsF k ps d).1 = 0 → (paramsF k ps d).2 = d ++ defsP k ps)
  | [], d => ⟨⟨fun _ => kok_nil d, fun _ => rfl⟩, fun _ => by simp [paramsF, defsP]⟩
  | p :: ps, d => by
    have hc : defsP k (p :: ps) = [(p, (k, 0))] ++ defsP k ps := rfl
    rw [hc, kok_append, paramsF]
    by_cases h : (defineF p (k, 0) d).1 = 0
    · rw [if_neg (fun h2 => h2 h)]
      have he := define_eq h
      obtain ⟨h1, h2⟩ := params_iff (k := k) (ps := ps) (d := (defineF p (k, 0) d).2)
      rw [he] at h1 h2
      rw [he]
      exact ⟨⟨fun h3 => ⟨define_iff.1 h, h1.1 h3⟩, fun h3 => h1.2 h3.2⟩, fun h3 => by rw [h2 h3, List.append_assoc]⟩
    · rw [if_pos h]
      exact ⟨⟨fun h3 => absurd h3 h, fun h3 => absurd (define_iff.2 h3.1) h⟩, fun h3 => absurd h3 h⟩
theorem inss_iff {k : Int} : ∀ {is : List SIns} {n : Int} {d : Defs}, ((inssF k n is d).1 = 0 ↔ KOk d (defsI k n is) ∧ ∀ i ∈ is, formF i = 0) ∧ ((inssF k n is d).1 = 0 → (inssF k n is d).2 = d ++ defsI k n is)
  | [], n, d => ⟨⟨fun _ => ⟨kok_nil d, fun i hi => by cases hi⟩, fun _ => rfl⟩, fun _ => by simp [inssF, defsI]⟩
  | i :: is, n, d => by
    have hc : defsI k n (i :: is) = [(i.to, (k, n + 1))] ++ defsI k (n + 1) is := rfl
    rw [hc, kok_append, inssF]
    by_cases h : (defineF i.to (k, n + 1) d).1 = 0
    · rw [if_neg (fun h2 => h2 h)]
      have he := define_eq h
      by_cases hf : formF i = 0
      · rw [if_neg (fun h2 => h2 hf)]
        obtain ⟨h1, h2⟩ := inss_iff (k := k) (is := is) (n := n + 1) (d := (defineF i.to (k, n + 1) d).2)
        rw [he] at h1 h2
        rw [he]
        refine ⟨⟨fun h3 => ?_, fun h3 => ?_⟩, fun h3 => by rw [h2 h3, List.append_assoc]⟩
        · have h4 := h1.1 h3
          refine ⟨⟨define_iff.1 h, h4.1⟩, fun j hj => ?_⟩
          rcases List.mem_cons.1 hj with rfl | hj
          · exact hf
          · exact h4.2 j hj
        · exact h1.2 ⟨h3.1.2, fun j hj => h3.2 j (List.mem_cons_of_mem _ hj)⟩
      · rw [if_pos hf]
        exact ⟨⟨fun h3 => absurd h3 hf, fun h3 => absurd (h3.2 i (List.mem_cons_self ..)) hf⟩, fun h3 => absurd h3 hf⟩
    · rw [if_pos h]
      exact ⟨⟨fun h3 => absurd h3 h, fun h3 => absurd (define_iff.2 h3.1.1) h⟩, fun h3 => absurd h3 h⟩
theorem block_iff {bs : List SBlock} {k : Int} {b : SBlock} {d : Defs} : ((blockF bs k b d).1 = 0 ↔ KOk d (defsB k b) ∧ blockOk bs b) ∧ ((blockF bs k b d).1 = 0 → (blockF bs k b d).2 = d ++ defsB k b) := by
  unfold blockF defsB blockOk
  rw [kok_append]
  obtain ⟨p1, p2⟩ := params_iff (k := k) (ps := b.params) (d := d)
  by_cases hp : (paramsF k b.params d).1 = 0
  · rw [if_neg (fun h => h hp)]
    rw [p2 hp]
    obtain ⟨i1, i2⟩ := inss_iff (k := k) (is := b.ins) (n := 0) (d := d ++ defsP k b.params)
    by_cases hi : (inssF k 0 b.ins (d ++ defsP k b.params)).1 = 0
    · rw [if_neg (fun h => h hi)]
      dsimp only
      rw [i2 hi]
      exact ⟨⟨fun h => ⟨⟨p1.1 hp, (i1.1 hi).1⟩, (i1.1 hi).2, h⟩, fun h => h.2.2⟩, fun h => List.append_assoc ..⟩
    · rw [if_pos hi]
      exact ⟨⟨fun h => absurd h hi, fun h => absurd (i1.2 ⟨h.1.2, h.2.1⟩) hi⟩, fun h => absurd h hi⟩
  · rw [if_pos hp]
    exact ⟨⟨fun h => absurd h hp, fun h => absurd (p1.2 h.1.1) hp⟩, fun h => absurd h hp⟩
theorem blocks_iff {bs : List SBlock} : ∀ {l : List SBlock} {k : Int} {d : Defs}, ((blocksF bs k l d).1 = 0 ↔ KOk d (defsL k l) ∧ ∀ b ∈ l, blockOk bs b) ∧ ((blocksF bs k l d).1 = 0 → (blocksF bs k l d).2 = d ++ defsL k l)
  | [], k, d => ⟨⟨fun _ => ⟨kok_nil d, fun i hi => by cases hi⟩, fun _ => rfl⟩, fun _ => by simp [blocksF, defsL]⟩
  | b :: l, k, d => by
    rw [defsL, kok_append, blocksF]
    obtain ⟨b1, b2⟩ := block_iff (bs := bs) (k := k) (b := b) (d := d)
    by_cases h : (blockF bs k b d).1 = 0
    · rw [if_neg (fun h2 => h2 h), b2 h]
      obtain ⟨h1, h2⟩ := blocks_iff (bs := bs) (l := l) (k := k + 1) (d := d ++ defsB k b)
      refine ⟨⟨fun h3 => ?_, fun h3 => ?_⟩, fun h3 => by rw [h2 h3, List.append_assoc]⟩
      · have h4 := h1.1 h3
        refine ⟨⟨(b1.1 h).1, h4.1⟩, fun j hj => ?_⟩
        rcases List.mem_cons.1 hj with rfl | hj
        · exact (b1.1 h).2
        · exact h4.2 j hj
      · exact h1.2 ⟨h3.1.2, fun j hj => h3.2 j (List.mem_cons_of_mem _ hj)⟩
    · rw [if_pos h]
      exact ⟨⟨fun h3 => absurd h3 h, fun h3 => absurd (b1.2 ⟨h3.1.1, h3.2 b (List.mem_cons_self ..)⟩) h⟩, fun h3 => absurd h3 h⟩
theorem dget_at {v : Int} {p : Int × Int} : ∀ {d : Defs}, (keys d).Nodup → (dget d v = some p ↔ (v, p) ∈ d)
  | [], _ => by simp [dget]
  | (k, q) :: d, h => by
    obtain ⟨h1, h2⟩ := List.nodup_cons.1 (show (k :: keys d).Nodup from h)
    rw [dget]
    split
    · rename_i e
      subst e
      constructor
      · intro e; injection e with e; subst e; exact List.mem_cons_self ..
      · intro hm
        rcases List.mem_cons.1 hm with e | hm
        · injection e with _ e; rw [e]
        · exact absurd (List.mem_map.2 ⟨_, hm, rfl⟩) h1
    · rename_i e
      rw [dget_at h2]
      constructor
      · intro hm; exact List.mem_cons_of_mem _ hm
      · intro hm
        rcases List.mem_cons.1 hm with e2 | hm
        · injection e2 with e2 _; exact absurd e2.symm e
        · exact hm
def dI : Int → List SIns → List (Int × Int)
  | _, [] => []
  | n, i :: is => (i.to, n + 1) :: dI (n + 1) is
def dB (b : SBlock) : List (Int × Int) := b.params.map (fun p => (p, 0)) ++ dI 0 b.ins
theorem defsI_eq (k : Int) : ∀ (is : List SIns) (n : Int), defsI k n is = (dI n is).map fun e => (e.1, (k, e.2))
  | [], n => rfl
  | i :: is, n => by rw [defsI, dI, List.map_cons, defsI_eq k is]
theorem defsB_eq (k : Int) (b : SBlock) : defsB k b = (dB b).map fun e => (e.1, (k, e.2)) := by
  unfold defsB dB defsP
  rw [List.map_append, List.map_map, defsI_eq]
  rfl
theorem defsL_at {x : Int × Int × Int} : ∀ {l : List SBlock} {k : Int}, x ∈ defsL k l ↔ ∃ (j : Nat) (b : SBlock), l[j]? = some b ∧ x.2.1 = k + j ∧ (x.1, x.2.2) ∈ dB b
  | [], k => by simp [defsL]
  | c :: l, k => by
    rw [defsL, List.mem_append, defsL_at (l := l), defsB_eq, List.mem_map]
    constructor
    · rintro (⟨e, he, rfl⟩ | ⟨j, b, hb, h1, h2⟩)
      · exact ⟨0, c, rfl, by simp, he⟩
      · exact ⟨j + 1, b, by simpa using hb, by rw [h1]; simp; omega, h2⟩
    · rintro ⟨j, b, hb, h1, h2⟩
      cases j with
      | zero =>
        have hb : c = b := by simpa using hb
        subst hb
        refine .inl ⟨_, h2, ?_⟩
        obtain ⟨a, b, e⟩ := x
        have h1 : b = k + (0 : Nat) := h1
        rw [show b = k by rw [h1]; simp]
      | succ j => exact .inr ⟨j, b, by simpa using hb, by rw [h1]; simp; omega, h2⟩
theorem keysI_len : ∀ (is : List SIns) (n : Int), (dI n is).length = is.length
  | [], n => rfl
  | i :: is, n => by rw [dI, List.length_cons, keysI_len is, List.length_cons]
def insN : List SBlock → Nat
  | [] => 0
  | b :: l => b.ins.length + insN l
theorem keysL : ∀ (l : List SBlock) (k : Int), keys (defsL k l) = l.flatMap fun b => (dB b).map (·.1)
  | [], k => rfl
  | b :: l, k => by
    rw [defsL, keys, List.map_append, List.flatMap_cons]
    have h := keysL l (k + 1)
    rw [keys] at h
    rw [h, defsB_eq, List.map_map]
    rfl
theorem insN_le : ∀ (l : List SBlock), insN l ≤ (l.flatMap fun b => (dB b).map (·.1)).length
  | [] => Nat.le_refl _
  | b :: l => by
    have h := insN_le l
    rw [insN, List.flatMap_cons, List.length_append, List.length_map, dB, List.length_append, keysI_len]
    omega
theorem nodup_wi {l : List Int} (h : l.Nodup) (hw : ∀ x ∈ l, wi x 0 4095 = true) : l.length ≤ 4096 := by
  have h1 := nodup_lt (l := l.map Int.toNat) (n := 4096) ?_ fun v hv => by
    obtain ⟨x, hx, rfl⟩ := List.mem_map.1 hv
    have := wi_iff.1 (hw x hx)
    omega
  · rwa [List.length_map] at h1
  · rw [List.Nodup, List.pairwise_map]
    refine List.Pairwise.imp_of_mem (fun {a c} ha hc hne e => hne ?_) h
    have h1 := wi_iff.1 (hw a ha)
    have h2 := wi_iff.1 (hw c hc)
    omega
theorem count_eq : ∀ (l : List SBlock) (n : Int), 0 ≤ n → n + insN l ≤ 9223372036854775807 → countIns n l = n + insN l
  | [], n, _, _ => by simp [countIns, insN]
  | b :: l, n, h0, h => by
    rw [insN] at h
    rw [countIns, insN]
    have e : IntKind.i64.wrap (n + b.ins.length) = n + b.ins.length := by rw [IntKind.wrap_i64]; omega
    rw [e, count_eq l _ (by omega) (by omega)]
    omega
structure FuncIs (f : SFunc) : Prop where
  pos : 0 < f.blocks.length
  len : f.blocks.length ≤ 128
  ins : insN f.blocks ≤ 1024
  params : (paramsOf f.blocks 0).length ≤ 6
  name : wi f.name (-1) 1048575 = true
  kok : KOk [] (defsL 0 f.blocks)
  block : ∀ b ∈ f.blocks, blockOk f.blocks b
  uses : usesF (defsL 0 f.blocks) (domF f.blocks) 0 f.blocks = 0
theorem func_iff {f : SFunc} : funcF f = 0 ↔ FuncIs f := by
  constructor
  · intro h
    have hok := func_ok h
    obtain ⟨h1, h2⟩ := blocks_iff (bs := f.blocks) (l := f.blocks) (k := 0) (d := [])
    have h3 := h1.1 hok.blocks
    have h4 := h2 hok.blocks
    have hu := hok.uses
    rw [h4, List.nil_append] at hu
    have hl := nodup_wi h3.1.nodup h3.1.wi
    rw [keysL] at hl
    have hi := insN_le f.blocks
    have hc := hok.ins
    rw [count_eq _ _ (by omega) (by omega)] at hc
    exact ⟨hok.pos, hok.len, by omega, hok.params, wi_iff.2 hok.name, h3.1, h3.2, hu⟩
  · intro h
    obtain ⟨h1, h2⟩ := blocks_iff (bs := f.blocks) (l := f.blocks) (k := 0) (d := [])
    have h3 := h1.2 ⟨h.kok, h.block⟩
    have h4 := h2 h3
    have a1 := h.pos
    have a2 := h.len
    have a3 := h.ins
    have a4 := h.params
    unfold funcF
    rw [if_neg (by omega), if_neg (by rw [count_eq _ _ (by omega) (by omega)]; omega), if_neg (by rw [h.name]; decide), if_neg (fun hn => hn h3), h4, List.nil_append]
    exact h.uses
end Go.SM
end
section
set_option linter.unusedVariables false
set_option linter.unusedSimpArgs false
namespace Go.SM
open Go.VL
def atF (f : SFunc) : List Int := placeF (reachL f) f.blocks.length
def reachN (f : SFunc) : List Nat := (List.range f.blocks.length).filter fun v => decide (v ∈ orderF f.blocks)
section
variable {f : SFunc} (ho : OrderOk f.blocks (orderF f.blocks))
include ho
end
theorem edgesF_iff {bs : List SBlock} : ∀ {l : List SEdge}, (∀ e ∈ l, 1 ≤ e.block ∧ e.block < bs.length ∧ e.args.length = (paramsOf bs e.block).length) → edgesF bs l = 0
  | [], _ => rfl
  | e :: l, h => by
    have h1 := h e (List.mem_cons_self ..)
    rw [edgesF, if_neg (by rw [wi_iff.2 ⟨h1.1, by omega⟩]; decide), if_neg (fun hn => hn h1.2.2)]
    exact edgesF_iff fun x hx => h x (List.mem_cons_of_mem _ hx)
theorem usesF_iff {d : Defs} {o : Dom} : ∀ {l : List SBlock} {k : Nat}, usesF d o k l = 0 ↔ ∀ (j : Nat) (b : SBlock), l[j]? = some b → usesIns d o (k + j) 0 b.ins = true ∧ usedF b.term (fineF d o (k + j) b.ins.length) = true
  | [], k => by simp [usesF]
  | c :: l, k => by
    rw [usesF]
    constructor
    · intro h j b hb
      split at h
      · cases h
      · rename_i h1
        split at h
        · cases h
        · rename_i h2
          cases j with
          | zero =>
            have hb : c = b := by simpa using hb
            subst hb
            exact ⟨by simpa using h1, by simpa using h2⟩
          | succ j =>
            have := usesF_iff.1 h j b (by simpa using hb)
            rwa [show k + 1 + j = k + (j + 1) by omega] at this
    · intro h
      have h0 := h 0 c rfl
      rw [Nat.add_zero] at h0
      rw [if_neg (by rw [h0.1]; decide), if_neg (by rw [h0.2]; decide)]
      exact usesF_iff.2 fun j b hb => by
        have := h (j + 1) b (by simpa using hb)
        rwa [show k + (j + 1) = k + 1 + j by omega] at this
theorem usesIns_imp {d d' : Defs} {o o' : Dom} {k k' : Nat} (h : ∀ n u, fineF d o k n u = true → fineF d' o' k' n u = true) : ∀ {is : List SIns} {n : Int}, usesIns d o k n is = true → usesIns d' o' k' n is = true
  | [], n, _ => rfl
  | i :: is, n, hu => by
    rw [usesIns, Bool.and_eq_true, List.all_eq_true] at hu ⊢
    exact ⟨fun u hu2 => h n u (hu.1 u hu2), usesIns_imp h hu.2⟩
theorem mem_zero_key {d : Defs} : (∀ x ∈ keys d, x ∉ keys ([] : Defs)) := fun x _ h => by cases h
end Go.SM
end
section
set_option linter.unusedVariables false
set_option linter.unusedSimpArgs false
set_option linter.unusedSectionVars false
namespace Go.SM
open Go.VL
def renT (r : Int → Int) (t : STerm) : STerm := { t with to := t.to.map fun e => ⟨r e.block, e.args⟩ }
structure Ren (u v : SUnit) (ρ : Int → Int → Int) (good : Int → Int → Prop) : Prop where
  main : v.main = u.main
  entry : ∀ k, entryOf v k = entryOf u k
  zero : ∀ fn, good fn 0 ∧ ρ fn 0 = 0
  blk : ∀ fn k, good fn k → (blockAt v fn (ρ fn k)).params = (blockAt u fn k).params ∧ (blockAt v fn (ρ fn k)).ins = (blockAt u fn k).ins ∧ (blockAt v fn (ρ fn k)).term = renT (ρ fn) (blockAt u fn k).term ∧ ∀ e ∈ (blockAt u fn k).term.to, good fn e.block
def wst (s : List MFrame) (M : Mach) : Mach := { M with stack := s }
theorem pay_st (n : Int) (M : Mach) (s : List MFrame) : payF n (wst s M) = wst s (payF n M) := by
  unfold payF
  show (if M.left < n then _ else _) = _
  split <;> rfl
theorem alloc_st (a b : Val) (M : Mach) (s : List MFrame) : allocF a b (wst s M) = (wst s (allocF a b M).1, (allocF a b M).2) := by
  unfold allocF
  rw [pay_st]
  by_cases h1 : a.kind ≠ 0
  · rw [if_pos h1, if_pos h1]
  · rw [if_neg h1, if_neg h1]
    by_cases h2 : a.n < 0 ∨ 1024 < a.n
    · rw [if_pos h2, if_pos h2]
    · rw [if_neg h2, if_neg h2]
      show (if (payF a.n M).short = true then _ else _) = _
      by_cases h3 : (payF a.n M).short = true
      · rw [if_pos h3, if_pos h3]
      · rw [if_neg h3, if_neg h3]; rfl
theorem effect_st (i : SIns) (args : List Val) (M : Mach) (s : List MFrame) : effectF i args (wst s M) = (wst s (effectF i args M).1, (effectF i args M).2) := by
  unfold effectF
  rw [alloc_st]
  show (if i.op = 15 then if (argAt args 0).kind ≠ 0 then _ else if (M.out.length : Int) = 1000 then _ else _ else if i.op = 16 then _ else if i.op = 18 then if allK 0 args = false then _ else if _ then _ else _ else if _ then _ else if i.op = 17 then _ else if (argAt args 1).n < 0 ∨ ((arrOf M (argAt args 0)).length : Int) ≤ (argAt args 1).n then _ else if i.op = 19 then _ else _) = _
  by_cases h1 : i.op = 15
  · rw [if_pos h1, if_pos h1]
    by_cases h2 : (argAt args 0).kind ≠ 0
    · rw [if_pos h2, if_pos h2]
    · rw [if_neg h2, if_neg h2]
      by_cases h3 : (M.out.length : Int) = 1000
      · rw [if_pos h3, if_pos h3]
      · rw [if_neg h3, if_neg h3]; rfl
  · rw [if_neg h1, if_neg h1]
    by_cases h2 : i.op = 16
    · rw [if_pos h2, if_pos h2]
    · rw [if_neg h2, if_neg h2]
      by_cases h3 : i.op = 18
      · rw [if_pos h3, if_pos h3]
        by_cases h4 : allK 0 args = false
        · rw [if_pos h4, if_pos h4]
        · rw [if_neg h4, if_neg h4]
          by_cases h5 : (argAt args 0).n < 0 ∨ (argAt args 1).n ≤ (argAt args 0).n
          · rw [if_pos h5, if_pos h5]
          · rw [if_neg h5, if_neg h5]
      · rw [if_neg h3, if_neg h3]
        by_cases h4 : (argAt args 0).kind ≠ 3 ∨ i.op ≠ 17 ∧ (argAt args 1).kind ≠ 0
        · rw [if_pos h4, if_pos h4]
        · rw [if_neg h4, if_neg h4]
          by_cases h5 : i.op = 17
          · rw [if_pos h5, if_pos h5]; rfl
          · rw [if_neg h5, if_neg h5]
            by_cases h6 : (argAt args 1).n < 0 ∨ ((arrOf M (argAt args 0)).length : Int) ≤ (argAt args 1).n
            · rw [if_pos h6, if_pos h6]
            · rw [if_neg h6, if_neg h6]
              by_cases h7 : i.op = 19
              · rw [if_pos h7, if_pos h7]; rfl
              · rw [if_neg h7, if_neg h7]
                have : ∀ l, setArr (wst s M) (argAt args 0) l = wst s (setArr M (argAt args 0) l) := fun l => by
                  unfold setArr
                  cases (argAt args 0).arr <;> rfl
                rw [this]; rfl
theorem exec_st (i : SIns) (args : List Val) (M : Mach) (s : List MFrame) : execF i args (wst s M) = (wst s (execF i args M).1, (execF i args M).2) := by
  unfold execF
  rw [effect_st]
  by_cases h1 : i.op = 0
  · rw [if_pos h1, if_pos h1]
  · rw [if_neg h1, if_neg h1]
    by_cases h2 : elemJ i.op [1, 2, 3, 4, 5, 6, 7] = true
    · rw [if_pos h2, if_pos h2]
      by_cases h3 : allK 0 args = false
      · rw [if_pos h3, if_pos h3]
      · rw [if_neg h3, if_neg h3]
    · rw [if_neg h2, if_neg h2]
      by_cases h3 : i.op = 8
      · rw [if_pos h3, if_pos h3]
      · rw [if_neg h3, if_neg h3]
        by_cases h4 : i.op = 9
        · rw [if_pos h4, if_pos h4]
        · rw [if_neg h4, if_neg h4]
          by_cases h5 : elemJ i.op [10, 11, 12, 21] = true
          · rw [if_pos h5, if_pos h5]
          · rw [if_neg h5, if_neg h5]
            by_cases h6 : elemJ i.op [22, 23, 24] = true
            · rw [if_pos h6, if_pos h6]
            · rw [if_neg h6, if_neg h6]
              by_cases h7 : i.op = 100
              · rw [if_pos h7, if_pos h7]
              · rw [if_neg h7, if_neg h7]
section
variable {u v : SUnit} {ρ : Int → Int → Int} {good : Int → Int → Prop} (h : Ren u v ρ good)
def renF (ρ : Int → Int → Int) (f : MFrame) : MFrame := { f with block := ρ f.fn f.block }
def renM (ρ : Int → Int → Int) (M : Mach) : Mach := wst (M.stack.map (renF ρ)) M
def AllGood (good : Int → Int → Prop) (M : Mach) : Prop := ∀ f ∈ M.stack, good f.fn f.block
include h
theorem ren_entered (fn : Int) (args : List Val) (to : Int) : entered v fn args to = renF ρ (entered u fn args to) ∧ good (entered u fn args to).fn (entered u fn args to).block := by
  obtain ⟨h1, h2⟩ := h.zero fn
  refine ⟨?_, h1⟩
  show MFrame.mk fn 0 0 to (vputs [] (entryOf v fn) args) = MFrame.mk fn (ρ fn 0) 0 to (vputs [] (entryOf u fn) args)
  rw [h2, h.entry]
theorem ren_edge {fn : Int} {t : STerm} (hg : ∀ e ∈ t.to, good fn e.block) (k : Nat) : edgeAt (renT (ρ fn) t) k = ⟨ρ fn (edgeAt t k).block, (edgeAt t k).args⟩ ∧ good fn (edgeAt t k).block := by
  unfold edgeAt renT
  dsimp only
  rw [List.getElem?_map]
  cases he : t.to[k]? with
  | none =>
    obtain ⟨h1, h2⟩ := h.zero fn
    refine ⟨?_, h1⟩
    show SEdge.mk 0 [] = SEdge.mk (ρ fn 0) []
    rw [h2]
  | some e => exact ⟨rfl, hg e (List.mem_of_getElem? he)⟩
theorem ren_follow (f : MFrame) (e : SEdge) (hg : good f.fn e.block) : followF v (renF ρ f) ⟨ρ f.fn e.block, e.args⟩ = renF ρ (followF u f e) ∧ good (followF u f e).fn (followF u f e).block := by
  refine ⟨?_, hg⟩
  show MFrame.mk f.fn (ρ f.fn e.block) 0 f.to (vputs f.vals (blockAt v f.fn (ρ f.fn e.block)).params (takeF f.vals e.args)) = MFrame.mk f.fn (ρ f.fn e.block) 0 f.to (vputs f.vals (blockAt u f.fn e.block).params (takeF f.vals e.args))
  rw [(h.blk _ _ hg).1]
theorem ren_leave (f : MFrame) (x : Val) (fs : List MFrame) (M : Mach) (hg : ∀ g ∈ fs, good g.fn g.block) : leaveF (renF ρ f) x (fs.map (renF ρ)) (renM ρ M) = renM ρ (leaveF f x fs M) ∧ AllGood good (leaveF f x fs M) := by
  cases fs with
  | nil => exact ⟨rfl, fun g hg2 => by cases hg2⟩
  | cons g gs =>
    refine ⟨rfl, fun x hx => ?_⟩
    rcases List.mem_cons.1 hx with rfl | hx
    · exact hg g (List.mem_cons_self ..)
    · exact hg x (List.mem_cons_of_mem _ hx)
theorem ren_stop (e n : Int) (M : Mach) (hg : AllGood good M) : stopF e n (renM ρ M) = renM ρ (stopF e n M) ∧ AllGood good (stopF e n M) := ⟨rfl, hg⟩
theorem ren_push {M : Mach} {f : MFrame} {fs : List MFrame} (hf : good f.fn f.block) (hg : ∀ g ∈ fs, good g.fn g.block) : ({ renM ρ M with stack := renF ρ f :: fs.map (renF ρ) } : Mach) = renM ρ { M with stack := f :: fs } ∧ AllGood good { M with stack := f :: fs } := by
  refine ⟨rfl, fun x hx => ?_⟩
  rcases List.mem_cons.1 hx with rfl | hx
  · exact hf
  · exact hg x hx
theorem ren_term {f : MFrame} {t : STerm} {fs : List MFrame} {M : Mach} (hM : AllGood good M) (hg : ∀ g ∈ fs, good g.fn g.block) (ht : ∀ e ∈ t.to, good f.fn e.block) : termF v (renF ρ f) (renT (ρ f.fn) t) (fs.map (renF ρ)) (renM ρ M) = renM ρ (termF u f t fs M) ∧ AllGood good (termF u f t fs M) := by
  have go : ∀ k, ({ renM ρ M with stack := followF v (renF ρ f) (edgeAt (renT (ρ f.fn) t) k) :: fs.map (renF ρ) } : Mach) = renM ρ { M with stack := followF u f (edgeAt t k) :: fs } ∧ AllGood good { M with stack := followF u f (edgeAt t k) :: fs } := fun k => by
    obtain ⟨h1, h2⟩ := ren_edge h ht k
    obtain ⟨h3, h4⟩ := ren_follow h f (edgeAt t k) h2
    rw [h1, h3]
    exact ren_push h h4 hg
  unfold termF
  show (if t.kind = 4 then stopF t.n 0 (renM ρ M) else if t.kind = 1 then _ else if t.kind = 0 then leaveF (renF ρ f) (vget f.vals t.arg) (fs.map (renF ρ)) (renM ρ M) else if (vget f.vals t.arg).kind ≠ 0 then stopF 5 0 (renM ρ M) else { renM ρ M with stack := followF v (renF ρ f) (edgeAt (renT (ρ f.fn) t) (choiceF t (vget f.vals t.arg).n).toNat) :: fs.map (renF ρ) }) = _ ∧ _
  by_cases h1 : t.kind = 4
  · rw [if_pos h1, if_pos h1]; exact ren_stop h _ _ _ hM
  · rw [if_neg h1, if_neg h1]
    by_cases h2 : t.kind = 1
    · rw [if_pos h2, if_pos h2]; exact go 0
    · rw [if_neg h2, if_neg h2]
      by_cases h3 : t.kind = 0
      · rw [if_pos h3, if_pos h3]; exact ren_leave h f _ fs M hg
      · rw [if_neg h3, if_neg h3]
        by_cases h4 : (vget f.vals t.arg).kind ≠ 0
        · rw [if_pos h4, if_pos h4]; exact ren_stop h _ _ _ hM
        · rw [if_neg h4, if_neg h4]; exact go _
theorem ren_ins {f : MFrame} {i : SIns} {fs : List MFrame} {M : Mach} (hf : good f.fn f.block) (hst : M.stack = f :: fs) (hg : ∀ g ∈ fs, good g.fn g.block) : insF v (renF ρ f) i (fs.map (renF ρ)) (renM ρ M) = renM ρ (insF u f i fs M) ∧ AllGood good (insF u f i fs M) := by
  have hM : AllGood good M := fun x hx => by
    rw [hst] at hx
    rcases List.mem_cons.1 hx with rfl | hx
    · exact hf
    · exact hg x hx
  have ent : ∀ n args to, enterF v n args to (renM ρ M) = renM ρ (enterF u n args to M) ∧ AllGood good (enterF u n args to M) := fun n args to => by
    obtain ⟨h1, h2⟩ := ren_entered h n args to
    unfold enterF
    rw [h1]
    exact ren_push h h2 hM
  unfold insF
  show (if i.op = 13 then enterF v i.n (takeF f.vals i.args) i.to (renM ρ M) else if i.op = 14 then if (argAt (takeF f.vals i.args) 0).kind = 2 ∧ (entryOf v (argAt (takeF f.vals i.args) 0).n).length = (takeF f.vals i.args).length then enterF v (argAt (takeF f.vals i.args) 0).n (takeF f.vals i.args) i.to (renM ρ M) else stopF 5 0 (renM ρ M) else
    ({ (if (execF i (takeF f.vals i.args) (renM ρ M)).2.2 ≠ 0 then stopF (execF i (takeF f.vals i.args) (renM ρ M)).2.2 0 (execF i (takeF f.vals i.args) (renM ρ M)).1 else (execF i (takeF f.vals i.args) (renM ρ M)).1) with stack := { renF ρ f with vals := vput f.vals i.to (execF i (takeF f.vals i.args) (renM ρ M)).2.1 } :: fs.map (renF ρ) } : Mach)) = _ ∧ _
  rw [h.entry]
  dsimp only
  by_cases h1 : i.op = 13
  · rw [if_pos h1, if_pos h1]; exact ent ..
  · rw [if_neg h1, if_neg h1]
    by_cases h2 : i.op = 14
    · rw [if_pos h2, if_pos h2]
      by_cases h3 : (argAt (takeF f.vals i.args) 0).kind = 2 ∧ (entryOf u (argAt (takeF f.vals i.args) 0).n).length = (takeF f.vals i.args).length
      · rw [if_pos h3, if_pos h3]; exact ent ..
      · rw [if_neg h3, if_neg h3]; exact ren_stop h _ _ _ hM
    · rw [if_neg h2, if_neg h2]
      have he := exec_st i (takeF f.vals i.args) M (M.stack.map (renF ρ))
      unfold renM
      rw [he]
      by_cases h3 : (execF i (takeF f.vals i.args) M).2.2 ≠ 0
      · rw [if_pos h3, if_pos h3]
        exact ren_push h (M := stopF (execF i (takeF f.vals i.args) M).2.2 0 (execF i (takeF f.vals i.args) M).1) (f := { f with vals := vput f.vals i.to (execF i (takeF f.vals i.args) M).2.1 }) hf hg
      · rw [if_neg h3, if_neg h3]
        exact ren_push h (M := (execF i (takeF f.vals i.args) M).1) (f := { f with vals := vput f.vals i.to (execF i (takeF f.vals i.args) M).2.1 }) hf hg
theorem ren_step {M : Mach} (hM : AllGood good M) : stepF v (renM ρ M) = renM ρ (stepF u M) ∧ AllGood good (stepF u M) := by
  unfold stepF
  cases hst : M.stack with
  | nil =>
    have e : (renM ρ M).stack = [] := by show M.stack.map (renF ρ) = []; rw [hst]; rfl
    rw [e]
    exact ⟨rfl, hM⟩
  | cons f fs =>
    have e : (renM ρ M).stack = renF ρ f :: fs.map (renF ρ) := by show M.stack.map (renF ρ) = _; rw [hst]; rfl
    rw [e]
    have hf : good f.fn f.block := hM f (by rw [hst]; exact List.mem_cons_self ..)
    have hg : ∀ g ∈ fs, good g.fn g.block := fun g hg => hM g (by rw [hst]; exact List.mem_cons_of_mem _ hg)
    obtain ⟨b1, b2, b3, b4⟩ := h.blk _ _ hf
    dsimp only
    show (if f.at_ = ((blockAt v f.fn (ρ f.fn f.block)).ins.length : Int) then termF v (renF ρ f) (blockAt v f.fn (ρ f.fn f.block)).term (fs.map (renF ρ)) (renM ρ M) else
      insF v (renF ρ { f with at_ := f.at_ + 1 }) ((blockAt v f.fn (ρ f.fn f.block)).ins[f.at_.toNat]?.getD default) (fs.map (renF ρ)) (renM ρ { M with stack := { f with at_ := f.at_ + 1 } :: fs })) = _ ∧ _
    rw [b2, b3]
    by_cases h1 : f.at_ = ((blockAt u f.fn f.block).ins.length : Int)
    · rw [if_pos h1, if_pos h1]
      exact ren_term h hM hg b4
    · rw [if_neg h1, if_neg h1]
      exact ren_ins h (f := { f with at_ := f.at_ + 1 }) hf rfl hg
theorem ren_go : ∀ (n : Nat) (M : Mach), AllGood good M → goF v n (renM ρ M) = renM ρ (goF u n M)
  | 0, M, _ => rfl
  | n + 1, M, hM => by
    rw [goF, goF]
    have hp : payF 1 (renM ρ M) = renM ρ (payF 1 M) := by
      unfold renM
      rw [pay_st]
      unfold payF
      split <;> rfl
    have hpg : AllGood good (payF 1 M) := fun x hx => hM x (by
      unfold payF at hx
      split at hx <;> exact hx)
    rw [hp]
    show (if M.over = true then _ else if (payF 1 M).short = true then _ else _) = _
    by_cases h1 : M.over = true
    · rw [if_pos h1, if_pos h1]
    · rw [if_neg h1, if_neg h1]
      by_cases h2 : (payF 1 M).short = true
      · rw [if_pos h2, if_pos h2]
      · rw [if_neg h2, if_neg h2]
        obtain ⟨h3, h4⟩ := ren_step h hpg
        rw [h3]
        exact ren_go n _ h4
theorem ren_perform (fuel : Int) : performF v fuel = performF u fuel := by
  have hs : startF v fuel = renM ρ (startF u fuel) := by
    unfold startF enterF
    rw [h.main, (ren_entered h u.main [] 0).1]
    rfl
  have hg : AllGood good (startF u fuel) := fun x hx => by
    rcases List.mem_cons.1 hx with rfl | hx
    · exact (ren_entered h u.main [] 0).2
    · cases hx
  have e := ren_go h (fuel.toNat + 1) _ hg
  unfold performF
  rw [hs, e]
  rfl
theorem ren_run (hu : unitF u = 0) (hv : unitF v = 0) (fuel : Int) : runF v fuel = runF u fuel := by
  unfold runF
  rw [hu, hv, ren_perform h]
end
theorem run_unit {u : SUnit} {fuel : Int} (h : (runF u fuel).2.2 = 0) : unitF u = 0 := by
  unfold runF at h
  by_cases hu : unitF u ≠ 0
  · rw [if_pos hu] at h
    exact absurd h hu
  · exact Decidable.not_not.1 hu
end Go.SM
end
section
set_option linter.unusedVariables false
set_option linter.unusedSimpArgs false
set_option linter.unusedSectionVars false
namespace Go.SM
open Go.VL
def reP (π : Nat → Nat) (b : SBlock) : SBlock := { b with term := { b.term with to := b.term.to.map fun e => ⟨((π e.block.toNat : Nat) : Int), e.args⟩ } }
structure PermOk (bs gs : List SBlock) (π : Nat → Nat) : Prop where
  perm : gs.Perm (bs.map (reP π))
  at_ : ∀ v b, bs[v]? = some b → gs[π v]? = some (reP π b)
  inj : ∀ v w, v < bs.length → w < bs.length → π v = π w → v = w
  surj : ∀ i, i < bs.length → ∃ v, v < bs.length ∧ π v = i
  zero : π 0 = 0
section
variable {bs gs : List SBlock} {π : Nat → Nat} (h : PermOk bs gs π)
include h
theorem perm_len : gs.length = bs.length := by rw [h.perm.length_eq, List.length_map]
theorem perm_lt {v : Nat} (hv : v < bs.length) : π v < gs.length := by
  obtain ⟨b, hb⟩ := get_of_lt bs v (by omega)
  exact (List.getElem?_eq_some_iff.1 (h.at_ v b hb)).1
theorem perm_of {i : Nat} {c : SBlock} (hc : gs[i]? = some c) : ∃ v b, π v = i ∧ bs[v]? = some b ∧ c = reP π b := by
  have hi := (List.getElem?_eq_some_iff.1 hc).1
  rw [perm_len h] at hi
  obtain ⟨v, hv, rfl⟩ := h.surj i hi
  obtain ⟨b, hb⟩ := get_of_lt bs v (by omega)
  rw [h.at_ v b hb] at hc
  injection hc with hc
  exact ⟨v, b, rfl, hb, hc.symm⟩
variable (hE : ∀ b ∈ bs, ∀ e ∈ b.term.to, 1 ≤ e.block ∧ e.block < bs.length)
include hE
theorem perm_edge {p v : Nat} (he : Edge bs p v) : Edge gs (π p) (π v) := by
  obtain ⟨e, he, hev⟩ := he
  have hpl : p < bs.length := Classical.byContradiction fun hn => by
    rw [toAt, List.getElem?_eq_none (by omega)] at he
    cases he
  obtain ⟨b, hb⟩ := get_of_lt bs p (by omega)
  rw [toAt_get hb] at he
  refine ⟨⟨((π e.block.toNat : Nat) : Int), e.args⟩, ?_, ?_⟩
  · rw [toAt_get (h.at_ p b hb)]
    exact List.mem_map.2 ⟨e, he, rfl⟩
  · dsimp only
    have : e.block.toNat = v := by omega
    rw [this]
    omega
theorem edge_perm {i j : Nat} (he : Edge gs i j) : ∃ p v, p < bs.length ∧ v < bs.length ∧ π p = i ∧ π v = j ∧ Edge bs p v := by
  obtain ⟨e, he, hev⟩ := he
  have hpl : i < gs.length := Classical.byContradiction fun hn => by
    rw [toAt, List.getElem?_eq_none (by omega)] at he
    cases he
  obtain ⟨c, hc⟩ := get_of_lt gs i (by omega)
  obtain ⟨p, b, hp, hb, rfl⟩ := perm_of h hc
  rw [toAt_get hc] at he
  obtain ⟨x, hx, rfl⟩ := List.mem_map.1 he
  dsimp only at hev
  have hxe := hE b (List.mem_of_getElem? hb) x hx
  exact ⟨p, x.block.toNat, (List.getElem?_eq_some_iff.1 hb).1, by omega, hp, by omega, x, by rw [toAt_get hb]; exact hx, by omega⟩
theorem perm_way {l : List Nat} {v : Nat} (hw : Way bs l v) : Way gs (l.map π) (π v) := by
  induction hw with
  | start => rw [h.zero]; exact .start
  | step _ he ih => exact .step ih (perm_edge h hE he)
theorem way_perm {l : List Nat} {i : Nat} (hw : Way gs l i) : ∀ v, v < bs.length → π v = i → ∃ l0, Way bs l0 v ∧ l = l0.map π := by
  induction hw with
  | start =>
    intro v hv hi
    have : v = 0 := h.inj v 0 hv (by omega) (by rw [hi, h.zero])
    subst this
    exact ⟨[], .start, rfl⟩
  | step _ he ih =>
    intro v hv hi
    obtain ⟨p, w, hp, hw, hpi, hwj, hed⟩ := edge_perm h hE he
    have : w = v := h.inj w v hw hv (by rw [hwj, hi])
    subst this
    obtain ⟨l0, w0, e0⟩ := ih p hp hpi
    exact ⟨p :: l0, .step w0 hed, by rw [List.map_cons, hpi, e0]⟩
theorem way_lt {l : List Nat} {v : Nat} (hw : Way bs l v) (h0 : 0 < bs.length) : v < bs.length ∧ ∀ y ∈ l, y < bs.length := by
  induction hw with
  | start => exact ⟨h0, fun y hy => by cases hy⟩
  | @step l p k _ he ih =>
    refine ⟨?_, fun y hy => ?_⟩
    · obtain ⟨e, he, hek⟩ := he
      obtain ⟨b, hb⟩ := get_of_lt bs p (by omega)
      rw [toAt_get hb] at he
      have := hE b (List.mem_of_getElem? hb) e he
      omega
    · rcases List.mem_cons.1 hy with rfl | hy
      · exact ih.1
      · exact ih.2 y hy
theorem perm_reach {v : Nat} (hv : v < bs.length) : (∃ l, Way gs l (π v)) ↔ ∃ l, Way bs l v :=
  ⟨fun ⟨l, hw⟩ => let ⟨l0, w0, _⟩ := way_perm h hE hw v hv rfl; ⟨l0, w0⟩, fun ⟨l, hw⟩ => ⟨_, perm_way h hE hw⟩⟩
theorem perm_doms {a b : Nat} (ha : a < bs.length) (hb : b < bs.length) : Doms gs (π a) (π b) ↔ Doms bs a b := by
  have h0 : 0 < bs.length := by omega
  constructor
  · intro hd l hw
    rcases hd _ (perm_way h hE hw) with e | e
    · exact .inl (h.inj a b ha hb e)
    · obtain ⟨y, hy, e2⟩ := List.mem_map.1 e
      have := h.inj y a ((way_lt h hE hw h0).2 y hy) ha e2
      exact .inr (this ▸ hy)
  · intro hd l hw
    obtain ⟨l0, w0, rfl⟩ := way_perm h hE hw b hb rfl
    exact (hd l0 w0).imp (fun e => by rw [e]) fun e => List.mem_map.2 ⟨a, e, rfl⟩
end
theorem insN_perm {a b : List SBlock} (h : a.Perm b) : insN a = insN b := by
  induction h with
  | nil => rfl
  | cons x _ ih => rw [insN, insN, ih]
  | swap x y l => rw [insN, insN, insN, insN]; omega
  | trans _ _ ih1 ih2 => rw [ih1, ih2]
theorem insN_reP (π : Nat → Nat) : ∀ l : List SBlock, insN (l.map (reP π)) = insN l
  | [] => rfl
  | b :: l => by rw [List.map_cons, insN, insN, insN_reP π l]; rfl
theorem perm_ok {f g : SFunc} {π : Nat → Nat} (h0 : funcF f = 0) (hn : g.name = f.name) (h : PermOk f.blocks g.blocks π) : funcF g = 0 := by
  have hok := func_ok h0
  have hE := hok.edges
  have fi := func_iff.1 h0
  have hlen := perm_len h
  have hpos := hok.pos
  have hl128 := hok.len
  have hpar : ∀ v : Nat, v < f.blocks.length → paramsOf g.blocks (π v : Nat) = paramsOf f.blocks v := fun v hv => by
    obtain ⟨b, hb⟩ := get_of_lt f.blocks v (by omega)
    rw [paramsOf_get (k := ((π v : Nat) : Int)) (by rw [Int.toNat_natCast]; exact h.at_ v b hb), paramsOf_get (k := ((v : Nat) : Int)) (by rw [Int.toNat_natCast]; exact hb)]
    rfl
  have hblk : ∀ c ∈ g.blocks, blockOk g.blocks c := fun c hc => by
    obtain ⟨i, hi⟩ := List.getElem?_of_mem hc
    obtain ⟨v, b, hv, hb, rfl⟩ := perm_of h hi
    obtain ⟨b1, b2⟩ := fi.block b (List.mem_of_getElem? hb)
    refine ⟨b1, ?_⟩
    have he := endF_ok b2
    unfold endF at b2 ⊢
    have hsh : shapeF (reP π b).term = shapeF b.term := by
      unfold shapeF reP
      simp only [List.length_map]
    rw [hsh, if_neg (by rw [he.shape]; decide)]
    change (if 256 < (b.term.cases.length : Int) then 2 else if b.term.kind = 4 ∧ wi b.term.n 1 6 = false then 4 else if casesF [] b.term.cases ≠ 0 then casesF [] b.term.cases else edgesF g.blocks (b.term.to.map fun e => ⟨((π e.block.toNat : Nat) : Int), e.args⟩)) = 0
    rw [if_neg (by rw [he.shape]; decide)] at b2
    split at b2
    · cases b2
    · rename_i h2
      rw [if_neg h2]
      split at b2
      · cases b2
      · rename_i h3
        rw [if_neg h3, if_neg (fun hn => hn he.cases)]
        refine edgesF_iff fun e hem => ?_
        obtain ⟨x, hx, rfl⟩ := List.mem_map.1 hem
        obtain ⟨x1, x2, x3⟩ := he.edges x hx
        have hlt := perm_lt h (v := x.block.toNat) (by omega)
        have hne : π x.block.toNat ≠ 0 := fun e => by
          have := h.inj x.block.toNat 0 (by omega) (by omega) (by rw [e, h.zero])
          omega
        have hp := hpar x.block.toNat (by omega)
        dsimp only
        refine ⟨by omega, by omega, ?_⟩
        rw [hp, x3, show ((x.block.toNat : Nat) : Int) = x.block by omega]
  have hEg : ∀ b ∈ g.blocks, ∀ e ∈ b.term.to, 1 ≤ e.block ∧ e.block < g.blocks.length := fun b hb e he => by
    have := (endF_ok (hblk b hb).2).edges e he
    exact ⟨this.1, this.2.1⟩
  have hkp : (keys (defsL 0 g.blocks)).Perm (keys (defsL 0 f.blocks)) := by
    rw [keysL, keysL]
    have h1 := h.perm.flatMap_right (fun b => (dB b).map (·.1))
    rw [List.flatMap_map] at h1
    exact h1
  have hkok : KOk [] (defsL 0 g.blocks) := ⟨fun x hx => fi.kok.wi x (hkp.subset hx), hkp.nodup_iff.2 fi.kok.nodup, mem_zero_key⟩
  have hgpos : 0 < g.blocks.length := by omega
  refine func_iff.2 ⟨hgpos, by omega, ?_, ?_, by rw [hn]; exact fi.name, hkok, hblk, ?_⟩
  · rw [insN_perm h.perm, insN_reP]
    exact fi.ins
  · have h1 := hpar 0 (by omega)
    rw [h.zero] at h1
    have h2 := fi.params
    rw [show ((0 : Nat) : Int) = 0 from rfl] at h1
    rw [h1]
    exact h2
  · refine usesF_iff.2 fun i c hi => ?_
    obtain ⟨v, b, rfl, hb, rfl⟩ := perm_of h hi
    have hvl := (List.getElem?_eq_some_iff.1 hb).1
    have hu := usesF_iff.1 fi.uses v b hb
    rw [Nat.zero_add] at hu ⊢
    have hfine : ∀ n u, fineF (defsL 0 f.blocks) (domF f.blocks) v n u = true → fineF (defsL 0 g.blocks) (domF g.blocks) (π v) n u = true := fun n u hf => by
      unfold fineF at hf
      cases hg : dget (defsL 0 f.blocks) u with
      | none => rw [hg] at hf; cases hf
      | some p =>
        rw [hg] at hf
        dsimp only at hf
        obtain ⟨j, bj, hbj, hp1, hp2⟩ := defsL_at.1 ((dget_at fi.kok.nodup).1 hg)
        obtain ⟨p1, q⟩ := p
        have hp1 : p1 = (0 : Int) + j := hp1
        rw [Int.zero_add] at hp1
        subst hp1
        have hp2 : (u, q) ∈ dB bj := hp2
        have hjl := (List.getElem?_eq_some_iff.1 hbj).1
        have hgj := h.at_ j bj hbj
        have hg2 : dget (defsL 0 g.blocks) u = some (((π j : Nat) : Int), q) := (dget_at hkok.nodup).2 (defsL_at.2 ⟨π j, _, hgj, by simp, hp2⟩)
        unfold fineF
        rw [hg2]
        dsimp only
        by_cases hw : ∃ l, Way f.blocks l v
        · have hseen : (domF f.blocks).seen.has v = true := (seen_iff hok.pos hok.len hE (by omega)).2 hw
          rw [hseen] at hf
          simp only [Bool.not_true, Bool.or_false, Bool.or_eq_true, Bool.and_eq_true, decide_eq_true_eq, Int.toNat_natCast] at hf
          rcases hf with ⟨h1, h2⟩ | ⟨h1, h2⟩
          · have : j = v := by omega
            subst this
            simp [h2]
          · have hd := (has_iff hok.pos hok.len hE hw hvl hjl).1 h2
            have hne : ¬ ((π j : Nat) : Int) = (π v : Nat) := fun e => h1 (by have := h.inj j v hjl hvl (by omega); omega)
            have hh : ((domF g.blocks).at (π v)).has (π j) = true := (has_iff hgpos (by omega) hEg ((perm_reach h hE hvl).2 hw) (perm_lt h hvl) (perm_lt h hjl)).2 ((perm_doms h hE hjl hvl).2 hd)
            rw [Int.toNat_natCast, hh]
            simp [hne]
        · have hsn : (domF g.blocks).seen.has (π v) = false := by
            cases hc : (domF g.blocks).seen.has (π v) with
            | false => rfl
            | true => exact absurd ((perm_reach h hE hvl).1 ((seen_iff hgpos (by omega) hEg (by have := perm_lt h hvl; omega)).1 hc)) hw
          rw [hsn]
          simp
    refine ⟨usesIns_imp hfine hu.1, ?_⟩
    have h2 := hu.2
    show usedF { b.term with to := b.term.to.map fun e => ⟨((π e.block.toNat : Nat) : Int), e.args⟩ } (fineF _ _ (π v) b.ins.length) = true
    unfold usedF at h2 ⊢
    dsimp only
    split at h2
    · cases h2
    · rename_i h1
      rw [if_neg (fun h3 => h1 ⟨h3.1, by
        cases hc : fineF (defsL 0 f.blocks) (domF f.blocks) v b.ins.length b.term.arg with
        | false => rfl
        | true => rw [hfine _ _ hc] at h3; exact absurd h3.2 (by decide)⟩)]
      rw [List.all_eq_true] at h2 ⊢
      intro e' he'
      obtain ⟨x, hx, rfl⟩ := List.mem_map.1 he'
      have := h2 x hx
      rw [List.all_eq_true] at this ⊢
      exact fun u hu2 => hfine _ u (this u hu2)
end Go.SM
end
section
set_option linter.unusedVariables false
set_option linter.unusedSimpArgs false
namespace Go.SM
open Go.VL
def piN (n v : Nat) : Nat := if v = 0 then 0 else n - v
def ixR (n k : Nat) : List Nat := 0 :: (List.range (n - 1 - k)).map fun j => n - 1 - j
def bAt (bs : List SBlock) (v : Nat) : SBlock := bs[v]?.getD default
def revF (f : SFunc) : SFunc := ⟨f.name, (ixR f.blocks.length 0).map fun v => reP (piN f.blocks.length) (bAt f.blocks v)⟩
theorem ixR_start (n : Nat) : ixR n (n - 1) = [0] := by
  unfold ixR
  rw [Nat.sub_self]
  rfl
theorem ixR_step {n k : Nat} (h : k + 1 < n) : ixR n k = ixR n (k + 1) ++ [k + 1] := by
  unfold ixR
  rw [show n - 1 - k = (n - 1 - (k + 1)) + 1 by omega, List.range_succ, List.map_append, List.cons_append, List.map_singleton, show n - 1 - (n - 1 - (k + 1)) = k + 1 by omega]
theorem ixR_len {n k : Nat} (h : k < n) : (ixR n k).length = n - k := by
  unfold ixR
  rw [List.length_cons, List.length_map, List.length_range]
  omega
theorem ixR_get {n v : Nat} (h : v < n) : (ixR n 0)[piN n v]? = some v := by
  unfold ixR piN
  split
  · rename_i e
    subst e
    rfl
  · rw [show n - v = (n - v - 1) + 1 by omega, List.getElem?_cons_succ, List.getElem?_map, List.getElem?_range (by omega)]
    show some (n - 1 - (n - v - 1)) = some v
    rw [show n - 1 - (n - v - 1) = v by omega]
theorem ixR_lt {n k v : Nat} (hn : 0 < n) (h : v ∈ ixR n k) : v < n := by
  unfold ixR at h
  rcases List.mem_cons.1 h with rfl | h
  · exact hn
  · obtain ⟨j, hj, rfl⟩ := List.mem_map.1 h
    have := List.mem_range.1 hj
    omega
theorem ixR_nodup (n k : Nat) : (ixR n k).Nodup := by
  unfold ixR
  refine List.nodup_cons.2 ⟨fun h => ?_, ?_⟩
  · obtain ⟨j, hj, e⟩ := List.mem_map.1 h
    have := List.mem_range.1 hj
    omega
  · rw [List.Nodup, List.pairwise_map]
    refine (List.pairwise_lt_range (n := n - 1 - k)).imp_of_mem fun {a b} ha hb hlt => ?_
    have := List.mem_range.1 ha
    have := List.mem_range.1 hb
    omega
theorem ixR_mem {n v : Nat} (h : v < n) : v ∈ ixR n 0 := List.mem_of_getElem? (ixR_get h)
theorem bAt_get {bs : List SBlock} {v : Nat} {b : SBlock} (h : bs[v]? = some b) : bAt bs v = b := by unfold bAt; rw [h]; rfl
theorem rev_perm {f : SFunc} (hn : 0 < f.blocks.length) : PermOk f.blocks (revF f).blocks (piN f.blocks.length) := by
  refine ⟨?_, fun v b hb => ?_, fun v w hv hw e => ?_, fun i hi => ?_, rfl⟩
  · have h1 : (ixR f.blocks.length 0).Perm (List.range f.blocks.length) := (List.perm_ext_iff_of_nodup (ixR_nodup ..) List.nodup_range).2 fun a => ⟨fun h => List.mem_range.2 (ixR_lt hn h), fun h => ixR_mem (List.mem_range.1 h)⟩
    have h2 := h1.map fun v => reP (piN f.blocks.length) (bAt f.blocks v)
    have h3 : (List.range f.blocks.length).map (fun v => reP (piN f.blocks.length) (bAt f.blocks v)) = f.blocks.map (reP (piN f.blocks.length)) := by
      apply List.ext_getElem?
      intro i
      rw [List.getElem?_map, List.getElem?_map]
      by_cases hi : i < f.blocks.length
      · obtain ⟨b, hb⟩ := get_of_lt f.blocks i (by omega)
        rw [List.getElem?_range hi, hb]
        show some (reP _ (bAt f.blocks i)) = some (reP _ b)
        rw [bAt_get hb]
      · rw [List.getElem?_eq_none (by rw [List.length_range]; omega), List.getElem?_eq_none (by omega)]
        rfl
    rw [h3] at h2
    exact h2
  · have hv := (List.getElem?_eq_some_iff.1 hb).1
    show ((ixR f.blocks.length 0).map fun v => reP (piN f.blocks.length) (bAt f.blocks v))[piN f.blocks.length v]? = _
    rw [List.getElem?_map, ixR_get hv]
    show some (reP _ (bAt f.blocks v)) = _
    rw [bAt_get hb]
  · unfold piN at e
    split at e <;> split at e <;> omega
  · by_cases h0 : i = 0
    · exact ⟨0, hn, by rw [h0]; rfl⟩
    · refine ⟨f.blocks.length - i, by omega, ?_⟩
      unfold piN
      rw [if_neg (by omega)]
      omega
theorem rev_ok {f : SFunc} (h0 : funcF f = 0) : funcF (revF f) = 0 := perm_ok h0 rfl (rev_perm (func_ok h0).pos)
def revU (u : SUnit) : SUnit := ⟨u.fns.map revF, u.main⟩
theorem rv_fns {u : SUnit} (h : unitF u = 0) : ∀ f ∈ u.fns, funcF f = 0 := by
  unfold unitF at h
  split at h
  · cases h
  · split at h
    · cases h
    · split at h
      · cases h
      · split at h
        · rename_i hn; exact absurd h hn
        · rename_i hn
          exact firstE_ok (Decidable.not_not.1 hn)
theorem rv_all {α : Type} {f : α → Int} : ∀ {l : List α}, (∀ x ∈ l, f x = 0) → firstE f l = 0
  | [], _ => rfl
  | x :: l, h => by
    rw [firstE, if_neg (fun hn => hn (h x (List.mem_cons_self ..)))]
    exact rv_all fun y hy => h y (List.mem_cons_of_mem _ hy)
theorem rv_get (u : SUnit) (k : Int) : (revU u).fns[k.toNat]? = (u.fns[k.toNat]?).map revF := List.getElem?_map ..
theorem rv_entry {u : SUnit} (hf : ∀ f ∈ u.fns, funcF f = 0) (k : Int) : entryOf (revU u) k = entryOf u k := by
  unfold entryOf
  rw [rv_get]
  cases h : u.fns[k.toNat]? with
  | none => rfl
  | some f =>
    have hok := func_ok (hf f (List.mem_of_getElem? h))
    have hp := rev_perm hok.pos
    obtain ⟨b, hb⟩ := get_of_lt f.blocks 0 (by have := hok.pos; omega)
    have h1 := hp.at_ 0 b hb
    rw [hp.zero] at h1
    show paramsOf (revF f).blocks 0 = paramsOf f.blocks 0
    rw [paramsOf_get (k := 0) (b := b) hb, paramsOf_get (k := 0) h1]
    rfl
theorem rv_unit {u : SUnit} (h : unitF u = 0) : unitF (revU u) = 0 := by
  have hf := rv_fns h
  have hl : (revU u).fns.length = u.fns.length := List.length_map ..
  have hc : ∀ i, callF (revU u) i = callF u i := fun i => by
    unfold callF
    rw [hl, rv_entry hf]
  have hcalls : callsF u = 0 → callsF (revU u) = 0 := fun hcu => by
    refine rv_all fun g hg => ?_
    obtain ⟨f, hfm, rfl⟩ := List.mem_map.1 hg
    have h1 := firstE_ok hcu f hfm
    have hp := rev_perm (func_ok (hf f hfm)).pos
    refine rv_all fun c hcm => ?_
    obtain ⟨i, hi⟩ := List.getElem?_of_mem hcm
    obtain ⟨v, b, _, hb, rfl⟩ := perm_of hp hi
    have h2 := firstE_ok h1 b (List.mem_of_getElem? hb)
    exact rv_all fun x hx => (hc x).trans (firstE_ok h2 x hx)
  have hfn : firstE funcF (revU u).fns = 0 := rv_all fun g hg => by
    obtain ⟨f, hfm, rfl⟩ := List.mem_map.1 hg
    exact rev_ok (hf f hfm)
  have hm : (revU u).main = u.main := rfl
  unfold unitF at h ⊢
  rw [hl, hm, hfn, rv_entry hf]
  split at h
  · cases h
  · rename_i g1
    rw [if_neg g1]
    split at h
    · cases h
    · rename_i g2
      rw [if_neg g2]
      split at h
      · cases h
      · rename_i g3
        rw [if_neg g3, if_neg (fun e => e rfl)]
        split at h
        · rename_i hn; exact absurd h hn
        · split at h
          · cases h
          · rename_i g5
            rw [if_neg g5]
            exact hcalls h
def rhoV (u : SUnit) (fn k : Int) : Int := match u.fns[fn.toNat]? with
  | some f => ((piN f.blocks.length k.toNat : Nat) : Int)
  | none => k
def goodV (u : SUnit) (fn k : Int) : Prop := ∀ f, u.fns[fn.toNat]? = some f → 0 ≤ k ∧ k.toNat < f.blocks.length
theorem rev_ren {u : SUnit} (h : unitF u = 0) : Ren u (revU u) (rhoV u) (goodV u) := by
  have hf := rv_fns h
  refine ⟨rfl, rv_entry hf, fun fn => ?_, fun fn k hg => ?_⟩
  · refine ⟨fun f e => ⟨Int.le_refl _, (func_ok (hf f (List.mem_of_getElem? e))).pos⟩, ?_⟩
    unfold rhoV
    cases u.fns[fn.toNat]? with
    | none => rfl
    | some f => rfl
  · unfold blockAt
    rw [rv_get]
    cases hu : u.fns[fn.toNat]? with
    | none => exact ⟨rfl, rfl, rfl, fun e he => by cases he⟩
    | some f =>
      have hok := func_ok (hf f (List.mem_of_getElem? hu))
      have hp := rev_perm hok.pos
      obtain ⟨h0, hk⟩ := hg f hu
      obtain ⟨b, hb⟩ := get_of_lt f.blocks k.toNat (by omega)
      have hr : rhoV u fn k = ((piN f.blocks.length k.toNat : Nat) : Int) := by
        unfold rhoV
        rw [hu]
      have e1 : ((some f).bind fun f => f.blocks[k.toNat]?).getD default = b := by
        show (f.blocks[k.toNat]?).getD default = b
        rw [hb]; rfl
      have e2 : (((some f).map revF).bind fun f => f.blocks[(rhoV u fn k).toNat]?).getD default = reP (piN f.blocks.length) b := by
        show ((revF f).blocks[(rhoV u fn k).toNat]?).getD default = _
        rw [hr, Int.toNat_natCast, hp.at_ _ b hb]; rfl
      rw [e1, e2]
      refine ⟨rfl, rfl, ?_, fun e he => fun g e2 => ?_⟩
      · have e3 : rhoV u fn = fun k => ((piN f.blocks.length k.toNat : Nat) : Int) := by
          funext x
          unfold rhoV
          rw [hu]
        rw [e3]
        rfl
      · rw [hu] at e2
        injection e2 with e2
        subst e2
        have h1 := hok.edges b (List.mem_of_getElem? hb) e he
        exact ⟨by omega, by omega⟩
theorem rev_run {u : SUnit} {fuel : Int} (h : (runF u fuel).2.2 = 0) : runF (revU u) fuel = runF u fuel :=
  ren_run (rev_ren (run_unit h)) (run_unit h) (rv_unit (run_unit h)) fuel
end Go.SM
end
section
set_option linter.unusedVariables false
set_option linter.unusedSimpArgs false
namespace Go.SM
open Go.VL
end Go.SM
end
