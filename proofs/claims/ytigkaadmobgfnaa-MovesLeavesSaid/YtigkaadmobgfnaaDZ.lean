import Derived.Test.YtigkaadmobgfnaaSZ
import Derived.Test.YtigkaadmobgfnaaS2
open List renaming mem_of_getElem? → Ya, mem_cons_self → Yb, mem_cons_of_mem → Yc, mem_cons → Yd, getElem?_eq_some_iff → Ye, mem_map → Yf, length_append → Yg, length_cons → Yh, append_assoc → Yi, length_map → Yj, getElem?_of_mem → Yk, append_nil → Yl, all_eq_true → Ym, getElem?_map → Yn, map_append → Yo, map_cons → Yp, mem_singleton → Yq, getElem?_set → Yr, mem_append → Ys, nodup_cons → Yt, length_take → Yu, getElem?_drop → Yv, nil_append → Yw, getElem?_append_left → Yx, replicate → Yy, foldl_cons → Yz, any_eq_false → Yaa, mem_append_left → Yab, mem_append_right → Yac, getElem?_append_right → Yad, length_nil → Yae, nodup_append → Yaf, getElem?_eq_none → Yag, cons_append → Yah, take_append_drop → Yai, take_of_length_le → Yaj, length_eq_zero_iff → Yak, ext_getElem? → Yal, length_eq_one_iff → Yam, length_pos_of_mem → Yan, map_congr_left → Yao
open Nat renaming zero_add → Yap, add_zero → Yaq, zero_le → Yar, le_refl → Yas, sub_self → Yat, le_trans → Yau
open Int renaming toNat_natCast → Yav, le_refl → Yaw
section
set_option linter.unusedVariables false
namespace Go.SM
open Go.VL
def rowsX (l : List (List Int)) : V := .sl 1 none (l.map intsX)
def predE (k : Nat) (P : List (List Int)) (e : SEdge) : List (List Int) := P.set e.block.toNat ((P[e.block.toNat]?.getD []) ++ [(k : Int)])
def predB (k : Nat) (P : List (List Int)) (b : SBlock) : List (List Int) := b.term.to.foldl (predE k) P
def predL : Nat → List SBlock → List (List Int) → List (List Int)
 | _, [], P => P
 | k, b :: l, P => predL (k + 1) l (predB k P b)
def predsF (bs : List SBlock) : List (List Int) := predL 0 bs (Yy bs.length [])
theorem predE_len (k : Nat) (P : List (List Int)) (e : SEdge) : (predE k P e).length = P.length := by simp [predE]
theorem foldl_len {k : Nat} : ∀ (l : List SEdge) (P : List (List Int)), (l.foldl (predE k) P).length = P.length
 | [], P => rfl
 | e :: l, P => by rw [Yz, foldl_len l, predE_len]
theorem predL_len : ∀ (k : Nat) (l : List SBlock) (P : List (List Int)), (predL k l P).length = P.length
 | k, [], P => rfl
 | k, b :: l, P => by rw [predL, predL_len (k + 1) l, predB, foldl_len]
theorem predsF_len (bs : List SBlock) : (predsF bs).length = bs.length := by rw [predsF, predL_len, List.length_replicate]
def total (P : List (List Int)) : Nat := (P.map List.length).sum
def edgesN : List SBlock → Nat
 | [] => 0
 | b :: l => b.term.to.length + edgesN l
theorem total_set {P : List (List Int)} {t : Nat} {x : Int} (h : t < P.length) : total (P.set t ((P[t]?.getD []) ++ [x])) = total P + 1 := by
 have h1 : (P.map List.length)[t]? = some (P[t]?.getD []).length := by rw [Yn, List.getElem?_eq_getElem h]; rfl
 have := sum_set (y := ((P[t]?.getD []) ++ [x]).length) h1
 unfold total
 rw [List.map_set]
 rw [Yg] at this ⊢
 simp at this ⊢
 omega
theorem total_set2 {P : List (List Int)} {t : Nat} {l : List Int} {x : Int} (h : P[t]? = some l) : total (P.set t (l ++ [x])) = total P + 1 := by
 have := total_set (x := x) (Ye.1 h).1
 rw [h] at this
 exact this
theorem total_zero (n : Nat) : total (Yy n []) = 0 := by simp [total]
theorem edgesN_take {l : List SBlock} {k : Nat} {b : SBlock} (h : l[k]? = some b) : edgesN (l.take (k + 1)) = edgesN (l.take k) + b.term.to.length := by
 induction l generalizing k with
 | nil => simp at h
 | cons a l ih =>
  cases k with
  | zero => simp at h; subst h; simp [edgesN]
  | succ k => simp at h; have := ih h; simp [edgesN, this]; omega
theorem edgesN_takele : ∀ (l : List SBlock) (k : Nat), edgesN (l.take k) ≤ edgesN l
 | [], k => by simp
 | b :: l, 0 => by simp [edgesN]
 | b :: l, k + 1 => by
  have := edgesN_takele l k
  rw [List.take_succ_cons, edgesN, edgesN]
  omega
theorem edgesN_le : ∀ {l : List SBlock} {n : Nat}, (∀ b ∈ l, b.term.to.length ≤ n) → edgesN l ≤ n * l.length
 | [], n, _ => by simp [edgesN]
 | b :: l, n, h => by
  have := edgesN_le fun c hc => h c (Yc b hc)
  have := h b (Yb ..)
  rw [edgesN, Yh, Nat.mul_add]
  omega
theorem term_edges {f : SFunc} (h : FuncOk f) {b : SBlock} (hb : b ∈ f.blocks) : b.term.to.length ≤ 257 := by
 have he := endF_ok (h.block hb).2
 have hm := he.many
 have hs := he.shape
 unfold shapeF at hs
 repeat' split at hs
 all_goals first | (simp only [Bool.and_eq_true, decide_eq_true_eq] at hs; omega) | cases hs
theorem FuncOk.edges {f : SFunc} (h : FuncOk f) : ∀ b ∈ f.blocks, ∀ e ∈ b.term.to, 1 ≤ e.block ∧ e.block < f.blocks.length := blocks_edges h.blocks
theorem edges_small {f : SFunc} (h : FuncOk f) : edgesN f.blocks ≤ 32896 := by
 have := edgesN_le fun b hb => term_edges h (b := b) hb
 have := h.len
 omega
end Go.SM
end
section
set_option linter.unusedVariables false
set_option linter.unusedSimpArgs false
namespace Go.SM
open Go.VL
structure DState where
 seen : List Bool
 stack : List (Nat × Nat)
 out : List Nat
def toAt (bs : List SBlock) (b : Nat) : List SEdge := ((bs[b]?).map (·.term.to)).getD []
def Edge (bs : List SBlock) (p v : Nat) : Prop := ∃ x ∈ toAt bs p, x.block.toNat = v
def dfsStep (bs : List SBlock) (s : DState) : DState :=
 match s.stack with
 | [] => s
 | (b, e) :: st =>
  match (toAt bs b)[e]? with
  | none => ⟨s.seen, st, s.out ++ [b]⟩
  | some x => if s.seen[x.block.toNat]? = some false then ⟨s.seen.set x.block.toNat true, (x.block.toNat, 0) :: (b, e + 1) :: st, s.out⟩ else ⟨s.seen, (b, e + 1) :: st, s.out⟩
def dfsRun (bs : List SBlock) : Nat → DState → DState
 | 0, s => s
 | n + 1, s => if s.stack = [] then s else dfsRun bs n (dfsStep bs s)
def dfsStart (n : Nat) : DState := ⟨(Yy n false).set 0 true, [(0, 0)], []⟩
def postF (bs : List SBlock) : List Nat := (dfsRun bs (edgesN bs + bs.length) (dfsStart bs.length)).out
def orderF (bs : List SBlock) : List Nat := (postF bs).reverse
theorem toAt_get {bs : List SBlock} {k : Nat} {b : SBlock} (h : bs[k]? = some b) : toAt bs k = b.term.to := by rw [toAt, h]; rfl
structure DfsInv0 (bs : List SBlock) (s : DState) : Prop where
 len : s.seen.length = bs.length
 stk : ∀ x ∈ s.stack, x.1 < bs.length ∧ x.2 ≤ (toAt bs x.1).length ∧ s.seen[x.1]? = some true
def StackOk (bs : List SBlock) : List (Nat × Nat) → Prop
 | [] => True
 | [x] => x.1 = 0
 | x :: y :: st => Edge bs y.1 x.1 ∧ StackOk bs (y :: st)
def seenB (s : DState) (v : Nat) : Prop := s.seen[v]? = some true
structure DfsInv (bs : List SBlock) (s : DState) : Prop extends DfsInv0 bs s where
 out : ∀ v ∈ s.out, v < bs.length ∧ seenB s v
 nodup : (s.stack.map (·.1) ++ s.out).Nodup
 cover : ∀ v, seenB s v → v ∈ s.stack.map (·.1) ∨ v ∈ s.out
 closedO : ∀ v ∈ s.out, ∀ x ∈ toAt bs v, seenB s x.block.toNat
 closedS : ∀ y ∈ s.stack, ∀ i x, i < y.2 → (toAt bs y.1)[i]? = some x → seenB s x.block.toNat
 chain : StackOk bs s.stack
 par : ∀ (i v : Nat), s.out[i]? = some v → v ≠ 0 → ∃ p, Edge bs p v ∧ (p ∈ s.stack.map (·.1) ∨ ∃ j, i < j ∧ s.out[j]? = some p)
 root : s.stack = [] → ∃ l, s.out = l ++ [0]
theorem StackOk.tail {bs : List SBlock} {x : Nat × Nat} : ∀ {st : List (Nat × Nat)}, StackOk bs (x :: st) → StackOk bs st
 | [], _ => trivial
 | y :: st, h => h.2
theorem nodup_lt {l : List Nat} {n : Nat} (h : l.Nodup) (hr : ∀ v ∈ l, v < n) : l.length ≤ n := by
 have := h.length_le_of_subset (l₂ := List.range n) fun v hv => List.mem_range.2 (hr v hv)
 simpa using this
structure OrderOk (bs : List SBlock) (l : List Nat) : Prop where
 nodup : l.Nodup
 lt : ∀ v ∈ l, v < bs.length
 zero : l[0]? = some 0
 closed : ∀ v ∈ l, ∀ w, Edge bs v w → w ∈ l
 par : ∀ (j v : Nat), l[j]? = some v → v ≠ 0 → ∃ i p, i < j ∧ l[i]? = some p ∧ Edge bs p v
end Go.SM
end
section
set_option linter.unusedVariables false
set_option linter.unusedSimpArgs false
set_option linter.unusedSectionVars false
namespace Go.SM
open Go.VL
def gI (l : List Int) (i : Int) : Int := l[i.toNat]?.getD 0
def meetF (ov pl : List Int) : Nat → Int → Int → Int
 | 0, a, _ => a
 | n + 1, a, b => if a = b then a else if gI pl a > gI pl b then meetF ov pl n (gI ov a) b else meetF ov pl n a (gI ov b)
def skipP (ov pl : List Int) (p : Int) : Bool := decide (gI pl p < 0) || (decide (p ≠ 0) && decide (gI ov p < 0))
def nextL (ov pl : List Int) (m : Nat) : Int → List Int → Int
 | cur, [] => cur
 | cur, p :: ps => nextL ov pl m (if skipP ov pl p then cur else if cur < 0 then p else meetF ov pl m cur p) ps
def placeF (ord : List Int) (n : Nat) : List Int := (List.range n).map fun k : Nat => idxOf (fun x => decide ((k : Int) = x)) ord
structure TState where
 ov : List Int
 again : Bool
def ordZ (bs : List SBlock) : List Int := (orderF bs).map fun k : Nat => (k : Int)
def placeZ (bs : List SBlock) : List Int := placeF (ordZ bs) bs.length
theorem idx_nat {l : List Nat} {v : Nat} : idxOf (fun x => decide ((v : Int) = x)) (l.map fun k : Nat => (k : Int)) = -1 ∧ v ∉ l ∨ ∃ i, idxOf (fun x => decide ((v : Int) = x)) (l.map fun k : Nat => (k : Int)) = (i : Nat) ∧ l[i]? = some v := by
 rcases idxOf_range (fun x => decide ((v : Int) = x)) (l.map fun k : Nat => (k : Int)) with ⟨h1, h2⟩ | ⟨i, x, h1, h2, h3, _⟩
 ·refine .inl ⟨h1, fun hm => ?_⟩
  rw [Yaa] at h2
  exact h2 (v : Int) (Yf.2 ⟨v, hm, rfl⟩) (by simp)
 ·refine .inr ⟨i, h1, ?_⟩
  rw [Yn] at h2
  obtain ⟨w, hw, rfl⟩ := Option.map_eq_some_iff.1 h2
  rw [hw]
  have : (v : Int) = (w : Int) := by simpa using h3
  congr 1
  omega
theorem place_get {bs : List SBlock} {v : Nat} (hv : v < bs.length) : gI (placeZ bs) v = -1 ∧ v ∉ orderF bs ∨ ∃ i, gI (placeZ bs) v = (i : Nat) ∧ (orderF bs)[i]? = some v := by
 have : gI (placeZ bs) v = idxOf (fun x => decide ((v : Int) = x)) (ordZ bs) := by
  unfold gI placeZ placeF
  rw [Yav, Yn, List.getElem?_range hv]
  rfl
 rw [this]
 exact idx_nat
def pos (bs : List SBlock) (v : Nat) : Nat := (gI (placeZ bs) v).toNat
section
variable {bs : List SBlock} (ho : OrderOk bs (orderF bs))
include ho
theorem place_of {v : Nat} (hv : v ∈ orderF bs) : gI (placeZ bs) v = (pos bs v : Nat) ∧ (orderF bs)[pos bs v]? = some v := by
 rcases place_get (ho.lt v hv) with ⟨_, h⟩ | ⟨i, h1, h2⟩
 ·exact absurd hv h
 ·unfold pos
  rw [h1, Yav]
  exact ⟨rfl, h2⟩
theorem pos_inj {v w : Nat} (hv : v ∈ orderF bs) (hw : w ∈ orderF bs) (h : pos bs v = pos bs w) : v = w := by
 have h1 := (place_of ho hv).2
 have h2 := (place_of ho hw).2
 rw [h, h2] at h1
 injection h1 with h1
 exact h1.symm
theorem pos_lt {v : Nat} (hv : v ∈ orderF bs) : pos bs v < bs.length := by
 have := (Ye.1 (place_of ho hv).2).1
 have := nodup_lt ho.nodup ho.lt
 omega
open Classical in
omit ho in
noncomputable def pi (bs : List SBlock) (v : Nat) : Nat := if h : ∃ p, p ∈ orderF bs ∧ pos bs p < pos bs v ∧ Edge bs p v then Classical.choose h else 0
end
inductive Anc (ov : List Int) : Nat → Nat → Prop where
 | refl (a : Nat) : Anc ov a a
 | step {a q x : Nat} : ov[a]? = some (q : Int) → Anc ov q x → Anc ov a x
inductive AncP (bs : List SBlock) : Nat → Nat → Prop where
 | refl (a : Nat) : AncP bs a a
 | step {a x : Nat} : a ≠ 0 → AncP bs (pi bs a) x → AncP bs a x
theorem Anc.trans {ov : List Int} {a b c : Nat} (h : Anc ov a b) (k : Anc ov b c) : Anc ov a c := by
 induction h with
 | refl => exact k
 | step h _ ih => exact .step h (ih k)
structure Tree (bs : List SBlock) (ov : List Int) : Prop where
 len : ov.length = bs.length
 root : ov[0]? = some (-1)
 out : ∀ v, v < bs.length → v ∉ orderF bs → ov[v]? = some (-1)
 up : ∀ (v : Nat) (x : Int), v ∈ orderF bs → v ≠ 0 → ov[v]? = some x → 0 ≤ x → ∃ q : Nat, x = q ∧ q ∈ orderF bs ∧ pos bs q < pos bs v ∧ (q = 0 ∨ ∃ y : Int, ov[q]? = some y ∧ 0 ≤ y)
 low : ∀ (v : Nat) (x : Int), ov[v]? = some x → x < 0 → x = -1
def InT (bs : List SBlock) (ov : List Int) (v : Nat) : Prop := v ∈ orderF bs ∧ (v = 0 ∨ ∃ x : Int, ov[v]? = some x ∧ 0 ≤ x)
section
variable {bs : List SBlock} (ho : OrderOk bs (orderF bs)) {ov : List Int}
include ho
theorem Tree.parent (h : Tree bs ov) {v : Nat} (hv : InT bs ov v) (h0 : v ≠ 0) : ∃ q : Nat, ov[v]? = some (q : Int) ∧ InT bs ov q ∧ pos bs q < pos bs v := by
 obtain ⟨hm, hv⟩ := hv
 rcases hv with hv | ⟨x, hx, hx0⟩
 ·exact absurd hv h0
 ·obtain ⟨q, rfl, h1, h2, h3⟩ := h.up v x hm h0 hx hx0
  exact ⟨q, hx, ⟨h1, h3⟩, h2⟩
theorem Tree.anc (h : Tree bs ov) {v x : Nat} (hv : InT bs ov v) (ha : Anc ov v x) : InT bs ov x ∧ pos bs x ≤ pos bs v ∧ (x ≠ v → pos bs x < pos bs v) := by
 induction ha with
 | refl a => exact ⟨hv, Yas _, fun h => absurd rfl h⟩
 | @step a q x hq _ ih =>
  by_cases h0 : a = 0
  ·subst h0
   rw [h.root] at hq
   injection hq with hq
   omega
  ·obtain ⟨q', hq', hi, hp⟩ := h.parent ho hv h0
   rw [hq] at hq'
   injection hq' with hq'
   have : q = q' := by omega
   subst this
   have := ih hi
   exact ⟨this.1, by omega, fun _ => by omega⟩
theorem Tree.zero (h : Tree bs ov) {x : Nat} (ha : Anc ov 0 x) : x = 0 := by
 cases ha with
 | refl => rfl
 | step hq _ =>
  rw [h.root] at hq
  injection hq with hq
  omega
theorem Tree.cases (h : Tree bs ov) {v q x : Nat} (hq : ov[v]? = some (q : Int)) (ha : Anc ov v x) : x = v ∨ Anc ov q x := by
 cases ha with
 | refl => exact .inl rfl
 | @step _ q' _ hq' k =>
  rw [hq] at hq'
  injection hq' with hq'
  have : q = q' := by omega
  subst this
  exact .inr k
theorem Tree.chain (h : Tree bs ov) {v x y : Nat} (hv : InT bs ov v) (hx : Anc ov v x) (hy : Anc ov v y) (hp : pos bs x ≤ pos bs y) : Anc ov y x := by
 induction hx with
 | refl a =>
  have := h.anc ho hv hy
  have : pos bs y = pos bs a := by omega
  rw [pos_inj ho (h.anc ho hv hy).1.1 hv.1 this]
  exact .refl _
 | @step a q x hq ha ih =>
  by_cases h0 : a = 0
  ·subst h0
   rw [h.root] at hq
   injection hq with hq
   omega
  ·obtain ⟨q', hq', hi, _⟩ := h.parent ho hv h0
   rw [hq] at hq'
   injection hq' with hq'
   have : q = q' := by omega
   subst this
   rcases h.cases ho hq hy with rfl | hy
   ·exact .step hq ha
   ·exact ih hi hy hp
theorem InT.fuel {v : Nat} (h : InT bs ov v) : pos bs v < bs.length := pos_lt ho h.1
end
end Go.SM
end
section
set_option linter.unusedVariables false
set_option linter.unusedSimpArgs false
set_option linter.unusedSectionVars false
namespace Go.SM
open Go.VL
structure TInv (bs : List SBlock) (ov : List Int) (i : Nat) : Prop where
 tree : Tree bs ov
 done : ∀ (j v : Nat), j < i → (orderF bs)[j]? = some v → InT bs ov v
 down : ∀ (v w : Nat), InT bs ov v → w ∈ orderF bs → pos bs w < pos bs v → InT bs ov w
 anc : ∀ (v x : Nat), InT bs ov v → Anc ov v x → AncP bs v x
 most : ∀ (v q : Nat), InT bs ov v → v ≠ 0 → ov[v]? = some (q : Int) → ∀ y, (∀ p, Edge bs p v → InT bs ov p → Anc ov p y) → pos bs y ≤ pos bs q
 past : ∀ (v : Nat), v ∈ orderF bs → pos bs v < i → ∀ q x, AncP bs v q → Anc ov v x → pos bs x ≤ pos bs q → Anc ov q x
theorem AncP.ne {bs : List SBlock} {v x : Nat} (h : AncP bs v x) (hx : x ≠ v) : v ≠ 0 ∧ AncP bs (pi bs v) x := by
 cases h with
 | refl => exact absurd rfl hx
 | step h0 k => exact ⟨h0, k⟩
def hW (bs : List SBlock) (x : Int) : Nat := if x < 0 then bs.length else pos bs x.toNat
section
variable {bs : List SBlock} (ho : OrderOk bs (orderF bs)) (hE : ∀ b ∈ bs, ∀ e ∈ b.term.to, 1 ≤ e.block ∧ e.block < bs.length) {ov : List Int}
include ho
structure TreeOk (bs : List SBlock) (ov : List Int) : Prop where
 inv : TInv bs ov 1
 all : ∀ v, v ∈ orderF bs → InT bs ov v
 fix : ∀ v, v ∈ orderF bs → v ≠ 0 → gI ov v = nextL ov (placeZ bs) (2 * bs.length + 1) (-1) ((predsF bs)[v]?.getD [])
end
end Go.SM
end
section
set_option linter.unusedVariables false
namespace Go.SM
open Go.VL
end Go.SM
end
section
set_option linter.unusedVariables false
set_option linter.unusedSimpArgs false
set_option linter.unusedSectionVars false
namespace Go.SM
open Go.VL
section
variable {bs : List SBlock} (ho : OrderOk bs (orderF bs)) {ov : List Int}
include ho
structure Up (bs : List SBlock) (ov : List Int) (a : Nat) (l : List Int) (k : Int) (n : Nat) : Prop where
 len : l.length = n
 at_ : k = -1 ∨ ∃ v : Nat, k = v ∧ InT bs ov v ∧ n + pos bs v ≤ pos bs a
 mem : ∀ y : Nat, Anc ov a y ↔ (y : Int) ∈ l ∨ ∃ v : Nat, k = v ∧ Anc ov v y
 le : n ≤ bs.length
omit ho in
structure Climb (bs : List SBlock) (ov : List Int) (a b : Nat) (v n : Nat) : Prop where
 at_ : Anc ov b v
 bound : n + pos bs v ≤ pos bs b
 none : ∀ y, Anc ov b y → pos bs v < pos bs y → ¬ Anc ov a y
omit ho in
end
end Go.SM
end
section
set_option linter.unusedVariables false
set_option linter.unusedSimpArgs false
namespace Go.SM
open Go.VL
def reachL (f : SFunc) : List Int := (ordZ f.blocks).mergeSort fun x y => decide (x ≤ y)
section
variable {bs : List SBlock} (ho : OrderOk bs (orderF bs)) {ov : List Int}
include ho
end
end Go.SM
end
section
set_option linter.unusedVariables false
set_option linter.unusedSimpArgs false
namespace Go.SM
open Go.VL
section
variable {bs : List SBlock} (ho : OrderOk bs (orderF bs)) {ov : List Int}
include ho
end
end Go.SM
end
section
set_option linter.unusedVariables false
set_option linter.unusedSimpArgs false
namespace Go.SM
open Go.VL
theorem again_keep {n : Nat} {d d' : Dom} (h : StepW n d d') (ha : d'.again = false) : d' = d := by
 rcases h.2 with h | ⟨h, _⟩
 ·exact h
 ·rw [ha] at h; cases h
theorem edges_fix {n k : Nat} (hk : k < n) : ∀ {l : List SEdge} {d : Dom}, DomOk n d → (∀ e ∈ l, 1 ≤ e.block ∧ e.block < n) → (l.foldl (domEdge k) d).again = false → l.foldl (domEdge k) d = d ∧ ∀ e ∈ l, domEdge k d e = d
 | [], d, _, _, _ => ⟨rfl, fun e he => by cases he⟩
 | e :: l, d, ok, h, ha => by
  have h1 := domEdge_w ok hk (h e (Yb ..)).1 (h e (Yb ..)).2
  have hl := fun x hx => h x (Yc e hx)
  have h2 := edges_w hk h1.1 hl
  rw [Yz] at ha ⊢
  have e2 := again_keep h2 ha
  have e1 : domEdge k d e = d := again_keep h1 (by rw [← e2]; exact ha)
  rw [e1] at ha ⊢
  obtain ⟨g1, g2⟩ := edges_fix hk ok hl ha
  refine ⟨g1, fun x hx => ?_⟩
  rcases Yd.1 hx with rfl | hx
  ·exact e1
  ·exact g2 x hx
theorem block_fix {n k : Nat} {b : SBlock} {d : Dom} (hk : k < n) (ok : DomOk n d) (h : ∀ e ∈ b.term.to, 1 ≤ e.block ∧ e.block < n) (ha : (domBlock d k b).again = false) : domBlock d k b = d ∧ (d.seen.has k = true → ∀ e ∈ b.term.to, domEdge k d e = d) := by
 unfold domBlock at ha ⊢
 split
 ·rename_i hs
  rw [if_pos hs] at ha
  obtain ⟨h1, h2⟩ := edges_fix hk ok h ha
  exact ⟨h1, fun _ => h2⟩
 ·rename_i hs
  exact ⟨rfl, fun h => absurd h hs⟩
theorem pass_fix {n : Nat} : ∀ {l : List SBlock} {k : Nat} {d : Dom}, k + l.length = n → DomOk n d → (∀ b ∈ l, ∀ e ∈ b.term.to, 1 ≤ e.block ∧ e.block < n) → (domPass k l d).again = false →
  ∀ (j : Nat) (b : SBlock), l[j]? = some b → d.seen.has (k + j) = true → ∀ e ∈ b.term.to, domEdge (k + j) d e = d
 | [], k, d, _, _, _, _, j, b, hb => by simp at hb
 | c :: l, k, d, hl, ok, h, ha, j, b, hb => by
  have hl' : k + (l.length + 1) = n := hl
  have h1 := block_w (k := k) (by omega) ok (h c (Yb ..))
  have hr := fun x hx => h x (Yc c hx)
  have h2 := pass_w (l := l) (k := k + 1) (by omega) h1.1 hr
  rw [domPass] at ha
  have e2 := again_keep h2 ha
  have ha1 : (domBlock d k c).again = false := by rw [← e2]; exact ha
  obtain ⟨e1, g⟩ := block_fix (by omega) ok (h c (Yb ..)) ha1
  rw [e1] at ha
  cases j with
  | zero =>
   simp at hb
   subst hb
   exact g
  | succ j =>
   simp at hb
   have := pass_fix (by omega) ok hr ha j b hb
   rwa [show k + 1 + j = k + (j + 1) by omega] at this
structure DomFix (bs : List SBlock) (d : Dom) : Prop where
 ok : DomOk bs.length d
 seen0 : d.seen.has 0 = true
 at0 : d.at 0 = BSet.with noSet 0
 fix : ∀ (k : Nat) (b : SBlock), bs[k]? = some b → d.seen.has k = true → ∀ e ∈ b.term.to, domEdge k d e = d
def DomZ (n : Nat) (d : Dom) : Prop := d.seen.has 0 = true ∧ d.at 0 = BSet.with noSet 0
theorem edge_z {n k : Nat} {d : Dom} {e : SEdge} (ok : DomOk n d) (h1 : 1 ≤ e.block) (h2 : e.block < n) (hz : DomZ n d) : DomZ n (domEdge k d e) := by
 unfold domEdge
 dsimp only
 have hn := ok.le
 split
 ·refine ⟨?_, ?_⟩
  ·rw [has_with _ (by omega) (by omega), hz.1]; rfl
  ·rw [at_set (by rw [ok.len]; omega), if_neg (by omega)]; exact hz.2
 ·exact hz
theorem edges_z {n k : Nat} (hk : k < n) : ∀ {l : List SEdge} {d : Dom}, DomOk n d → (∀ e ∈ l, 1 ≤ e.block ∧ e.block < n) → DomZ n d → DomZ n (l.foldl (domEdge k) d)
 | [], d, _, _, hz => hz
 | e :: l, d, ok, h, hz => by
  have he := h e (Yb ..)
  show DomZ n (l.foldl (domEdge k) (domEdge k d e))
  exact edges_z (l := l) hk (domEdge_w ok hk he.1 he.2).1 (fun x hx => h x (Yc e hx)) (edge_z ok he.1 he.2 hz)
theorem block_z {n k : Nat} {b : SBlock} {d : Dom} (hk : k < n) (ok : DomOk n d) (h : ∀ e ∈ b.term.to, 1 ≤ e.block ∧ e.block < n) (hz : DomZ n d) : DomZ n (domBlock d k b) := by
 unfold domBlock
 split
 ·exact edges_z hk ok h hz
 ·exact hz
theorem pass_z {n : Nat} : ∀ {l : List SBlock} {k : Nat} {d : Dom}, k + l.length = n → DomOk n d → (∀ b ∈ l, ∀ e ∈ b.term.to, 1 ≤ e.block ∧ e.block < n) → DomZ n d → DomZ n (domPass k l d)
 | [], k, d, _, _, _, hz => hz
 | c :: l, k, d, hl, ok, h, hz => by
  have hl' : k + (l.length + 1) = n := hl
  show DomZ n (domPass (k + 1) l (domBlock d k c))
  exact pass_z (l := l) (by omega) (block_w (k := k) (by omega) ok (h c (Yb ..))).1 (fun x hx => h x (Yc c hx)) (block_z (by omega) ok (h c (Yb ..)) hz)
theorem domIter_fix {bs : List SBlock} (h : ∀ b ∈ bs, ∀ e ∈ b.term.to, 1 ≤ e.block ∧ e.block < bs.length) : ∀ (n : Nat) (d : Dom), DomOk bs.length d → DomZ bs.length d → weight bs.length d + (if d.again then 1 else 0) ≤ n → (d.again = false → DomFix bs d) → DomFix bs (domIter bs n d)
 | 0, d, ok, hz, hw, hf => by
  cases ha : d.again with
  | false => exact hf ha
  | true => rw [ha, if_pos rfl] at hw; omega
 | n + 1, d, ok, hz, hw, hf => by
  cases ha : d.again with
  | false => rw [domIter, if_neg (by rw [ha]; decide)]; exact hf ha
  | true =>
   obtain ⟨n', e, h1, h2, h3⟩ := round ok h hw ha
   have : n = n' := by omega
   subst this
   have ok0 : DomOk bs.length { d with again := false } := ⟨ok.len, ok.le, ok.self⟩
   have hz1 : DomZ bs.length (domPass 0 bs { d with again := false }) := pass_z (by omega) ok0 h hz
   rw [h1]
   refine domIter_fix h n _ h2 hz1 h3 fun ha2 => ?_
   have e2 := again_keep (pass_w (l := bs) (k := 0) (by omega) ok0 h) ha2
   have hfx := pass_fix (l := bs) (k := 0) (by omega) ok0 h ha2
   rw [e2] at hz1 ⊢
   exact ⟨ok0, hz1.1, hz1.2, fun k b hb hs => by have := hfx k b hb (by rw [Yap]; exact hs); rwa [Yap] at this⟩
theorem dom_fix {bs : List SBlock} (h0 : 0 < bs.length) (hn : bs.length ≤ 128) (h : ∀ b ∈ bs, ∀ e ∈ b.term.to, 1 ≤ e.block ∧ e.block < bs.length) : DomFix bs (domF bs) := by
 refine domIter_fix h _ _ (start_ok h0 hn) ⟨?_, ?_⟩ ?_ fun h => by cases h
 ·show (BSet.with noSet 0).has 0 = true
  rw [has_with _ (by omega) (by omega)]
  simp
 ·unfold domStart Dom.at
  rw [Yr, if_pos rfl, if_pos (by simpa using h0)]
  rfl
 ·have := start_w bs.length
  have ha : (domStart bs.length).again = true := rfl
  rw [ha, if_pos rfl, domFuel]
  omega
inductive Way (bs : List SBlock) : List Nat → Nat → Prop where
 | start : Way bs [] 0
 | step {l : List Nat} {p k : Nat} : Way bs l p → Edge bs p k → Way bs (p :: l) k
theorem dom_way {bs : List SBlock} {d : Dom} (hd : DomFix bs d) (h : ∀ b ∈ bs, ∀ e ∈ b.term.to, 1 ≤ e.block ∧ e.block < bs.length) {l : List Nat} {k : Nat} (hw : Way bs l k) : d.seen.has k = true ∧ k < 128 ∧ ∀ j, j < 128 → (d.at k).has j = true → j = k ∨ j ∈ l := by
 induction hw with
 | start =>
  refine ⟨hd.seen0, by omega, fun j hj hh => ?_⟩
  rw [hd.at0, has_with _ (by omega) hj, has_no, Bool.false_or, decide_eq_true_eq] at hh
  exact .inl hh
 | @step l p k hw he ih =>
  obtain ⟨hs, hp, ih⟩ := ih
  obtain ⟨e, hem, rfl⟩ := he
  obtain ⟨b, hb, hem⟩ : ∃ b, bs[p]? = some b ∧ e ∈ b.term.to := by
   unfold toAt at hem
   cases hb : bs[p]? with
   | none => rw [hb] at hem; cases hem
   | some b => rw [hb] at hem; exact ⟨b, rfl, hem⟩
  have hr := h b (Ya hb) e hem
  have hn := hd.ok.le
  have ht : e.block.toNat < 128 := by omega
  have hfx := hd.fix p b hb hs e hem
  unfold domEdge at hfx
  dsimp only at hfx
  split at hfx
  ·rename_i hc
   -- a change cannot leave all as it was
   exfalso
   have h1 : (d.over.set e.block.toNat (((d.at e.block.toNat).both (d.at p)).with e.block.toNat))[e.block.toNat]? = d.over[e.block.toNat]? := by
    have := congrArg Dom.over hfx
    dsimp only at this
    rw [this]
   have h2 := congrArg Dom.seen hfx
   dsimp only at h2
   rcases hc with hc | hc
   ·rw [Yr, if_pos rfl, if_pos (by rw [hd.ok.len]; omega)] at h1
    have h3 : d.at e.block.toNat = ((d.at e.block.toNat).both (d.at p)).with e.block.toNat := (congrArg (fun o : Option BSet => o.getD noSet) h1).symm
    exact hc h3.symm
   ·rw [← h2, has_with _ ht ht] at hc
    simp at hc
  ·rename_i hc
   rw [not_or] at hc
   obtain ⟨h1, h2⟩ := hc
   have h1 := Classical.not_not.1 h1
   refine ⟨by simpa using h2, ht, fun j hj hh => ?_⟩
   rw [← h1, has_with _ ht hj, has_both, Bool.or_eq_true, Bool.and_eq_true, decide_eq_true_eq] at hh
   rcases hh with hh | hh
   ·rcases ih j hj hh.2 with h3 | h3
    ·exact .inr (by rw [h3]; exact Yb ..)
    ·exact .inr (Yc _ h3)
   ·exact .inl hh
end Go.SM
end
section
set_option linter.unusedVariables false
set_option linter.unusedSimpArgs false
set_option linter.unusedSectionVars false
namespace Go.SM
open Go.VL
def Doms (bs : List SBlock) (x v : Nat) : Prop := ∀ l, Way bs l v → x = v ∨ x ∈ l
theorem doms_pred {bs : List SBlock} {x p v : Nat} (h : Doms bs x v) (hx : x ≠ v) (he : Edge bs p v) : Doms bs x p := fun l hl => by
 rcases h _ (.step hl he) with e | e
 ·exact absurd e hx
 ·rcases Yd.1 e with e | e
  ·exact .inl e
  ·exact .inr e
section
variable {bs : List SBlock} (ho : OrderOk bs (orderF bs)) (hE : ∀ b ∈ bs, ∀ e ∈ b.term.to, 1 ≤ e.block ∧ e.block < bs.length) {ov : List Int}
include ho
end
end Go.SM
end
section
set_option linter.unusedVariables false
set_option linter.unusedSimpArgs false
namespace Go.SM
open Go.VL
structure DomMost (bs : List SBlock) (d : Dom) : Prop where
 most : ∀ k j : Nat, k < bs.length → j < bs.length → Doms bs j k → (d.at k).has j = true
 seen : ∀ k : Nat, k < 128 → d.seen.has k = true → ∃ l, Way bs l k
theorem most_start {bs : List SBlock} (h0 : 0 < bs.length) (hn : bs.length ≤ 128) : DomMost bs (domStart bs.length) := by
 refine ⟨fun k j hk hj hd => ?_, fun k hk hs => ?_⟩
 ·unfold domStart Dom.at
  dsimp only
  rw [Yr]
  split
  ·rename_i e
   subst e
   rw [if_pos (by simpa using h0)]
   rcases hd [] .start with e | e
   ·subst e
    show (BSet.with noSet 0).has 0 = true
    rw [has_with _ (by omega) (by omega)]
    simp
   ·cases e
  ·rw [List.getElem?_replicate, if_pos hk]
   show (allSet bs.length).has j = true
   rw [has_all _ hn j (by omega)]
   exact decide_eq_true hj
 ·have hs : (BSet.with noSet 0).has k = true := hs
  rw [has_with _ (by omega) hk, has_no, Bool.false_or, decide_eq_true_eq] at hs
  subst hs
  exact ⟨[], .start⟩
theorem most_edge {bs : List SBlock} (hn : bs.length ≤ 128) {d : Dom} (ok : DomOk bs.length d) {k : Nat} {e : SEdge} (hk : k < bs.length) (he : e ∈ toAt bs k) (h1 : 1 ≤ e.block) (h2 : e.block < bs.length) (hs : d.seen.has k = true) (h : DomMost bs d) : DomMost bs (domEdge k d e) := by
 unfold domEdge
 dsimp only
 have hte : Edge bs k e.block.toNat := ⟨e, he, rfl⟩
 split
 ·refine ⟨fun v j hv hj hd => ?_, fun v hv hsv => ?_⟩
  ·rw [at_set (by rw [ok.len]; omega)]
   split
   ·rename_i e1
    subst e1
    rw [has_with _ (by omega) (by omega), has_both]
    by_cases hjt : j = e.block.toNat
    ·rw [decide_eq_true hjt, Bool.or_true]
    ·rw [h.most _ j hv hj hd, h.most k j hk hj (doms_pred hd hjt hte)]
     rfl
   ·exact h.most v j hv hj hd
  ·have hsv : (d.seen.with e.block.toNat).has v = true := hsv
   rw [has_with _ (by omega) hv, Bool.or_eq_true, decide_eq_true_eq] at hsv
   rcases hsv with hsv | rfl
   ·exact h.seen v hv hsv
   ·obtain ⟨l, hl⟩ := h.seen k (by omega) hs
    exact ⟨_, .step hl hte⟩
 ·exact h
theorem seen_edge {n k : Nat} {d : Dom} {e : SEdge} (hn : n ≤ 128) (hk : k < n) (h1 : 1 ≤ e.block) (h2 : e.block < n) (hs : d.seen.has k = true) : (domEdge k d e).seen.has k = true := by
 unfold domEdge
 dsimp only
 split
 ·rw [has_with _ (by omega) (by omega), hs]; rfl
 ·exact hs
theorem most_edges {bs : List SBlock} (hn : bs.length ≤ 128) {k : Nat} (hk : k < bs.length) : ∀ {l : List SEdge} {d : Dom}, DomOk bs.length d → (∀ e ∈ l, e ∈ toAt bs k) → (∀ e ∈ l, 1 ≤ e.block ∧ e.block < bs.length) → d.seen.has k = true → DomMost bs d → DomMost bs (l.foldl (domEdge k) d)
 | [], d, _, _, _, _, h => h
 | e :: l, d, ok, hl, hb, hs, h => by
  have he := hb e (Yb ..)
  show DomMost bs (l.foldl (domEdge k) (domEdge k d e))
  exact most_edges hn hk (l := l) (domEdge_w ok hk he.1 he.2).1 (fun x hx => hl x (Yc _ hx)) (fun x hx => hb x (Yc _ hx)) (seen_edge hn hk he.1 he.2 hs) (most_edge hn ok hk (hl e (Yb ..)) he.1 he.2 hs h)
theorem most_block {bs : List SBlock} (hn : bs.length ≤ 128) {k : Nat} {b : SBlock} {d : Dom} (hb : bs[k]? = some b) (ok : DomOk bs.length d) (hE : ∀ e ∈ b.term.to, 1 ≤ e.block ∧ e.block < bs.length) (h : DomMost bs d) : DomMost bs (domBlock d k b) := by
 unfold domBlock
 split
 ·rename_i hs
  exact most_edges hn (Ye.1 hb).1 ok (fun e he => by rw [toAt_get hb]; exact he) hE hs h
 ·exact h
theorem most_pass {bs : List SBlock} (hn : bs.length ≤ 128) (hE : ∀ b ∈ bs, ∀ e ∈ b.term.to, 1 ≤ e.block ∧ e.block < bs.length) : ∀ {l : List SBlock} {k : Nat} {d : Dom}, bs.drop k = l → DomOk bs.length d → DomMost bs d → DomMost bs (domPass k l d)
 | [], k, d, _, _, h => h
 | c :: l, k, d, hl, ok, h => by
  have hb : bs[k]? = some c := by
   have h9 : (bs.drop k)[0]? = some c := by rw [hl]; rfl
   rwa [Yv, Yaq] at h9
  have hl2 : bs.drop (k + 1) = l := by
   have h9 : (bs.drop k).drop 1 = l := by rw [hl]; rfl
   rwa [List.drop_drop] at h9
  have hk := (Ye.1 hb).1
  have hc := hE c (Ya hb)
  show DomMost bs (domPass (k + 1) l (domBlock d k c))
  exact most_pass hn hE hl2 (block_w hk ok hc).1 (most_block hn hb ok hc h)
theorem most_iter {bs : List SBlock} (hn : bs.length ≤ 128) (hE : ∀ b ∈ bs, ∀ e ∈ b.term.to, 1 ≤ e.block ∧ e.block < bs.length) : ∀ (n : Nat) (d : Dom), DomOk bs.length d → DomMost bs d → DomMost bs (domIter bs n d)
 | 0, d, _, h => h
 | n + 1, d, ok, h => by
  rw [domIter]
  split
  ·have ok0 : DomOk bs.length { d with again := false } := ⟨ok.len, ok.le, ok.self⟩
   exact most_iter hn hE n _ (pass_w (l := bs) (k := 0) (by omega) ok0 hE).1 (most_pass hn hE rfl ok0 ⟨h.most, h.seen⟩)
  ·exact h
theorem dom_most {bs : List SBlock} (h0 : 0 < bs.length) (hn : bs.length ≤ 128) (hE : ∀ b ∈ bs, ∀ e ∈ b.term.to, 1 ≤ e.block ∧ e.block < bs.length) : DomMost bs (domF bs) := most_iter hn hE _ _ (start_ok h0 hn) (most_start h0 hn)
theorem has_iff {bs : List SBlock} (h0 : 0 < bs.length) (hn : bs.length ≤ 128) (hE : ∀ b ∈ bs, ∀ e ∈ b.term.to, 1 ≤ e.block ∧ e.block < bs.length) {k j : Nat} (hk : ∃ l, Way bs l k) (hkl : k < bs.length) (hj : j < bs.length) : ((domF bs).at k).has j = true ↔ Doms bs j k :=
 ⟨fun h l hw => (dom_way (dom_fix h0 hn hE) hE hw).2.2 j (by omega) h, (dom_most h0 hn hE).most k j hkl hj⟩
theorem seen_iff {bs : List SBlock} (h0 : 0 < bs.length) (hn : bs.length ≤ 128) (hE : ∀ b ∈ bs, ∀ e ∈ b.term.to, 1 ≤ e.block ∧ e.block < bs.length) {k : Nat} (hk : k < 128) : (domF bs).seen.has k = true ↔ ∃ l, Way bs l k :=
 ⟨(dom_most h0 hn hE).seen k hk, fun ⟨l, hw⟩ => (dom_way (dom_fix h0 hn hE) hE hw).1⟩
end Go.SM
end
section
set_option linter.unusedVariables false
set_option linter.unusedSimpArgs false
namespace Go.SM
open Go.VL
abbrev keys (d : Defs) : List Int := d.map (·.1)
structure KOk (d new : Defs) : Prop where
 wi : ∀ x ∈ keys new, wi x 0 4095 = true
 nodup : (keys new).Nodup
 fresh : ∀ x ∈ keys new, x ∉ keys d
theorem kok_nil (d : Defs) : KOk d [] := ⟨by simp, by simp, by simp⟩
theorem kok_append {d a b : Defs} : KOk d (a ++ b) ↔ KOk d a ∧ KOk (d ++ a) b := by
 constructor
 ·rintro ⟨h1, h2, h3⟩
  simp only [keys, Yo] at h1 h2 h3
  obtain ⟨n1, n2, n3⟩ := Yaf.1 h2
  refine ⟨⟨fun x hx => h1 x (Yab _ hx), n1, fun x hx => h3 x (Yab _ hx)⟩, ⟨fun x hx => h1 x (Yac _ hx), n2, fun x hx => ?_⟩⟩
  simp only [keys, Yo, Ys, not_or]
  exact ⟨h3 x (Yac _ hx), fun hm => n3 x hm x hx rfl⟩
 ·rintro ⟨⟨a1, a2, a3⟩, ⟨b1, b2, b3⟩⟩
  simp only [keys, Yo] at b3
  refine ⟨fun x hx => ?_, ?_, fun x hx => ?_⟩ <;> simp only [keys, Yo] at *
  ·rcases Ys.1 hx with h | h
   ·exact a1 x h
   ·exact b1 x h
  ·exact Yaf.2 ⟨a2, b2, fun x hx y hy e => by subst e; exact b3 x hy (Yac _ hx)⟩
  ·rcases Ys.1 hx with h | h
   ·exact a3 x h
   ·exact fun hm => b3 x h (Yab _ hm)
theorem kok_one {d : Defs} {v : Int} {p : Int × Int} : KOk d [(v, p)] ↔ wi v 0 4095 = true ∧ v ∉ keys d := by
 constructor
 ·rintro ⟨h1, _, h3⟩
  exact ⟨h1 v (by simp), h3 v (by simp)⟩
 ·rintro ⟨h1, h2⟩
  exact ⟨fun x hx => by simp at hx; subst hx; exact h1, by simp, fun x hx => by simp at hx; subst hx; exact h2⟩
theorem dget_out {v : Int} : ∀ {d : Defs}, dget d v = none ↔ v ∉ keys d
 | [] => by simp [dget]
 | (k, p) :: d => by
  rw [dget]
  split
  ·rename_i e
   subst e
   simp
  ·rename_i e
   rw [dget_out]
   simp only [keys, Yp, Yd, not_or]
   exact ⟨fun h => ⟨fun e2 => e e2.symm, h⟩, fun h => h.2⟩
theorem define_iff {v : Int} {p : Int × Int} {d : Defs} : (defineF v p d).1 = 0 ↔ KOk d [(v, p)] := by
 rw [kok_one]
 unfold defineF
 cases hw : wi v 0 4095 with
 | false => simp
 | true =>
  rw [if_neg (by decide)]
  cases hd : dget d v with
  | none =>
   rw [if_neg (by decide)]
   exact ⟨fun _ => ⟨rfl, dget_out.1 hd⟩, fun _ => rfl⟩
  | some x =>
   rw [if_pos (show (some x).isSome = true from rfl)]
   have : ¬ v ∉ keys d := fun h => by rw [dget_out.2 h] at hd; cases hd
   exact ⟨fun h => absurd (show (7 : Int) = 0 from h) (by decide), fun h => absurd h.2 this⟩
theorem define_eq {v : Int} {p : Int × Int} {d : Defs} (h : (defineF v p d).1 = 0) : (defineF v p d).2 = d ++ [(v, p)] := by
 have h2 := h
 rw [define_iff, kok_one] at h2
 unfold defineF
 rw [if_neg (by rw [h2.1]; decide), dget_out.2 h2.2, if_neg (by decide)]
theorem params_iff {k : Int} : ∀ {ps : List Int} {d : Defs}, ((paramsF k ps d).1 = 0 ↔ KOk d (defsP k ps)) ∧ ((paramsF k ps d).1 = 0 → (paramsF k ps d).2 = d ++ defsP k ps)
 | [], d => ⟨⟨fun _ => kok_nil d, fun _ => rfl⟩, fun _ => by simp [paramsF, defsP]⟩
 | p :: ps, d => by
  have hc : defsP k (p :: ps) = [(p, (k, 0))] ++ defsP k ps := rfl
  rw [hc, kok_append, paramsF]
  by_cases h : (defineF p (k, 0) d).1 = 0
  ·rw [if_neg (fun h2 => h2 h)]
   have he := define_eq h
   obtain ⟨h1, h2⟩ := params_iff (k := k) (ps := ps) (d := (defineF p (k, 0) d).2)
   rw [he] at h1 h2
   rw [he]
   exact ⟨⟨fun h3 => ⟨define_iff.1 h, h1.1 h3⟩, fun h3 => h1.2 h3.2⟩, fun h3 => by rw [h2 h3, Yi]⟩
  ·rw [if_pos h]
   exact ⟨⟨fun h3 => absurd h3 h, fun h3 => absurd (define_iff.2 h3.1) h⟩, fun h3 => absurd h3 h⟩
theorem inss_iff {k : Int} : ∀ {is : List SIns} {n : Int} {d : Defs}, ((inssF k n is d).1 = 0 ↔ KOk d (defsI k n is) ∧ ∀ i ∈ is, formF i = 0) ∧ ((inssF k n is d).1 = 0 → (inssF k n is d).2 = d ++ defsI k n is)
 | [], n, d => ⟨⟨fun _ => ⟨kok_nil d, fun i hi => by cases hi⟩, fun _ => rfl⟩, fun _ => by simp [inssF, defsI]⟩
 | i :: is, n, d => by
  have hc : defsI k n (i :: is) = [(i.to, (k, n + 1))] ++ defsI k (n + 1) is := rfl
  rw [hc, kok_append, inssF]
  by_cases h : (defineF i.to (k, n + 1) d).1 = 0
  ·rw [if_neg (fun h2 => h2 h)]
   have he := define_eq h
   by_cases hf : formF i = 0
   ·rw [if_neg (fun h2 => h2 hf)]
    obtain ⟨h1, h2⟩ := inss_iff (k := k) (is := is) (n := n + 1) (d := (defineF i.to (k, n + 1) d).2)
    rw [he] at h1 h2
    rw [he]
    refine ⟨⟨fun h3 => ?_, fun h3 => ?_⟩, fun h3 => by rw [h2 h3, Yi]⟩
    ·have h4 := h1.1 h3
     refine ⟨⟨define_iff.1 h, h4.1⟩, fun j hj => ?_⟩
     rcases Yd.1 hj with rfl | hj
     ·exact hf
     ·exact h4.2 j hj
    ·exact h1.2 ⟨h3.1.2, fun j hj => h3.2 j (Yc _ hj)⟩
   ·rw [if_pos hf]
    exact ⟨⟨fun h3 => absurd h3 hf, fun h3 => absurd (h3.2 i (Yb ..)) hf⟩, fun h3 => absurd h3 hf⟩
  ·rw [if_pos h]
   exact ⟨⟨fun h3 => absurd h3 h, fun h3 => absurd (define_iff.2 h3.1.1) h⟩, fun h3 => absurd h3 h⟩
theorem block_iff {bs : List SBlock} {k : Int} {b : SBlock} {d : Defs} : ((blockF bs k b d).1 = 0 ↔ KOk d (defsB k b) ∧ blockOk bs b) ∧ ((blockF bs k b d).1 = 0 → (blockF bs k b d).2 = d ++ defsB k b) := by
 unfold blockF defsB blockOk
 rw [kok_append]
 obtain ⟨p1, p2⟩ := params_iff (k := k) (ps := b.params) (d := d)
 by_cases hp : (paramsF k b.params d).1 = 0
 ·rw [if_neg (fun h => h hp)]
  rw [p2 hp]
  obtain ⟨i1, i2⟩ := inss_iff (k := k) (is := b.ins) (n := 0) (d := d ++ defsP k b.params)
  by_cases hi : (inssF k 0 b.ins (d ++ defsP k b.params)).1 = 0
  ·rw [if_neg (fun h => h hi)]
   dsimp only
   rw [i2 hi]
   exact ⟨⟨fun h => ⟨⟨p1.1 hp, (i1.1 hi).1⟩, (i1.1 hi).2, h⟩, fun h => h.2.2⟩, fun h => Yi ..⟩
  ·rw [if_pos hi]
   exact ⟨⟨fun h => absurd h hi, fun h => absurd (i1.2 ⟨h.1.2, h.2.1⟩) hi⟩, fun h => absurd h hi⟩
 ·rw [if_pos hp]
  exact ⟨⟨fun h => absurd h hp, fun h => absurd (p1.2 h.1.1) hp⟩, fun h => absurd h hp⟩
theorem blocks_iff {bs : List SBlock} : ∀ {l : List SBlock} {k : Int} {d : Defs}, ((blocksF bs k l d).1 = 0 ↔ KOk d (defsL k l) ∧ ∀ b ∈ l, blockOk bs b) ∧ ((blocksF bs k l d).1 = 0 → (blocksF bs k l d).2 = d ++ defsL k l)
 | [], k, d => ⟨⟨fun _ => ⟨kok_nil d, fun i hi => by cases hi⟩, fun _ => rfl⟩, fun _ => by simp [blocksF, defsL]⟩
 | b :: l, k, d => by
  rw [defsL, kok_append, blocksF]
  obtain ⟨b1, b2⟩ := block_iff (bs := bs) (k := k) (b := b) (d := d)
  by_cases h : (blockF bs k b d).1 = 0
  ·rw [if_neg (fun h2 => h2 h), b2 h]
   obtain ⟨h1, h2⟩ := blocks_iff (bs := bs) (l := l) (k := k + 1) (d := d ++ defsB k b)
   refine ⟨⟨fun h3 => ?_, fun h3 => ?_⟩, fun h3 => by rw [h2 h3, Yi]⟩
   ·have h4 := h1.1 h3
    refine ⟨⟨(b1.1 h).1, h4.1⟩, fun j hj => ?_⟩
    rcases Yd.1 hj with rfl | hj
    ·exact (b1.1 h).2
    ·exact h4.2 j hj
   ·exact h1.2 ⟨h3.1.2, fun j hj => h3.2 j (Yc _ hj)⟩
  ·rw [if_pos h]
   exact ⟨⟨fun h3 => absurd h3 h, fun h3 => absurd (b1.2 ⟨h3.1.1, h3.2 b (Yb ..)⟩) h⟩, fun h3 => absurd h3 h⟩
theorem dget_at {v : Int} {p : Int × Int} : ∀ {d : Defs}, (keys d).Nodup → (dget d v = some p ↔ (v, p) ∈ d)
 | [], _ => by simp [dget]
 | (k, q) :: d, h => by
  obtain ⟨h1, h2⟩ := Yt.1 (show (k :: keys d).Nodup from h)
  rw [dget]
  split
  ·rename_i e
   subst e
   constructor
   ·intro e; injection e with e; subst e; exact Yb ..
   ·intro hm
    rcases Yd.1 hm with e | hm
    ·injection e with _ e; rw [e]
    ·exact absurd (Yf.2 ⟨_, hm, rfl⟩) h1
  ·rename_i e
   rw [dget_at h2]
   constructor
   ·intro hm; exact Yc _ hm
   ·intro hm
    rcases Yd.1 hm with e2 | hm
    ·injection e2 with e2 _; exact absurd e2.symm e
    ·exact hm
def dI : Int → List SIns → List (Int × Int)
 | _, [] => []
 | n, i :: is => (i.to, n + 1) :: dI (n + 1) is
def dB (b : SBlock) : List (Int × Int) := b.params.map (fun p => (p, 0)) ++ dI 0 b.ins
theorem defsI_eq (k : Int) : ∀ (is : List SIns) (n : Int), defsI k n is = (dI n is).map fun e => (e.1, (k, e.2))
 | [], n => rfl
 | i :: is, n => by rw [defsI, dI, Yp, defsI_eq k is]
theorem defsB_eq (k : Int) (b : SBlock) : defsB k b = (dB b).map fun e => (e.1, (k, e.2)) := by
 unfold defsB dB defsP
 rw [Yo, List.map_map, defsI_eq]
 rfl
theorem defsL_at {x : Int × Int × Int} : ∀ {l : List SBlock} {k : Int}, x ∈ defsL k l ↔ ∃ (j : Nat) (b : SBlock), l[j]? = some b ∧ x.2.1 = k + j ∧ (x.1, x.2.2) ∈ dB b
 | [], k => by simp [defsL]
 | c :: l, k => by
  rw [defsL, Ys, defsL_at (l := l), defsB_eq, Yf]
  constructor
  ·rintro (⟨e, he, rfl⟩ | ⟨j, b, hb, h1, h2⟩)
   ·exact ⟨0, c, rfl, by simp, he⟩
   ·exact ⟨j + 1, b, by simpa using hb, by rw [h1]; simp; omega, h2⟩
  ·rintro ⟨j, b, hb, h1, h2⟩
   cases j with
   | zero =>
    have hb : c = b := by simpa using hb
    subst hb
    refine .inl ⟨_, h2, ?_⟩
    obtain ⟨a, b, e⟩ := x
    have h1 : b = k + (0 : Nat) := h1
    rw [show b = k by rw [h1]; simp]
   | succ j => exact .inr ⟨j, b, by simpa using hb, by rw [h1]; simp; omega, h2⟩
theorem keysI_len : ∀ (is : List SIns) (n : Int), (dI n is).length = is.length
 | [], n => rfl
 | i :: is, n => by rw [dI, Yh, keysI_len is, Yh]
def insN : List SBlock → Nat
 | [] => 0
 | b :: l => b.ins.length + insN l
theorem keysL : ∀ (l : List SBlock) (k : Int), keys (defsL k l) = l.flatMap fun b => (dB b).map (·.1)
 | [], k => rfl
 | b :: l, k => by
  rw [defsL, keys, Yo, List.flatMap_cons]
  have h := keysL l (k + 1)
  rw [keys] at h
  rw [h, defsB_eq, List.map_map]
  rfl
theorem insN_le : ∀ (l : List SBlock), insN l ≤ (l.flatMap fun b => (dB b).map (·.1)).length
 | [] => Yas _
 | b :: l => by
  have h := insN_le l
  rw [insN, List.flatMap_cons, Yg, Yj, dB, Yg, keysI_len]
  omega
theorem nodup_wi {l : List Int} (h : l.Nodup) (hw : ∀ x ∈ l, wi x 0 4095 = true) : l.length ≤ 4096 := by
 have h1 := nodup_lt (l := l.map Int.toNat) (n := 4096) ?_ fun v hv => by
  obtain ⟨x, hx, rfl⟩ := Yf.1 hv
  have := wi_iff.1 (hw x hx)
  omega
 ·rwa [Yj] at h1
 ·rw [List.Nodup, List.pairwise_map]
  refine List.Pairwise.imp_of_mem (fun {a c} ha hc hne e => hne ?_) h
  have h1 := wi_iff.1 (hw a ha)
  have h2 := wi_iff.1 (hw c hc)
  omega
theorem count_eq : ∀ (l : List SBlock) (n : Int), 0 ≤ n → n + insN l ≤ 9223372036854775807 → countIns n l = n + insN l
 | [], n, _, _ => by simp [countIns, insN]
 | b :: l, n, h0, h => by
  rw [insN] at h
  rw [countIns, insN]
  have e : IntKind.i64.wrap (n + b.ins.length) = n + b.ins.length := by rw [IntKind.wrap_i64]; omega
  rw [e, count_eq l _ (by omega) (by omega)]
  omega
structure FuncIs (f : SFunc) : Prop where
 pos : 0 < f.blocks.length
 len : f.blocks.length ≤ 128
 ins : insN f.blocks ≤ 1024
 params : (paramsOf f.blocks 0).length ≤ 6
 name : wi f.name (-1) 1048575 = true
 kok : KOk [] (defsL 0 f.blocks)
 block : ∀ b ∈ f.blocks, blockOk f.blocks b
 uses : usesF (defsL 0 f.blocks) (domF f.blocks) 0 f.blocks = 0
theorem func_iff {f : SFunc} : funcF f = 0 ↔ FuncIs f := by
 constructor
 ·intro h
  have hok := func_ok h
  obtain ⟨h1, h2⟩ := blocks_iff (bs := f.blocks) (l := f.blocks) (k := 0) (d := [])
  have h3 := h1.1 hok.blocks
  have h4 := h2 hok.blocks
  have hu := hok.uses
  rw [h4, Yw] at hu
  have hl := nodup_wi h3.1.nodup h3.1.wi
  rw [keysL] at hl
  have hi := insN_le f.blocks
  have hc := hok.ins
  rw [count_eq _ _ (by omega) (by omega)] at hc
  exact ⟨hok.pos, hok.len, by omega, hok.params, wi_iff.2 hok.name, h3.1, h3.2, hu⟩
 ·intro h
  obtain ⟨h1, h2⟩ := blocks_iff (bs := f.blocks) (l := f.blocks) (k := 0) (d := [])
  have h3 := h1.2 ⟨h.kok, h.block⟩
  have h4 := h2 h3
  have a1 := h.pos
  have a2 := h.len
  have a3 := h.ins
  have a4 := h.params
  unfold funcF
  rw [if_neg (by omega), if_neg (by rw [count_eq _ _ (by omega) (by omega)]; omega), if_neg (by rw [h.name]; decide), if_neg (fun hn => hn h3), h4, Yw]
  exact h.uses
end Go.SM
end
section
set_option linter.unusedVariables false
set_option linter.unusedSimpArgs false
namespace Go.SM
open Go.VL
def atF (f : SFunc) : List Int := placeF (reachL f) f.blocks.length
def reachN (f : SFunc) : List Nat := (List.range f.blocks.length).filter fun v => decide (v ∈ orderF f.blocks)
section
variable {f : SFunc} (ho : OrderOk f.blocks (orderF f.blocks))
include ho
end
theorem edgesF_iff {bs : List SBlock} : ∀ {l : List SEdge}, (∀ e ∈ l, 1 ≤ e.block ∧ e.block < bs.length ∧ e.args.length = (paramsOf bs e.block).length) → edgesF bs l = 0
 | [], _ => rfl
 | e :: l, h => by
  have h1 := h e (Yb ..)
  rw [edgesF, if_neg (by rw [wi_iff.2 ⟨h1.1, by omega⟩]; decide), if_neg (fun hn => hn h1.2.2)]
  exact edgesF_iff fun x hx => h x (Yc _ hx)
theorem usesF_iff {d : Defs} {o : Dom} : ∀ {l : List SBlock} {k : Nat}, usesF d o k l = 0 ↔ ∀ (j : Nat) (b : SBlock), l[j]? = some b → usesIns d o (k + j) 0 b.ins = true ∧ usedF b.term (fineF d o (k + j) b.ins.length) = true
 | [], k => by simp [usesF]
 | c :: l, k => by
  rw [usesF]
  constructor
  ·intro h j b hb
   split at h
   ·cases h
   ·rename_i h1
    split at h
    ·cases h
    ·rename_i h2
     cases j with
     | zero =>
      have hb : c = b := by simpa using hb
      subst hb
      exact ⟨by simpa using h1, by simpa using h2⟩
     | succ j =>
      have := usesF_iff.1 h j b (by simpa using hb)
      rwa [show k + 1 + j = k + (j + 1) by omega] at this
  ·intro h
   have h0 := h 0 c rfl
   rw [Yaq] at h0
   rw [if_neg (by rw [h0.1]; decide), if_neg (by rw [h0.2]; decide)]
   exact usesF_iff.2 fun j b hb => by
    have := h (j + 1) b (by simpa using hb)
    rwa [show k + (j + 1) = k + 1 + j by omega] at this
theorem usesIns_imp {d d' : Defs} {o o' : Dom} {k k' : Nat} (h : ∀ n u, fineF d o k n u = true → fineF d' o' k' n u = true) : ∀ {is : List SIns} {n : Int}, usesIns d o k n is = true → usesIns d' o' k' n is = true
 | [], n, _ => rfl
 | i :: is, n, hu => by
  rw [usesIns, Bool.and_eq_true, Ym] at hu ⊢
  exact ⟨fun u hu2 => h n u (hu.1 u hu2), usesIns_imp h hu.2⟩
end Go.SM
end
section
set_option linter.unusedVariables false
set_option linter.unusedSimpArgs false
set_option linter.unusedSectionVars false
namespace Go.SM
open Go.VL
def jumpB (e : SEdge) : SBlock := ⟨[], [], ⟨1, 0, 0, [], [e]⟩⟩
abbrev Cut := List (Nat × SEdge)
def spE (c : SEdge → Bool) (n k : Nat) : List SEdge → Cut → List SEdge × Cut
 | [], X => ([], X)
 | e :: l, X => if c e = true then (⟨((n + X.length : Nat) : Int), []⟩ :: (spE c n k l (X ++ [(k, e)])).1, (spE c n k l (X ++ [(k, e)])).2) else (e :: (spE c n k l X).1, (spE c n k l X).2)
def setTo (b : SBlock) (to : List SEdge) : SBlock := { b with term := { b.term with to := to } }
def spB (c : SBlock → SEdge → Bool) (n : Nat) : Nat → List SBlock → Cut → List SBlock × Cut
 | _, [], X => ([], X)
 | k, b :: l, X => (setTo b (spE (c b) n k b.term.to X).1 :: (spB c n (k + 1) l (spE (c b) n k b.term.to X).2).1, (spB c n (k + 1) l (spE (c b) n k b.term.to X).2).2)
def critB (bs : List SBlock) (b : SBlock) (e : SEdge) : Bool := !(decide ((b.term.to.length : Int) < 2) || decide ((((predsF bs)[e.block.toNat]?.getD []).length : Int) < 2))
def splitP (f : SFunc) : List SBlock × Cut := spB (critB f.blocks) f.blocks.length 0 f.blocks []
def splitF (f : SFunc) : SFunc := ⟨f.name, (splitP f).1 ++ (splitP f).2.map fun x => jumpB x.2⟩
theorem spE_pre (c : SEdge → Bool) (n k : Nat) : ∀ (l : List SEdge) (X : Cut), ∃ Y, (spE c n k l X).2 = X ++ Y ∧ Y.length ≤ l.length ∧ ∀ x ∈ Y, x.1 = k ∧ x.2 ∈ l
 | [], X => ⟨[], by rw [spE, Yl], Yas _, fun x h => by cases h⟩
 | e :: l, X => by
  rw [spE]
  split
  ·obtain ⟨Y, h1, h2, h3⟩ := spE_pre c n k l (X ++ [(k, e)])
   refine ⟨(k, e) :: Y, by rw [h1, Yi]; rfl, by simp; omega, fun x hx => ?_⟩
   rcases Yd.1 hx with rfl | hx
   ·exact ⟨rfl, Yb ..⟩
   ·exact ⟨(h3 x hx).1, Yc _ (h3 x hx).2⟩
  ·obtain ⟨Y, h1, h2, h3⟩ := spE_pre c n k l X
   exact ⟨Y, h1, by simp; omega, fun x hx => ⟨(h3 x hx).1, Yc _ (h3 x hx).2⟩⟩
theorem spE_len (c : SEdge → Bool) (n k : Nat) : ∀ (l : List SEdge) (X : Cut), (spE c n k l X).1.length = l.length
 | [], X => rfl
 | e :: l, X => by
  rw [spE]
  split
  ·show (_ :: _).length = _
   rw [Yh, spE_len, Yh]
  ·show (_ :: _).length = _
   rw [Yh, spE_len, Yh]
theorem spE_get (c : SEdge → Bool) (n k : Nat) : ∀ (l : List SEdge) (X : Cut) (i : Nat) (e : SEdge), l[i]? = some e → (spE c n k l X).1[i]? = some e ∨ ∃ j, (spE c n k l X).2[j]? = some (k, e) ∧ (spE c n k l X).1[i]? = some ⟨((n + j : Nat) : Int), []⟩
 | [], X, i, e, h => by simp at h
 | a :: l, X, i, e, h => by
  rw [spE]
  split
  ·dsimp only
   cases i with
   | zero =>
    have h : a = e := by simpa using h
    subst h
    obtain ⟨Y, h1, _⟩ := spE_pre c n k l (X ++ [(k, a)])
    refine .inr ⟨X.length, ?_, rfl⟩
    rw [h1, Yi, Yad (Yas _), Yat]
    rfl
   | succ i =>
    have h : l[i]? = some e := by simpa using h
    simpa using spE_get c n k l _ i e h
  ·dsimp only
   cases i with
   | zero =>
    have h : a = e := by simpa using h
    subst h
    exact .inl rfl
   | succ i =>
    have h : l[i]? = some e := by simpa using h
    simpa using spE_get c n k l _ i e h
theorem spB_pre (c : SBlock → SEdge → Bool) (n : Nat) : ∀ (l : List SBlock) (k : Nat) (X : Cut), ∃ Y, (spB c n k l X).2 = X ++ Y ∧ ∀ x ∈ Y, ∃ i b, l[i]? = some b ∧ x.1 = k + i ∧ x.2 ∈ b.term.to
 | [], k, X => ⟨[], by rw [spB, Yl], fun x h => by cases h⟩
 | b :: l, k, X => by
  rw [spB]
  obtain ⟨Y, h1, _, h2⟩ := spE_pre (c b) n k b.term.to X
  obtain ⟨Z, h3, h4⟩ := spB_pre c n l (k + 1) (spE (c b) n k b.term.to X).2
  refine ⟨Y ++ Z, by rw [h3, h1, Yi], fun x hx => ?_⟩
  rcases Ys.1 hx with hx | hx
  ·exact ⟨0, b, rfl, (h2 x hx).1, (h2 x hx).2⟩
  ·obtain ⟨i, d, g1, g2, g3⟩ := h4 x hx
   exact ⟨i + 1, d, by simpa using g1, by omega, g3⟩
theorem spB_len (c : SBlock → SEdge → Bool) (n : Nat) : ∀ (l : List SBlock) (k : Nat) (X : Cut), (spB c n k l X).1.length = l.length
 | [], k, X => rfl
 | b :: l, k, X => by
  rw [spB]
  show (_ :: _).length = _
  rw [Yh, spB_len, Yh]
theorem spB_get (c : SBlock → SEdge → Bool) (n : Nat) : ∀ (l : List SBlock) (k : Nat) (X : Cut) (i : Nat) (b : SBlock), l[i]? = some b → ∃ to : List SEdge, (spB c n k l X).1[i]? = some (setTo b to) ∧ to.length = b.term.to.length ∧ ∀ (j : Nat) (e : SEdge), b.term.to[j]? = some e → to[j]? = some e ∨ ∃ m, (spB c n k l X).2[m]? = some (k + i, e) ∧ to[j]? = some ⟨((n + m : Nat) : Int), []⟩
 | [], k, X, i, b, h => by simp at h
 | a :: l, k, X, i, b, h => by
  rw [spB]
  dsimp only
  cases i with
  | zero =>
   have h : a = b := by simpa using h
   subst h
   refine ⟨_, rfl, spE_len .., fun j e he => ?_⟩
   rcases spE_get (c a) n k a.term.to X j e he with h | ⟨m, h1, h2⟩
   ·exact .inl h
   ·obtain ⟨Y, h3, _⟩ := spB_pre c n l (k + 1) (spE (c a) n k a.term.to X).2
    refine .inr ⟨m, ?_, h2⟩
    rw [h3, Yx (Ye.1 h1).1]
    exact h1
  | succ i =>
   have h : l[i]? = some b := by simpa using h
   obtain ⟨to, h1, h2, h3⟩ := spB_get c n l (k + 1) (spE (c a) n k a.term.to X).2 i b h
   refine ⟨to, by simpa using h1, h2, fun j e he => (h3 j e he).imp id fun ⟨m, g1, g2⟩ => ⟨m, ?_, g2⟩⟩
   rw [g1, show k + 1 + i = k + (i + 1) by omega]
structure SplitOk (bs gs : List SBlock) (E : Cut) : Prop where
 len : gs.length = bs.length + E.length
 old : ∀ k b, bs[k]? = some b → ∃ to : List SEdge, gs[k]? = some (setTo b to) ∧ to.length = b.term.to.length ∧ ∀ (j : Nat) (e : SEdge), b.term.to[j]? = some e → to[j]? = some e ∨ ∃ m, E[m]? = some (k, e) ∧ to[j]? = some ⟨((bs.length + m : Nat) : Int), []⟩
 new : ∀ m k e, E[m]? = some (k, e) → gs[bs.length + m]? = some (jumpB e) ∧ ∃ b, bs[k]? = some b ∧ e ∈ b.term.to
theorem split_is (f : SFunc) : SplitOk f.blocks (splitF f).blocks (splitP f).2 := by
 have hl : (splitP f).1.length = f.blocks.length := spB_len ..
 refine ⟨by unfold splitF; dsimp only; rw [Yg, Yj, hl], fun k b hb => ?_, fun m k e he => ?_⟩
 ·obtain ⟨to, h1, h2, h3⟩ := spB_get (critB f.blocks) f.blocks.length f.blocks 0 [] k b hb
  have hk := (Ye.1 hb).1
  refine ⟨to, ?_, h2, fun j e he => (h3 j e he).imp id fun ⟨m, g1, g2⟩ => ⟨m, by rw [Yap] at g1; exact g1, g2⟩⟩
  unfold splitF
  dsimp only
  rw [Yx (by omega)]
  exact h1
 ·obtain ⟨Y, h1, h2⟩ := spB_pre (critB f.blocks) f.blocks.length f.blocks 0 []
  refine ⟨?_, ?_⟩
  ·unfold splitF
   dsimp only
   rw [Yad (by omega), hl, Nat.add_sub_cancel_left, Yn, he]
   rfl
  ·have hm : (k, e) ∈ Y := by
    have := Ya he
    unfold splitP at this
    rw [h1] at this
    exact this
   obtain ⟨i, b, g1, g2, g3⟩ := h2 _ hm
   have g2 : k = 0 + i := g2
   rw [Yap] at g2
   subst g2
   exact ⟨b, g1, g3⟩
section
variable {bs gs : List SBlock} {E : Cut} (h : SplitOk bs gs E) (hE : ∀ b ∈ bs, ∀ e ∈ b.term.to, 1 ≤ e.block ∧ e.block < bs.length)
include h hE
theorem way_split {l : List Nat} {v : Nat} (hw : Way bs l v) : ∃ l', Way gs l' v ∧ ∀ y ∈ l', y < bs.length → y ∈ l := by
 induction hw with
 | start => exact ⟨[], .start, fun y hy => by cases hy⟩
 | @step l p k _ he ih =>
  obtain ⟨l', h1, h2⟩ := ih
  obtain ⟨e, he, hek⟩ := he
  have hpl : p < bs.length := Classical.byContradiction fun hn => by
   rw [toAt, Yag (by omega)] at he
   cases he
  obtain ⟨b, hb⟩ := get_of_lt bs p (by omega)
  rw [toAt_get hb] at he
  obtain ⟨j, hj⟩ := Yk he
  obtain ⟨to, g1, g2, g3⟩ := h.old p b hb
  have hto : toAt gs p = to := by rw [toAt_get g1]; rfl
  rcases g3 j e hj with g | ⟨m, g4, g5⟩
  ·refine ⟨p :: l', .step h1 ⟨e, by rw [hto]; exact Ya g, hek⟩, fun y hy hyl => ?_⟩
   rcases Yd.1 hy with rfl | hy
   ·exact Yb ..
   ·exact Yc _ (h2 y hy hyl)
  ·have hn := (h.new m p e g4).1
   refine ⟨(bs.length + m) :: p :: l', .step (.step h1 ⟨_, by rw [hto]; exact Ya g5, by dsimp only; omega⟩) ⟨e, by rw [toAt_get hn]; exact Yq.2 rfl, hek⟩, fun y hy hyl => ?_⟩
   rcases Yd.1 hy with rfl | hy
   ·omega
   ·rcases Yd.1 hy with rfl | hy
    ·exact Yb ..
    ·exact Yc _ (h2 y hy hyl)
theorem split_way {l : List Nat} {v : Nat} (hw : Way gs l v) : (v < bs.length → ∃ l0, Way bs l0 v ∧ ∀ y ∈ l0, y ∈ l) ∧
  ∀ m k e, v = bs.length + m → E[m]? = some (k, e) → k ∈ l ∧ ∃ l0, Way bs l0 k ∧ ∀ y ∈ l0, y ∈ l := by
 induction hw with
 | start => exact ⟨fun _ => ⟨[], .start, fun y hy => by cases hy⟩, fun m k e hv he => by
   obtain ⟨_, b, hb, hm⟩ := h.new m k e he
   have := hE b (Ya hb) e hm
   omega⟩
 | @step l p v hw he ih =>
  obtain ⟨ih1, ih2⟩ := ih
  obtain ⟨e, he, hev⟩ := he
  by_cases hp : p < bs.length
  ·obtain ⟨l0, w0, s0⟩ := ih1 hp
   obtain ⟨b, hb⟩ := get_of_lt bs p (by omega)
   obtain ⟨to, g1, g2, g3⟩ := h.old p b hb
   have hto : toAt gs p = to := by rw [toAt_get g1]; rfl
   rw [hto] at he
   obtain ⟨j, hj⟩ := Yk he
   have hjl := (Ye.1 hj).1
   obtain ⟨x, hx⟩ := get_of_lt b.term.to j (by omega)
   have hxe := hE b (Ya hb) x (Ya hx)
   rcases g3 j x hx with g | ⟨m, g4, g5⟩
   ·rw [hj] at g
    injection g with g
    subst g
    refine ⟨fun _ => ⟨p :: l0, .step w0 ⟨e, by rw [toAt_get hb]; exact Ya hx, hev⟩, fun y hy => ?_⟩, fun m k x2 hv _ => by omega⟩
    rcases Yd.1 hy with rfl | hy
    ·exact Yb ..
    ·exact Yc _ (s0 y hy)
   ·rw [hj] at g5
    injection g5 with g5
    subst g5
    dsimp only at hev
    refine ⟨fun hl => by omega, fun m2 k x2 hv he2 => ?_⟩
    have : m2 = m := by omega
    subst this
    rw [g4] at he2
    injection he2 with he2
    injection he2 with he2 he3
    subst he2
    exact ⟨Yb .., l0, w0, fun y hy => Yc _ (s0 y hy)⟩
  ·have hpl : p < gs.length := Classical.byContradiction fun hn => by
    rw [toAt, Yag (by omega)] at he
    cases he
   have hlen := h.len
   obtain ⟨⟨q, x⟩, hx⟩ := get_of_lt E (p - bs.length) (by omega)
   obtain ⟨n1, b, hb, hm⟩ := h.new _ q x hx
   rw [show bs.length + (p - bs.length) = p by omega] at n1
   obtain ⟨i1, l0, w0, s0⟩ := ih2 (p - bs.length) q x (by omega) hx
   rw [toAt_get n1] at he
   have he : e = x := Yq.1 he
   subst he
   have hxe := hE b (Ya hb) e hm
   refine ⟨fun _ => ⟨q :: l0, .step w0 ⟨e, by rw [toAt_get hb]; exact hm, hev⟩, fun y hy => ?_⟩, fun m k x2 hv _ => by omega⟩
   rcases Yd.1 hy with rfl | hy
   ·exact Yc _ i1
   ·exact Yc _ (s0 y hy)
theorem split_reach {v : Nat} (hv : v < bs.length) : (∃ l, Way gs l v) ↔ ∃ l, Way bs l v :=
 ⟨fun ⟨l, hw⟩ => let ⟨l0, w0, _⟩ := (split_way h hE hw).1 hv; ⟨l0, w0⟩, fun ⟨l, hw⟩ => let ⟨l', w', _⟩ := way_split h hE hw; ⟨l', w'⟩⟩
theorem split_doms {a b : Nat} (ha : a < bs.length) (hb : b < bs.length) : Doms gs a b ↔ Doms bs a b := by
 constructor
 ·intro hd l hw
  obtain ⟨l', w', s'⟩ := way_split h hE hw
  exact (hd l' w').imp id fun hm => s' a hm ha
 ·intro hd l hw
  obtain ⟨l0, w0, s0⟩ := (split_way h hE hw).1 hb
  exact (hd l0 w0).imp id (s0 a)
end
end Go.SM
end
section
set_option linter.unusedVariables false
set_option linter.unusedSimpArgs false
namespace Go.SM
open Go.VL
theorem defsL_append : ∀ (a b : List SBlock) (k : Int), defsL k (a ++ b) = defsL k a ++ defsL (k + a.length) b
 | [], b, k => by simp [defsL]
 | x :: a, b, k => by
  rw [Yah, defsL, defsL, defsL_append a b, Yi, Yh, show k + 1 + (a.length : Int) = k + ((a.length + 1 : Nat) : Int) by omega]
theorem defsL_jump : ∀ (E : Cut) (k : Int), defsL k (E.map fun x => jumpB x.2) = []
 | [], k => rfl
 | x :: E, k => by rw [Yp, defsL, defsL_jump E]; rfl
theorem defsL_spB (c : SBlock → SEdge → Bool) (n : Nat) : ∀ (l : List SBlock) (k : Nat) (X : Cut) (m : Int), defsL m (spB c n k l X).1 = defsL m l
 | [], k, X, m => rfl
 | b :: l, k, X, m => by
  rw [spB, defsL]
  show defsL m (_ :: _) = _
  rw [defsL, defsL_spB c n l]
  rfl
theorem defs_split (f : SFunc) : defsL 0 (splitF f).blocks = defsL 0 f.blocks := by
 unfold splitF
 dsimp only
 rw [defsL_append, defsL_jump, Yl]
 exact defsL_spB ..
theorem insN_append : ∀ a b : List SBlock, insN (a ++ b) = insN a + insN b
 | [], b => by rw [Yw, insN, Yap]
 | x :: a, b => by rw [Yah, insN, insN, insN_append a b]; omega
theorem insN_jump : ∀ E : Cut, insN (E.map fun x => jumpB x.2) = 0
 | [] => rfl
 | x :: E => by rw [Yp, insN, insN_jump E]; rfl
theorem insN_spB (c : SBlock → SEdge → Bool) (n : Nat) : ∀ (l : List SBlock) (k : Nat) (X : Cut), insN (spB c n k l X).1 = insN l
 | [], k, X => rfl
 | b :: l, k, X => by
  rw [spB, insN]
  show insN (_ :: _) = _
  rw [insN, insN_spB c n l]
  rfl
theorem insN_split (f : SFunc) : insN (splitF f).blocks = insN f.blocks := by
 unfold splitF
 dsimp only
 rw [insN_append, insN_jump, Yaq]
 exact insN_spB ..
theorem split_ok {f : SFunc} (h0 : funcF f = 0) (hl : (splitF f).blocks.length ≤ 128) : funcF (splitF f) = 0 := by
 have hok := func_ok h0
 have hE := hok.edges
 have fi := func_iff.1 h0
 have h := split_is f
 have hlen := h.len
 have hpos := hok.pos
 have hpar : ∀ v : Int, 0 ≤ v → v < f.blocks.length → paramsOf (splitF f).blocks v = paramsOf f.blocks v := fun v h1 h2 => by
  obtain ⟨b, hb⟩ := get_of_lt f.blocks v.toNat (by omega)
  obtain ⟨to, g1, _⟩ := h.old _ b hb
  rw [paramsOf_get g1, paramsOf_get hb]
  rfl
 have hjmp : ∀ (m k : Nat) (e : SEdge), (splitP f).2[m]? = some (k, e) → paramsOf (splitF f).blocks ((f.blocks.length + m : Nat) : Int) = [] := fun m k e hm => by
  rw [paramsOf_get (k := ((f.blocks.length + m : Nat) : Int)) (b := jumpB e) (by rw [Yav]; exact (h.new m k e hm).1)]
  rfl
 have hget : ∀ (i : Nat) (c : SBlock), (splitF f).blocks[i]? = some c → (∃ b to, f.blocks[i]? = some b ∧ c = setTo b to ∧ to.length = b.term.to.length ∧ ∀ e' ∈ to, e' ∈ b.term.to ∨ ∃ m e, (splitP f).2[m]? = some (i, e) ∧ e' = ⟨((f.blocks.length + m : Nat) : Int), []⟩) ∨
   ∃ m k e b, i = f.blocks.length + m ∧ (splitP f).2[m]? = some (k, e) ∧ c = jumpB e ∧ f.blocks[k]? = some b ∧ e ∈ b.term.to := fun i c hc => by
  have hil := (Ye.1 hc).1
  by_cases hi : i < f.blocks.length
  ·obtain ⟨b, hb⟩ := get_of_lt f.blocks i (by omega)
   obtain ⟨to, g1, g2, g3⟩ := h.old i b hb
   rw [hc] at g1
   injection g1 with g1
   refine .inl ⟨b, to, hb, g1, g2, fun e' he' => ?_⟩
   obtain ⟨j, hj⟩ := Yk he'
   have hjl := (Ye.1 hj).1
   obtain ⟨x, hx⟩ := get_of_lt b.term.to j (by omega)
   rcases g3 j x hx with g | ⟨m, g4, g5⟩
   ·rw [hj] at g
    injection g with g
    exact .inl (g ▸ Ya hx)
   ·rw [hj] at g5
    injection g5 with g5
    exact .inr ⟨m, x, g4, g5⟩
  ·obtain ⟨⟨k, e⟩, hx⟩ := get_of_lt (splitP f).2 (i - f.blocks.length) (by omega)
   obtain ⟨g1, b, hb, hm⟩ := h.new _ k e hx
   rw [show f.blocks.length + (i - f.blocks.length) = i by omega, hc] at g1
   injection g1 with g1
   exact .inr ⟨_, k, e, b, by omega, hx, g1, hb, hm⟩
 have hed : ∀ b ∈ f.blocks, ∀ e ∈ b.term.to, 1 ≤ e.block ∧ e.block < (splitF f).blocks.length ∧ e.args.length = (paramsOf (splitF f).blocks e.block).length := fun b hb e he => by
  obtain ⟨x1, x2, x3⟩ := (endF_ok (fi.block b hb).2).edges e he
  exact ⟨x1, by omega, by rw [hpar _ (by omega) x2]; exact x3⟩
 have hblk : ∀ c ∈ (splitF f).blocks, blockOk (splitF f).blocks c := fun c hc => by
  obtain ⟨i, hi⟩ := Yk hc
  rcases hget i c hi with ⟨b, to, hb, rfl, hto, hes⟩ | ⟨m, k, e, b, rfl, hx, rfl, hb, hm⟩
  ·have hbm := Ya hb
   obtain ⟨b1, b2⟩ := fi.block b hbm
   refine ⟨b1, ?_⟩
   have he := endF_ok b2
   unfold endF at b2 ⊢
   have hsh : shapeF (setTo b to).term = shapeF b.term := by
    unfold shapeF setTo
    simp only [hto]
   rw [hsh, if_neg (by rw [he.shape]; decide)]
   change (if 256 < (b.term.cases.length : Int) then 2 else if b.term.kind = 4 ∧ wi b.term.n 1 6 = false then 4 else if casesF [] b.term.cases ≠ 0 then casesF [] b.term.cases else edgesF (splitF f).blocks to) = 0
   rw [if_neg (by rw [he.shape]; decide)] at b2
   split at b2
   ·cases b2
   ·rename_i h2
    rw [if_neg h2]
    split at b2
    ·cases b2
    ·rename_i h3
     rw [if_neg h3, if_neg (fun hn => hn he.cases)]
     refine edgesF_iff fun e' he' => ?_
     rcases hes e' he' with h4 | ⟨m, e, hm, rfl⟩
     ·exact hed b hbm e' h4
     ·have hml := (Ye.1 hm).1
      refine ⟨by dsimp only; omega, by dsimp only; omega, ?_⟩
      dsimp only
      rw [hjmp m i e hm]
  ·refine ⟨fun i hi => (by cases hi), ?_⟩
   have h1 := hed b (Ya hb) e hm
   have h2 : edgesF (splitF f).blocks [e] = 0 := edgesF_iff fun x hx => by
    rw [Yq.1 hx]
    exact h1
   show endF _ ⟨1, 0, 0, [], [e]⟩ = 0
   unfold endF
   rw [if_neg (by simp [shapeF]), if_neg (by simp), if_neg (by simp), if_neg (by simp [casesF])]
   exact h2
 have hEg : ∀ b ∈ (splitF f).blocks, ∀ e ∈ b.term.to, 1 ≤ e.block ∧ e.block < (splitF f).blocks.length := fun b hb e he => by
  have := (endF_ok (hblk b hb).2).edges e he
  exact ⟨this.1, this.2.1⟩
 have hgpos : 0 < (splitF f).blocks.length := by omega
 have hlen128 := hok.len
 refine func_iff.2 ⟨hgpos, hl, by rw [insN_split]; exact fi.ins, ?_, fi.name, by rw [defs_split]; exact fi.kok, hblk, ?_⟩
 ·rw [hpar 0 (Yaw _) (by omega)]
  exact fi.params
 ·rw [defs_split]
  refine usesF_iff.2 fun i c hi => ?_
  rw [Yap]
  have hil := (Ye.1 hi).1
  have hunseen : ∀ {at_ u : Int}, (¬ ∃ l, Way (splitF f).blocks l i) → (dget (defsL 0 f.blocks) u).isSome = true → fineF (defsL 0 f.blocks) (domF (splitF f).blocks) i at_ u = true := fun {at_ u} hn hs => by
   have hsn : (domF (splitF f).blocks).seen.has i = false := by
    cases hc : (domF (splitF f).blocks).seen.has i with
    | false => rfl
    | true => exact absurd ((seen_iff hgpos hl hEg (by omega)).1 hc) hn
   unfold fineF
   cases hg : dget (defsL 0 f.blocks) u with
   | none => rw [hg] at hs; cases hs
   | some p => dsimp only; rw [hsn]; simp
  -- what a use of the old function knows
  have hknow : ∀ {k : Nat} {at_ u : Int}, k < f.blocks.length → fineF (defsL 0 f.blocks) (domF f.blocks) k at_ u = true → ∃ j q, j < f.blocks.length ∧ dget (defsL 0 f.blocks) u = some ((j : Int), q) ∧ ((∃ l, Way f.blocks l k) → j = k ∧ q ≤ at_ ∨ j ≠ k ∧ Doms f.blocks j k) := fun {k at_ u} hk hf => by
   unfold fineF at hf
   cases hg : dget (defsL 0 f.blocks) u with
   | none => rw [hg] at hf; cases hf
   | some p =>
    rw [hg] at hf
    dsimp only at hf
    obtain ⟨j, bj, hbj, hp1, hp2⟩ := defsL_at.1 ((dget_at fi.kok.nodup).1 hg)
    obtain ⟨p1, q⟩ := p
    have hp1 : p1 = (0 : Int) + j := hp1
    rw [Int.zero_add] at hp1
    subst hp1
    have hjl := (Ye.1 hbj).1
    refine ⟨j, q, hjl, rfl, fun hw => ?_⟩
    have hseen : (domF f.blocks).seen.has k = true := (seen_iff hok.pos hok.len hE (by omega)).2 hw
    rw [hseen] at hf
    simp only [Bool.not_true, Bool.or_false, Bool.or_eq_true, Bool.and_eq_true, decide_eq_true_eq, Yav] at hf
    rcases hf with ⟨h1, h2⟩ | ⟨h1, h2⟩
    ·exact .inl ⟨by omega, h2⟩
    ·exact .inr ⟨fun e => h1 (by rw [e]), (has_iff hok.pos hok.len hE hw hk hjl).1 h2⟩
  have hdom : ∀ {j : Nat} {at_ u q : Int}, j < f.blocks.length → dget (defsL 0 f.blocks) u = some ((j : Int), q) → (∃ l, Way (splitF f).blocks l i) → (j = i ∧ q ≤ at_ ∨ j ≠ i ∧ Doms (splitF f).blocks j i) → fineF (defsL 0 f.blocks) (domF (splitF f).blocks) i at_ u = true := fun {j at_ u q} hj hg hw hor => by
   unfold fineF
   rw [hg]
   dsimp only
   rcases hor with ⟨rfl, h2⟩ | ⟨h1, h2⟩
   ·simp [h2]
   ·have hh : ((domF (splitF f).blocks).at i).has j = true := (has_iff hgpos hl hEg hw hil (by omega)).2 h2
    rw [Yav, hh]
    have hne : ¬ (j : Int) = (i : Int) := fun e => h1 (by omega)
    simp [hne]
  rcases hget i c hi with ⟨b, to, hb, rfl, hto, hes⟩ | ⟨m, k, e, b, rfl, hx, rfl, hb, hm⟩
  ·have hu := usesF_iff.1 fi.uses i b hb
   rw [Yap] at hu
   have hin : i < f.blocks.length := (Ye.1 hb).1
   have hfine : ∀ n u, fineF (defsL 0 f.blocks) (domF f.blocks) i n u = true → fineF (defsL 0 f.blocks) (domF (splitF f).blocks) i n u = true := fun n u hf => by
    obtain ⟨j, q, hj, hg, hor⟩ := hknow hin hf
    by_cases hr : ∃ l, Way (splitF f).blocks l i
    ·refine hdom hj hg hr ?_
     exact (hor ((split_reach h hE hin).1 hr)).imp id fun h1 => ⟨h1.1, (split_doms h hE hj hin).2 h1.2⟩
    ·exact hunseen hr (by rw [hg]; rfl)
   refine ⟨usesIns_imp hfine hu.1, ?_⟩
   have h2 := hu.2
   show usedF { b.term with to := to } (fineF _ _ i b.ins.length) = true
   unfold usedF at h2 ⊢
   dsimp only
   split at h2
   ·cases h2
   ·rename_i h1
    rw [if_neg (fun h3 => h1 ⟨h3.1, by
     cases hc : fineF (defsL 0 f.blocks) (domF f.blocks) i b.ins.length b.term.arg with
     | false => rfl
     | true => rw [hfine _ _ hc] at h3; exact absurd h3.2 (by decide)⟩)]
    rw [Ym] at h2 ⊢
    intro e' he'
    rcases hes e' he' with h4 | ⟨m, e, _, rfl⟩
    ·have := h2 e' h4
     rw [Ym] at this ⊢
     exact fun u hu2 => hfine _ u (this u hu2)
    ·rfl
  ·refine ⟨rfl, ?_⟩
   have hkl : k < f.blocks.length := (Ye.1 hb).1
   have hu := (usesF_iff.1 fi.uses k b hb).2
   rw [Yap] at hu
   have hall := (Ym.1 (show b.term.to.all (fun e => e.args.all (fineF (defsL 0 f.blocks) (domF f.blocks) k b.ins.length)) = true by
    unfold usedF at hu
    split at hu
    ·cases hu
    ·exact hu)) e hm
   rw [Ym] at hall
   show usedF ⟨1, 0, 0, [], [e]⟩ _ = true
   unfold usedF
   rw [if_neg (fun h3 => h3.1.1 rfl), Ym]
   intro e' he'
   rw [Yq.1 he', Ym]
   intro u hu2
   obtain ⟨j, q, hj, hg, hor⟩ := hknow hkl (hall u hu2)
   by_cases hr : ∃ l, Way (splitF f).blocks l (f.blocks.length + m)
   ·refine hdom hj hg hr (.inr ⟨by omega, fun l hw => .inr ?_⟩)
    obtain ⟨g1, l0, w0, s0⟩ := (split_way h hE hw).2 m k e rfl hx
    rcases hor ⟨l0, w0⟩ with ⟨rfl, _⟩ | ⟨_, hd⟩
    ·exact g1
    ·rcases hd l0 w0 with rfl | hd
     ·exact g1
     ·exact s0 j hd
   ·exact hunseen hr (by rw [hg]; rfl)
end Go.SM
end
section
set_option linter.unusedVariables false
set_option linter.unusedSimpArgs false
namespace Go.SM
open Go.VL
def cntE (t : Nat) (l : List SEdge) : Nat := l.countP fun e => decide (e.block.toNat = t)
def cntB (t : Nat) : List SBlock → Nat
 | [] => 0
 | b :: l => cntE t b.term.to + cntB t l
def cntX (t : Nat) (X : Cut) : Nat := X.countP fun x => decide (x.2.block.toNat = t)
theorem cntE_cons (t : Nat) (e : SEdge) (l : List SEdge) : cntE t (e :: l) = cntE t l + if e.block.toNat = t then 1 else 0 := by
 unfold cntE
 rw [List.countP_cons]
 simp
theorem cntB_append (t : Nat) : ∀ a b : List SBlock, cntB t (a ++ b) = cntB t a + cntB t b
 | [], b => by rw [Yw, cntB, Yap]
 | x :: a, b => by rw [Yah, cntB, cntB, cntB_append t a b]; omega
theorem cntX_append (t : Nat) (X Y : Cut) : cntX t (X ++ Y) = cntX t X + cntX t Y := List.countP_append
theorem cntX_one (t k : Nat) (e : SEdge) : cntX t [(k, e)] = if e.block.toNat = t then 1 else 0 := by
 unfold cntX
 rw [List.countP_singleton]
 simp
theorem predE_cnt {k t : Nat} {P : List (List Int)} {e : SEdge} (ht : t < P.length) : ((predE k P e)[t]?.getD []).length = (P[t]?.getD []).length + if e.block.toNat = t then 1 else 0 := by
 unfold predE
 rw [Yr]
 by_cases h : e.block.toNat = t
 ·rw [if_pos h, if_pos h, if_pos (by omega), Option.getD_some, Yg, h]
  rfl
 ·rw [if_neg h, if_neg h, Yaq]
theorem foldE_cnt {k t : Nat} : ∀ {l : List SEdge} {P : List (List Int)}, t < P.length → ((l.foldl (predE k) P)[t]?.getD []).length = (P[t]?.getD []).length + cntE t l
 | [], P, _ => rfl
 | e :: l, P, ht => by rw [Yz, foldE_cnt (by rw [predE_len]; exact ht), predE_cnt ht, cntE_cons]; omega
theorem predL_cnt {t : Nat} : ∀ {l : List SBlock} {k : Nat} {P : List (List Int)}, t < P.length → ((predL k l P)[t]?.getD []).length = (P[t]?.getD []).length + cntB t l
 | [], k, P, _ => rfl
 | b :: l, k, P, ht => by rw [predL, predL_cnt (by rw [predB, foldl_len]; exact ht), predB, foldE_cnt ht, cntB]; omega
theorem preds_cnt {bs : List SBlock} {t : Nat} (ht : t < bs.length) : ((predsF bs)[t]?.getD []).length = cntB t bs := by
 unfold predsF
 rw [predL_cnt (by rw [List.length_replicate]; exact ht), List.getElem?_replicate, if_pos ht]
 simp
theorem spE_cnt (c : SEdge → Bool) {n t : Nat} (k : Nat) (ht : t < n) : ∀ (l : List SEdge) (X : Cut), cntE t (spE c n k l X).1 + cntX t (spE c n k l X).2 = cntE t l + cntX t X
 | [], X => rfl
 | e :: l, X => by
  rw [spE]
  split
  ·dsimp only
   have h := spE_cnt c k ht l (X ++ [(k, e)])
   rw [cntX_append, cntX_one] at h
   rw [cntE_cons, cntE_cons, if_neg (by dsimp only; omega)]
   omega
  ·dsimp only
   have h := spE_cnt c k ht l X
   rw [cntE_cons, cntE_cons]
   omega
theorem spB_cnt (c : SBlock → SEdge → Bool) {n t : Nat} (ht : t < n) : ∀ (l : List SBlock) (k : Nat) (X : Cut), cntB t (spB c n k l X).1 + cntX t (spB c n k l X).2 = cntB t l + cntX t X
 | [], k, X => rfl
 | b :: l, k, X => by
  rw [spB]
  dsimp only
  rw [cntB, cntB]
  have h1 := spE_cnt (c b) k ht b.term.to X
  have h2 := spB_cnt c ht l (k + 1) (spE (c b) n k b.term.to X).2
  show cntE t (spE (c b) n k b.term.to X).1 + _ + _ = _
  omega
theorem jump_cnt (t : Nat) : ∀ E : Cut, cntB t (E.map fun x => jumpB x.2) = cntX t E
 | [] => rfl
 | (k, e) :: E => by
  have h : (k, e) :: E = [(k, e)] ++ E := rfl
  rw [Yp, cntB, jump_cnt t E, h, cntX_append, cntX_one]
  show cntE t [e] + _ = _
  rw [cntE_cons]
  show 0 + _ + _ = _
  omega
theorem spE_new (c : SEdge → Bool) {n : Nat} (k j : Nat) : ∀ (l : List SEdge) (X : Cut), (∀ e ∈ l, e.block.toNat < n) → cntE (n + j) (spE c n k l X).1 ≤ if X.length ≤ j ∧ j < (spE c n k l X).2.length then 1 else 0
 | [], X, _ => Yar _
 | e :: l, X, h => by
  have he := h e (Yb ..)
  have hl : ∀ e ∈ l, e.block.toNat < n := fun x hx => h x (Yc _ hx)
  rw [spE]
  split
  ·dsimp only
   have h1 := spE_new c k j l (X ++ [(k, e)]) hl
   obtain ⟨Y, h2, _⟩ := spE_pre c n k l (X ++ [(k, e)])
   have h3 : (spE c n k l (X ++ [(k, e)])).2.length = X.length + 1 + Y.length := by rw [h2, Yg, Yg]; rfl
   rw [h3] at h1 ⊢
   rw [Yg, List.length_singleton] at h1
   rw [cntE_cons]
   dsimp only
   split at h1 <;> split <;> split <;> omega
  ·dsimp only
   have h1 := spE_new c k j l X hl
   rw [cntE_cons, if_neg (by omega)]
   exact h1
theorem spB_new (c : SBlock → SEdge → Bool) {n : Nat} (j : Nat) : ∀ (l : List SBlock) (k : Nat) (X : Cut), (∀ b ∈ l, ∀ e ∈ b.term.to, e.block.toNat < n) → cntB (n + j) (spB c n k l X).1 ≤ if X.length ≤ j ∧ j < (spB c n k l X).2.length then 1 else 0
 | [], k, X, _ => Yar _
 | b :: l, k, X, h => by
  rw [spB]
  dsimp only
  rw [cntB]
  have h1 := spE_new (c b) (n := n) k j b.term.to X (h b (Yb ..))
  have h2 := spB_new c (n := n) j l (k + 1) (spE (c b) n k b.term.to X).2 fun x hx => h x (Yc _ hx)
  obtain ⟨Y, h3, _⟩ := spE_pre (c b) n k b.term.to X
  obtain ⟨Z, h4, _⟩ := spB_pre c n l (k + 1) (spE (c b) n k b.term.to X).2
  have h5 : (spE (c b) n k b.term.to X).2.length = X.length + Y.length := by rw [h3, Yg]
  have h6 : (spB c n (k + 1) l (spE (c b) n k b.term.to X).2).2.length = X.length + Y.length + Z.length := by rw [h4, Yg, h5]
  rw [h6] at h2 ⊢
  rw [h5] at h1 h2
  show cntE (n + j) (spE (c b) n k b.term.to X).1 + _ ≤ _
  split at h1 <;> split at h2 <;> split <;> omega
theorem jump_new {n j : Nat} : ∀ E : Cut, (∀ x ∈ E, x.2.block.toNat < n) → cntX (n + j) E = 0
 | [], _ => rfl
 | (k, e) :: E, h => by
  have h1 : (k, e) :: E = [(k, e)] ++ E := rfl
  have h2 := h (k, e) (Yb ..)
  rw [h1, cntX_append, cntX_one, if_neg (by dsimp only at h2; omega), jump_new E fun x hx => h x (Yc _ hx)]
section
variable {f : SFunc} (hf : FuncOk f)
include hf
omit hf in
theorem split_cnt {t : Nat} (ht : t < f.blocks.length) : cntB t (splitF f).blocks = cntB t f.blocks := by
 have h := spB_cnt (critB f.blocks) ht f.blocks 0 []
 unfold splitF
 dsimp only
 rw [cntB_append, jump_cnt]
 have e : cntX t [] = 0 := rfl
 rw [e] at h
 exact h
theorem split_new {j : Nat} : cntB (f.blocks.length + j) (splitF f).blocks ≤ 1 := by
 have hE := hf.edges
 have h1 := spB_new (critB f.blocks) (n := f.blocks.length) j f.blocks 0 [] fun b hb e he => by have := hE b hb e he; omega
 unfold splitF
 dsimp only
 rw [cntB_append, jump_cnt, jump_new]
 ·show cntB _ (spB (critB f.blocks) f.blocks.length 0 f.blocks []).1 + 0 ≤ 1
  split at h1 <;> omega
 ·intro x hx
  obtain ⟨Y, h2, h3⟩ := spB_pre (critB f.blocks) f.blocks.length f.blocks 0 []
  have hx : x ∈ (spB (critB f.blocks) f.blocks.length 0 f.blocks []).2 := hx
  rw [h2] at hx
  obtain ⟨i, b, hb, _, hm⟩ := h3 x hx
  have := hE b (Ya hb) x.2 hm
  omega
end
theorem spE_keep (c : SEdge → Bool) (n k : Nat) : ∀ (l : List SEdge) (X : Cut), ∀ x ∈ (spE c n k l X).1, (x ∈ l ∧ c x = false) ∨ ∃ m, x = ⟨((n + m : Nat) : Int), []⟩
 | [], X, x, hx => by cases hx
 | e :: l, X, x, hx => by
  rw [spE] at hx
  split at hx
  ·rcases Yd.1 hx with rfl | hx
   ·exact .inr ⟨_, rfl⟩
   ·exact (spE_keep c n k l _ x hx).imp (fun h => ⟨Yc _ h.1, h.2⟩) id
  ·rename_i hc
   rcases Yd.1 hx with rfl | hx
   ·exact .inl ⟨Yb .., by simpa using hc⟩
   ·exact (spE_keep c n k l _ x hx).imp (fun h => ⟨Yc _ h.1, h.2⟩) id
theorem spB_keep (c : SBlock → SEdge → Bool) (n : Nat) : ∀ (l : List SBlock) (k : Nat) (X : Cut), ∀ y ∈ (spB c n k l X).1, ∃ b ∈ l, ∃ to, y = setTo b to ∧ to.length = b.term.to.length ∧ ∀ x ∈ to, (x ∈ b.term.to ∧ c b x = false) ∨ ∃ m, x = ⟨((n + m : Nat) : Int), []⟩
 | [], k, X, y, hy => by cases hy
 | b :: l, k, X, y, hy => by
  rw [spB] at hy
  rcases Yd.1 hy with rfl | hy
  ·exact ⟨b, Yb .., _, rfl, spE_len .., spE_keep (c b) n k b.term.to X⟩
  ·obtain ⟨d, hd, h⟩ := spB_keep c n l (k + 1) _ y hy
   exact ⟨d, Yc _ hd, h⟩
theorem split_crit {f : SFunc} (h0 : funcF f = 0) (hl : (splitF f).blocks.length ≤ 128) : ∀ c ∈ (splitF f).blocks, ∀ x ∈ c.term.to, critB (splitF f).blocks c x = false := fun c hc x hx => by
 have hok := func_ok h0
 have gok := func_ok (split_ok h0 hl)
 have hgE := gok.edges c hc x hx
 have key : (c.term.to.length : Int) < 2 ∨ (((predsF (splitF f).blocks)[x.block.toNat]?.getD []).length : Int) < 2 := by
  rw [preds_cnt (by omega)]
  have hc2 := hc
  unfold splitF at hc2
  rcases Ys.1 hc2 with h1 | h1
  ·obtain ⟨b, hb, to, rfl, hto, h2⟩ := spB_keep (critB f.blocks) f.blocks.length f.blocks 0 [] c h1
   have hx : x ∈ to := hx
   rcases h2 x hx with ⟨h3, h4⟩ | ⟨m, rfl⟩
   ·have hE := hok.edges b hb x h3
    unfold critB at h4
    rw [preds_cnt (by omega)] at h4
    have h5 : (b.term.to.length : Int) < 2 ∨ ((cntB x.block.toNat f.blocks : Nat) : Int) < 2 := by
     have h6 : 2 ≤ (b.term.to.length : Int) → ((cntB x.block.toNat f.blocks : Nat) : Int) < 2 := by simpa using h4
     by_cases h7 : (b.term.to.length : Int) < 2
     ·exact .inl h7
     ·exact .inr (h6 (by omega))
    rcases h5 with h5 | h5
    ·left; show (to.length : Int) < 2; rw [hto]; exact h5
    ·right
     rw [split_cnt (by omega)]
     exact h5
   ·right
    have := split_new hok (j := m)
    rw [show (({ block := ((f.blocks.length + m : Nat) : Int), args := [] } : SEdge).block).toNat = f.blocks.length + m from Yav _]
    omega
  ·obtain ⟨y, _, rfl⟩ := Yf.1 h1
   left
   show ((1 : Nat) : Int) < 2
   decide
 unfold critB
 rcases key with h | h
 ·rw [decide_eq_true h]; rfl
 ·rw [decide_eq_true h, Bool.or_true]; rfl
end Go.SM
end
section
set_option linter.unusedVariables false
set_option linter.unusedSimpArgs false
namespace Go.SM
open Go.VL
abbrev Mv := Int × Int
def mvV (p : Mv) : V := .agg [.int p.1, .int p.2]
abbrev mvsX (l : List Mv) : V := .sl 2 none (l.map mvV)
def seqBad (spare : Int) : List Mv → List Mv → Int
 | _, [] => 0
 | pre, x :: l => if x.1 < 0 ∨ x.2 < 0 then 4 else if (pre.any fun y => y.1 == x.1) = true then 7 else if x.1 = spare ∨ x.2 = spare then 1 else seqBad spare (pre ++ [x]) l
def seqAt (left : List Mv) : Int := idxOf (fun x => !(left.any fun y => y.2 == x.1)) left
def brkF (spare v : Int) (p : Mv) : Mv := if p.2 = v then (p.1, spare) else p
def seqStep (spare : Int) (s : List Mv × List Mv) : List Mv × List Mv :=
 if seqAt s.1 < 0 then
  let v := (s.1[0]?.getD (0, 0)).1
  let left := s.1.map (brkF spare v)
  (left.eraseIdx 0, (s.2 ++ [(spare, v)]) ++ [left[0]?.getD (0, 0)])
 else (s.1.eraseIdx (seqAt s.1).toNat, s.2 ++ [s.1[(seqAt s.1).toNat]?.getD (0, 0)])
def seqLoop (spare : Int) : Nat → List Mv × List Mv → List Mv × List Mv
 | 0, s => s
 | n + 1, s => seqLoop spare n (seqStep spare s)
def leftF (l : List Mv) : List Mv := l.filter fun x => !(x.1 == x.2)
def seqF (l : List Mv) (spare : Int) : List Mv × Int :=
 if seqBad spare [] l = 0 then ((seqLoop spare (leftF l).length (leftF l, [])).2, 0) else ([], seqBad spare [] l)
theorem mvs_fit (l : List Mv) : ∀ x ∈ l.map mvV, x.leaves.length = 2 := fun x hx => by
 obtain ⟨n, _, rfl⟩ := Yf.1 hx
 rfl
theorem mv_flat (l : List Mv) : ∀ x ∈ l.map mvV, x.flat = true := fun x hx => by
 obtain ⟨n, _, rfl⟩ := Yf.1 hx
 rfl
abbrev mvL (l : List Mv) : List V := (l.map mvV).flatMap V.leaves
theorem mvL_cons (p : Mv) (l : List Mv) : mvL (p :: l) = V.int p.1 :: V.int p.2 :: mvL l := rfl
theorem mvL_app (a b : List Mv) : mvL (a ++ b) = mvL a ++ mvL b := by simp [mvL]
theorem mvL_len : ∀ l : List Mv, (mvL l).length = l.length * 2
 | [] => rfl
 | p :: l => by rw [mvL_cons, Yh, Yh, mvL_len, Yh]; omega
theorem mvL_take (l : List Mv) (rest : List V) {k : Nat} (hk : k ≤ l.length) : (mvL l ++ rest).take (k * 2) = mvL (l.take k) := by
 conv => lhs; rw [← Yai k l, mvL_app, Yi]
 rw [List.take_append_of_le_length (by rw [mvL_len, Yu]; omega), Yaj (by rw [mvL_len, Yu]; omega)]
theorem mvL_drop (l : List Mv) (rest : List V) {k : Nat} (hk : k ≤ l.length) : (mvL l ++ rest).drop (k * 2) = mvL (l.drop k) ++ rest := by
 conv => lhs; rw [← Yai k l, mvL_app, Yi]
 have h : (mvL (l.take k)).length = k * 2 := by rw [mvL_len, Yu]; omega
 rw [← h, List.drop_left]
theorem mvL_get0 {l : List Mv} {rest : List V} {k : Nat} {p : Mv} (h : l[k]? = some p) : (mvL l ++ rest)[k * 2]? = some (V.int p.1) := by
 obtain ⟨hk, _⟩ := Ye.1 h
 have h2 : ((mvL l ++ rest).drop (k * 2))[0]? = some (V.int p.1) := by rw [mvL_drop l rest (by omega), drop_cons h]; rfl
 rwa [Yv, Yaq] at h2
theorem mvL_get1 {l : List Mv} {rest : List V} {k : Nat} {p : Mv} (h : l[k]? = some p) : (mvL l ++ rest)[k * 2 + 1]? = some (V.int p.2) := by
 obtain ⟨hk, _⟩ := Ye.1 h
 have h2 : ((mvL l ++ rest).drop (k * 2))[1]? = some (V.int p.2) := by rw [mvL_drop l rest (by omega), drop_cons h]; rfl
 rwa [Yv] at h2
theorem mvL_set1 {l : List Mv} {rest : List V} {k : Nat} {p : Mv} (h : l[k]? = some p) (v : Int) : (mvL l ++ rest).set (k * 2 + 1) (V.int v) = mvL (l.set k (p.1, v)) ++ rest := by
 obtain ⟨hk, he⟩ := Ye.1 h
 have h1 : mvL l ++ rest = mvL (l.take k) ++ (V.int p.1 :: V.int p.2 :: (mvL (l.drop (k + 1)) ++ rest)) := by
  conv => lhs; rw [← Yai k l, drop_cons h, mvL_app, mvL_cons]
  simp
 have h2 : mvL (l.set k (p.1, v)) ++ rest = mvL (l.take k) ++ (V.int p.1 :: V.int v :: (mvL (l.drop (k + 1)) ++ rest)) := by
  rw [List.set_eq_take_append_cons_drop, if_pos hk, mvL_app, mvL_cons]
  simp
 have h3 : (mvL (l.take k)).length = k * 2 := by rw [mvL_len, Yu]; omega
 rw [h1, h2, List.set_append_right _ _ (by omega), h3, show k * 2 + 1 - k * 2 = 1 by omega]
 rfl
theorem mvL_move {l : List Mv} {rest Y : List V} {i : Nat} (hi : i < l.length) : (mvL l ++ rest).take (i * 2) ++ (((mvL l ++ rest).drop ((i + 1) * 2)).take ((l.length - (i + 1)) * 2) ++ Y) = mvL (l.eraseIdx i) ++ Y := by
 rw [mvL_take l rest (by omega), mvL_drop l rest (by omega)]
 have h := mvL_take (l.drop (i + 1)) rest (k := l.length - (i + 1)) (by rw [List.length_drop]; omega)
 rw [h, Yaj (l := l.drop (i + 1)) (by rw [List.length_drop]; omega), List.eraseIdx_eq_take_drop_succ, mvL_app, Yi]
theorem mvL_moveE {l : List Mv} {rest Y : List V} {i cap : Nat} (hi : i < l.length) (hc : l.length ≤ cap) : (mvL l ++ rest).take (i * 2) ++ (((mvL l ++ rest).drop (if cap = i + 1 then 0 else 0 + (i + 1) * 2)).take ((l.length - (i + 1)) * 2) ++ Y) = mvL (l.eraseIdx i) ++ Y := by
 by_cases h : cap = i + 1
 ·have h2 : l.length - (i + 1) = 0 := by omega
  rw [← mvL_move (rest := rest) hi, h2, Nat.zero_mul, List.take_zero, List.take_zero]
 ·rw [if_neg h, Yap, mvL_move hi]
theorem get_mv {l : List Mv} {k : Nat} {p : Mv} (h : l[k]? = some p) : (l.map mvV)[k]? = some (mvV p) := by simp [h]
theorem brk_step {l : List Mv} {k : Nat} {p : Mv} (f : Mv → Mv) (h : l[k]? = some p) : (((l.take k).map f ++ l.drop k).set k (f p)) = (l.take (k + 1)).map f ++ l.drop (k + 1) := by
 obtain ⟨hk, _⟩ := Ye.1 h
 have hl : ((l.take k).map f).length = k := by rw [Yj, Yu]; omega
 rw [take_snoc h, Yo, drop_cons h, List.set_append_right _ _ (by omega), hl, Yat]
 simp
theorem brk_get {l : List Mv} {k : Nat} {p : Mv} (f : Mv → Mv) (h : l[k]? = some p) : ((l.take k).map f ++ l.drop k)[k]? = some p := by
 obtain ⟨hk, _⟩ := Ye.1 h
 have hl : ((l.take k).map f).length = k := by rw [Yj, Yu]; omega
 rw [Yad (by omega), hl, Yat, Yv]
 exact h
theorem step_break {spare : Int} {left out : List Mv} {x : Mv} (h : seqAt left < 0) (hx : left[0]? = some x) {y : Mv} (hy : (left.map (brkF spare x.1))[0]? = some y) : seqStep spare (left, out) = ((left.map (brkF spare x.1)).eraseIdx 0, (out ++ [(spare, x.1)]) ++ [y]) := by
 have hy2 := hy
 unfold seqStep
 dsimp only
 rw [if_pos h, hx]
 dsimp only [Option.getD]
 rw [hy2]
theorem step_take {spare : Int} {left out : List Mv} {m : Nat} {y : Mv} (h : seqAt left = (m : Int)) (hy : left[m]? = some y) : seqStep spare (left, out) = (left.eraseIdx m, out ++ [y]) := by
 unfold seqStep
 dsimp only
 rw [if_neg (by omega), h, Yav, hy]
 rfl
end Go.SM
end
section
set_option linter.unusedVariables false
set_option linter.unusedSimpArgs false
namespace Go.SM
open Go.VL
def mvarF (v : Int) : Bool := decide (v ≥ 0) && decide (v < 4096)
def minsF (i : SIns) : Int :=
 if (!mvarF i.to || i.args.any fun a => !mvarF a) = true then 4 else if i.op ≠ 100 then formF i else if (i.args.length : Int) ≠ 1 then 3 else if i.n ≠ 0 then 4 else 0
def mparamsF : List Int → List Int → Int
 | _, [] => 0
 | done, v :: l => if mvarF v = false then 4 else if (done.any fun x => decide (v = x)) = true then 7 else mparamsF (done ++ [v]) l
def mblockF (bs : List SBlock) (k : Nat) (b : SBlock) : Int :=
 if (0 : Int) < k ∧ 0 < (b.params.length : Int) then 3 else if mparamsF [] b.params ≠ 0 then mparamsF [] b.params else if firstE minsF b.ins ≠ 0 then firstE minsF b.ins
 else if endF bs b.term ≠ 0 then endF bs b.term else if mvarF b.term.arg = false then 4 else 0
def mblocksF (bs : List SBlock) : Nat → List SBlock → Int
 | _, [] => 0
 | k, b :: l => if mblockF bs k b ≠ 0 then mblockF bs k b else mblocksF bs (k + 1) l
def mfuncF (f : SFunc) : Int :=
 if (f.blocks.length : Int) = 0 then 3
 else if 128 < (f.blocks.length : Int) ∨ 4096 < countIns 0 f.blocks ∨ 6 < ((paramsOf f.blocks 0).length : Int) then 2
 else if f.name < -1 ∨ f.name ≥ 1048576 then 4
 else mblocksF f.blocks 0 f.blocks
def mcheckF (u : SUnit) : Int :=
 if (u.fns.length : Int) = 0 then 3 else if 256 < (u.fns.length : Int) then 2 else if u.main < 0 ∨ u.main ≥ (u.fns.length : Int) then 4
 else if firstE mfuncF u.fns ≠ 0 then firstE mfuncF u.fns
 else if (entryOf u u.main).length > 0 then 3 else callsF u
def mrunF (u : SUnit) (fuel : Int) : Out × Int × Int :=
 if mcheckF u ≠ 0 then (⟨[], 0, 0⟩, 0, mcheckF u) else if fuel < 1 ∨ fuel > 1000000 then (⟨[], 0, 0⟩, 0, 4) else performF u fuel
theorem firstE_zero {α : Type} {f : α → Int} : ∀ {l : List α}, firstE f l = 0 → ∀ x ∈ l, f x = 0
 | [], _, x, hx => by cases hx
 | y :: l, h, x, hx => by
  rw [firstE] at h
  split at h
  ·rename_i hy; exact absurd h hy
  ·rename_i hy
   rcases Yd.1 hx with rfl | hx
   ·exact Classical.not_not.1 hy
   ·exact firstE_zero h x hx
structure MBlockOk (bs : List SBlock) (k : Nat) (b : SBlock) : Prop where
 params : 0 < k → b.params = []
 vars : mparamsF [] b.params = 0
 ins : ∀ i ∈ b.ins, minsF i = 0
 term : endF bs b.term = 0
 arg : mvarF b.term.arg = true
theorem mblock_ok {bs : List SBlock} {k : Nat} {b : SBlock} (h : mblockF bs k b = 0) : MBlockOk bs k b := by
 unfold mblockF at h
 split at h
 ·cases h
 ·rename_i h1
  split at h
  ·rename_i h2; exact absurd h h2
  ·rename_i h2
   split at h
   ·rename_i h3; exact absurd h h3
   ·rename_i h3
    split at h
    ·rename_i h4; exact absurd h h4
    ·rename_i h4
     split at h
     ·cases h
     ·rename_i h5
      refine ⟨fun hk => ?_, Classical.not_not.1 h2, firstE_zero (Classical.not_not.1 h3), Classical.not_not.1 h4, by simpa using h5⟩
      apply Yak.1
      omega
theorem mblocks_ok {bs : List SBlock} : ∀ {l : List SBlock} {k : Nat}, mblocksF bs k l = 0 → ∀ (j : Nat) (b : SBlock), l[j]? = some b → MBlockOk bs (k + j) b
 | [], k, _, j, b, hb => by simp at hb
 | c :: l, k, h, j, b, hb => by
  rw [mblocksF] at h
  split at h
  ·rename_i hc; exact absurd h hc
  ·rename_i hc
   cases j with
   | zero =>
    simp at hb
    subst hb
    exact mblock_ok (Classical.not_not.1 hc)
   | succ j =>
    simp at hb
    have := mblocks_ok h j b hb
    rwa [show k + 1 + j = k + (j + 1) by omega] at this
structure MFuncOk (f : SFunc) : Prop where
 pos : 0 < f.blocks.length
 len : f.blocks.length ≤ 128
 params : (paramsOf f.blocks 0).length ≤ 6
 name : -1 ≤ f.name ∧ f.name < 1048576
 block : ∀ (k : Nat) (b : SBlock), f.blocks[k]? = some b → MBlockOk f.blocks k b
theorem mfunc_ok {f : SFunc} (h : mfuncF f = 0) : MFuncOk f := by
 unfold mfuncF at h
 split at h
 ·cases h
 ·rename_i h1
  split at h
  ·cases h
  ·rename_i h2
   split at h
   ·cases h
   ·rename_i h3
    refine ⟨by omega, by omega, by omega, by omega, fun k b hb => ?_⟩
    have := mblocks_ok h k b hb
    rwa [Yap] at this
theorem MFuncOk.ne {f : SFunc} (h : MFuncOk f) : f.blocks ≠ [] := fun e => by have := h.pos; rw [e] at this; simp at this
structure MUnitOk (u : SUnit) : Prop where
 many : u.fns.length ≤ 256
 main : 0 ≤ u.main ∧ u.main < u.fns.length
 fns : ∀ f ∈ u.fns, MFuncOk f
 entry : entryOf u u.main = []
 calls : ∀ f ∈ u.fns, ∀ b ∈ f.blocks, ∀ i ∈ b.ins, callF u i = 0
theorem mcheck_ok {u : SUnit} (h : mcheckF u = 0) : MUnitOk u := by
 unfold mcheckF at h
 split at h
 ·cases h
 ·split at h
  ·cases h
  ·split at h
   ·cases h
   ·split at h
    ·rename_i h4; exact absurd h h4
    ·rename_i h1 h2 h3 h4
     split at h
     ·cases h
     ·rename_i h5
      have hc := firstE_zero h
      exact ⟨by omega, by omega, fun f hf => mfunc_ok (firstE_zero (Classical.not_not.1 h4) f hf), Yak.1 (by omega), fun f hf b hb i hi => firstE_zero (firstE_zero (hc f hf) b hb) i hi⟩
theorem mterm_ok {f : SFunc} (h : MFuncOk f) {b : SBlock} {k : Nat} (hb : f.blocks[k]? = some b) : TermOk f b.term := by
 have he := endF_ok (h.block k b hb).term
 have hs := he.shape
 unfold shapeF at hs
 refine ⟨fun h1 => ?_, fun h2 => ?_, fun h0 h1 h2 h4 => ?_, fun e hm => ?_⟩
 ·rw [if_neg (by omega), if_pos h1] at hs
  simp at hs
  omega
 ·rw [if_neg (by omega), if_neg (by omega), if_pos h2] at hs
  simp at hs
  omega
 ·rw [if_neg h0, if_neg h1, if_neg h2] at hs
  split at hs
  ·simp at hs; omega
  ·first | cases hs | (rw [if_neg h4] at hs; cases hs)
 ·obtain ⟨e1, e2, e3⟩ := he.edges e hm
  obtain ⟨c, hc⟩ := get_of_lt f.blocks e.block.toNat (by omega)
  rw [paramsOf_get hc] at e3
  have hp := (h.block _ c hc).params (by omega)
  exact ⟨by omega, ⟨c, hc, e3⟩, by rw [e3, hp]; simp⟩
theorem mins_ok {u : SUnit} {i : SIns} (h : minsF i = 0) (hc : callF u i = 0) : InsOk u i := by
 unfold minsF at h
 split at h
 ·cases h
 ·split at h
  ·exact ins_ok_of h hc
  ·rename_i h2
   have h2 := Classical.not_not.1 h2
   split at h
   ·cases h
   ·rename_i h3
    have h3 : i.args.length = 1 := by omega
    refine ⟨fun _ _ => ⟨by rw [h2]; rfl, by omega, fun h => ?_, fun _ => h3, fun h => ?_, fun h => ?_⟩, fun h => ?_, fun h => ?_, fun h => ?_, by omega⟩
    ·rw [h2] at h; cases h
    all_goals omega
theorem MUnitOk.u {u : SUnit} (h : MUnitOk u) : UOk u :=
 ⟨h.main, h.entry, fun f hf => (h.fns f hf).ne, fun f hf b hb => by
  obtain ⟨k, hk⟩ := Yk hb
  exact mterm_ok (h.fns f hf) hk, fun f hf b hb i hi => by
  obtain ⟨k, hk⟩ := Yk hb
  exact mins_ok (((h.fns f hf).block k b hk).ins i hi) (h.calls f hf b hb i hi)⟩
end Go.SM
end
section
set_option linter.unusedVariables false
set_option linter.unusedSimpArgs false
namespace Go.SM
open Go.VL
def setsF (o : List Bool) (l : List Int) : List Bool := l.foldl (fun s a => s.set a.toNat true) o
def backI : List SIns → List Bool → List Bool
 | [], s => s
 | i :: l, s => backI l (setsF (s.set i.to.toNat false) i.args)
def backF (b : SBlock) (s : List Bool) : List Bool := backI b.ins.reverse s
def edgeV1 (ps : List Int) : Nat → List Bool → List Bool → List Bool
 | _, [], o => o
 | v, is :: l, o => edgeV1 ps (v + 1) l (if (is && !(ps.any fun x => decide ((v : Int) = x))) = true then o.set v true else o)
abbrev Sets := List (Option (List Bool))
def setAt (s : Sets) (k : Nat) : List Bool := (s[k]?.getD none).getD []
def edgesV (bs : List SBlock) (first : Sets) : List SEdge → List Bool → List Bool
 | [], o => o
 | e :: l, o => edgesV bs first l (edgeV1 (paramsOf bs e.block) 0 (setAt first e.block.toNat) o)
def argsV : List SEdge → List Bool → List Bool
 | [], o => o
 | e :: l, o => argsV l (setsF o e.args)
def termV1 (t : STerm) (o : List Bool) : List Bool := if t.kind ≠ 1 ∧ t.kind ≠ 4 then o.set t.arg.toNat true else o
def lastF (bs : List SBlock) (many : Nat) (t : STerm) (first : Sets) : List Bool := argsV t.to (termV1 t (edgesV bs first t.to (Yy many false)))
structure LState where
 behind : Sets
 first : Sets
 again : Bool
def Mem1 (s : List Bool) (v : Nat) : Prop := s[v]? = some true
def TermUse (t : STerm) (v : Nat) : Prop := (t.kind ≠ 1 ∧ t.kind ≠ 4) ∧ t.arg.toNat = v ∨ ∃ e ∈ t.to, ∃ a ∈ e.args, a.toNat = v
def Exp (l : List SIns) (v : Nat) : Prop := ∃ (j : Nat) (i : SIns), l[j]? = some i ∧ (∃ a ∈ i.args, a.toNat = v) ∧ ∀ (j' : Nat) (x : SIns), j' < j → l[j']? = some x → x.to.toNat ≠ v
theorem Exp.append {l : List SIns} {v : Nat} (h : Exp l v) (m : List SIns) : Exp (l ++ m) v := by
 obtain ⟨j, i, h1, h2, h3⟩ := h
 have hj := (Ye.1 h1).1
 exact ⟨j, i, by rw [Yx hj]; exact h1, h2, fun j' x hlt hx => h3 j' x hlt (by rwa [Yx (by omega)] at hx)⟩
inductive LiveIn (bs : List SBlock) (v : Nat) : Nat → Prop where
 | use {k : Nat} {b : SBlock} : bs[k]? = some b → Exp b.ins v → LiveIn bs v k
 | term {k : Nat} {b : SBlock} : bs[k]? = some b → (∀ x ∈ b.ins, x.to.toNat ≠ v) → TermUse b.term v → LiveIn bs v k
 | pass {k : Nat} {b : SBlock} {e : SEdge} : bs[k]? = some b → (∀ x ∈ b.ins, x.to.toNat ≠ v) → e ∈ b.term.to → (v : Int) ∉ paramsOf bs e.block → LiveIn bs v e.block.toNat → LiveIn bs v k
end Go.SM
end
section
set_option linter.unusedVariables false
set_option linter.unusedSimpArgs false
namespace Go.SM
open Go.VL
def Sub1 (s t : List Bool) : Prop := ∀ v, Mem1 s v → Mem1 t v
structure LiveOk (bs : List SBlock) (many : Nat) (s : LState) : Prop where
 blen : s.behind.length = bs.length
 flen : s.first.length = bs.length
 emp : ∀ (k : Nat), s.behind[k]? = some none → s.first[k]? = some none
 full : ∀ (k : Nat) (l : List Bool), s.behind[k]? = some (some l) → l.length = many ∧ ∃ b, bs[k]? = some b ∧ s.first[k]? = some (some (backF b l)) ∧ Sub1 l (lastF bs many b.term s.first)
 live : ∀ (k v : Nat), Mem1 (setAt s.first k) v → LiveIn bs v k
theorem dget_mem {v : Int} {p : Int × Int} : ∀ {d : Defs}, dget d v = some p → (v, p) ∈ d
 | [], h => by cases h
 | (k, q) :: d, h => by
  rw [dget] at h
  split at h
  ·rename_i e
   subst e
   injection h with h
   subst h
   exact Yb ..
  ·exact Yc _ (dget_mem h)
theorem usesIns_all {d : Defs} {o : Dom} {k : Nat} : ∀ {l : List SIns} {n : Int}, usesIns d o k n l = true → ∀ (j : Nat) (i : SIns), l[j]? = some i → ∀ a ∈ i.args, fineF d o k (n + j) a = true
 | [], n, h, j, i, hi => by simp at hi
 | x :: l, n, h, j, i, hi => by
  rw [usesIns, Bool.and_eq_true, Ym] at h
  cases j with
  | zero =>
   simp at hi
   subst hi
   intro a ha
   have := h.1 a ha
   simpa using this
  | succ j =>
   simp at hi
   intro a ha
   have := usesIns_all h.2 j i hi a ha
   rwa [show n + 1 + (j : Int) = n + ((j + 1 : Nat) : Int) by omega] at this
theorem usesF_all {d : Defs} {o : Dom} : ∀ {l : List SBlock} {k : Nat}, usesF d o k l = 0 → ∀ (j : Nat) (b : SBlock), l[j]? = some b → usesIns d o (k + j) 0 b.ins = true ∧ usedF b.term (fineF d o (k + j) b.ins.length) = true
 | [], k, h, j, b, hb => by simp at hb
 | c :: l, k, h, j, b, hb => by
  rw [usesF] at h
  split at h
  ·cases h
  ·split at h
   ·cases h
   ·rename_i h1 h2
    cases j with
    | zero =>
     simp at hb
     subst hb
     exact ⟨by simpa using h1, by simpa using h2⟩
    | succ j =>
     simp at hb
     have := usesF_all h j b hb
     rwa [show k + 1 + j = k + (j + 1) by omega] at this
end Go.SM
end
section
set_option linter.unusedVariables false
namespace Go.SM
open Go.VL
def valuesL (bs : List SBlock) : List Int := bs.flatMap fun b => b.params ++ b.ins.map (·.to)
def freshF (bs : List SBlock) : Int := (valuesL bs).foldl (fun n v => max n (v + 1)) 0
theorem fold_fresh : ∀ (l : List Int) (n : Int), n ≤ l.foldl (fun n v => max n (v + 1)) n ∧ ∀ v ∈ l, v < l.foldl (fun n v => max n (v + 1)) n
 | [], n => ⟨Yaw _, fun v hv => by cases hv⟩
 | a :: l, n => by
  obtain ⟨h1, h2⟩ := fold_fresh l (max n (a + 1))
  rw [Yz]
  refine ⟨by omega, fun v hv => ?_⟩
  rcases Yd.1 hv with rfl | hv
  ·omega
  ·exact h2 v hv
theorem fold_le {m : Int} : ∀ (l : List Int) (n : Int), n ≤ m → (∀ v ∈ l, v < m) → l.foldl (fun n v => max n (v + 1)) n ≤ m
 | [], n, hn, _ => hn
 | a :: l, n, hn, h => by
  have := h a (Yb ..)
  exact fold_le l _ (by show max n (a + 1) ≤ m; omega) fun v hv => h v (Yc _ hv)
theorem values_keys {f : SFunc} (h : FuncOk f) : ∀ v ∈ valuesL f.blocks, 0 ≤ v ∧ v ≤ 4095 := fun v hv => h.keys.range v (by rw [dkeys_defsL]; exact hv)
theorem fresh_ok {f : SFunc} (h : FuncOk f) : 0 ≤ freshF f.blocks ∧ freshF f.blocks ≤ 4096 ∧ ∀ v ∈ valuesL f.blocks, v < freshF f.blocks := by
 obtain ⟨h1, h2⟩ := fold_fresh (valuesL f.blocks) 0
 exact ⟨h1, fold_le _ 0 (by decide) fun v hv => by have := values_keys h v hv; omega, h2⟩
def listF : Nat → List Bool → List Int
 | _, [] => []
 | v, b :: l => if b = true then (v : Int) :: listF (v + 1) l else listF (v + 1) l
theorem list_len : ∀ (l : List Bool) (w : Nat), (listF w l).length ≤ l.length
 | [], w => Yas _
 | b :: l, w => by
  rw [listF]
  have := list_len l (w + 1)
  split <;> simp <;> omega
end Go.SM
end
section
set_option linter.unusedVariables false
set_option linter.unusedSimpArgs false
namespace Go.SM
open Go.VL
def mvI (x : Mv) : SIns := ⟨x.1, 100, 0, [x.2]⟩
def movesOf (bs : List SBlock) (e : SEdge) : List Mv := (paramsOf bs e.block).zip e.args
def copiesF (bs : List SBlock) (e : SEdge) (sp : Int) : List SIns := (seqF (movesOf bs e) sp).1.map mvI
def updB (B : List SBlock) (m : Nat) (f : SBlock → SBlock) : List SBlock := B.set m (f (B[m]?.getD default))
def addE (l : List SIns) (b : SBlock) : SBlock := { b with ins := b.ins ++ l }
def addH (l : List SIns) (b : SBlock) : SBlock := { b with ins := l ++ b.ins }
def clrE (n : Nat) (b : SBlock) : SBlock := setTo b (b.term.to.set n ⟨(b.term.to[n]?.getD default).block, []⟩)
def jmpT (b : SBlock) : SBlock := { b with term := ⟨1, 0, 0, [], b.term.to⟩ }
def noPar (b : SBlock) : SBlock := { b with params := [] }
def lvE (bs : List SBlock) (sp : Int) (k : Nat) (b : SBlock) (n : Nat) (e : SEdge) (B : List SBlock) : List SBlock :=
 updB (if b.term.to.length = 1 then updB B k (addE (copiesF bs e sp)) else updB B e.block.toNat (addH (copiesF bs e sp))) k (clrE n)
def lvEs (bs : List SBlock) (sp : Int) (k : Nat) (b : SBlock) : Nat → List SEdge → List SBlock → List SBlock
 | _, [], B => B
 | n, e :: l, B => lvEs bs sp k b (n + 1) l (lvE bs sp k b n e B)
def lvB (bs : List SBlock) (sp : Int) (k : Nat) (b : SBlock) (B : List SBlock) : List SBlock :=
 lvEs bs sp k b 0 b.term.to (if b.term.kind = 3 ∧ b.term.to.length = 1 then updB B k jmpT else B)
def lvBs (bs : List SBlock) (sp : Int) : Nat → List SBlock → List SBlock → List SBlock
 | _, [], B => B
 | k, b :: l, B => lvBs bs sp (k + 1) l (lvB bs sp k b B)
def clrP (k : Nat) : Nat → List SBlock → List SBlock
 | _, [] => []
 | n, b :: l => (if 0 < n ∧ n < k then noPar b else b) :: clrP k (n + 1) l
def leaveG (g : SFunc) (sp : Int) : SFunc := ⟨g.name, clrP g.blocks.length 0 (lvBs g.blocks sp 0 g.blocks g.blocks)⟩
def lvF (f : SFunc) : SFunc := leaveG (splitF f) (freshF f.blocks)
def lvU (u : SUnit) : SUnit := ⟨u.fns.map lvF, u.main⟩
theorem updB_len (B : List SBlock) (m : Nat) (f : SBlock → SBlock) : (updB B m f).length = B.length := List.length_set ..
theorem lvE_len (bs : List SBlock) (sp : Int) (k : Nat) (b : SBlock) (n : Nat) (e : SEdge) (B : List SBlock) : (lvE bs sp k b n e B).length = B.length := by
 unfold lvE
 rw [updB_len]
 split <;> rw [updB_len]
theorem lvEs_len (bs : List SBlock) (sp : Int) (k : Nat) (b : SBlock) : ∀ (l : List SEdge) (n : Nat) (B : List SBlock), (lvEs bs sp k b n l B).length = B.length
 | [], _, _ => rfl
 | e :: l, n, B => by rw [lvEs, lvEs_len bs sp k b l, lvE_len]
theorem lvB_len (bs : List SBlock) (sp : Int) (k : Nat) (b : SBlock) (B : List SBlock) : (lvB bs sp k b B).length = B.length := by
 unfold lvB
 rw [lvEs_len]
 split
 ·rw [updB_len]
 ·rfl
theorem lvBs_len (bs : List SBlock) (sp : Int) : ∀ (l : List SBlock) (k : Nat) (B : List SBlock), (lvBs bs sp k l B).length = B.length
 | [], _, _ => rfl
 | b :: l, k, B => by rw [lvBs, lvBs_len bs sp l, lvB_len]
theorem clrP_len (k : Nat) : ∀ (l : List SBlock) (n : Nat), (clrP k n l).length = l.length
 | [], _ => rfl
 | b :: l, n => by rw [clrP, Yh, clrP_len k l, Yh]
theorem clrP_get (k : Nat) : ∀ (l : List SBlock) (n m : Nat), (clrP k n l)[m]? = (l[m]?).map fun b => if 0 < n + m ∧ n + m < k then noPar b else b
 | [], _, _ => rfl
 | b :: l, n, 0 => rfl
 | b :: l, n, m + 1 => by
  rw [clrP, List.getElem?_cons_succ, List.getElem?_cons_succ, clrP_get k l (n + 1) m, show n + 1 + m = n + (m + 1) by omega]
theorem clrP_zero (l : List SBlock) (n : Nat) : clrP 0 n l = l := by
 apply Yal
 intro m
 rw [clrP_get]
 cases l[m]? with
 | none => rfl
 | some b => simp
theorem clrP_one (l : List SBlock) : clrP 1 0 l = l := by
 apply Yal
 intro m
 rw [clrP_get]
 cases l[m]? with
 | none => rfl
 | some b => show some (if 0 < 0 + m ∧ 0 + m < 1 then noPar b else b) = some b; rw [if_neg (by omega)]
theorem clrP_step {l : List SBlock} {k : Nat} (h0 : 0 < k) : updB (clrP k 0 l) k noPar = clrP (k + 1) 0 l ∨ l[k]? = none := by
 cases hl : l[k]? with
 | none => exact .inr rfl
 | some b =>
  left
  apply Yal
  intro m
  have hk := (Ye.1 hl).1
  unfold updB
  rw [Yr, clrP_get, clrP_get, clrP_get, hl]
  by_cases e : k = m
  ·subst e
   rw [if_pos rfl, if_pos (by rw [clrP_len]; exact hk), hl]
   show some (noPar ((some (if 0 < 0 + k ∧ 0 + k < k then noPar b else b)).getD default)) = some (if 0 < 0 + k ∧ 0 + k < k + 1 then noPar b else b)
   rw [if_neg (by omega), if_pos (by omega)]
   rfl
  ·rw [if_neg e]
   cases l[m]? with
   | none => rfl
   | some c =>
    show some (if 0 < 0 + m ∧ 0 + m < k then noPar c else c) = some (if 0 < 0 + m ∧ 0 + m < k + 1 then noPar c else c)
    by_cases h : 0 < 0 + m ∧ 0 + m < k
    ·rw [if_pos h, if_pos (by omega)]
    ·rw [if_neg h, if_neg (by omega)]
theorem seqStep_len (sp : Int) (s : List Mv × List Mv) : (seqStep sp s).2.length ≤ s.2.length + 2 := by
 unfold seqStep
 split
 ·dsimp only
  rw [Yg, Yg]
  simp
 ·dsimp only
  rw [Yg]
  simp
theorem seqLoop_len (sp : Int) : ∀ (n : Nat) (s : List Mv × List Mv), (seqLoop sp n s).2.length ≤ s.2.length + 2 * n
 | 0, s => Yas _
 | n + 1, s => by
  have h1 := seqStep_len sp s
  have h2 := seqLoop_len sp n (seqStep sp s)
  rw [seqLoop]
  omega
theorem seqF_len (l : List Mv) (sp : Int) : (seqF l sp).1.length ≤ 2 * l.length := by
 unfold seqF
 split
 ·have h := seqLoop_len sp (leftF l).length (leftF l, [])
  have h2 : (leftF l).length ≤ l.length := List.length_filter_le _ _
  have h3 : (leftF l, ([] : List Mv)).2.length = 0 := rfl
  rw [h3] at h
  show (seqLoop sp (leftF l).length (leftF l, [])).2.length ≤ _
  omega
 ·exact Yar _
theorem moves_len (bs : List SBlock) (e : SEdge) : (movesOf bs e).length ≤ (paramsOf bs e.block).length := by
 unfold movesOf
 rw [List.length_zip]
 omega
theorem copies_len (bs : List SBlock) (e : SEdge) (sp : Int) : (copiesF bs e sp).length ≤ 2 * (paramsOf bs e.block).length := by
 unfold copiesF
 rw [Yj]
 have h1 := seqF_len (movesOf bs e) sp
 have h2 := moves_len bs e
 omega
theorem moves_take {bs : List SBlock} {e : SEdge} {c : SBlock} {k : Nat} {v a : Int} (hc : bs[e.block.toNat]? = some c) (hv : c.params[k]? = some v) (ha : e.args[k]? = some a) : (c.params.zip e.args).take (k + 1) = (c.params.zip e.args).take k ++ [(v, a)] :=
 take_snoc (List.getElem?_zip_eq_some.2 ⟨hv, ha⟩)
end Go.SM
end
section
set_option linter.unusedVariables false
set_option linter.unusedSimpArgs false
namespace Go.SM
open Go.VL
def clrA (e : SEdge) : SEdge := ⟨e.block, []⟩
def insH (bs : List SBlock) (sp : Int) (i : Nat) : List SEdge → List SIns
 | [] => []
 | e :: l => insH bs sp i l ++ if i = e.block.toNat then copiesF bs e sp else []
def preB (bs : List SBlock) (sp : Int) (i : Nat) : List SBlock → List SIns
 | [] => []
 | b :: l => preB bs sp i l ++ if b.term.to.length = 1 then [] else insH bs sp i b.term.to
def postT (bs : List SBlock) (sp : Int) (t : STerm) : List SIns := if t.to.length = 1 then t.to.flatMap fun e => copiesF bs e sp else []
def termL (t : STerm) : STerm := if t.kind = 3 ∧ t.to.length = 1 then ⟨1, 0, 0, [], t.to.map clrA⟩ else ⟨t.kind, t.arg, t.n, t.cases, t.to.map clrA⟩
def blockL (bs : List SBlock) (sp : Int) (i : Nat) (b : SBlock) : SBlock :=
 ⟨if 0 < i then [] else b.params, preB bs sp i bs ++ b.ins ++ postT bs sp b.term, termL b.term⟩
theorem updB_get (B : List SBlock) (m : Nat) (f : SBlock → SBlock) (i : Nat) : (updB B m f)[i]? = (B[i]?).map fun c => if i = m then f c else c := by
 unfold updB
 rw [Yr]
 by_cases h : m = i
 ·subst h
  rw [if_pos rfl]
  by_cases hl : m < B.length
  ·rw [if_pos hl, List.getElem?_eq_getElem hl]
   show some (f _) = some (if m = m then _ else _)
   rw [if_pos rfl]
   rfl
  ·rw [if_neg hl, Yag (by omega)]
   rfl
 ·rw [if_neg h]
  cases B[i]? with
  | none => rfl
  | some c => show some c = some (if i = m then f c else c); rw [if_neg (fun e => h e.symm)]
def effE (bs : List SBlock) (sp : Int) (k : Nat) (b : SBlock) (n : Nat) (e : SEdge) (i : Nat) (c : SBlock) : SBlock :=
 if i = k then clrE n (if b.term.to.length = 1 then addE (copiesF bs e sp) c else if i = e.block.toNat then addH (copiesF bs e sp) c else c)
 else if b.term.to.length = 1 then c else if i = e.block.toNat then addH (copiesF bs e sp) c else c
def effEs (bs : List SBlock) (sp : Int) (k : Nat) (b : SBlock) (i : Nat) : Nat → List SEdge → SBlock → SBlock
 | _, [], c => c
 | n, e :: l, c => effEs bs sp k b i (n + 1) l (effE bs sp k b n e i c)
def effB (bs : List SBlock) (sp : Int) (k : Nat) (b : SBlock) (i : Nat) (c : SBlock) : SBlock :=
 effEs bs sp k b i 0 b.term.to (if i = k ∧ b.term.kind = 3 ∧ b.term.to.length = 1 then jmpT c else c)
def effBs (bs : List SBlock) (sp : Int) (i : Nat) : Nat → List SBlock → SBlock → SBlock
 | _, [], c => c
 | k, b :: l, c => effBs bs sp i (k + 1) l (effB bs sp k b i c)
section
variable (bs : List SBlock) (sp : Int)
theorem lvE_get (k : Nat) (b : SBlock) (n : Nat) (e : SEdge) (B : List SBlock) (i : Nat) : (lvE bs sp k b n e B)[i]? = (B[i]?).map (effE bs sp k b n e i) := by
 unfold lvE
 by_cases h1 : b.term.to.length = 1
 ·rw [if_pos h1, updB_get, updB_get]
  cases B[i]? with
  | none => rfl
  | some c =>
   show some (if i = k then clrE n (if i = k then _ else c) else (if i = k then _ else c)) = some (effE bs sp k b n e i c)
   unfold effE
   by_cases hik : i = k
   ·rw [if_pos hik, if_pos hik, if_pos hik, if_pos h1]
   ·rw [if_neg hik, if_neg hik, if_neg hik, if_pos h1]
 ·rw [if_neg h1, updB_get, updB_get]
  cases B[i]? with
  | none => rfl
  | some c =>
   show some (if i = k then clrE n (if i = e.block.toNat then _ else c) else (if i = e.block.toNat then _ else c)) = some (effE bs sp k b n e i c)
   unfold effE
   by_cases hik : i = k
   ·rw [if_pos hik, if_pos hik, if_neg h1]
   ·rw [if_neg hik, if_neg hik, if_neg h1]
theorem lvEs_get (k : Nat) (b : SBlock) (i : Nat) : ∀ (l : List SEdge) (n : Nat) (B : List SBlock), (lvEs bs sp k b n l B)[i]? = (B[i]?).map (effEs bs sp k b i n l)
 | [], n, B => by
  rw [lvEs]
  cases B[i]? <;> rfl
 | e :: l, n, B => by
  rw [lvEs, lvEs_get k b i l, lvE_get]
  cases B[i]? <;> rfl
theorem lvB_get (k : Nat) (b : SBlock) (B : List SBlock) (i : Nat) : (lvB bs sp k b B)[i]? = (B[i]?).map (effB bs sp k b i) := by
 unfold lvB
 rw [lvEs_get]
 by_cases h : b.term.kind = 3 ∧ b.term.to.length = 1
 ·rw [if_pos h, updB_get]
  cases B[i]? with
  | none => rfl
  | some c =>
   show some (effEs bs sp k b i 0 b.term.to (if i = k then jmpT c else c)) = some (effB bs sp k b i c)
   unfold effB
   by_cases hk : i = k
   ·rw [if_pos hk, if_pos ⟨hk, h⟩]
   ·rw [if_neg hk, if_neg fun hh => hk hh.1]
 ·rw [if_neg h]
  cases B[i]? with
  | none => rfl
  | some c =>
   show some (effEs bs sp k b i 0 b.term.to c) = some (effB bs sp k b i c)
   unfold effB
   rw [if_neg fun hh => h hh.2]
theorem lvBs_get (i : Nat) : ∀ (l : List SBlock) (k : Nat) (B : List SBlock), (lvBs bs sp k l B)[i]? = (B[i]?).map (effBs bs sp i k l)
 | [], k, B => by
  rw [lvBs]
  cases B[i]? <;> rfl
 | b :: l, k, B => by
  rw [lvBs, lvBs_get i l, lvB_get]
  cases B[i]? <;> rfl
theorem addH_nil (c : SBlock) : addH [] c = c := rfl
theorem addH_addH (a b : List SIns) (c : SBlock) : addH a (addH b c) = addH (a ++ b) c := by
 unfold addH
 rw [Yi]
theorem effEs_other {k i : Nat} (hik : i ≠ k) (b : SBlock) (h1 : b.term.to.length ≠ 1) : ∀ (l : List SEdge) (n : Nat) (c : SBlock), effEs bs sp k b i n l c = addH (insH bs sp i l) c
 | [], n, c => rfl
 | e :: l, n, c => by
  rw [effEs, effEs_other hik b h1 l, insH]
  unfold effE
  rw [if_neg hik, if_neg h1]
  split
  ·rw [addH_addH]
  ·rw [Yl]
theorem effEs_one {k i : Nat} (hik : i ≠ k) (b : SBlock) (h1 : b.term.to.length = 1) : ∀ (l : List SEdge) (n : Nat) (c : SBlock), effEs bs sp k b i n l c = c
 | [], n, c => rfl
 | e :: l, n, c => by
  rw [effEs, effEs_one hik b h1 l]
  unfold effE
  rw [if_neg hik, if_pos h1]
theorem effEs_self1 {k : Nat} {b : SBlock} {e : SEdge} {c : SBlock} (h1 : b.term.to.length = 1) (hc : c.term.to = [e]) (n : Nat) (hn : n = 0) : effEs bs sp k b k n [e] c = ⟨c.params, c.ins ++ copiesF bs e sp, ⟨c.term.kind, c.term.arg, c.term.n, c.term.cases, [clrA e]⟩⟩ := by
 subst hn
 rw [effEs, effEs]
 unfold effE
 rw [if_pos rfl, if_pos h1]
 unfold clrE addE setTo
 dsimp only
 rw [hc]
 rfl
theorem effEs_self {k : Nat} {b : SBlock} (h1 : b.term.to.length ≠ 1) : ∀ (l : List SEdge) (n : Nat) (c : SBlock), n + l.length = c.term.to.length →
  effEs bs sp k b k n l c = ⟨c.params, insH bs sp k l ++ c.ins, ⟨c.term.kind, c.term.arg, c.term.n, c.term.cases, c.term.to.take n ++ (c.term.to.drop n).map clrA⟩⟩
 | [], n, c, h => by
  rw [effEs, insH, Yw, Yaj (by simp at h; omega), List.drop_of_length_le (by simp at h; omega)]
  simp
 | e :: l, n, c, h => by
  rw [Yh] at h
  obtain ⟨x, hx⟩ := get_of_lt c.term.to n (by omega)
  have hcl : effE bs sp k b n e k c = ⟨c.params, (if k = e.block.toNat then copiesF bs e sp else []) ++ c.ins, ⟨c.term.kind, c.term.arg, c.term.n, c.term.cases, c.term.to.set n (clrA x)⟩⟩ := by
   unfold effE
   rw [if_pos rfl, if_neg h1]
   split
   ·unfold clrE addH setTo
    dsimp only
    rw [hx]
    rfl
   ·unfold clrE setTo
    dsimp only
    rw [hx]
    rfl
  rw [effEs, effEs_self h1 l (n + 1) _ (by rw [hcl]; show n + 1 + l.length = (c.term.to.set n _).length; rw [List.length_set]; omega), hcl, insH]
  dsimp only
  have hn := (Ye.1 hx).1
  have e2 : (c.term.to.set n (clrA x)).drop (n + 1) = c.term.to.drop (n + 1) := by rw [List.drop_set, if_pos (by omega)]
  rw [take_set_succ hn, e2, drop_cons hx, Yp]
  simp only [Yi, List.singleton_append]
theorem effB_other {k i : Nat} (hik : i ≠ k) (b c : SBlock) : effB bs sp k b i c = addH (if b.term.to.length = 1 then [] else insH bs sp i b.term.to) c := by
 unfold effB
 rw [if_neg fun h => hik h.1]
 by_cases h1 : b.term.to.length = 1
 ·rw [effEs_one bs sp hik b h1, if_pos h1, addH_nil]
 ·rw [effEs_other bs sp hik b h1, if_neg h1]
theorem effB_self {k : Nat} {b c : SBlock} (hc : c.term = b.term) : effB bs sp k b k c = ⟨c.params, (if b.term.to.length = 1 then [] else insH bs sp k b.term.to) ++ c.ins ++ postT bs sp b.term, termL b.term⟩ := by
 unfold effB
 by_cases h1 : b.term.to.length = 1
 ·obtain ⟨e, he⟩ := Yam.1 h1
  have hp : postT bs sp b.term = copiesF bs e sp := by
   unfold postT
   rw [if_pos h1, he]
   simp
  by_cases h3 : b.term.kind = 3
  ·rw [if_pos ⟨rfl, h3, h1⟩, he, effEs_self1 bs sp (e := e) h1 (by show c.term.to = _; rw [hc, he]) 0 rfl, if_pos (by rfl), hp]
   unfold termL
   rw [if_pos ⟨h3, h1⟩, he]
   rfl
  ·rw [if_neg (fun h => h3 h.2.1), he, effEs_self1 bs sp (e := e) h1 (by rw [hc, he]) 0 rfl, if_pos (by rfl), hp]
   unfold termL
   rw [if_neg (fun h => h3 h.1), he, hc]
   rfl
 ·rw [if_neg (fun h => h1 h.2.2), effEs_self bs sp h1 b.term.to 0 c (by rw [hc]; omega), if_neg h1]
  have hp : postT bs sp b.term = [] := by
   unfold postT
   rw [if_neg h1]
  rw [hp, Yl]
  unfold termL
  rw [if_neg (fun h => h1 h.2), hc]
  rfl
theorem effBs_other {i : Nat} : ∀ (l : List SBlock) (k : Nat) (c : SBlock), (i < k ∨ k + l.length ≤ i) → effBs bs sp i k l c = addH (preB bs sp i l) c
 | [], k, c, _ => rfl
 | b :: l, k, c, h => by
  rw [Yh] at h
  rw [effBs, effBs_other l (k + 1) _ (by omega), effB_other bs sp (by omega), addH_addH]
  rfl
theorem effBs_self {i : Nat} : ∀ (l : List SBlock) (k : Nat) (b c : SBlock), k ≤ i → l[i - k]? = some b → c.term = b.term → effBs bs sp i k l c = ⟨c.params, preB bs sp i l ++ c.ins ++ postT bs sp b.term, termL b.term⟩
 | [], k, b, c, _, h, _ => by simp at h
 | a :: l, k, b, c, hk, h, hc => by
  by_cases e : i = k
  ·subst e
   rw [Yat] at h
   have h : a = b := by simpa using h
   subst h
   rw [effBs, effB_self bs sp hc, effBs_other bs sp l (i + 1) _ (.inl (by omega)), preB]
   unfold addH
   dsimp only
   simp only [Yi]
  ·have h2 : l[i - (k + 1)]? = some b := by
    rw [show i - k = (i - (k + 1)) + 1 by omega] at h
    simpa using h
   rw [effBs, effB_other bs sp e, effBs_self l (k + 1) b _ (by omega) h2 (by exact hc), preB]
   unfold addH
   dsimp only
   simp only [Yi]
end
theorem leaveG_get (g : SFunc) (sp : Int) (i : Nat) : (leaveG g sp).blocks[i]? = (g.blocks[i]?).map (blockL g.blocks sp i) := by
 unfold leaveG
 dsimp only
 rw [clrP_get, lvBs_get]
 cases h : g.blocks[i]? with
 | none => rfl
 | some b =>
  have hi := (Ye.1 h).1
  show some (if 0 < 0 + i ∧ 0 + i < g.blocks.length then noPar _ else _) = some (blockL g.blocks sp i b)
  rw [effBs_self g.blocks sp g.blocks 0 b b (Yar _) h rfl]
  unfold blockL
  by_cases h0 : 0 < i
  ·rw [if_pos ⟨by omega, by omega⟩, if_pos h0]
   rfl
  ·rw [if_neg (by omega), if_neg h0]
theorem leaveG_len (g : SFunc) (sp : Int) : (leaveG g sp).blocks.length = g.blocks.length := by
 unfold leaveG
 dsimp only
 rw [clrP_len, lvBs_len]
theorem termL_to (t : STerm) : (termL t).to = t.to.map clrA := by
 unfold termL
 split <;> rfl
theorem crit_cnt {bs : List SBlock} {b : SBlock} {e : SEdge} (h : critB bs b e = false) (h2 : 1 < b.term.to.length) (hl : e.block.toNat < bs.length) : cntB e.block.toNat bs ≤ 1 := by
 unfold critB at h
 rw [preds_cnt hl] at h
 have h3 : ¬ ((b.term.to.length : Int) < 2) := by omega
 rw [decide_eq_false h3] at h
 have h4 : ((cntB e.block.toNat bs : Nat) : Int) < 2 := by simpa using h
 omega
def SmallF (u : SUnit) : Prop := ∀ f ∈ u.fns, (splitF f).blocks.length ≤ 128
open Classical in
noncomputable def lvErr (u : SUnit) : Int := if unitF u ≠ 0 then unitF u else if ¬ SmallF u then 2 else if mcheckF (lvU u) ≠ 0 then 2 else 0
theorem lvErr_ok {u : SUnit} (h : lvErr u = 0) : unitF u = 0 ∧ SmallF u ∧ mcheckF (lvU u) = 0 := by
 unfold lvErr at h
 split at h
 ·rename_i h1; exact absurd h h1
 ·rename_i h1
  split at h
  ·cases h
  ·rename_i h2
   split at h
   ·cases h
   ·rename_i h3
    exact ⟨Decidable.not_not.1 h1, Classical.not_not.1 h2, Decidable.not_not.1 h3⟩
theorem lvErr_bad {u : SUnit} (h : lvErr u ≠ 0) (hU : unitF u = 0) : lvErr u = 2 := by
 unfold lvErr at h ⊢
 rw [if_neg (fun hn => hn hU)] at h ⊢
 split
 ·rfl
 ·rename_i h2
  rw [if_neg h2] at h
  split
  ·rfl
  ·rename_i h3
   rw [if_neg h3] at h
   exact absurd rfl h
end Go.SM
end
section
set_option linter.unusedVariables false
set_option linter.unusedSimpArgs false
namespace Go.SM
open Go.VL
theorem vget_pt (k : Int) (v : Val) (x : Int) : ∀ m : Vals, vget (vput m k v) x = if k = x then v else vget m x
 | [] => rfl
 | (j, a) :: m => by
  rw [vput]
  by_cases hj : j = k
  ·subst hj
   rw [if_pos rfl, vget, vget]
   by_cases hx : j = x
   ·rw [if_pos hx, if_pos hx]
   ·rw [if_neg hx, if_neg hx, if_neg hx]
  ·rw [if_neg hj, vget, vget_pt k v x m, vget]
   by_cases hx : j = x
   ·rw [if_pos hx, if_neg (by omega), if_pos hx]
   ·rw [if_neg hx, if_neg hx]
def runM (m : Vals) (l : List Mv) : Vals := l.foldl (fun m x => vput m x.1 (vget m x.2)) m
theorem runM_snoc (m : Vals) (l : List Mv) (x : Mv) : runM m (l ++ [x]) = vput (runM m l) x.1 (vget (runM m l) x.2) := by
 unfold runM
 rw [List.foldl_append]
 rfl
theorem outOf {α : Type} : ∀ {l : List α} {i : Nat} {x : α}, l[i]? = some x → l.Perm (x :: l.eraseIdx i)
 | [], i, x, h => by simp at h
 | a :: l, 0, x, h => by
  have h : a = x := by simpa using h
  subst h
  exact .refl _
 | a :: l, i + 1, x, h => by
  have h : l[i]? = some x := by simpa using h
  exact ((outOf h).cons a).trans (.swap _ _ _)
theorem subLen : ∀ {a b : List Int}, a.Nodup → (∀ x ∈ a, x ∈ b) → a.length ≤ b.length
 | [], b, _, _ => Yar _
 | x :: a, b, hn, hs => by
  obtain ⟨h1, h2⟩ := Yt.1 hn
  have hx := hs x (Yb ..)
  have h3 := List.length_erase_of_mem hx
  have h4 : a.length ≤ (b.erase x).length := subLen h2 fun y hy => (List.mem_erase_of_ne (fun e : y = x => h1 (e ▸ hy))).2 (hs y (Yc _ hy))
  have h5 := Yan hx
  rw [Yh]
  omega
section
variable (sp : Int) (L : List Mv) (m : Vals)
structure SInvM (left : List Mv) (M : Vals) : Prop where
 src : ∀ x ∈ left, ∃ s, (x.1, s) ∈ L ∧ vget M x.2 = vget m s
 done : ∀ y, y ≠ sp → (∀ v, (y, v) ∉ left) → (∀ s, (y, s) ∈ L → vget M y = vget m s) ∧ ((∀ s, (y, s) ∉ L) → vget M y = vget m y)
 nodup : (left.map (·.1)).Nodup
 ne : ∀ x ∈ left, x.1 ≠ sp
variable {sp L m}
theorem inv_take (hL : ∀ x s t, (x, s) ∈ L → (x, t) ∈ L → s = t) {left : List Mv} {M : Vals} {k : Nat} {x : Mv} (h : SInvM sp L m left M) (hx : left[k]? = some x) (hn : ∀ y ∈ left, y.2 ≠ x.1) : SInvM sp L m (left.eraseIdx k) (vput M x.1 (vget M x.2)) := by
 have hp := outOf hx
 have hxm := Ya hx
 have hsub : ∀ y ∈ left.eraseIdx k, y ∈ left := fun y hy => hp.mem_iff.2 (Yc _ hy)
 have hnd : (x.1 :: (left.eraseIdx k).map (·.1)).Nodup := (List.Perm.map (fun z : Mv => z.1) hp).nodup_iff.1 h.nodup
 obtain ⟨hn1, hn2⟩ := Yt.1 hnd
 refine ⟨fun y hy => ?_, fun y hy hl => ?_, hn2, fun y hy => h.ne y (hsub y hy)⟩
 ·obtain ⟨s, h1, h2⟩ := h.src y (hsub y hy)
  exact ⟨s, h1, by rw [vget_pt, if_neg (fun e => hn y (hsub y hy) e.symm)]; exact h2⟩
 ·by_cases e : x.1 = y
  ·obtain ⟨s, h1, h2⟩ := h.src x hxm
   subst e
   refine ⟨fun t ht => ?_, fun hno => absurd h1 (hno s)⟩
   rw [vget_pt, if_pos rfl, h2, hL _ _ _ h1 ht]
  ·have h3 := h.done y hy fun v hv => by
    rcases Yd.1 (hp.mem_iff.1 hv) with rfl | hv
    ·exact e rfl
    ·exact hl v hv
   rw [vget_pt, if_neg e]
   exact h3
theorem inv_break {left : List Mv} {M : Vals} {v : Int} (h : SInvM sp L m left M) (hv : v ≠ sp) (hs : ∀ y ∈ left, y.2 ≠ sp) : SInvM sp L m (left.map (brkF sp v)) (vput M sp (vget M v)) := by
 have hf : ∀ y : Mv, (brkF sp v y).1 = y.1 := fun y => by unfold brkF; split <;> rfl
 have hm : (left.map (brkF sp v)).map (·.1) = left.map (·.1) := by
  rw [List.map_map]
  exact Yao fun y _ => hf y
 refine ⟨fun y hy => ?_, fun y hy hl => ?_, by rw [hm]; exact h.nodup, fun y hy => ?_⟩
 ·obtain ⟨z, hz, rfl⟩ := Yf.1 hy
  obtain ⟨s, h1, h2⟩ := h.src z hz
  refine ⟨s, by rw [hf]; exact h1, ?_⟩
  unfold brkF
  split
  ·rename_i e
   rw [vget_pt, if_pos rfl, ← e]
   exact h2
  ·rw [vget_pt, if_neg (fun e => hs z hz e.symm)]
   exact h2
 ·rw [vget_pt, if_neg (fun e => hy e.symm)]
  refine h.done y hy fun w hw => ?_
  have h3 : (brkF sp v (y, w)) ∈ left.map (brkF sp v) := Yf.2 ⟨_, hw, rfl⟩
  have h4 : brkF sp v (y, w) = (y, (brkF sp v (y, w)).2) := Prod.ext (hf _) rfl
  rw [h4] at h3
  exact hl _ h3
 ·obtain ⟨z, hz, rfl⟩ := Yf.1 hy
  rw [hf]
  exact h.ne z hz
theorem all_cyc {left : List Mv} {M : Vals} (h : SInvM sp L m left M) (hc : ∀ x ∈ left, left.any (fun y => y.2 == x.1) = true) : ∀ y ∈ left, y.2 ≠ sp := fun y hy e => by
 have h1 : (sp :: left.map (·.1)).Nodup := Yt.2 ⟨fun hm => by
  obtain ⟨x, hx, hxe⟩ := Yf.1 hm
  exact h.ne x hx hxe, h.nodup⟩
 have h2 := subLen (b := left.map (·.2)) h1 fun z hz => by
  rcases Yd.1 hz with rfl | hz
  ·exact Yf.2 ⟨y, hy, e⟩
  ·obtain ⟨x, hx, rfl⟩ := Yf.1 hz
   obtain ⟨w, hw, hwe⟩ := List.any_eq_true.1 (hc x hx)
   exact Yf.2 ⟨w, hw, by simpa using hwe⟩
 rw [Yh, Yj, Yj] at h2
 omega
theorem inv_step (hL : ∀ x s t, (x, s) ∈ L → (x, t) ∈ L → s = t) {left out : List Mv} (hne : left ≠ []) (h : SInvM sp L m left (runM m out)) : SInvM sp L m (seqStep sp (left, out)).1 (runM m (seqStep sp (left, out)).2) ∧ (seqStep sp (left, out)).1.length + 1 = left.length := by
 have hl0 := List.length_pos_iff.2 hne
 rcases idxOf_range (fun x : Mv => !(left.any fun y => y.2 == x.1)) left with ⟨h1, h2⟩ | ⟨k, x, h1, h2, h3, _⟩
 ·have hc : ∀ x ∈ left, left.any (fun y => y.2 == x.1) = true := fun x hx => by
   have := Yaa.1 h2 x hx
   simpa using this
  obtain ⟨x0, hx0⟩ := get_of_lt left 0 (by omega)
  have hx0m := Ya hx0
  have hsp := all_cyc h hc
  have hb := inv_break (v := x0.1) h (h.ne x0 hx0m) hsp
  have hy0 : (left.map (brkF sp x0.1))[0]? = some (brkF sp x0.1 x0) := by rw [Yn, hx0]; rfl
  have hat : seqAt left < 0 := by unfold seqAt; rw [h1]; decide
  rw [step_break (out := out) hat hx0 hy0]
  dsimp only
  rw [runM_snoc, runM_snoc]
  have hf1 : (brkF sp x0.1 x0).1 = x0.1 := by unfold brkF; split <;> rfl
  refine ⟨inv_take hL hb hy0 fun y hy => ?_, ?_⟩
  ·rw [hf1]
   obtain ⟨z, hz, rfl⟩ := Yf.1 hy
   unfold brkF
   split
   ·exact fun e => h.ne x0 hx0m e.symm
   ·rename_i e; exact e
  ·rw [List.length_eraseIdx, Yj, if_pos hl0]
   omega
 ·have hat : seqAt left = (k : Int) := h1
  rw [step_take (out := out) hat h2]
  dsimp only
  rw [runM_snoc]
  have hk := (Ye.1 h2).1
  refine ⟨inv_take hL h h2 fun y hy e => ?_, ?_⟩
  ·have h4 : left.any (fun y => y.2 == x.1) = false := by simpa using h3
   have := Yaa.1 h4 y hy
   simp at this
   exact this e
  ·rw [List.length_eraseIdx, if_pos hk]
   omega
theorem inv_loop (hL : ∀ x s t, (x, s) ∈ L → (x, t) ∈ L → s = t) : ∀ (n : Nat) (left out : List Mv), left.length = n → SInvM sp L m left (runM m out) → SInvM sp L m [] (runM m (seqLoop sp n (left, out)).2)
 | 0, left, out, hn, h => by
  have : left = [] := Yak.1 hn
  subst this
  exact h
 | n + 1, left, out, hn, h => by
  obtain ⟨h1, h2⟩ := inv_step hL (by intro e; rw [e] at hn; simp at hn) h
  rw [seqLoop]
  cases hs : seqStep sp (left, out) with
  | mk l2 o2 =>
   rw [hs] at h1 h2
   dsimp only at h1 h2
   exact inv_loop hL n l2 o2 (by omega) h1
end
theorem bad_zero {sp : Int} : ∀ {L pre : List Mv}, ((pre ++ L).map (·.1)).Nodup → (∀ x ∈ L, 0 ≤ x.1 ∧ 0 ≤ x.2 ∧ x.1 ≠ sp ∧ x.2 ≠ sp) → seqBad sp pre L = 0
 | [], pre, _, _ => rfl
 | x :: L, pre, h, hx => by
  obtain ⟨h1, h2, h3, h4⟩ := hx x (Yb ..)
  have h5 : (pre.any fun y => y.1 == x.1) = false := by
   rw [Yaa]
   intro y hy e
   have e : y.1 = x.1 := by simpa using e
   rw [Yo, Yaf] at h
   exact h.2.2 y.1 (Yf.2 ⟨y, hy, rfl⟩) x.1 (Yf.2 ⟨x, Yb .., rfl⟩) e
  rw [seqBad, if_neg (by omega), if_neg (by rw [h5]; decide), if_neg (fun e => e.elim h3 h4)]
  exact bad_zero (by rw [Yi]; exact h) fun y hy => hx y (Yc _ hy)
theorem seq_sem {sp : Int} {L : List Mv} (hn : (L.map (·.1)).Nodup) (hx : ∀ x ∈ L, 0 ≤ x.1 ∧ 0 ≤ x.2 ∧ x.1 ≠ sp ∧ x.2 ≠ sp) (m : Vals) (y : Int) (hy : y ≠ sp) :
  (∀ s, (y, s) ∈ L → vget (runM m (seqF L sp).1) y = vget m s) ∧ ((∀ s, (y, s) ∉ L) → vget (runM m (seqF L sp).1) y = vget m y) := by
 have hL : ∀ x s t, (x, s) ∈ L → (x, t) ∈ L → s = t := fun x s t h1 h2 => by
  clear hx
  induction L with
  | nil => cases h1
  | cons a L ih =>
   rw [Yp] at hn
   obtain ⟨g1, g2⟩ := Yt.1 hn
   rcases Yd.1 h1 with e1 | e1
   ·rcases Yd.1 h2 with e2 | e2
    ·rw [← e1] at e2
     injection e2 with _ e2
     exact e2.symm
    ·exact absurd (Yf.2 ⟨(x, t), e2, by rw [← e1]⟩) g1
   ·rcases Yd.1 h2 with e2 | e2
    ·exact absurd (Yf.2 ⟨(x, s), e1, by rw [← e2]⟩) g1
    ·exact ih g2 e1 e2
 have hb : seqBad sp [] L = 0 := bad_zero hn hx
 have hF : (seqF L sp).1 = (seqLoop sp (leftF L).length (leftF L, [])).2 := by
  unfold seqF
  rw [if_pos hb]
 rw [hF]
 have h0 : SInvM sp L m (leftF L) (runM m []) := by
  have hs : ∀ x ∈ leftF L, x ∈ L := fun x hx => (List.mem_filter.1 hx).1
  refine ⟨fun x hx => ⟨x.2, hs x hx, rfl⟩, fun y hy hl => ⟨fun s hs2 => ?_, fun _ => rfl⟩, ?_, fun x hx2 => (hx x (hs x hx2)).2.2.1⟩
  ·have e : y = s := Classical.byContradiction fun hne => hl s (List.mem_filter.2 ⟨hs2, by simpa using hne⟩)
   rw [e]
   rfl
  ·exact hn.sublist (List.filter_sublist.map _)
 exact (inv_loop hL _ _ _ rfl h0).done y hy fun v hv => by cases hv
theorem vputs_sem : ∀ {ps : List Int} {as : List Int} {m m0 : Vals}, ps.Nodup → ps.length = as.length → ∀ y, (∀ s, (y, s) ∈ ps.zip as → vget (vputs m ps (takeF m0 as)) y = vget m0 s) ∧ ((∀ s, (y, s) ∉ ps.zip as) → vget (vputs m ps (takeF m0 as)) y = vget m y)
 | [], [], m, m0, _, _, y => ⟨(fun s h => by cases h), fun _ => rfl⟩
 | [], a :: as, m, m0, _, h, _ => by simp at h
 | p :: ps, [], m, m0, _, h, _ => by simp at h
 | p :: ps, a :: as, m, m0, hn, hl, y => by
  obtain ⟨g1, g2⟩ := Yt.1 hn
  obtain ⟨h1, h2⟩ := vputs_sem (m := vput m p (vget m0 a)) (m0 := m0) g2 (by simpa using hl) y
  have e : vputs m (p :: ps) (takeF m0 (a :: as)) = vputs (vput m p (vget m0 a)) ps (takeF m0 as) := rfl
  rw [e]
  refine ⟨fun s hs => ?_, fun hno => ?_⟩
  ·rw [List.zip_cons_cons] at hs
   rcases Yd.1 hs with hs | hs
   ·injection hs with e1 e2
    subst e1 e2
    rw [h2 fun t ht => g1 (List.of_mem_zip ht).1, vget_pt, if_pos rfl]
   ·exact h1 s hs
  ·rw [List.zip_cons_cons] at hno
   rw [h2 fun s hs => hno s (Yc _ hs), vget_pt, if_neg]
   intro e
   exact hno a (by rw [e]; exact Yb ..)
end Go.SM
end
section
set_option linter.unusedVariables false
set_option linter.unusedSimpArgs false
set_option linter.unusedSectionVars false
namespace Go.SM
open Go.VL
def renT (r : Int → Int) (t : STerm) : STerm := { t with to := t.to.map fun e => ⟨r e.block, e.args⟩ }
structure Ren (u v : SUnit) (ρ : Int → Int → Int) (good : Int → Int → Prop) : Prop where
 main : v.main = u.main
 entry : ∀ k, entryOf v k = entryOf u k
 zero : ∀ fn, good fn 0 ∧ ρ fn 0 = 0
 blk : ∀ fn k, good fn k → (blockAt v fn (ρ fn k)).params = (blockAt u fn k).params ∧ (blockAt v fn (ρ fn k)).ins = (blockAt u fn k).ins ∧ (blockAt v fn (ρ fn k)).term = renT (ρ fn) (blockAt u fn k).term ∧ ∀ e ∈ (blockAt u fn k).term.to, good fn e.block
def wst (s : List MFrame) (M : Mach) : Mach := { M with stack := s }
theorem pay_st (n : Int) (M : Mach) (s : List MFrame) : payF n (wst s M) = wst s (payF n M) := by
 unfold payF
 show (if M.left < n then _ else _) = _
 split <;> rfl
theorem alloc_st (a b : Val) (M : Mach) (s : List MFrame) : allocF a b (wst s M) = (wst s (allocF a b M).1, (allocF a b M).2) := by
 unfold allocF
 rw [pay_st]
 by_cases h1 : a.kind ≠ 0
 ·rw [if_pos h1, if_pos h1]
 ·rw [if_neg h1, if_neg h1]
  by_cases h2 : a.n < 0 ∨ 1024 < a.n
  ·rw [if_pos h2, if_pos h2]
  ·rw [if_neg h2, if_neg h2]
   show (if (payF a.n M).short = true then _ else _) = _
   by_cases h3 : (payF a.n M).short = true
   ·rw [if_pos h3, if_pos h3]
   ·rw [if_neg h3, if_neg h3]; rfl
theorem effect_st (i : SIns) (args : List Val) (M : Mach) (s : List MFrame) : effectF i args (wst s M) = (wst s (effectF i args M).1, (effectF i args M).2) := by
 unfold effectF
 rw [alloc_st]
 show (if i.op = 15 then if (argAt args 0).kind ≠ 0 then _ else if (M.out.length : Int) = 1000 then _ else _ else if i.op = 16 then _ else if i.op = 18 then if allK 0 args = false then _ else if _ then _ else _ else if _ then _ else if i.op = 17 then _ else if (argAt args 1).n < 0 ∨ ((arrOf M (argAt args 0)).length : Int) ≤ (argAt args 1).n then _ else if i.op = 19 then _ else _) = _
 by_cases h1 : i.op = 15
 ·rw [if_pos h1, if_pos h1]
  by_cases h2 : (argAt args 0).kind ≠ 0
  ·rw [if_pos h2, if_pos h2]
  ·rw [if_neg h2, if_neg h2]
   by_cases h3 : (M.out.length : Int) = 1000
   ·rw [if_pos h3, if_pos h3]
   ·rw [if_neg h3, if_neg h3]; rfl
 ·rw [if_neg h1, if_neg h1]
  by_cases h2 : i.op = 16
  ·rw [if_pos h2, if_pos h2]
  ·rw [if_neg h2, if_neg h2]
   by_cases h3 : i.op = 18
   ·rw [if_pos h3, if_pos h3]
    by_cases h4 : allK 0 args = false
    ·rw [if_pos h4, if_pos h4]
    ·rw [if_neg h4, if_neg h4]
     by_cases h5 : (argAt args 0).n < 0 ∨ (argAt args 1).n ≤ (argAt args 0).n
     ·rw [if_pos h5, if_pos h5]
     ·rw [if_neg h5, if_neg h5]
   ·rw [if_neg h3, if_neg h3]
    by_cases h4 : (argAt args 0).kind ≠ 3 ∨ i.op ≠ 17 ∧ (argAt args 1).kind ≠ 0
    ·rw [if_pos h4, if_pos h4]
    ·rw [if_neg h4, if_neg h4]
     by_cases h5 : i.op = 17
     ·rw [if_pos h5, if_pos h5]; rfl
     ·rw [if_neg h5, if_neg h5]
      by_cases h6 : (argAt args 1).n < 0 ∨ ((arrOf M (argAt args 0)).length : Int) ≤ (argAt args 1).n
      ·rw [if_pos h6, if_pos h6]
      ·rw [if_neg h6, if_neg h6]
       by_cases h7 : i.op = 19
       ·rw [if_pos h7, if_pos h7]; rfl
       ·rw [if_neg h7, if_neg h7]
        have : ∀ l, setArr (wst s M) (argAt args 0) l = wst s (setArr M (argAt args 0) l) := fun l => by
         unfold setArr
         cases (argAt args 0).arr <;> rfl
        rw [this]; rfl
theorem exec_st (i : SIns) (args : List Val) (M : Mach) (s : List MFrame) : execF i args (wst s M) = (wst s (execF i args M).1, (execF i args M).2) := by
 unfold execF
 rw [effect_st]
 by_cases h1 : i.op = 0
 ·rw [if_pos h1, if_pos h1]
 ·rw [if_neg h1, if_neg h1]
  by_cases h2 : elemJ i.op [1, 2, 3, 4, 5, 6, 7] = true
  ·rw [if_pos h2, if_pos h2]
   by_cases h3 : allK 0 args = false
   ·rw [if_pos h3, if_pos h3]
   ·rw [if_neg h3, if_neg h3]
  ·rw [if_neg h2, if_neg h2]
   by_cases h3 : i.op = 8
   ·rw [if_pos h3, if_pos h3]
   ·rw [if_neg h3, if_neg h3]
    by_cases h4 : i.op = 9
    ·rw [if_pos h4, if_pos h4]
    ·rw [if_neg h4, if_neg h4]
     by_cases h5 : elemJ i.op [10, 11, 12, 21] = true
     ·rw [if_pos h5, if_pos h5]
     ·rw [if_neg h5, if_neg h5]
      by_cases h6 : elemJ i.op [22, 23, 24] = true
      ·rw [if_pos h6, if_pos h6]
      ·rw [if_neg h6, if_neg h6]
       by_cases h7 : i.op = 100
       ·rw [if_pos h7, if_pos h7]
       ·rw [if_neg h7, if_neg h7]
section
variable {u v : SUnit} {ρ : Int → Int → Int} {good : Int → Int → Prop} (h : Ren u v ρ good)
end
end Go.SM
end
section
set_option linter.unusedVariables false
set_option linter.unusedSimpArgs false
set_option linter.unusedSectionVars false
namespace Go.SM
open Go.VL
def splitU (u : SUnit) : SUnit := ⟨u.fns.map splitF, u.main⟩
theorem fns_ok {u : SUnit} (h : unitF u = 0) : ∀ f ∈ u.fns, funcF f = 0 := by
 unfold unitF at h
 split at h
 ·cases h
 ·split at h
  ·cases h
  ·split at h
   ·cases h
   ·split at h
    ·rename_i hn; exact absurd h hn
    ·rename_i hn
     exact firstE_ok (Decidable.not_not.1 hn)
theorem firstE_all {α : Type} {f : α → Int} : ∀ {l : List α}, (∀ x ∈ l, f x = 0) → firstE f l = 0
 | [], _ => rfl
 | x :: l, h => by
  rw [firstE, if_neg (fun hn => hn (h x (Yb ..)))]
  exact firstE_all fun y hy => h y (Yc _ hy)
theorem split_params {f : SFunc} {v : Int} (h0 : 0 ≤ v) (h : v < f.blocks.length) : paramsOf (splitF f).blocks v = paramsOf f.blocks v := by
 obtain ⟨b, hb⟩ := get_of_lt f.blocks v.toNat (by omega)
 obtain ⟨to, g1, _⟩ := (split_is f).old _ b hb
 rw [paramsOf_get g1, paramsOf_get hb]
 rfl
theorem splitU_get (u : SUnit) (k : Int) : (splitU u).fns[k.toNat]? = (u.fns[k.toNat]?).map splitF := Yn ..
theorem splitU_entry {u : SUnit} (hf : ∀ f ∈ u.fns, funcF f = 0) (k : Int) : entryOf (splitU u) k = entryOf u k := by
 unfold entryOf
 rw [splitU_get]
 cases h : u.fns[k.toNat]? with
 | none => rfl
 | some f => exact split_params (Yaw _) (by have := (func_ok (hf f (Ya h))).pos; omega)
theorem split_unit {u : SUnit} (h : unitF u = 0) (hl : ∀ f ∈ u.fns, (splitF f).blocks.length ≤ 128) : unitF (splitU u) = 0 := by
 have hf := fns_ok h
 have hl1 : (splitU u).fns.length = u.fns.length := Yj ..
 have hc : ∀ i, callF (splitU u) i = callF u i := fun i => by
  unfold callF
  rw [hl1, splitU_entry hf]
 have hcalls : callsF u = 0 → callsF (splitU u) = 0 := fun hcu => by
  refine firstE_all fun g hg => ?_
  obtain ⟨f, hfm, rfl⟩ := Yf.1 hg
  have h1 := firstE_ok hcu f hfm
  have hs := split_is f
  refine firstE_all fun c hcm => ?_
  obtain ⟨i, hi⟩ := Yk hcm
  have hil := (Ye.1 hi).1
  by_cases hin : i < f.blocks.length
  ·obtain ⟨b, hb⟩ := get_of_lt f.blocks i (by omega)
   obtain ⟨to, g1, _⟩ := hs.old i b hb
   rw [hi] at g1
   injection g1 with g1
   subst g1
   have h2 := firstE_ok h1 b (Ya hb)
   exact firstE_all fun x hx => (hc x).trans (firstE_ok h2 x hx)
  ·obtain ⟨⟨k, e⟩, hx⟩ := get_of_lt (splitP f).2 (i - f.blocks.length) (by have := hs.len; omega)
   have g1 := (hs.new _ k e hx).1
   rw [show f.blocks.length + (i - f.blocks.length) = i by omega, hi] at g1
   injection g1 with g1
   subst g1
   rfl
 have hfn : firstE funcF (splitU u).fns = 0 := firstE_all fun g hg => by
  obtain ⟨f, hfm, rfl⟩ := Yf.1 hg
  exact split_ok (hf f hfm) (hl f hfm)
 have hm : (splitU u).main = u.main := rfl
 unfold unitF at h ⊢
 rw [hl1, hm, hfn, splitU_entry hf]
 split at h
 ·cases h
 ·rename_i g1
  rw [if_neg g1]
  split at h
  ·cases h
  ·rename_i g2
   rw [if_neg g2]
   split at h
   ·cases h
   ·rename_i g3
    rw [if_neg g3, if_neg (fun e => e rfl)]
    split at h
    ·rename_i hn; exact absurd h hn
    ·split at h
     ·cases h
     ·rename_i g5
      rw [if_neg g5]
      exact hcalls h
section
variable {u : SUnit} (hu : unitF u = 0)
include hu
theorem ins_split (f : MFrame) (i : SIns) (fs : List MFrame) (M : Mach) : insF (splitU u) f i fs M = insF u f i fs M := by
 have he := splitU_entry (fns_ok hu)
 have hen : ∀ n args to, enterF (splitU u) n args to M = enterF u n args to M := fun n args to => by
  unfold enterF entered
  rw [he]
 unfold insF
 dsimp only
 rw [hen, hen, he]
theorem follow_split {f : MFrame} {F : SFunc} {b : SBlock} {e : SEdge} (hF : u.fns[f.fn.toNat]? = some F) (hb : b ∈ F.blocks) (he : e ∈ b.term.to) : followF (splitU u) f e = followF u f e := by
 have hok := func_ok (fns_ok hu F (Ya hF))
 have hE := hok.edges b hb e he
 obtain ⟨c, hc⟩ := get_of_lt F.blocks e.block.toNat (by omega)
 obtain ⟨to, g1, _⟩ := (split_is F).old _ c hc
 unfold followF blockAt
 rw [splitU_get, hF]
 show ({ f with block := e.block, at_ := 0, vals := vputs f.vals (((splitF F).blocks[e.block.toNat]?).getD default).params (takeF f.vals e.args) } : MFrame) = { f with block := e.block, at_ := 0, vals := vputs f.vals ((F.blocks[e.block.toNat]?).getD default).params (takeF f.vals e.args) }
 rw [g1, hc]
 rfl
omit hu in
def StepRel (v : SUnit) (M X Y : Mach) : Prop := X = Y ∨ ∃ S', X = wst S' M ∧ Y.left = M.left ∧ Y.short = M.short ∧ Y.over = M.over ∧ (∀ c, stepF v (addL c (wst S' M)) = addL c Y) ∧ ∃ g gs, S' = g :: gs ∧ (blockAt v g.fn g.block).params = []
theorem step_split {M : Mach} (hM : MOk u M) : StepRel (splitU u) M (stepF (splitU u) M) (stepF u M) := by
 cases hst : M.stack with
 | nil =>
  refine .inl ?_
  unfold stepF
  rw [hst]
 | cons f fs =>
  obtain ⟨_, hb0, ⟨F, b, hF, hb, _, _⟩, _⟩ := hM.frames f (by rw [hst]; exact Yb ..)
  have h0 := fns_ok hu F (Ya hF)
  have hok := func_ok h0
  have hs := split_is F
  obtain ⟨to, g1, g2, g3⟩ := hs.old _ b hb
  have eb : blockAt u f.fn f.block = b := by
   unfold blockAt
   rw [hF]
   show (F.blocks[f.block.toNat]?).getD default = b
   rw [hb]; rfl
  have ec : blockAt (splitU u) f.fn f.block = setTo b to := by
   unfold blockAt
   rw [splitU_get, hF]
   show ((splitF F).blocks[f.block.toNat]?).getD default = setTo b to
   rw [g1]; rfl
  have hT : TermOk F b.term := ((unit_of hu).u).term F (Ya hF) b (Ya hb)
  unfold stepF
  rw [hst]
  dsimp only
  rw [eb, ec]
  show StepRel (splitU u) M (if f.at_ = (b.ins.length : Int) then termF (splitU u) f (setTo b to).term fs M else insF (splitU u) { f with at_ := f.at_ + 1 } (b.ins[f.at_.toNat]?.getD default) fs { M with stack := { f with at_ := f.at_ + 1 } :: fs }) _
  by_cases h1 : f.at_ = (b.ins.length : Int)
  ·rw [if_pos h1, if_pos h1]
   -- the edges
   have key : ∀ k : Nat, k < b.term.to.length → ({ M with stack := followF (splitU u) f (edgeAt (setTo b to).term k) :: fs } : Mach) = { M with stack := followF u f (edgeAt b.term k) :: fs } ∨ ∃ S', ({ M with stack := followF (splitU u) f (edgeAt (setTo b to).term k) :: fs } : Mach) = wst S' M ∧ (∀ c, stepF (splitU u) (addL c (wst S' M)) = addL c { M with stack := followF u f (edgeAt b.term k) :: fs }) ∧ ∃ g gs, S' = g :: gs ∧ (blockAt (splitU u) g.fn g.block).params = [] := fun k hk => by
    obtain ⟨e, he⟩ := get_of_lt b.term.to k (by omega)
    have e1 : edgeAt b.term k = e := by unfold edgeAt; rw [he]; rfl
    have hfl := follow_split hu hF (Ya hb) (Ya he)
    rcases g3 k e he with g | ⟨m, g4, g5⟩
    ·have e2 : edgeAt (setTo b to).term k = e := by
      show (to[k]?).getD default = e
      rw [g]; rfl
     rw [e1, e2, hfl]
     exact .inl rfl
    ·have e2 : edgeAt (setTo b to).term k = ⟨((F.blocks.length + m : Nat) : Int), []⟩ := by
      show (to[k]?).getD default = _
      rw [g5]; rfl
     have hn := (hs.new m _ e g4).1
     have ej : blockAt (splitU u) f.fn ((F.blocks.length + m : Nat) : Int) = jumpB e := by
      unfold blockAt
      rw [splitU_get, hF]
      show ((splitF F).blocks[(((F.blocks.length + m : Nat) : Int)).toNat]?).getD default = _
      rw [Yav, hn]; rfl
     have e3 : followF (splitU u) f ⟨((F.blocks.length + m : Nat) : Int), []⟩ = { f with block := ((F.blocks.length + m : Nat) : Int), at_ := 0 } := by
      unfold followF
      dsimp only
      rw [ej]
      rfl
     rw [e1, e2, e3]
     refine .inr ⟨_, rfl, fun c => ?_, _, _, rfl, by show (blockAt (splitU u) f.fn ((F.blocks.length + m : Nat) : Int)).params = []; rw [ej]; rfl⟩
     unfold stepF
     show (if (0 : Int) = ((blockAt (splitU u) f.fn ((F.blocks.length + m : Nat) : Int)).ins.length : Int) then termF (splitU u) { f with block := ((F.blocks.length + m : Nat) : Int), at_ := 0 } (blockAt (splitU u) f.fn ((F.blocks.length + m : Nat) : Int)).term fs (addL c (wst ({ f with block := ((F.blocks.length + m : Nat) : Int), at_ := 0 } :: fs) M)) else _) = _
     rw [ej, if_pos (show (0 : Int) = ((jumpB e).ins.length : Int) from rfl)]
     have e4 : followF (splitU u) { f with block := ((F.blocks.length + m : Nat) : Int), at_ := 0 } e = followF u f e := by
      have h5 := follow_split hu (f := { f with block := ((F.blocks.length + m : Nat) : Int), at_ := 0 }) hF (Ya hb) (Ya he)
      rw [h5]
      rfl
     show termF (splitU u) { f with block := ((F.blocks.length + m : Nat) : Int), at_ := 0 } ⟨1, 0, 0, [], [e]⟩ fs _ = _
     unfold termF
     rw [if_neg (show ¬ (1 : Int) = 4 by decide), if_pos rfl]
     show ({ addL c (wst _ M) with stack := followF (splitU u) { f with block := ((F.blocks.length + m : Nat) : Int), at_ := 0 } e :: fs } : Mach) = _
     rw [e4]
     rfl
   unfold termF
   show StepRel (splitU u) M (if b.term.kind = 4 then stopF b.term.n 0 M else if b.term.kind = 1 then { M with stack := followF (splitU u) f (edgeAt (setTo b to).term 0) :: fs } else if b.term.kind = 0 then leaveF f (vget f.vals b.term.arg) fs M else if (vget f.vals b.term.arg).kind ≠ 0 then stopF 5 0 M else { M with stack := followF (splitU u) f (edgeAt (setTo b to).term (choiceF b.term (vget f.vals b.term.arg).n).toNat) :: fs }) _
   by_cases k4 : b.term.kind = 4
   ·rw [if_pos k4, if_pos k4]; exact .inl rfl
   ·rw [if_neg k4, if_neg k4]
    by_cases k1 : b.term.kind = 1
    ·rw [if_pos k1, if_pos k1]
     rcases key 0 (hT.one k1) with h2 | ⟨S', h2, h3⟩
     ·exact .inl h2
     ·exact .inr ⟨S', h2, rfl, rfl, rfl, h3⟩
    ·rw [if_neg k1, if_neg k1]
     by_cases k0 : b.term.kind = 0
     ·rw [if_pos k0, if_pos k0]; exact .inl rfl
     ·rw [if_neg k0, if_neg k0]
      by_cases kw : (vget f.vals b.term.arg).kind ≠ 0
      ·rw [if_pos kw, if_pos kw]; exact .inl rfl
      ·rw [if_neg kw, if_neg kw]
       have hch := choice_lt hT (vget f.vals b.term.arg).n k0 k1 k4
       rcases key (choiceF b.term (vget f.vals b.term.arg).n).toNat (by omega) with h2 | ⟨S', h2, h3⟩
       ·exact .inl h2
       ·exact .inr ⟨S', h2, rfl, rfl, rfl, h3⟩
  ·rw [if_neg h1, if_neg h1]
   exact .inl (ins_split hu ..)
end
end Go.SM
end
section
set_option linter.unusedVariables false
set_option linter.unusedSimpArgs false
namespace Go.SM
open Go.VL
structure RangeOk (bs : List SBlock) (many : Nat) : Prop where
 to : ∀ b ∈ bs, ∀ i ∈ b.ins, 0 ≤ i.to ∧ i.to < many
 args : ∀ b ∈ bs, ∀ i ∈ b.ins, ∀ a ∈ i.args, 0 ≤ a ∧ a < many
 arg : ∀ b ∈ bs, b.term.kind ≠ 1 ∧ b.term.kind ≠ 4 → 0 ≤ b.term.arg ∧ b.term.arg < many
 eargs : ∀ b ∈ bs, ∀ e ∈ b.term.to, ∀ a ∈ e.args, 0 ≤ a ∧ a < many
 edge : ∀ b ∈ bs, ∀ e ∈ b.term.to, 1 ≤ e.block ∧ e.block < bs.length
theorem fine_key {f : SFunc} (h : FuncOk f) {k : Nat} {at_ a : Int} (hf : fineF (blocksF f.blocks 0 f.blocks []).2 (domF f.blocks) k at_ a = true) : a ∈ valuesL f.blocks := by
 rw [h.defs.1] at hf
 unfold fineF at hf
 cases hd : dget (defsL 0 f.blocks) a with
 | none => rw [hd] at hf; cases hf
 | some p =>
  have hmem := dget_mem hd
  have : a ∈ dkeys (defsL 0 f.blocks) := Yf.2 ⟨_, hmem, rfl⟩
  rwa [dkeys_defsL] at this
theorem used_all {t : STerm} {use : Int → Bool} (h : usedF t use = true) : (t.kind ≠ 1 ∧ t.kind ≠ 4 → use t.arg = true) ∧ ∀ e ∈ t.to, ∀ a ∈ e.args, use a = true := by
 unfold usedF at h
 split at h
 ·cases h
 ·rename_i hc
  refine ⟨fun hk => ?_, fun e he a ha => ?_⟩
  ·cases hu : use t.arg with
   | true => rfl
   | false => exact absurd ⟨hk, hu⟩ hc
  ·rw [Ym] at h
   have := h e he
   rw [Ym] at this
   exact this a ha
theorem range_ok {f : SFunc} (h : FuncOk f) {many : Nat} (hm : freshF f.blocks ≤ many) : RangeOk f.blocks many := by
 have key : ∀ a ∈ valuesL f.blocks, 0 ≤ a ∧ a < many := fun a ha => by
  have h1 := values_keys h a ha
  have h2 := (fresh_ok h).2.2 a ha
  exact ⟨h1.1, by omega⟩
 have hu := usesF_all h.uses
 refine ⟨fun b hb i hi => key _ (List.mem_flatMap.2 ⟨b, hb, Yac _ (Yf.2 ⟨i, hi, rfl⟩)⟩), fun b hb i hi a ha => ?_, fun b hb hk => ?_, fun b hb e he a ha => ?_, h.edges⟩
 ·obtain ⟨k, hk⟩ := Yk hb
  obtain ⟨j, hj⟩ := Yk hi
  exact key a (fine_key h (usesIns_all (hu k b hk).1 j i hj a ha))
 ·obtain ⟨k, hkb⟩ := Yk hb
  exact key _ (fine_key h ((used_all (hu k b hkb).2).1 hk))
 ·obtain ⟨k, hk⟩ := Yk hb
  exact key a (fine_key h ((used_all (hu k b hk).2).2 e he a ha))
end Go.SM
end
section
set_option linter.unusedVariables false
set_option linter.unusedSimpArgs false
set_option linter.unusedSectionVars false
namespace Go.SM
open Go.VL
def cntM (i : Nat) : List SBlock → Nat
 | [] => 0
 | b :: l => (if b.term.to.length = 1 then 0 else cntE i b.term.to) + cntM i l
theorem insH_none (bs : List SBlock) (sp : Int) {i : Nat} : ∀ {l : List SEdge}, cntE i l = 0 → insH bs sp i l = []
 | [], _ => rfl
 | e :: l, h => by
  rw [cntE_cons] at h
  split at h
  ·omega
  ·rename_i hn
   rw [insH, insH_none bs sp (by omega), if_neg (fun e => hn e.symm)]
   rfl
theorem cntE_mem {i : Nat} : ∀ {l : List SEdge} {e : SEdge}, e ∈ l → e.block.toNat = i → 1 ≤ cntE i l
 | [], e, h, _ => by cases h
 | a :: l, e, h, he => by
  rw [cntE_cons]
  rcases Yd.1 h with rfl | h
  ·rw [if_pos he]; omega
  ·have := cntE_mem h he; omega
theorem insH_one (bs : List SBlock) (sp : Int) {i : Nat} : ∀ {l : List SEdge} {e : SEdge}, cntE i l = 1 → e ∈ l → e.block.toNat = i → insH bs sp i l = copiesF bs e sp
 | [], e, _, h, _ => by cases h
 | a :: l, e, hc, h, he => by
  rw [cntE_cons] at hc
  rw [insH]
  rcases Yd.1 h with rfl | h
  ·rw [if_pos he] at hc
   rw [insH_none bs sp (by omega), if_pos he.symm]
   rfl
  ·have h1 := cntE_mem h he
   have hn : ¬ a.block.toNat = i := fun hn => by rw [if_pos hn] at hc; omega
   rw [if_neg hn] at hc
   rw [insH_one bs sp hc h he, if_neg (fun e => hn e.symm), Yl]
theorem preB_none (bs : List SBlock) (sp : Int) {i : Nat} : ∀ {l : List SBlock}, cntM i l = 0 → preB bs sp i l = []
 | [], _ => rfl
 | b :: l, h => by
  rw [cntM] at h
  rw [preB, preB_none bs sp (by omega)]
  split
  ·rfl
  ·rename_i h1
   rw [if_neg h1] at h
   rw [insH_none bs sp (by omega)]
   rfl
theorem cntM_mem {i : Nat} : ∀ {l : List SBlock} {b : SBlock} {e : SEdge}, b ∈ l → b.term.to.length ≠ 1 → e ∈ b.term.to → e.block.toNat = i → 1 ≤ cntM i l
 | [], b, e, h, _, _, _ => by cases h
 | a :: l, b, e, h, h1, he, hi => by
  rw [cntM]
  rcases Yd.1 h with rfl | h
  ·rw [if_neg h1]
   have := cntE_mem he hi
   omega
  ·have := cntM_mem h h1 he hi
   omega
theorem preB_one (bs : List SBlock) (sp : Int) {i : Nat} : ∀ {l : List SBlock} {b : SBlock} {e : SEdge}, cntM i l = 1 → b ∈ l → b.term.to.length ≠ 1 → e ∈ b.term.to → e.block.toNat = i → preB bs sp i l = copiesF bs e sp
 | [], b, e, _, h, _, _, _ => by cases h
 | a :: l, b, e, hc, h, h1, he, hi => by
  rw [cntM] at hc
  rw [preB]
  rcases Yd.1 h with rfl | h
  ·rw [if_neg h1] at hc
   have h2 := cntE_mem he hi
   rw [preB_none bs sp (by omega), if_neg h1, insH_one bs sp (by omega) he hi]
   rfl
  ·have h2 := cntM_mem h h1 he hi
   rw [preB_one bs sp (by omega) h h1 he hi]
   split
   ·rw [Yl]
   ·rename_i ha
    rw [if_neg ha] at hc
    rw [insH_none bs sp (by omega), Yl]
theorem cntM_le {i : Nat} : ∀ l : List SBlock, cntM i l ≤ cntB i l
 | [] => Yas _
 | b :: l => by
  have := cntM_le (i := i) l
  rw [cntM, cntB]
  split <;> omega
theorem cntM_one {i : Nat} : ∀ {l : List SBlock} {b : SBlock} {e : SEdge}, b ∈ l → b.term.to = [e] → e.block.toNat = i → cntM i l + 1 ≤ cntB i l
 | [], b, e, h, _, _ => by cases h
 | a :: l, b, e, h, h1, hi => by
  rw [cntM, cntB]
  rcases Yd.1 h with rfl | h
  ·have h2 := cntM_le (i := i) l
   have h3 : 1 ≤ cntE i b.term.to := cntE_mem (by rw [h1]; exact Yq.2 rfl) hi
   rw [if_pos (by rw [h1]; rfl)]
   omega
  ·have := cntM_one h h1 hi
   split <;> omega
theorem cntM_pos {i : Nat} : ∀ {l : List SBlock}, 1 ≤ cntM i l → ∃ b ∈ l, b.term.to.length ≠ 1 ∧ ∃ e ∈ b.term.to, e.block.toNat = i
 | [], h => by cases h
 | b :: l, h => by
  rw [cntM] at h
  by_cases h2 : 1 ≤ cntM i l
  ·obtain ⟨c, hc, h3⟩ := cntM_pos h2
   exact ⟨c, Yc _ hc, h3⟩
  ·by_cases h1 : b.term.to.length = 1
   ·rw [if_pos h1] at h
    omega
   ·rw [if_neg h1] at h
    have h3 : 0 < cntE i b.term.to := by omega
    unfold cntE at h3
    obtain ⟨e, he, hei⟩ := List.countP_pos_iff.1 h3
    exact ⟨b, Yb .., h1, e, he, by simpa using hei⟩
section
variable {f : SFunc} (h0 : funcF f = 0) (hl : (splitF f).blocks.length ≤ 128)
include h0 hl
theorem pre_multi {b : SBlock} {e : SEdge} (sp : Int) (hb : b ∈ (splitF f).blocks) (h1 : b.term.to.length ≠ 1) (he : e ∈ b.term.to) : preB (splitF f).blocks sp e.block.toNat (splitF f).blocks = copiesF (splitF f).blocks e sp := by
 have gok := func_ok (split_ok h0 hl)
 have hE := gok.edges b hb e he
 have h2 := Yan he
 have h3 := crit_cnt (split_crit h0 hl b hb e he) (by omega) (by omega)
 have h4 := cntM_mem hb h1 he rfl
 have h5 := cntM_le (i := e.block.toNat) (splitF f).blocks
 exact preB_one _ sp (by omega) hb h1 he rfl
theorem pre_single {b : SBlock} {e : SEdge} (sp : Int) (hb : b ∈ (splitF f).blocks) (h1 : b.term.to = [e]) : preB (splitF f).blocks sp e.block.toNat (splitF f).blocks = [] := by
 have gok := func_ok (split_ok h0 hl)
 have h2 := cntM_one hb h1 (rfl : e.block.toNat = e.block.toNat)
 refine preB_none _ sp (Classical.byContradiction fun hn => ?_)
 obtain ⟨c, hc, h3, x, hx, hxe⟩ := cntM_pos (i := e.block.toNat) (l := (splitF f).blocks) (by omega)
 have hE := gok.edges c hc x hx
 have h4 := Yan hx
 have h5 := crit_cnt (split_crit h0 hl c hc x hx) (by omega) (by omega)
 rw [hxe] at h5
 have h6 := cntM_mem hc h3 hx hxe
 omega
theorem pre_zero (sp : Int) : preB (splitF f).blocks sp 0 (splitF f).blocks = [] := by
 have gok := func_ok (split_ok h0 hl)
 refine preB_none _ sp (Classical.byContradiction fun hn => ?_)
 obtain ⟨c, hc, h3, x, hx, hxe⟩ := cntM_pos (i := 0) (l := (splitF f).blocks) (by omega)
 have hE := gok.edges c hc x hx
 omega
theorem split_args : (∀ b ∈ (splitF f).blocks, ∀ i ∈ b.ins, ∀ a ∈ i.args, a ≠ freshF f.blocks) ∧ (∀ b ∈ (splitF f).blocks, b.term.kind ≠ 1 ∧ b.term.kind ≠ 4 → b.term.arg ≠ freshF f.blocks) ∧
  (∀ b ∈ (splitF f).blocks, ∀ e ∈ b.term.to, ∀ a ∈ e.args, 0 ≤ a ∧ a ≠ freshF f.blocks) ∧ ∀ b ∈ (splitF f).blocks, ∀ v ∈ b.params, 0 ≤ v ∧ v ≠ freshF f.blocks := by
 have hok := func_ok h0
 obtain ⟨f1, f2, f3⟩ := fresh_ok hok
 have hr := range_ok hok (many := (freshF f.blocks).toNat) (by omega)
 have hs := split_is f
 have key : ∀ c ∈ (splitF f).blocks, (∃ b ∈ f.blocks, ∃ to : List SEdge, c = setTo b to ∧ ∀ x ∈ to, x.args = [] ∨ x ∈ b.term.to) ∨ ∃ e, (∃ b ∈ f.blocks, e ∈ b.term.to) ∧ c = jumpB e := fun c hc => by
  obtain ⟨i, hi⟩ := Yk hc
  have hil := (Ye.1 hi).1
  by_cases hin : i < f.blocks.length
  ·obtain ⟨b, hb⟩ := get_of_lt f.blocks i (by omega)
   obtain ⟨to, g1, g2, g3⟩ := hs.old i b hb
   rw [hi] at g1
   injection g1 with g1
   refine .inl ⟨b, Ya hb, to, g1, fun x hx => ?_⟩
   obtain ⟨j, hj⟩ := Yk hx
   have hjl := (Ye.1 hj).1
   obtain ⟨e, he⟩ := get_of_lt b.term.to j (by omega)
   rcases g3 j e he with g | ⟨m, g4, g5⟩
   ·rw [hj] at g
    injection g with g
    subst g
    exact .inr (Ya he)
   ·rw [hj] at g5
    injection g5 with g5
    subst g5
    exact .inl rfl
  ·obtain ⟨⟨k, e⟩, hx⟩ := get_of_lt (splitP f).2 (i - f.blocks.length) (by have := hs.len; omega)
   obtain ⟨g1, b, hb, hm⟩ := hs.new _ k e hx
   rw [show f.blocks.length + (i - f.blocks.length) = i by omega, hi] at g1
   injection g1 with g1
   exact .inr ⟨e, ⟨b, Ya hb, hm⟩, g1⟩
 refine ⟨fun c hc i hi a ha => ?_, fun c hc hk => ?_, fun c hc x hx a ha => ?_, fun c hc v hv => ?_⟩
 ·rcases key c hc with ⟨b, hb, to, rfl, _⟩ | ⟨e, _, rfl⟩
  ·have := hr.args b hb i hi a ha; omega
  ·cases hi
 ·rcases key c hc with ⟨b, hb, to, rfl, _⟩ | ⟨e, _, rfl⟩
  ·have := hr.arg b hb hk; show b.term.arg ≠ _; omega
  ·exact absurd rfl hk.1
 ·rcases key c hc with ⟨b, hb, to, rfl, h⟩ | ⟨e, ⟨b, hb, he⟩, rfl⟩
  ·rcases h x hx with h | h
   ·rw [h] at ha; cases ha
   ·have := hr.eargs b hb x h a ha; omega
  ·have hx : x = e := Yq.1 hx
   subst hx
   have := hr.eargs b hb x he a ha; omega
 ·rcases key c hc with ⟨b, hb, to, rfl, _⟩ | ⟨e, _, rfl⟩
  ·have hm : v ∈ valuesL f.blocks := List.mem_flatMap.2 ⟨b, hb, Yab _ hv⟩
   have h1 := values_keys hok v hm
   have h2 := f3 v hm
   omega
  ·cases hv
theorem edge_sem {b c : SBlock} {e : SEdge} (hb : b ∈ (splitF f).blocks) (he : e ∈ b.term.to) (hc : (splitF f).blocks[e.block.toNat]? = some c) {m m' : Vals} (ha : ∀ x, x ≠ freshF f.blocks → vget m' x = vget m x) :
  ∀ x, x ≠ freshF f.blocks → vget (runM m' (seqF (movesOf (splitF f).blocks e) (freshF f.blocks)).1) x = vget (vputs m c.params (takeF m e.args)) x := fun x hx => by
 have gok := func_ok (split_ok h0 hl)
 have hcm := Ya hc
 obtain ⟨_, _, a3, a4⟩ := split_args h0 hl
 have hE := ((endF_ok ((func_iff.1 (split_ok h0 hl)).block b hb).2).edges e he).2.2
 rw [paramsOf_get hc] at hE
 have hnd := (gok.block_params hcm).1
 have hmv : movesOf (splitF f).blocks e = c.params.zip e.args := by unfold movesOf; rw [paramsOf_get hc]
 rw [hmv]
 have hfst : (c.params.zip e.args).map (·.1) = c.params := List.map_fst_zip (by omega)
 have hall : ∀ y ∈ c.params.zip e.args, 0 ≤ y.1 ∧ 0 ≤ y.2 ∧ y.1 ≠ freshF f.blocks ∧ y.2 ≠ freshF f.blocks := fun y hy => by
  obtain ⟨p, a⟩ := y
  obtain ⟨h1, h2⟩ := List.of_mem_zip hy
  have h3 := a4 c hcm p h1
  have h4 := a3 b hb e he a h2
  exact ⟨h3.1, h4.1, h3.2, h4.2⟩
 obtain ⟨s1, s2⟩ := seq_sem (L := c.params.zip e.args) (by rw [hfst]; exact hnd) hall m' x hx
 obtain ⟨t1, t2⟩ := vputs_sem (m := m) (m0 := m) hnd hE.symm x
 by_cases hex : ∃ s, (x, s) ∈ c.params.zip e.args
 ·obtain ⟨s, hs⟩ := hex
  rw [s1 s hs, t1 s hs, ha s (hall _ hs).2.2.2]
 ·have hno : ∀ s, (x, s) ∉ c.params.zip e.args := fun s hs => hex ⟨s, hs⟩
  rw [s2 hno, t2 hno, ha x hx]
end
end Go.SM
end
section
set_option linter.unusedVariables false
set_option linter.unusedSimpArgs false
set_option linter.unusedSectionVars false
namespace Go.SM
open Go.VL
def gU (u : SUnit) (fn : Int) : SFunc := u.fns[fn.toNat]?.getD default
def spU (u : SUnit) (fn : Int) : Int := freshF (gU u fn).blocks
def preU (u : SUnit) (fn k : Int) : List SIns := preB (splitF (gU u fn)).blocks (spU u fn) k.toNat (splitF (gU u fn)).blocks
def AgL (q : Int) (m m' : Vals) : Prop := ∀ x, x ≠ q → vget m' x = vget m x
theorem AgL.put {q : Int} {m m' : Vals} (h : AgL q m m') (k : Int) (v : Val) : AgL q (vput m k v) (vput m' k v) := fun x hx => by
 rw [vget_pt, vget_pt, h x hx]
theorem AgL.take {q : Int} {m m' : Vals} (h : AgL q m m') {l : List Int} (hl : ∀ a ∈ l, a ≠ q) : takeF m' l = takeF m l := Yao fun a ha => h a (hl a ha)
structure FL (u : SUnit) (f f' : MFrame) : Prop where
 fn : f'.fn = f.fn
 block : f'.block = f.block
 to : f'.to = f.to
 at_ : f'.at_ = f.at_ + ((preU u f.fn f.block).length : Nat)
 vals : AgL (spU u f.fn) f.vals f'.vals
inductive SL (u : SUnit) : List MFrame → List MFrame → Prop where
 | nil : SL u [] []
 | cons {f f' : MFrame} {fs fs' : List MFrame} : FL u f f' → SL u fs fs' → SL u (f :: fs) (f' :: fs')
theorem lvU_get (u : SUnit) (k : Nat) : (lvU u).fns[k]? = (u.fns[k]?).map lvF := Yn ..
theorem spl_get (u : SUnit) (k : Nat) : (splitU u).fns[k]? = (u.fns[k]?).map splitF := Yn ..
theorem gU_get {u : SUnit} {fn : Int} {F : SFunc} (h : u.fns[fn.toNat]? = some F) : gU u fn = F := by unfold gU; rw [h]; rfl
theorem blk_v {u : SUnit} {fn k : Int} {F : SFunc} (hF : u.fns[fn.toNat]? = some F) : blockAt (splitU u) fn k = ((splitF F).blocks[k.toNat]?).getD default := by
 unfold blockAt
 rw [spl_get, hF]
 rfl
theorem blk_p {u : SUnit} {fn k : Int} {F : SFunc} {b : SBlock} (hF : u.fns[fn.toNat]? = some F) (hb : (splitF F).blocks[k.toNat]? = some b) : blockAt (lvU u) fn k = blockL (splitF F).blocks (freshF F.blocks) k.toNat b := by
 unfold blockAt
 rw [lvU_get, hF]
 show (((leaveG (splitF F) (freshF F.blocks)).blocks)[k.toNat]?).getD default = _
 rw [leaveG_get, hb]
 rfl
theorem entry_p (u : SUnit) (n : Int) : entryOf (lvU u) n = entryOf (splitU u) n := by
 unfold entryOf
 rw [lvU_get, spl_get]
 cases u.fns[n.toNat]? with
 | none => rfl
 | some F =>
  show paramsOf (leaveG (splitF F) (freshF F.blocks)).blocks 0 = paramsOf (splitF F).blocks 0
  unfold paramsOf
  rw [leaveG_get]
  cases (splitF F).blocks[(0 : Int).toNat]? with
  | none => rfl
  | some b => rfl
theorem entered_p (u : SUnit) (n : Int) (args : List Val) (to : Int) : entered (lvU u) n args to = entered (splitU u) n args to := by
 unfold entered
 rw [entry_p]
theorem copy_step {p : SUnit} {f' : MFrame} {fs' : List MFrame} {M : Mach} {d : Int} {c : SBlock} {x : Mv} (hc : blockAt p f'.fn f'.block = c) (h0 : 0 ≤ f'.at_) (hi : c.ins[f'.at_.toNat]? = some (mvI x)) :
  stepF p (addL d (wst (f' :: fs') M)) = addL d (wst ({ f' with at_ := f'.at_ + 1, vals := vput f'.vals x.1 (vget f'.vals x.2) } :: fs') M) := by
 have hl := (Ye.1 hi).1
 unfold stepF
 show (if f'.at_ = ((blockAt p f'.fn f'.block).ins.length : Int) then _ else insF p { f' with at_ := f'.at_ + 1 } ((blockAt p f'.fn f'.block).ins[f'.at_.toNat]?.getD default) fs' (addL d (wst ({ f' with at_ := f'.at_ + 1 } :: fs') M))) = _
 rw [hc, if_neg (by omega), hi]
 show insF p { f' with at_ := f'.at_ + 1 } (mvI x) fs' _ = _
 unfold insF execF mvI
 dsimp only
 rw [if_neg (by decide), if_neg (by decide), if_neg (by decide), if_neg (by decide), if_neg (by decide), if_neg (by decide), if_neg (by decide), if_neg (by decide), if_pos rfl]
 rfl
theorem copy_run {p : SUnit} {M : Mach} (ho : M.over = false) (hs : M.short = false) {c : SBlock} {rest : List SIns} : ∀ (l : List Mv) (f' : MFrame) (fs' : List MFrame) (d : Int) (N : Nat), blockAt p f'.fn f'.block = c → 0 ≤ f'.at_ → c.ins.drop f'.at_.toNat = l.map mvI ++ rest → (l.length : Int) ≤ M.left + d →
  goF p (N + l.length) (addL d (wst (f' :: fs') M)) = goF p N (addL (d - (l.length : Nat)) (wst ({ f' with at_ := f'.at_ + (l.length : Nat), vals := runM f'.vals l } :: fs') M))
 | [], f', fs', d, N, _, _, _, _ => by
  show goF p N (addL d (wst (f' :: fs') M)) = goF p N (addL (d - 0) (wst ({ f' with at_ := f'.at_ + 0, vals := f'.vals } :: fs') M))
  rw [Int.sub_zero, Int.add_zero]
 | x :: l, f', fs', d, N, hc, h0, hd, hl => by
  rw [Yh] at hl ⊢
  have hi : c.ins[f'.at_.toNat]? = some (mvI x) := by
   have h9 : (c.ins.drop f'.at_.toNat)[0]? = some (mvI x) := by rw [hd]; rfl
   rw [Yv, Yaq] at h9
   exact h9
  have hd2 : c.ins.drop (f'.at_ + 1).toNat = l.map mvI ++ rest := by
   have h9 : (c.ins.drop f'.at_.toNat).drop 1 = l.map mvI ++ rest := by rw [hd]; rfl
   rw [List.drop_drop] at h9
   rw [show (f'.at_ + 1).toNat = f'.at_.toNat + 1 by omega]
   exact h9
  have hp : payF 1 (addL d (wst (f' :: fs') M)) = addL (d - 1) (wst (f' :: fs') M) := by
   unfold payF
   rw [if_neg (by show ¬ M.left + d < 1; omega)]
   show ({ addL d (wst (f' :: fs') M) with left := M.left + d - 1 } : Mach) = { addL d (wst (f' :: fs') M) with left := M.left + (d - 1) }
   rw [show M.left + d - 1 = M.left + (d - 1) by omega]
  rw [show N + (l.length + 1) = (N + l.length) + 1 by omega, goF_step (by exact ho) _ (by rw [hp]; exact hs), hp, copy_step hc h0 hi]
  have h := copy_run ho hs l { f' with at_ := f'.at_ + 1, vals := vput f'.vals x.1 (vget f'.vals x.2) } fs' (d - 1) N hc (by show 0 ≤ f'.at_ + 1; omega) hd2 (by omega)
  rw [h]
  have e1 : d - 1 - ((l.length : Nat) : Int) = d - ((l.length + 1 : Nat) : Int) := by omega
  have e2 : f'.at_ + 1 + ((l.length : Nat) : Int) = f'.at_ + ((l.length + 1 : Nat) : Int) := by omega
  rw [e1]
  show goF p N (addL _ (wst ({ f' with at_ := f'.at_ + 1 + ((l.length : Nat) : Int), vals := runM f'.vals (x :: l) } :: fs') M)) = _
  rw [e2]
theorem insN_mem : ∀ {l : List SBlock} {b : SBlock}, b ∈ l → b.ins.length ≤ insN l
 | [], b, h => by cases h
 | c :: l, b, h => by
  rw [insN]
  rcases Yd.1 h with rfl | h
  ·omega
  ·have := insN_mem h; omega
theorem insN_le2 {c : Nat} : ∀ {l : List SBlock}, (∀ b ∈ l, b.ins.length ≤ c) → insN l ≤ l.length * c
 | [], _ => Yar _
 | b :: l, h => by
  have h1 := h b (Yb ..)
  have h2 := insN_le2 fun x hx => h x (Yc _ hx)
  rw [insN, Yh, Nat.succ_mul]
  omega
theorem insH_len {bs : List SBlock} {sp : Int} {i : Nat} (hp : ∀ e : SEdge, (copiesF bs e sp).length ≤ 8192) : ∀ l : List SEdge, (insH bs sp i l).length ≤ l.length * 8192
 | [] => by simp [insH]
 | e :: l => by
  have h1 := insH_len (i := i) hp l
  have h2 := hp e
  rw [insH, Yg, Yh, Nat.succ_mul]
  split
  ·omega
  ·rw [Yae, Yaq]; exact Yau h1 (Nat.le_add_right _ _)
set_option maxRecDepth 100000 in
theorem preB_len {bs : List SBlock} {sp : Int} {i : Nat} (hp : ∀ e : SEdge, (copiesF bs e sp).length ≤ 8192) : ∀ l : List SBlock, (∀ b ∈ l, b.term.to.length ≤ 257) → (preB bs sp i l).length ≤ l.length * 2105344
 | [], _ => by simp [preB]
 | b :: l, h => by
  have h1 := preB_len (i := i) hp l fun x hx => h x (Yc _ hx)
  have h2 := insH_len (i := i) hp b.term.to
  have h3 := h b (Yb ..)
  rw [preB, Yg, Yh, Nat.succ_mul]
  split
  ·rw [Yae, Yaq]; exact Yau h1 (Nat.le_add_right _ _)
  ·omega
section
variable {u : SUnit} (hu : unitF u = 0) (hS : SmallF u) (hM : mcheckF (lvU u) = 0)
include hu
theorem fn_ok {F : SFunc} {k : Nat} (hF : u.fns[k]? = some F) : funcF F = 0 := fns_ok hu F (Ya hF)
include hS
theorem params_len {F : SFunc} {k : Nat} (hF : u.fns[k]? = some F) (t : Int) : (paramsOf (splitF F).blocks t).length ≤ 4096 := by
 have gok := func_ok (split_ok (fn_ok hu hF) (hS F (Ya hF)))
 cases h : (splitF F).blocks[t.toNat]? with
 | none =>
  unfold paramsOf
  rw [h]
  exact Yar _
 | some c =>
  rw [paramsOf_get h]
  exact (gok.block_params (Ya h)).2.2
theorem pre0 (n : Int) : preU u n 0 = [] := by
 unfold preU spU
 cases h : u.fns[n.toNat]? with
 | none =>
  have e : gU u n = default := by unfold gU; rw [h]; rfl
  rw [e]
  rfl
 | some F =>
  rw [gU_get h]
  exact pre_zero (fn_ok hu h) (hS F (Ya h)) _
include hM
theorem ins_small {F : SFunc} {k : Nat} (hF : u.fns[k]? = some F) {i : Nat} {b : SBlock} (hb : (splitF F).blocks[i]? = some b) : (blockL (splitF F).blocks (freshF F.blocks) i b).ins.length ≤ 4096 := by
 have h0 := fn_ok hu hF
 have hl := hS F (Ya hF)
 have gok := func_ok (split_ok h0 hl)
 have hcp : ∀ e : SEdge, (copiesF (splitF F).blocks e (freshF F.blocks)).length ≤ 8192 := fun e => by
  have h1 := copies_len (splitF F).blocks e (freshF F.blocks)
  have h2 := params_len hu hS hF e.block
  omega
 have hP : mfuncF (lvF F) = 0 := by
  unfold mcheckF at hM
  split at hM
  ·cases hM
  ·split at hM
   ·cases hM
   ·split at hM
    ·cases hM
    ·split at hM
     ·rename_i h4; exact absurd hM h4
     ·rename_i h4
      exact firstE_ok (Decidable.not_not.1 h4) (lvF F) (Yf.2 ⟨F, Ya hF, rfl⟩)
 have hall : ∀ c ∈ (lvF F).blocks, c.ins.length ≤ 128 * 2105344 + 1024 + 8192 := fun c hc => by
  obtain ⟨j, hj⟩ := Yk hc
  unfold lvF at hj
  rw [leaveG_get] at hj
  cases hbj : (splitF F).blocks[j]? with
  | none => rw [hbj] at hj; cases hj
  | some bj =>
   rw [hbj] at hj
   injection hj with hj
   subst hj
   have h1 := preB_len (bs := (splitF F).blocks) (sp := freshF F.blocks) (i := j) hcp (splitF F).blocks fun x hx => term_edges gok hx
   have h2 := insN_mem (Ya hbj)
   have h3 := (func_iff.1 (split_ok h0 hl)).ins
   have h4 : (postT (splitF F).blocks (freshF F.blocks) bj.term).length ≤ 8192 := by
    unfold postT
    split
    ·rename_i h1
     obtain ⟨e, he⟩ := Yam.1 h1
     rw [he]
     have := hcp e
     simpa using this
    ·exact Yar _
   show (preB (splitF F).blocks (freshF F.blocks) j (splitF F).blocks ++ bj.ins ++ postT (splitF F).blocks (freshF F.blocks) bj.term).length ≤ _
   rw [Yg, Yg]
   have h5 := gok.len
   have h6 := Nat.mul_le_mul_right 2105344 h5
   omega
 have hlen : (lvF F).blocks.length ≤ 128 := by
  have := gok.len
  have h9 : (lvF F).blocks.length = (splitF F).blocks.length := leaveG_len _ _
  omega
 have hN := insN_le2 hall
 have hN2 : insN (lvF F).blocks ≤ 128 * (128 * 2105344 + 1024 + 8192) := Yau hN (Nat.mul_le_mul_right _ hlen)
 have hc := count_eq (lvF F).blocks 0 (Yaw _) (by omega)
 have h4096 : insN (lvF F).blocks ≤ 4096 := by
  unfold mfuncF at hP
  split at hP
  ·cases hP
  ·split at hP
   ·cases hP
   ·rename_i h2
    rw [hc] at h2
    omega
 have hmem : (blockL (splitF F).blocks (freshF F.blocks) i b) ∈ (lvF F).blocks := by
  refine Ya (i := i) ?_
  show ((leaveG (splitF F) (freshF F.blocks)).blocks)[i]? = _
  rw [leaveG_get, hb]
  rfl
 exact Yau (insN_mem hmem) h4096
end
end Go.SM
end
section
set_option linter.unusedVariables false
set_option linter.unusedSimpArgs false
set_option linter.unusedSectionVars false
namespace Go.SM
open Go.VL
def up1 (M : Mach) : Mach := { M with left := M.left + 1 }
theorem first_step {p : SUnit} {M : Mach} {S' : List MFrame} {d : Int} (ho : M.over = false) (hs : M.short = false) (hd : 0 ≤ M.left + d) (N : Nat) : goF p (N + 1) (addL d (wst S' (up1 M))) = goF p N (stepF p (addL d (wst S' M))) := by
 have hp : payF 1 (addL d (wst S' (up1 M))) = addL d (wst S' M) := by
  unfold payF
  rw [if_neg (by show ¬ M.left + 1 + d < 1; omega)]
  show ({ addL d (wst S' M) with left := M.left + 1 + d - 1 } : Mach) = { addL d (wst S' M) with left := M.left + d }
  rw [show M.left + 1 + d - 1 = M.left + d by omega]
 rw [goF_step (by exact ho) _ (by rw [hp]; exact hs), hp]
theorem mok_split {u : SUnit} {M : Mach} (h : MOk u M) : MOk (splitU u) M := by
 have hl : (splitU u).fns.length = u.fns.length := Yj ..
 refine ⟨fun f hf => ?_, by rw [hl]; exact h.heap, h.out, h.left0, h.left⟩
 obtain ⟨h1, h2, ⟨F, b, hF, hb, h3, h4⟩, h5⟩ := h.frames f hf
 obtain ⟨to, g1, _⟩ := (split_is F).old _ b hb
 exact ⟨h1, h2, ⟨splitF F, setTo b to, by rw [spl_get, hF]; rfl, g1, h3, h4⟩, by rw [hl]; exact h5⟩
section
variable {u : SUnit} (hu : unitF u = 0) (hS : SmallF u) (hM : mcheckF (lvU u) = 0)
include hu hS
theorem params_p {fn k : Int} {F : SFunc} (hF : u.fns[fn.toNat]? = some F) {b : SBlock} (h1 : 1 ≤ k) (hb : (splitF F).blocks[k.toNat]? = some b) : (blockAt (lvU u) fn k).params = [] := by
 rw [blk_p hF hb]
 exact if_pos (by omega)
include hM
theorem step_lv {M : Mach} {S' : List MFrame} (hMv : MOk (splitU u) M) (hSL : SL u M.stack S') (ho : M.over = false) (hs : M.short = false) (hs2 : (stepF (splitU u) M).short = false) (hl2 : 0 ≤ (stepF (splitU u) M).left) (h5 : ¬ ((stepF (splitU u) M).over = true ∧ (stepF (splitU u) M).fin = 5)) :
    ∃ (c : Nat) (S'' : List MFrame), c ≤ 4096 ∧ (∀ g gs, (stepF (splitU u) M).stack = g :: gs → (blockAt (splitU u) g.fn g.block).params = [] → c = 0) ∧ SL u (stepF (splitU u) M).stack S'' ∧
      ∀ (d : Int) (N : Nat), (c : Int) ≤ d → goF (lvU u) (N + c + 1) (addL d (wst S' (up1 M))) = goF (lvU u) N (addL (d - (c : Nat)) (wst S'' (stepF (splitU u) M))) := by
  have hl := hMv.left0
  -- a single step suffices
  have one : ∀ S'' : List MFrame, SL u (stepF (splitU u) M).stack S'' → (∀ d : Int, 0 ≤ d → stepF (lvU u) (addL d (wst S' M)) = addL d (wst S'' (stepF (splitU u) M))) → ∃ (c : Nat) (S'' : List MFrame), c ≤ 4096 ∧ (∀ g gs, (stepF (splitU u) M).stack = g :: gs → (blockAt (splitU u) g.fn g.block).params = [] → c = 0) ∧ SL u (stepF (splitU u) M).stack S'' ∧
      ∀ (d : Int) (N : Nat), (c : Int) ≤ d → goF (lvU u) (N + c + 1) (addL d (wst S' (up1 M))) = goF (lvU u) N (addL (d - (c : Nat)) (wst S'' (stepF (splitU u) M))) := fun S'' h1 h2 =>
    ⟨0, S'', Yar _, fun _ _ _ _ => rfl, h1, fun d N hd => by
      have hd : (0 : Int) ≤ d := hd
      rw [Yaq, first_step ho hs (by omega), h2 d hd]
      show _ = goF (lvU u) N (addL (d - 0) _)
      rw [Int.sub_zero]⟩
  cases hst : M.stack with
  | nil =>
    rw [hst] at hSL
    cases hSL
    have e : stepF (splitU u) M = M := by unfold stepF; rw [hst]
    refine one [] (by rw [e, hst]; exact .nil) fun d hd => ?_
    rw [e]
    rfl
  | cons f fs =>
    rw [hst] at hSL
    cases hSL with
    | @cons _ f' _ fs' hf hfs =>
    obtain ⟨hf0, hb0, ⟨G0, b, hG, hb, ha0, ha1⟩, _⟩ := hMv.frames f (by rw [hst]; exact Yb ..)
    rw [spl_get] at hG
    obtain ⟨F, hF, hFG⟩ : ∃ F, u.fns[f.fn.toNat]? = some F ∧ splitF F = G0 := by
      cases hx : u.fns[f.fn.toNat]? with
      | none => rw [hx] at hG; cases hG
      | some F => rw [hx] at hG; injection hG with hG; exact ⟨F, rfl, hG⟩
    subst hFG
    have hFm := Ya hF
    have hbm := Ya hb
    have h0 := fn_ok hu hF
    have hlF := hS F hFm
    have g0 := split_ok h0 hlF
    have gok := func_ok g0
    have fi := func_iff.1 g0
    have hE := endF_ok (fi.block b hbm).2
    obtain ⟨a1, a2, a3, a4⟩ := split_args h0 hlF
    have esp : spU u f.fn = freshF F.blocks := by unfold spU; rw [gU_get hF]
    have epre : ∀ k : Int, preU u f.fn k = preB (splitF F).blocks (freshF F.blocks) k.toNat (splitF F).blocks := fun k => by unfold preU; rw [esp, gU_get hF]
    have eb : blockAt (splitU u) f.fn f.block = b := by rw [blk_v hF, hb]; rfl
    have ep : blockAt (lvU u) f.fn f.block = blockL (splitF F).blocks (freshF F.blocks) f.block.toNat b := blk_p hF hb
    have hsmall := ins_small hu hS hM hF hb
    have hat := hf.at_
    rw [epre] at hat
    have hvals := hf.vals
    rw [esp] at hvals
    have hins : (blockL (splitF F).blocks (freshF F.blocks) f.block.toNat b).ins = preB (splitF F).blocks (freshF F.blocks) f.block.toNat (splitF F).blocks ++ b.ins ++ postT (splitF F).blocks (freshF F.blocks) b.term := rfl
    obtain ⟨pre, hpre⟩ : ∃ x, x = preB (splitF F).blocks (freshF F.blocks) f.block.toNat (splitF F).blocks := ⟨_, rfl⟩
    rw [← hpre] at hat hins
    have hstep : stepF (splitU u) M = if f.at_ = (b.ins.length : Int) then termF (splitU u) f b.term fs M else insF (splitU u) { f with at_ := f.at_ + 1 } (b.ins[f.at_.toNat]?.getD default) fs (wst ({ f with at_ := f.at_ + 1 } :: fs) M) := by
      unfold stepF
      rw [hst]
      dsimp only
      rw [eb]
      rfl
    have hstep2 : ∀ d, stepF (lvU u) (addL d (wst (f' :: fs') M)) = if f'.at_ = ((blockL (splitF F).blocks (freshF F.blocks) f.block.toNat b).ins.length : Int) then termF (lvU u) f' (termL b.term) fs' (addL d (wst (f' :: fs') M)) else insF (lvU u) { f' with at_ := f'.at_ + 1 } ((blockL (splitF F).blocks (freshF F.blocks) f.block.toNat b).ins[f'.at_.toNat]?.getD default) fs' (addL d (wst ({ f' with at_ := f'.at_ + 1 } :: fs') M)) := fun d => by
      unfold stepF
      show (if f'.at_ = ((blockAt (lvU u) f'.fn f'.block).ins.length : Int) then termF (lvU u) f' (blockAt (lvU u) f'.fn f'.block).term fs' _ else _) = _
      rw [hf.fn, hf.block, ep]
      rfl
    by_cases h1 : f.at_ = (b.ins.length : Int)
    · -- the end of a block
      rw [if_pos h1] at hstep
      have hT : TermOk (splitF F) b.term := ((unit_of (split_unit hu hS)).u).term (splitF F) (Ya (by rw [spl_get, hF]; rfl)) b hbm
      by_cases hone : b.term.to.length = 1
      · -- one edge
        obtain ⟨e, he⟩ := Yam.1 hone
        have hem : e ∈ b.term.to := by rw [he]; exact Yq.2 rfl
        obtain ⟨e1, e2, e3⟩ := hE.edges e hem
        obtain ⟨c, hc⟩ := get_of_lt (splitF F).blocks e.block.toNat (by omega)
        have hpost : postT (splitF F).blocks (freshF F.blocks) b.term = (seqF (movesOf (splitF F).blocks e) (freshF F.blocks)).1.map mvI := by
          unfold postT
          rw [if_pos hone, he]
          show copiesF _ _ _ ++ [] = _
          rw [Yl]
          rfl
        rw [hpost] at hins
        obtain ⟨l, hll⟩ : ∃ l, l = (seqF (movesOf (splitF F).blocks e) (freshF F.blocks)).1 := ⟨_, rfl⟩
        rw [← hll] at hins
        have hll4 : l.length ≤ 4096 := by
          rw [hins, Yg, Yj] at hsmall
          omega
        have hk : b.term.kind = 1 ∨ b.term.kind = 3 := by
          have hsh := hE.shape
          unfold shapeF at hsh
          by_cases k0 : b.term.kind = 0
          · rw [if_pos k0, hone] at hsh; simp at hsh
          · rw [if_neg k0] at hsh
            by_cases k1 : b.term.kind = 1
            · exact .inl k1
            · rw [if_neg k1] at hsh
              by_cases k2 : b.term.kind = 2
              · rw [if_pos k2, hone] at hsh; simp at hsh
              · rw [if_neg k2] at hsh
                by_cases k3 : b.term.kind = 3
                · exact .inr k3
                · rw [if_neg k3] at hsh
                  split at hsh
                  · rw [hone] at hsh; simp at hsh
                  · cases hsh
        have hgo : stepF (splitU u) M = { M with stack := followF (splitU u) f e :: fs } := by
          rw [hstep] at h5 ⊢
          unfold termF at h5 ⊢
          rcases hk with hk | hk
          · rw [if_neg (by omega), if_pos hk]
            show ({ M with stack := followF (splitU u) f ((b.term.to[0]?).getD default) :: fs } : Mach) = _
            rw [he]
            rfl
          · rw [if_neg (by omega), if_neg (by omega), if_neg (by omega)] at h5 ⊢
            by_cases kw : (vget f.vals b.term.arg).kind ≠ 0
            · rw [if_pos kw] at h5
              exact absurd ⟨rfl, rfl⟩ h5
            · rw [if_neg kw]
              have hch := choice_lt hT (vget f.vals b.term.arg).n (by omega) (by omega) (by omega)
              have hz : (choiceF b.term (vget f.vals b.term.arg).n).toNat = 0 := by omega
              rw [hz]
              show ({ M with stack := followF (splitU u) f ((b.term.to[0]?).getD default) :: fs } : Mach) = _
              rw [he]
              rfl
        have htL : (termL b.term).kind = 1 ∧ (termL b.term).to = [clrA e] := by
          refine ⟨?_, by rw [termL_to, he]; rfl⟩
          unfold termL
          rcases hk with hk | hk
          · rw [if_neg (fun h => by omega)]; exact hk
          · rw [if_pos ⟨hk, hone⟩]
        have hblk : (blockAt (splitU u) f.fn e.block).params = c.params := by rw [blk_v hF, hc]; rfl
        obtain ⟨f2, hf2⟩ : ∃ f2 : MFrame, f2 = { f' with at_ := f'.at_ + (l.length : Nat), vals := runM f'.vals l } := ⟨_, rfl⟩
        have hsem := edge_sem h0 hlF hbm hem hc (m := f.vals) (m' := f'.vals) hvals
        have hFL : FL u (followF (splitU u) f e) (followF (lvU u) f2 (clrA e)) := by
          refine ⟨by rw [hf2]; exact hf.fn, rfl, by rw [hf2]; exact hf.to, ?_, ?_⟩
          · show (0 : Int) = 0 + ((preU u f.fn e.block).length : Nat)
            rw [epre, pre_single h0 hlF _ hbm he]
            rfl
          · show AgL (spU u f.fn) (vputs f.vals (blockAt (splitU u) f.fn e.block).params (takeF f.vals e.args)) (vputs f2.vals (blockAt (lvU u) f2.fn e.block).params (takeF f2.vals []))
            have e9 : f2.fn = f.fn := by rw [hf2]; exact hf.fn
            rw [e9, params_p hu hS hF e1 hc, hblk, esp]
            show AgL _ _ f2.vals
            rw [hf2, hll]
            exact hsem
        refine ⟨l.length, followF (lvU u) f2 (clrA e) :: fs', hll4, fun g gs hg hgp => ?_, by rw [hgo]; exact .cons hFL hfs, fun d N hd => ?_⟩
        · rw [hgo] at hg
          injection hg with hg _
          rw [← hg] at hgp
          have hgp : (blockAt (splitU u) f.fn e.block).params = [] := hgp
          rw [hblk] at hgp
          have h9 := seqF_len (movesOf (splitF F).blocks e) (freshF F.blocks)
          have h8 := moves_len (splitF F).blocks e
          rw [paramsOf_get hc, hgp] at h8
          rw [hll]
          rw [Yae] at h8
          omega
        · have hrun := copy_run (p := lvU u) (M := up1 M) ho hs (c := blockL (splitF F).blocks (freshF F.blocks) f.block.toNat b) (rest := []) l f' fs' d (N + 1) (by rw [hf.fn, hf.block]; exact ep) (by rw [hat]; omega) (by rw [hins, Yl, hat, h1, List.drop_left' (by rw [Yg]; omega)]) (by show _ ≤ M.left + 1 + d; omega)
          rw [show N + l.length + 1 = N + 1 + l.length by omega, hrun, ← hf2, first_step ho hs (by omega), hgo]
          congr 1
          unfold stepF
          show (if f2.at_ = ((blockAt (lvU u) f2.fn f2.block).ins.length : Int) then termF (lvU u) f2 (blockAt (lvU u) f2.fn f2.block).term fs' _ else _) = _
          have e9 : f2.fn = f.fn := by rw [hf2]; exact hf.fn
          have e8 : f2.block = f.block := by rw [hf2]; exact hf.block
          rw [e9, e8, ep, if_pos (by rw [hf2, hins, Yg, Yg, Yj]; show f'.at_ + _ = _; rw [hat, h1]; omega)]
          show termF (lvU u) f2 (termL b.term) fs' _ = _
          unfold termF
          rw [if_neg (by rw [htL.1]; decide), if_pos htL.1]
          show ({ addL _ (wst (f2 :: fs') M) with stack := followF (lvU u) f2 (((termL b.term).to[0]?).getD default) :: fs' } : Mach) = _
          rw [htL.2]
          rfl
      · -- several edges, or none
        have hpost : postT (splitF F).blocks (freshF F.blocks) b.term = [] := by unfold postT; rw [if_neg hone]
        rw [hpost, Yl] at hins
        have hatE : f'.at_ = ((blockL (splitF F).blocks (freshF F.blocks) f.block.toNat b).ins.length : Int) := by rw [hins, hat, h1, Yg]; omega
        have htl : termL b.term = ⟨b.term.kind, b.term.arg, b.term.n, b.term.cases, b.term.to.map clrA⟩ := by unfold termL; rw [if_neg (fun h => hone h.2)]
        have hstep3 : ∀ d, stepF (lvU u) (addL d (wst (f' :: fs') M)) = termF (lvU u) f' ⟨b.term.kind, b.term.arg, b.term.n, b.term.cases, b.term.to.map clrA⟩ fs' (addL d (wst (f' :: fs') M)) := fun d => by rw [hstep2, if_pos hatE, htl]
        have hsr : SL u (f :: fs) (f' :: fs') := .cons hf hfs
        have same : ∀ X : Mach, stepF (splitU u) M = X → X.stack = f :: fs → (∀ d, stepF (lvU u) (addL d (wst (f' :: fs') M)) = addL d (wst (f' :: fs') X)) → ∃ (c : Nat) (S'' : List MFrame), c ≤ 4096 ∧ (∀ g gs, (stepF (splitU u) M).stack = g :: gs → (blockAt (splitU u) g.fn g.block).params = [] → c = 0) ∧ SL u (stepF (splitU u) M).stack S'' ∧
            ∀ (d : Int) (N : Nat), (c : Int) ≤ d → goF (lvU u) (N + c + 1) (addL d (wst (f' :: fs') (up1 M))) = goF (lvU u) N (addL (d - (c : Nat)) (wst S'' (stepF (splitU u) M))) := fun X hX hXs hXd => one (f' :: fs') (by rw [hX, hXs]; exact hsr) fun d _ => by rw [hXd, hX]
        have go : ∀ k : Nat, k < b.term.to.length → stepF (splitU u) M = { M with stack := followF (splitU u) f (edgeAt b.term k) :: fs } → (∀ d, stepF (lvU u) (addL d (wst (f' :: fs') M)) = { addL d (wst (f' :: fs') M) with stack := followF (lvU u) f' (((b.term.to.map clrA)[k]?).getD default) :: fs' }) → ∃ (c : Nat) (S'' : List MFrame), c ≤ 4096 ∧ (∀ g gs, (stepF (splitU u) M).stack = g :: gs → (blockAt (splitU u) g.fn g.block).params = [] → c = 0) ∧ SL u (stepF (splitU u) M).stack S'' ∧
            ∀ (d : Int) (N : Nat), (c : Int) ≤ d → goF (lvU u) (N + c + 1) (addL d (wst (f' :: fs') (up1 M))) = goF (lvU u) N (addL (d - (c : Nat)) (wst S'' (stepF (splitU u) M))) := fun k hk hgo hpd => by
          obtain ⟨e, he⟩ := get_of_lt b.term.to k (by omega)
          have ee : edgeAt b.term k = e := by unfold edgeAt; rw [he]; rfl
          have ee2 : ((b.term.to.map clrA)[k]?).getD default = clrA e := by rw [Yn, he]; rfl
          rw [ee] at hgo
          have hem := Ya he
          obtain ⟨e1, e2, e3⟩ := hE.edges e hem
          obtain ⟨c, hc⟩ := get_of_lt (splitF F).blocks e.block.toNat (by omega)
          have hblk : (blockAt (splitU u) f.fn e.block).params = c.params := by rw [blk_v hF, hc]; rfl
          have hpre2 := pre_multi h0 hlF (freshF F.blocks) hbm hone hem
          obtain ⟨l, hll⟩ : ∃ l, l = (seqF (movesOf (splitF F).blocks e) (freshF F.blocks)).1 := ⟨_, rfl⟩
          have hpre3 : preB (splitF F).blocks (freshF F.blocks) e.block.toNat (splitF F).blocks = l.map mvI := by rw [hpre2, hll]; rfl
          have hsmall2 := ins_small hu hS hM hF hc
          have hinsc : (blockL (splitF F).blocks (freshF F.blocks) e.block.toNat c).ins = l.map mvI ++ (c.ins ++ postT (splitF F).blocks (freshF F.blocks) c.term) := by
            show preB _ _ _ _ ++ c.ins ++ _ = _
            rw [hpre3, Yi]
          have hll4 : l.length ≤ 4096 := by
            rw [hinsc, Yg, Yj] at hsmall2
            omega
          obtain ⟨f1, hf1⟩ : ∃ f1 : MFrame, f1 = followF (lvU u) f' (clrA e) := ⟨_, rfl⟩
          have hf1v : f1.vals = f'.vals := by
            rw [hf1]
            show vputs f'.vals (blockAt (lvU u) f'.fn e.block).params (takeF f'.vals []) = _
            rw [hf.fn, params_p hu hS hF e1 hc]
            rfl
          have hf1f : f1.fn = f.fn := by rw [hf1]; exact hf.fn
          have hf1b : f1.block = e.block := by rw [hf1]; rfl
          have hf1a : f1.at_ = 0 := by rw [hf1]; rfl
          have hsem := edge_sem h0 hlF hbm hem hc (m := f.vals) (m' := f'.vals) hvals
          have hFL : FL u (followF (splitU u) f e) { f1 with at_ := f1.at_ + (l.length : Nat), vals := runM f1.vals l } := by
            refine ⟨hf1f, hf1b, by show f1.to = f.to; rw [hf1]; exact hf.to, ?_, ?_⟩
            · show f1.at_ + (l.length : Nat) = 0 + ((preU u f.fn e.block).length : Nat)
              rw [epre, hpre3, hf1a, Yj]
            · show AgL (spU u f.fn) (vputs f.vals (blockAt (splitU u) f.fn e.block).params (takeF f.vals e.args)) (runM f1.vals l)
              rw [hblk, esp, hf1v, hll]
              exact hsem
          refine ⟨l.length, _, hll4, fun g gs hg hgp => ?_, by rw [hgo]; exact .cons hFL hfs, fun d N hd => ?_⟩
          · rw [hgo] at hg
            injection hg with hg _
            rw [← hg] at hgp
            have hgp : (blockAt (splitU u) f.fn e.block).params = [] := hgp
            rw [hblk] at hgp
            have h9 := seqF_len (movesOf (splitF F).blocks e) (freshF F.blocks)
            have h8 := moves_len (splitF F).blocks e
            rw [paramsOf_get hc, hgp] at h8
            rw [hll]
            rw [Yae] at h8
            omega
          · rw [first_step ho hs (by omega), hpd d, ee2, ← hf1, hgo]
            have hrun := copy_run (p := lvU u) (M := M) ho hs (c := blockL (splitF F).blocks (freshF F.blocks) e.block.toNat c) (rest := c.ins ++ postT (splitF F).blocks (freshF F.blocks) c.term) l f1 fs' d N (by rw [hf1f, hf1b]; exact blk_p hF hc) (by rw [hf1a]; exact Yaw _) (by rw [hinsc, hf1a]; rfl) (by omega)
            exact hrun
        have harg : b.term.kind ≠ 1 ∧ b.term.kind ≠ 4 → vget f'.vals b.term.arg = vget f.vals b.term.arg := fun hk => hvals _ (a2 b hbm hk)
        unfold termF at hstep hstep3
        dsimp only at hstep3
        by_cases k4 : b.term.kind = 4
        · rw [if_pos k4] at hstep
          refine same _ hstep hst fun d => ?_
          rw [hstep3, if_pos k4]
          rfl
        · rw [if_neg k4] at hstep
          by_cases k1 : b.term.kind = 1
          · rw [if_pos k1] at hstep
            exact go 0 (by have := hT.one k1; omega) hstep fun d => by rw [hstep3, if_neg k4, if_pos k1]; rfl
          · rw [if_neg k1] at hstep
            by_cases k0 : b.term.kind = 0
            · rw [if_pos k0] at hstep
              have hpd : ∀ d, stepF (lvU u) (addL d (wst (f' :: fs') M)) = leaveF f' (vget f.vals b.term.arg) fs' (addL d (wst (f' :: fs') M)) := fun d => by rw [hstep3, if_neg k4, if_neg k1, if_pos k0, harg ⟨k1, k4⟩]
              cases hfs with
              | nil =>
                refine one [] (by rw [hstep]; exact .nil) fun d _ => ?_
                rw [hpd, hstep]
                rfl
              | @cons g g' gs gs' hg hgs =>
                refine one ({ g' with vals := vput g'.vals f'.to (vget f.vals b.term.arg) } :: gs') (by rw [hstep]; exact .cons ⟨hg.fn, hg.block, hg.to, hg.at_, by show AgL (spU u g.fn) (vput g.vals f.to _) (vput g'.vals f'.to _); rw [hf.to]; exact hg.vals.put _ _⟩ hgs) fun d _ => ?_
                rw [hpd, hstep]
                rfl
            · rw [if_neg k0] at hstep
              by_cases kw : (vget f.vals b.term.arg).kind ≠ 0
              · rw [if_pos kw] at hstep
                exact absurd ⟨by rw [hstep]; rfl, by rw [hstep]; rfl⟩ h5
              · rw [if_neg kw] at hstep
                have hch := choice_lt hT (vget f.vals b.term.arg).n k0 k1 k4
                exact go _ (by omega) hstep fun d => by rw [hstep3, if_neg k4, if_neg k1, if_neg k0, harg ⟨k1, k4⟩, if_neg kw]; rfl
    · -- an instruction
      rw [if_neg h1] at hstep
      obtain ⟨i, hi⟩ := get_of_lt b.ins f.at_.toNat (by omega)
      have him := Ya hi
      rw [hi, Option.getD_some] at hstep
      have hci : (blockL (splitF F).blocks (freshF F.blocks) f.block.toNat b).ins[f'.at_.toNat]? = some i := by
        rw [hins, Yi, Yad (by rw [hat]; omega), Yx (by rw [hat]; omega), hat, show (f.at_ + (pre.length : Nat)).toNat - pre.length = f.at_.toNat by omega]
        exact hi
      have hstep3 : ∀ d, stepF (lvU u) (addL d (wst (f' :: fs') M)) = insF (lvU u) { f' with at_ := f'.at_ + 1 } i fs' (addL d (wst ({ f' with at_ := f'.at_ + 1 } :: fs') M)) := fun d => by
        rw [hstep2, if_neg (by have := (Ye.1 hci).1; omega), hci]
        rfl
      have hargs : takeF f'.vals i.args = takeF f.vals i.args := AgL.take hvals fun a ha => a1 b hbm i him a ha
      have hf1 : FL u { f with at_ := f.at_ + 1 } { f' with at_ := f'.at_ + 1 } := ⟨hf.fn, hf.block, hf.to, by show f'.at_ + 1 = f.at_ + 1 + ((preU u f.fn f.block).length : Nat); rw [hf.at_]; omega, hf.vals⟩
      have ent : ∀ n to, stepF (splitU u) M = enterF (splitU u) n (takeF f.vals i.args) to (wst ({ f with at_ := f.at_ + 1 } :: fs) M) → (∀ d, stepF (lvU u) (addL d (wst (f' :: fs') M)) = enterF (lvU u) n (takeF f.vals i.args) to (addL d (wst ({ f' with at_ := f'.at_ + 1 } :: fs') M))) → ∃ (c : Nat) (S'' : List MFrame), c ≤ 4096 ∧ (∀ g gs, (stepF (splitU u) M).stack = g :: gs → (blockAt (splitU u) g.fn g.block).params = [] → c = 0) ∧ SL u (stepF (splitU u) M).stack S'' ∧
            ∀ (d : Int) (N : Nat), (c : Int) ≤ d → goF (lvU u) (N + c + 1) (addL d (wst (f' :: fs') (up1 M))) = goF (lvU u) N (addL (d - (c : Nat)) (wst S'' (stepF (splitU u) M))) := fun n to hv hpd => by
        refine one (entered (splitU u) n (takeF f.vals i.args) to :: { f' with at_ := f'.at_ + 1 } :: fs') ?_ fun d _ => ?_
        · rw [hv]
          refine .cons ⟨rfl, rfl, rfl, ?_, fun x _ => rfl⟩ (.cons hf1 hfs)
          show (0 : Int) = 0 + ((preU u n 0).length : Nat)
          rw [pre0 hu hS]
          rfl
        · rw [hpd, hv]
          unfold enterF
          rw [entered_p]
          rfl
      unfold insF at hstep hstep3
      dsimp only at hstep hstep3
      by_cases o13 : i.op = 13
      · rw [if_pos o13] at hstep
        exact ent _ _ hstep fun d => by rw [hstep3, hargs, if_pos o13]
      · rw [if_neg o13] at hstep
        by_cases o14 : i.op = 14
        · rw [if_pos o14] at hstep
          by_cases hc : (argAt (takeF f.vals i.args) 0).kind = 2 ∧ (entryOf (splitU u) (argAt (takeF f.vals i.args) 0).n).length = (takeF f.vals i.args).length
          · rw [if_pos hc] at hstep
            exact ent _ _ hstep fun d => by rw [hstep3, hargs, if_neg o13, if_pos o14, entry_p, if_pos hc]
          · rw [if_neg hc] at hstep
            exact absurd ⟨by rw [hstep]; rfl, by rw [hstep]; rfl⟩ h5
        · rw [if_neg o14] at hstep
          have e1 := exec_st i (takeF f.vals i.args) M ({ f with at_ := f.at_ + 1 } :: fs)
          rw [e1] at hstep
          rw [hstep] at hs2 hl2
          have hsx : (execF i (takeF f.vals i.args) M).1.short = false := by
            dsimp only at hs2
            split at hs2 <;> exact hs2
          have hlx : 0 ≤ (execF i (takeF f.vals i.args) M).1.left := by
            dsimp only at hl2
            split at hl2 <;> exact hl2
          have e2 := exec_st i (takeF f.vals i.args) M ({ f' with at_ := f'.at_ + 1 } :: fs')
          refine one ({ f' with at_ := f'.at_ + 1, vals := vput f'.vals i.to (execF i (takeF f.vals i.args) M).2.1 } :: fs') (by rw [hstep]; exact .cons ⟨hf1.fn, hf1.block, hf1.to, hf1.at_, hf.vals.put _ _⟩ hfs) fun d hd => ?_
          have e3 := (exec_addL i (takeF f.vals i.args) (wst ({ f' with at_ := f'.at_ + 1 } :: fs') M) d hs (by rw [e2]; exact hsx) (by show 0 ≤ M.left + d; omega)).1 (by rw [e2]; show 0 ≤ (execF i (takeF f.vals i.args) M).1.left + d; omega)
          rw [hstep3, hargs, if_neg o13, if_neg o14, e3, e2, hstep]
          dsimp only
          by_cases hx : (execF i (takeF f.vals i.args) M).2.2 ≠ 0
          · rw [if_pos hx, if_pos hx]; rfl
          · rw [if_neg hx, if_neg hx]; rfl
end
end Go.SM
end
section
set_option linter.unusedVariables false
set_option linter.unusedSimpArgs false
set_option linter.unusedSectionVars false
namespace Go.SM
open Go.VL
section
variable {u : SUnit} (hu : unitF u = 0) (hS : SmallF u) (hM : mcheckF (lvU u) = 0)
include hu hS hM
theorem go_lv : ∀ (n : Nat) (M : Mach) (d : Int) (S' : List MFrame), M.short = false → M.over = false → Good u M → (goF u n M).over = true → (goF u n M).short = false → (goF u n M).fin ≠ 5 → SL u M.stack S' → 4098 * M.left ≤ d → ∀ N : Nat, 4099 * M.left + 1 ≤ N → ∃ d' S'', goF (lvU u) N (addL d (wst S' M)) = addL d' (wst S'' (goF u n M))
 | 0, M, d, S', hs, ho, hg, hov, _, _, _, _, _, _ => by
  have hov : M.over = true := hov
  rw [ho] at hov
  cases hov
 | n + 1, M, d, S', hs, ho, hg, hov, hsh, hfin, hSL, hd, N, hN => by
  have hU := (unit_of hu).u
  have hV := (unit_of (split_unit hu hS)).u
  cases hp : (payF 1 M).short with
  | true =>
   rw [goF_short ho n hp] at hsh
   rw [hp] at hsh
   cases hsh
  | false =>
   obtain ⟨e1, hl1⟩ := payF_ok hp
   rw [goF_step ho n hp, e1] at hov hsh hfin ⊢
   have hg2 := good_step hU hg ho hl1
   have hM1 : MOk u { M with left := M.left - 1 } := by
    have := hg.1
    exact ⟨this.frames, this.heap, this.out, by show 0 ≤ M.left - 1; omega, by have h9 := this.left; show M.left - 1 + (M.stack.length : Int) ≤ 1000001; omega⟩
   have hcap : M.left - 1 + (M.stack.length : Int) ≤ 1000000 := by have h9 := hg.1.left; omega
   have hs1 : ({ M with left := M.left - 1 } : Mach).short = false := hs
   have ho1 : ({ M with left := M.left - 1 } : Mach).over = false := ho
   have hup : up1 { M with left := M.left - 1 } = M := by
    unfold up1
    show ({ M with left := M.left - 1 + 1 } : Mach) = M
    rw [show M.left - 1 + 1 = M.left by omega]
   have hSL1 : SL u ({ M with left := M.left - 1 } : Mach).stack S' := hSL
   have hcap1 : ({ M with left := M.left - 1 } : Mach).left + (({ M with left := M.left - 1 } : Mach).stack.length : Int) ≤ 1000000 := hcap
   have hl : ({ M with left := M.left - 1 } : Mach).left = M.left - 1 := rfl
   generalize ({ M with left := M.left - 1 } : Mach) = M1 at hov hsh hfin hg2 hM1 hs1 ho1 hup hSL1 hl hcap1 ⊢
   have hs2 : (stepF u M1).short = false := by
    cases hx : (stepF u M1).short with
    | false => rfl
    | true => rw [goF_over (step_short hs1 hx), hx] at hsh; cases hsh
   have h5 : ¬ ((stepF u M1).over = true ∧ (stepF u M1).fin = 5) := fun ⟨h8, h9⟩ => by
    rw [goF_over h8] at hfin
    exact hfin h9
   have hl0 := hg2.1.left0
   have hl2 := step_left u M1
   have hMv := mok_split hM1
   have fin : ∀ (d2 : Int) (S3 : List MFrame) (N2 : Nat), SL u (stepF u M1).stack S3 → 4098 * (stepF u M1).left ≤ d2 → 4099 * (stepF u M1).left + 1 ≤ N2 → ∃ d' S'', goF (lvU u) N2 (addL d2 (wst S3 (stepF u M1))) = addL d' (wst S'' (goF u n (stepF u M1))) := fun d2 S3 N2 hS3 hd2 hN2 => by
    cases ho2 : (stepF u M1).over with
    | true =>
     rw [goF_over ho2, goF_over (M := addL d2 (wst S3 (stepF u M1))) ho2]
     exact ⟨d2, S3, rfl⟩
    | false => exact go_lv n _ d2 S3 hs2 ho2 hg2 hov hsh hfin hS3 hd2 N2 hN2
   rw [← hup]
   rcases step_split hu hM1 with h1 | ⟨S2, h1, hY1, hY2, hY3, hY4, g, gs, hSg, hpar⟩
   ·obtain ⟨c, S3, hc, _, hSL3, hrun⟩ := step_lv hu hS hM hMv hSL1 ho1 hs1 (by rw [h1]; exact hs2) (by rw [h1]; exact hl0) (by rw [h1]; exact h5)
    rw [h1] at hSL3 hrun
    obtain ⟨N0, rfl⟩ : ∃ j, N = j + c + 1 := ⟨N - c - 1, by omega⟩
    rw [hrun d N0 (by omega)]
    exact fin _ _ _ hSL3 (by omega) (by omega)
   ·have hZ : MOk (splitU u) (stepF (splitU u) M1) := step_ok hV hMv hcap1
    obtain ⟨c, S3, hc, hc0, hSL3, hrun⟩ := step_lv hu hS hM hMv hSL1 ho1 hs1 (by rw [h1]; exact hs1) (by rw [h1]; show 0 ≤ M1.left; omega) (by rw [h1]; intro h9; have h8 : M1.over = true := h9.1; rw [ho1] at h8; cases h8)
    have hc0 : c = 0 := hc0 g gs (by rw [h1]; exact hSg) hpar
    subst hc0
    rw [h1] at hSL3 hrun hZ
    have hz : addL 0 (wst S2 M1) = wst S2 M1 := by
     unfold addL
     show ({ wst S2 M1 with left := M1.left + 0 } : Mach) = wst S2 M1
     rw [Int.add_zero]
     rfl
    have hst2 : stepF (splitU u) (wst S2 M1) = stepF u M1 := by
     have h9 := hY4 0
     rw [hz] at h9
     rw [h9]
     unfold addL
     rw [Int.add_zero]
    obtain ⟨c2, S4, hc2, _, hSL4, hrun2⟩ := step_lv hu hS hM hZ hSL3 (by exact ho1) (by exact hs1) (by rw [hst2]; exact hs2) (by rw [hst2]; exact hl0) (by rw [hst2]; exact h5)
    rw [hst2] at hSL4 hrun2
    obtain ⟨N0, rfl⟩ : ∃ j, N = (j + c2 + 1) + 0 + 1 := ⟨N - c2 - 2, by omega⟩
    have h0d : ((0 : Nat) : Int) ≤ d := by omega
    rw [hrun d (N0 + c2 + 1) h0d]
    have e2 : addL (d - ((0 : Nat) : Int)) (wst S3 (wst S2 M1)) = addL (d - 1) (wst S3 (up1 (wst S2 M1))) := by
     show ({ wst S3 M1 with left := M1.left + (d - ((0 : Nat) : Int)) } : Mach) = { wst S3 M1 with left := M1.left + 1 + (d - 1) }
     rw [show M1.left + (d - ((0 : Nat) : Int)) = M1.left + 1 + (d - 1) by omega]
    rw [e2, hrun2 (d - 1) N0 (by omega)]
    exact fin _ _ _ hSL4 (by omega) (by omega)
theorem lv_run (h : (runF u 1500).2.2 = 0) (hfin : (runF u 1500).1.fin ≠ 5) :
  (5000 * ((runF u 1500).2.1 + 1) ≤ 1000000 → (mrunF (lvU u) 1000000).2.2 = 0) ∧ ((mrunF (lvU u) 1000000).2.2 = 0 → (mrunF (lvU u) 1000000).1 = (runF u 1500).1) ∧ ((mrunF (lvU u) 1000000).2.2 = 0 ∨ (mrunF (lvU u) 1000000).2.2 = 13) ∧ 0 ≤ (runF u 1500).2.1 ∧ (runF u 1500).2.1 ≤ 1500 := by
 have hn1 := ((ends_law u 1500).2 h).2.2.2.2
 have hU := (unit_of hu).u
 have e2 : runF u 1500 = performF u 1500 := run_perform hu (by omega) (by omega)
 rw [e2] at h hn1 hfin ⊢
 have hl := (good_go hU (fuel := 1500) (by omega) (by omega) 1501).1.left0
 have h2 : (performF u 1500).2.1 ≤ 1500 := by
  rw [perform_eq]
  split
  ·show (0 : Int) ≤ 1500; decide
  ·show (1500 : Int) - (goF u 1501 (startF u 1500)).left ≤ 1500; omega
 have hpf := (perform_fuel hU (a := 1500) (b := (performF u 1500).2.1) (by omega) (by omega) (by omega) h).1 (Yaw _)
 obtain ⟨n, hn⟩ : ∃ n : Int, n = (performF u 1500).2.1 := ⟨_, rfl⟩
 rw [← hn] at hn1 h2 hpf ⊢
 rw [← hpf] at h hfin ⊢
 rw [perform_eq] at h hfin ⊢
 have hsh : (goF u (n.toNat + 1) (startF u n)).short = false := by
  cases hx : (goF u (n.toNat + 1) (startF u n)).short with
  | false => rfl
  | true => rw [hx, if_pos rfl] at h; cases h
 rw [hsh] at hfin ⊢
 have hfin : (goF u (n.toNat + 1) (startF u n)).fin ≠ 5 := hfin
 have hg := good_start hU (fuel := n) (by omega) (by omega)
 have hov : (goF u (n.toNat + 1) (startF u n)).over = true := goF_end hU _ _ hg (fun _ => rfl) (by show n + 1 ≤ _; omega)
 have hent : entered (lvU u) (lvU u).main [] 0 = entered u u.main [] 0 := by
  show entered (lvU u) u.main [] 0 = _
  rw [entered_p]
  unfold entered
  rw [splitU_entry (fns_ok hu)]
 have hSL : SL u (startF u n).stack [entered u u.main [] 0] := by
  refine .cons ⟨rfl, rfl, rfl, ?_, fun x _ => rfl⟩ .nil
  show (0 : Int) = 0 + ((preU u u.main 0).length : Nat)
  rw [pre0 hu hS]
  rfl
 have key : ∀ b : Int, 4099 * n ≤ b → ∃ d' S'', goF (lvU u) (b.toNat + 1) (startF (lvU u) b) = addL d' (wst S'' (goF u (n.toNat + 1) (startF u n))) := fun b hb => by
  have hst : startF (lvU u) b = addL (b - n) (wst [entered u u.main [] 0] (startF u n)) := by
   unfold startF enterF
   rw [hent]
   show ({ (⟨[], b, false, false, [], 0, 0, []⟩ : Mach) with stack := [entered u u.main [] 0] } : Mach) = { (⟨[], n, false, false, [], 0, 0, []⟩ : Mach) with stack := [entered u u.main [] 0], left := n + (b - n) }
   rw [show n + (b - n) = b by omega]
  rw [hst]
  exact go_lv hu hS hM (n.toNat + 1) (startF u n) (b - n) [entered u u.main [] 0] rfl rfl hg hov hsh hfin hSL (by show 4098 * n ≤ b - n; omega) (b.toNat + 1) (by show 4099 * n + 1 ≤ _; omega)
 have hmr : mrunF (lvU u) 1000000 = performF (lvU u) 1000000 := by
  unfold mrunF
  rw [hM, if_neg (fun e => e rfl), if_neg (by decide)]
 rw [hmr]
 have hP := (mcheck_ok hM).u
 refine ⟨fun hen => ?_, fun hok => ?_, ?_, by omega, h2⟩
 ·obtain ⟨d', S'', hk⟩ := key 1000000 (by omega)
  rw [perform_eq, hk]
  have hsh2 : (addL d' (wst S'' (goF u (n.toNat + 1) (startF u n)))).short = false := hsh
  rw [hsh2]
  rfl
 ·rw [perform_eq] at hok ⊢
  have hsh3 : (goF (lvU u) ((1000000 : Int).toNat + 1) (startF (lvU u) 1000000)).short = false := by
   cases hx : (goF (lvU u) ((1000000 : Int).toNat + 1) (startF (lvU u) 1000000)).short with
   | false => rfl
   | true => rw [hx, if_pos rfl] at hok; cases hok
  have hg3 := good_start hP (fuel := 1000000) (by decide) (by decide)
  have hov3 : (goF (lvU u) ((1000000 : Int).toNat + 1) (startF (lvU u) 1000000)).over = true := goF_end hP _ _ hg3 (fun _ => rfl) (by show (1000000 : Int) + 1 ≤ _; decide)
  have hl3 := (good_go hP (fuel := 1000000) (by decide) (by decide) ((1000000 : Int).toNat + 1)).1.left0
  have hadd := (go_addL (u := lvU u) (d := 6148500) _ _ rfl rfl hov3 hsh3 (by show (0 : Int) ≤ 1000000 + 6148500; decide) ((1000000 + 6148500 : Int).toNat + 1) (by show (1000000 : Int) + 6148500 + 1 ≤ _; decide)).1 (by omega)
  rw [start_addL] at hadd
  obtain ⟨d', S'', hk⟩ := key (1000000 + 6148500) (by omega)
  rw [hk] at hadd
  rw [hsh3]
  have q1 := congrArg Mach.out hadd
  have q2 := congrArg Mach.fin hadd
  have q3 := congrArg Mach.value hadd
  show (⟨_, _, _⟩ : Out) = ⟨_, _, _⟩
  have q1 : (goF u (n.toNat + 1) (startF u n)).out = (goF (lvU u) ((1000000 : Int).toNat + 1) (startF (lvU u) 1000000)).out := q1
  have q2 : (goF u (n.toNat + 1) (startF u n)).fin = (goF (lvU u) ((1000000 : Int).toNat + 1) (startF (lvU u) 1000000)).fin := q2
  have q3 : (goF u (n.toNat + 1) (startF u n)).value = (goF (lvU u) ((1000000 : Int).toNat + 1) (startF (lvU u) 1000000)).value := q3
  rw [← q1, ← q2, ← q3]
 ·rw [perform_eq]
  split
  ·exact .inr rfl
  ·exact .inl rfl
end
end Go.SM
end
section
set_option linter.unusedVariables false
set_option linter.unusedSimpArgs false
namespace Go.SM
open Go.VL
section
variable {n : Int} {v : Vals} {L : Int}
structure LongAt (n : Int) (v : Vals) (i s : Int) : Prop where
 v0 : vget v 0 = .word i
 v1 : vget v 1 = .word n
 v2 : vget v 2 = .word 1
 v3 : vget v 3 = .word s
end
end Go.SM
end
section
set_option linter.unusedVariables false
set_option linter.unusedSimpArgs false
namespace Go.SM
open Go.VL
end Go.SM
end
section
set_option linter.unusedVariables false
set_option linter.unusedSimpArgs false
namespace Go.SM
open Go.VL
end Go.SM
end
section
set_option linter.unusedVariables false
set_option linter.unusedSimpArgs false
set_option linter.unusedSectionVars false
namespace Go.SM
open Go.VL
def mainF (u : SUnit) : SFunc := u.fns[u.main.toNat]?.getD default
def frU (u : SUnit) : Int := freshF (mainF u).blocks
theorem vget_vput (k : Int) (v : Val) (x : Int) : ∀ m : Vals, vget (vput m k v) x = if k = x then v else vget m x
 | [] => by
  show (if k = x then v else vget [] x) = _
  rfl
 | (j, a) :: m => by
  rw [vput]
  by_cases hj : j = k
  ·subst hj
   rw [if_pos rfl, vget, vget]
   by_cases hx : j = x
   ·rw [if_pos hx, if_pos hx]
   ·rw [if_neg hx, if_neg hx, if_neg hx]
  ·rw [if_neg hj, vget, vget_vput k v x m, vget]
   by_cases hx : j = x
   ·rw [if_pos hx, if_neg (by omega), if_pos hx]
   ·rw [if_neg hx, if_neg hx]
def Agree (q : Int → Prop) (m m' : Vals) : Prop := ∀ x, q x → vget m' x = vget m x
theorem Agree.put {q : Int → Prop} {m m' : Vals} (h : Agree q m m') (k : Int) (v : Val) : Agree q (vput m k v) (vput m' k v) := fun x hx => by
 rw [vget_vput, vget_vput, h x hx]
theorem Agree.take {q : Int → Prop} {m m' : Vals} (h : Agree q m m') {l : List Int} (hl : ∀ a ∈ l, q a) : takeF m' l = takeF m l := Yao fun a ha => h a (hl a ha)
def inB (u : SUnit) (f : MFrame) : Prop := f.fn = u.main ∧ f.block = 0
open Classical in
noncomputable def shF (u : SUnit) (f : MFrame) : Int := if inB u f then 1 else 0
def okX (u : SUnit) (f : MFrame) (x : Int) : Prop := f.fn = u.main → x ≠ frU u
structure FR (u : SUnit) (f f' : MFrame) : Prop where
 fn : f'.fn = f.fn
 block : f'.block = f.block
 to : f'.to = f.to
 at_ : f'.at_ = f.at_ + shF u f
 vals : Agree (okX u f) f.vals f'.vals
inductive SR (u : SUnit) : List MFrame → List MFrame → Prop where
 | nil : SR u [] []
 | cons {f f' : MFrame} {fs fs' : List MFrame} : FR u f f' → SR u fs fs' → SR u (f :: fs) (f' :: fs')
inductive PR (u : SUnit) : List MFrame → List MFrame → Prop where
 | mk {f : MFrame} {fs fs' : List MFrame} : inB u f → f.at_ = 0 → SR u fs fs' → PR u (f :: fs) (f :: fs')
section
variable {u : SUnit} {w : Int} (hu : unitF u = 0)
include hu
end
end Go.SM
end
