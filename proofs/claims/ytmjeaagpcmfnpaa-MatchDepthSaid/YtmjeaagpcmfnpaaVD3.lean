/- Patterns: DeleteFunc, agree. -/
import Derived.Test.YtmjeaagpcmfnpaaVD2
set_option linter.unusedVariables false
namespace Go.PM
open Go.VL
def nf (p : Pat) : Bool := !free p
theorem pats_fit (l : List Pat) : ∀ y ∈ l.map patV, y.leaves.length = 4 := fun y hy => by
  obtain ⟨p, _, rfl⟩ := List.mem_map.1 hy
  rw [patV_eq]
  rfl
theorem idxOf_range {α : Type} (p : α → Bool) : ∀ (l : List α), idxOf p l = -1 ∧ l.any p = false ∨ ∃ k x, idxOf p l = (k : Nat) ∧ l[k]? = some x ∧ p x = true ∧ (l.take k).any p = false
  | [] => .inl ⟨rfl, rfl⟩
  | x :: l => by
    by_cases hx : p x = true
    · exact .inr ⟨0, x, by simp [idxOf, hx], by simp, hx, by simp⟩
    · have hx' : p x = false := by simpa using hx
      rcases idxOf_range p l with ⟨h1, h2⟩ | ⟨k, y, h1, h2, h3, h4⟩
      · exact .inl ⟨by simp [idxOf, hx', h1], by simp [hx', h2]⟩
      · refine .inr ⟨k + 1, y, ?_, by simpa using h2, h3, by simp [hx']; simpa using h4⟩
        simp only [idxOf, hx', cond_false, h1]
        rw [if_neg (by omega)]
        omega
structure DelInv (l : List Pat) (i j : Nat) (cur : List Pat) : Prop where
  le : i < j
  le2 : j ≤ l.length
  len : cur.length = l.length
  done : cur.take i = (l.take j).filter nf
  left : cur.drop j = l.drop j
theorem filter_all {l : List Pat} (h : l.any free = false) : l.filter nf = l := by
  rw [List.filter_eq_self]
  intro a ha
  have := List.any_eq_false.1 h a ha
  simp [nf, this]
theorem DelInv.init {l : List Pat} {k : Nat} {x : Pat} (h1 : l[k]? = some x) (h2 : free x = true) (h3 : (l.take k).any free = false) : DelInv l k (k + 1) l := by
  have hk := (List.getElem?_eq_some_iff.1 h1).1
  refine ⟨by omega, by omega, rfl, ?_, rfl⟩
  rw [take_snoc h1, List.filter_append, filter_all h3]
  simp [nf, h2]
theorem DelInv.get {l cur : List Pat} {i j : Nat} {v : Pat} (h : DelInv l i j cur) (hv : l[j]? = some v) : cur[j]? = some v := by
  have h1 : (cur.drop j)[0]? = (l.drop j)[0]? := by rw [h.left]
  rw [List.getElem?_drop, List.getElem?_drop, Nat.add_zero] at h1
  rw [h1, hv]
theorem DelInv.keep {l cur : List Pat} {i j : Nat} {v : Pat} (h : DelInv l i j cur) (hv : l[j]? = some v) (hf : free v = false) : DelInv l (i + 1) (j + 1) (cur.set i v) := by
  have hj := (List.getElem?_eq_some_iff.1 hv).1
  have hi := h.le
  have hl := h.len
  refine ⟨by omega, by omega, by rw [List.length_set]; exact h.len, ?_, ?_⟩
  · rw [take_snoc hv, List.filter_append, ← h.done, List.take_succ_eq_append_getElem (by rw [List.length_set]; omega), List.take_set_of_le (Nat.le_refl _)]
    simp [nf, hf]
  · rw [List.drop_set_of_lt (by omega)]
    have := congrArg (List.drop 1) h.left
    rw [List.drop_drop, List.drop_drop] at this
    exact this
theorem DelInv.skip {l cur : List Pat} {i j : Nat} {v : Pat} (h : DelInv l i j cur) (hv : l[j]? = some v) (hf : free v = true) : DelInv l i (j + 1) cur := by
  have hj := (List.getElem?_eq_some_iff.1 hv).1
  have hi := h.le
  refine ⟨by omega, by omega, h.len, ?_, ?_⟩
  · rw [take_snoc hv, List.filter_append, ← h.done]
    simp [nf, hf]
  · have := congrArg (List.drop 1) h.left
    rw [List.drop_drop, List.drop_drop] at this
    exact this
theorem DelInv.fin {l cur : List Pat} {i j : Nat} (h : DelInv l i j cur) (hj : l.length ≤ j) : cur.take i = l.filter nf ∧ i = (l.filter nf).length := by
  have h1 := h.done
  rw [List.take_of_length_le hj] at h1
  refine ⟨h1, ?_⟩
  rw [← h1, List.length_take]
  have := h.le; have := h.le2; have := h.len
  omega
theorem flat_take {sz : Nat} : ∀ {xs : List V} {k : Nat} {rest : List V}, (∀ x ∈ xs, x.leaves.length = sz) → k ≤ xs.length → (xs.flatMap V.leaves ++ rest).take (k * sz) = (xs.take k).flatMap V.leaves
  | [], k, rest, _, h => by
    have : k = 0 := by simpa using h
    subst this
    simp
  | x :: xs, 0, rest, _, _ => by simp
  | x :: xs, k + 1, rest, hl, h => by
    have hx := hl x (List.mem_cons_self ..)
    have ih := flat_take (rest := rest) (k := k) (fun y hy => hl y (List.mem_cons_of_mem _ hy)) (by simpa using h)
    rw [List.flatMap_cons, List.append_assoc, Nat.succ_mul, Nat.add_comm (k * sz) sz, List.take_succ_cons, List.flatMap_cons, ← ih]
    rw [← hx, List.take_length_add_append]
theorem flat_len {sz : Nat} : ∀ {xs : List V}, (∀ x ∈ xs, x.leaves.length = sz) → (xs.flatMap V.leaves).length = xs.length * sz
  | [], _ => by simp
  | x :: xs, hl => by
    have ih := flat_len (xs := xs) fun y hy => hl y (List.mem_cons_of_mem _ hy)
    rw [List.flatMap_cons, List.length_append, ih, hl x (List.mem_cons_self ..), List.length_cons, Nat.succ_mul, Nat.add_comm]

/-! ### Columns that agree -/
def belowF (m : List Pat) (name : Str) (n : Nat) : List Pat := m.filterMap fun q => if q.name = name then some (q.args.getD n anyP) else none
def agreeArgs (rc : List Pat → Bool) (m : List Pat) (name : Str) : Nat → Nat → Bool
  | _, 0 => true
  | n, k + 1 => rc (belowF m name n) && agreeArgs rc m name (n + 1) k
def agreeLoop (rc : List Pat → Bool) (m : List Pat) : List Pat → List Pat → Bool
  | _, [] => true
  | seen, p :: ps => (seen.any (fun q => decide (q.name = p.name)) || decide (p.kind ≠ 3) || agreeArgs rc m p.name 0 p.args.length) && agreeLoop rc m (seen ++ [p]) ps
def sameKind (t : Tab) (m : List Pat) : Bool := m.all fun p => decide (kindF t p = kindF t (m.headD anyP))
def agreeF (t : Tab) : Nat → List Pat → Bool
  | 0, _ => true
  | f + 1, l => sameKind t (l.filter nf) && agreeLoop (agreeF t f) (l.filter nf) [] (l.filter nf)
end Go.PM
