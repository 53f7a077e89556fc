/- Moves one after another as a function; the moves of MovesCopies. -/
import Derived.Test.YtmioemdikgdpkaaS2
set_option linter.unusedVariables false
set_option linter.unusedSimpArgs false
namespace Go.SM
open Go.VL
abbrev Mv := Int × Int
def mvV (p : Mv) : V := .agg [.int p.1, .int p.2]
abbrev mvsX (l : List Mv) : V := .sl 2 none (l.map mvV)
def seqBad (spare : Int) : List Mv → List Mv → Int
  | _, [] => 0
  | pre, x :: l => if x.1 < 0 ∨ x.2 < 0 then 4 else if (pre.any fun y => y.1 == x.1) = true then 7 else if x.1 = spare ∨ x.2 = spare then 1 else seqBad spare (pre ++ [x]) l
def seqAt (left : List Mv) : Int := idxOf (fun x => !(left.any fun y => y.2 == x.1)) left
def brkF (spare v : Int) (p : Mv) : Mv := if p.2 = v then (p.1, spare) else p
def seqStep (spare : Int) (s : List Mv × List Mv) : List Mv × List Mv :=
  if seqAt s.1 < 0 then
    let v := (s.1[0]?.getD (0, 0)).1
    let left := s.1.map (brkF spare v)
    (left.eraseIdx 0, (s.2 ++ [(spare, v)]) ++ [left[0]?.getD (0, 0)])
  else (s.1.eraseIdx (seqAt s.1).toNat, s.2 ++ [s.1[(seqAt s.1).toNat]?.getD (0, 0)])
def seqLoop (spare : Int) : Nat → List Mv × List Mv → List Mv × List Mv
  | 0, s => s
  | n + 1, s => seqLoop spare n (seqStep spare s)
def leftF (l : List Mv) : List Mv := l.filter fun x => !(x.1 == x.2)
def seqF (l : List Mv) (spare : Int) : List Mv × Int :=
  if seqBad spare [] l = 0 then ((seqLoop spare (leftF l).length (leftF l, [])).2, 0) else ([], seqBad spare [] l)
def cycF (n c : Nat) : List Mv := (List.range n).map fun k => (((c * n + k : Nat) : Int), ((c * n + (k + 1) % n : Nat) : Int))
def movesF (n c : Nat) : List Mv := (List.range c).flatMap (cycF n) ++ [(100, 0), (101, 101)]
theorem seq_law {n c : Nat} (hn : 2 ≤ n ∧ n ≤ 6) (hc : c ≤ 4) : (seqF (movesF n c) 200).2 = 0 ∧ (seqF (movesF n c) 200).1.length = c * (n + 1) + 1 ∧ (movesF n c).length = c * n + 2 := by
  have key : (List.range 5).all (fun a => (List.range 5).all fun c => decide ((seqF (movesF (a + 2) c) 200).2 = 0) && decide ((seqF (movesF (a + 2) c) 200).1.length = c * (a + 2 + 1) + 1) && decide ((movesF (a + 2) c).length = c * (a + 2) + 2)) = true := by
    decide +kernel
  rw [List.all_eq_true] at key
  have h1 := key (n - 2) (List.mem_range.2 (by omega))
  rw [List.all_eq_true] at h1
  have h2 := h1 c (List.mem_range.2 (by omega))
  rw [show n - 2 + 2 = n by omega, Bool.and_eq_true, Bool.and_eq_true, decide_eq_true_eq, decide_eq_true_eq, decide_eq_true_eq] at h2
  exact ⟨h2.1.1, h2.1.2, h2.2⟩
/-! ### Cells of a row of moves -/
theorem mvs_fit (l : List Mv) : ∀ x ∈ l.map mvV, x.leaves.length = 2 := fun x hx => by
  obtain ⟨n, _, rfl⟩ := List.mem_map.1 hx
  rfl
theorem mv_flat (l : List Mv) : ∀ x ∈ l.map mvV, x.flat = true := fun x hx => by
  obtain ⟨n, _, rfl⟩ := List.mem_map.1 hx
  rfl
abbrev mvL (l : List Mv) : List V := (l.map mvV).flatMap V.leaves
theorem mvL_cons (p : Mv) (l : List Mv) : mvL (p :: l) = V.int p.1 :: V.int p.2 :: mvL l := rfl
theorem mvL_app (a b : List Mv) : mvL (a ++ b) = mvL a ++ mvL b := by simp [mvL]
theorem mvL_len : ∀ l : List Mv, (mvL l).length = l.length * 2
  | [] => rfl
  | p :: l => by rw [mvL_cons, List.length_cons, List.length_cons, mvL_len, List.length_cons]; omega
theorem mvL_take (l : List Mv) (rest : List V) {k : Nat} (hk : k ≤ l.length) : (mvL l ++ rest).take (k * 2) = mvL (l.take k) := by
  conv => lhs; rw [← List.take_append_drop k l, mvL_app, List.append_assoc]
  rw [List.take_append_of_le_length (by rw [mvL_len, List.length_take]; omega), List.take_of_length_le (by rw [mvL_len, List.length_take]; omega)]
theorem mvL_drop (l : List Mv) (rest : List V) {k : Nat} (hk : k ≤ l.length) : (mvL l ++ rest).drop (k * 2) = mvL (l.drop k) ++ rest := by
  conv => lhs; rw [← List.take_append_drop k l, mvL_app, List.append_assoc]
  have h : (mvL (l.take k)).length = k * 2 := by rw [mvL_len, List.length_take]; omega
  rw [← h, List.drop_left]
theorem mvL_get0 {l : List Mv} {rest : List V} {k : Nat} {p : Mv} (h : l[k]? = some p) : (mvL l ++ rest)[k * 2]? = some (V.int p.1) := by
  obtain ⟨hk, _⟩ := List.getElem?_eq_some_iff.1 h
  have h2 : ((mvL l ++ rest).drop (k * 2))[0]? = some (V.int p.1) := by rw [mvL_drop l rest (by omega), drop_cons h]; rfl
  rwa [List.getElem?_drop, Nat.add_zero] at h2
theorem mvL_get1 {l : List Mv} {rest : List V} {k : Nat} {p : Mv} (h : l[k]? = some p) : (mvL l ++ rest)[k * 2 + 1]? = some (V.int p.2) := by
  obtain ⟨hk, _⟩ := List.getElem?_eq_some_iff.1 h
  have h2 : ((mvL l ++ rest).drop (k * 2))[1]? = some (V.int p.2) := by rw [mvL_drop l rest (by omega), drop_cons h]; rfl
  rwa [List.getElem?_drop] at h2
theorem mvL_set1 {l : List Mv} {rest : List V} {k : Nat} {p : Mv} (h : l[k]? = some p) (v : Int) : (mvL l ++ rest).set (k * 2 + 1) (V.int v) = mvL (l.set k (p.1, v)) ++ rest := by
  obtain ⟨hk, he⟩ := List.getElem?_eq_some_iff.1 h
  have h1 : mvL l ++ rest = mvL (l.take k) ++ (V.int p.1 :: V.int p.2 :: (mvL (l.drop (k + 1)) ++ rest)) := by
    conv => lhs; rw [← List.take_append_drop k l, drop_cons h, mvL_app, mvL_cons]
    simp
  have h2 : mvL (l.set k (p.1, v)) ++ rest = mvL (l.take k) ++ (V.int p.1 :: V.int v :: (mvL (l.drop (k + 1)) ++ rest)) := by
    rw [List.set_eq_take_append_cons_drop, if_pos hk, mvL_app, mvL_cons]
    simp
  have h3 : (mvL (l.take k)).length = k * 2 := by rw [mvL_len, List.length_take]; omega
  rw [h1, h2, List.set_append_right _ _ (by omega), h3, show k * 2 + 1 - k * 2 = 1 by omega]
  rfl
theorem mvL_move {l : List Mv} {rest Y : List V} {i : Nat} (hi : i < l.length) : (mvL l ++ rest).take (i * 2) ++ (((mvL l ++ rest).drop ((i + 1) * 2)).take ((l.length - (i + 1)) * 2) ++ Y) = mvL (l.eraseIdx i) ++ Y := by
  rw [mvL_take l rest (by omega), mvL_drop l rest (by omega)]
  have h := mvL_take (l.drop (i + 1)) rest (k := l.length - (i + 1)) (by rw [List.length_drop]; omega)
  rw [h, List.take_of_length_le (l := l.drop (i + 1)) (by rw [List.length_drop]; omega), List.eraseIdx_eq_take_drop_succ, mvL_app, List.append_assoc]
theorem mvL_moveE {l : List Mv} {rest Y : List V} {i cap : Nat} (hi : i < l.length) (hc : l.length ≤ cap) : (mvL l ++ rest).take (i * 2) ++ (((mvL l ++ rest).drop (if cap = i + 1 then 0 else 0 + (i + 1) * 2)).take ((l.length - (i + 1)) * 2) ++ Y) = mvL (l.eraseIdx i) ++ Y := by
  by_cases h : cap = i + 1
  · have h2 : l.length - (i + 1) = 0 := by omega
    rw [← mvL_move (rest := rest) hi, h2, Nat.zero_mul, List.take_zero, List.take_zero]
  · rw [if_neg h, Nat.zero_add, mvL_move hi]
theorem get_mv {l : List Mv} {k : Nat} {p : Mv} (h : l[k]? = some p) : (l.map mvV)[k]? = some (mvV p) := by simp [h]
theorem brk_step {l : List Mv} {k : Nat} {p : Mv} (f : Mv → Mv) (h : l[k]? = some p) : (((l.take k).map f ++ l.drop k).set k (f p)) = (l.take (k + 1)).map f ++ l.drop (k + 1) := by
  obtain ⟨hk, _⟩ := List.getElem?_eq_some_iff.1 h
  have hl : ((l.take k).map f).length = k := by rw [List.length_map, List.length_take]; omega
  rw [take_snoc h, List.map_append, drop_cons h, List.set_append_right _ _ (by omega), hl, Nat.sub_self]
  simp
theorem brk_get {l : List Mv} {k : Nat} {p : Mv} (f : Mv → Mv) (h : l[k]? = some p) : ((l.take k).map f ++ l.drop k)[k]? = some p := by
  obtain ⟨hk, _⟩ := List.getElem?_eq_some_iff.1 h
  have hl : ((l.take k).map f).length = k := by rw [List.length_map, List.length_take]; omega
  rw [List.getElem?_append_right (by omega), hl, Nat.sub_self, List.getElem?_drop]
  exact h
theorem step_break {spare : Int} {left out : List Mv} {x : Mv} (h : seqAt left < 0) (hx : left[0]? = some x) {y : Mv} (hy : (left.map (brkF spare x.1))[0]? = some y) : seqStep spare (left, out) = ((left.map (brkF spare x.1)).eraseIdx 0, (out ++ [(spare, x.1)]) ++ [y]) := by
  have hy2 := hy
  unfold seqStep
  dsimp only
  rw [if_pos h, hx]
  dsimp only [Option.getD]
  rw [hy2]
theorem step_take {spare : Int} {left out : List Mv} {m : Nat} {y : Mv} (h : seqAt left = (m : Int)) (hy : left[m]? = some y) : seqStep spare (left, out) = (left.eraseIdx m, out ++ [y]) := by
  unfold seqStep
  dsimp only
  rw [if_neg (by omega), h, Int.toNat_natCast, hy]
  rfl
end Go.SM
