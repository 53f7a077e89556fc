import Derived.Test.YtnklonhioneeoaaS8
set_option linter.unusedVariables false
namespace Go.SM
open Go.VL
def rowsX (l : List (List Int)) : V := .sl 1 none (l.map intsX)
def predE (k : Nat) (P : List (List Int)) (e : SEdge) : List (List Int) := P.set e.block.toNat ((P[e.block.toNat]?.getD []) ++ [(k : Int)])
def predB (k : Nat) (P : List (List Int)) (b : SBlock) : List (List Int) := b.term.to.foldl (predE k) P
def predL : Nat → List SBlock → List (List Int) → List (List Int)
  | _, [], P => P
  | k, b :: l, P => predL (k + 1) l (predB k P b)
def predsF (bs : List SBlock) : List (List Int) := predL 0 bs (List.replicate bs.length [])
theorem predE_len (k : Nat) (P : List (List Int)) (e : SEdge) : (predE k P e).length = P.length := by simp [predE]
theorem foldl_len {k : Nat} : ∀ (l : List SEdge) (P : List (List Int)), (l.foldl (predE k) P).length = P.length
  | [], P => rfl
  | e :: l, P => by rw [List.foldl_cons, foldl_len l, predE_len]
theorem predL_len : ∀ (k : Nat) (l : List SBlock) (P : List (List Int)), (predL k l P).length = P.length
  | k, [], P => rfl
  | k, b :: l, P => by rw [predL, predL_len (k + 1) l, predB, foldl_len]
theorem predsF_len (bs : List SBlock) : (predsF bs).length = bs.length := by rw [predsF, predL_len, List.length_replicate]
def total (P : List (List Int)) : Nat := (P.map List.length).sum
def edgesN : List SBlock → Nat
  | [] => 0
  | b :: l => b.term.to.length + edgesN l
theorem total_set {P : List (List Int)} {t : Nat} {x : Int} (h : t < P.length) : total (P.set t ((P[t]?.getD []) ++ [x])) = total P + 1 := by
  have h1 : (P.map List.length)[t]? = some (P[t]?.getD []).length := by rw [List.getElem?_map, List.getElem?_eq_getElem h]; rfl
  have := sum_set (y := ((P[t]?.getD []) ++ [x]).length) h1
  unfold total
  rw [List.map_set]
  rw [List.length_append] at this ⊢
  simp at this ⊢
  omega
theorem total_set2 {P : List (List Int)} {t : Nat} {l : List Int} {x : Int} (h : P[t]? = some l) : total (P.set t (l ++ [x])) = total P + 1 := by
  have := total_set (x := x) (List.getElem?_eq_some_iff.1 h).1
  rw [h] at this
  exact this
theorem total_edges {k : Nat} : ∀ {l : List SEdge} {P : List (List Int)}, (∀ e ∈ l, 1 ≤ e.block ∧ e.block < P.length) → total (l.foldl (predE k) P) = total P + l.length
  | [], P, _ => rfl
  | e :: l, P, h => by
    have he := h e (List.mem_cons_self ..)
    rw [List.foldl_cons, total_edges (P := predE k P e) fun x hx => by rw [predE_len]; exact h x (List.mem_cons_of_mem _ hx)]
    unfold predE
    rw [total_set (by omega), List.length_cons]
    omega
theorem total_blocks : ∀ {l : List SBlock} {k : Nat} {P : List (List Int)}, (∀ b ∈ l, ∀ e ∈ b.term.to, 1 ≤ e.block ∧ e.block < P.length) → total (predL k l P) = total P + edgesN l
  | [], k, P, _ => rfl
  | b :: l, k, P, h => by
    rw [predL, total_blocks (k := k + 1) (P := predB k P b) fun c hc e he => by rw [predB, foldl_len]; exact h c (List.mem_cons_of_mem _ hc) e he]
    rw [predB, total_edges (h b (List.mem_cons_self ..)), edgesN]
    omega
theorem total_zero (n : Nat) : total (List.replicate n []) = 0 := by simp [total]
theorem preds_total {bs : List SBlock} (h : ∀ b ∈ bs, ∀ e ∈ b.term.to, 1 ≤ e.block ∧ e.block < bs.length) : total (predsF bs) = edgesN bs := by
  rw [predsF, total_blocks (by rw [List.length_replicate]; exact h), total_zero, Nat.zero_add]
theorem total_take {P : List (List Int)} {k : Nat} {l : List Int} (h : P[k]? = some l) : total (P.take (k + 1)) = total (P.take k) + l.length := by
  rw [take_snoc h, total, total, List.map_append, List.sum_append]
  simp
theorem total_takele : ∀ (P : List (List Int)) (k : Nat), total (P.take k) ≤ total P
  | [], k => by simp
  | l :: P, 0 => by simp [total]
  | l :: P, k + 1 => by
    have := total_takele P k
    simp [total] at this ⊢
    omega
theorem edgesN_take {l : List SBlock} {k : Nat} {b : SBlock} (h : l[k]? = some b) : edgesN (l.take (k + 1)) = edgesN (l.take k) + b.term.to.length := by
  induction l generalizing k with
  | nil => simp at h
  | cons a l ih =>
    cases k with
    | zero => simp at h; subst h; simp [edgesN]
    | succ k => simp at h; have := ih h; simp [edgesN, this]; omega
theorem edgesN_takele : ∀ (l : List SBlock) (k : Nat), edgesN (l.take k) ≤ edgesN l
  | [], k => by simp
  | b :: l, 0 => by simp [edgesN]
  | b :: l, k + 1 => by
    have := edgesN_takele l k
    rw [List.take_succ_cons, edgesN, edgesN]
    omega
theorem edgesN_le : ∀ {l : List SBlock} {n : Nat}, (∀ b ∈ l, b.term.to.length ≤ n) → edgesN l ≤ n * l.length
  | [], n, _ => by simp [edgesN]
  | b :: l, n, h => by
    have := edgesN_le fun c hc => h c (List.mem_cons_of_mem b hc)
    have := h b (List.mem_cons_self ..)
    rw [edgesN, List.length_cons, Nat.mul_add]
    omega
theorem term_edges {f : SFunc} (h : FuncOk f) {b : SBlock} (hb : b ∈ f.blocks) : b.term.to.length ≤ 257 := by
  have he := endF_ok (h.block hb).2
  have hm := he.many
  have hs := he.shape
  unfold shapeF at hs
  repeat' split at hs
  all_goals first | (simp only [Bool.and_eq_true, decide_eq_true_eq] at hs; omega) | cases hs
theorem FuncOk.edges {f : SFunc} (h : FuncOk f) : ∀ b ∈ f.blocks, ∀ e ∈ b.term.to, 1 ≤ e.block ∧ e.block < f.blocks.length := blocks_edges h.blocks
theorem edges_small {f : SFunc} (h : FuncOk f) : edgesN f.blocks ≤ 32896 := by
  have := edgesN_le fun b hb => term_edges h (b := b) hb
  have := h.len
  omega
end Go.SM
