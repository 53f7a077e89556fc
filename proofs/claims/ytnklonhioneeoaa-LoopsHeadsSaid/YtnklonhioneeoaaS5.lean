import Derived.Test.YtnklonhioneeoaaS2
import Derived.Test.YtnklonhioneeoaaS4
set_option linter.unusedVariables false
set_option linter.unusedSimpArgs false
namespace Go.SM
open Go.VL
def okArr (nh : Nat) (kind : Int) : Option Nat → Bool
  | none => decide (kind ≠ 3)
  | some j => decide (j < nh)
mutual
def okV (nf : Nat) (nh : Nat) : Val → Bool
  | .mk k n l a => okArr nh k a && (decide (k ≠ 2) || wi n 0 (nf - 1)) && (decide (l.length ≤ 4096) && okVs nf nh l)
def okVs (nf : Nat) (nh : Nat) : List Val → Bool
  | [] => true
  | v :: l => okV nf nh v && okVs nf nh l
end
theorem okVs_all (nf nh : Nat) : ∀ l, okVs nf nh l = l.all (okV nf nh)
  | [] => rfl
  | v :: l => by rw [okVs, okVs_all nf nh l, List.all_cons]
theorem okV_iff {nf nh : Nat} {v : Val} : okV nf nh v = true ↔ okArr nh v.kind v.arr = true ∧ (v.kind = 2 → 0 ≤ v.n ∧ v.n < nf) ∧ v.list.length ≤ 4096 ∧ ∀ x ∈ v.list, okV nf nh x = true := by
  cases v with
  | mk k n l a =>
    rw [okV, okVs_all]
    simp only [Bool.and_eq_true, Bool.or_eq_true, decide_eq_true_eq, List.all_eq_true, Val.kind, Val.n, Val.list, Val.arr, wi_iff]
    constructor
    · rintro ⟨⟨h1, h2⟩, h4, h3⟩
      exact ⟨h1, fun h => by rcases h2 with h2 | h2; exact absurd h h2; omega, h4, h3⟩
    · rintro ⟨h1, h2, h4, h3⟩
      refine ⟨⟨h1, ?_⟩, h4, h3⟩
      by_cases h : k = 2
      · have := h2 h; exact .inr ⟨this.1, by omega⟩
      · exact .inl h
theorem okV_zero (nf nh : Nat) : okV nf nh Val.zero = true := by simp [Val.zero, okV, okArr, okVs]
theorem okV_word (nf nh : Nat) (n : Int) : okV nf nh (Val.word n) = true := by simp [Val.word, okV, okArr, okVs]
theorem okArr_mono {nh nh' : Nat} (h : nh ≤ nh') {k : Int} : ∀ {a : Option Nat}, okArr nh k a = true → okArr nh' k a = true
  | none, h1 => h1
  | some j, h1 => by simp [okArr] at h1 ⊢; omega
mutual
theorem okV_mono {nf nh nh' : Nat} (h : nh ≤ nh') : ∀ v, okV nf nh v = true → okV nf nh' v = true
  | .mk k n l a, h1 => by
    rw [okV, Bool.and_eq_true, Bool.and_eq_true, Bool.and_eq_true] at h1 ⊢
    exact ⟨⟨okArr_mono h h1.1.1, h1.1.2⟩, h1.2.1, okVs_mono h l h1.2.2⟩
theorem okVs_mono {nf nh nh' : Nat} (h : nh ≤ nh') : ∀ l, okVs nf nh l = true → okVs nf nh' l = true
  | [], _ => rfl
  | v :: l, h1 => by
    rw [okVs, Bool.and_eq_true] at h1 ⊢
    exact ⟨okV_mono h v h1.1, okVs_mono h l h1.2⟩
end
mutual
theorem valV_ext {nf nh : Nat} {ρ ρ' : Nat → Nat} (h : ∀ k, k < nh → ρ k = ρ' k) : ∀ v, okV nf nh v = true → valV ρ v = valV ρ' v
  | .mk k n l a, h1 => by
    rw [okV, Bool.and_eq_true, Bool.and_eq_true, Bool.and_eq_true] at h1
    rw [valV, valV, valsV_ext h l h1.2.2]
    have : arrV ρ a = arrV ρ' a := by
      cases a with
      | none => rfl
      | some j =>
        have := h1.1.1
        simp [okArr] at this
        simp [arrV, h j this]
    rw [this]
theorem valsV_ext {nf nh : Nat} {ρ ρ' : Nat → Nat} (h : ∀ k, k < nh → ρ k = ρ' k) : ∀ l, okVs nf nh l = true → valsV ρ l = valsV ρ' l
  | [], _ => rfl
  | v :: l, h1 => by
    rw [okVs, Bool.and_eq_true] at h1
    rw [valsV, valsV, valV_ext h v h1.1, valsV_ext h l h1.2]
end
theorem valX_ext {nf nh : Nat} {ρ ρ' : Nat → Nat} (h : ∀ k, k < nh → ρ k = ρ' k) {v : Val} (hv : okV nf nh v = true) : valX ρ v = valX ρ' v := by rw [← valV_eq, ← valV_eq, valV_ext h v hv]
theorem argAt_ok {nf nh : Nat} {l : List Val} (hv : ∀ v ∈ l, okV nf nh v = true) (k : Nat) : okV nf nh (argAt l k) = true := by
  unfold argAt
  cases h : l[k]? with
  | none => exact okV_zero nf nh
  | some v => exact hv v (List.mem_of_getElem? h)
theorem argAt_mem {l : List Val} {k : Nat} (h : k < l.length) : argAt l k ∈ l := by
  rw [argAt, List.getElem?_eq_getElem h]
  exact List.getElem_mem h
theorem vget_ok {nf nh : Nat} (v : Int) : ∀ {m : Vals}, (∀ e ∈ m, okV nf nh e.2 = true) → okV nf nh (vget m v) = true
  | [], _ => okV_zero nf nh
  | e :: m, h => by
    obtain ⟨k, x⟩ := e
    rw [vget]
    split
    · exact h _ (List.mem_cons_self ..)
    · exact vget_ok v fun e he => h e (List.mem_cons_of_mem _ he)
theorem lanes_snoc (op : Int) : ∀ (as bs : List Val) (a b : Val), as.length = bs.length → lanesF op (as ++ [a]) (bs ++ [b]) = lanesF op as bs ++ [(binaryF op a.n b.n).1]
  | [], [], a, b, _ => rfl
  | x :: as, y :: bs, a, b, h => by
    simp at h
    rw [List.cons_append, List.cons_append, lanesF, lanes_snoc op as bs a b h, lanesF, List.cons_append]
  | [], _ :: _, a, b, h => by simp at h
  | _ :: _, [], a, b, h => by simp at h
theorem lanes_len (op : Int) : ∀ (as bs : List Val), (lanesF op as bs).length ≤ as.length
  | x :: as, y :: bs => by
    have := lanes_len op as bs
    simp [lanesF]
    exact this
  | [], _ => by simp [lanesF]
  | _ :: _, [] => by simp [lanesF]
structure OpOk (i : SIns) (n : Nat) : Prop where
  known : elemJ i.op [0, 1, 2, 3, 4, 5, 6, 7, 8, 9, 10, 11, 12, 21, 22, 23, 24, 100, 15, 16, 17, 18, 19, 20] = true
  many : n ≤ 4096
  two : elemJ i.op [1, 2, 3, 4, 5, 6, 7, 16, 18, 19, 21, 23] = true → n = 2
  one : elemJ i.op [10, 11, 12, 15, 17, 24, 100] = true → n = 1
  three : i.op = 20 → n = 3
  num : i.op = 11 ∨ i.op = 24 → 0 ≤ i.n
structure TermOk (fn : SFunc) (t : STerm) : Prop where
  one : t.kind = 1 → 1 ≤ t.to.length
  two : t.kind = 2 → t.to.length = 2
  many : t.kind ≠ 0 → t.kind ≠ 1 → t.kind ≠ 2 → t.kind ≠ 4 → t.to.length = t.cases.length + 1
  edges : ∀ e ∈ t.to, 0 ≤ e.block ∧ (∃ b, fn.blocks[e.block.toNat]? = some b ∧ e.args.length = b.params.length) ∧ e.args.length ≤ 4096
structure InsOk (u : SUnit) (i : SIns) : Prop where
  ops : i.op ≠ 13 → i.op ≠ 14 → OpOk i i.args.length
  call : i.op = 13 → 0 ≤ i.n ∧ i.n < u.fns.length ∧ (entryOf u i.n).length = i.args.length
  app : i.op = 14 → 1 ≤ i.args.length
  clos : i.op = 9 → 0 ≤ i.n ∧ i.n < u.fns.length
  many : i.args.length ≤ 4096
structure UOk (u : SUnit) : Prop where
  main : 0 ≤ u.main ∧ u.main < u.fns.length
  entry : entryOf u u.main = []
  ne : ∀ f ∈ u.fns, f.blocks ≠ []
  term : ∀ f ∈ u.fns, ∀ b ∈ f.blocks, TermOk f b.term
  ins : ∀ f ∈ u.fns, ∀ b ∈ f.blocks, ∀ i ∈ b.ins, InsOk u i
theorem choice_lt {fn : SFunc} {t : STerm} (h : TermOk fn t) (n : Int) (h0 : t.kind ≠ 0) (h1 : t.kind ≠ 1) (h4 : t.kind ≠ 4) : 0 ≤ choiceF t n ∧ choiceF t n < t.to.length := by
  unfold choiceF
  split
  · rename_i h2
    have := h.two h2
    split <;> omega
  · rename_i h2
    have hm := h.many h0 h1 h2 h4
    split
    · rename_i h3
      rcases idxOf_range (fun x => decide (n = x)) t.cases with ⟨e, _⟩ | ⟨k, x, e, hx, _⟩
      · omega
      · have := (List.getElem?_eq_some_iff.1 hx).1
        omega
    · omega
structure FrameOk (u : SUnit) (nh : Nat) (f : MFrame) : Prop where
  fn0 : 0 ≤ f.fn
  blk0 : 0 ≤ f.block
  code : ∃ F b, u.fns[f.fn.toNat]? = some F ∧ F.blocks[f.block.toNat]? = some b ∧ 0 ≤ f.at_ ∧ f.at_ ≤ b.ins.length
  vals : ∀ e ∈ f.vals, okV u.fns.length nh e.2 = true
structure MOk (u : SUnit) (M : Mach) : Prop where
  frames : ∀ f ∈ M.stack, FrameOk u M.heap.length f
  heap : ∀ l ∈ M.heap, l.length ≤ 1024 ∧ ∀ v ∈ l, okV u.fns.length M.heap.length v = true
  out : M.out.length ≤ 1000
  left0 : 0 ≤ M.left
  left : M.left + M.stack.length ≤ 1000001
def rho (A : List (Nat × Nat)) : Nat → Nat := fun k => (A[k]?.getD (0, 0)).1
theorem rho_ext (A B : List (Nat × Nat)) : ∀ k, k < A.length → rho A k = rho (A ++ B) k := fun k h => by rw [rho, rho, List.getElem?_append_left h]
theorem rho_new (A : List (Nat × Nat)) (x : Nat × Nat) : rho (A ++ [x]) A.length = x.1 := by simp [rho]
end Go.SM
