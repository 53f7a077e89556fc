import Derived.Test.YtaldllbomhgciaaSZ
import Derived.Test.YtaldllbomhgciaaW1
section
set_option linter.unusedVariables false
namespace Go.SM
open Go.VL
def rowsX (l : List (List Int)) : V := .sl 1 none (l.map intsX)
def predE (k : Nat) (P : List (List Int)) (e : SEdge) : List (List Int) := P.set e.block.toNat ((P[e.block.toNat]?.getD []) ++ [(k : Int)])
def predB (k : Nat) (P : List (List Int)) (b : SBlock) : List (List Int) := b.term.to.foldl (predE k) P
def predL : Nat → List SBlock → List (List Int) → List (List Int)
  | _, [], P => P
  | k, b :: l, P => predL (k + 1) l (predB k P b)
def predsF (bs : List SBlock) : List (List Int) := predL 0 bs (List.replicate bs.length [])
theorem predE_len (k : Nat) (P : List (List Int)) (e : SEdge) : (predE k P e).length = P.length := by simp [predE]
theorem foldl_len {k : Nat} : ∀ (l : List SEdge) (P : List (List Int)), (l.foldl (predE k) P).length = P.length
  | [], P => rfl
  | e :: l, P => by rw [List.foldl_cons, foldl_len l, predE_len]
theorem predL_len : ∀ (k : Nat) (l : List SBlock) (P : List (List Int)), (predL k l P).length = P.length
  | k, [], P => rfl
  | k, b :: l, P => by rw [predL, predL_len (k + 1) l, predB, foldl_len]
theorem predsF_len (bs : List SBlock) : (predsF bs).length = bs.length := by rw [predsF, predL_len, List.length_replicate]
def total (P : List (List Int)) : Nat := (P.map List.length).sum
def edgesN : List SBlock → Nat
  | [] => 0
  | b :: l => b.term.to.length + edgesN l
theorem total_set {P : List (List Int)} {t : Nat} {x : Int} (h : t < P.length) : total (P.set t ((P[t]?.getD []) ++ [x])) = total P + 1 := by
  have h1 : (P.map List.length)[t]? = some (P[t]?.getD []).length := by rw [List.getElem?_map, List.getElem?_eq_getElem h]; rfl
  have := sum_set (y := ((P[t]?.getD []) ++ [x]).length) h1
  unfold total
  rw [List.map_set]
  rw [List.length_append] at this ⊢
  simp at this ⊢
  omega
theorem total_set2 {P : List (List Int)} {t : Nat} {l : List Int} {x : Int} (h : P[t]? = some l) : total (P.set t (l ++ [x])) = total P + 1 := by
  have := total_set (x := x) (List.getElem?_eq_some_iff.1 h).1
  rw [h] at this
  exact this
theorem total_edges {k : Nat} : ∀ {l : List SEdge} {P : List (List Int)}, (∀ e ∈ l, 1 ≤ e.block ∧ e.block < P.length) → total (l.foldl (predE k) P) = total P + l.length
  | [], P, _ => rfl
  | e :: l, P, h => by
    have he := h e (List.mem_cons_self ..)
    rw [List.foldl_cons, total_edges (P := predE k P e) fun x hx => by rw [predE_len]; exact h x (List.mem_cons_of_mem _ hx)]
    unfold predE
    rw [total_set (by omega), List.length_cons]
    omega
theorem total_blocks : ∀ {l : List SBlock} {k : Nat} {P : List (List Int)}, (∀ b ∈ l, ∀ e ∈ b.term.to, 1 ≤ e.block ∧ e.block < P.length) → total (predL k l P) = total P + edgesN l
  | [], k, P, _ => rfl
  | b :: l, k, P, h => by
    rw [predL, total_blocks (k := k + 1) (P := predB k P b) fun c hc e he => by rw [predB, foldl_len]; exact h c (List.mem_cons_of_mem _ hc) e he]
    rw [predB, total_edges (h b (List.mem_cons_self ..)), edgesN]
    omega
theorem total_zero (n : Nat) : total (List.replicate n []) = 0 := by simp [total]
theorem preds_total {bs : List SBlock} (h : ∀ b ∈ bs, ∀ e ∈ b.term.to, 1 ≤ e.block ∧ e.block < bs.length) : total (predsF bs) = edgesN bs := by
  rw [predsF, total_blocks (by rw [List.length_replicate]; exact h), total_zero, Nat.zero_add]
theorem total_take {P : List (List Int)} {k : Nat} {l : List Int} (h : P[k]? = some l) : total (P.take (k + 1)) = total (P.take k) + l.length := by
  rw [take_snoc h, total, total, List.map_append, List.sum_append]
  simp
theorem total_takele : ∀ (P : List (List Int)) (k : Nat), total (P.take k) ≤ total P
  | [], k => by simp
  | l :: P, 0 => by simp [total]
  | l :: P, k + 1 => by
    have := total_takele P k
    simp [total] at this ⊢
    omega
theorem edgesN_take {l : List SBlock} {k : Nat} {b : SBlock} (h : l[k]? = some b) : edgesN (l.take (k + 1)) = edgesN (l.take k) + b.term.to.length := by
  induction l generalizing k with
  | nil => simp at h
  | cons a l ih =>
    cases k with
    | zero => simp at h; subst h; simp [edgesN]
    | succ k => simp at h; have := ih h; simp [edgesN, this]; omega
theorem edgesN_takele : ∀ (l : List SBlock) (k : Nat), edgesN (l.take k) ≤ edgesN l
  | [], k => by simp
  | b :: l, 0 => by simp [edgesN]
  | b :: l, k + 1 => by
    have := edgesN_takele l k
    rw [List.take_succ_cons, edgesN, edgesN]
    omega
theorem edgesN_le : ∀ {l : List SBlock} {n : Nat}, (∀ b ∈ l, b.term.to.length ≤ n) → edgesN l ≤ n * l.length
  | [], n, _ => by simp [edgesN]
  | b :: l, n, h => by
    have := edgesN_le fun c hc => h c (List.mem_cons_of_mem b hc)
    have := h b (List.mem_cons_self ..)
    rw [edgesN, List.length_cons, Nat.mul_add]
    omega
theorem term_edges {f : SFunc} (h : FuncOk f) {b : SBlock} (hb : b ∈ f.blocks) : b.term.to.length ≤ 257 := by
  have he := endF_ok (h.block hb).2
  have hm := he.many
  have hs := he.shape
  unfold shapeF at hs
  repeat' split at hs
  all_goals first | (simp only [Bool.and_eq_true, decide_eq_true_eq] at hs; omega) | cases hs
theorem FuncOk.edges {f : SFunc} (h : FuncOk f) : ∀ b ∈ f.blocks, ∀ e ∈ b.term.to, 1 ≤ e.block ∧ e.block < f.blocks.length := blocks_edges h.blocks
theorem edges_small {f : SFunc} (h : FuncOk f) : edgesN f.blocks ≤ 32896 := by
  have := edgesN_le fun b hb => term_edges h (b := b) hb
  have := h.len
  omega
end Go.SM
end
section
set_option linter.unusedVariables false
set_option linter.unusedSimpArgs false
namespace Go.SM
open Go.VL
structure DState where
  seen : List Bool
  stack : List (Nat × Nat)
  out : List Nat
def toAt (bs : List SBlock) (b : Nat) : List SEdge := ((bs[b]?).map (·.term.to)).getD []
def Edge (bs : List SBlock) (p v : Nat) : Prop := ∃ x ∈ toAt bs p, x.block.toNat = v
def dfsStep (bs : List SBlock) (s : DState) : DState :=
  match s.stack with
  | [] => s
  | (b, e) :: st =>
    match (toAt bs b)[e]? with
    | none => ⟨s.seen, st, s.out ++ [b]⟩
    | some x => if s.seen[x.block.toNat]? = some false then ⟨s.seen.set x.block.toNat true, (x.block.toNat, 0) :: (b, e + 1) :: st, s.out⟩ else ⟨s.seen, (b, e + 1) :: st, s.out⟩
def dfsRun (bs : List SBlock) : Nat → DState → DState
  | 0, s => s
  | n + 1, s => if s.stack = [] then s else dfsRun bs n (dfsStep bs s)
def dfsStart (n : Nat) : DState := ⟨(List.replicate n false).set 0 true, [(0, 0)], []⟩
def postF (bs : List SBlock) : List Nat := (dfsRun bs (edgesN bs + bs.length) (dfsStart bs.length)).out
def orderF (bs : List SBlock) : List Nat := (postF bs).reverse
theorem toAt_get {bs : List SBlock} {k : Nat} {b : SBlock} (h : bs[k]? = some b) : toAt bs k = b.term.to := by rw [toAt, h]; rfl
def cost (bs : List SBlock) (k : Nat) : Nat := (toAt bs k).length + 1
def unseenW (bs : List SBlock) : Nat → List Bool → Nat
  | _, [] => 0
  | k, s :: l => (if s then 0 else cost bs k) + unseenW bs (k + 1) l
def stackW (bs : List SBlock) : List (Nat × Nat) → Nat
  | [] => 0
  | (b, e) :: st => (cost bs b - e) + stackW bs st
def dfsW (bs : List SBlock) (s : DState) : Nat := unseenW bs 0 s.seen + stackW bs s.stack
theorem unseen_set (bs : List SBlock) : ∀ (l : List Bool) (k n : Nat), l[n]? = some false → unseenW bs k (l.set n true) + cost bs (k + n) = unseenW bs k l
  | [], k, n, h => by simp at h
  | s :: l, k, 0, h => by
    simp at h
    subst h
    simp [unseenW]
    omega
  | s :: l, k, n + 1, h => by
    simp at h
    have := unseen_set bs l (k + 1) n h
    simp only [List.set_cons_succ, unseenW]
    rw [show k + (n + 1) = k + 1 + n by omega]
    omega
structure DfsInv0 (bs : List SBlock) (s : DState) : Prop where
  len : s.seen.length = bs.length
  stk : ∀ x ∈ s.stack, x.1 < bs.length ∧ x.2 ≤ (toAt bs x.1).length ∧ s.seen[x.1]? = some true
theorem step_w {bs : List SBlock} {s : DState} (h : DfsInv0 bs s) (hne : s.stack ≠ []) : dfsW bs (dfsStep bs s) + 1 = dfsW bs s := by
  unfold dfsStep
  split
  · rename_i he; exact absurd he hne
  · rename_i b e st hs
    have hb := h.stk (b, e) (by rw [hs]; exact List.mem_cons_self ..)
    dsimp only at hb
    split
    · rename_i hn
      have : e = (toAt bs b).length := by
        have := List.getElem?_eq_none_iff.1 hn
        omega
      unfold dfsW
      rw [hs]
      simp only [stackW, cost]
      omega
    · rename_i x hx
      have hlt := (List.getElem?_eq_some_iff.1 hx).1
      split
      · rename_i hu
        have := unseen_set bs s.seen 0 _ hu
        unfold dfsW
        rw [hs]
        simp only [stackW]
        rw [Nat.zero_add] at this
        have hc : cost bs b = (toAt bs b).length + 1 := rfl
        omega
      · unfold dfsW
        rw [hs]
        simp only [stackW, cost]
        omega
def StackOk (bs : List SBlock) : List (Nat × Nat) → Prop
  | [] => True
  | [x] => x.1 = 0
  | x :: y :: st => Edge bs y.1 x.1 ∧ StackOk bs (y :: st)
def seenB (s : DState) (v : Nat) : Prop := s.seen[v]? = some true
structure DfsInv (bs : List SBlock) (s : DState) : Prop extends DfsInv0 bs s where
  out : ∀ v ∈ s.out, v < bs.length ∧ seenB s v
  nodup : (s.stack.map (·.1) ++ s.out).Nodup
  cover : ∀ v, seenB s v → v ∈ s.stack.map (·.1) ∨ v ∈ s.out
  closedO : ∀ v ∈ s.out, ∀ x ∈ toAt bs v, seenB s x.block.toNat
  closedS : ∀ y ∈ s.stack, ∀ i x, i < y.2 → (toAt bs y.1)[i]? = some x → seenB s x.block.toNat
  chain : StackOk bs s.stack
  par : ∀ (i v : Nat), s.out[i]? = some v → v ≠ 0 → ∃ p, Edge bs p v ∧ (p ∈ s.stack.map (·.1) ∨ ∃ j, i < j ∧ s.out[j]? = some p)
  root : s.stack = [] → ∃ l, s.out = l ++ [0]
theorem StackOk.tail {bs : List SBlock} {x : Nat × Nat} : ∀ {st : List (Nat × Nat)}, StackOk bs (x :: st) → StackOk bs st
  | [], _ => trivial
  | y :: st, h => h.2
theorem StackOk.head {bs : List SBlock} {x y : Nat × Nat} (he : x.1 = y.1) : ∀ {st : List (Nat × Nat)}, StackOk bs (x :: st) → StackOk bs (y :: st)
  | [], h => by
    have h : x.1 = 0 := h
    show y.1 = 0
    rw [← he]
    exact h
  | z :: st, h => ⟨by rw [← he]; exact h.1, h.2⟩
theorem seen_mono {l : List Bool} {n v : Nat} (h : l[v]? = some true) : (l.set n true)[v]? = some true := by
  rw [List.getElem?_set]
  split
  · rename_i e; subst e; rw [if_pos (List.getElem?_eq_some_iff.1 h).1]
  · exact h
theorem step_inv {bs : List SBlock} {s : DState} (hE : ∀ b ∈ bs, ∀ e ∈ b.term.to, 1 ≤ e.block ∧ e.block < bs.length) (h : DfsInv bs s) : DfsInv bs (dfsStep bs s) := by
  unfold dfsStep
  split
  · exact h
  · rename_i b e st hs
    have hb := h.stk (b, e) (by rw [hs]; exact List.mem_cons_self ..)
    dsimp only at hb
    have hnd := h.nodup
    rw [hs] at hnd
    have hch := h.chain
    rw [hs] at hch
    split
    · rename_i hn
      have hee : (toAt bs b).length ≤ e := List.getElem?_eq_none_iff.1 hn
      refine ⟨⟨h.len, fun x hx => h.stk x (by rw [hs]; exact List.mem_cons_of_mem _ hx)⟩, ?_, ?_, ?_, ?_, ?_, hch.tail, ?_, ?_⟩
      · intro v hv
        rcases List.mem_append.1 hv with hv | hv
        · exact h.out v hv
        · rw [List.mem_singleton.1 hv]; exact ⟨hb.1, hb.2.2⟩
      · dsimp only
        rw [← List.append_assoc]
        rw [List.map_cons, List.cons_append] at hnd
        have hp : ((b, e).1 :: (st.map (·.1) ++ s.out)).Perm (st.map (·.1) ++ s.out ++ [b]) := (List.perm_append_singleton _ _).symm
        exact hp.nodup_iff.1 hnd
      · intro v hv
        rcases h.cover v hv with hv | hv
        · rw [hs] at hv
          rcases List.mem_cons.1 hv with rfl | hv
          · exact .inr (List.mem_append_right _ (List.mem_singleton.2 rfl))
          · exact .inl hv
        · exact .inr (List.mem_append_left _ hv)
      · intro v hv x hx
        rcases List.mem_append.1 hv with hv | hv
        · exact h.closedO v hv x hx
        · have hvb := List.mem_singleton.1 hv
          subst hvb
          obtain ⟨i, hi⟩ := List.getElem?_of_mem hx
          exact h.closedS (v, e) (by rw [hs]; exact List.mem_cons_self ..) i x (by have := (List.getElem?_eq_some_iff.1 hi).1; show i < e; omega) hi
      · exact fun y hy => h.closedS y (by rw [hs]; exact List.mem_cons_of_mem _ hy)
      · intro i v hi h0
        dsimp only at hi ⊢
        by_cases hlt : i < s.out.length
        · rw [List.getElem?_append_left hlt] at hi
          obtain ⟨p, hp1, hp2⟩ := h.par i v hi h0
          refine ⟨p, hp1, ?_⟩
          rcases hp2 with hp2 | ⟨j, hj, hj2⟩
          · rw [hs] at hp2
            rcases List.mem_cons.1 hp2 with rfl | hp2
            · exact .inr ⟨s.out.length, hlt, by rw [List.getElem?_append_right (Nat.le_refl _)]; simp⟩
            · exact .inl hp2
          · exact .inr ⟨j, hj, by rw [List.getElem?_append_left (List.getElem?_eq_some_iff.1 hj2).1]; exact hj2⟩
        · rw [List.getElem?_append_right (by omega)] at hi
          have : i - s.out.length = 0 := by
            have := (List.getElem?_eq_some_iff.1 hi).1
            simp at this
            omega
          rw [this] at hi
          simp at hi
          subst hi
          cases st with
          | nil => exact absurd hch h0
          | cons y st => exact ⟨y.1, hch.1, .inl (List.mem_map.2 ⟨y, List.mem_cons_self .., rfl⟩)⟩
      · intro hst
        dsimp only at hst
        subst hst
        have hb0 : b = 0 := hch
        exact ⟨s.out, by rw [hb0]⟩
    · rename_i x hx
      have hlt := (List.getElem?_eq_some_iff.1 hx).1
      have hxm := List.mem_of_getElem? hx
      have hxn : x.block.toNat < bs.length := by
        obtain ⟨bl, hbl⟩ : ∃ bl, bs[b]? = some bl := ⟨_, List.getElem?_eq_getElem hb.1⟩
        rw [toAt_get hbl] at hxm
        have := hE bl (List.mem_of_getElem? hbl) x hxm
        omega
      split
      · rename_i hu
        have hns : ∀ v, seenB s v → v ≠ x.block.toNat := fun v hv e => by
          subst e
          unfold seenB at hv
          rw [hu] at hv
          cases hv
        have hnew : (s.seen.set x.block.toNat true)[x.block.toNat]? = some true := by rw [List.getElem?_set, if_pos rfl, if_pos (by rw [h.len]; exact hxn)]
        refine ⟨⟨by rw [List.length_set]; exact h.len, ?_⟩, ?_, ?_, ?_, ?_, ?_, ?_, ?_, ?_⟩
        · intro y hy
          rcases List.mem_cons.1 hy with rfl | hy
          · exact ⟨hxn, Nat.zero_le _, hnew⟩
          · rcases List.mem_cons.1 hy with rfl | hy
            · exact ⟨hb.1, hlt, seen_mono hb.2.2⟩
            · have := h.stk y (by rw [hs]; exact List.mem_cons_of_mem _ hy)
              exact ⟨this.1, this.2.1, seen_mono this.2.2⟩
        · exact fun v hv => ⟨(h.out v hv).1, seen_mono (h.out v hv).2⟩
        · dsimp only
          rw [List.map_cons, List.map_cons, List.cons_append]
          refine List.nodup_cons.2 ⟨fun hm => ?_, hnd⟩
          have hsn : seenB s x.block.toNat := by
            rcases List.mem_append.1 hm with hm | hm
            · rcases List.mem_cons.1 hm with e1 | hm
              · have e1 : x.block.toNat = b := e1
                rw [e1]; exact hb.2.2
              · obtain ⟨y, hy, hy2⟩ := List.mem_map.1 hm
                have hy2 : y.1 = x.block.toNat := hy2
                rw [← hy2]
                exact (h.stk y (by rw [hs]; exact List.mem_cons_of_mem _ hy)).2.2
            · exact (h.out _ hm).2
          exact hns _ hsn rfl
        · intro v hv
          unfold seenB at hv
          dsimp only at hv ⊢
          by_cases hvx : v = x.block.toNat
          · subst hvx; exact .inl (List.mem_cons_self ..)
          · rw [List.getElem?_set_ne (Ne.symm hvx)] at hv
            rcases h.cover v hv with hc | hc
            · rw [hs] at hc
              exact .inl (List.mem_cons_of_mem _ hc)
            · exact .inr hc
        · exact fun v hv y hy => seen_mono (h.closedO v hv y hy)
        · intro y hy i z hi hz
          rcases List.mem_cons.1 hy with rfl | hy
          · exact absurd hi (Nat.not_lt_zero _)
          · rcases List.mem_cons.1 hy with rfl | hy
            · dsimp only at hi hz
              by_cases hie : i = e
              · subst hie
                rw [hx] at hz
                injection hz with hz
                subst hz
                exact hnew
              · exact seen_mono (h.closedS (b, e) (by rw [hs]; exact List.mem_cons_self ..) i z (by show i < e; omega) hz)
            · exact seen_mono (h.closedS y (by rw [hs]; exact List.mem_cons_of_mem _ hy) i z hi hz)
        · exact ⟨⟨x, hxm, rfl⟩, StackOk.head (x := (b, e)) (y := (b, e + 1)) rfl hch⟩
        · intro i v hi h0
          obtain ⟨p, hp1, hp2⟩ := h.par i v hi h0
          refine ⟨p, hp1, hp2.imp (fun hp2 => ?_) id⟩
          rw [hs] at hp2
          exact List.mem_cons_of_mem _ hp2
        · intro hst; cases hst
      · rename_i hu
        have hsx : seenB s x.block.toNat := by
          unfold seenB
          cases hv : s.seen[x.block.toNat]? with
          | none =>
            have := List.getElem?_eq_none_iff.1 hv
            rw [h.len] at this
            omega
          | some v =>
            cases v with
            | true => rfl
            | false => exact absurd hv hu
        refine ⟨⟨h.len, ?_⟩, h.out, ?_, ?_, h.closedO, ?_, ?_, ?_, ?_⟩
        · intro y hy
          rcases List.mem_cons.1 hy with rfl | hy
          · exact ⟨hb.1, hlt, hb.2.2⟩
          · exact h.stk y (by rw [hs]; exact List.mem_cons_of_mem _ hy)
        · exact hnd
        · intro v hv
          rcases h.cover v hv with hc | hc
          · rw [hs] at hc; exact .inl hc
          · exact .inr hc
        · intro y hy i z hi hz
          rcases List.mem_cons.1 hy with rfl | hy
          · dsimp only at hi hz
            by_cases hie : i = e
            · subst hie
              rw [hx] at hz
              injection hz with hz
              subst hz
              exact hsx
            · exact h.closedS (b, e) (by rw [hs]; exact List.mem_cons_self ..) i z (by show i < e; omega) hz
          · exact h.closedS y (by rw [hs]; exact List.mem_cons_of_mem _ hy) i z hi hz
        · exact StackOk.head (x := (b, e)) (y := (b, e + 1)) rfl hch
        · intro i v hi h0
          obtain ⟨p, hp1, hp2⟩ := h.par i v hi h0
          refine ⟨p, hp1, hp2.imp (fun hp2 => ?_) id⟩
          rw [hs] at hp2
          exact hp2
        · intro hst; cases hst
theorem nodup_lt {l : List Nat} {n : Nat} (h : l.Nodup) (hr : ∀ v ∈ l, v < n) : l.length ≤ n := by
  have := h.length_le_of_subset (l₂ := List.range n) fun v hv => List.mem_range.2 (hr v hv)
  simpa using this
theorem dfs_small {bs : List SBlock} {s : DState} (h : DfsInv bs s) : s.stack.length ≤ bs.length ∧ s.out.length ≤ bs.length := by
  have h1 := (List.nodup_append.1 h.nodup).1
  have h2 := (List.nodup_append.1 h.nodup).2.1
  have := nodup_lt h1 (n := bs.length) fun v hv => by
    obtain ⟨x, hx, rfl⟩ := List.mem_map.1 hv
    exact (h.stk x hx).1
  exact ⟨by simpa using this, nodup_lt h2 fun v hv => (h.out v hv).1⟩
theorem start_inv {bs : List SBlock} (h0 : 0 < bs.length) : DfsInv bs (dfsStart bs.length) := by
  have hs : (dfsStart bs.length).seen[0]? = some true := by
    show ((List.replicate bs.length false).set 0 true)[0]? = some true
    rw [List.getElem?_set, if_pos rfl, if_pos (by simpa using h0)]
  refine ⟨⟨by simp [dfsStart], fun x hx => ?_⟩, fun v hv => (by cases hv), by simp [dfsStart], fun v hv => ?_, fun v hv => (by cases hv), fun y hy i x hi => ?_, rfl, fun i v hi => (by simp [dfsStart] at hi), fun h => (by cases h)⟩
  · have hx := List.mem_singleton.1 hx
    subst hx
    exact ⟨h0, Nat.zero_le _, hs⟩
  · by_cases hv0 : v = 0
    · subst hv0; exact .inl (List.mem_cons_self ..)
    · unfold seenB at hv
      have : ((List.replicate bs.length false).set 0 true)[v]? = some true := hv
      rw [List.getElem?_set_ne (Ne.symm hv0), List.getElem?_replicate] at this
      split at this <;> cases this
  · have hy := List.mem_singleton.1 hy
    subst hy
    exact absurd hi (Nat.not_lt_zero _)
theorem run_inv {bs : List SBlock} (hE : ∀ b ∈ bs, ∀ e ∈ b.term.to, 1 ≤ e.block ∧ e.block < bs.length) : ∀ (n : Nat) (s : DState), DfsInv bs s → dfsW bs s ≤ n → DfsInv bs (dfsRun bs n s) ∧ (dfsRun bs n s).stack = []
  | 0, s, h, hw => by
    refine ⟨h, ?_⟩
    show s.stack = []
    cases hs : s.stack with
    | nil => rfl
    | cons x st =>
      have hb := h.stk x (by rw [hs]; exact List.mem_cons_self ..)
      unfold dfsW at hw
      rw [hs] at hw
      obtain ⟨b, e⟩ := x
      simp only [stackW, cost] at hw
      dsimp only at hb
      omega
  | n + 1, s, h, hw => by
    rw [dfsRun]
    split
    · rename_i he; exact ⟨h, he⟩
    · rename_i hne
      have := step_w h.toDfsInv0 hne
      exact run_inv hE n _ (step_inv hE h) (by omega)
theorem unseen_start (bs : List SBlock) : ∀ (l : List SBlock) (k : Nat), (∀ i b, l[i]? = some b → bs[k + i]? = some b) → unseenW bs k (List.replicate l.length false) = edgesN l + l.length
  | [], k, _ => rfl
  | b :: l, k, h => by
    have h1 := unseen_start bs l (k + 1) fun i b hb => by
      have := h (i + 1) b (by simpa using hb)
      rwa [show k + (i + 1) = k + 1 + i by omega] at this
    have h2 := h 0 b rfl
    rw [Nat.add_zero] at h2
    rw [List.length_cons, List.replicate_succ, unseenW, h1, edgesN, cost, toAt_get h2]
    simp
    omega
theorem start_weight {bs : List SBlock} (h0 : 0 < bs.length) : dfsW bs (dfsStart bs.length) = edgesN bs + bs.length := by
  have h1 := unseen_start bs bs 0 fun i b hb => by rw [Nat.zero_add]; exact hb
  have h2 := unseen_set bs (List.replicate bs.length false) 0 0 (by rw [List.getElem?_replicate, if_pos h0])
  unfold dfsW dfsStart
  simp only [stackW]
  rw [Nat.zero_add] at h2
  omega
structure OrderOk (bs : List SBlock) (l : List Nat) : Prop where
  nodup : l.Nodup
  lt : ∀ v ∈ l, v < bs.length
  zero : l[0]? = some 0
  closed : ∀ v ∈ l, ∀ w, Edge bs v w → w ∈ l
  par : ∀ (j v : Nat), l[j]? = some v → v ≠ 0 → ∃ i p, i < j ∧ l[i]? = some p ∧ Edge bs p v
theorem order_ok {bs : List SBlock} (h0 : 0 < bs.length) (hE : ∀ b ∈ bs, ∀ e ∈ b.term.to, 1 ≤ e.block ∧ e.block < bs.length) : OrderOk bs (orderF bs) := by
  obtain ⟨h, hst⟩ := run_inv hE (edgesN bs + bs.length) _ (start_inv h0) (by rw [start_weight h0]; exact Nat.le_refl _)
  have hpo : postF bs = (dfsRun bs (edgesN bs + bs.length) (dfsStart bs.length)).out := rfl
  unfold orderF
  rw [hpo]
  generalize dfsRun bs (edgesN bs + bs.length) (dfsStart bs.length) = s at *
  have hn := h.nodup
  have hcov := h.cover
  rw [hst] at hn hcov
  refine ⟨(List.reverse_perm _).nodup_iff.2 (by simpa using hn), fun v hv => (h.out v (List.mem_reverse.1 hv)).1, ?_, ?_, ?_⟩
  · obtain ⟨l, hl⟩ := h.root hst
    rw [hl]
    simp
  · rintro v hv w ⟨x, hx, rfl⟩
    have := h.closedO v (List.mem_reverse.1 hv) x hx
    rcases hcov _ this with hc | hc
    · cases hc
    · exact List.mem_reverse.2 hc
  · intro j v hj h0
    have hjl := (List.getElem?_eq_some_iff.1 hj).1
    rw [List.length_reverse] at hjl
    rw [List.getElem?_reverse hjl] at hj
    obtain ⟨p, hp, hp2⟩ := h.par _ v hj h0
    rcases hp2 with hp2 | ⟨i, hi, hi2⟩
    · rw [hst] at hp2; cases hp2
    · have hil := (List.getElem?_eq_some_iff.1 hi2).1
      refine ⟨s.out.length - 1 - i, p, by omega, ?_, hp⟩
      rw [List.getElem?_reverse (by omega)]
      rw [show s.out.length - 1 - (s.out.length - 1 - i) = i by omega]
      exact hi2
theorem post_len {bs : List SBlock} (h0 : 0 < bs.length) (hE : ∀ b ∈ bs, ∀ e ∈ b.term.to, 1 ≤ e.block ∧ e.block < bs.length) : (postF bs).length ≤ bs.length := by
  have h := order_ok h0 hE
  have := nodup_lt h.nodup h.lt
  rw [orderF, List.length_reverse] at this
  exact this
theorem predE_mem {k : Nat} {P : List (List Int)} {e : SEdge} {t : Nat} (he : e.block.toNat < P.length) {x : Int} : x ∈ ((predE k P e)[t]?.getD []) ↔ x ∈ (P[t]?.getD []) ∨ (x = k ∧ e.block.toNat = t) := by
  unfold predE
  rw [List.getElem?_set]
  by_cases h : e.block.toNat = t
  · subst h
    rw [if_pos rfl, if_pos he]
    simp
  · rw [if_neg h]
    simp [h]
theorem foldl_mem {k : Nat} {t : Nat} {x : Int} : ∀ {l : List SEdge} {P : List (List Int)}, (∀ e ∈ l, e.block.toNat < P.length) → (x ∈ ((l.foldl (predE k) P)[t]?.getD []) ↔ x ∈ (P[t]?.getD []) ∨ (x = k ∧ ∃ e ∈ l, e.block.toNat = t))
  | [], P, _ => by simp
  | e :: l, P, h => by
    rw [List.foldl_cons, foldl_mem (P := predE k P e) fun y hy => by rw [predE_len]; exact h y (List.mem_cons_of_mem _ hy), predE_mem (h e (List.mem_cons_self ..))]
    constructor
    · rintro ((h1 | ⟨h1, h2⟩) | ⟨h1, y, hy, h2⟩)
      · exact .inl h1
      · exact .inr ⟨h1, e, List.mem_cons_self .., h2⟩
      · exact .inr ⟨h1, y, List.mem_cons_of_mem _ hy, h2⟩
    · rintro (h1 | ⟨h1, y, hy, h2⟩)
      · exact .inl (.inl h1)
      · rcases List.mem_cons.1 hy with rfl | hy
        · exact .inl (.inr ⟨h1, h2⟩)
        · exact .inr ⟨h1, y, hy, h2⟩
theorem predL_mem {t : Nat} {x : Int} : ∀ {l : List SBlock} {k : Nat} {P : List (List Int)}, (∀ b ∈ l, ∀ e ∈ b.term.to, e.block.toNat < P.length) →
    (x ∈ ((predL k l P)[t]?.getD []) ↔ x ∈ (P[t]?.getD []) ∨ ∃ (i : Nat) (b : SBlock), l[i]? = some b ∧ x = ((k + i : Nat) : Int) ∧ ∃ e ∈ b.term.to, e.block.toNat = t)
  | [], k, P, _ => by simp [predL]
  | b :: l, k, P, h => by
    have hb := h b (List.mem_cons_self ..)
    rw [predL, predL_mem (k := k + 1) (P := predB k P b) fun c hc e he => by rw [predB, foldl_len]; exact h c (List.mem_cons_of_mem _ hc) e he]
    rw [predB, foldl_mem hb]
    constructor
    · rintro ((h1 | ⟨h1, h2⟩) | ⟨i, c, hc, h1, h2⟩)
      · exact .inl h1
      · exact .inr ⟨0, b, rfl, h1, h2⟩
      · exact .inr ⟨i + 1, c, by simpa using hc, by rw [h1]; congr 1; omega, h2⟩
    · rintro (h1 | ⟨i, c, hc, h1, h2⟩)
      · exact .inl (.inl h1)
      · cases i with
        | zero =>
          simp at hc
          subst hc
          exact .inl (.inr ⟨h1, h2⟩)
        | succ i => exact .inr ⟨i, c, by simpa using hc, by rw [h1]; congr 1; omega, h2⟩
theorem preds_mem {bs : List SBlock} (hE : ∀ b ∈ bs, ∀ e ∈ b.term.to, 1 ≤ e.block ∧ e.block < bs.length) {t : Nat} {x : Int} : x ∈ ((predsF bs)[t]?.getD []) ↔ ∃ p : Nat, x = p ∧ Edge bs p t := by
  rw [predsF, predL_mem fun b hb e he => by have := hE b hb e he; rw [List.length_replicate]; omega]
  constructor
  · rintro (h | ⟨i, b, hb, h1, e, he, h2⟩)
    · rw [List.getElem?_replicate] at h
      split at h <;> simp at h
    · exact ⟨i, by rw [h1]; congr 1; omega, e, by rw [toAt_get hb]; exact he, h2⟩
  · rintro ⟨p, rfl, e, he, h2⟩
    right
    unfold toAt at he
    cases hb : bs[p]? with
    | none => rw [hb] at he; cases he
    | some b => rw [hb] at he; exact ⟨p, b, hb, by congr 1; omega, e, he, h2⟩
end Go.SM
end
section
set_option linter.unusedVariables false
set_option linter.unusedSimpArgs false
set_option linter.unusedSectionVars false
namespace Go.SM
open Go.VL
def gI (l : List Int) (i : Int) : Int := l[i.toNat]?.getD 0
def meetF (ov pl : List Int) : Nat → Int → Int → Int
  | 0, a, _ => a
  | n + 1, a, b => if a = b then a else if gI pl a > gI pl b then meetF ov pl n (gI ov a) b else meetF ov pl n a (gI ov b)
def skipP (ov pl : List Int) (p : Int) : Bool := decide (gI pl p < 0) || (decide (p ≠ 0) && decide (gI ov p < 0))
def nextL (ov pl : List Int) (m : Nat) : Int → List Int → Int
  | cur, [] => cur
  | cur, p :: ps => nextL ov pl m (if skipP ov pl p then cur else if cur < 0 then p else meetF ov pl m cur p) ps
def placeF (ord : List Int) (n : Nat) : List Int := (List.range n).map fun k : Nat => idxOf (fun x => decide ((k : Int) = x)) ord
structure TState where
  ov : List Int
  again : Bool
def treeNode (bs : List SBlock) (pl : List Int) (s : TState) (k : Int) : TState :=
  let nx := nextL s.ov pl (2 * bs.length + 1) (-1) ((predsF bs)[k.toNat]?.getD [])
  if nx ≠ gI s.ov k then ⟨s.ov.set k.toNat nx, true⟩ else s
def treePass (bs : List SBlock) (pl : List Int) : List Int → TState → TState
  | [], s => s
  | k :: l, s => treePass bs pl l (treeNode bs pl s k)
def treeIter (bs : List SBlock) (pl : List Int) (ord : List Int) : Nat → TState → TState
  | 0, s => s
  | n + 1, s => if s.again then treeIter bs pl ord n (treePass bs pl (ord.drop 1) ⟨s.ov, false⟩) else s
def ordZ (bs : List SBlock) : List Int := (orderF bs).map fun k : Nat => (k : Int)
def placeZ (bs : List SBlock) : List Int := placeF (ordZ bs) bs.length
def treeF (bs : List SBlock) : List Int := (treeIter bs (placeZ bs) (ordZ bs) (bs.length * bs.length + 2) ⟨List.replicate bs.length (-1), true⟩).ov
theorem place_len (bs : List SBlock) : (placeZ bs).length = bs.length := by simp [placeZ, placeF]
theorem idx_nat {l : List Nat} {v : Nat} : idxOf (fun x => decide ((v : Int) = x)) (l.map fun k : Nat => (k : Int)) = -1 ∧ v ∉ l ∨ ∃ i, idxOf (fun x => decide ((v : Int) = x)) (l.map fun k : Nat => (k : Int)) = (i : Nat) ∧ l[i]? = some v := by
  rcases idxOf_range (fun x => decide ((v : Int) = x)) (l.map fun k : Nat => (k : Int)) with ⟨h1, h2⟩ | ⟨i, x, h1, h2, h3, _⟩
  · refine .inl ⟨h1, fun hm => ?_⟩
    rw [List.any_eq_false] at h2
    exact h2 (v : Int) (List.mem_map.2 ⟨v, hm, rfl⟩) (by simp)
  · refine .inr ⟨i, h1, ?_⟩
    rw [List.getElem?_map] at h2
    obtain ⟨w, hw, rfl⟩ := Option.map_eq_some_iff.1 h2
    rw [hw]
    have : (v : Int) = (w : Int) := by simpa using h3
    congr 1
    omega
theorem place_get {bs : List SBlock} {v : Nat} (hv : v < bs.length) : gI (placeZ bs) v = -1 ∧ v ∉ orderF bs ∨ ∃ i, gI (placeZ bs) v = (i : Nat) ∧ (orderF bs)[i]? = some v := by
  have : gI (placeZ bs) v = idxOf (fun x => decide ((v : Int) = x)) (ordZ bs) := by
    unfold gI placeZ placeF
    rw [Int.toNat_natCast, List.getElem?_map, List.getElem?_range hv]
    rfl
  rw [this]
  exact idx_nat
def pos (bs : List SBlock) (v : Nat) : Nat := (gI (placeZ bs) v).toNat
section
variable {bs : List SBlock} (ho : OrderOk bs (orderF bs))
include ho
theorem place_of {v : Nat} (hv : v ∈ orderF bs) : gI (placeZ bs) v = (pos bs v : Nat) ∧ (orderF bs)[pos bs v]? = some v := by
  rcases place_get (ho.lt v hv) with ⟨_, h⟩ | ⟨i, h1, h2⟩
  · exact absurd hv h
  · unfold pos
    rw [h1, Int.toNat_natCast]
    exact ⟨rfl, h2⟩
theorem pos_of_get {v i : Nat} (h : (orderF bs)[i]? = some v) : pos bs v = i := by
  have := (place_of ho (List.mem_of_getElem? h)).2
  exact (List.getElem?_inj (List.getElem?_eq_some_iff.1 this).1 ho.nodup).1 (this.trans h.symm)
theorem pos_inj {v w : Nat} (hv : v ∈ orderF bs) (hw : w ∈ orderF bs) (h : pos bs v = pos bs w) : v = w := by
  have h1 := (place_of ho hv).2
  have h2 := (place_of ho hw).2
  rw [h, h2] at h1
  injection h1 with h1
  exact h1.symm
theorem pos_zero : pos bs 0 = 0 := pos_of_get ho ho.zero
theorem pos_lt {v : Nat} (hv : v ∈ orderF bs) : pos bs v < bs.length := by
  have := (List.getElem?_eq_some_iff.1 (place_of ho hv).2).1
  have := nodup_lt ho.nodup ho.lt
  omega
theorem zero_mem : 0 ∈ orderF bs := List.mem_of_getElem? ho.zero
theorem par_of {v : Nat} (hv : v ∈ orderF bs) (h0 : v ≠ 0) : ∃ p, p ∈ orderF bs ∧ pos bs p < pos bs v ∧ Edge bs p v := by
  obtain ⟨i, p, hi, hp, he⟩ := ho.par _ v (place_of ho hv).2 h0
  exact ⟨p, List.mem_of_getElem? hp, by rw [pos_of_get ho hp]; exact hi, he⟩
open Classical in
omit ho in
noncomputable def pi (bs : List SBlock) (v : Nat) : Nat := if h : ∃ p, p ∈ orderF bs ∧ pos bs p < pos bs v ∧ Edge bs p v then Classical.choose h else 0
theorem pi_spec {v : Nat} (hv : v ∈ orderF bs) (h0 : v ≠ 0) : pi bs v ∈ orderF bs ∧ pos bs (pi bs v) < pos bs v ∧ Edge bs (pi bs v) v := by
  have h := par_of ho hv h0
  unfold pi
  rw [dif_pos h]
  exact Classical.choose_spec h
end
inductive Anc (ov : List Int) : Nat → Nat → Prop where
  | refl (a : Nat) : Anc ov a a
  | step {a q x : Nat} : ov[a]? = some (q : Int) → Anc ov q x → Anc ov a x
inductive AncP (bs : List SBlock) : Nat → Nat → Prop where
  | refl (a : Nat) : AncP bs a a
  | step {a x : Nat} : a ≠ 0 → AncP bs (pi bs a) x → AncP bs a x
theorem Anc.trans {ov : List Int} {a b c : Nat} (h : Anc ov a b) (k : Anc ov b c) : Anc ov a c := by
  induction h with
  | refl => exact k
  | step h _ ih => exact .step h (ih k)
structure Tree (bs : List SBlock) (ov : List Int) : Prop where
  len : ov.length = bs.length
  root : ov[0]? = some (-1)
  out : ∀ v, v < bs.length → v ∉ orderF bs → ov[v]? = some (-1)
  up : ∀ (v : Nat) (x : Int), v ∈ orderF bs → v ≠ 0 → ov[v]? = some x → 0 ≤ x → ∃ q : Nat, x = q ∧ q ∈ orderF bs ∧ pos bs q < pos bs v ∧ (q = 0 ∨ ∃ y : Int, ov[q]? = some y ∧ 0 ≤ y)
  low : ∀ (v : Nat) (x : Int), ov[v]? = some x → x < 0 → x = -1
def InT (bs : List SBlock) (ov : List Int) (v : Nat) : Prop := v ∈ orderF bs ∧ (v = 0 ∨ ∃ x : Int, ov[v]? = some x ∧ 0 ≤ x)
section
variable {bs : List SBlock} (ho : OrderOk bs (orderF bs)) {ov : List Int}
include ho
theorem Tree.parent (h : Tree bs ov) {v : Nat} (hv : InT bs ov v) (h0 : v ≠ 0) : ∃ q : Nat, ov[v]? = some (q : Int) ∧ InT bs ov q ∧ pos bs q < pos bs v := by
  obtain ⟨hm, hv⟩ := hv
  rcases hv with hv | ⟨x, hx, hx0⟩
  · exact absurd hv h0
  · obtain ⟨q, rfl, h1, h2, h3⟩ := h.up v x hm h0 hx hx0
    exact ⟨q, hx, ⟨h1, h3⟩, h2⟩
theorem Tree.anc (h : Tree bs ov) {v x : Nat} (hv : InT bs ov v) (ha : Anc ov v x) : InT bs ov x ∧ pos bs x ≤ pos bs v ∧ (x ≠ v → pos bs x < pos bs v) := by
  induction ha with
  | refl a => exact ⟨hv, Nat.le_refl _, fun h => absurd rfl h⟩
  | @step a q x hq _ ih =>
    by_cases h0 : a = 0
    · subst h0
      rw [h.root] at hq
      injection hq with hq
      omega
    · obtain ⟨q', hq', hi, hp⟩ := h.parent ho hv h0
      rw [hq] at hq'
      injection hq' with hq'
      have : q = q' := by omega
      subst this
      have := ih hi
      exact ⟨this.1, by omega, fun _ => by omega⟩
theorem Tree.zero (h : Tree bs ov) {x : Nat} (ha : Anc ov 0 x) : x = 0 := by
  cases ha with
  | refl => rfl
  | step hq _ =>
    rw [h.root] at hq
    injection hq with hq
    omega
theorem Tree.cases (h : Tree bs ov) {v q x : Nat} (hq : ov[v]? = some (q : Int)) (ha : Anc ov v x) : x = v ∨ Anc ov q x := by
  cases ha with
  | refl => exact .inl rfl
  | @step _ q' _ hq' k =>
    rw [hq] at hq'
    injection hq' with hq'
    have : q = q' := by omega
    subst this
    exact .inr k
theorem Tree.chain (h : Tree bs ov) {v x y : Nat} (hv : InT bs ov v) (hx : Anc ov v x) (hy : Anc ov v y) (hp : pos bs x ≤ pos bs y) : Anc ov y x := by
  induction hx with
  | refl a =>
    have := h.anc ho hv hy
    have : pos bs y = pos bs a := by omega
    rw [pos_inj ho (h.anc ho hv hy).1.1 hv.1 this]
    exact .refl _
  | @step a q x hq ha ih =>
    by_cases h0 : a = 0
    · subst h0
      rw [h.root] at hq
      injection hq with hq
      omega
    · obtain ⟨q', hq', hi, _⟩ := h.parent ho hv h0
      rw [hq] at hq'
      injection hq' with hq'
      have : q = q' := by omega
      subst this
      rcases h.cases ho hq hy with rfl | hy
      · exact .step hq ha
      · exact ih hi hy hp
theorem ancP_mem {v x : Nat} (hv : v ∈ orderF bs) (ha : AncP bs v x) : x ∈ orderF bs ∧ pos bs x ≤ pos bs v := by
  induction ha with
  | refl a => exact ⟨hv, Nat.le_refl _⟩
  | step h0 _ ih =>
    have hp := pi_spec ho hv h0
    have := ih hp.1
    exact ⟨this.1, by omega⟩
theorem gI_get {l : List Int} {v : Nat} {x : Int} (h : l[v]? = some x) : gI l v = x := by rw [gI, Int.toNat_natCast, h]; rfl
theorem meet_ok (h : Tree bs ov) : ∀ (n : Nat) (a b : Nat), InT bs ov a → InT bs ov b → pos bs a + pos bs b + 1 ≤ n →
    ∃ c : Nat, meetF ov (placeZ bs) n a b = c ∧ InT bs ov c ∧ Anc ov a c ∧ Anc ov b c ∧ ∀ x, Anc ov a x → Anc ov b x → Anc ov c x
  | 0, a, b, _, _, hn => by omega
  | n + 1, a, b, ha, hb, hn => by
    rw [meetF]
    by_cases hab : a = b
    · subst hab
      rw [if_pos rfl]
      exact ⟨a, rfl, ha, .refl _, .refl _, fun x hx _ => hx⟩
    · rw [if_neg (by omega)]
      have hpa := (place_of ho ha.1).1
      have hpb := (place_of ho hb.1).1
      rw [hpa, hpb]
      have hne : pos bs a ≠ pos bs b := fun e => hab (pos_inj ho ha.1 hb.1 e)
      by_cases hlt : (pos bs a : Int) > (pos bs b : Int)
      · rw [if_pos hlt]
        have h0 : a ≠ 0 := fun e => by subst e; rw [pos_zero ho] at hlt; omega
        obtain ⟨q, hq, hi, hp⟩ := h.parent ho ha h0
        rw [gI_get ho hq]
        obtain ⟨c, e, hc, h1, h2, h3⟩ := meet_ok h n q b hi hb (by omega)
        refine ⟨c, e, hc, .step hq h1, h2, fun x hx hy => ?_⟩
        rcases h.cases ho hq hx with rfl | hx
        · have := (h.anc ho hb hy).2.1
          omega
        · exact h3 x hx hy
      · rw [if_neg hlt]
        have h0 : b ≠ 0 := fun e => by subst e; rw [pos_zero ho] at hlt hne; omega
        obtain ⟨q, hq, hi, hp⟩ := h.parent ho hb h0
        rw [gI_get ho hq]
        obtain ⟨c, e, hc, h1, h2, h3⟩ := meet_ok h n a q ha hi (by omega)
        refine ⟨c, e, hc, h1, .step hq h2, fun x hx hy => ?_⟩
        rcases h.cases ho hq hy with rfl | hy
        · have := (h.anc ho ha hx).2.1
          omega
        · exact h3 x hx hy
theorem InT.fuel {v : Nat} (h : InT bs ov v) : pos bs v < bs.length := pos_lt ho h.1
theorem skip_iff {p : Nat} (h : Tree bs ov) (hp : p < bs.length) : skipP ov (placeZ bs) p = false ↔ InT bs ov p := by
  unfold skipP
  rw [Bool.or_eq_false_iff, decide_eq_false_iff_not, Bool.and_eq_false_iff, decide_eq_false_iff_not, decide_eq_false_iff_not]
  obtain ⟨x, hx⟩ : ∃ x, ov[p]? = some x := ⟨_, List.getElem?_eq_getElem (by rw [h.len]; exact hp)⟩
  rw [gI_get ho hx]
  rcases place_get hp with ⟨h1, h2⟩ | ⟨i, h1, h2⟩
  · rw [h1]
    constructor
    · intro h3; omega
    · intro h3; exact absurd h3.1 h2
  · rw [h1]
    constructor
    · rintro ⟨_, h3⟩
      refine ⟨List.mem_of_getElem? h2, ?_⟩
      rcases h3 with h3 | h3
      · left; omega
      · exact .inr ⟨x, hx, by omega⟩
    · rintro ⟨_, h3⟩
      refine ⟨by omega, ?_⟩
      rcases h3 with h3 | ⟨y, hy, h4⟩
      · left; omega
      · rw [hx] at hy
        injection hy with hy
        right; omega
theorem next_ok (h : Tree bs ov) : ∀ (ps : List Int) (cur : Int) (Q : List Nat), (∀ p ∈ ps, ∃ k : Nat, p = k ∧ k < bs.length) →
    (cur = -1 ∧ Q = [] ∨ ∃ c : Nat, cur = c ∧ InT bs ov c ∧ Q ≠ [] ∧ (∀ p ∈ Q, Anc ov p c) ∧ ∀ x, (∀ p ∈ Q, Anc ov p x) → Anc ov c x) →
    ∃ Q' : List Nat, (∀ p : Nat, p ∈ Q' ↔ p ∈ Q ∨ ((p : Int) ∈ ps ∧ InT bs ov p)) ∧ (nextL ov (placeZ bs) (2 * bs.length + 1) cur ps = -1 ∧ Q' = [] ∨ ∃ c : Nat, nextL ov (placeZ bs) (2 * bs.length + 1) cur ps = c ∧ InT bs ov c ∧ Q' ≠ [] ∧ (∀ p ∈ Q', Anc ov p c) ∧ ∀ x, (∀ p ∈ Q', Anc ov p x) → Anc ov c x)
  | [], cur, Q, _, hc => ⟨Q, fun p => by simp, hc⟩
  | p :: ps, cur, Q, hps, hc => by
    obtain ⟨k, rfl, hk⟩ := hps p (List.mem_cons_self ..)
    have hps' := fun q hq => hps q (List.mem_cons_of_mem _ hq)
    rw [nextL]
    cases hs : skipP ov (placeZ bs) (k : Int) with
    | true =>
      rw [if_pos rfl]
      obtain ⟨Q', h1, h2⟩ := next_ok h ps cur Q hps' hc
      refine ⟨Q', fun q => ?_, h2⟩
      rw [h1 q]
      constructor
      · rintro (h3 | ⟨h3, h4⟩)
        · exact .inl h3
        · exact .inr ⟨List.mem_cons_of_mem _ h3, h4⟩
      · rintro (h3 | ⟨h3, h4⟩)
        · exact .inl h3
        · rcases List.mem_cons.1 h3 with h3 | h3
          · have : q = k := by omega
            subst this
            rw [(skip_iff ho h hk).2 h4] at hs
            cases hs
          · exact .inr ⟨h3, h4⟩
    | false =>
      rw [if_neg (by decide)]
      have hi := (skip_iff ho h hk).1 hs
      have key : ∀ cur' : Int, (∃ c : Nat, cur' = c ∧ InT bs ov c ∧ (∀ p ∈ k :: Q, Anc ov p c) ∧ ∀ x, (∀ p ∈ k :: Q, Anc ov p x) → Anc ov c x) → ∃ Q' : List Nat, (∀ p : Nat, p ∈ Q' ↔ p ∈ Q ∨ ((p : Int) ∈ (k : Int) :: ps ∧ InT bs ov p)) ∧ (nextL ov (placeZ bs) (2 * bs.length + 1) cur' ps = -1 ∧ Q' = [] ∨ ∃ c : Nat, nextL ov (placeZ bs) (2 * bs.length + 1) cur' ps = c ∧ InT bs ov c ∧ Q' ≠ [] ∧ (∀ p ∈ Q', Anc ov p c) ∧ ∀ x, (∀ p ∈ Q', Anc ov p x) → Anc ov c x) := fun cur' ⟨c, e, h1, h2, h3⟩ => by
        obtain ⟨Q', g1, g2⟩ := next_ok h ps cur' (k :: Q) hps' (.inr ⟨c, e, h1, by simp, h2, h3⟩)
        refine ⟨Q', fun q => ?_, g2⟩
        rw [g1 q]
        constructor
        · rintro (h4 | ⟨h4, h5⟩)
          · rcases List.mem_cons.1 h4 with rfl | h4
            · exact .inr ⟨List.mem_cons_self .., hi⟩
            · exact .inl h4
          · exact .inr ⟨List.mem_cons_of_mem _ h4, h5⟩
        · rintro (h4 | ⟨h4, h5⟩)
          · exact .inl (List.mem_cons_of_mem _ h4)
          · rcases List.mem_cons.1 h4 with h4 | h4
            · have : q = k := by omega
              subst this
              exact .inl (List.mem_cons_self ..)
            · exact .inr ⟨h4, h5⟩
      rcases hc with ⟨rfl, rfl⟩ | ⟨c, rfl, hci, hQ, h1, h2⟩
      · rw [if_pos (by decide)]
        refine key _ ⟨k, rfl, hi, fun p hp => ?_, fun x hx => hx k (List.mem_cons_self ..)⟩
        rw [List.mem_singleton.1 hp]
        exact .refl _
      · rw [if_neg (by omega)]
        have hf1 := InT.fuel ho hci
        have hf2 := InT.fuel ho hi
        obtain ⟨d, e, hd, g1, g2, g3⟩ := meet_ok ho h (2 * bs.length + 1) c k hci hi (by omega)
        refine key _ ⟨d, e, hd, fun p hp => ?_, fun x hx => ?_⟩
        · rcases List.mem_cons.1 hp with rfl | hp
          · exact g2
          · exact (h1 p hp).trans g1
        · exact g3 x (h2 x fun p hp => hx p (List.mem_cons_of_mem _ hp)) (hx k (List.mem_cons_self ..))
end
end Go.SM
end
section
set_option linter.unusedVariables false
set_option linter.unusedSimpArgs false
set_option linter.unusedSectionVars false
namespace Go.SM
open Go.VL
structure TInv (bs : List SBlock) (ov : List Int) (i : Nat) : Prop where
  tree : Tree bs ov
  done : ∀ (j v : Nat), j < i → (orderF bs)[j]? = some v → InT bs ov v
  down : ∀ (v w : Nat), InT bs ov v → w ∈ orderF bs → pos bs w < pos bs v → InT bs ov w
  anc : ∀ (v x : Nat), InT bs ov v → Anc ov v x → AncP bs v x
  most : ∀ (v q : Nat), InT bs ov v → v ≠ 0 → ov[v]? = some (q : Int) → ∀ y, (∀ p, Edge bs p v → InT bs ov p → Anc ov p y) → pos bs y ≤ pos bs q
  past : ∀ (v : Nat), v ∈ orderF bs → pos bs v < i → ∀ q x, AncP bs v q → Anc ov v x → pos bs x ≤ pos bs q → Anc ov q x
theorem AncP.ne {bs : List SBlock} {v x : Nat} (h : AncP bs v x) (hx : x ≠ v) : v ≠ 0 ∧ AncP bs (pi bs v) x := by
  cases h with
  | refl => exact absurd rfl hx
  | step h0 k => exact ⟨h0, k⟩
def hW (bs : List SBlock) (x : Int) : Nat := if x < 0 then bs.length else pos bs x.toNat
def treeW (bs : List SBlock) (ov : List Int) : Nat := (ov.map (hW bs)).sum
section
variable {bs : List SBlock} (ho : OrderOk bs (orderF bs)) (hE : ∀ b ∈ bs, ∀ e ∈ b.term.to, 1 ≤ e.block ∧ e.block < bs.length) {ov : List Int}
include ho
theorem edge_mem {p v : Nat} (hp : p ∈ orderF bs) (he : Edge bs p v) : v ∈ orderF bs := ho.closed p hp v he
theorem set_get {k v : Nat} {c : Int} (h : v ≠ k) : (ov.set k c)[v]? = ov[v]? := List.getElem?_set_ne (Ne.symm h)
theorem anc_before (h : Tree bs ov) {k c v x : Nat} (hv : InT bs ov v) (hp : pos bs v < pos bs k) : Anc (ov.set k (c : Int)) v x ↔ Anc ov v x := by
  constructor
  · intro ha
    generalize ho' : ov.set k (c : Int) = ov' at ha
    induction ha with
    | refl a => exact .refl _
    | @step a q x hq _ ih =>
      subst ho'
      have hak : a ≠ k := fun e => by subst e; omega
      rw [set_get ho hak] at hq
      by_cases h0 : a = 0
      · subst h0
        rw [h.root] at hq
        injection hq with hq
        omega
      · obtain ⟨q', hq', hi, hlt⟩ := h.parent ho hv h0
        have e : (q : Int) = q' := by rw [hq] at hq'; injection hq'
        have : q = q' := by omega
        subst this
        exact .step hq (ih hi (by omega))
  · intro ha
    induction ha with
    | refl a => exact .refl _
    | @step a q x hq _ ih =>
      have hak : a ≠ k := fun e => by subst e; omega
      by_cases h0 : a = 0
      · subst h0
        rw [h.root] at hq
        injection hq with hq
        omega
      · obtain ⟨q', hq', hi, hlt⟩ := h.parent ho hv h0
        have e : (q : Int) = q' := by rw [hq] at hq'; injection hq'
        have : q = q' := by omega
        subst this
        exact .step (by rw [set_get ho hak]; exact hq) (ih hi (by omega))
theorem anc_shrink (h : Tree bs ov) {k c v x : Nat} (hkl : k < ov.length) (hk : InT bs ov k → ∃ q : Nat, ov[k]? = some (q : Int) ∧ Anc ov q c) (hv : InT bs ov v) (ha : Anc (ov.set k (c : Int)) v x) : Anc ov v x := by
  generalize ho' : ov.set k (c : Int) = ov' at ha
  induction ha with
  | refl a => exact .refl _
  | @step a q x hq _ ih =>
    subst ho'
    by_cases hak : a = k
    · subst hak
      rw [List.getElem?_set, if_pos rfl, if_pos hkl] at hq
      injection hq with hq
      have : c = q := by omega
      subst this
      obtain ⟨q', hq', hc⟩ := hk hv
      have hkc : Anc ov a c := .step hq' hc
      exact hkc.trans (ih (h.anc ho hv hkc).1)
    · rw [set_get ho hak] at hq
      by_cases h0 : a = 0
      · subst h0
        rw [h.root] at hq
        injection hq with hq
        omega
      · obtain ⟨q', hq', hi, hlt⟩ := h.parent ho hv h0
        have e : (q : Int) = q' := by rw [hq] at hq'; injection hq'
        have : q = q' := by omega
        subst this
        exact .step hq (ih hi)
theorem anc_self (h : Tree bs ov) {k c x : Nat} (hkl : k < ov.length) (hc : InT bs ov c) (hp : pos bs c < pos bs k) : Anc (ov.set k (c : Int)) k x ↔ x = k ∨ Anc ov c x := by
  have hck : (ov.set k (c : Int))[k]? = some (c : Int) := by rw [List.getElem?_set, if_pos rfl, if_pos hkl]
  constructor
  · intro ha
    cases ha with
    | refl => exact .inl rfl
    | @step _ q _ hq ha =>
      rw [hck] at hq
      injection hq with hq
      have : c = q := by omega
      subst this
      exact .inr ((anc_before ho h hc hp).1 ha)
  · rintro (rfl | ha)
    · exact .refl _
    · exact .step hck ((anc_before ho h hc hp).2 ha)
theorem inT_set {k c v : Nat} (hkl : k < ov.length) (hkm : k ∈ orderF bs) : InT bs (ov.set k (c : Int)) v ↔ InT bs ov v ∨ v = k := by
  unfold InT
  by_cases hvk : v = k
  · subst hvk
    have hck : (ov.set v (c : Int))[v]? = some (c : Int) := by rw [List.getElem?_set, if_pos rfl, if_pos hkl]
    exact ⟨fun _ => .inr rfl, fun _ => ⟨hkm, .inr ⟨c, hck, by omega⟩⟩⟩
  · rw [set_get ho hvk]
    simp [hvk]
include hE
theorem preds_nat {v : Nat} : ∀ p ∈ ((predsF bs)[v]?.getD []), ∃ k : Nat, p = k ∧ k < bs.length := fun p hp => by
  obtain ⟨k, rfl, he⟩ := (preds_mem hE).1 hp
  refine ⟨k, rfl, ?_⟩
  obtain ⟨x, hx, _⟩ := he
  unfold toAt at hx
  cases hb : bs[k]? with
  | none => rw [hb] at hx; cases hx
  | some b => exact (List.getElem?_eq_some_iff.1 hb).1
theorem next_of {i k : Nat} (h : TInv bs ov i) (h1 : 1 ≤ i) (hk : (orderF bs)[i]? = some k) :
    ∃ c : Nat, nextL ov (placeZ bs) (2 * bs.length + 1) (-1) ((predsF bs)[k]?.getD []) = c ∧ InT bs ov c ∧ pos bs c < pos bs k ∧ k ≠ 0 ∧ (∀ p, Edge bs p k → InT bs ov p → Anc ov p c) ∧ (∀ x, (∀ p, Edge bs p k → InT bs ov p → Anc ov p x) → Anc ov c x) ∧ InT bs ov (pi bs k) ∧ Anc ov (pi bs k) c := by
  have hkm := List.mem_of_getElem? hk
  have hpk := pos_of_get ho hk
  have hk0 : k ≠ 0 := fun e => by
    subst e
    rw [pos_zero ho] at hpk
    omega
  obtain ⟨hp1, hp2, hp3⟩ := pi_spec ho hkm hk0
  have hpi : InT bs ov (pi bs k) := h.done _ _ (by omega) (place_of ho hp1).2
  obtain ⟨Q, hQ, hc⟩ := next_ok ho h.tree _ (-1) [] (preds_nat ho hE) (.inl ⟨rfl, rfl⟩)
  have hmem : ∀ p : Nat, p ∈ Q ↔ Edge bs p k ∧ InT bs ov p := fun p => by
    rw [hQ p]
    constructor
    · rintro (h3 | ⟨h3, h4⟩)
      · cases h3
      · obtain ⟨q, hq, he⟩ := (preds_mem hE).1 h3
        have : p = q := by omega
        subst this
        exact ⟨he, h4⟩
    · rintro ⟨h3, h4⟩
      exact .inr ⟨(preds_mem hE).2 ⟨p, rfl, h3⟩, h4⟩
  have hpQ : pi bs k ∈ Q := (hmem _).2 ⟨hp3, hpi⟩
  rcases hc with ⟨_, rfl⟩ | ⟨c, e, hci, _, h2, h3⟩
  · cases hpQ
  · have hpc := h2 _ hpQ
    have := h.tree.anc ho hpi hpc
    exact ⟨c, e, hci, by omega, hk0, fun p hp hi => h2 p ((hmem p).2 ⟨hp, hi⟩), fun x hx => h3 x fun p hp => hx p ((hmem p).1 hp).1 ((hmem p).1 hp).2, hpi, hpc⟩
theorem node_step {i k : Nat} {a : Bool} (h : TInv bs ov i) (h1 : 1 ≤ i) (hk : (orderF bs)[i]? = some k) :
    TInv bs (treeNode bs (placeZ bs) ⟨ov, a⟩ k).ov (i + 1) ∧ (treeNode bs (placeZ bs) ⟨ov, a⟩ k = ⟨ov, a⟩ ∧ gI ov k = nextL ov (placeZ bs) (2 * bs.length + 1) (-1) ((predsF bs)[k]?.getD []) ∨ (treeNode bs (placeZ bs) ⟨ov, a⟩ k).again = true ∧ treeW bs (treeNode bs (placeZ bs) ⟨ov, a⟩ k).ov < treeW bs ov) := by
  obtain ⟨c, ec, hci, hcp, hk0, hA, hB, hpi, hpc⟩ := next_of ho hE h h1 hk
  have hkm := List.mem_of_getElem? hk
  have hpk := pos_of_get ho hk
  have hkl : k < ov.length := by rw [h.tree.len]; exact ho.lt k hkm
  obtain ⟨x, hx⟩ : ∃ x, ov[k]? = some x := ⟨_, List.getElem?_eq_getElem hkl⟩
  have hgx := gI_get ho hx
  have hpik := (pi_spec ho hkm hk0).2.1
  -- what 'past' says of the block itself, once its ancestor is c
  have pastk : ∀ q y, AncP bs k q → (y = k ∨ Anc ov c y) → pos bs y ≤ pos bs q → q ≠ k → Anc ov q y := fun q y hq hy hle hqk => by
    have hq2 := (hq.ne hqk).2
    have hqm := ancP_mem ho (pi_spec ho hkm hk0).1 hq2
    rcases hy with rfl | hy
    · omega
    · exact h.past (pi bs k) (pi_spec ho hkm hk0).1 (by omega) q y hq2 (hpc.trans hy) hle
  unfold treeNode
  simp only [Int.toNat_natCast]
  rw [ec, hgx]
  by_cases hcx : (c : Int) = x
  · -- nothing changes
    rw [if_neg (fun hne => hne hcx)]
    refine ⟨⟨h.tree, fun j v hj hv => ?_, h.down, h.anc, h.most, fun v hv hlt q y hq hy hle => ?_⟩, .inl ⟨rfl, hcx.symm⟩⟩
    · by_cases hji : j < i
      · exact h.done j v hji hv
      · have : j = i := by omega
        subst this
        rw [hk] at hv
        injection hv with hv
        subst hv
        exact ⟨hkm, .inr ⟨x, hx, by omega⟩⟩
    · by_cases hlt2 : pos bs v < i
      · exact h.past v hv hlt2 q y hq hy hle
      · have hvk : v = k := pos_inj ho hv hkm (by omega)
        subst hvk
        by_cases hqk : q = v
        · subst hqk; exact hy
        · subst hcx
          exact pastk q y hq (h.tree.cases ho hx hy) hle hqk
  · rw [if_pos hcx]
    -- how the block's ancestor moves up
    have hup : InT bs ov k → ∃ q : Nat, ov[k]? = some (q : Int) ∧ Anc ov q c ∧ pos bs c < pos bs q := fun hi => by
      obtain ⟨q, hq, hqi, hqp⟩ := h.tree.parent ho hi hk0
      have hle := h.most k q hi hk0 hq c hA
      have hqk : q ≠ k := fun e => by subst e; omega
      have hq2 := ((h.anc k q hi (.step hq (.refl _))).ne hqk).2
      have hac := h.past (pi bs k) (pi_spec ho hkm hk0).1 (by omega) q c hq2 hpc hle
      have hcq : c ≠ q := fun e => by
        subst e
        rw [hx] at hq
        injection hq with hq
        exact hcx hq.symm
      exact ⟨q, hq, hac, (h.tree.anc ho hqi hac).2.2 hcq⟩
    have hup2 : InT bs ov k → ∃ q : Nat, ov[k]? = some (q : Int) ∧ Anc ov q c := fun hi => by
      obtain ⟨q, h1, h2, _⟩ := hup hi
      exact ⟨q, h1, h2⟩
    have hIn := fun v => inT_set ho (c := c) (v := v) hkl hkm
    have hck : (ov.set k (c : Int))[k]? = some (c : Int) := by rw [List.getElem?_set, if_pos rfl, if_pos hkl]
    have tree' : Tree bs (ov.set k (c : Int)) := by
      refine ⟨by rw [List.length_set]; exact h.tree.len, by rw [set_get ho (Ne.symm hk0)]; exact h.tree.root, fun v hv hm => ?_, fun v y hm h0 hy hy0 => ?_, fun v y hy hy0 => ?_⟩
      · rw [set_get ho (fun e => by subst e; exact hm hkm)]; exact h.tree.out v hv hm
      · have known : ∀ q, InT bs ov q → q = 0 ∨ ∃ y : Int, (ov.set k (c : Int))[q]? = some y ∧ 0 ≤ y := fun q hq => by
          by_cases hqk : q = k
          · subst hqk; exact .inr ⟨c, hck, by omega⟩
          · rw [set_get ho hqk]; exact hq.2
        by_cases hvk : v = k
        · subst hvk
          rw [hck] at hy
          injection hy with hy
          exact ⟨c, hy.symm, hci.1, hcp, known c hci⟩
        · rw [set_get ho hvk] at hy
          obtain ⟨q, e, hq1, hq2, hq3⟩ := h.tree.up v y hm h0 hy hy0
          exact ⟨q, e, hq1, hq2, known q ⟨hq1, hq3⟩⟩
      · by_cases hvk : v = k
        · subst hvk
          rw [hck] at hy
          injection hy with hy
          omega
        · rw [set_get ho hvk] at hy
          exact h.tree.low v y hy hy0
    have shr : ∀ v y, InT bs ov v → Anc (ov.set k (c : Int)) v y → Anc ov v y := fun v y hv ha => anc_shrink ho h.tree hkl hup2 hv ha
    have selfk := fun y => anc_self ho h.tree (x := y) hkl hci hcp
    refine ⟨⟨tree', fun j v hj hv => ?_, fun v w hv hw hlt => ?_, fun v y hv ha => ?_, fun v q hv h0 hq y hy => ?_, fun v hv hlt q y hq hy hle => ?_⟩, .inr ⟨rfl, ?_⟩⟩
    · rw [hIn]
      by_cases hji : j < i
      · exact .inl (h.done j v hji hv)
      · have : j = i := by omega
        subst this
        rw [hk] at hv
        injection hv with hv
        exact .inr hv.symm
    · rw [hIn] at hv ⊢
      rcases hv with hv | rfl
      · exact .inl (h.down v w hv hw hlt)
      · exact .inl (h.done _ _ (by omega) (place_of ho hw).2)
    · rw [hIn] at hv
      rcases hv with hv | rfl
      · exact h.anc v y hv (shr v y hv ha)
      · rcases (selfk y).1 ha with rfl | ha
        · exact .refl _
        · exact .step hk0 (h.anc _ y hpi (hpc.trans ha))
    · by_cases hvk : v = k
      · subst hvk
        rw [hck] at hq
        injection hq with hq
        have : c = q := by omega
        subst this
        have hcy : Anc ov c y := hB y fun p hp hi => shr p y hi (hy p hp ((hIn p).2 (.inl hi)))
        exact (h.tree.anc ho hci hcy).2.1
      · rw [set_get ho hvk] at hq
        rw [hIn] at hv
        exact h.most v q (hv.resolve_right hvk) h0 hq y fun p hp hi => shr p y hi (hy p hp ((hIn p).2 (.inl hi)))
    · by_cases hlt2 : pos bs v < i
      · have hvi : InT bs ov v := h.done _ _ hlt2 (place_of ho hv).2
        have hqm := ancP_mem ho hv hq
        have hqi : InT bs ov q := h.done _ _ (by omega) (place_of ho hqm.1).2
        rw [anc_before ho h.tree hvi (by omega)] at hy
        rw [anc_before ho h.tree hqi (by omega)]
        exact h.past v hv hlt2 q y hq hy hle
      · have hvk : v = k := pos_inj ho hv hkm (by omega)
        subst hvk
        by_cases hqk : q = v
        · subst hqk; exact hy
        · have hqm := ancP_mem ho (pi_spec ho hkm hk0).1 (hq.ne hqk).2
          have hqi : InT bs ov q := h.done _ _ (by omega) (place_of ho hqm.1).2
          rw [anc_before ho h.tree hqi (by omega)]
          exact pastk q y hq ((selfk y).1 hy) hle hqk
    · have hs := sum_set (l := ov.map (hW bs)) (k := k) (x := hW bs x) (y := hW bs (c : Int)) (by rw [List.getElem?_map, hx]; rfl)
      unfold treeW
      rw [List.map_set]
      have hlt : hW bs (c : Int) < hW bs x := by
        unfold hW
        rw [if_neg (by omega), Int.toNat_natCast]
        split
        · exact pos_lt ho hci.1
        · rename_i hx0
          obtain ⟨q, hq, _, hlt⟩ := hup ⟨hkm, .inr ⟨x, hx, by omega⟩⟩
          rw [hx] at hq
          injection hq with hq
          rw [hq, Int.toNat_natCast]
          exact hlt
      omega
theorem pass_step : ∀ (l : List Int) (i : Nat) (s : TState), TInv bs s.ov i → 1 ≤ i → (ordZ bs).drop i = l →
    TInv bs (treePass bs (placeZ bs) l s).ov (i + l.length) ∧ (treePass bs (placeZ bs) l s = s ∧ (∀ k ∈ l, gI s.ov k = nextL s.ov (placeZ bs) (2 * bs.length + 1) (-1) ((predsF bs)[k.toNat]?.getD [])) ∨ (treePass bs (placeZ bs) l s).again = true ∧ treeW bs (treePass bs (placeZ bs) l s).ov < treeW bs s.ov)
  | [], i, s, h, _, _ => ⟨h, .inl ⟨rfl, fun k hk => by cases hk⟩⟩
  | z :: l, i, s, h, h1, hl => by
    have hz : (ordZ bs)[i]? = some z := by
      have : ((ordZ bs).drop i)[0]? = some z := by rw [hl]; rfl
      rwa [List.getElem?_drop, Nat.add_zero] at this
    have hz2 := hz
    unfold ordZ at hz
    rw [List.getElem?_map] at hz
    obtain ⟨k, hk, rfl⟩ := Option.map_eq_some_iff.1 hz
    have hl2 : (ordZ bs).drop (i + 1) = l := by
      have := drop_cons hz2
      rw [hl] at this
      injection this with _ this
      exact this.symm
    obtain ⟨ov, a⟩ := s
    obtain ⟨g1, g2⟩ := node_step ho hE (a := a) h h1 hk
    rw [treePass]
    obtain ⟨p1, p2⟩ := pass_step l (i + 1) (treeNode bs (placeZ bs) ⟨ov, a⟩ k) g1 (by omega) hl2
    refine ⟨by rw [List.length_cons, show i + (l.length + 1) = i + 1 + l.length by omega]; exact p1, ?_⟩
    rcases g2 with ⟨g2, g3⟩ | ⟨g2, g3⟩
    · rw [g2] at p2 ⊢
      rcases p2 with ⟨p2, p3⟩ | p2
      · refine .inl ⟨p2, fun q hq => ?_⟩
        rcases List.mem_cons.1 hq with rfl | hq
        · rw [Int.toNat_natCast]; exact g3
        · exact p3 q hq
      · exact .inr p2
    · rcases p2 with ⟨p2, _⟩ | ⟨p2, p3⟩
      · rw [p2]; exact .inr ⟨g2, g3⟩
      · exact .inr ⟨p2, by dsimp only at g3 ⊢; omega⟩
omit hE in
theorem TInv.begin {n : Nat} (h : TInv bs ov n) (hn : 1 ≤ n) : TInv bs ov 1 := by
  refine ⟨h.tree, fun j v hj hv => h.done j v (by omega) hv, h.down, h.anc, h.most, fun v hv hlt q x hq hx hle => ?_⟩
  have hv0 : v = 0 := pos_inj ho hv (zero_mem ho) (by rw [pos_zero ho]; omega)
  subst hv0
  cases hq with
  | refl => exact hx
  | step h0 _ => exact absurd rfl h0
omit hE in
theorem tree_start : TInv bs (List.replicate bs.length (-1)) 1 := by
  have h0 := ho.lt 0 (zero_mem ho)
  have neg : ∀ (v : Nat) (x : Int), (List.replicate bs.length (-1 : Int))[v]? = some x → x = -1 := fun v x hx => by
    rw [List.getElem?_replicate] at hx
    split at hx
    · injection hx with hx; exact hx.symm
    · cases hx
  have inz : ∀ v, InT bs (List.replicate bs.length (-1)) v → v = 0 := fun v hv => by
    rcases hv.2 with h | ⟨x, hx, hx0⟩
    · exact h
    · have := neg v x hx; omega
  have tr : Tree bs (List.replicate bs.length (-1)) := by
    refine ⟨List.length_replicate, by rw [List.getElem?_replicate, if_pos h0], fun v hv _ => by rw [List.getElem?_replicate, if_pos hv], fun v x _ _ hx hx0 => ?_, fun v x hx _ => neg v x hx⟩
    have := neg v x hx
    omega
  refine ⟨tr, fun j v hj hv => ?_, fun v w hv hw hlt => ?_, fun v x hv ha => ?_, fun v q hv hv0 => absurd (inz v hv) hv0, fun v hv hlt q x hq hx hle => ?_⟩
  · have : j = 0 := by omega
    subst this
    rw [ho.zero] at hv
    injection hv with hv
    subst hv
    exact ⟨zero_mem ho, .inl rfl⟩
  · have := inz v hv
    subst this
    rw [pos_zero ho] at hlt
    omega
  · have := inz v hv
    subst this
    rw [tr.zero ho ha]
    exact .refl _
  · have hv0 : v = 0 := pos_inj ho hv (zero_mem ho) (by rw [pos_zero ho]; omega)
    subst hv0
    cases hq with
    | refl => exact hx
    | step h0 _ => exact absurd rfl h0
omit hE in
theorem treeW_start : treeW bs (List.replicate bs.length (-1)) = bs.length * bs.length := by
  have key : ∀ n x : Nat, (List.replicate n x).sum = n * x := fun n x => by
    induction n with
    | zero => simp
    | succ n ih => rw [List.replicate_succ, List.sum_cons, ih, Nat.succ_mul]; omega
  unfold treeW
  rw [List.map_replicate, key]
  simp [hW]
theorem tree_round {n : Nat} {s : TState} (h : TInv bs s.ov 1) (ha : s.again = true) (hw : treeW bs s.ov + 1 ≤ n) :
    ∃ n', n = n' + 1 ∧ treeIter bs (placeZ bs) (ordZ bs) n s = treeIter bs (placeZ bs) (ordZ bs) n' (treePass bs (placeZ bs) ((ordZ bs).drop 1) ⟨s.ov, false⟩) ∧ TInv bs (treePass bs (placeZ bs) ((ordZ bs).drop 1) ⟨s.ov, false⟩).ov 1 ∧
      treeW bs (treePass bs (placeZ bs) ((ordZ bs).drop 1) ⟨s.ov, false⟩).ov + (if (treePass bs (placeZ bs) ((ordZ bs).drop 1) ⟨s.ov, false⟩).again then 1 else 0) ≤ n' := by
  obtain ⟨n', rfl⟩ : ∃ n', n = n' + 1 := ⟨n - 1, by omega⟩
  obtain ⟨h1, h2⟩ := pass_step ho hE ((ordZ bs).drop 1) 1 ⟨s.ov, false⟩ h (Nat.le_refl _) rfl
  refine ⟨n', rfl, by rw [treeIter, if_pos ha], h1.begin ho (by omega), ?_⟩
  rcases h2 with ⟨h2, _⟩ | ⟨h2, h3⟩
  · rw [h2]
    dsimp only
    rw [if_neg (by decide)]
    omega
  · rw [h2, if_pos rfl]
    dsimp only at h3
    omega
structure TreeOk (bs : List SBlock) (ov : List Int) : Prop where
  inv : TInv bs ov 1
  all : ∀ v, v ∈ orderF bs → InT bs ov v
  fix : ∀ v, v ∈ orderF bs → v ≠ 0 → gI ov v = nextL ov (placeZ bs) (2 * bs.length + 1) (-1) ((predsF bs)[v]?.getD [])
theorem iter_ok : ∀ (n : Nat) (s : TState), TInv bs s.ov 1 → treeW bs s.ov + (if s.again then 1 else 0) ≤ n → (s.again = false → TreeOk bs s.ov) → TreeOk bs (treeIter bs (placeZ bs) (ordZ bs) n s).ov
  | 0, s, h, hw, hf => by
    cases ha : s.again with
    | false => exact hf ha
    | true => rw [ha, if_pos rfl] at hw; omega
  | n + 1, s, h, hw, hf => by
    cases ha : s.again with
    | false => rw [treeIter, if_neg (by rw [ha]; decide)]; exact hf ha
    | true =>
      rw [ha, if_pos rfl] at hw
      obtain ⟨n', e, h1, h2, h3⟩ := tree_round ho hE h ha hw
      have : n = n' := by omega
      subst this
      rw [h1]
      refine iter_ok n _ h2 h3 fun ha2 => ?_
      obtain ⟨g1, g2⟩ := pass_step ho hE ((ordZ bs).drop 1) 1 ⟨s.ov, false⟩ h (Nat.le_refl _) rfl
      rcases g2 with ⟨g2, g3⟩ | ⟨g2, _⟩
      · rw [g2] at g1 ⊢
        have hl : 1 + ((ordZ bs).drop 1).length = (orderF bs).length := by
          have := (List.getElem?_eq_some_iff.1 ho.zero).1
          simp [ordZ]
          omega
        refine ⟨h, fun v hv => g1.done _ _ (by rw [hl]; exact (List.getElem?_eq_some_iff.1 (place_of ho hv).2).1) (place_of ho hv).2, fun v hv h0 => ?_⟩
        have hvp : 1 ≤ pos bs v := by
          apply Classical.byContradiction
          intro hn
          exact h0 (pos_inj ho hv (zero_mem ho) (by rw [pos_zero ho]; omega))
        have := g3 (v : Int) (by
          have hg : (ordZ bs)[pos bs v]? = some (v : Int) := by
            unfold ordZ
            rw [List.getElem?_map, (place_of ho hv).2]
            rfl
          have : ((ordZ bs).drop 1)[pos bs v - 1]? = some (v : Int) := by
            rw [List.getElem?_drop, show 1 + (pos bs v - 1) = pos bs v by omega]
            exact hg
          exact List.mem_of_getElem? this)
        rw [Int.toNat_natCast] at this
        exact this
      · rw [g2] at ha2; cases ha2
theorem tree_ok : TreeOk bs (treeF bs) := by
  refine iter_ok ho hE _ _ (tree_start ho) ?_ fun h => by cases h
  dsimp only
  rw [treeW_start ho, if_pos rfl]
  omega
end
end Go.SM
end
section
set_option linter.unusedVariables false
set_option linter.unusedSimpArgs false
set_option linter.unusedSectionVars false
namespace Go.SM
open Go.VL
def graphV (f : SFunc) : V := .agg [intsX (if funcF f = 0 then treeF f.blocks else []), intsX (if funcF f = 0 then placeZ f.blocks else [])]
theorem meet_same (ov pl : List Int) : ∀ (n : Nat) (a : Int), meetF ov pl n a a = a
  | 0, a => rfl
  | n + 1, a => by rw [meetF, if_pos rfl]
section
variable {bs : List SBlock} (ho : OrderOk bs (orderF bs)) {ov : List Int}
include ho
theorem meet_walk (h : Tree bs ov) {n a b : Nat} (ha : InT bs ov a) (hb : InT bs ov b) (hn : pos bs a + pos bs b + 1 ≤ n) (hab : (a : Int) ≠ b) :
    ∃ (n' : Nat) (x y : Int), n = n' + 1 ∧ (placeZ bs)[a]? = some x ∧ (placeZ bs)[b]? = some y ∧
      (x > y → ∃ q : Nat, ov[a]? = some (q : Int) ∧ InT bs ov q ∧ pos bs q + pos bs b + 1 ≤ n' ∧ meetF ov (placeZ bs) n a b = meetF ov (placeZ bs) n' q b) ∧
      (¬ x > y → ∃ q : Nat, ov[b]? = some (q : Int) ∧ InT bs ov q ∧ pos bs a + pos bs q + 1 ≤ n' ∧ meetF ov (placeZ bs) n a b = meetF ov (placeZ bs) n' a q) := by
  obtain ⟨n', rfl⟩ : ∃ n', n = n' + 1 := ⟨n - 1, by omega⟩
  have hpa := (place_of ho ha.1).1
  have hpb := (place_of ho hb.1).1
  obtain ⟨x, hx⟩ : ∃ x, (placeZ bs)[a]? = some x := ⟨_, List.getElem?_eq_getElem (by rw [place_len]; exact ho.lt a ha.1)⟩
  obtain ⟨y, hy⟩ : ∃ y, (placeZ bs)[b]? = some y := ⟨_, List.getElem?_eq_getElem (by rw [place_len]; exact ho.lt b hb.1)⟩
  have hx2 := gI_get ho hx
  have hy2 := gI_get ho hy
  have hne : pos bs a ≠ pos bs b := fun e => hab (by rw [pos_inj ho ha.1 hb.1 e])
  refine ⟨n', x, y, rfl, hx, hy, fun hlt => ?_, fun hlt => ?_⟩
  · have h0 : a ≠ 0 := fun e => by subst e; rw [pos_zero ho] at hpa; omega
    obtain ⟨q, hq, hi, hp⟩ := h.parent ho ha h0
    exact ⟨q, hq, hi, by omega, by rw [meetF, if_neg hab, if_pos (by omega), gI_get ho hq]⟩
  · have h0 : b ≠ 0 := fun e => by subst e; rw [pos_zero ho] at hpb hne; omega
    obtain ⟨q, hq, hi, hp⟩ := h.parent ho hb h0
    exact ⟨q, hq, hi, by omega, by rw [meetF, if_neg hab, if_neg (by omega), gI_get ho hq]⟩
omit ho in
theorem skip_eq {ov pl : List Int} {k : Nat} {x y : Int} (hx : pl[k]? = some x) (hy : ov[k]? = some y) : skipP ov pl k = (decide (x < 0) || (decide ((k : Int) ≠ 0) && decide (y < 0))) := by
  unfold skipP gI
  rw [Int.toNat_natCast, hx, hy]
  rfl
theorem skip_inT (h : Tree bs ov) {k : Nat} (hk : k < bs.length) (hs : skipP ov (placeZ bs) k = false) : InT bs ov k := (skip_iff ho h hk).1 hs
structure Up (bs : List SBlock) (ov : List Int) (a : Nat) (l : List Int) (k : Int) (n : Nat) : Prop where
  len : l.length = n
  at_ : k = -1 ∨ ∃ v : Nat, k = v ∧ InT bs ov v ∧ n + pos bs v ≤ pos bs a
  mem : ∀ y : Nat, Anc ov a y ↔ (y : Int) ∈ l ∨ ∃ v : Nat, k = v ∧ Anc ov v y
  le : n ≤ bs.length
omit ho in
structure Climb (bs : List SBlock) (ov : List Int) (a b : Nat) (v n : Nat) : Prop where
  at_ : Anc ov b v
  bound : n + pos bs v ≤ pos bs b
  none : ∀ y, Anc ov b y → pos bs v < pos bs y → ¬ Anc ov a y
omit ho in
end
theorem place_inT {f : SFunc} (ho : OrderOk f.blocks (orderF f.blocks)) (ht : TreeOk f.blocks (treeF f.blocks)) {v : Nat} (hv : v < f.blocks.length) (hn : ¬ gI (placeZ f.blocks) v < 0) : InT f.blocks (treeF f.blocks) v := by
  rcases place_get hv with ⟨h, _⟩ | ⟨i, _, h⟩
  · omega
  · exact ht.all v (List.mem_of_getElem? h)
end Go.SM
end
section
set_option linter.unusedVariables false
set_option linter.unusedSimpArgs false
namespace Go.SM
open Go.VL
def climbB (ov : List Int) : Nat → Int → Int → Bool
  | 0, a, b => decide (b = a)
  | n + 1, a, b => if 0 ≤ b ∧ b ≠ a then climbB ov n a (gI ov b) else decide (b = a)
def domsF (f : SFunc) (a b : Int) : Bool := if gI (placeZ f.blocks) b < 0 then true else climbB (treeF f.blocks) (f.blocks.length + 1) a b
def reachL (f : SFunc) : List Int := (ordZ f.blocks).mergeSort fun x y => decide (x ≤ y)
theorem reach_mem {f : SFunc} {v : Nat} : (v : Int) ∈ reachL f ↔ v ∈ orderF f.blocks := by
  unfold reachL
  rw [List.mem_mergeSort, ordZ, List.mem_map]
  constructor
  · rintro ⟨k, hk, e⟩
    have : k = v := by omega
    rwa [← this]
  · intro h
    exact ⟨v, h, rfl⟩
theorem reach_len (f : SFunc) : (reachL f).length = (orderF f.blocks).length := by rw [reachL, List.length_mergeSort, ordZ, List.length_map]
section
variable {bs : List SBlock} (ho : OrderOk bs (orderF bs)) {ov : List Int}
include ho
theorem climb_anc (h : Tree bs ov) {a : Nat} : ∀ (n v : Nat), pos bs v < n → InT bs ov v → (climbB ov n a v = true ↔ Anc ov v a)
  | 0, v, hn, _ => by omega
  | n + 1, v, hn, hv => by
    rw [climbB]
    by_cases he : v = a
    · subst he
      rw [if_neg (by omega)]
      exact ⟨fun _ => .refl _, fun _ => decide_eq_true rfl⟩
    · rw [if_pos ⟨by omega, by omega⟩]
      by_cases h0 : v = 0
      · subst h0
        have hg : gI ov ((0 : Nat) : Int) = -1 := gI_get ho h.root
        rw [hg]
        have hf : climbB ov n a (-1) = false := by
          cases n with
          | zero => rw [climbB]; exact decide_eq_false (by omega)
          | succ n => rw [climbB, if_neg (by omega)]; exact decide_eq_false (by omega)
        rw [hf]
        constructor
        · intro h; cases h
        · intro ha; exact absurd (h.zero ho ha).symm he
      · obtain ⟨q, hq, hi, hp⟩ := h.parent ho hv h0
        rw [gI_get ho hq, climb_anc h n q (by omega) hi]
        constructor
        · exact fun ha => .step hq ha
        · intro ha
          rcases h.cases ho hq ha with e | ha
          · exact absurd e.symm he
          · exact ha
end
theorem doms_anc {f : SFunc} (ho : OrderOk f.blocks (orderF f.blocks)) (ht : TreeOk f.blocks (treeF f.blocks)) {a b : Nat} (hb : b ∈ orderF f.blocks) : domsF f a b = true ↔ Anc (treeF f.blocks) b a := by
  have hi := ht.all b hb
  have hpl := place_of ho hb
  unfold domsF
  rw [if_neg (by rw [hpl.1]; omega)]
  exact climb_anc ho ht.inv.tree _ b (by have := pos_lt ho hb; omega) hi
end Go.SM
end
section
set_option linter.unusedVariables false
set_option linter.unusedSimpArgs false
namespace Go.SM
open Go.VL
section
variable {bs : List SBlock} (ho : OrderOk bs (orderF bs)) {ov : List Int}
include ho
end
theorem idom_anc {f : SFunc} (h : FuncOk f) {k b : Nat} (hk : k ∈ orderF f.blocks) (he : Edge f.blocks k b) : b ≠ 0 ∧ b ∈ orderF f.blocks ∧ ∃ q : Nat, (treeF f.blocks)[b]? = some (q : Int) ∧ InT f.blocks (treeF f.blocks) q ∧ Anc (treeF f.blocks) k q := by
  have ho := order_ok h.pos h.edges
  have ht := tree_ok ho h.edges
  have hb := edge_mem ho hk he
  have hb0 : b ≠ 0 := by
    obtain ⟨e, hem, hb2⟩ := he
    have hkl := ho.lt k hk
    obtain ⟨bl, hbl⟩ := get_of_lt f.blocks k (by omega)
    rw [toAt_get hbl] at hem
    have := h.edges bl (List.mem_of_getElem? hbl) e hem
    omega
  refine ⟨hb0, hb, ?_⟩
  have hpn : ∀ p ∈ ((predsF f.blocks)[b]?.getD []), ∃ k : Nat, p = k ∧ k < f.blocks.length := preds_nat ho h.edges
  obtain ⟨Q', hQ, hor⟩ := next_ok ho ht.inv.tree ((predsF f.blocks)[b]?.getD []) (-1) [] hpn (.inl ⟨rfl, rfl⟩)
  have hkQ : k ∈ Q' := (hQ k).2 (.inr ⟨(preds_mem h.edges).2 ⟨k, rfl, he⟩, ht.all k hk⟩)
  rcases hor with ⟨_, e⟩ | ⟨c, hc, hi, _, hall, _⟩
  · rw [e] at hkQ; cases hkQ
  · refine ⟨c, ?_, hi, hall k hkQ⟩
    have hfix := ht.fix b hb hb0
    rw [hc] at hfix
    obtain ⟨y, hy⟩ := get_of_lt (treeF f.blocks) b (by rw [ht.inv.tree.len]; have := ho.lt b hb; omega)
    rw [gI_get ho hy] at hfix
    rw [hy, hfix]
end Go.SM
end
section
set_option linter.unusedVariables false
set_option linter.unusedSimpArgs false
namespace Go.SM
open Go.VL
theorem again_keep {n : Nat} {d d' : Dom} (h : StepW n d d') (ha : d'.again = false) : d' = d := by
  rcases h.2 with h | ⟨h, _⟩
  · exact h
  · rw [ha] at h; cases h
theorem edges_fix {n k : Nat} (hk : k < n) : ∀ {l : List SEdge} {d : Dom}, DomOk n d → (∀ e ∈ l, 1 ≤ e.block ∧ e.block < n) → (l.foldl (domEdge k) d).again = false → l.foldl (domEdge k) d = d ∧ ∀ e ∈ l, domEdge k d e = d
  | [], d, _, _, _ => ⟨rfl, fun e he => by cases he⟩
  | e :: l, d, ok, h, ha => by
    have h1 := domEdge_w ok hk (h e (List.mem_cons_self ..)).1 (h e (List.mem_cons_self ..)).2
    have hl := fun x hx => h x (List.mem_cons_of_mem e hx)
    have h2 := edges_w hk h1.1 hl
    rw [List.foldl_cons] at ha ⊢
    have e2 := again_keep h2 ha
    have e1 : domEdge k d e = d := again_keep h1 (by rw [← e2]; exact ha)
    rw [e1] at ha ⊢
    obtain ⟨g1, g2⟩ := edges_fix hk ok hl ha
    refine ⟨g1, fun x hx => ?_⟩
    rcases List.mem_cons.1 hx with rfl | hx
    · exact e1
    · exact g2 x hx
theorem block_fix {n k : Nat} {b : SBlock} {d : Dom} (hk : k < n) (ok : DomOk n d) (h : ∀ e ∈ b.term.to, 1 ≤ e.block ∧ e.block < n) (ha : (domBlock d k b).again = false) : domBlock d k b = d ∧ (d.seen.has k = true → ∀ e ∈ b.term.to, domEdge k d e = d) := by
  unfold domBlock at ha ⊢
  split
  · rename_i hs
    rw [if_pos hs] at ha
    obtain ⟨h1, h2⟩ := edges_fix hk ok h ha
    exact ⟨h1, fun _ => h2⟩
  · rename_i hs
    exact ⟨rfl, fun h => absurd h hs⟩
theorem pass_fix {n : Nat} : ∀ {l : List SBlock} {k : Nat} {d : Dom}, k + l.length = n → DomOk n d → (∀ b ∈ l, ∀ e ∈ b.term.to, 1 ≤ e.block ∧ e.block < n) → (domPass k l d).again = false →
    ∀ (j : Nat) (b : SBlock), l[j]? = some b → d.seen.has (k + j) = true → ∀ e ∈ b.term.to, domEdge (k + j) d e = d
  | [], k, d, _, _, _, _, j, b, hb => by simp at hb
  | c :: l, k, d, hl, ok, h, ha, j, b, hb => by
    have hl' : k + (l.length + 1) = n := hl
    have h1 := block_w (k := k) (by omega) ok (h c (List.mem_cons_self ..))
    have hr := fun x hx => h x (List.mem_cons_of_mem c hx)
    have h2 := pass_w (l := l) (k := k + 1) (by omega) h1.1 hr
    rw [domPass] at ha
    have e2 := again_keep h2 ha
    have ha1 : (domBlock d k c).again = false := by rw [← e2]; exact ha
    obtain ⟨e1, g⟩ := block_fix (by omega) ok (h c (List.mem_cons_self ..)) ha1
    rw [e1] at ha
    cases j with
    | zero =>
      simp at hb
      subst hb
      exact g
    | succ j =>
      simp at hb
      have := pass_fix (by omega) ok hr ha j b hb
      rwa [show k + 1 + j = k + (j + 1) by omega] at this
structure DomFix (bs : List SBlock) (d : Dom) : Prop where
  ok : DomOk bs.length d
  seen0 : d.seen.has 0 = true
  at0 : d.at 0 = BSet.with noSet 0
  fix : ∀ (k : Nat) (b : SBlock), bs[k]? = some b → d.seen.has k = true → ∀ e ∈ b.term.to, domEdge k d e = d
def DomZ (n : Nat) (d : Dom) : Prop := d.seen.has 0 = true ∧ d.at 0 = BSet.with noSet 0
theorem edge_z {n k : Nat} {d : Dom} {e : SEdge} (ok : DomOk n d) (h1 : 1 ≤ e.block) (h2 : e.block < n) (hz : DomZ n d) : DomZ n (domEdge k d e) := by
  unfold domEdge
  dsimp only
  have hn := ok.le
  split
  · refine ⟨?_, ?_⟩
    · rw [has_with _ (by omega) (by omega), hz.1]; rfl
    · rw [at_set (by rw [ok.len]; omega), if_neg (by omega)]; exact hz.2
  · exact hz
theorem edges_z {n k : Nat} (hk : k < n) : ∀ {l : List SEdge} {d : Dom}, DomOk n d → (∀ e ∈ l, 1 ≤ e.block ∧ e.block < n) → DomZ n d → DomZ n (l.foldl (domEdge k) d)
  | [], d, _, _, hz => hz
  | e :: l, d, ok, h, hz => by
    have he := h e (List.mem_cons_self ..)
    show DomZ n (l.foldl (domEdge k) (domEdge k d e))
    exact edges_z (l := l) hk (domEdge_w ok hk he.1 he.2).1 (fun x hx => h x (List.mem_cons_of_mem e hx)) (edge_z ok he.1 he.2 hz)
theorem block_z {n k : Nat} {b : SBlock} {d : Dom} (hk : k < n) (ok : DomOk n d) (h : ∀ e ∈ b.term.to, 1 ≤ e.block ∧ e.block < n) (hz : DomZ n d) : DomZ n (domBlock d k b) := by
  unfold domBlock
  split
  · exact edges_z hk ok h hz
  · exact hz
theorem pass_z {n : Nat} : ∀ {l : List SBlock} {k : Nat} {d : Dom}, k + l.length = n → DomOk n d → (∀ b ∈ l, ∀ e ∈ b.term.to, 1 ≤ e.block ∧ e.block < n) → DomZ n d → DomZ n (domPass k l d)
  | [], k, d, _, _, _, hz => hz
  | c :: l, k, d, hl, ok, h, hz => by
    have hl' : k + (l.length + 1) = n := hl
    show DomZ n (domPass (k + 1) l (domBlock d k c))
    exact pass_z (l := l) (by omega) (block_w (k := k) (by omega) ok (h c (List.mem_cons_self ..))).1 (fun x hx => h x (List.mem_cons_of_mem c hx)) (block_z (by omega) ok (h c (List.mem_cons_self ..)) hz)
theorem domIter_fix {bs : List SBlock} (h : ∀ b ∈ bs, ∀ e ∈ b.term.to, 1 ≤ e.block ∧ e.block < bs.length) : ∀ (n : Nat) (d : Dom), DomOk bs.length d → DomZ bs.length d → weight bs.length d + (if d.again then 1 else 0) ≤ n → (d.again = false → DomFix bs d) → DomFix bs (domIter bs n d)
  | 0, d, ok, hz, hw, hf => by
    cases ha : d.again with
    | false => exact hf ha
    | true => rw [ha, if_pos rfl] at hw; omega
  | n + 1, d, ok, hz, hw, hf => by
    cases ha : d.again with
    | false => rw [domIter, if_neg (by rw [ha]; decide)]; exact hf ha
    | true =>
      obtain ⟨n', e, h1, h2, h3⟩ := round ok h hw ha
      have : n = n' := by omega
      subst this
      have ok0 : DomOk bs.length { d with again := false } := ⟨ok.len, ok.le, ok.self⟩
      have hz1 : DomZ bs.length (domPass 0 bs { d with again := false }) := pass_z (by omega) ok0 h hz
      rw [h1]
      refine domIter_fix h n _ h2 hz1 h3 fun ha2 => ?_
      have e2 := again_keep (pass_w (l := bs) (k := 0) (by omega) ok0 h) ha2
      have hfx := pass_fix (l := bs) (k := 0) (by omega) ok0 h ha2
      rw [e2] at hz1 ⊢
      exact ⟨ok0, hz1.1, hz1.2, fun k b hb hs => by have := hfx k b hb (by rw [Nat.zero_add]; exact hs); rwa [Nat.zero_add] at this⟩
theorem dom_fix {bs : List SBlock} (h0 : 0 < bs.length) (hn : bs.length ≤ 128) (h : ∀ b ∈ bs, ∀ e ∈ b.term.to, 1 ≤ e.block ∧ e.block < bs.length) : DomFix bs (domF bs) := by
  refine domIter_fix h _ _ (start_ok h0 hn) ⟨?_, ?_⟩ ?_ fun h => by cases h
  · show (BSet.with noSet 0).has 0 = true
    rw [has_with _ (by omega) (by omega)]
    simp
  · unfold domStart Dom.at
    rw [List.getElem?_set, if_pos rfl, if_pos (by simpa using h0)]
    rfl
  · have := start_w bs.length
    have ha : (domStart bs.length).again = true := rfl
    rw [ha, if_pos rfl, domFuel]
    omega
inductive Way (bs : List SBlock) : List Nat → Nat → Prop where
  | start : Way bs [] 0
  | step {l : List Nat} {p k : Nat} : Way bs l p → Edge bs p k → Way bs (p :: l) k
theorem dom_way {bs : List SBlock} {d : Dom} (hd : DomFix bs d) (h : ∀ b ∈ bs, ∀ e ∈ b.term.to, 1 ≤ e.block ∧ e.block < bs.length) {l : List Nat} {k : Nat} (hw : Way bs l k) : d.seen.has k = true ∧ k < 128 ∧ ∀ j, j < 128 → (d.at k).has j = true → j = k ∨ j ∈ l := by
  induction hw with
  | start =>
    refine ⟨hd.seen0, by omega, fun j hj hh => ?_⟩
    rw [hd.at0, has_with _ (by omega) hj, has_no, Bool.false_or, decide_eq_true_eq] at hh
    exact .inl hh
  | @step l p k hw he ih =>
    obtain ⟨hs, hp, ih⟩ := ih
    obtain ⟨e, hem, rfl⟩ := he
    obtain ⟨b, hb, hem⟩ : ∃ b, bs[p]? = some b ∧ e ∈ b.term.to := by
      unfold toAt at hem
      cases hb : bs[p]? with
      | none => rw [hb] at hem; cases hem
      | some b => rw [hb] at hem; exact ⟨b, rfl, hem⟩
    have hr := h b (List.mem_of_getElem? hb) e hem
    have hn := hd.ok.le
    have ht : e.block.toNat < 128 := by omega
    have hfx := hd.fix p b hb hs e hem
    unfold domEdge at hfx
    dsimp only at hfx
    split at hfx
    · rename_i hc
      -- a change cannot leave all as it was
      exfalso
      have h1 : (d.over.set e.block.toNat (((d.at e.block.toNat).both (d.at p)).with e.block.toNat))[e.block.toNat]? = d.over[e.block.toNat]? := by
        have := congrArg Dom.over hfx
        dsimp only at this
        rw [this]
      have h2 := congrArg Dom.seen hfx
      dsimp only at h2
      rcases hc with hc | hc
      · rw [List.getElem?_set, if_pos rfl, if_pos (by rw [hd.ok.len]; omega)] at h1
        have h3 : d.at e.block.toNat = ((d.at e.block.toNat).both (d.at p)).with e.block.toNat := (congrArg (fun o : Option BSet => o.getD noSet) h1).symm
        exact hc h3.symm
      · rw [← h2, has_with _ ht ht] at hc
        simp at hc
    · rename_i hc
      rw [not_or] at hc
      obtain ⟨h1, h2⟩ := hc
      have h1 := Classical.not_not.1 h1
      refine ⟨by simpa using h2, ht, fun j hj hh => ?_⟩
      rw [← h1, has_with _ ht hj, has_both, Bool.or_eq_true, Bool.and_eq_true, decide_eq_true_eq] at hh
      rcases hh with hh | hh
      · rcases ih j hj hh.2 with h3 | h3
        · exact .inr (by rw [h3]; exact List.mem_cons_self ..)
        · exact .inr (List.mem_cons_of_mem _ h3)
      · exact .inl hh
end Go.SM
end
section
set_option linter.unusedVariables false
set_option linter.unusedSimpArgs false
set_option linter.unusedSectionVars false
namespace Go.SM
open Go.VL
def Doms (bs : List SBlock) (x v : Nat) : Prop := ∀ l, Way bs l v → x = v ∨ x ∈ l
theorem doms_pred {bs : List SBlock} {x p v : Nat} (h : Doms bs x v) (hx : x ≠ v) (he : Edge bs p v) : Doms bs x p := fun l hl => by
  rcases h _ (.step hl he) with e | e
  · exact absurd e hx
  · rcases List.mem_cons.1 e with e | e
    · exact .inl e
    · exact .inr e
section
variable {bs : List SBlock} (ho : OrderOk bs (orderF bs)) (hE : ∀ b ∈ bs, ∀ e ∈ b.term.to, 1 ≤ e.block ∧ e.block < bs.length) {ov : List Int}
include ho
theorem way_down {a q : Nat} (h : AncP bs a q) : a ∈ orderF bs → ∀ l, Way bs l q → ∃ l', Way bs l' a ∧ ∀ y ∈ l', y ∈ l ∨ pos bs q ≤ pos bs y := by
  induction h with
  | refl a => intro _ l hl; exact ⟨l, hl, fun y hy => .inl hy⟩
  | @step a q h0 hp ih =>
    intro ha l hl
    obtain ⟨h1, h2, h3⟩ := pi_spec ho ha h0
    obtain ⟨l', w, hw⟩ := ih h1 l hl
    have hq := ancP_mem ho h1 hp
    refine ⟨pi bs a :: l', .step w h3, fun y hy => ?_⟩
    rcases List.mem_cons.1 hy with rfl | hy
    · exact .inr hq.2
    · exact hw y hy
theorem doms_up {i a q x : Nat} (h : TInv bs ov i) (ha : InT bs ov a) (h0 : a ≠ 0) (hq : ov[a]? = some (q : Int)) (hx : Anc ov q x) (hd : Doms bs x a) : Doms bs x q := by
  obtain ⟨q', hq', hqi, hqp⟩ := h.tree.parent ho ha h0
  have : q = q' := by rw [hq] at hq'; injection hq' with e; omega
  subst this
  intro l hl
  by_cases hxq : x = q
  · exact .inl hxq
  · obtain ⟨hxi, _, hlt⟩ := h.tree.anc ho hqi hx
    have hlt := hlt hxq
    obtain ⟨l', w, hw⟩ := way_down ho (h.anc a q ha (.step hq (.refl _))) ha.1 l hl
    rcases hd l' w with e | e
    · subst e; omega
    · rcases hw x e with e | e
      · exact .inr e
      · omega
def Sees (bs : List SBlock) (ov : List Int) : Prop := ∀ v x, InT bs ov v → Doms bs x v → Anc ov v x
include hE
theorem node_sees {i k : Nat} {a : Bool} (h : TInv bs ov i) (h1 : 1 ≤ i) (hk : (orderF bs)[i]? = some k) (hs : Sees bs ov) : Sees bs (treeNode bs (placeZ bs) ⟨ov, a⟩ k).ov := by
  obtain ⟨c, ec, hci, hcp, hk0, hA, hB, hpi, hpc⟩ := next_of ho hE h h1 hk
  have hkm := List.mem_of_getElem? hk
  have hkl : k < ov.length := by rw [h.tree.len]; exact ho.lt k hkm
  unfold treeNode
  simp only [Int.toNat_natCast]
  rw [ec]
  split
  · have atk : ∀ x, Doms bs x k → Anc (ov.set k (c : Int)) k x := fun x hd => by
      refine (anc_self ho h.tree hkl hci hcp).2 ?_
      by_cases hx : x = k
      · exact .inl hx
      · exact .inr (hB x fun p hp hi => hs p x hi (doms_pred hd hx hp))
    have key : ∀ a x, Anc ov a x → InT bs ov a → Doms bs x a → Anc (ov.set k (c : Int)) a x := fun a x ha => by
      induction ha with
      | refl => intro _ _; exact .refl _
      | @step a q x hq hr ih =>
        intro hi hd
        by_cases hak : a = k
        · subst hak; exact atk x hd
        · by_cases h0 : a = 0
          · subst h0
            rw [h.tree.root] at hq
            injection hq with hq
            omega
          · obtain ⟨q', hq', hqi, _⟩ := h.tree.parent ho hi h0
            have : q = q' := by rw [hq] at hq'; injection hq' with e; omega
            subst this
            exact .step (by rw [set_get ho hak]; exact hq) (ih hqi (doms_up ho h hi h0 hq hr hd))
    intro v x hv hd
    rcases (inT_set ho hkl hkm).1 hv with hv | rfl
    · exact key v x (hs v x hv hd) hv hd
    · exact atk x hd
  · exact hs
theorem pass_sees : ∀ (l : List Int) (i : Nat) (s : TState), TInv bs s.ov i → 1 ≤ i → (ordZ bs).drop i = l → Sees bs s.ov → Sees bs (treePass bs (placeZ bs) l s).ov
  | [], i, s, h, _, _, hs => hs
  | z :: l, i, s, h, h1, hl, hs => by
    have hz : (ordZ bs)[i]? = some z := by
      have : ((ordZ bs).drop i)[0]? = some z := by rw [hl]; rfl
      rwa [List.getElem?_drop, Nat.add_zero] at this
    have hz2 := hz
    unfold ordZ at hz
    rw [List.getElem?_map] at hz
    obtain ⟨k, hk, rfl⟩ := Option.map_eq_some_iff.1 hz
    have hl2 : (ordZ bs).drop (i + 1) = l := by
      have := drop_cons hz2
      rw [hl] at this
      injection this with _ this
      exact this.symm
    obtain ⟨ov, a⟩ := s
    rw [treePass]
    exact pass_sees l (i + 1) _ (node_step ho hE (a := a) h h1 hk).1 (by omega) hl2 (node_sees ho hE h h1 hk hs)
theorem iter_sees : ∀ (n : Nat) (s : TState), TInv bs s.ov 1 → Sees bs s.ov → Sees bs (treeIter bs (placeZ bs) (ordZ bs) n s).ov
  | 0, s, h, hs => hs
  | n + 1, s, h, hs => by
    rw [treeIter]
    split
    · exact iter_sees n _ ((pass_step ho hE ((ordZ bs).drop 1) 1 ⟨s.ov, false⟩ h (Nat.le_refl _) rfl).1.begin ho (by omega)) (pass_sees ho hE _ 1 ⟨s.ov, false⟩ h (Nat.le_refl _) rfl hs)
    · exact hs
theorem tree_sees : Sees bs (treeF bs) := by
  refine iter_sees ho hE _ _ (tree_start ho) fun v x hv hd => ?_
  have neg : ∀ (v : Nat) (x : Int), (List.replicate bs.length (-1 : Int))[v]? = some x → x = -1 := fun v x hx => by
    rw [List.getElem?_replicate] at hx
    split at hx
    · injection hx with hx; exact hx.symm
    · cases hx
  have hv0 : v = 0 := by
    rcases hv.2 with h | ⟨x, hx, hx0⟩
    · exact h
    · have := neg v x hx; omega
  subst hv0
  rcases hd _ .start with e | e
  · subst e; exact .refl _
  · cases e
end
theorem way_order {f : SFunc} (hf : FuncOk f) {l : List Nat} {v : Nat} (hw : Way f.blocks l v) : v ∈ orderF f.blocks := by
  have ho := order_ok hf.pos hf.edges
  induction hw with
  | start => exact zero_mem ho
  | step hw he ih => exact edge_mem ho ih he
theorem order_way {f : SFunc} (hf : FuncOk f) : ∀ (n v : Nat), pos f.blocks v < n → v ∈ orderF f.blocks → ∃ l, Way f.blocks l v
  | 0, v, hn, _ => by omega
  | n + 1, v, hn, hv => by
    have ho := order_ok hf.pos hf.edges
    by_cases h0 : v = 0
    · subst h0; exact ⟨[], .start⟩
    · obtain ⟨p, hp, hlt, he⟩ := par_of ho hv h0
      obtain ⟨l, hl⟩ := order_way hf n p (by omega) hp
      exact ⟨p :: l, .step hl he⟩
theorem order_iff {f : SFunc} (hf : FuncOk f) {v : Nat} : v ∈ orderF f.blocks ↔ ∃ l, Way f.blocks l v := ⟨fun h => order_way hf _ v (Nat.lt_succ_self _) h, fun ⟨l, h⟩ => way_order hf h⟩
theorem anc_doms {f : SFunc} (hf : FuncOk f) {v x : Nat} (ha : Anc (treeF f.blocks) v x) : Doms f.blocks x v := fun l hw => by
  have ho := order_ok hf.pos hf.edges
  have ht := tree_ok ho hf.edges
  induction hw with
  | start => exact .inl (ht.inv.tree.zero ho ha)
  | @step l p k hw he ih =>
    obtain ⟨_, _, q, hq, _, hpq⟩ := idom_anc hf (way_order hf hw) he
    rcases ht.inv.tree.cases ho hq ha with e | h1
    · exact .inl e
    · rcases ih (hpq.trans h1) with e | e
      · exact .inr (e ▸ List.mem_cons_self ..)
      · exact .inr (List.mem_cons_of_mem _ e)
theorem doms_iff {f : SFunc} (hf : FuncOk f) {v x : Nat} (hv : v ∈ orderF f.blocks) : Anc (treeF f.blocks) v x ↔ Doms f.blocks x v := by
  have ho := order_ok hf.pos hf.edges
  have ht := tree_ok ho hf.edges
  exact ⟨anc_doms hf, tree_sees ho hf.edges v x (ht.all v hv)⟩
end Go.SM
end
section
set_option linter.unusedVariables false
set_option linter.unusedSimpArgs false
namespace Go.SM
open Go.VL
structure DomMost (bs : List SBlock) (d : Dom) : Prop where
  most : ∀ k j : Nat, k < bs.length → j < bs.length → Doms bs j k → (d.at k).has j = true
  seen : ∀ k : Nat, k < 128 → d.seen.has k = true → ∃ l, Way bs l k
theorem most_start {bs : List SBlock} (h0 : 0 < bs.length) (hn : bs.length ≤ 128) : DomMost bs (domStart bs.length) := by
  refine ⟨fun k j hk hj hd => ?_, fun k hk hs => ?_⟩
  · unfold domStart Dom.at
    dsimp only
    rw [List.getElem?_set]
    split
    · rename_i e
      subst e
      rw [if_pos (by simpa using h0)]
      rcases hd [] .start with e | e
      · subst e
        show (BSet.with noSet 0).has 0 = true
        rw [has_with _ (by omega) (by omega)]
        simp
      · cases e
    · rw [List.getElem?_replicate, if_pos hk]
      show (allSet bs.length).has j = true
      rw [has_all _ hn j (by omega)]
      exact decide_eq_true hj
  · have hs : (BSet.with noSet 0).has k = true := hs
    rw [has_with _ (by omega) hk, has_no, Bool.false_or, decide_eq_true_eq] at hs
    subst hs
    exact ⟨[], .start⟩
theorem most_edge {bs : List SBlock} (hn : bs.length ≤ 128) {d : Dom} (ok : DomOk bs.length d) {k : Nat} {e : SEdge} (hk : k < bs.length) (he : e ∈ toAt bs k) (h1 : 1 ≤ e.block) (h2 : e.block < bs.length) (hs : d.seen.has k = true) (h : DomMost bs d) : DomMost bs (domEdge k d e) := by
  unfold domEdge
  dsimp only
  have hte : Edge bs k e.block.toNat := ⟨e, he, rfl⟩
  split
  · refine ⟨fun v j hv hj hd => ?_, fun v hv hsv => ?_⟩
    · rw [at_set (by rw [ok.len]; omega)]
      split
      · rename_i e1
        subst e1
        rw [has_with _ (by omega) (by omega), has_both]
        by_cases hjt : j = e.block.toNat
        · rw [decide_eq_true hjt, Bool.or_true]
        · rw [h.most _ j hv hj hd, h.most k j hk hj (doms_pred hd hjt hte)]
          rfl
      · exact h.most v j hv hj hd
    · have hsv : (d.seen.with e.block.toNat).has v = true := hsv
      rw [has_with _ (by omega) hv, Bool.or_eq_true, decide_eq_true_eq] at hsv
      rcases hsv with hsv | rfl
      · exact h.seen v hv hsv
      · obtain ⟨l, hl⟩ := h.seen k (by omega) hs
        exact ⟨_, .step hl hte⟩
  · exact h
theorem seen_edge {n k : Nat} {d : Dom} {e : SEdge} (hn : n ≤ 128) (hk : k < n) (h1 : 1 ≤ e.block) (h2 : e.block < n) (hs : d.seen.has k = true) : (domEdge k d e).seen.has k = true := by
  unfold domEdge
  dsimp only
  split
  · rw [has_with _ (by omega) (by omega), hs]; rfl
  · exact hs
theorem most_edges {bs : List SBlock} (hn : bs.length ≤ 128) {k : Nat} (hk : k < bs.length) : ∀ {l : List SEdge} {d : Dom}, DomOk bs.length d → (∀ e ∈ l, e ∈ toAt bs k) → (∀ e ∈ l, 1 ≤ e.block ∧ e.block < bs.length) → d.seen.has k = true → DomMost bs d → DomMost bs (l.foldl (domEdge k) d)
  | [], d, _, _, _, _, h => h
  | e :: l, d, ok, hl, hb, hs, h => by
    have he := hb e (List.mem_cons_self ..)
    show DomMost bs (l.foldl (domEdge k) (domEdge k d e))
    exact most_edges hn hk (l := l) (domEdge_w ok hk he.1 he.2).1 (fun x hx => hl x (List.mem_cons_of_mem _ hx)) (fun x hx => hb x (List.mem_cons_of_mem _ hx)) (seen_edge hn hk he.1 he.2 hs) (most_edge hn ok hk (hl e (List.mem_cons_self ..)) he.1 he.2 hs h)
theorem most_block {bs : List SBlock} (hn : bs.length ≤ 128) {k : Nat} {b : SBlock} {d : Dom} (hb : bs[k]? = some b) (ok : DomOk bs.length d) (hE : ∀ e ∈ b.term.to, 1 ≤ e.block ∧ e.block < bs.length) (h : DomMost bs d) : DomMost bs (domBlock d k b) := by
  unfold domBlock
  split
  · rename_i hs
    exact most_edges hn (List.getElem?_eq_some_iff.1 hb).1 ok (fun e he => by rw [toAt_get hb]; exact he) hE hs h
  · exact h
theorem most_pass {bs : List SBlock} (hn : bs.length ≤ 128) (hE : ∀ b ∈ bs, ∀ e ∈ b.term.to, 1 ≤ e.block ∧ e.block < bs.length) : ∀ {l : List SBlock} {k : Nat} {d : Dom}, bs.drop k = l → DomOk bs.length d → DomMost bs d → DomMost bs (domPass k l d)
  | [], k, d, _, _, h => h
  | c :: l, k, d, hl, ok, h => by
    have hb : bs[k]? = some c := by
      have h9 : (bs.drop k)[0]? = some c := by rw [hl]; rfl
      rwa [List.getElem?_drop, Nat.add_zero] at h9
    have hl2 : bs.drop (k + 1) = l := by
      have h9 : (bs.drop k).drop 1 = l := by rw [hl]; rfl
      rwa [List.drop_drop] at h9
    have hk := (List.getElem?_eq_some_iff.1 hb).1
    have hc := hE c (List.mem_of_getElem? hb)
    show DomMost bs (domPass (k + 1) l (domBlock d k c))
    exact most_pass hn hE hl2 (block_w hk ok hc).1 (most_block hn hb ok hc h)
theorem most_iter {bs : List SBlock} (hn : bs.length ≤ 128) (hE : ∀ b ∈ bs, ∀ e ∈ b.term.to, 1 ≤ e.block ∧ e.block < bs.length) : ∀ (n : Nat) (d : Dom), DomOk bs.length d → DomMost bs d → DomMost bs (domIter bs n d)
  | 0, d, _, h => h
  | n + 1, d, ok, h => by
    rw [domIter]
    split
    · have ok0 : DomOk bs.length { d with again := false } := ⟨ok.len, ok.le, ok.self⟩
      exact most_iter hn hE n _ (pass_w (l := bs) (k := 0) (by omega) ok0 hE).1 (most_pass hn hE rfl ok0 ⟨h.most, h.seen⟩)
    · exact h
theorem dom_most {bs : List SBlock} (h0 : 0 < bs.length) (hn : bs.length ≤ 128) (hE : ∀ b ∈ bs, ∀ e ∈ b.term.to, 1 ≤ e.block ∧ e.block < bs.length) : DomMost bs (domF bs) := most_iter hn hE _ _ (start_ok h0 hn) (most_start h0 hn)
theorem has_iff {bs : List SBlock} (h0 : 0 < bs.length) (hn : bs.length ≤ 128) (hE : ∀ b ∈ bs, ∀ e ∈ b.term.to, 1 ≤ e.block ∧ e.block < bs.length) {k j : Nat} (hk : ∃ l, Way bs l k) (hkl : k < bs.length) (hj : j < bs.length) : ((domF bs).at k).has j = true ↔ Doms bs j k :=
  ⟨fun h l hw => (dom_way (dom_fix h0 hn hE) hE hw).2.2 j (by omega) h, (dom_most h0 hn hE).most k j hkl hj⟩
theorem seen_iff {bs : List SBlock} (h0 : 0 < bs.length) (hn : bs.length ≤ 128) (hE : ∀ b ∈ bs, ∀ e ∈ b.term.to, 1 ≤ e.block ∧ e.block < bs.length) {k : Nat} (hk : k < 128) : (domF bs).seen.has k = true ↔ ∃ l, Way bs l k :=
  ⟨(dom_most h0 hn hE).seen k hk, fun ⟨l, hw⟩ => (dom_way (dom_fix h0 hn hE) hE hw).1⟩
end Go.SM
end
section
set_option linter.unusedVariables false
set_option linter.unusedSimpArgs false
namespace Go.SM
open Go.VL
abbrev keys (d : Defs) : List Int := d.map (·.1)
structure KOk (d new : Defs) : Prop where
  wi : ∀ x ∈ keys new, wi x 0 4095 = true
  nodup : (keys new).Nodup
  fresh : ∀ x ∈ keys new, x ∉ keys d
theorem kok_nil (d : Defs) : KOk d [] := ⟨by simp, by simp, by simp⟩
theorem kok_append {d a b : Defs} : KOk d (a ++ b) ↔ KOk d a ∧ KOk (d ++ a) b := by
  constructor
  · rintro ⟨h1, h2, h3⟩
    simp only [keys, List.map_append] at h1 h2 h3
    obtain ⟨n1, n2, n3⟩ := List.nodup_append.1 h2
    refine ⟨⟨fun x hx => h1 x (List.mem_append_left _ hx), n1, fun x hx => h3 x (List.mem_append_left _ hx)⟩, ⟨fun x hx => h1 x (List.mem_append_right _ hx), n2, fun x hx => ?_⟩⟩
    simp only [keys, List.map_append, List.mem_append, not_or]
    exact ⟨h3 x (List.mem_append_right _ hx), fun hm => n3 x hm x hx rfl⟩
  · rintro ⟨⟨a1, a2, a3⟩, ⟨b1, b2, b3⟩⟩
    simp only [keys, List.map_append] at b3
    refine ⟨fun x hx => ?_, ?_, fun x hx => ?_⟩ <;> simp only [keys, List.map_append] at *
    · rcases List.mem_append.1 hx with h | h
      · exact a1 x h
      · exact b1 x h
    · exact List.nodup_append.2 ⟨a2, b2, fun x hx y hy e => by subst e; exact b3 x hy (List.mem_append_right _ hx)⟩
    · rcases List.mem_append.1 hx with h | h
      · exact a3 x h
      · exact fun hm => b3 x h (List.mem_append_left _ hm)
theorem kok_one {d : Defs} {v : Int} {p : Int × Int} : KOk d [(v, p)] ↔ wi v 0 4095 = true ∧ v ∉ keys d := by
  constructor
  · rintro ⟨h1, _, h3⟩
    exact ⟨h1 v (by simp), h3 v (by simp)⟩
  · rintro ⟨h1, h2⟩
    exact ⟨fun x hx => by simp at hx; subst hx; exact h1, by simp, fun x hx => by simp at hx; subst hx; exact h2⟩
theorem dget_out {v : Int} : ∀ {d : Defs}, dget d v = none ↔ v ∉ keys d
  | [] => by simp [dget]
  | (k, p) :: d => by
    rw [dget]
    split
    · rename_i e
      subst e
      simp
    · rename_i e
      rw [dget_out]
      simp only [keys, List.map_cons, List.mem_cons, not_or]
      exact ⟨fun h => ⟨fun e2 => e e2.symm, h⟩, fun h => h.2⟩
theorem define_iff {v : Int} {p : Int × Int} {d : Defs} : (defineF v p d).1 = 0 ↔ KOk d [(v, p)] := by
  rw [kok_one]
  unfold defineF
  cases hw : wi v 0 4095 with
  | false => simp
  | true =>
    rw [if_neg (by decide)]
    cases hd : dget d v with
    | none =>
      rw [if_neg (by decide)]
      exact ⟨fun _ => ⟨rfl, dget_out.1 hd⟩, fun _ => rfl⟩
    | some x =>
      rw [if_pos (show (some x).isSome = true from rfl)]
      have : ¬ v ∉ keys d := fun h => by rw [dget_out.2 h] at hd; cases hd
      exact ⟨fun h => absurd (show (7 : Int) = 0 from h) (by decide), fun h => absurd h.2 this⟩
theorem define_eq {v : Int} {p : Int × Int} {d : Defs} (h : (defineF v p d).1 = 0) : (defineF v p d).2 = d ++ [(v, p)] := by
  have h2 := h
  rw [define_iff, kok_one] at h2
  unfold defineF
  rw [if_neg (by rw [h2.1]; decide), dget_out.2 h2.2, if_neg (by decide)]
theorem params_iff {k : Int} : ∀ {ps : List Int} {d : Defs}, ((paramsF k ps d).1 = 0 ↔ KOk d (defsP k ps)) ∧ ((paramsF k ps d).1 = 0 → (paramsF k ps d).2 = d ++ defsP k ps)
  | [], d => ⟨⟨fun _ => kok_nil d, fun _ => rfl⟩, fun _ => by simp [paramsF, defsP]⟩
  | p :: ps, d => by
    have hc : defsP k (p :: ps) = [(p, (k, 0))] ++ defsP k ps := rfl
    rw [hc, kok_append, paramsF]
    by_cases h : (defineF p (k, 0) d).1 = 0
    · rw [if_neg (fun h2 => h2 h)]
      have he := define_eq h
      obtain ⟨h1, h2⟩ := params_iff (k := k) (ps := ps) (d := (defineF p (k, 0) d).2)
      rw [he] at h1 h2
      rw [he]
      exact ⟨⟨fun h3 => ⟨define_iff.1 h, h1.1 h3⟩, fun h3 => h1.2 h3.2⟩, fun h3 => by rw [h2 h3, List.append_assoc]⟩
    · rw [if_pos h]
      exact ⟨⟨fun h3 => absurd h3 h, fun h3 => absurd (define_iff.2 h3.1) h⟩, fun h3 => absurd h3 h⟩
theorem inss_iff {k : Int} : ∀ {is : List SIns} {n : Int} {d : Defs}, ((inssF k n is d).1 = 0 ↔ KOk d (defsI k n is) ∧ ∀ i ∈ is, formF i = 0) ∧ ((inssF k n is d).1 = 0 → (inssF k n is d).2 = d ++ defsI k n is)
  | [], n, d => ⟨⟨fun _ => ⟨kok_nil d, fun i hi => by cases hi⟩, fun _ => rfl⟩, fun _ => by simp [inssF, defsI]⟩
  | i :: is, n, d => by
    have hc : defsI k n (i :: is) = [(i.to, (k, n + 1))] ++ defsI k (n + 1) is := rfl
    rw [hc, kok_append, inssF]
    by_cases h : (defineF i.to (k, n + 1) d).1 = 0
    · rw [if_neg (fun h2 => h2 h)]
      have he := define_eq h
      by_cases hf : formF i = 0
      · rw [if_neg (fun h2 => h2 hf)]
        obtain ⟨h1, h2⟩ := inss_iff (k := k) (is := is) (n := n + 1) (d := (defineF i.to (k, n + 1) d).2)
        rw [he] at h1 h2
        rw [he]
        refine ⟨⟨fun h3 => ?_, fun h3 => ?_⟩, fun h3 => by rw [h2 h3, List.append_assoc]⟩
        · have h4 := h1.1 h3
          refine ⟨⟨define_iff.1 h, h4.1⟩, fun j hj => ?_⟩
          rcases List.mem_cons.1 hj with rfl | hj
          · exact hf
          · exact h4.2 j hj
        · exact h1.2 ⟨h3.1.2, fun j hj => h3.2 j (List.mem_cons_of_mem _ hj)⟩
      · rw [if_pos hf]
        exact ⟨⟨fun h3 => absurd h3 hf, fun h3 => absurd (h3.2 i (List.mem_cons_self ..)) hf⟩, fun h3 => absurd h3 hf⟩
    · rw [if_pos h]
      exact ⟨⟨fun h3 => absurd h3 h, fun h3 => absurd (define_iff.2 h3.1.1) h⟩, fun h3 => absurd h3 h⟩
theorem block_iff {bs : List SBlock} {k : Int} {b : SBlock} {d : Defs} : ((blockF bs k b d).1 = 0 ↔ KOk d (defsB k b) ∧ blockOk bs b) ∧ ((blockF bs k b d).1 = 0 → (blockF bs k b d).2 = d ++ defsB k b) := by
  unfold blockF defsB blockOk
  rw [kok_append]
  obtain ⟨p1, p2⟩ := params_iff (k := k) (ps := b.params) (d := d)
  by_cases hp : (paramsF k b.params d).1 = 0
  · rw [if_neg (fun h => h hp)]
    rw [p2 hp]
    obtain ⟨i1, i2⟩ := inss_iff (k := k) (is := b.ins) (n := 0) (d := d ++ defsP k b.params)
    by_cases hi : (inssF k 0 b.ins (d ++ defsP k b.params)).1 = 0
    · rw [if_neg (fun h => h hi)]
      dsimp only
      rw [i2 hi]
      exact ⟨⟨fun h => ⟨⟨p1.1 hp, (i1.1 hi).1⟩, (i1.1 hi).2, h⟩, fun h => h.2.2⟩, fun h => List.append_assoc ..⟩
    · rw [if_pos hi]
      exact ⟨⟨fun h => absurd h hi, fun h => absurd (i1.2 ⟨h.1.2, h.2.1⟩) hi⟩, fun h => absurd h hi⟩
  · rw [if_pos hp]
    exact ⟨⟨fun h => absurd h hp, fun h => absurd (p1.2 h.1.1) hp⟩, fun h => absurd h hp⟩
theorem blocks_iff {bs : List SBlock} : ∀ {l : List SBlock} {k : Int} {d : Defs}, ((blocksF bs k l d).1 = 0 ↔ KOk d (defsL k l) ∧ ∀ b ∈ l, blockOk bs b) ∧ ((blocksF bs k l d).1 = 0 → (blocksF bs k l d).2 = d ++ defsL k l)
  | [], k, d => ⟨⟨fun _ => ⟨kok_nil d, fun i hi => by cases hi⟩, fun _ => rfl⟩, fun _ => by simp [blocksF, defsL]⟩
  | b :: l, k, d => by
    rw [defsL, kok_append, blocksF]
    obtain ⟨b1, b2⟩ := block_iff (bs := bs) (k := k) (b := b) (d := d)
    by_cases h : (blockF bs k b d).1 = 0
    · rw [if_neg (fun h2 => h2 h), b2 h]
      obtain ⟨h1, h2⟩ := blocks_iff (bs := bs) (l := l) (k := k + 1) (d := d ++ defsB k b)
      refine ⟨⟨fun h3 => ?_, fun h3 => ?_⟩, fun h3 => by rw [h2 h3, List.append_assoc]⟩
      · have h4 := h1.1 h3
        refine ⟨⟨(b1.1 h).1, h4.1⟩, fun j hj => ?_⟩
        rcases List.mem_cons.1 hj with rfl | hj
        · exact (b1.1 h).2
        · exact h4.2 j hj
      · exact h1.2 ⟨h3.1.2, fun j hj => h3.2 j (List.mem_cons_of_mem _ hj)⟩
    · rw [if_pos h]
      exact ⟨⟨fun h3 => absurd h3 h, fun h3 => absurd (b1.2 ⟨h3.1.1, h3.2 b (List.mem_cons_self ..)⟩) h⟩, fun h3 => absurd h3 h⟩
theorem dget_at {v : Int} {p : Int × Int} : ∀ {d : Defs}, (keys d).Nodup → (dget d v = some p ↔ (v, p) ∈ d)
  | [], _ => by simp [dget]
  | (k, q) :: d, h => by
    obtain ⟨h1, h2⟩ := List.nodup_cons.1 (show (k :: keys d).Nodup from h)
    rw [dget]
    split
    · rename_i e
      subst e
      constructor
      · intro e; injection e with e; subst e; exact List.mem_cons_self ..
      · intro hm
        rcases List.mem_cons.1 hm with e | hm
        · injection e with _ e; rw [e]
        · exact absurd (List.mem_map.2 ⟨_, hm, rfl⟩) h1
    · rename_i e
      rw [dget_at h2]
      constructor
      · intro hm; exact List.mem_cons_of_mem _ hm
      · intro hm
        rcases List.mem_cons.1 hm with e2 | hm
        · injection e2 with e2 _; exact absurd e2.symm e
        · exact hm
def dI : Int → List SIns → List (Int × Int)
  | _, [] => []
  | n, i :: is => (i.to, n + 1) :: dI (n + 1) is
def dB (b : SBlock) : List (Int × Int) := b.params.map (fun p => (p, 0)) ++ dI 0 b.ins
theorem defsI_eq (k : Int) : ∀ (is : List SIns) (n : Int), defsI k n is = (dI n is).map fun e => (e.1, (k, e.2))
  | [], n => rfl
  | i :: is, n => by rw [defsI, dI, List.map_cons, defsI_eq k is]
theorem defsB_eq (k : Int) (b : SBlock) : defsB k b = (dB b).map fun e => (e.1, (k, e.2)) := by
  unfold defsB dB defsP
  rw [List.map_append, List.map_map, defsI_eq]
  rfl
theorem defsL_at {x : Int × Int × Int} : ∀ {l : List SBlock} {k : Int}, x ∈ defsL k l ↔ ∃ (j : Nat) (b : SBlock), l[j]? = some b ∧ x.2.1 = k + j ∧ (x.1, x.2.2) ∈ dB b
  | [], k => by simp [defsL]
  | c :: l, k => by
    rw [defsL, List.mem_append, defsL_at (l := l), defsB_eq, List.mem_map]
    constructor
    · rintro (⟨e, he, rfl⟩ | ⟨j, b, hb, h1, h2⟩)
      · exact ⟨0, c, rfl, by simp, he⟩
      · exact ⟨j + 1, b, by simpa using hb, by rw [h1]; simp; omega, h2⟩
    · rintro ⟨j, b, hb, h1, h2⟩
      cases j with
      | zero =>
        have hb : c = b := by simpa using hb
        subst hb
        refine .inl ⟨_, h2, ?_⟩
        obtain ⟨a, b, e⟩ := x
        have h1 : b = k + (0 : Nat) := h1
        rw [show b = k by rw [h1]; simp]
      | succ j => exact .inr ⟨j, b, by simpa using hb, by rw [h1]; simp; omega, h2⟩
theorem keysI_len : ∀ (is : List SIns) (n : Int), (dI n is).length = is.length
  | [], n => rfl
  | i :: is, n => by rw [dI, List.length_cons, keysI_len is, List.length_cons]
def insN : List SBlock → Nat
  | [] => 0
  | b :: l => b.ins.length + insN l
theorem keysL : ∀ (l : List SBlock) (k : Int), keys (defsL k l) = l.flatMap fun b => (dB b).map (·.1)
  | [], k => rfl
  | b :: l, k => by
    rw [defsL, keys, List.map_append, List.flatMap_cons]
    have h := keysL l (k + 1)
    rw [keys] at h
    rw [h, defsB_eq, List.map_map]
    rfl
theorem insN_le : ∀ (l : List SBlock), insN l ≤ (l.flatMap fun b => (dB b).map (·.1)).length
  | [] => Nat.le_refl _
  | b :: l => by
    have h := insN_le l
    rw [insN, List.flatMap_cons, List.length_append, List.length_map, dB, List.length_append, keysI_len]
    omega
theorem nodup_wi {l : List Int} (h : l.Nodup) (hw : ∀ x ∈ l, wi x 0 4095 = true) : l.length ≤ 4096 := by
  have h1 := nodup_lt (l := l.map Int.toNat) (n := 4096) ?_ fun v hv => by
    obtain ⟨x, hx, rfl⟩ := List.mem_map.1 hv
    have := wi_iff.1 (hw x hx)
    omega
  · rwa [List.length_map] at h1
  · rw [List.Nodup, List.pairwise_map]
    refine List.Pairwise.imp_of_mem (fun {a c} ha hc hne e => hne ?_) h
    have h1 := wi_iff.1 (hw a ha)
    have h2 := wi_iff.1 (hw c hc)
    omega
theorem count_eq : ∀ (l : List SBlock) (n : Int), 0 ≤ n → n + insN l ≤ 9223372036854775807 → countIns n l = n + insN l
  | [], n, _, _ => by simp [countIns, insN]
  | b :: l, n, h0, h => by
    rw [insN] at h
    rw [countIns, insN]
    have e : IntKind.i64.wrap (n + b.ins.length) = n + b.ins.length := by rw [IntKind.wrap_i64]; omega
    rw [e, count_eq l _ (by omega) (by omega)]
    omega
structure FuncIs (f : SFunc) : Prop where
  pos : 0 < f.blocks.length
  len : f.blocks.length ≤ 128
  ins : insN f.blocks ≤ 1024
  params : (paramsOf f.blocks 0).length ≤ 6
  name : wi f.name (-1) 1048575 = true
  kok : KOk [] (defsL 0 f.blocks)
  block : ∀ b ∈ f.blocks, blockOk f.blocks b
  uses : usesF (defsL 0 f.blocks) (domF f.blocks) 0 f.blocks = 0
theorem func_iff {f : SFunc} : funcF f = 0 ↔ FuncIs f := by
  constructor
  · intro h
    have hok := func_ok h
    obtain ⟨h1, h2⟩ := blocks_iff (bs := f.blocks) (l := f.blocks) (k := 0) (d := [])
    have h3 := h1.1 hok.blocks
    have h4 := h2 hok.blocks
    have hu := hok.uses
    rw [h4, List.nil_append] at hu
    have hl := nodup_wi h3.1.nodup h3.1.wi
    rw [keysL] at hl
    have hi := insN_le f.blocks
    have hc := hok.ins
    rw [count_eq _ _ (by omega) (by omega)] at hc
    exact ⟨hok.pos, hok.len, by omega, hok.params, wi_iff.2 hok.name, h3.1, h3.2, hu⟩
  · intro h
    obtain ⟨h1, h2⟩ := blocks_iff (bs := f.blocks) (l := f.blocks) (k := 0) (d := [])
    have h3 := h1.2 ⟨h.kok, h.block⟩
    have h4 := h2 h3
    have a1 := h.pos
    have a2 := h.len
    have a3 := h.ins
    have a4 := h.params
    unfold funcF
    rw [if_neg (by omega), if_neg (by rw [count_eq _ _ (by omega) (by omega)]; omega), if_neg (by rw [h.name]; decide), if_neg (fun hn => hn h3), h4, List.nil_append]
    exact h.uses
end Go.SM
end
section
set_option linter.unusedVariables false
set_option linter.unusedSimpArgs false
namespace Go.SM
open Go.VL
def atF (f : SFunc) : List Int := placeF (reachL f) f.blocks.length
def reachN (f : SFunc) : List Nat := (List.range f.blocks.length).filter fun v => decide (v ∈ orderF f.blocks)
section
variable {f : SFunc} (ho : OrderOk f.blocks (orderF f.blocks))
include ho
end
theorem edgesF_iff {bs : List SBlock} : ∀ {l : List SEdge}, (∀ e ∈ l, 1 ≤ e.block ∧ e.block < bs.length ∧ e.args.length = (paramsOf bs e.block).length) → edgesF bs l = 0
  | [], _ => rfl
  | e :: l, h => by
    have h1 := h e (List.mem_cons_self ..)
    rw [edgesF, if_neg (by rw [wi_iff.2 ⟨h1.1, by omega⟩]; decide), if_neg (fun hn => hn h1.2.2)]
    exact edgesF_iff fun x hx => h x (List.mem_cons_of_mem _ hx)
theorem usesF_iff {d : Defs} {o : Dom} : ∀ {l : List SBlock} {k : Nat}, usesF d o k l = 0 ↔ ∀ (j : Nat) (b : SBlock), l[j]? = some b → usesIns d o (k + j) 0 b.ins = true ∧ usedF b.term (fineF d o (k + j) b.ins.length) = true
  | [], k => by simp [usesF]
  | c :: l, k => by
    rw [usesF]
    constructor
    · intro h j b hb
      split at h
      · cases h
      · rename_i h1
        split at h
        · cases h
        · rename_i h2
          cases j with
          | zero =>
            have hb : c = b := by simpa using hb
            subst hb
            exact ⟨by simpa using h1, by simpa using h2⟩
          | succ j =>
            have := usesF_iff.1 h j b (by simpa using hb)
            rwa [show k + 1 + j = k + (j + 1) by omega] at this
    · intro h
      have h0 := h 0 c rfl
      rw [Nat.add_zero] at h0
      rw [if_neg (by rw [h0.1]; decide), if_neg (by rw [h0.2]; decide)]
      exact usesF_iff.2 fun j b hb => by
        have := h (j + 1) b (by simpa using hb)
        rwa [show k + (j + 1) = k + 1 + j by omega] at this
theorem usesIns_imp {d d' : Defs} {o o' : Dom} {k k' : Nat} (h : ∀ n u, fineF d o k n u = true → fineF d' o' k' n u = true) : ∀ {is : List SIns} {n : Int}, usesIns d o k n is = true → usesIns d' o' k' n is = true
  | [], n, _ => rfl
  | i :: is, n, hu => by
    rw [usesIns, Bool.and_eq_true, List.all_eq_true] at hu ⊢
    exact ⟨fun u hu2 => h n u (hu.1 u hu2), usesIns_imp h hu.2⟩
end Go.SM
end
section
set_option linter.unusedVariables false
set_option linter.unusedSimpArgs false
set_option linter.unusedSectionVars false
namespace Go.SM
open Go.VL
def jumpB (e : SEdge) : SBlock := ⟨[], [], ⟨1, 0, 0, [], [e]⟩⟩
abbrev Cut := List (Nat × SEdge)
def spE (c : SEdge → Bool) (n k : Nat) : List SEdge → Cut → List SEdge × Cut
  | [], X => ([], X)
  | e :: l, X => if c e = true then (⟨((n + X.length : Nat) : Int), []⟩ :: (spE c n k l (X ++ [(k, e)])).1, (spE c n k l (X ++ [(k, e)])).2) else (e :: (spE c n k l X).1, (spE c n k l X).2)
def setTo (b : SBlock) (to : List SEdge) : SBlock := { b with term := { b.term with to := to } }
def spB (c : SBlock → SEdge → Bool) (n : Nat) : Nat → List SBlock → Cut → List SBlock × Cut
  | _, [], X => ([], X)
  | k, b :: l, X => (setTo b (spE (c b) n k b.term.to X).1 :: (spB c n (k + 1) l (spE (c b) n k b.term.to X).2).1, (spB c n (k + 1) l (spE (c b) n k b.term.to X).2).2)
def critB (bs : List SBlock) (b : SBlock) (e : SEdge) : Bool := !(decide ((b.term.to.length : Int) < 2) || decide ((((predsF bs)[e.block.toNat]?.getD []).length : Int) < 2))
def splitP (f : SFunc) : List SBlock × Cut := spB (critB f.blocks) f.blocks.length 0 f.blocks []
def splitF (f : SFunc) : SFunc := ⟨f.name, (splitP f).1 ++ (splitP f).2.map fun x => jumpB x.2⟩
theorem spE_pre (c : SEdge → Bool) (n k : Nat) : ∀ (l : List SEdge) (X : Cut), ∃ Y, (spE c n k l X).2 = X ++ Y ∧ Y.length ≤ l.length ∧ ∀ x ∈ Y, x.1 = k ∧ x.2 ∈ l
  | [], X => ⟨[], by rw [spE, List.append_nil], Nat.le_refl _, fun x h => by cases h⟩
  | e :: l, X => by
    rw [spE]
    split
    · obtain ⟨Y, h1, h2, h3⟩ := spE_pre c n k l (X ++ [(k, e)])
      refine ⟨(k, e) :: Y, by rw [h1, List.append_assoc]; rfl, by simp; omega, fun x hx => ?_⟩
      rcases List.mem_cons.1 hx with rfl | hx
      · exact ⟨rfl, List.mem_cons_self ..⟩
      · exact ⟨(h3 x hx).1, List.mem_cons_of_mem _ (h3 x hx).2⟩
    · obtain ⟨Y, h1, h2, h3⟩ := spE_pre c n k l X
      exact ⟨Y, h1, by simp; omega, fun x hx => ⟨(h3 x hx).1, List.mem_cons_of_mem _ (h3 x hx).2⟩⟩
theorem spE_len (c : SEdge → Bool) (n k : Nat) : ∀ (l : List SEdge) (X : Cut), (spE c n k l X).1.length = l.length
  | [], X => rfl
  | e :: l, X => by
    rw [spE]
    split
    · show (_ :: _).length = _
      rw [List.length_cons, spE_len, List.length_cons]
    · show (_ :: _).length = _
      rw [List.length_cons, spE_len, List.length_cons]
theorem spE_get (c : SEdge → Bool) (n k : Nat) : ∀ (l : List SEdge) (X : Cut) (i : Nat) (e : SEdge), l[i]? = some e → (spE c n k l X).1[i]? = some e ∨ ∃ j, (spE c n k l X).2[j]? = some (k, e) ∧ (spE c n k l X).1[i]? = some ⟨((n + j : Nat) : Int), []⟩
  | [], X, i, e, h => by simp at h
  | a :: l, X, i, e, h => by
    rw [spE]
    split
    · dsimp only
      cases i with
      | zero =>
        have h : a = e := by simpa using h
        subst h
        obtain ⟨Y, h1, _⟩ := spE_pre c n k l (X ++ [(k, a)])
        refine .inr ⟨X.length, ?_, rfl⟩
        rw [h1, List.append_assoc, List.getElem?_append_right (Nat.le_refl _), Nat.sub_self]
        rfl
      | succ i =>
        have h : l[i]? = some e := by simpa using h
        simpa using spE_get c n k l _ i e h
    · dsimp only
      cases i with
      | zero =>
        have h : a = e := by simpa using h
        subst h
        exact .inl rfl
      | succ i =>
        have h : l[i]? = some e := by simpa using h
        simpa using spE_get c n k l _ i e h
theorem spB_pre (c : SBlock → SEdge → Bool) (n : Nat) : ∀ (l : List SBlock) (k : Nat) (X : Cut), ∃ Y, (spB c n k l X).2 = X ++ Y ∧ ∀ x ∈ Y, ∃ i b, l[i]? = some b ∧ x.1 = k + i ∧ x.2 ∈ b.term.to
  | [], k, X => ⟨[], by rw [spB, List.append_nil], fun x h => by cases h⟩
  | b :: l, k, X => by
    rw [spB]
    obtain ⟨Y, h1, _, h2⟩ := spE_pre (c b) n k b.term.to X
    obtain ⟨Z, h3, h4⟩ := spB_pre c n l (k + 1) (spE (c b) n k b.term.to X).2
    refine ⟨Y ++ Z, by rw [h3, h1, List.append_assoc], fun x hx => ?_⟩
    rcases List.mem_append.1 hx with hx | hx
    · exact ⟨0, b, rfl, (h2 x hx).1, (h2 x hx).2⟩
    · obtain ⟨i, d, g1, g2, g3⟩ := h4 x hx
      exact ⟨i + 1, d, by simpa using g1, by omega, g3⟩
theorem spB_len (c : SBlock → SEdge → Bool) (n : Nat) : ∀ (l : List SBlock) (k : Nat) (X : Cut), (spB c n k l X).1.length = l.length
  | [], k, X => rfl
  | b :: l, k, X => by
    rw [spB]
    show (_ :: _).length = _
    rw [List.length_cons, spB_len, List.length_cons]
theorem spB_get (c : SBlock → SEdge → Bool) (n : Nat) : ∀ (l : List SBlock) (k : Nat) (X : Cut) (i : Nat) (b : SBlock), l[i]? = some b → ∃ to : List SEdge, (spB c n k l X).1[i]? = some (setTo b to) ∧ to.length = b.term.to.length ∧ ∀ (j : Nat) (e : SEdge), b.term.to[j]? = some e → to[j]? = some e ∨ ∃ m, (spB c n k l X).2[m]? = some (k + i, e) ∧ to[j]? = some ⟨((n + m : Nat) : Int), []⟩
  | [], k, X, i, b, h => by simp at h
  | a :: l, k, X, i, b, h => by
    rw [spB]
    dsimp only
    cases i with
    | zero =>
      have h : a = b := by simpa using h
      subst h
      refine ⟨_, rfl, spE_len .., fun j e he => ?_⟩
      rcases spE_get (c a) n k a.term.to X j e he with h | ⟨m, h1, h2⟩
      · exact .inl h
      · obtain ⟨Y, h3, _⟩ := spB_pre c n l (k + 1) (spE (c a) n k a.term.to X).2
        refine .inr ⟨m, ?_, h2⟩
        rw [h3, List.getElem?_append_left (List.getElem?_eq_some_iff.1 h1).1]
        exact h1
    | succ i =>
      have h : l[i]? = some b := by simpa using h
      obtain ⟨to, h1, h2, h3⟩ := spB_get c n l (k + 1) (spE (c a) n k a.term.to X).2 i b h
      refine ⟨to, by simpa using h1, h2, fun j e he => (h3 j e he).imp id fun ⟨m, g1, g2⟩ => ⟨m, ?_, g2⟩⟩
      rw [g1, show k + 1 + i = k + (i + 1) by omega]
structure SplitOk (bs gs : List SBlock) (E : Cut) : Prop where
  len : gs.length = bs.length + E.length
  old : ∀ k b, bs[k]? = some b → ∃ to : List SEdge, gs[k]? = some (setTo b to) ∧ to.length = b.term.to.length ∧ ∀ (j : Nat) (e : SEdge), b.term.to[j]? = some e → to[j]? = some e ∨ ∃ m, E[m]? = some (k, e) ∧ to[j]? = some ⟨((bs.length + m : Nat) : Int), []⟩
  new : ∀ m k e, E[m]? = some (k, e) → gs[bs.length + m]? = some (jumpB e) ∧ ∃ b, bs[k]? = some b ∧ e ∈ b.term.to
theorem split_is (f : SFunc) : SplitOk f.blocks (splitF f).blocks (splitP f).2 := by
  have hl : (splitP f).1.length = f.blocks.length := spB_len ..
  refine ⟨by unfold splitF; dsimp only; rw [List.length_append, List.length_map, hl], fun k b hb => ?_, fun m k e he => ?_⟩
  · obtain ⟨to, h1, h2, h3⟩ := spB_get (critB f.blocks) f.blocks.length f.blocks 0 [] k b hb
    have hk := (List.getElem?_eq_some_iff.1 hb).1
    refine ⟨to, ?_, h2, fun j e he => (h3 j e he).imp id fun ⟨m, g1, g2⟩ => ⟨m, by rw [Nat.zero_add] at g1; exact g1, g2⟩⟩
    unfold splitF
    dsimp only
    rw [List.getElem?_append_left (by omega)]
    exact h1
  · obtain ⟨Y, h1, h2⟩ := spB_pre (critB f.blocks) f.blocks.length f.blocks 0 []
    refine ⟨?_, ?_⟩
    · unfold splitF
      dsimp only
      rw [List.getElem?_append_right (by omega), hl, Nat.add_sub_cancel_left, List.getElem?_map, he]
      rfl
    · have hm : (k, e) ∈ Y := by
        have := List.mem_of_getElem? he
        unfold splitP at this
        rw [h1] at this
        exact this
      obtain ⟨i, b, g1, g2, g3⟩ := h2 _ hm
      have g2 : k = 0 + i := g2
      rw [Nat.zero_add] at g2
      subst g2
      exact ⟨b, g1, g3⟩
section
variable {bs gs : List SBlock} {E : Cut} (h : SplitOk bs gs E) (hE : ∀ b ∈ bs, ∀ e ∈ b.term.to, 1 ≤ e.block ∧ e.block < bs.length)
include h hE
theorem way_split {l : List Nat} {v : Nat} (hw : Way bs l v) : ∃ l', Way gs l' v ∧ ∀ y ∈ l', y < bs.length → y ∈ l := by
  induction hw with
  | start => exact ⟨[], .start, fun y hy => by cases hy⟩
  | @step l p k _ he ih =>
    obtain ⟨l', h1, h2⟩ := ih
    obtain ⟨e, he, hek⟩ := he
    have hpl : p < bs.length := Classical.byContradiction fun hn => by
      rw [toAt, List.getElem?_eq_none (by omega)] at he
      cases he
    obtain ⟨b, hb⟩ := get_of_lt bs p (by omega)
    rw [toAt_get hb] at he
    obtain ⟨j, hj⟩ := List.getElem?_of_mem he
    obtain ⟨to, g1, g2, g3⟩ := h.old p b hb
    have hto : toAt gs p = to := by rw [toAt_get g1]; rfl
    rcases g3 j e hj with g | ⟨m, g4, g5⟩
    · refine ⟨p :: l', .step h1 ⟨e, by rw [hto]; exact List.mem_of_getElem? g, hek⟩, fun y hy hyl => ?_⟩
      rcases List.mem_cons.1 hy with rfl | hy
      · exact List.mem_cons_self ..
      · exact List.mem_cons_of_mem _ (h2 y hy hyl)
    · have hn := (h.new m p e g4).1
      refine ⟨(bs.length + m) :: p :: l', .step (.step h1 ⟨_, by rw [hto]; exact List.mem_of_getElem? g5, by dsimp only; omega⟩) ⟨e, by rw [toAt_get hn]; exact List.mem_singleton.2 rfl, hek⟩, fun y hy hyl => ?_⟩
      rcases List.mem_cons.1 hy with rfl | hy
      · omega
      · rcases List.mem_cons.1 hy with rfl | hy
        · exact List.mem_cons_self ..
        · exact List.mem_cons_of_mem _ (h2 y hy hyl)
theorem split_way {l : List Nat} {v : Nat} (hw : Way gs l v) : (v < bs.length → ∃ l0, Way bs l0 v ∧ ∀ y ∈ l0, y ∈ l) ∧
    ∀ m k e, v = bs.length + m → E[m]? = some (k, e) → k ∈ l ∧ ∃ l0, Way bs l0 k ∧ ∀ y ∈ l0, y ∈ l := by
  induction hw with
  | start => exact ⟨fun _ => ⟨[], .start, fun y hy => by cases hy⟩, fun m k e hv he => by
      obtain ⟨_, b, hb, hm⟩ := h.new m k e he
      have := hE b (List.mem_of_getElem? hb) e hm
      omega⟩
  | @step l p v hw he ih =>
    obtain ⟨ih1, ih2⟩ := ih
    obtain ⟨e, he, hev⟩ := he
    by_cases hp : p < bs.length
    · obtain ⟨l0, w0, s0⟩ := ih1 hp
      obtain ⟨b, hb⟩ := get_of_lt bs p (by omega)
      obtain ⟨to, g1, g2, g3⟩ := h.old p b hb
      have hto : toAt gs p = to := by rw [toAt_get g1]; rfl
      rw [hto] at he
      obtain ⟨j, hj⟩ := List.getElem?_of_mem he
      have hjl := (List.getElem?_eq_some_iff.1 hj).1
      obtain ⟨x, hx⟩ := get_of_lt b.term.to j (by omega)
      have hxe := hE b (List.mem_of_getElem? hb) x (List.mem_of_getElem? hx)
      rcases g3 j x hx with g | ⟨m, g4, g5⟩
      · rw [hj] at g
        injection g with g
        subst g
        refine ⟨fun _ => ⟨p :: l0, .step w0 ⟨e, by rw [toAt_get hb]; exact List.mem_of_getElem? hx, hev⟩, fun y hy => ?_⟩, fun m k x2 hv _ => by omega⟩
        rcases List.mem_cons.1 hy with rfl | hy
        · exact List.mem_cons_self ..
        · exact List.mem_cons_of_mem _ (s0 y hy)
      · rw [hj] at g5
        injection g5 with g5
        subst g5
        dsimp only at hev
        refine ⟨fun hl => by omega, fun m2 k x2 hv he2 => ?_⟩
        have : m2 = m := by omega
        subst this
        rw [g4] at he2
        injection he2 with he2
        injection he2 with he2 he3
        subst he2
        exact ⟨List.mem_cons_self .., l0, w0, fun y hy => List.mem_cons_of_mem _ (s0 y hy)⟩
    · have hpl : p < gs.length := Classical.byContradiction fun hn => by
        rw [toAt, List.getElem?_eq_none (by omega)] at he
        cases he
      have hlen := h.len
      obtain ⟨⟨q, x⟩, hx⟩ := get_of_lt E (p - bs.length) (by omega)
      obtain ⟨n1, b, hb, hm⟩ := h.new _ q x hx
      rw [show bs.length + (p - bs.length) = p by omega] at n1
      obtain ⟨i1, l0, w0, s0⟩ := ih2 (p - bs.length) q x (by omega) hx
      rw [toAt_get n1] at he
      have he : e = x := List.mem_singleton.1 he
      subst he
      have hxe := hE b (List.mem_of_getElem? hb) e hm
      refine ⟨fun _ => ⟨q :: l0, .step w0 ⟨e, by rw [toAt_get hb]; exact hm, hev⟩, fun y hy => ?_⟩, fun m k x2 hv _ => by omega⟩
      rcases List.mem_cons.1 hy with rfl | hy
      · exact List.mem_cons_of_mem _ i1
      · exact List.mem_cons_of_mem _ (s0 y hy)
theorem split_reach {v : Nat} (hv : v < bs.length) : (∃ l, Way gs l v) ↔ ∃ l, Way bs l v :=
  ⟨fun ⟨l, hw⟩ => let ⟨l0, w0, _⟩ := (split_way h hE hw).1 hv; ⟨l0, w0⟩, fun ⟨l, hw⟩ => let ⟨l', w', _⟩ := way_split h hE hw; ⟨l', w'⟩⟩
theorem split_doms {a b : Nat} (ha : a < bs.length) (hb : b < bs.length) : Doms gs a b ↔ Doms bs a b := by
  constructor
  · intro hd l hw
    obtain ⟨l', w', s'⟩ := way_split h hE hw
    exact (hd l' w').imp id fun hm => s' a hm ha
  · intro hd l hw
    obtain ⟨l0, w0, s0⟩ := (split_way h hE hw).1 hb
    exact (hd l0 w0).imp id (s0 a)
end
end Go.SM
end
section
set_option linter.unusedVariables false
set_option linter.unusedSimpArgs false
namespace Go.SM
open Go.VL
theorem defsL_append : ∀ (a b : List SBlock) (k : Int), defsL k (a ++ b) = defsL k a ++ defsL (k + a.length) b
  | [], b, k => by simp [defsL]
  | x :: a, b, k => by
    rw [List.cons_append, defsL, defsL, defsL_append a b, List.append_assoc, List.length_cons, show k + 1 + (a.length : Int) = k + ((a.length + 1 : Nat) : Int) by omega]
theorem defsL_jump : ∀ (E : Cut) (k : Int), defsL k (E.map fun x => jumpB x.2) = []
  | [], k => rfl
  | x :: E, k => by rw [List.map_cons, defsL, defsL_jump E]; rfl
theorem defsL_spB (c : SBlock → SEdge → Bool) (n : Nat) : ∀ (l : List SBlock) (k : Nat) (X : Cut) (m : Int), defsL m (spB c n k l X).1 = defsL m l
  | [], k, X, m => rfl
  | b :: l, k, X, m => by
    rw [spB, defsL]
    show defsL m (_ :: _) = _
    rw [defsL, defsL_spB c n l]
    rfl
theorem defs_split (f : SFunc) : defsL 0 (splitF f).blocks = defsL 0 f.blocks := by
  unfold splitF
  dsimp only
  rw [defsL_append, defsL_jump, List.append_nil]
  exact defsL_spB ..
theorem insN_append : ∀ a b : List SBlock, insN (a ++ b) = insN a + insN b
  | [], b => by rw [List.nil_append, insN, Nat.zero_add]
  | x :: a, b => by rw [List.cons_append, insN, insN, insN_append a b]; omega
theorem insN_jump : ∀ E : Cut, insN (E.map fun x => jumpB x.2) = 0
  | [] => rfl
  | x :: E => by rw [List.map_cons, insN, insN_jump E]; rfl
theorem insN_spB (c : SBlock → SEdge → Bool) (n : Nat) : ∀ (l : List SBlock) (k : Nat) (X : Cut), insN (spB c n k l X).1 = insN l
  | [], k, X => rfl
  | b :: l, k, X => by
    rw [spB, insN]
    show insN (_ :: _) = _
    rw [insN, insN_spB c n l]
    rfl
theorem insN_split (f : SFunc) : insN (splitF f).blocks = insN f.blocks := by
  unfold splitF
  dsimp only
  rw [insN_append, insN_jump, Nat.add_zero]
  exact insN_spB ..
theorem split_ok {f : SFunc} (h0 : funcF f = 0) (hl : (splitF f).blocks.length ≤ 128) : funcF (splitF f) = 0 := by
  have hok := func_ok h0
  have hE := hok.edges
  have fi := func_iff.1 h0
  have h := split_is f
  have hlen := h.len
  have hpos := hok.pos
  have hpar : ∀ v : Int, 0 ≤ v → v < f.blocks.length → paramsOf (splitF f).blocks v = paramsOf f.blocks v := fun v h1 h2 => by
    obtain ⟨b, hb⟩ := get_of_lt f.blocks v.toNat (by omega)
    obtain ⟨to, g1, _⟩ := h.old _ b hb
    rw [paramsOf_get g1, paramsOf_get hb]
    rfl
  have hjmp : ∀ (m k : Nat) (e : SEdge), (splitP f).2[m]? = some (k, e) → paramsOf (splitF f).blocks ((f.blocks.length + m : Nat) : Int) = [] := fun m k e hm => by
    rw [paramsOf_get (k := ((f.blocks.length + m : Nat) : Int)) (b := jumpB e) (by rw [Int.toNat_natCast]; exact (h.new m k e hm).1)]
    rfl
  have hget : ∀ (i : Nat) (c : SBlock), (splitF f).blocks[i]? = some c → (∃ b to, f.blocks[i]? = some b ∧ c = setTo b to ∧ to.length = b.term.to.length ∧ ∀ e' ∈ to, e' ∈ b.term.to ∨ ∃ m e, (splitP f).2[m]? = some (i, e) ∧ e' = ⟨((f.blocks.length + m : Nat) : Int), []⟩) ∨
      ∃ m k e b, i = f.blocks.length + m ∧ (splitP f).2[m]? = some (k, e) ∧ c = jumpB e ∧ f.blocks[k]? = some b ∧ e ∈ b.term.to := fun i c hc => by
    have hil := (List.getElem?_eq_some_iff.1 hc).1
    by_cases hi : i < f.blocks.length
    · obtain ⟨b, hb⟩ := get_of_lt f.blocks i (by omega)
      obtain ⟨to, g1, g2, g3⟩ := h.old i b hb
      rw [hc] at g1
      injection g1 with g1
      refine .inl ⟨b, to, hb, g1, g2, fun e' he' => ?_⟩
      obtain ⟨j, hj⟩ := List.getElem?_of_mem he'
      have hjl := (List.getElem?_eq_some_iff.1 hj).1
      obtain ⟨x, hx⟩ := get_of_lt b.term.to j (by omega)
      rcases g3 j x hx with g | ⟨m, g4, g5⟩
      · rw [hj] at g
        injection g with g
        exact .inl (g ▸ List.mem_of_getElem? hx)
      · rw [hj] at g5
        injection g5 with g5
        exact .inr ⟨m, x, g4, g5⟩
    · obtain ⟨⟨k, e⟩, hx⟩ := get_of_lt (splitP f).2 (i - f.blocks.length) (by omega)
      obtain ⟨g1, b, hb, hm⟩ := h.new _ k e hx
      rw [show f.blocks.length + (i - f.blocks.length) = i by omega, hc] at g1
      injection g1 with g1
      exact .inr ⟨_, k, e, b, by omega, hx, g1, hb, hm⟩
  have hed : ∀ b ∈ f.blocks, ∀ e ∈ b.term.to, 1 ≤ e.block ∧ e.block < (splitF f).blocks.length ∧ e.args.length = (paramsOf (splitF f).blocks e.block).length := fun b hb e he => by
    obtain ⟨x1, x2, x3⟩ := (endF_ok (fi.block b hb).2).edges e he
    exact ⟨x1, by omega, by rw [hpar _ (by omega) x2]; exact x3⟩
  have hblk : ∀ c ∈ (splitF f).blocks, blockOk (splitF f).blocks c := fun c hc => by
    obtain ⟨i, hi⟩ := List.getElem?_of_mem hc
    rcases hget i c hi with ⟨b, to, hb, rfl, hto, hes⟩ | ⟨m, k, e, b, rfl, hx, rfl, hb, hm⟩
    · have hbm := List.mem_of_getElem? hb
      obtain ⟨b1, b2⟩ := fi.block b hbm
      refine ⟨b1, ?_⟩
      have he := endF_ok b2
      unfold endF at b2 ⊢
      have hsh : shapeF (setTo b to).term = shapeF b.term := by
        unfold shapeF setTo
        simp only [hto]
      rw [hsh, if_neg (by rw [he.shape]; decide)]
      change (if 256 < (b.term.cases.length : Int) then 2 else if b.term.kind = 4 ∧ wi b.term.n 1 6 = false then 4 else if casesF [] b.term.cases ≠ 0 then casesF [] b.term.cases else edgesF (splitF f).blocks to) = 0
      rw [if_neg (by rw [he.shape]; decide)] at b2
      split at b2
      · cases b2
      · rename_i h2
        rw [if_neg h2]
        split at b2
        · cases b2
        · rename_i h3
          rw [if_neg h3, if_neg (fun hn => hn he.cases)]
          refine edgesF_iff fun e' he' => ?_
          rcases hes e' he' with h4 | ⟨m, e, hm, rfl⟩
          · exact hed b hbm e' h4
          · have hml := (List.getElem?_eq_some_iff.1 hm).1
            refine ⟨by dsimp only; omega, by dsimp only; omega, ?_⟩
            dsimp only
            rw [hjmp m i e hm]
    · refine ⟨fun i hi => (by cases hi), ?_⟩
      have h1 := hed b (List.mem_of_getElem? hb) e hm
      have h2 : edgesF (splitF f).blocks [e] = 0 := edgesF_iff fun x hx => by
        rw [List.mem_singleton.1 hx]
        exact h1
      show endF _ ⟨1, 0, 0, [], [e]⟩ = 0
      unfold endF
      rw [if_neg (by simp [shapeF]), if_neg (by simp), if_neg (by simp), if_neg (by simp [casesF])]
      exact h2
  have hEg : ∀ b ∈ (splitF f).blocks, ∀ e ∈ b.term.to, 1 ≤ e.block ∧ e.block < (splitF f).blocks.length := fun b hb e he => by
    have := (endF_ok (hblk b hb).2).edges e he
    exact ⟨this.1, this.2.1⟩
  have hgpos : 0 < (splitF f).blocks.length := by omega
  have hlen128 := hok.len
  refine func_iff.2 ⟨hgpos, hl, by rw [insN_split]; exact fi.ins, ?_, fi.name, by rw [defs_split]; exact fi.kok, hblk, ?_⟩
  · rw [hpar 0 (Int.le_refl _) (by omega)]
    exact fi.params
  · rw [defs_split]
    refine usesF_iff.2 fun i c hi => ?_
    rw [Nat.zero_add]
    have hil := (List.getElem?_eq_some_iff.1 hi).1
    have hunseen : ∀ {at_ u : Int}, (¬ ∃ l, Way (splitF f).blocks l i) → (dget (defsL 0 f.blocks) u).isSome = true → fineF (defsL 0 f.blocks) (domF (splitF f).blocks) i at_ u = true := fun {at_ u} hn hs => by
      have hsn : (domF (splitF f).blocks).seen.has i = false := by
        cases hc : (domF (splitF f).blocks).seen.has i with
        | false => rfl
        | true => exact absurd ((seen_iff hgpos hl hEg (by omega)).1 hc) hn
      unfold fineF
      cases hg : dget (defsL 0 f.blocks) u with
      | none => rw [hg] at hs; cases hs
      | some p => dsimp only; rw [hsn]; simp
    -- what a use of the old function knows
    have hknow : ∀ {k : Nat} {at_ u : Int}, k < f.blocks.length → fineF (defsL 0 f.blocks) (domF f.blocks) k at_ u = true → ∃ j q, j < f.blocks.length ∧ dget (defsL 0 f.blocks) u = some ((j : Int), q) ∧ ((∃ l, Way f.blocks l k) → j = k ∧ q ≤ at_ ∨ j ≠ k ∧ Doms f.blocks j k) := fun {k at_ u} hk hf => by
      unfold fineF at hf
      cases hg : dget (defsL 0 f.blocks) u with
      | none => rw [hg] at hf; cases hf
      | some p =>
        rw [hg] at hf
        dsimp only at hf
        obtain ⟨j, bj, hbj, hp1, hp2⟩ := defsL_at.1 ((dget_at fi.kok.nodup).1 hg)
        obtain ⟨p1, q⟩ := p
        have hp1 : p1 = (0 : Int) + j := hp1
        rw [Int.zero_add] at hp1
        subst hp1
        have hjl := (List.getElem?_eq_some_iff.1 hbj).1
        refine ⟨j, q, hjl, rfl, fun hw => ?_⟩
        have hseen : (domF f.blocks).seen.has k = true := (seen_iff hok.pos hok.len hE (by omega)).2 hw
        rw [hseen] at hf
        simp only [Bool.not_true, Bool.or_false, Bool.or_eq_true, Bool.and_eq_true, decide_eq_true_eq, Int.toNat_natCast] at hf
        rcases hf with ⟨h1, h2⟩ | ⟨h1, h2⟩
        · exact .inl ⟨by omega, h2⟩
        · exact .inr ⟨fun e => h1 (by rw [e]), (has_iff hok.pos hok.len hE hw hk hjl).1 h2⟩
    have hdom : ∀ {j : Nat} {at_ u q : Int}, j < f.blocks.length → dget (defsL 0 f.blocks) u = some ((j : Int), q) → (∃ l, Way (splitF f).blocks l i) → (j = i ∧ q ≤ at_ ∨ j ≠ i ∧ Doms (splitF f).blocks j i) → fineF (defsL 0 f.blocks) (domF (splitF f).blocks) i at_ u = true := fun {j at_ u q} hj hg hw hor => by
      unfold fineF
      rw [hg]
      dsimp only
      rcases hor with ⟨rfl, h2⟩ | ⟨h1, h2⟩
      · simp [h2]
      · have hh : ((domF (splitF f).blocks).at i).has j = true := (has_iff hgpos hl hEg hw hil (by omega)).2 h2
        rw [Int.toNat_natCast, hh]
        have hne : ¬ (j : Int) = (i : Int) := fun e => h1 (by omega)
        simp [hne]
    rcases hget i c hi with ⟨b, to, hb, rfl, hto, hes⟩ | ⟨m, k, e, b, rfl, hx, rfl, hb, hm⟩
    · have hu := usesF_iff.1 fi.uses i b hb
      rw [Nat.zero_add] at hu
      have hin : i < f.blocks.length := (List.getElem?_eq_some_iff.1 hb).1
      have hfine : ∀ n u, fineF (defsL 0 f.blocks) (domF f.blocks) i n u = true → fineF (defsL 0 f.blocks) (domF (splitF f).blocks) i n u = true := fun n u hf => by
        obtain ⟨j, q, hj, hg, hor⟩ := hknow hin hf
        by_cases hr : ∃ l, Way (splitF f).blocks l i
        · refine hdom hj hg hr ?_
          exact (hor ((split_reach h hE hin).1 hr)).imp id fun h1 => ⟨h1.1, (split_doms h hE hj hin).2 h1.2⟩
        · exact hunseen hr (by rw [hg]; rfl)
      refine ⟨usesIns_imp hfine hu.1, ?_⟩
      have h2 := hu.2
      show usedF { b.term with to := to } (fineF _ _ i b.ins.length) = true
      unfold usedF at h2 ⊢
      dsimp only
      split at h2
      · cases h2
      · rename_i h1
        rw [if_neg (fun h3 => h1 ⟨h3.1, by
          cases hc : fineF (defsL 0 f.blocks) (domF f.blocks) i b.ins.length b.term.arg with
          | false => rfl
          | true => rw [hfine _ _ hc] at h3; exact absurd h3.2 (by decide)⟩)]
        rw [List.all_eq_true] at h2 ⊢
        intro e' he'
        rcases hes e' he' with h4 | ⟨m, e, _, rfl⟩
        · have := h2 e' h4
          rw [List.all_eq_true] at this ⊢
          exact fun u hu2 => hfine _ u (this u hu2)
        · rfl
    · refine ⟨rfl, ?_⟩
      have hkl : k < f.blocks.length := (List.getElem?_eq_some_iff.1 hb).1
      have hu := (usesF_iff.1 fi.uses k b hb).2
      rw [Nat.zero_add] at hu
      have hall := (List.all_eq_true.1 (show b.term.to.all (fun e => e.args.all (fineF (defsL 0 f.blocks) (domF f.blocks) k b.ins.length)) = true by
        unfold usedF at hu
        split at hu
        · cases hu
        · exact hu)) e hm
      rw [List.all_eq_true] at hall
      show usedF ⟨1, 0, 0, [], [e]⟩ _ = true
      unfold usedF
      rw [if_neg (fun h3 => h3.1.1 rfl), List.all_eq_true]
      intro e' he'
      rw [List.mem_singleton.1 he', List.all_eq_true]
      intro u hu2
      obtain ⟨j, q, hj, hg, hor⟩ := hknow hkl (hall u hu2)
      by_cases hr : ∃ l, Way (splitF f).blocks l (f.blocks.length + m)
      · refine hdom hj hg hr (.inr ⟨by omega, fun l hw => .inr ?_⟩)
        obtain ⟨g1, l0, w0, s0⟩ := (split_way h hE hw).2 m k e rfl hx
        rcases hor ⟨l0, w0⟩ with ⟨rfl, _⟩ | ⟨_, hd⟩
        · exact g1
        · rcases hd l0 w0 with rfl | hd
          · exact g1
          · exact s0 j hd
      · exact hunseen hr (by rw [hg]; rfl)
theorem domsF_reach {f : SFunc} (hf : FuncOk f) {a b : Nat} (hb : b ∈ orderF f.blocks) : domsF f a b = true ↔ Doms f.blocks a b := by
  have ho := order_ok hf.pos hf.edges
  rw [doms_anc ho (tree_ok ho hf.edges) hb]
  exact doms_iff hf hb
theorem domsF_none {f : SFunc} (hf : FuncOk f) {a b : Nat} (hbl : b < f.blocks.length) (hb : b ∉ orderF f.blocks) : domsF f a b = true := by
  have ho := order_ok hf.pos hf.edges
  unfold domsF
  rw [if_pos]
  apply Classical.byContradiction
  intro hn
  exact hb (place_inT ho (tree_ok ho hf.edges) hbl hn).1
theorem split_law {f : SFunc} (h0 : funcF f = 0) (hl : (splitF f).blocks.length ≤ 128) {a b : Nat} (ha : a < f.blocks.length) (hb : b < f.blocks.length) : domsF (splitF f) a b = domsF f a b := by
  have hok := func_ok h0
  have gok := func_ok (split_ok h0 hl)
  have h := split_is f
  have hE := hok.edges
  have hbg : b < (splitF f).blocks.length := by have := h.len; omega
  have hr : b ∈ orderF (splitF f).blocks ↔ b ∈ orderF f.blocks := by
    rw [order_iff gok, order_iff hok]
    exact split_reach h hE hb
  by_cases hbo : b ∈ orderF f.blocks
  · rw [Bool.eq_iff_iff, domsF_reach hok hbo, domsF_reach gok (hr.2 hbo)]
    exact split_doms h hE ha hb
  · rw [domsF_none hok hb hbo, domsF_none gok hbg (fun h => hbo (hr.1 h))]
end Go.SM
end
section
set_option linter.unusedVariables false
set_option linter.unusedSimpArgs false
namespace Go.SM
open Go.VL
def overZ (f : SFunc) (a b : Int) : Bool := climbB (treeF f.blocks) (f.blocks.length + 1) a b
def backsF (f : SFunc) : List (Int × Int) := (reachL f).flatMap fun k => ((toAt f.blocks k.toNat).filter fun e => overZ f e.block k).map fun e => (k, e.block)
def workF (f : SFunc) (h : Int) : List Int := ((backsF f).filter fun x => x.2 == h).map (·.1)
def inR (f : SFunc) (k : Int) : Bool := (reachL f).any fun x => decide (k = x)
def loopStep (f : SFunc) (s : List Int × List Int) : List Int × List Int :=
  match s.1.getLast? with
  | none => s
  | some k => if (inR f k && !(s.2.any fun x => decide (k = x))) = true then (s.1.dropLast ++ ((predsF f.blocks)[k.toNat]?.getD []), s.2 ++ [k]) else (s.1.dropLast, s.2)
def loopRun (f : SFunc) : Nat → List Int × List Int → List Int × List Int
  | 0, s => s
  | n + 1, s => if s.1 = [] then s else loopRun f n (loopStep f s)
def loopC (f : SFunc) (all : List Int) : Nat := ((List.range f.blocks.length).map fun (k : Nat) => if ((k : Int) ∈ all) then 0 else ((predsF f.blocks)[k]?.getD []).length).sum
def loopW (f : SFunc) (s : List Int × List Int) : Nat := s.1.length + loopC f s.2
def bodyF (f : SFunc) (h : Int) : List Int := (loopRun f (loopW f (workF f h, [h])) (workF f h, [h])).2
def headsF (f : SFunc) : List Int := ((List.range f.blocks.length).map fun (k : Nat) => (k : Int)).filter fun h => !(workF f h).isEmpty
def sortL (l : List Int) : List Int := l.mergeSort fun x y => decide (x ≤ y)
def findF (f : SFunc) : List (Int × List Int) := (headsF f).map fun h => (h, sortL (bodyF f h))
theorem loopC_add {f : SFunc} {all : List Int} {v : Nat} (hv : v < f.blocks.length) (hn : (v : Int) ∉ all) : loopC f (all ++ [(v : Int)]) + ((predsF f.blocks)[v]?.getD []).length = loopC f all := by
  unfold loopC
  have key : ∀ l : List Nat, l.Nodup → (l.map fun (k : Nat) => if ((k : Int) ∈ all ++ [(v : Int)]) then 0 else ((predsF f.blocks)[k]?.getD []).length).sum + (if v ∈ l then ((predsF f.blocks)[v]?.getD []).length else 0) = (l.map fun (k : Nat) => if ((k : Int) ∈ all) then 0 else ((predsF f.blocks)[k]?.getD []).length).sum := by
    intro l
    induction l with
    | nil => intro _; rfl
    | cons a l ih =>
      intro hnd
      obtain ⟨h1, h2⟩ := List.nodup_cons.1 hnd
      have ih := ih h2
      rw [List.map_cons, List.map_cons, List.sum_cons, List.sum_cons]
      by_cases hav : a = v
      · subst hav
        rw [if_neg h1] at ih
        rw [if_pos (List.mem_append_right _ (List.mem_singleton.2 rfl)), if_neg hn, if_pos (List.mem_cons_self ..)]
        omega
      · have hm : ((a : Int) ∈ all ++ [(v : Int)]) ↔ (a : Int) ∈ all := by
          rw [List.mem_append, List.mem_singleton]
          constructor
          · rintro (h | h)
            · exact h
            · omega
          · exact .inl
        have hvl : v ∈ a :: l ↔ v ∈ l := by
          rw [List.mem_cons]
          constructor
          · rintro (h | h)
            · exact absurd h.symm hav
            · exact h
          · exact .inr
        simp only [hm, hvl]
        omega
  have h := key (List.range f.blocks.length) List.nodup_range
  rw [if_pos (List.mem_range.2 hv)] at h
  exact h
theorem inR_iff {f : SFunc} {k : Int} : inR f k = true ↔ ∃ v : Nat, k = v ∧ v ∈ orderF f.blocks := by
  unfold inR
  rw [List.any_eq_true]
  constructor
  · rintro ⟨x, hx, e⟩
    rw [of_decide_eq_true e]
    have hx2 := hx
    rw [reachL, List.mem_mergeSort, ordZ, List.mem_map] at hx2
    obtain ⟨v, hv, rfl⟩ := hx2
    exact ⟨v, rfl, hv⟩
  · rintro ⟨v, rfl, hv⟩
    exact ⟨_, reach_mem.2 hv, decide_eq_true rfl⟩
theorem loopstep_w {f : SFunc} (ho : OrderOk f.blocks (orderF f.blocks)) {s : List Int × List Int} (hs : s.1 ≠ []) : loopW f (loopStep f s) + 1 = loopW f s := by
  obtain ⟨w, all⟩ := s
  obtain ⟨w0, k, rfl⟩ : ∃ w0 k, w = w0 ++ [k] := ⟨w.dropLast, w.getLast hs, (List.dropLast_concat_getLast hs).symm⟩
  unfold loopStep loopW
  dsimp only
  rw [List.getLast?_concat]
  dsimp only
  rw [List.dropLast_concat, List.length_append, List.length_singleton]
  split
  · rename_i h
    rw [Bool.and_eq_true, inR_iff] at h
    obtain ⟨⟨v, rfl, hv⟩, hn⟩ := h
    have hnm : (v : Int) ∉ all := fun hm => by
      have : (all.any fun x => decide ((v : Int) = x)) = true := List.any_eq_true.2 ⟨_, hm, decide_eq_true rfl⟩
      rw [this] at hn
      cases hn
    have := loopC_add (f := f) (ho.lt v hv) hnm
    dsimp only
    rw [Int.toNat_natCast, List.length_append]
    omega
  · dsimp only
    omega
inductive NatLoop (f : SFunc) (h : Nat) : Nat → Prop where
  | head : NatLoop f h h
  | latch {k : Nat} : k ∈ orderF f.blocks → Edge f.blocks k h → domsF f h k = true → NatLoop f h k
  | pred {x p : Nat} : NatLoop f h x → x ≠ h → p ∈ orderF f.blocks → Edge f.blocks p x → NatLoop f h p
structure LoopInv (f : SFunc) (h : Nat) (s : List Int × List Int) : Prop where
  sound : ∀ v ∈ s.2, ∃ n : Nat, v = n ∧ NatLoop f h n
  work : ∀ v ∈ s.1, ∃ n : Nat, v = n ∧ n < f.blocks.length ∧ (n ∈ orderF f.blocks → NatLoop f h n)
  head : (h : Int) ∈ s.2
  nodup : s.2.Nodup
  latch : ∀ k : Nat, k ∈ orderF f.blocks → Edge f.blocks k h → domsF f h k = true → (k : Int) ∈ s.2 ∨ (k : Int) ∈ s.1
  closed : ∀ x p : Nat, (x : Int) ∈ s.2 → x ≠ h → p ∈ orderF f.blocks → Edge f.blocks p x → (p : Int) ∈ s.2 ∨ (p : Int) ∈ s.1
theorem back_mem {f : SFunc} (hf : FuncOk f) {k : Int} {h : Nat} : k ∈ workF f h ↔ ∃ v : Nat, k = v ∧ v ∈ orderF f.blocks ∧ Edge f.blocks v h ∧ domsF f h v = true := by
  have ho := order_ok hf.pos hf.edges
  have hdz : ∀ {v : Nat}, v ∈ orderF f.blocks → ∀ a : Int, domsF f a v = overZ f a v := fun {v} hv a => by
    unfold domsF overZ
    rw [if_neg (by rw [(place_of ho hv).1]; omega)]
  unfold workF backsF
  rw [List.mem_map]
  constructor
  · rintro ⟨⟨a, b⟩, hx, rfl⟩
    obtain ⟨hx1, hx2⟩ := List.mem_filter.1 hx
    obtain ⟨y, hy, hx3⟩ := List.mem_flatMap.1 hx1
    obtain ⟨e, he, heq⟩ := List.mem_map.1 hx3
    obtain ⟨he1, he2⟩ := List.mem_filter.1 he
    injection heq with e1 e2
    subst e1
    rw [reachL, List.mem_mergeSort, ordZ, List.mem_map] at hy
    obtain ⟨v, hv, rfl⟩ := hy
    have hbh : b = (h : Int) := by simpa using hx2
    rw [Int.toNat_natCast] at he1
    refine ⟨v, rfl, hv, ⟨e, he1, by omega⟩, ?_⟩
    rw [hdz hv, ← hbh, ← e2]
    exact he2
  · rintro ⟨v, rfl, hv, ⟨e, he1, he2⟩, hd⟩
    have hvl := ho.lt v hv
    obtain ⟨bl, hbl⟩ := get_of_lt f.blocks v (by omega)
    have hem := he1
    rw [toAt_get hbl] at hem
    have hb1 := (hf.edges bl (List.mem_of_getElem? hbl) e hem).1
    have hbe : e.block = (h : Int) := by omega
    refine ⟨((v : Int), e.block), List.mem_filter.2 ⟨List.mem_flatMap.2 ⟨(v : Int), reach_mem.2 hv, List.mem_map.2 ⟨e, List.mem_filter.2 ⟨by rw [Int.toNat_natCast]; exact he1, ?_⟩, rfl⟩⟩, by rw [hbe]; simp⟩, rfl⟩
    rw [hbe, ← hdz hv]
    exact hd
theorem loop_start {f : SFunc} (hf : FuncOk f) {h : Nat} (hh : h < f.blocks.length) : LoopInv f h (workF f h, [(h : Int)]) := by
  have ho := order_ok hf.pos hf.edges
  refine ⟨fun v hv => ?_, fun v hv => ?_, List.mem_singleton.2 rfl, by simp, fun k hk he hd => .inr ((back_mem hf).2 ⟨k, rfl, hk, he, hd⟩), fun x p hx hne => ?_⟩
  · rw [List.mem_singleton.1 hv]; exact ⟨h, rfl, .head⟩
  · obtain ⟨k, rfl, hk, he, hd⟩ := (back_mem hf).1 hv
    exact ⟨k, rfl, ho.lt k hk, fun _ => .latch hk he hd⟩
  · have : x = h := by have := List.mem_singleton.1 hx; omega
    exact absurd this hne
theorem loop_step {f : SFunc} (hf : FuncOk f) {h : Nat} {s : List Int × List Int} (inv : LoopInv f h s) (hs : s.1 ≠ []) : LoopInv f h (loopStep f s) := by
  have ho := order_ok hf.pos hf.edges
  obtain ⟨w, all⟩ := s
  obtain ⟨w0, k, rfl⟩ : ∃ w0 k, w = w0 ++ [k] := ⟨w.dropLast, w.getLast hs, (List.dropLast_concat_getLast hs).symm⟩
  obtain ⟨i1, i2, i3, i4, i5, i6⟩ := inv
  dsimp only at i1 i2 i3 i4 i5 i6
  unfold loopStep
  dsimp only
  rw [List.getLast?_concat]
  dsimp only
  rw [List.dropLast_concat]
  obtain ⟨n, rfl, hn, hnl⟩ := i2 k (List.mem_append_right _ (List.mem_singleton.2 rfl))
  have split : ∀ {v : Int}, v ∈ w0 ++ [(n : Int)] → v = n ∨ v ∈ w0 := fun {v} hv => (List.mem_append.1 hv).elim .inr fun h => .inl (List.mem_singleton.1 h)
  split
  · rename_i hc
    rw [Bool.and_eq_true, inR_iff] at hc
    obtain ⟨⟨v, hv, hvo⟩, hnot⟩ := hc
    have hvn : n = v := by omega
    subst hvn
    have hnm : (n : Int) ∉ all := fun hm => by
      have : (all.any fun x => decide ((n : Int) = x)) = true := List.any_eq_true.2 ⟨_, hm, decide_eq_true rfl⟩
      rw [this] at hnot
      cases hnot
    have hnh : n ≠ h := fun e => hnm (by rw [e]; exact i3)
    rw [Int.toNat_natCast]
    have hpm : ∀ y : Int, y ∈ ((predsF f.blocks)[n]?.getD []) ↔ ∃ p : Nat, y = p ∧ Edge f.blocks p n := fun y => preds_mem hf.edges
    refine ⟨fun v hv => ?_, fun v hv => ?_, List.mem_append_left _ i3, ?_, fun k hk he hd => ?_, fun x p hx hne hp he => ?_⟩
    · rcases List.mem_append.1 hv with hv | hv
      · exact i1 v hv
      · rw [List.mem_singleton.1 hv]; exact ⟨n, rfl, hnl hvo⟩
    · rcases List.mem_append.1 hv with hv | hv
      · exact i2 v (List.mem_append_left _ hv)
      · obtain ⟨p, rfl, he⟩ := (hpm v).1 hv
        refine ⟨p, rfl, ?_, fun hp => .pred (hnl hvo) hnh hp he⟩
        obtain ⟨x, hx, _⟩ := he
        refine Classical.byContradiction fun hge => ?_
        unfold toAt at hx
        rw [List.getElem?_eq_none (by omega)] at hx
        cases hx
    · refine List.nodup_append.2 ⟨i4, by simp, fun a ha b hb => ?_⟩
      rw [List.mem_singleton.1 hb]
      exact fun e => hnm (e ▸ ha)
    · rcases i5 k hk he hd with h1 | h1
      · exact .inl (List.mem_append_left _ h1)
      · rcases split h1 with h1 | h1
        · exact .inl (List.mem_append_right _ (List.mem_singleton.2 h1))
        · exact .inr (List.mem_append_left _ h1)
    · rcases List.mem_append.1 hx with hx | hx
      · rcases i6 x p hx hne hp he with h1 | h1
        · exact .inl (List.mem_append_left _ h1)
        · rcases split h1 with h1 | h1
          · exact .inl (List.mem_append_right _ (List.mem_singleton.2 h1))
          · exact .inr (List.mem_append_left _ h1)
      · have hxn : x = n := by have := List.mem_singleton.1 hx; omega
        subst hxn
        exact .inr (List.mem_append_right _ ((hpm p).2 ⟨p, rfl, he⟩))
  · rename_i hc
    have hor : (n : Int) ∈ all ∨ n ∉ orderF f.blocks := by
      by_cases hm : (n : Int) ∈ all
      · exact .inl hm
      · refine .inr fun ho' => hc ?_
        rw [Bool.and_eq_true, inR_iff, Bool.not_eq_true', ← Bool.not_eq_true, List.any_eq_true]
        exact ⟨⟨n, rfl, ho'⟩, fun ⟨x, hx, e⟩ => hm (by rw [of_decide_eq_true e]; exact hx)⟩
    refine ⟨i1, fun v hv => i2 v (List.mem_append_left _ hv), i3, i4, fun k hk he hd => ?_, fun x p hx hne hp he => ?_⟩
    · rcases i5 k hk he hd with h1 | h1
      · exact .inl h1
      · rcases split h1 with h1 | h1
        · have hkn : k = n := by omega
          subst hkn
          exact .inl (hor.resolve_right fun h => h hk)
        · exact .inr h1
    · rcases i6 x p hx hne hp he with h1 | h1
      · exact .inl h1
      · rcases split h1 with h1 | h1
        · have hpn : p = n := by omega
          subst hpn
          exact .inl (hor.resolve_right fun h => h hp)
        · exact .inr h1
theorem looprun_inv {f : SFunc} (hf : FuncOk f) {h : Nat} : ∀ (n : Nat) (s : List Int × List Int), LoopInv f h s → loopW f s ≤ n → LoopInv f h (loopRun f n s) ∧ (loopRun f n s).1 = []
  | 0, s, inv, hw => by
    have : s.1.length = 0 := by unfold loopW at hw; omega
    exact ⟨inv, List.length_eq_zero_iff.1 this⟩
  | n + 1, s, inv, hw => by
    rw [loopRun]
    by_cases h0 : s.1 = []
    · rw [if_pos h0]
      exact ⟨inv, h0⟩
    · rw [if_neg h0]
      have := loopstep_w (order_ok hf.pos hf.edges) h0
      exact looprun_inv hf n _ (loop_step hf inv h0) (by omega)
theorem body_mem {f : SFunc} (hf : FuncOk f) {h : Nat} (hh : h < f.blocks.length) : (bodyF f h).Nodup ∧ (∀ v ∈ bodyF f h, ∃ n : Nat, v = n ∧ NatLoop f h n) ∧ ∀ n : Nat, NatLoop f h n → (n : Int) ∈ bodyF f h := by
  obtain ⟨inv, h0⟩ := looprun_inv hf _ _ (loop_start hf hh) (Nat.le_refl _)
  change (loopRun f (loopW f (workF f h, [(h : Int)])) (workF f h, [(h : Int)])).1 = [] at h0
  have hb : bodyF f h = (loopRun f (loopW f (workF f h, [(h : Int)])) (workF f h, [(h : Int)])).2 := rfl
  rw [hb]
  refine ⟨inv.nodup, inv.sound, fun n hn => ?_⟩
  induction hn with
  | head => exact inv.head
  | latch hk he hd => exact (inv.latch _ hk he hd).resolve_right fun h1 => by rw [h0] at h1; cases h1
  | pred hx hne hp he ih => exact (inv.closed _ _ ih hne hp he).resolve_right fun h1 => by rw [h0] at h1; cases h1
theorem work_head {f : SFunc} (hf : FuncOk f) {h : Nat} (hw : workF f h ≠ []) : h ∈ orderF f.blocks ∧ ∃ k : Nat, k ∈ orderF f.blocks ∧ Edge f.blocks k h ∧ domsF f h k = true := by
  obtain ⟨x, hx⟩ := List.exists_mem_of_ne_nil _ hw
  obtain ⟨k, rfl, hk, he, hd⟩ := (back_mem hf).1 hx
  exact ⟨edge_mem (order_ok hf.pos hf.edges) hk he, k, hk, he, hd⟩
theorem nat_anc {f : SFunc} (hf : FuncOk f) {h n : Nat} (hh : h ∈ orderF f.blocks) (hn : NatLoop f h n) : n ∈ orderF f.blocks ∧ Anc (treeF f.blocks) n h := by
  have ho := order_ok hf.pos hf.edges
  have ht := tree_ok ho hf.edges
  induction hn with
  | head => exact ⟨hh, .refl _⟩
  | latch hk he hd => exact ⟨hk, (doms_anc ho ht hk).1 hd⟩
  | pred hx hne hp he ih =>
    obtain ⟨hb0, hxo, q, hq, hi, ha⟩ := idom_anc hf hp he
    refine ⟨hp, ?_⟩
    rcases ht.inv.tree.cases ho hq ih.2 with e | h1
    · exact absurd e.symm hne
    · exact ha.trans h1
theorem heads_mem {f : SFunc} {h : Int} : h ∈ headsF f ↔ ∃ k : Nat, h = k ∧ k < f.blocks.length ∧ workF f k ≠ [] := by
  unfold headsF
  rw [List.mem_filter, List.mem_map]
  constructor
  · rintro ⟨⟨k, hk, rfl⟩, hw⟩
    exact ⟨k, rfl, List.mem_range.1 hk, fun e => by rw [e] at hw; simp at hw⟩
  · rintro ⟨k, rfl, hk, hw⟩
    exact ⟨⟨k, List.mem_range.2 hk, rfl⟩, by cases hw2 : workF f k with
      | nil => exact absurd hw2 hw
      | cons a l => rfl⟩
structure LoopOk (f : SFunc) (x : Int × List Int) : Prop where
  head : ∃ h : Nat, x.1 = h ∧ h ∈ orderF f.blocks ∧ h < f.blocks.length ∧ (∀ v ∈ x.2, ∃ n : Nat, v = n ∧ NatLoop f h n) ∧ (∀ n : Nat, NatLoop f h n → (n : Int) ∈ x.2) ∧ ∃ k : Nat, k ∈ orderF f.blocks ∧ Edge f.blocks k h ∧ domsF f h k = true
  nodup : x.2.Nodup
theorem flat_le {α β : Type} {g : α → List β} {c : Nat} : ∀ {l : List α}, (∀ x ∈ l, (g x).length ≤ c) → (l.flatMap g).length ≤ l.length * c
  | [], _ => by simp
  | x :: l, h => by
    rw [List.flatMap_cons, List.length_append, List.length_cons, Nat.succ_mul]
    have h1 := h x (List.mem_cons_self ..)
    have h2 := flat_le fun y hy => h y (List.mem_cons_of_mem _ hy)
    omega
theorem toAt_le {f : SFunc} (hf : FuncOk f) (k : Nat) : (toAt f.blocks k).length ≤ 257 := by
  cases hb : f.blocks[k]? with
  | none => rw [toAt, hb]; exact Nat.zero_le _
  | some b => rw [toAt_get hb]; exact term_edges hf (List.mem_of_getElem? hb)
theorem backs_small {f : SFunc} (hf : FuncOk f) : (backsF f).length ≤ 32896 := by
  have ho := order_ok hf.pos hf.edges
  have h1 := nodup_lt ho.nodup ho.lt
  have h2 := reach_len f
  have h3 := hf.len
  have h4 : (backsF f).length ≤ (reachL f).length * 257 := flat_le fun k _ => by
    rw [List.length_map]
    exact Nat.le_trans (List.length_filter_le ..) (toAt_le hf _)
  have h5 : (reachL f).length * 257 ≤ 128 * 257 := Nat.mul_le_mul_right _ (by omega)
  omega
theorem work_le (f : SFunc) (h : Int) : (workF f h).length ≤ (backsF f).length := by
  unfold workF
  rw [List.length_map]
  exact List.length_filter_le ..
theorem work_cons {e : Int × Int} {l : List (Int × Int)} {h : Int} : ((e :: l).filter fun x => x.2 == h).map (·.1) = (if e.2 = h then [e.1] else []) ++ (l.filter fun x => x.2 == h).map (·.1) := by
  rw [List.filter_cons]
  by_cases h1 : e.2 = h
  · rw [if_pos h1, if_pos (by rw [h1]; simp)]
    rfl
  · rw [if_neg h1, if_neg (by simpa using h1)]
    rfl
theorem range_total (P : List (List Int)) : ((List.range P.length).map fun k => (P[k]?.getD []).length).sum = total P := by
  have h : (List.range P.length).map (fun k => (P[k]?.getD []).length) = P.map List.length := by
    apply List.ext_getElem
    · simp
    · intro i h1 h2
      have h3 : i < P.length := by simpa using h2
      simp [List.getElem?_eq_getElem h3]
  rw [h]
  rfl
theorem loopC_small {f : SFunc} (hf : FuncOk f) (all : List Int) : loopC f all ≤ 32896 := by
  have h1 := edges_small hf
  have h2 := preds_total hf.edges
  have h3 := range_total (predsF f.blocks)
  rw [predsF_len] at h3
  have h4 : loopC f all ≤ ((List.range f.blocks.length).map fun k => ((predsF f.blocks)[k]?.getD []).length).sum := by
    unfold loopC
    generalize List.range f.blocks.length = l
    induction l with
    | nil => exact Nat.le_refl _
    | cons a l ih =>
      rw [List.map_cons, List.map_cons, List.sum_cons, List.sum_cons]
      split <;> omega
  omega
def hdr (f : SFunc) (k : Nat) : List (Int × List Int) := ((((List.range f.blocks.length).map fun (k : Nat) => (k : Int)).drop k).filter fun h => !(workF f h).isEmpty).map fun h => (h, sortL (bodyF f h))
theorem hdr_end {f : SFunc} : hdr f f.blocks.length = [] := by
  unfold hdr
  rw [List.drop_of_length_le (by simp)]
  rfl
theorem hdr_step {f : SFunc} {k : Nat} (hk : k < f.blocks.length) : hdr f k = (if workF f k = [] then [] else [((k : Int), sortL (bodyF f k))]) ++ hdr f (k + 1) := by
  have hx : ((List.range f.blocks.length).map fun (k : Nat) => (k : Int))[k]? = some (k : Int) := by simp [hk]
  unfold hdr
  rw [drop_cons hx, List.filter_cons]
  by_cases h : workF f k = []
  · rw [if_pos h, if_neg (by rw [h]; simp)]
    rfl
  · rw [if_neg h, if_pos (by cases hw : workF f k with
      | nil => exact absurd hw h
      | cons a l => rfl)]
    rfl
def bodyR (f : SFunc) (s : List Int × List Int) : List Int := (loopRun f (loopW f s) s).2
theorem body_eq (f : SFunc) (h : Int) : bodyR f (workF f h, [h]) = bodyF f h := rfl
theorem bodyR_end {f : SFunc} (sa : List Int) : bodyR f ([], sa) = sa := by
  unfold bodyR
  cases loopW f ([], sa) with
  | zero => rfl
  | succ n => rw [loopRun, if_pos rfl]
theorem lstep {f : SFunc} (hf : FuncOk f) {h : Nat} {s s' : List Int × List Int} (inv : LoopInv f h s) (hs : s.1 ≠ []) (e : loopStep f s = s') : LoopInv f h s' ∧ loopW f s' + 1 = loopW f s ∧ bodyR f s' = bodyR f s := by
  subst e
  have hw := loopstep_w (order_ok hf.pos hf.edges) hs
  refine ⟨loop_step hf inv hs, hw, ?_⟩
  unfold bodyR
  rw [← hw, loopRun, if_neg hs]
theorem lstep_T {f : SFunc} {w : List Int} {n : Nat} {all : List Int} (h1 : inR f n = true) (h2 : (all.any fun x => decide ((n : Int) = x)) = false) : loopStep f (w ++ [(n : Int)], all) = (w ++ ((predsF f.blocks)[n]?.getD []), all ++ [(n : Int)]) := by
  unfold loopStep
  dsimp only
  rw [List.getLast?_concat]
  dsimp only
  rw [h1, h2, List.dropLast_concat, Int.toNat_natCast]
  rfl
theorem lstep_F {f : SFunc} {w : List Int} {n : Nat} {all : List Int} (h : inR f n = false ∨ (all.any fun x => decide ((n : Int) = x)) = true) : loopStep f (w ++ [(n : Int)], all) = (w, all) := by
  unfold loopStep
  dsimp only
  rw [List.getLast?_concat]
  dsimp only
  rw [List.dropLast_concat, if_neg]
  rintro h2
  rw [Bool.and_eq_true] at h2
  rcases h with h | h
  · rw [h2.1] at h; cases h
  · rw [h] at h2; exact absurd h2.2 (by decide)
theorem has_inR (f : SFunc) (k : Int) : (reachL f).contains k = inR f k := by
  unfold inR
  rw [Bool.eq_iff_iff, List.contains_iff_mem, List.any_eq_true]
  constructor
  · intro h; exact ⟨_, h, decide_eq_true rfl⟩
  · rintro ⟨x, hx, e⟩; rw [of_decide_eq_true e]; exact hx
theorem reach_sorted (f : SFunc) : (reachL f).Pairwise (· ≤ ·) := by
  have h := List.pairwise_mergeSort (le := fun (x y : Int) => decide (x ≤ y)) (fun a b c h1 h2 => by simp at h1 h2 ⊢; omega) (fun a b => by simp; omega) (ordZ f.blocks)
  exact h.imp fun h => of_decide_eq_true h
theorem reach_ne {f : SFunc} (hf : FuncOk f) : reachL f ≠ [] := by
  have h := reach_mem.2 (zero_mem (order_ok hf.pos hf.edges))
  exact List.ne_nil_of_mem h
theorem all_len {f : SFunc} (hf : FuncOk f) {h : Nat} (hh : h ∈ orderF f.blocks) {s : List Int × List Int} (inv : LoopInv f h s) : s.2.length ≤ 128 := by
  have ho := order_ok hf.pos hf.edges
  have h3 := hf.len
  have h1 := nodup_lt (l := s.2.map Int.toNat) (n := f.blocks.length) ?_ fun v hv => by
    obtain ⟨x, hx, rfl⟩ := List.mem_map.1 hv
    obtain ⟨n, rfl, hn⟩ := inv.sound x hx
    rw [Int.toNat_natCast]
    exact ho.lt n (nat_anc hf hh hn).1
  · rw [List.length_map] at h1; omega
  · rw [List.Nodup, List.pairwise_map]
    refine List.Pairwise.imp_of_mem (fun {a c} ha hc hne e => hne ?_) inv.nodup
    obtain ⟨n, rfl, _⟩ := inv.sound a ha
    obtain ⟨m, rfl, _⟩ := inv.sound c hc
    omega
end Go.SM
end
section
set_option linter.unusedVariables false
set_option linter.unusedSimpArgs false
set_option linter.unusedSectionVars false
namespace Go.SM
open Go.VL
theorem way_mem {bs : List SBlock} {l : List Nat} {v : Nat} (hw : Way bs l v) : ∀ y ∈ l, ∃ l', Way bs l' y ∧ l'.length < l.length ∧ ∀ z ∈ l', z ∈ l := by
  induction hw with
  | start => exact fun y hy => by cases hy
  | @step l p k hw he ih =>
    intro y hy
    rcases List.mem_cons.1 hy with rfl | hy
    · exact ⟨l, hw, by simp, fun z hz => List.mem_cons_of_mem _ hz⟩
    · obtain ⟨l', h1, h2, h3⟩ := ih y hy
      exact ⟨l', h1, by simp; omega, fun z hz => List.mem_cons_of_mem _ (h3 z hz)⟩
theorem way_first {bs : List SBlock} {v : Nat} : ∀ (n : Nat) (l : List Nat), l.length ≤ n → Way bs l v → ∃ l', Way bs l' v ∧ v ∉ l'
  | 0, l, hn, hw => ⟨l, hw, fun h => by rw [List.length_eq_zero_iff.1 (by omega : l.length = 0)] at h; cases h⟩
  | n + 1, l, hn, hw => by
    by_cases h : v ∈ l
    · obtain ⟨l', h1, h2, _⟩ := way_mem hw v h
      exact way_first n l' (by omega) h1
    · exact ⟨l, hw, h⟩
theorem sub_length : ∀ {a b : List Int}, a.Nodup → (∀ x ∈ a, x ∈ b) → a.length ≤ b.length
  | [], b, _, _ => Nat.zero_le _
  | x :: a, b, hn, hs => by
    obtain ⟨h1, h2⟩ := List.nodup_cons.1 hn
    have hx := hs x (List.mem_cons_self ..)
    have h3 := List.length_erase_of_mem hx
    have h4 : a.length ≤ (b.erase x).length := sub_length h2 fun y hy => (List.mem_erase_of_ne (fun e : y = x => h1 (e ▸ hy))).2 (hs y (List.mem_cons_of_mem _ hy))
    have h5 := List.length_pos_of_mem hx
    rw [List.length_cons]
    omega
section
variable {bs gs : List SBlock} {E : Cut} (h : SplitOk bs gs E) (hE : ∀ b ∈ bs, ∀ e ∈ b.term.to, 1 ≤ e.block ∧ e.block < bs.length)
include h hE
theorem edge_split {p v : Nat} (he : Edge bs p v) : Edge gs p v ∨ ∃ m e, E[m]? = some (p, e) ∧ e.block.toNat = v ∧ Edge gs p (bs.length + m) ∧ Edge gs (bs.length + m) v := by
  obtain ⟨e, he, hev⟩ := he
  have hpl : p < bs.length := Classical.byContradiction fun hn => by
    rw [toAt, List.getElem?_eq_none (by omega)] at he
    cases he
  obtain ⟨b, hb⟩ := get_of_lt bs p (by omega)
  rw [toAt_get hb] at he
  obtain ⟨j, hj⟩ := List.getElem?_of_mem he
  obtain ⟨to, g1, g2, g3⟩ := h.old p b hb
  have hto : toAt gs p = to := by rw [toAt_get g1]; rfl
  rcases g3 j e hj with g | ⟨m, g4, g5⟩
  · exact .inl ⟨e, by rw [hto]; exact List.mem_of_getElem? g, hev⟩
  · have hn := (h.new m p e g4).1
    exact .inr ⟨m, e, g4, by omega, ⟨_, by rw [hto]; exact List.mem_of_getElem? g5, by dsimp only; omega⟩, ⟨e, by rw [toAt_get hn]; exact List.mem_singleton.2 rfl, hev⟩⟩
theorem split_edge {p v : Nat} (he : Edge gs p v) : (p < bs.length ∧ v < bs.length ∧ Edge bs p v) ∨ (∃ m e, p < bs.length ∧ v = bs.length + m ∧ E[m]? = some (p, e)) ∨ ∃ m q e, p = bs.length + m ∧ E[m]? = some (q, e) ∧ v < bs.length ∧ Edge bs q v := by
  obtain ⟨e, he, hev⟩ := he
  have hpl : p < gs.length := Classical.byContradiction fun hn => by
    rw [toAt, List.getElem?_eq_none (by omega)] at he
    cases he
  have hlen := h.len
  by_cases hp : p < bs.length
  · obtain ⟨b, hb⟩ := get_of_lt bs p (by omega)
    obtain ⟨to, g1, g2, g3⟩ := h.old p b hb
    have hto : toAt gs p = to := by rw [toAt_get g1]; rfl
    rw [hto] at he
    obtain ⟨j, hj⟩ := List.getElem?_of_mem he
    have hjl := (List.getElem?_eq_some_iff.1 hj).1
    obtain ⟨x, hx⟩ := get_of_lt b.term.to j (by omega)
    have hxe := hE b (List.mem_of_getElem? hb) x (List.mem_of_getElem? hx)
    rcases g3 j x hx with g | ⟨m, g4, g5⟩
    · rw [hj] at g
      injection g with g
      subst g
      exact .inl ⟨hp, by omega, e, by rw [toAt_get hb]; exact List.mem_of_getElem? hx, hev⟩
    · rw [hj] at g5
      injection g5 with g5
      subst g5
      dsimp only at hev
      exact .inr (.inl ⟨m, x, hp, by omega, g4⟩)
  · obtain ⟨⟨q, x⟩, hx⟩ := get_of_lt E (p - bs.length) (by omega)
    obtain ⟨n1, b, hb, hm⟩ := h.new _ q x hx
    rw [show bs.length + (p - bs.length) = p by omega] at n1
    rw [toAt_get n1] at he
    have he : e = x := List.mem_singleton.1 he
    subst he
    have hxe := hE b (List.mem_of_getElem? hb) e hm
    exact .inr (.inr ⟨_, q, e, by omega, hx, by omega, e, by rw [toAt_get hb]; exact hm, hev⟩)
theorem split_pred {p m q : Nat} {e : SEdge} (he : Edge gs p (bs.length + m)) (hx : E[m]? = some (q, e)) : p = q := by
  rcases split_edge h hE he with ⟨_, h1, _⟩ | ⟨m2, e2, _, h1, h2⟩ | ⟨m2, q2, e2, _, _, h1, _⟩
  · omega
  · have : m2 = m := by omega
    subst this
    rw [hx] at h2
    injection h2 with h2
    injection h2 with h2
    exact h2.symm
  · omega
theorem new_none {m q : Nat} {e : SEdge} (hx : E[m]? = some (q, e)) (hq : ∃ l, Way gs l q) (hd : Doms gs (bs.length + m) q) : False := by
  obtain ⟨l, hw⟩ := hq
  obtain ⟨l1, w1, n1⟩ := way_first l.length l (Nat.le_refl _) hw
  have hql : q < bs.length := (List.getElem?_eq_some_iff.1 (h.new m q e hx).2.choose_spec.1).1
  rcases hd l1 w1 with e1 | e1
  · omega
  · obtain ⟨l2, w2, _, s2⟩ := way_mem w1 _ e1
    exact n1 (s2 q ((split_way h hE w2).2 m q e rfl hx).1)
end
theorem natloop_split {f : SFunc} (h0 : funcF f = 0) (hl : (splitF f).blocks.length ≤ 128) {h v : Nat} (hh : h < f.blocks.length) (hv : NatLoop f h v) : NatLoop (splitF f) h v := by
  have hok := func_ok h0
  have gok := func_ok (split_ok h0 hl)
  have hs := split_is f
  have hE := hok.edges
  have hre : ∀ {v : Nat}, v ∈ orderF f.blocks → v ∈ orderF (splitF f).blocks := fun {v} hv => (order_iff gok).2 ((split_reach hs hE ((order_ok hok.pos hE).lt v hv)).2 ((order_iff hok).1 hv))
  have hnx : ∀ {p v : Nat}, p ∈ orderF (splitF f).blocks → Edge (splitF f).blocks p v → v ∈ orderF (splitF f).blocks := fun {p v} hp he => by
    obtain ⟨l, hw⟩ := (order_iff gok).1 hp
    exact (order_iff gok).2 ⟨_, .step hw he⟩
  induction hv with
  | head => exact .head
  | @latch k hk he hd =>
    have hkl := (order_ok hok.pos hE).lt k hk
    rcases edge_split hs hE he with g | ⟨m, e, g1, g2, g3, g4⟩
    · exact .latch (hre hk) g (by rw [split_law h0 hl hh hkl]; exact hd)
    · have hmo := hnx (hre hk) g3
      refine .pred (.latch hmo g4 ((domsF_reach gok hmo).2 fun l hw => .inr ?_)) (by omega) (hre hk) g3
      obtain ⟨i1, l0, w0, s0⟩ := (split_way hs hE hw).2 m k e rfl g1
      rcases (domsF_reach hok hk).1 hd l0 w0 with rfl | h1
      · exact i1
      · exact s0 h h1
  | @pred x p hx hne hp he ih =>
    rcases edge_split hs hE he with g | ⟨m, e, g1, g2, g3, g4⟩
    · exact .pred ih hne (hre hp) g
    · exact .pred (.pred ih hne (hnx (hre hp) g3) g4) (by omega) (hre hp) g3
theorem work_ne {f : SFunc} (hf : FuncOk f) {h : Nat} : (workF f h).isEmpty = false ↔ ∃ v, v ∈ orderF f.blocks ∧ Edge f.blocks v h ∧ domsF f h v = true := by
  constructor
  · intro hw
    have hne : workF f h ≠ [] := fun e => by rw [e] at hw; cases hw
    obtain ⟨_, k, h1, h2, h3⟩ := work_head hf hne
    exact ⟨k, h1, h2, h3⟩
  · rintro ⟨v, h1, h2, h3⟩
    have := (back_mem hf (k := (v : Int)) (h := h)).2 ⟨v, rfl, h1, h2, h3⟩
    cases hc : workF f h with
    | nil => rw [hc] at this; cases this
    | cons a l => rfl
theorem work_split {f : SFunc} (h0 : funcF f = 0) (hl : (splitF f).blocks.length ≤ 128) {h : Nat} (hh : h < f.blocks.length) : (workF (splitF f) h).isEmpty = (workF f h).isEmpty := by
  have hok := func_ok h0
  have gok := func_ok (split_ok h0 hl)
  have hs := split_is f
  have hE := hok.edges
  have key : (workF (splitF f) h).isEmpty = false ↔ (workF f h).isEmpty = false := by
    rw [work_ne gok, work_ne hok]
    constructor
    · rintro ⟨v, h1, h2, h3⟩
      rcases split_edge hs hE h2 with ⟨g1, _, g2⟩ | ⟨m, e, _, g1, _⟩ | ⟨m, q, e, rfl, g1, _, g2⟩
      · exact ⟨v, (order_iff hok).2 ((split_reach hs hE g1).1 ((order_iff gok).1 h1)), g2, by rw [← split_law h0 hl hh g1]; exact h3⟩
      · omega
      · obtain ⟨l, hw⟩ := (order_iff gok).1 h1
        obtain ⟨_, l0, w0, _⟩ := (split_way hs hE hw).2 m q e rfl g1
        have hqo := (order_iff hok).2 ⟨l0, w0⟩
        refine ⟨q, hqo, g2, (domsF_reach hok hqo).2 fun l1 w1 => ?_⟩
        obtain ⟨l', w', s'⟩ := way_split hs hE w1
        -- the edge from q into the new block
        have hqe : Edge (splitF f).blocks q (f.blocks.length + m) := by
          have key : ∀ {l : List Nat} {w : Nat}, Way (splitF f).blocks l w → w = f.blocks.length + m → Edge (splitF f).blocks q (f.blocks.length + m) := fun {l w} hw hwe => by
            cases hw with
            | start => have := hok.pos; omega
            | @step l2 p _ w2 he2 =>
              rw [hwe] at he2
              have := split_pred hs hE he2 g1
              subst this
              exact he2
          exact key hw rfl
        rcases (domsF_reach gok h1).1 h3 (q :: l') (.step w' hqe) with e1 | e1
        · omega
        · rcases List.mem_cons.1 e1 with e1 | e1
          · exact .inl e1
          · exact .inr (s' h e1 hh)
    · rintro ⟨v, h1, h2, h3⟩
      have hvl := (order_ok hok.pos hE).lt v h1
      have hvo : v ∈ orderF (splitF f).blocks := (order_iff gok).2 ((split_reach hs hE hvl).2 ((order_iff hok).1 h1))
      rcases edge_split hs hE h2 with g | ⟨m, e, g1, g2, g3, g4⟩
      · exact ⟨v, hvo, g, by rw [split_law h0 hl hh hvl]; exact h3⟩
      · obtain ⟨l, hw⟩ := (order_iff gok).1 hvo
        have hmo : f.blocks.length + m ∈ orderF (splitF f).blocks := (order_iff gok).2 ⟨_, .step hw g3⟩
        refine ⟨f.blocks.length + m, hmo, g4, (domsF_reach gok hmo).2 fun l hw => .inr ?_⟩
        obtain ⟨i1, l0, w0, s0⟩ := (split_way hs hE hw).2 m v e rfl g1
        rcases (domsF_reach hok h1).1 h3 l0 w0 with rfl | h4
        · exact i1
        · exact s0 h h4
  cases hc : (workF f h).isEmpty with
  | false => exact key.2 hc
  | true =>
    cases hd : (workF (splitF f) h).isEmpty with
    | true => rfl
    | false => rw [key.1 hd] at hc; cases hc
theorem work_new {f : SFunc} (h0 : funcF f = 0) (hl : (splitF f).blocks.length ≤ 128) {m : Nat} (hm : m < (splitP f).2.length) : (workF (splitF f) ((f.blocks.length + m : Nat) : Int)).isEmpty = true := by
  have hok := func_ok h0
  have gok := func_ok (split_ok h0 hl)
  have hs := split_is f
  have hE := hok.edges
  cases hc : (workF (splitF f) ((f.blocks.length + m : Nat) : Int)).isEmpty with
  | true => rfl
  | false =>
    obtain ⟨v, h1, h2, h3⟩ := (work_ne gok).1 hc
    obtain ⟨⟨q, e⟩, hx⟩ := get_of_lt (splitP f).2 m (by omega)
    have := split_pred hs hE h2 hx
    subst this
    exact (new_none hs hE hx ((order_iff gok).1 h1) ((domsF_reach gok h1).1 h3)).elim
theorem heads_split {f : SFunc} (h0 : funcF f = 0) (hl : (splitF f).blocks.length ≤ 128) : headsF (splitF f) = headsF f := by
  have hs := split_is f
  unfold headsF
  rw [hs.len, List.range_add, List.map_append, List.filter_append]
  have h1 : (((List.range f.blocks.length).map fun (k : Nat) => (k : Int)).filter fun h => !(workF (splitF f) h).isEmpty) = ((List.range f.blocks.length).map fun (k : Nat) => (k : Int)).filter fun h => !(workF f h).isEmpty := by
    refine List.filter_congr fun x hx => ?_
    obtain ⟨k, hk, rfl⟩ := List.mem_map.1 hx
    rw [work_split h0 hl (List.mem_range.1 hk)]
  have h2 : ((((List.range (splitP f).2.length).map (f.blocks.length + ·)).map fun (k : Nat) => (k : Int)).filter fun h => !(workF (splitF f) h).isEmpty) = [] := by
    rw [List.filter_eq_nil_iff]
    intro x hx
    obtain ⟨k, hk, rfl⟩ := List.mem_map.1 hx
    obtain ⟨m, hm, rfl⟩ := List.mem_map.1 hk
    rw [work_new h0 hl (List.mem_range.1 hm)]
    decide
  rw [h1, h2, List.append_nil]
theorem body_split {f : SFunc} (h0 : funcF f = 0) (hl : (splitF f).blocks.length ≤ 128) {h : Nat} (hh : h < f.blocks.length) : (bodyF f h).length ≤ (bodyF (splitF f) h).length := by
  have hok := func_ok h0
  have gok := func_ok (split_ok h0 hl)
  have hlen := (split_is f).len
  obtain ⟨a1, a2, a3⟩ := body_mem hok hh
  obtain ⟨b1, b2, b3⟩ := body_mem gok (h := h) (by omega)
  refine sub_length a1 fun x hx => ?_
  obtain ⟨n, rfl, hn⟩ := a2 x hx
  exact b3 n (natloop_split h0 hl hh hn)
theorem loops_split {f : SFunc} (h0 : funcF f = 0) (hl : (splitF f).blocks.length ≤ 128) : (findF (splitF f)).length = (findF f).length ∧ ∀ (k : Nat) (x y : Int × List Int), (findF f)[k]? = some x → (findF (splitF f))[k]? = some y → y.1 = x.1 ∧ x.2.length ≤ y.2.length := by
  unfold findF
  rw [heads_split h0 hl]
  refine ⟨by rw [List.length_map, List.length_map], fun k x y hx hy => ?_⟩
  rw [List.getElem?_map] at hx hy
  cases hk : (headsF f)[k]? with
  | none => rw [hk] at hx; cases hx
  | some h =>
    rw [hk] at hx hy
    injection hx with hx
    injection hy with hy
    subst hx hy
    refine ⟨rfl, ?_⟩
    obtain ⟨n, rfl, hn, _⟩ := heads_mem.1 (List.mem_of_getElem? hk)
    dsimp only
    unfold sortL
    rw [List.length_mergeSort, List.length_mergeSort]
    exact body_split h0 hl hn
end Go.SM
end
