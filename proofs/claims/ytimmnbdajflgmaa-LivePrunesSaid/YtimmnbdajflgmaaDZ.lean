import Derived.Test.YtimmnbdajflgmaaSZ
import Derived.Test.YtimmnbdajflgmaaW1
section
set_option linter.unusedVariables false
namespace Go.SM
open Go.VL
def predE (k : Nat) (P : List (List Int)) (e : SEdge) : List (List Int) := P.set e.block.toNat ((P[e.block.toNat]?.getD []) ++ [(k : Int)])
def predB (k : Nat) (P : List (List Int)) (b : SBlock) : List (List Int) := b.term.to.foldl (predE k) P
def predL : Nat → List SBlock → List (List Int) → List (List Int)
  | _, [], P => P
  | k, b :: l, P => predL (k + 1) l (predB k P b)
def predsF (bs : List SBlock) : List (List Int) := predL 0 bs (List.replicate bs.length [])
def edgesN : List SBlock → Nat
  | [] => 0
  | b :: l => b.term.to.length + edgesN l
theorem term_edges {f : SFunc} (h : FuncOk f) {b : SBlock} (hb : b ∈ f.blocks) : b.term.to.length ≤ 257 := by
  have he := endF_ok (h.block hb).2
  have hm := he.many
  have hs := he.shape
  unfold shapeF at hs
  repeat' split at hs
  all_goals first | (simp only [Bool.and_eq_true, decide_eq_true_eq] at hs; omega) | cases hs
theorem FuncOk.edges {f : SFunc} (h : FuncOk f) : ∀ b ∈ f.blocks, ∀ e ∈ b.term.to, 1 ≤ e.block ∧ e.block < f.blocks.length := blocks_edges h.blocks
end Go.SM
end
section
set_option linter.unusedVariables false
set_option linter.unusedSimpArgs false
namespace Go.SM
open Go.VL
structure DState where
  seen : List Bool
  stack : List (Nat × Nat)
  out : List Nat
def toAt (bs : List SBlock) (b : Nat) : List SEdge := ((bs[b]?).map (·.term.to)).getD []
def Edge (bs : List SBlock) (p v : Nat) : Prop := ∃ x ∈ toAt bs p, x.block.toNat = v
def dfsStep (bs : List SBlock) (s : DState) : DState :=
  match s.stack with
  | [] => s
  | (b, e) :: st =>
    match (toAt bs b)[e]? with
    | none => ⟨s.seen, st, s.out ++ [b]⟩
    | some x => if s.seen[x.block.toNat]? = some false then ⟨s.seen.set x.block.toNat true, (x.block.toNat, 0) :: (b, e + 1) :: st, s.out⟩ else ⟨s.seen, (b, e + 1) :: st, s.out⟩
def dfsRun (bs : List SBlock) : Nat → DState → DState
  | 0, s => s
  | n + 1, s => if s.stack = [] then s else dfsRun bs n (dfsStep bs s)
def dfsStart (n : Nat) : DState := ⟨(List.replicate n false).set 0 true, [(0, 0)], []⟩
def postF (bs : List SBlock) : List Nat := (dfsRun bs (edgesN bs + bs.length) (dfsStart bs.length)).out
def orderF (bs : List SBlock) : List Nat := (postF bs).reverse
theorem toAt_get {bs : List SBlock} {k : Nat} {b : SBlock} (h : bs[k]? = some b) : toAt bs k = b.term.to := by rw [toAt, h]; rfl
def cost (bs : List SBlock) (k : Nat) : Nat := (toAt bs k).length + 1
def unseenW (bs : List SBlock) : Nat → List Bool → Nat
  | _, [] => 0
  | k, s :: l => (if s then 0 else cost bs k) + unseenW bs (k + 1) l
def stackW (bs : List SBlock) : List (Nat × Nat) → Nat
  | [] => 0
  | (b, e) :: st => (cost bs b - e) + stackW bs st
def dfsW (bs : List SBlock) (s : DState) : Nat := unseenW bs 0 s.seen + stackW bs s.stack
theorem unseen_set (bs : List SBlock) : ∀ (l : List Bool) (k n : Nat), l[n]? = some false → unseenW bs k (l.set n true) + cost bs (k + n) = unseenW bs k l
  | [], k, n, h => by simp at h
  | s :: l, k, 0, h => by
    simp at h
    subst h
    simp [unseenW]
    omega
  | s :: l, k, n + 1, h => by
    simp at h
    have := unseen_set bs l (k + 1) n h
    simp only [List.set_cons_succ, unseenW]
    rw [show k + (n + 1) = k + 1 + n by omega]
    omega
structure DfsInv0 (bs : List SBlock) (s : DState) : Prop where
  len : s.seen.length = bs.length
  stk : ∀ x ∈ s.stack, x.1 < bs.length ∧ x.2 ≤ (toAt bs x.1).length ∧ s.seen[x.1]? = some true
theorem step_w {bs : List SBlock} {s : DState} (h : DfsInv0 bs s) (hne : s.stack ≠ []) : dfsW bs (dfsStep bs s) + 1 = dfsW bs s := by
  unfold dfsStep
  split
  · rename_i he; exact absurd he hne
  · rename_i b e st hs
    have hb := h.stk (b, e) (by rw [hs]; exact List.mem_cons_self ..)
    dsimp only at hb
    split
    · rename_i hn
      have : e = (toAt bs b).length := by
        have := List.getElem?_eq_none_iff.1 hn
        omega
      unfold dfsW
      rw [hs]
      simp only [stackW, cost]
      omega
    · rename_i x hx
      have hlt := (List.getElem?_eq_some_iff.1 hx).1
      split
      · rename_i hu
        have := unseen_set bs s.seen 0 _ hu
        unfold dfsW
        rw [hs]
        simp only [stackW]
        rw [Nat.zero_add] at this
        have hc : cost bs b = (toAt bs b).length + 1 := rfl
        omega
      · unfold dfsW
        rw [hs]
        simp only [stackW, cost]
        omega
def StackOk (bs : List SBlock) : List (Nat × Nat) → Prop
  | [] => True
  | [x] => x.1 = 0
  | x :: y :: st => Edge bs y.1 x.1 ∧ StackOk bs (y :: st)
def seenB (s : DState) (v : Nat) : Prop := s.seen[v]? = some true
structure DfsInv (bs : List SBlock) (s : DState) : Prop extends DfsInv0 bs s where
  out : ∀ v ∈ s.out, v < bs.length ∧ seenB s v
  nodup : (s.stack.map (·.1) ++ s.out).Nodup
  cover : ∀ v, seenB s v → v ∈ s.stack.map (·.1) ∨ v ∈ s.out
  closedO : ∀ v ∈ s.out, ∀ x ∈ toAt bs v, seenB s x.block.toNat
  closedS : ∀ y ∈ s.stack, ∀ i x, i < y.2 → (toAt bs y.1)[i]? = some x → seenB s x.block.toNat
  chain : StackOk bs s.stack
  par : ∀ (i v : Nat), s.out[i]? = some v → v ≠ 0 → ∃ p, Edge bs p v ∧ (p ∈ s.stack.map (·.1) ∨ ∃ j, i < j ∧ s.out[j]? = some p)
  root : s.stack = [] → ∃ l, s.out = l ++ [0]
theorem StackOk.tail {bs : List SBlock} {x : Nat × Nat} : ∀ {st : List (Nat × Nat)}, StackOk bs (x :: st) → StackOk bs st
  | [], _ => trivial
  | y :: st, h => h.2
theorem StackOk.head {bs : List SBlock} {x y : Nat × Nat} (he : x.1 = y.1) : ∀ {st : List (Nat × Nat)}, StackOk bs (x :: st) → StackOk bs (y :: st)
  | [], h => by
    have h : x.1 = 0 := h
    show y.1 = 0
    rw [← he]
    exact h
  | z :: st, h => ⟨by rw [← he]; exact h.1, h.2⟩
theorem seen_mono {l : List Bool} {n v : Nat} (h : l[v]? = some true) : (l.set n true)[v]? = some true := by
  rw [List.getElem?_set]
  split
  · rename_i e; subst e; rw [if_pos (List.getElem?_eq_some_iff.1 h).1]
  · exact h
theorem step_inv {bs : List SBlock} {s : DState} (hE : ∀ b ∈ bs, ∀ e ∈ b.term.to, 1 ≤ e.block ∧ e.block < bs.length) (h : DfsInv bs s) : DfsInv bs (dfsStep bs s) := by
  unfold dfsStep
  split
  · exact h
  · rename_i b e st hs
    have hb := h.stk (b, e) (by rw [hs]; exact List.mem_cons_self ..)
    dsimp only at hb
    have hnd := h.nodup
    rw [hs] at hnd
    have hch := h.chain
    rw [hs] at hch
    split
    · rename_i hn
      have hee : (toAt bs b).length ≤ e := List.getElem?_eq_none_iff.1 hn
      refine ⟨⟨h.len, fun x hx => h.stk x (by rw [hs]; exact List.mem_cons_of_mem _ hx)⟩, ?_, ?_, ?_, ?_, ?_, hch.tail, ?_, ?_⟩
      · intro v hv
        rcases List.mem_append.1 hv with hv | hv
        · exact h.out v hv
        · rw [List.mem_singleton.1 hv]; exact ⟨hb.1, hb.2.2⟩
      · dsimp only
        rw [← List.append_assoc]
        rw [List.map_cons, List.cons_append] at hnd
        have hp : ((b, e).1 :: (st.map (·.1) ++ s.out)).Perm (st.map (·.1) ++ s.out ++ [b]) := (List.perm_append_singleton _ _).symm
        exact hp.nodup_iff.1 hnd
      · intro v hv
        rcases h.cover v hv with hv | hv
        · rw [hs] at hv
          rcases List.mem_cons.1 hv with rfl | hv
          · exact .inr (List.mem_append_right _ (List.mem_singleton.2 rfl))
          · exact .inl hv
        · exact .inr (List.mem_append_left _ hv)
      · intro v hv x hx
        rcases List.mem_append.1 hv with hv | hv
        · exact h.closedO v hv x hx
        · have hvb := List.mem_singleton.1 hv
          subst hvb
          obtain ⟨i, hi⟩ := List.getElem?_of_mem hx
          exact h.closedS (v, e) (by rw [hs]; exact List.mem_cons_self ..) i x (by have := (List.getElem?_eq_some_iff.1 hi).1; show i < e; omega) hi
      · exact fun y hy => h.closedS y (by rw [hs]; exact List.mem_cons_of_mem _ hy)
      · intro i v hi h0
        dsimp only at hi ⊢
        by_cases hlt : i < s.out.length
        · rw [List.getElem?_append_left hlt] at hi
          obtain ⟨p, hp1, hp2⟩ := h.par i v hi h0
          refine ⟨p, hp1, ?_⟩
          rcases hp2 with hp2 | ⟨j, hj, hj2⟩
          · rw [hs] at hp2
            rcases List.mem_cons.1 hp2 with rfl | hp2
            · exact .inr ⟨s.out.length, hlt, by rw [List.getElem?_append_right (Nat.le_refl _)]; simp⟩
            · exact .inl hp2
          · exact .inr ⟨j, hj, by rw [List.getElem?_append_left (List.getElem?_eq_some_iff.1 hj2).1]; exact hj2⟩
        · rw [List.getElem?_append_right (by omega)] at hi
          have : i - s.out.length = 0 := by
            have := (List.getElem?_eq_some_iff.1 hi).1
            simp at this
            omega
          rw [this] at hi
          simp at hi
          subst hi
          cases st with
          | nil => exact absurd hch h0
          | cons y st => exact ⟨y.1, hch.1, .inl (List.mem_map.2 ⟨y, List.mem_cons_self .., rfl⟩)⟩
      · intro hst
        dsimp only at hst
        subst hst
        have hb0 : b = 0 := hch
        exact ⟨s.out, by rw [hb0]⟩
    · rename_i x hx
      have hlt := (List.getElem?_eq_some_iff.1 hx).1
      have hxm := List.mem_of_getElem? hx
      have hxn : x.block.toNat < bs.length := by
        obtain ⟨bl, hbl⟩ : ∃ bl, bs[b]? = some bl := ⟨_, List.getElem?_eq_getElem hb.1⟩
        rw [toAt_get hbl] at hxm
        have := hE bl (List.mem_of_getElem? hbl) x hxm
        omega
      split
      · rename_i hu
        have hns : ∀ v, seenB s v → v ≠ x.block.toNat := fun v hv e => by
          subst e
          unfold seenB at hv
          rw [hu] at hv
          cases hv
        have hnew : (s.seen.set x.block.toNat true)[x.block.toNat]? = some true := by rw [List.getElem?_set, if_pos rfl, if_pos (by rw [h.len]; exact hxn)]
        refine ⟨⟨by rw [List.length_set]; exact h.len, ?_⟩, ?_, ?_, ?_, ?_, ?_, ?_, ?_, ?_⟩
        · intro y hy
          rcases List.mem_cons.1 hy with rfl | hy
          · exact ⟨hxn, Nat.zero_le _, hnew⟩
          · rcases List.mem_cons.1 hy with rfl | hy
            · exact ⟨hb.1, hlt, seen_mono hb.2.2⟩
            · have := h.stk y (by rw [hs]; exact List.mem_cons_of_mem _ hy)
              exact ⟨this.1, this.2.1, seen_mono this.2.2⟩
        · exact fun v hv => ⟨(h.out v hv).1, seen_mono (h.out v hv).2⟩
        · dsimp only
          rw [List.map_cons, List.map_cons, List.cons_append]
          refine List.nodup_cons.2 ⟨fun hm => ?_, hnd⟩
          have hsn : seenB s x.block.toNat := by
            rcases List.mem_append.1 hm with hm | hm
            · rcases List.mem_cons.1 hm with e1 | hm
              · have e1 : x.block.toNat = b := e1
                rw [e1]; exact hb.2.2
              · obtain ⟨y, hy, hy2⟩ := List.mem_map.1 hm
                have hy2 : y.1 = x.block.toNat := hy2
                rw [← hy2]
                exact (h.stk y (by rw [hs]; exact List.mem_cons_of_mem _ hy)).2.2
            · exact (h.out _ hm).2
          exact hns _ hsn rfl
        · intro v hv
          unfold seenB at hv
          dsimp only at hv ⊢
          by_cases hvx : v = x.block.toNat
          · subst hvx; exact .inl (List.mem_cons_self ..)
          · rw [List.getElem?_set_ne (Ne.symm hvx)] at hv
            rcases h.cover v hv with hc | hc
            · rw [hs] at hc
              exact .inl (List.mem_cons_of_mem _ hc)
            · exact .inr hc
        · exact fun v hv y hy => seen_mono (h.closedO v hv y hy)
        · intro y hy i z hi hz
          rcases List.mem_cons.1 hy with rfl | hy
          · exact absurd hi (Nat.not_lt_zero _)
          · rcases List.mem_cons.1 hy with rfl | hy
            · dsimp only at hi hz
              by_cases hie : i = e
              · subst hie
                rw [hx] at hz
                injection hz with hz
                subst hz
                exact hnew
              · exact seen_mono (h.closedS (b, e) (by rw [hs]; exact List.mem_cons_self ..) i z (by show i < e; omega) hz)
            · exact seen_mono (h.closedS y (by rw [hs]; exact List.mem_cons_of_mem _ hy) i z hi hz)
        · exact ⟨⟨x, hxm, rfl⟩, StackOk.head (x := (b, e)) (y := (b, e + 1)) rfl hch⟩
        · intro i v hi h0
          obtain ⟨p, hp1, hp2⟩ := h.par i v hi h0
          refine ⟨p, hp1, hp2.imp (fun hp2 => ?_) id⟩
          rw [hs] at hp2
          exact List.mem_cons_of_mem _ hp2
        · intro hst; cases hst
      · rename_i hu
        have hsx : seenB s x.block.toNat := by
          unfold seenB
          cases hv : s.seen[x.block.toNat]? with
          | none =>
            have := List.getElem?_eq_none_iff.1 hv
            rw [h.len] at this
            omega
          | some v =>
            cases v with
            | true => rfl
            | false => exact absurd hv hu
        refine ⟨⟨h.len, ?_⟩, h.out, ?_, ?_, h.closedO, ?_, ?_, ?_, ?_⟩
        · intro y hy
          rcases List.mem_cons.1 hy with rfl | hy
          · exact ⟨hb.1, hlt, hb.2.2⟩
          · exact h.stk y (by rw [hs]; exact List.mem_cons_of_mem _ hy)
        · exact hnd
        · intro v hv
          rcases h.cover v hv with hc | hc
          · rw [hs] at hc; exact .inl hc
          · exact .inr hc
        · intro y hy i z hi hz
          rcases List.mem_cons.1 hy with rfl | hy
          · dsimp only at hi hz
            by_cases hie : i = e
            · subst hie
              rw [hx] at hz
              injection hz with hz
              subst hz
              exact hsx
            · exact h.closedS (b, e) (by rw [hs]; exact List.mem_cons_self ..) i z (by show i < e; omega) hz
          · exact h.closedS y (by rw [hs]; exact List.mem_cons_of_mem _ hy) i z hi hz
        · exact StackOk.head (x := (b, e)) (y := (b, e + 1)) rfl hch
        · intro i v hi h0
          obtain ⟨p, hp1, hp2⟩ := h.par i v hi h0
          refine ⟨p, hp1, hp2.imp (fun hp2 => ?_) id⟩
          rw [hs] at hp2
          exact hp2
        · intro hst; cases hst
theorem nodup_lt {l : List Nat} {n : Nat} (h : l.Nodup) (hr : ∀ v ∈ l, v < n) : l.length ≤ n := by
  have := h.length_le_of_subset (l₂ := List.range n) fun v hv => List.mem_range.2 (hr v hv)
  simpa using this
theorem dfs_small {bs : List SBlock} {s : DState} (h : DfsInv bs s) : s.stack.length ≤ bs.length ∧ s.out.length ≤ bs.length := by
  have h1 := (List.nodup_append.1 h.nodup).1
  have h2 := (List.nodup_append.1 h.nodup).2.1
  have := nodup_lt h1 (n := bs.length) fun v hv => by
    obtain ⟨x, hx, rfl⟩ := List.mem_map.1 hv
    exact (h.stk x hx).1
  exact ⟨by simpa using this, nodup_lt h2 fun v hv => (h.out v hv).1⟩
theorem start_inv {bs : List SBlock} (h0 : 0 < bs.length) : DfsInv bs (dfsStart bs.length) := by
  have hs : (dfsStart bs.length).seen[0]? = some true := by
    show ((List.replicate bs.length false).set 0 true)[0]? = some true
    rw [List.getElem?_set, if_pos rfl, if_pos (by simpa using h0)]
  refine ⟨⟨by simp [dfsStart], fun x hx => ?_⟩, fun v hv => (by cases hv), by simp [dfsStart], fun v hv => ?_, fun v hv => (by cases hv), fun y hy i x hi => ?_, rfl, fun i v hi => (by simp [dfsStart] at hi), fun h => (by cases h)⟩
  · have hx := List.mem_singleton.1 hx
    subst hx
    exact ⟨h0, Nat.zero_le _, hs⟩
  · by_cases hv0 : v = 0
    · subst hv0; exact .inl (List.mem_cons_self ..)
    · unfold seenB at hv
      have : ((List.replicate bs.length false).set 0 true)[v]? = some true := hv
      rw [List.getElem?_set_ne (Ne.symm hv0), List.getElem?_replicate] at this
      split at this <;> cases this
  · have hy := List.mem_singleton.1 hy
    subst hy
    exact absurd hi (Nat.not_lt_zero _)
theorem run_inv {bs : List SBlock} (hE : ∀ b ∈ bs, ∀ e ∈ b.term.to, 1 ≤ e.block ∧ e.block < bs.length) : ∀ (n : Nat) (s : DState), DfsInv bs s → dfsW bs s ≤ n → DfsInv bs (dfsRun bs n s) ∧ (dfsRun bs n s).stack = []
  | 0, s, h, hw => by
    refine ⟨h, ?_⟩
    show s.stack = []
    cases hs : s.stack with
    | nil => rfl
    | cons x st =>
      have hb := h.stk x (by rw [hs]; exact List.mem_cons_self ..)
      unfold dfsW at hw
      rw [hs] at hw
      obtain ⟨b, e⟩ := x
      simp only [stackW, cost] at hw
      dsimp only at hb
      omega
  | n + 1, s, h, hw => by
    rw [dfsRun]
    split
    · rename_i he; exact ⟨h, he⟩
    · rename_i hne
      have := step_w h.toDfsInv0 hne
      exact run_inv hE n _ (step_inv hE h) (by omega)
theorem unseen_start (bs : List SBlock) : ∀ (l : List SBlock) (k : Nat), (∀ i b, l[i]? = some b → bs[k + i]? = some b) → unseenW bs k (List.replicate l.length false) = edgesN l + l.length
  | [], k, _ => rfl
  | b :: l, k, h => by
    have h1 := unseen_start bs l (k + 1) fun i b hb => by
      have := h (i + 1) b (by simpa using hb)
      rwa [show k + (i + 1) = k + 1 + i by omega] at this
    have h2 := h 0 b rfl
    rw [Nat.add_zero] at h2
    rw [List.length_cons, List.replicate_succ, unseenW, h1, edgesN, cost, toAt_get h2]
    simp
    omega
theorem start_weight {bs : List SBlock} (h0 : 0 < bs.length) : dfsW bs (dfsStart bs.length) = edgesN bs + bs.length := by
  have h1 := unseen_start bs bs 0 fun i b hb => by rw [Nat.zero_add]; exact hb
  have h2 := unseen_set bs (List.replicate bs.length false) 0 0 (by rw [List.getElem?_replicate, if_pos h0])
  unfold dfsW dfsStart
  simp only [stackW]
  rw [Nat.zero_add] at h2
  omega
structure OrderOk (bs : List SBlock) (l : List Nat) : Prop where
  nodup : l.Nodup
  lt : ∀ v ∈ l, v < bs.length
  zero : l[0]? = some 0
  closed : ∀ v ∈ l, ∀ w, Edge bs v w → w ∈ l
  par : ∀ (j v : Nat), l[j]? = some v → v ≠ 0 → ∃ i p, i < j ∧ l[i]? = some p ∧ Edge bs p v
theorem order_ok {bs : List SBlock} (h0 : 0 < bs.length) (hE : ∀ b ∈ bs, ∀ e ∈ b.term.to, 1 ≤ e.block ∧ e.block < bs.length) : OrderOk bs (orderF bs) := by
  obtain ⟨h, hst⟩ := run_inv hE (edgesN bs + bs.length) _ (start_inv h0) (by rw [start_weight h0]; exact Nat.le_refl _)
  have hpo : postF bs = (dfsRun bs (edgesN bs + bs.length) (dfsStart bs.length)).out := rfl
  unfold orderF
  rw [hpo]
  generalize dfsRun bs (edgesN bs + bs.length) (dfsStart bs.length) = s at *
  have hn := h.nodup
  have hcov := h.cover
  rw [hst] at hn hcov
  refine ⟨(List.reverse_perm _).nodup_iff.2 (by simpa using hn), fun v hv => (h.out v (List.mem_reverse.1 hv)).1, ?_, ?_, ?_⟩
  · obtain ⟨l, hl⟩ := h.root hst
    rw [hl]
    simp
  · rintro v hv w ⟨x, hx, rfl⟩
    have := h.closedO v (List.mem_reverse.1 hv) x hx
    rcases hcov _ this with hc | hc
    · cases hc
    · exact List.mem_reverse.2 hc
  · intro j v hj h0
    have hjl := (List.getElem?_eq_some_iff.1 hj).1
    rw [List.length_reverse] at hjl
    rw [List.getElem?_reverse hjl] at hj
    obtain ⟨p, hp, hp2⟩ := h.par _ v hj h0
    rcases hp2 with hp2 | ⟨i, hi, hi2⟩
    · rw [hst] at hp2; cases hp2
    · have hil := (List.getElem?_eq_some_iff.1 hi2).1
      refine ⟨s.out.length - 1 - i, p, by omega, ?_, hp⟩
      rw [List.getElem?_reverse (by omega)]
      rw [show s.out.length - 1 - (s.out.length - 1 - i) = i by omega]
      exact hi2
theorem post_len {bs : List SBlock} (h0 : 0 < bs.length) (hE : ∀ b ∈ bs, ∀ e ∈ b.term.to, 1 ≤ e.block ∧ e.block < bs.length) : (postF bs).length ≤ bs.length := by
  have h := order_ok h0 hE
  have := nodup_lt h.nodup h.lt
  rw [orderF, List.length_reverse] at this
  exact this
end Go.SM
end
section
set_option linter.unusedVariables false
set_option linter.unusedSimpArgs false
set_option linter.unusedSectionVars false
namespace Go.SM
open Go.VL
def gI (l : List Int) (i : Int) : Int := l[i.toNat]?.getD 0
def meetF (ov pl : List Int) : Nat → Int → Int → Int
  | 0, a, _ => a
  | n + 1, a, b => if a = b then a else if gI pl a > gI pl b then meetF ov pl n (gI ov a) b else meetF ov pl n a (gI ov b)
def skipP (ov pl : List Int) (p : Int) : Bool := decide (gI pl p < 0) || (decide (p ≠ 0) && decide (gI ov p < 0))
def nextL (ov pl : List Int) (m : Nat) : Int → List Int → Int
  | cur, [] => cur
  | cur, p :: ps => nextL ov pl m (if skipP ov pl p then cur else if cur < 0 then p else meetF ov pl m cur p) ps
def placeF (ord : List Int) (n : Nat) : List Int := (List.range n).map fun k : Nat => idxOf (fun x => decide ((k : Int) = x)) ord
structure TState where
  ov : List Int
  again : Bool
def ordZ (bs : List SBlock) : List Int := (orderF bs).map fun k : Nat => (k : Int)
def placeZ (bs : List SBlock) : List Int := placeF (ordZ bs) bs.length
theorem idx_nat {l : List Nat} {v : Nat} : idxOf (fun x => decide ((v : Int) = x)) (l.map fun k : Nat => (k : Int)) = -1 ∧ v ∉ l ∨ ∃ i, idxOf (fun x => decide ((v : Int) = x)) (l.map fun k : Nat => (k : Int)) = (i : Nat) ∧ l[i]? = some v := by
  rcases idxOf_range (fun x => decide ((v : Int) = x)) (l.map fun k : Nat => (k : Int)) with ⟨h1, h2⟩ | ⟨i, x, h1, h2, h3, _⟩
  · refine .inl ⟨h1, fun hm => ?_⟩
    rw [List.any_eq_false] at h2
    exact h2 (v : Int) (List.mem_map.2 ⟨v, hm, rfl⟩) (by simp)
  · refine .inr ⟨i, h1, ?_⟩
    rw [List.getElem?_map] at h2
    obtain ⟨w, hw, rfl⟩ := Option.map_eq_some_iff.1 h2
    rw [hw]
    have : (v : Int) = (w : Int) := by simpa using h3
    congr 1
    omega
theorem place_get {bs : List SBlock} {v : Nat} (hv : v < bs.length) : gI (placeZ bs) v = -1 ∧ v ∉ orderF bs ∨ ∃ i, gI (placeZ bs) v = (i : Nat) ∧ (orderF bs)[i]? = some v := by
  have : gI (placeZ bs) v = idxOf (fun x => decide ((v : Int) = x)) (ordZ bs) := by
    unfold gI placeZ placeF
    rw [Int.toNat_natCast, List.getElem?_map, List.getElem?_range hv]
    rfl
  rw [this]
  exact idx_nat
def pos (bs : List SBlock) (v : Nat) : Nat := (gI (placeZ bs) v).toNat
section
variable {bs : List SBlock} (ho : OrderOk bs (orderF bs))
include ho
theorem place_of {v : Nat} (hv : v ∈ orderF bs) : gI (placeZ bs) v = (pos bs v : Nat) ∧ (orderF bs)[pos bs v]? = some v := by
  rcases place_get (ho.lt v hv) with ⟨_, h⟩ | ⟨i, h1, h2⟩
  · exact absurd hv h
  · unfold pos
    rw [h1, Int.toNat_natCast]
    exact ⟨rfl, h2⟩
theorem pos_of_get {v i : Nat} (h : (orderF bs)[i]? = some v) : pos bs v = i := by
  have := (place_of ho (List.mem_of_getElem? h)).2
  exact (List.getElem?_inj (List.getElem?_eq_some_iff.1 this).1 ho.nodup).1 (this.trans h.symm)
theorem pos_inj {v w : Nat} (hv : v ∈ orderF bs) (hw : w ∈ orderF bs) (h : pos bs v = pos bs w) : v = w := by
  have h1 := (place_of ho hv).2
  have h2 := (place_of ho hw).2
  rw [h, h2] at h1
  injection h1 with h1
  exact h1.symm
theorem pos_lt {v : Nat} (hv : v ∈ orderF bs) : pos bs v < bs.length := by
  have := (List.getElem?_eq_some_iff.1 (place_of ho hv).2).1
  have := nodup_lt ho.nodup ho.lt
  omega
theorem zero_mem : 0 ∈ orderF bs := List.mem_of_getElem? ho.zero
theorem par_of {v : Nat} (hv : v ∈ orderF bs) (h0 : v ≠ 0) : ∃ p, p ∈ orderF bs ∧ pos bs p < pos bs v ∧ Edge bs p v := by
  obtain ⟨i, p, hi, hp, he⟩ := ho.par _ v (place_of ho hv).2 h0
  exact ⟨p, List.mem_of_getElem? hp, by rw [pos_of_get ho hp]; exact hi, he⟩
open Classical in
omit ho in
noncomputable def pi (bs : List SBlock) (v : Nat) : Nat := if h : ∃ p, p ∈ orderF bs ∧ pos bs p < pos bs v ∧ Edge bs p v then Classical.choose h else 0
end
inductive Anc (ov : List Int) : Nat → Nat → Prop where
  | refl (a : Nat) : Anc ov a a
  | step {a q x : Nat} : ov[a]? = some (q : Int) → Anc ov q x → Anc ov a x
inductive AncP (bs : List SBlock) : Nat → Nat → Prop where
  | refl (a : Nat) : AncP bs a a
  | step {a x : Nat} : a ≠ 0 → AncP bs (pi bs a) x → AncP bs a x
theorem Anc.trans {ov : List Int} {a b c : Nat} (h : Anc ov a b) (k : Anc ov b c) : Anc ov a c := by
  induction h with
  | refl => exact k
  | step h _ ih => exact .step h (ih k)
structure Tree (bs : List SBlock) (ov : List Int) : Prop where
  len : ov.length = bs.length
  root : ov[0]? = some (-1)
  out : ∀ v, v < bs.length → v ∉ orderF bs → ov[v]? = some (-1)
  up : ∀ (v : Nat) (x : Int), v ∈ orderF bs → v ≠ 0 → ov[v]? = some x → 0 ≤ x → ∃ q : Nat, x = q ∧ q ∈ orderF bs ∧ pos bs q < pos bs v ∧ (q = 0 ∨ ∃ y : Int, ov[q]? = some y ∧ 0 ≤ y)
  low : ∀ (v : Nat) (x : Int), ov[v]? = some x → x < 0 → x = -1
def InT (bs : List SBlock) (ov : List Int) (v : Nat) : Prop := v ∈ orderF bs ∧ (v = 0 ∨ ∃ x : Int, ov[v]? = some x ∧ 0 ≤ x)
section
variable {bs : List SBlock} (ho : OrderOk bs (orderF bs)) {ov : List Int}
include ho
theorem Tree.parent (h : Tree bs ov) {v : Nat} (hv : InT bs ov v) (h0 : v ≠ 0) : ∃ q : Nat, ov[v]? = some (q : Int) ∧ InT bs ov q ∧ pos bs q < pos bs v := by
  obtain ⟨hm, hv⟩ := hv
  rcases hv with hv | ⟨x, hx, hx0⟩
  · exact absurd hv h0
  · obtain ⟨q, rfl, h1, h2, h3⟩ := h.up v x hm h0 hx hx0
    exact ⟨q, hx, ⟨h1, h3⟩, h2⟩
theorem Tree.anc (h : Tree bs ov) {v x : Nat} (hv : InT bs ov v) (ha : Anc ov v x) : InT bs ov x ∧ pos bs x ≤ pos bs v ∧ (x ≠ v → pos bs x < pos bs v) := by
  induction ha with
  | refl a => exact ⟨hv, Nat.le_refl _, fun h => absurd rfl h⟩
  | @step a q x hq _ ih =>
    by_cases h0 : a = 0
    · subst h0
      rw [h.root] at hq
      injection hq with hq
      omega
    · obtain ⟨q', hq', hi, hp⟩ := h.parent ho hv h0
      rw [hq] at hq'
      injection hq' with hq'
      have : q = q' := by omega
      subst this
      have := ih hi
      exact ⟨this.1, by omega, fun _ => by omega⟩
theorem Tree.zero (h : Tree bs ov) {x : Nat} (ha : Anc ov 0 x) : x = 0 := by
  cases ha with
  | refl => rfl
  | step hq _ =>
    rw [h.root] at hq
    injection hq with hq
    omega
theorem Tree.cases (h : Tree bs ov) {v q x : Nat} (hq : ov[v]? = some (q : Int)) (ha : Anc ov v x) : x = v ∨ Anc ov q x := by
  cases ha with
  | refl => exact .inl rfl
  | @step _ q' _ hq' k =>
    rw [hq] at hq'
    injection hq' with hq'
    have : q = q' := by omega
    subst this
    exact .inr k
theorem Tree.chain (h : Tree bs ov) {v x y : Nat} (hv : InT bs ov v) (hx : Anc ov v x) (hy : Anc ov v y) (hp : pos bs x ≤ pos bs y) : Anc ov y x := by
  induction hx with
  | refl a =>
    have := h.anc ho hv hy
    have : pos bs y = pos bs a := by omega
    rw [pos_inj ho (h.anc ho hv hy).1.1 hv.1 this]
    exact .refl _
  | @step a q x hq ha ih =>
    by_cases h0 : a = 0
    · subst h0
      rw [h.root] at hq
      injection hq with hq
      omega
    · obtain ⟨q', hq', hi, _⟩ := h.parent ho hv h0
      rw [hq] at hq'
      injection hq' with hq'
      have : q = q' := by omega
      subst this
      rcases h.cases ho hq hy with rfl | hy
      · exact .step hq ha
      · exact ih hi hy hp
theorem gI_get {l : List Int} {v : Nat} {x : Int} (h : l[v]? = some x) : gI l v = x := by rw [gI, Int.toNat_natCast, h]; rfl
theorem InT.fuel {v : Nat} (h : InT bs ov v) : pos bs v < bs.length := pos_lt ho h.1
end
end Go.SM
end
section
set_option linter.unusedVariables false
set_option linter.unusedSimpArgs false
set_option linter.unusedSectionVars false
namespace Go.SM
open Go.VL
structure TInv (bs : List SBlock) (ov : List Int) (i : Nat) : Prop where
  tree : Tree bs ov
  done : ∀ (j v : Nat), j < i → (orderF bs)[j]? = some v → InT bs ov v
  down : ∀ (v w : Nat), InT bs ov v → w ∈ orderF bs → pos bs w < pos bs v → InT bs ov w
  anc : ∀ (v x : Nat), InT bs ov v → Anc ov v x → AncP bs v x
  most : ∀ (v q : Nat), InT bs ov v → v ≠ 0 → ov[v]? = some (q : Int) → ∀ y, (∀ p, Edge bs p v → InT bs ov p → Anc ov p y) → pos bs y ≤ pos bs q
  past : ∀ (v : Nat), v ∈ orderF bs → pos bs v < i → ∀ q x, AncP bs v q → Anc ov v x → pos bs x ≤ pos bs q → Anc ov q x
theorem AncP.ne {bs : List SBlock} {v x : Nat} (h : AncP bs v x) (hx : x ≠ v) : v ≠ 0 ∧ AncP bs (pi bs v) x := by
  cases h with
  | refl => exact absurd rfl hx
  | step h0 k => exact ⟨h0, k⟩
def hW (bs : List SBlock) (x : Int) : Nat := if x < 0 then bs.length else pos bs x.toNat
section
variable {bs : List SBlock} (ho : OrderOk bs (orderF bs)) (hE : ∀ b ∈ bs, ∀ e ∈ b.term.to, 1 ≤ e.block ∧ e.block < bs.length) {ov : List Int}
include ho
theorem edge_mem {p v : Nat} (hp : p ∈ orderF bs) (he : Edge bs p v) : v ∈ orderF bs := ho.closed p hp v he
structure TreeOk (bs : List SBlock) (ov : List Int) : Prop where
  inv : TInv bs ov 1
  all : ∀ v, v ∈ orderF bs → InT bs ov v
  fix : ∀ v, v ∈ orderF bs → v ≠ 0 → gI ov v = nextL ov (placeZ bs) (2 * bs.length + 1) (-1) ((predsF bs)[v]?.getD [])
end
end Go.SM
end
section
set_option linter.unusedVariables false
set_option linter.unusedSimpArgs false
set_option linter.unusedSectionVars false
namespace Go.SM
open Go.VL
section
variable {bs : List SBlock} (ho : OrderOk bs (orderF bs)) {ov : List Int}
include ho
structure Up (bs : List SBlock) (ov : List Int) (a : Nat) (l : List Int) (k : Int) (n : Nat) : Prop where
  len : l.length = n
  at_ : k = -1 ∨ ∃ v : Nat, k = v ∧ InT bs ov v ∧ n + pos bs v ≤ pos bs a
  mem : ∀ y : Nat, Anc ov a y ↔ (y : Int) ∈ l ∨ ∃ v : Nat, k = v ∧ Anc ov v y
  le : n ≤ bs.length
omit ho in
structure Climb (bs : List SBlock) (ov : List Int) (a b : Nat) (v n : Nat) : Prop where
  at_ : Anc ov b v
  bound : n + pos bs v ≤ pos bs b
  none : ∀ y, Anc ov b y → pos bs v < pos bs y → ¬ Anc ov a y
omit ho in
end
end Go.SM
end
section
set_option linter.unusedVariables false
set_option linter.unusedSimpArgs false
namespace Go.SM
open Go.VL
def reachL (f : SFunc) : List Int := (ordZ f.blocks).mergeSort fun x y => decide (x ≤ y)
theorem reach_mem {f : SFunc} {v : Nat} : (v : Int) ∈ reachL f ↔ v ∈ orderF f.blocks := by
  unfold reachL
  rw [List.mem_mergeSort, ordZ, List.mem_map]
  constructor
  · rintro ⟨k, hk, e⟩
    have : k = v := by omega
    rwa [← this]
  · intro h
    exact ⟨v, h, rfl⟩
theorem reach_len (f : SFunc) : (reachL f).length = (orderF f.blocks).length := by rw [reachL, List.length_mergeSort, ordZ, List.length_map]
section
variable {bs : List SBlock} (ho : OrderOk bs (orderF bs)) {ov : List Int}
include ho
end
end Go.SM
end
section
set_option linter.unusedVariables false
set_option linter.unusedSimpArgs false
namespace Go.SM
open Go.VL
section
variable {bs : List SBlock} (ho : OrderOk bs (orderF bs)) {ov : List Int}
include ho
end
end Go.SM
end
section
set_option linter.unusedVariables false
set_option linter.unusedSimpArgs false
namespace Go.SM
open Go.VL
theorem again_keep {n : Nat} {d d' : Dom} (h : StepW n d d') (ha : d'.again = false) : d' = d := by
  rcases h.2 with h | ⟨h, _⟩
  · exact h
  · rw [ha] at h; cases h
theorem edges_fix {n k : Nat} (hk : k < n) : ∀ {l : List SEdge} {d : Dom}, DomOk n d → (∀ e ∈ l, 1 ≤ e.block ∧ e.block < n) → (l.foldl (domEdge k) d).again = false → l.foldl (domEdge k) d = d ∧ ∀ e ∈ l, domEdge k d e = d
  | [], d, _, _, _ => ⟨rfl, fun e he => by cases he⟩
  | e :: l, d, ok, h, ha => by
    have h1 := domEdge_w ok hk (h e (List.mem_cons_self ..)).1 (h e (List.mem_cons_self ..)).2
    have hl := fun x hx => h x (List.mem_cons_of_mem e hx)
    have h2 := edges_w hk h1.1 hl
    rw [List.foldl_cons] at ha ⊢
    have e2 := again_keep h2 ha
    have e1 : domEdge k d e = d := again_keep h1 (by rw [← e2]; exact ha)
    rw [e1] at ha ⊢
    obtain ⟨g1, g2⟩ := edges_fix hk ok hl ha
    refine ⟨g1, fun x hx => ?_⟩
    rcases List.mem_cons.1 hx with rfl | hx
    · exact e1
    · exact g2 x hx
theorem block_fix {n k : Nat} {b : SBlock} {d : Dom} (hk : k < n) (ok : DomOk n d) (h : ∀ e ∈ b.term.to, 1 ≤ e.block ∧ e.block < n) (ha : (domBlock d k b).again = false) : domBlock d k b = d ∧ (d.seen.has k = true → ∀ e ∈ b.term.to, domEdge k d e = d) := by
  unfold domBlock at ha ⊢
  split
  · rename_i hs
    rw [if_pos hs] at ha
    obtain ⟨h1, h2⟩ := edges_fix hk ok h ha
    exact ⟨h1, fun _ => h2⟩
  · rename_i hs
    exact ⟨rfl, fun h => absurd h hs⟩
theorem pass_fix {n : Nat} : ∀ {l : List SBlock} {k : Nat} {d : Dom}, k + l.length = n → DomOk n d → (∀ b ∈ l, ∀ e ∈ b.term.to, 1 ≤ e.block ∧ e.block < n) → (domPass k l d).again = false →
    ∀ (j : Nat) (b : SBlock), l[j]? = some b → d.seen.has (k + j) = true → ∀ e ∈ b.term.to, domEdge (k + j) d e = d
  | [], k, d, _, _, _, _, j, b, hb => by simp at hb
  | c :: l, k, d, hl, ok, h, ha, j, b, hb => by
    have hl' : k + (l.length + 1) = n := hl
    have h1 := block_w (k := k) (by omega) ok (h c (List.mem_cons_self ..))
    have hr := fun x hx => h x (List.mem_cons_of_mem c hx)
    have h2 := pass_w (l := l) (k := k + 1) (by omega) h1.1 hr
    rw [domPass] at ha
    have e2 := again_keep h2 ha
    have ha1 : (domBlock d k c).again = false := by rw [← e2]; exact ha
    obtain ⟨e1, g⟩ := block_fix (by omega) ok (h c (List.mem_cons_self ..)) ha1
    rw [e1] at ha
    cases j with
    | zero =>
      simp at hb
      subst hb
      exact g
    | succ j =>
      simp at hb
      have := pass_fix (by omega) ok hr ha j b hb
      rwa [show k + 1 + j = k + (j + 1) by omega] at this
structure DomFix (bs : List SBlock) (d : Dom) : Prop where
  ok : DomOk bs.length d
  seen0 : d.seen.has 0 = true
  at0 : d.at 0 = BSet.with noSet 0
  fix : ∀ (k : Nat) (b : SBlock), bs[k]? = some b → d.seen.has k = true → ∀ e ∈ b.term.to, domEdge k d e = d
def DomZ (n : Nat) (d : Dom) : Prop := d.seen.has 0 = true ∧ d.at 0 = BSet.with noSet 0
theorem edge_z {n k : Nat} {d : Dom} {e : SEdge} (ok : DomOk n d) (h1 : 1 ≤ e.block) (h2 : e.block < n) (hz : DomZ n d) : DomZ n (domEdge k d e) := by
  unfold domEdge
  dsimp only
  have hn := ok.le
  split
  · refine ⟨?_, ?_⟩
    · rw [has_with _ (by omega) (by omega), hz.1]; rfl
    · rw [at_set (by rw [ok.len]; omega), if_neg (by omega)]; exact hz.2
  · exact hz
theorem edges_z {n k : Nat} (hk : k < n) : ∀ {l : List SEdge} {d : Dom}, DomOk n d → (∀ e ∈ l, 1 ≤ e.block ∧ e.block < n) → DomZ n d → DomZ n (l.foldl (domEdge k) d)
  | [], d, _, _, hz => hz
  | e :: l, d, ok, h, hz => by
    have he := h e (List.mem_cons_self ..)
    show DomZ n (l.foldl (domEdge k) (domEdge k d e))
    exact edges_z (l := l) hk (domEdge_w ok hk he.1 he.2).1 (fun x hx => h x (List.mem_cons_of_mem e hx)) (edge_z ok he.1 he.2 hz)
theorem block_z {n k : Nat} {b : SBlock} {d : Dom} (hk : k < n) (ok : DomOk n d) (h : ∀ e ∈ b.term.to, 1 ≤ e.block ∧ e.block < n) (hz : DomZ n d) : DomZ n (domBlock d k b) := by
  unfold domBlock
  split
  · exact edges_z hk ok h hz
  · exact hz
theorem pass_z {n : Nat} : ∀ {l : List SBlock} {k : Nat} {d : Dom}, k + l.length = n → DomOk n d → (∀ b ∈ l, ∀ e ∈ b.term.to, 1 ≤ e.block ∧ e.block < n) → DomZ n d → DomZ n (domPass k l d)
  | [], k, d, _, _, _, hz => hz
  | c :: l, k, d, hl, ok, h, hz => by
    have hl' : k + (l.length + 1) = n := hl
    show DomZ n (domPass (k + 1) l (domBlock d k c))
    exact pass_z (l := l) (by omega) (block_w (k := k) (by omega) ok (h c (List.mem_cons_self ..))).1 (fun x hx => h x (List.mem_cons_of_mem c hx)) (block_z (by omega) ok (h c (List.mem_cons_self ..)) hz)
theorem domIter_fix {bs : List SBlock} (h : ∀ b ∈ bs, ∀ e ∈ b.term.to, 1 ≤ e.block ∧ e.block < bs.length) : ∀ (n : Nat) (d : Dom), DomOk bs.length d → DomZ bs.length d → weight bs.length d + (if d.again then 1 else 0) ≤ n → (d.again = false → DomFix bs d) → DomFix bs (domIter bs n d)
  | 0, d, ok, hz, hw, hf => by
    cases ha : d.again with
    | false => exact hf ha
    | true => rw [ha, if_pos rfl] at hw; omega
  | n + 1, d, ok, hz, hw, hf => by
    cases ha : d.again with
    | false => rw [domIter, if_neg (by rw [ha]; decide)]; exact hf ha
    | true =>
      obtain ⟨n', e, h1, h2, h3⟩ := round ok h hw ha
      have : n = n' := by omega
      subst this
      have ok0 : DomOk bs.length { d with again := false } := ⟨ok.len, ok.le, ok.self⟩
      have hz1 : DomZ bs.length (domPass 0 bs { d with again := false }) := pass_z (by omega) ok0 h hz
      rw [h1]
      refine domIter_fix h n _ h2 hz1 h3 fun ha2 => ?_
      have e2 := again_keep (pass_w (l := bs) (k := 0) (by omega) ok0 h) ha2
      have hfx := pass_fix (l := bs) (k := 0) (by omega) ok0 h ha2
      rw [e2] at hz1 ⊢
      exact ⟨ok0, hz1.1, hz1.2, fun k b hb hs => by have := hfx k b hb (by rw [Nat.zero_add]; exact hs); rwa [Nat.zero_add] at this⟩
theorem dom_fix {bs : List SBlock} (h0 : 0 < bs.length) (hn : bs.length ≤ 128) (h : ∀ b ∈ bs, ∀ e ∈ b.term.to, 1 ≤ e.block ∧ e.block < bs.length) : DomFix bs (domF bs) := by
  refine domIter_fix h _ _ (start_ok h0 hn) ⟨?_, ?_⟩ ?_ fun h => by cases h
  · show (BSet.with noSet 0).has 0 = true
    rw [has_with _ (by omega) (by omega)]
    simp
  · unfold domStart Dom.at
    rw [List.getElem?_set, if_pos rfl, if_pos (by simpa using h0)]
    rfl
  · have := start_w bs.length
    have ha : (domStart bs.length).again = true := rfl
    rw [ha, if_pos rfl, domFuel]
    omega
inductive Way (bs : List SBlock) : List Nat → Nat → Prop where
  | start : Way bs [] 0
  | step {l : List Nat} {p k : Nat} : Way bs l p → Edge bs p k → Way bs (p :: l) k
theorem dom_way {bs : List SBlock} {d : Dom} (hd : DomFix bs d) (h : ∀ b ∈ bs, ∀ e ∈ b.term.to, 1 ≤ e.block ∧ e.block < bs.length) {l : List Nat} {k : Nat} (hw : Way bs l k) : d.seen.has k = true ∧ k < 128 ∧ ∀ j, j < 128 → (d.at k).has j = true → j = k ∨ j ∈ l := by
  induction hw with
  | start =>
    refine ⟨hd.seen0, by omega, fun j hj hh => ?_⟩
    rw [hd.at0, has_with _ (by omega) hj, has_no, Bool.false_or, decide_eq_true_eq] at hh
    exact .inl hh
  | @step l p k hw he ih =>
    obtain ⟨hs, hp, ih⟩ := ih
    obtain ⟨e, hem, rfl⟩ := he
    obtain ⟨b, hb, hem⟩ : ∃ b, bs[p]? = some b ∧ e ∈ b.term.to := by
      unfold toAt at hem
      cases hb : bs[p]? with
      | none => rw [hb] at hem; cases hem
      | some b => rw [hb] at hem; exact ⟨b, rfl, hem⟩
    have hr := h b (List.mem_of_getElem? hb) e hem
    have hn := hd.ok.le
    have ht : e.block.toNat < 128 := by omega
    have hfx := hd.fix p b hb hs e hem
    unfold domEdge at hfx
    dsimp only at hfx
    split at hfx
    · rename_i hc
      -- a change cannot leave all as it was
      exfalso
      have h1 : (d.over.set e.block.toNat (((d.at e.block.toNat).both (d.at p)).with e.block.toNat))[e.block.toNat]? = d.over[e.block.toNat]? := by
        have := congrArg Dom.over hfx
        dsimp only at this
        rw [this]
      have h2 := congrArg Dom.seen hfx
      dsimp only at h2
      rcases hc with hc | hc
      · rw [List.getElem?_set, if_pos rfl, if_pos (by rw [hd.ok.len]; omega)] at h1
        have h3 : d.at e.block.toNat = ((d.at e.block.toNat).both (d.at p)).with e.block.toNat := (congrArg (fun o : Option BSet => o.getD noSet) h1).symm
        exact hc h3.symm
      · rw [← h2, has_with _ ht ht] at hc
        simp at hc
    · rename_i hc
      rw [not_or] at hc
      obtain ⟨h1, h2⟩ := hc
      have h1 := Classical.not_not.1 h1
      refine ⟨by simpa using h2, ht, fun j hj hh => ?_⟩
      rw [← h1, has_with _ ht hj, has_both, Bool.or_eq_true, Bool.and_eq_true, decide_eq_true_eq] at hh
      rcases hh with hh | hh
      · rcases ih j hj hh.2 with h3 | h3
        · exact .inr (by rw [h3]; exact List.mem_cons_self ..)
        · exact .inr (List.mem_cons_of_mem _ h3)
      · exact .inl hh
end Go.SM
end
section
set_option linter.unusedVariables false
set_option linter.unusedSimpArgs false
set_option linter.unusedSectionVars false
namespace Go.SM
open Go.VL
def Doms (bs : List SBlock) (x v : Nat) : Prop := ∀ l, Way bs l v → x = v ∨ x ∈ l
theorem doms_pred {bs : List SBlock} {x p v : Nat} (h : Doms bs x v) (hx : x ≠ v) (he : Edge bs p v) : Doms bs x p := fun l hl => by
  rcases h _ (.step hl he) with e | e
  · exact absurd e hx
  · rcases List.mem_cons.1 e with e | e
    · exact .inl e
    · exact .inr e
section
variable {bs : List SBlock} (ho : OrderOk bs (orderF bs)) (hE : ∀ b ∈ bs, ∀ e ∈ b.term.to, 1 ≤ e.block ∧ e.block < bs.length) {ov : List Int}
include ho
end
theorem way_order {f : SFunc} (hf : FuncOk f) {l : List Nat} {v : Nat} (hw : Way f.blocks l v) : v ∈ orderF f.blocks := by
  have ho := order_ok hf.pos hf.edges
  induction hw with
  | start => exact zero_mem ho
  | step hw he ih => exact edge_mem ho ih he
theorem order_way {f : SFunc} (hf : FuncOk f) : ∀ (n v : Nat), pos f.blocks v < n → v ∈ orderF f.blocks → ∃ l, Way f.blocks l v
  | 0, v, hn, _ => by omega
  | n + 1, v, hn, hv => by
    have ho := order_ok hf.pos hf.edges
    by_cases h0 : v = 0
    · subst h0; exact ⟨[], .start⟩
    · obtain ⟨p, hp, hlt, he⟩ := par_of ho hv h0
      obtain ⟨l, hl⟩ := order_way hf n p (by omega) hp
      exact ⟨p :: l, .step hl he⟩
theorem order_iff {f : SFunc} (hf : FuncOk f) {v : Nat} : v ∈ orderF f.blocks ↔ ∃ l, Way f.blocks l v := ⟨fun h => order_way hf _ v (Nat.lt_succ_self _) h, fun ⟨l, h⟩ => way_order hf h⟩
end Go.SM
end
section
set_option linter.unusedVariables false
set_option linter.unusedSimpArgs false
namespace Go.SM
open Go.VL
structure DomMost (bs : List SBlock) (d : Dom) : Prop where
  most : ∀ k j : Nat, k < bs.length → j < bs.length → Doms bs j k → (d.at k).has j = true
  seen : ∀ k : Nat, k < 128 → d.seen.has k = true → ∃ l, Way bs l k
theorem most_start {bs : List SBlock} (h0 : 0 < bs.length) (hn : bs.length ≤ 128) : DomMost bs (domStart bs.length) := by
  refine ⟨fun k j hk hj hd => ?_, fun k hk hs => ?_⟩
  · unfold domStart Dom.at
    dsimp only
    rw [List.getElem?_set]
    split
    · rename_i e
      subst e
      rw [if_pos (by simpa using h0)]
      rcases hd [] .start with e | e
      · subst e
        show (BSet.with noSet 0).has 0 = true
        rw [has_with _ (by omega) (by omega)]
        simp
      · cases e
    · rw [List.getElem?_replicate, if_pos hk]
      show (allSet bs.length).has j = true
      rw [has_all _ hn j (by omega)]
      exact decide_eq_true hj
  · have hs : (BSet.with noSet 0).has k = true := hs
    rw [has_with _ (by omega) hk, has_no, Bool.false_or, decide_eq_true_eq] at hs
    subst hs
    exact ⟨[], .start⟩
theorem most_edge {bs : List SBlock} (hn : bs.length ≤ 128) {d : Dom} (ok : DomOk bs.length d) {k : Nat} {e : SEdge} (hk : k < bs.length) (he : e ∈ toAt bs k) (h1 : 1 ≤ e.block) (h2 : e.block < bs.length) (hs : d.seen.has k = true) (h : DomMost bs d) : DomMost bs (domEdge k d e) := by
  unfold domEdge
  dsimp only
  have hte : Edge bs k e.block.toNat := ⟨e, he, rfl⟩
  split
  · refine ⟨fun v j hv hj hd => ?_, fun v hv hsv => ?_⟩
    · rw [at_set (by rw [ok.len]; omega)]
      split
      · rename_i e1
        subst e1
        rw [has_with _ (by omega) (by omega), has_both]
        by_cases hjt : j = e.block.toNat
        · rw [decide_eq_true hjt, Bool.or_true]
        · rw [h.most _ j hv hj hd, h.most k j hk hj (doms_pred hd hjt hte)]
          rfl
      · exact h.most v j hv hj hd
    · have hsv : (d.seen.with e.block.toNat).has v = true := hsv
      rw [has_with _ (by omega) hv, Bool.or_eq_true, decide_eq_true_eq] at hsv
      rcases hsv with hsv | rfl
      · exact h.seen v hv hsv
      · obtain ⟨l, hl⟩ := h.seen k (by omega) hs
        exact ⟨_, .step hl hte⟩
  · exact h
theorem seen_edge {n k : Nat} {d : Dom} {e : SEdge} (hn : n ≤ 128) (hk : k < n) (h1 : 1 ≤ e.block) (h2 : e.block < n) (hs : d.seen.has k = true) : (domEdge k d e).seen.has k = true := by
  unfold domEdge
  dsimp only
  split
  · rw [has_with _ (by omega) (by omega), hs]; rfl
  · exact hs
theorem most_edges {bs : List SBlock} (hn : bs.length ≤ 128) {k : Nat} (hk : k < bs.length) : ∀ {l : List SEdge} {d : Dom}, DomOk bs.length d → (∀ e ∈ l, e ∈ toAt bs k) → (∀ e ∈ l, 1 ≤ e.block ∧ e.block < bs.length) → d.seen.has k = true → DomMost bs d → DomMost bs (l.foldl (domEdge k) d)
  | [], d, _, _, _, _, h => h
  | e :: l, d, ok, hl, hb, hs, h => by
    have he := hb e (List.mem_cons_self ..)
    show DomMost bs (l.foldl (domEdge k) (domEdge k d e))
    exact most_edges hn hk (l := l) (domEdge_w ok hk he.1 he.2).1 (fun x hx => hl x (List.mem_cons_of_mem _ hx)) (fun x hx => hb x (List.mem_cons_of_mem _ hx)) (seen_edge hn hk he.1 he.2 hs) (most_edge hn ok hk (hl e (List.mem_cons_self ..)) he.1 he.2 hs h)
theorem most_block {bs : List SBlock} (hn : bs.length ≤ 128) {k : Nat} {b : SBlock} {d : Dom} (hb : bs[k]? = some b) (ok : DomOk bs.length d) (hE : ∀ e ∈ b.term.to, 1 ≤ e.block ∧ e.block < bs.length) (h : DomMost bs d) : DomMost bs (domBlock d k b) := by
  unfold domBlock
  split
  · rename_i hs
    exact most_edges hn (List.getElem?_eq_some_iff.1 hb).1 ok (fun e he => by rw [toAt_get hb]; exact he) hE hs h
  · exact h
theorem most_pass {bs : List SBlock} (hn : bs.length ≤ 128) (hE : ∀ b ∈ bs, ∀ e ∈ b.term.to, 1 ≤ e.block ∧ e.block < bs.length) : ∀ {l : List SBlock} {k : Nat} {d : Dom}, bs.drop k = l → DomOk bs.length d → DomMost bs d → DomMost bs (domPass k l d)
  | [], k, d, _, _, h => h
  | c :: l, k, d, hl, ok, h => by
    have hb : bs[k]? = some c := by
      have h9 : (bs.drop k)[0]? = some c := by rw [hl]; rfl
      rwa [List.getElem?_drop, Nat.add_zero] at h9
    have hl2 : bs.drop (k + 1) = l := by
      have h9 : (bs.drop k).drop 1 = l := by rw [hl]; rfl
      rwa [List.drop_drop] at h9
    have hk := (List.getElem?_eq_some_iff.1 hb).1
    have hc := hE c (List.mem_of_getElem? hb)
    show DomMost bs (domPass (k + 1) l (domBlock d k c))
    exact most_pass hn hE hl2 (block_w hk ok hc).1 (most_block hn hb ok hc h)
theorem most_iter {bs : List SBlock} (hn : bs.length ≤ 128) (hE : ∀ b ∈ bs, ∀ e ∈ b.term.to, 1 ≤ e.block ∧ e.block < bs.length) : ∀ (n : Nat) (d : Dom), DomOk bs.length d → DomMost bs d → DomMost bs (domIter bs n d)
  | 0, d, _, h => h
  | n + 1, d, ok, h => by
    rw [domIter]
    split
    · have ok0 : DomOk bs.length { d with again := false } := ⟨ok.len, ok.le, ok.self⟩
      exact most_iter hn hE n _ (pass_w (l := bs) (k := 0) (by omega) ok0 hE).1 (most_pass hn hE rfl ok0 ⟨h.most, h.seen⟩)
    · exact h
theorem dom_most {bs : List SBlock} (h0 : 0 < bs.length) (hn : bs.length ≤ 128) (hE : ∀ b ∈ bs, ∀ e ∈ b.term.to, 1 ≤ e.block ∧ e.block < bs.length) : DomMost bs (domF bs) := most_iter hn hE _ _ (start_ok h0 hn) (most_start h0 hn)
theorem has_iff {bs : List SBlock} (h0 : 0 < bs.length) (hn : bs.length ≤ 128) (hE : ∀ b ∈ bs, ∀ e ∈ b.term.to, 1 ≤ e.block ∧ e.block < bs.length) {k j : Nat} (hk : ∃ l, Way bs l k) (hkl : k < bs.length) (hj : j < bs.length) : ((domF bs).at k).has j = true ↔ Doms bs j k :=
  ⟨fun h l hw => (dom_way (dom_fix h0 hn hE) hE hw).2.2 j (by omega) h, (dom_most h0 hn hE).most k j hkl hj⟩
theorem seen_iff {bs : List SBlock} (h0 : 0 < bs.length) (hn : bs.length ≤ 128) (hE : ∀ b ∈ bs, ∀ e ∈ b.term.to, 1 ≤ e.block ∧ e.block < bs.length) {k : Nat} (hk : k < 128) : (domF bs).seen.has k = true ↔ ∃ l, Way bs l k :=
  ⟨(dom_most h0 hn hE).seen k hk, fun ⟨l, hw⟩ => (dom_way (dom_fix h0 hn hE) hE hw).1⟩
end Go.SM
end
section
set_option linter.unusedVariables false
set_option linter.unusedSimpArgs false
namespace Go.SM
open Go.VL
abbrev keys (d : Defs) : List Int := d.map (·.1)
structure KOk (d new : Defs) : Prop where
  wi : ∀ x ∈ keys new, wi x 0 4095 = true
  nodup : (keys new).Nodup
  fresh : ∀ x ∈ keys new, x ∉ keys d
theorem kok_nil (d : Defs) : KOk d [] := ⟨by simp, by simp, by simp⟩
theorem kok_append {d a b : Defs} : KOk d (a ++ b) ↔ KOk d a ∧ KOk (d ++ a) b := by
  constructor
  · rintro ⟨h1, h2, h3⟩
    simp only [keys, List.map_append] at h1 h2 h3
    obtain ⟨n1, n2, n3⟩ := List.nodup_append.1 h2
    refine ⟨⟨fun x hx => h1 x (List.mem_append_left _ hx), n1, fun x hx => h3 x (List.mem_append_left _ hx)⟩, ⟨fun x hx => h1 x (List.mem_append_right _ hx), n2, fun x hx => ?_⟩⟩
    simp only [keys, List.map_append, List.mem_append, not_or]
    exact ⟨h3 x (List.mem_append_right _ hx), fun hm => n3 x hm x hx rfl⟩
  · rintro ⟨⟨a1, a2, a3⟩, ⟨b1, b2, b3⟩⟩
    simp only [keys, List.map_append] at b3
    refine ⟨fun x hx => ?_, ?_, fun x hx => ?_⟩ <;> simp only [keys, List.map_append] at *
    · rcases List.mem_append.1 hx with h | h
      · exact a1 x h
      · exact b1 x h
    · exact List.nodup_append.2 ⟨a2, b2, fun x hx y hy e => by subst e; exact b3 x hy (List.mem_append_right _ hx)⟩
    · rcases List.mem_append.1 hx with h | h
      · exact a3 x h
      · exact fun hm => b3 x h (List.mem_append_left _ hm)
theorem kok_one {d : Defs} {v : Int} {p : Int × Int} : KOk d [(v, p)] ↔ wi v 0 4095 = true ∧ v ∉ keys d := by
  constructor
  · rintro ⟨h1, _, h3⟩
    exact ⟨h1 v (by simp), h3 v (by simp)⟩
  · rintro ⟨h1, h2⟩
    exact ⟨fun x hx => by simp at hx; subst hx; exact h1, by simp, fun x hx => by simp at hx; subst hx; exact h2⟩
theorem dget_out {v : Int} : ∀ {d : Defs}, dget d v = none ↔ v ∉ keys d
  | [] => by simp [dget]
  | (k, p) :: d => by
    rw [dget]
    split
    · rename_i e
      subst e
      simp
    · rename_i e
      rw [dget_out]
      simp only [keys, List.map_cons, List.mem_cons, not_or]
      exact ⟨fun h => ⟨fun e2 => e e2.symm, h⟩, fun h => h.2⟩
theorem define_iff {v : Int} {p : Int × Int} {d : Defs} : (defineF v p d).1 = 0 ↔ KOk d [(v, p)] := by
  rw [kok_one]
  unfold defineF
  cases hw : wi v 0 4095 with
  | false => simp
  | true =>
    rw [if_neg (by decide)]
    cases hd : dget d v with
    | none =>
      rw [if_neg (by decide)]
      exact ⟨fun _ => ⟨rfl, dget_out.1 hd⟩, fun _ => rfl⟩
    | some x =>
      rw [if_pos (show (some x).isSome = true from rfl)]
      have : ¬ v ∉ keys d := fun h => by rw [dget_out.2 h] at hd; cases hd
      exact ⟨fun h => absurd (show (7 : Int) = 0 from h) (by decide), fun h => absurd h.2 this⟩
theorem define_eq {v : Int} {p : Int × Int} {d : Defs} (h : (defineF v p d).1 = 0) : (defineF v p d).2 = d ++ [(v, p)] := by
  have h2 := h
  rw [define_iff, kok_one] at h2
  unfold defineF
  rw [if_neg (by rw [h2.1]; decide), dget_out.2 h2.2, if_neg (by decide)]
theorem params_iff {k : Int} : ∀ {ps : List Int} {d : Defs}, ((paramsF k ps d).1 = 0 ↔ KOk d (defsP k ps)) ∧ ((paramsF k ps d).1 = 0 → (paramsF k ps d).2 = d ++ defsP k ps)
  | [], d => ⟨⟨fun _ => kok_nil d, fun _ => rfl⟩, fun _ => by simp [paramsF, defsP]⟩
  | p :: ps, d => by
    have hc : defsP k (p :: ps) = [(p, (k, 0))] ++ defsP k ps := rfl
    rw [hc, kok_append, paramsF]
    by_cases h : (defineF p (k, 0) d).1 = 0
    · rw [if_neg (fun h2 => h2 h)]
      have he := define_eq h
      obtain ⟨h1, h2⟩ := params_iff (k := k) (ps := ps) (d := (defineF p (k, 0) d).2)
      rw [he] at h1 h2
      rw [he]
      exact ⟨⟨fun h3 => ⟨define_iff.1 h, h1.1 h3⟩, fun h3 => h1.2 h3.2⟩, fun h3 => by rw [h2 h3, List.append_assoc]⟩
    · rw [if_pos h]
      exact ⟨⟨fun h3 => absurd h3 h, fun h3 => absurd (define_iff.2 h3.1) h⟩, fun h3 => absurd h3 h⟩
theorem inss_iff {k : Int} : ∀ {is : List SIns} {n : Int} {d : Defs}, ((inssF k n is d).1 = 0 ↔ KOk d (defsI k n is) ∧ ∀ i ∈ is, formF i = 0) ∧ ((inssF k n is d).1 = 0 → (inssF k n is d).2 = d ++ defsI k n is)
  | [], n, d => ⟨⟨fun _ => ⟨kok_nil d, fun i hi => by cases hi⟩, fun _ => rfl⟩, fun _ => by simp [inssF, defsI]⟩
  | i :: is, n, d => by
    have hc : defsI k n (i :: is) = [(i.to, (k, n + 1))] ++ defsI k (n + 1) is := rfl
    rw [hc, kok_append, inssF]
    by_cases h : (defineF i.to (k, n + 1) d).1 = 0
    · rw [if_neg (fun h2 => h2 h)]
      have he := define_eq h
      by_cases hf : formF i = 0
      · rw [if_neg (fun h2 => h2 hf)]
        obtain ⟨h1, h2⟩ := inss_iff (k := k) (is := is) (n := n + 1) (d := (defineF i.to (k, n + 1) d).2)
        rw [he] at h1 h2
        rw [he]
        refine ⟨⟨fun h3 => ?_, fun h3 => ?_⟩, fun h3 => by rw [h2 h3, List.append_assoc]⟩
        · have h4 := h1.1 h3
          refine ⟨⟨define_iff.1 h, h4.1⟩, fun j hj => ?_⟩
          rcases List.mem_cons.1 hj with rfl | hj
          · exact hf
          · exact h4.2 j hj
        · exact h1.2 ⟨h3.1.2, fun j hj => h3.2 j (List.mem_cons_of_mem _ hj)⟩
      · rw [if_pos hf]
        exact ⟨⟨fun h3 => absurd h3 hf, fun h3 => absurd (h3.2 i (List.mem_cons_self ..)) hf⟩, fun h3 => absurd h3 hf⟩
    · rw [if_pos h]
      exact ⟨⟨fun h3 => absurd h3 h, fun h3 => absurd (define_iff.2 h3.1.1) h⟩, fun h3 => absurd h3 h⟩
theorem block_iff {bs : List SBlock} {k : Int} {b : SBlock} {d : Defs} : ((blockF bs k b d).1 = 0 ↔ KOk d (defsB k b) ∧ blockOk bs b) ∧ ((blockF bs k b d).1 = 0 → (blockF bs k b d).2 = d ++ defsB k b) := by
  unfold blockF defsB blockOk
  rw [kok_append]
  obtain ⟨p1, p2⟩ := params_iff (k := k) (ps := b.params) (d := d)
  by_cases hp : (paramsF k b.params d).1 = 0
  · rw [if_neg (fun h => h hp)]
    rw [p2 hp]
    obtain ⟨i1, i2⟩ := inss_iff (k := k) (is := b.ins) (n := 0) (d := d ++ defsP k b.params)
    by_cases hi : (inssF k 0 b.ins (d ++ defsP k b.params)).1 = 0
    · rw [if_neg (fun h => h hi)]
      dsimp only
      rw [i2 hi]
      exact ⟨⟨fun h => ⟨⟨p1.1 hp, (i1.1 hi).1⟩, (i1.1 hi).2, h⟩, fun h => h.2.2⟩, fun h => List.append_assoc ..⟩
    · rw [if_pos hi]
      exact ⟨⟨fun h => absurd h hi, fun h => absurd (i1.2 ⟨h.1.2, h.2.1⟩) hi⟩, fun h => absurd h hi⟩
  · rw [if_pos hp]
    exact ⟨⟨fun h => absurd h hp, fun h => absurd (p1.2 h.1.1) hp⟩, fun h => absurd h hp⟩
theorem blocks_iff {bs : List SBlock} : ∀ {l : List SBlock} {k : Int} {d : Defs}, ((blocksF bs k l d).1 = 0 ↔ KOk d (defsL k l) ∧ ∀ b ∈ l, blockOk bs b) ∧ ((blocksF bs k l d).1 = 0 → (blocksF bs k l d).2 = d ++ defsL k l)
  | [], k, d => ⟨⟨fun _ => ⟨kok_nil d, fun i hi => by cases hi⟩, fun _ => rfl⟩, fun _ => by simp [blocksF, defsL]⟩
  | b :: l, k, d => by
    rw [defsL, kok_append, blocksF]
    obtain ⟨b1, b2⟩ := block_iff (bs := bs) (k := k) (b := b) (d := d)
    by_cases h : (blockF bs k b d).1 = 0
    · rw [if_neg (fun h2 => h2 h), b2 h]
      obtain ⟨h1, h2⟩ := blocks_iff (bs := bs) (l := l) (k := k + 1) (d := d ++ defsB k b)
      refine ⟨⟨fun h3 => ?_, fun h3 => ?_⟩, fun h3 => by rw [h2 h3, List.append_assoc]⟩
      · have h4 := h1.1 h3
        refine ⟨⟨(b1.1 h).1, h4.1⟩, fun j hj => ?_⟩
        rcases List.mem_cons.1 hj with rfl | hj
        · exact (b1.1 h).2
        · exact h4.2 j hj
      · exact h1.2 ⟨h3.1.2, fun j hj => h3.2 j (List.mem_cons_of_mem _ hj)⟩
    · rw [if_pos h]
      exact ⟨⟨fun h3 => absurd h3 h, fun h3 => absurd (b1.2 ⟨h3.1.1, h3.2 b (List.mem_cons_self ..)⟩) h⟩, fun h3 => absurd h3 h⟩
theorem dget_at {v : Int} {p : Int × Int} : ∀ {d : Defs}, (keys d).Nodup → (dget d v = some p ↔ (v, p) ∈ d)
  | [], _ => by simp [dget]
  | (k, q) :: d, h => by
    obtain ⟨h1, h2⟩ := List.nodup_cons.1 (show (k :: keys d).Nodup from h)
    rw [dget]
    split
    · rename_i e
      subst e
      constructor
      · intro e; injection e with e; subst e; exact List.mem_cons_self ..
      · intro hm
        rcases List.mem_cons.1 hm with e | hm
        · injection e with _ e; rw [e]
        · exact absurd (List.mem_map.2 ⟨_, hm, rfl⟩) h1
    · rename_i e
      rw [dget_at h2]
      constructor
      · intro hm; exact List.mem_cons_of_mem _ hm
      · intro hm
        rcases List.mem_cons.1 hm with e2 | hm
        · injection e2 with e2 _; exact absurd e2.symm e
        · exact hm
def dI : Int → List SIns → List (Int × Int)
  | _, [] => []
  | n, i :: is => (i.to, n + 1) :: dI (n + 1) is
def dB (b : SBlock) : List (Int × Int) := b.params.map (fun p => (p, 0)) ++ dI 0 b.ins
theorem defsI_eq (k : Int) : ∀ (is : List SIns) (n : Int), defsI k n is = (dI n is).map fun e => (e.1, (k, e.2))
  | [], n => rfl
  | i :: is, n => by rw [defsI, dI, List.map_cons, defsI_eq k is]
theorem defsB_eq (k : Int) (b : SBlock) : defsB k b = (dB b).map fun e => (e.1, (k, e.2)) := by
  unfold defsB dB defsP
  rw [List.map_append, List.map_map, defsI_eq]
  rfl
theorem defsL_at {x : Int × Int × Int} : ∀ {l : List SBlock} {k : Int}, x ∈ defsL k l ↔ ∃ (j : Nat) (b : SBlock), l[j]? = some b ∧ x.2.1 = k + j ∧ (x.1, x.2.2) ∈ dB b
  | [], k => by simp [defsL]
  | c :: l, k => by
    rw [defsL, List.mem_append, defsL_at (l := l), defsB_eq, List.mem_map]
    constructor
    · rintro (⟨e, he, rfl⟩ | ⟨j, b, hb, h1, h2⟩)
      · exact ⟨0, c, rfl, by simp, he⟩
      · exact ⟨j + 1, b, by simpa using hb, by rw [h1]; simp; omega, h2⟩
    · rintro ⟨j, b, hb, h1, h2⟩
      cases j with
      | zero =>
        have hb : c = b := by simpa using hb
        subst hb
        refine .inl ⟨_, h2, ?_⟩
        obtain ⟨a, b, e⟩ := x
        have h1 : b = k + (0 : Nat) := h1
        rw [show b = k by rw [h1]; simp]
      | succ j => exact .inr ⟨j, b, by simpa using hb, by rw [h1]; simp; omega, h2⟩
theorem keysI_len : ∀ (is : List SIns) (n : Int), (dI n is).length = is.length
  | [], n => rfl
  | i :: is, n => by rw [dI, List.length_cons, keysI_len is, List.length_cons]
def insN : List SBlock → Nat
  | [] => 0
  | b :: l => b.ins.length + insN l
theorem keysL : ∀ (l : List SBlock) (k : Int), keys (defsL k l) = l.flatMap fun b => (dB b).map (·.1)
  | [], k => rfl
  | b :: l, k => by
    rw [defsL, keys, List.map_append, List.flatMap_cons]
    have h := keysL l (k + 1)
    rw [keys] at h
    rw [h, defsB_eq, List.map_map]
    rfl
theorem insN_le : ∀ (l : List SBlock), insN l ≤ (l.flatMap fun b => (dB b).map (·.1)).length
  | [] => Nat.le_refl _
  | b :: l => by
    have h := insN_le l
    rw [insN, List.flatMap_cons, List.length_append, List.length_map, dB, List.length_append, keysI_len]
    omega
theorem nodup_wi {l : List Int} (h : l.Nodup) (hw : ∀ x ∈ l, wi x 0 4095 = true) : l.length ≤ 4096 := by
  have h1 := nodup_lt (l := l.map Int.toNat) (n := 4096) ?_ fun v hv => by
    obtain ⟨x, hx, rfl⟩ := List.mem_map.1 hv
    have := wi_iff.1 (hw x hx)
    omega
  · rwa [List.length_map] at h1
  · rw [List.Nodup, List.pairwise_map]
    refine List.Pairwise.imp_of_mem (fun {a c} ha hc hne e => hne ?_) h
    have h1 := wi_iff.1 (hw a ha)
    have h2 := wi_iff.1 (hw c hc)
    omega
theorem count_eq : ∀ (l : List SBlock) (n : Int), 0 ≤ n → n + insN l ≤ 9223372036854775807 → countIns n l = n + insN l
  | [], n, _, _ => by simp [countIns, insN]
  | b :: l, n, h0, h => by
    rw [insN] at h
    rw [countIns, insN]
    have e : IntKind.i64.wrap (n + b.ins.length) = n + b.ins.length := by rw [IntKind.wrap_i64]; omega
    rw [e, count_eq l _ (by omega) (by omega)]
    omega
structure FuncIs (f : SFunc) : Prop where
  pos : 0 < f.blocks.length
  len : f.blocks.length ≤ 128
  ins : insN f.blocks ≤ 1024
  params : (paramsOf f.blocks 0).length ≤ 6
  name : wi f.name (-1) 1048575 = true
  kok : KOk [] (defsL 0 f.blocks)
  block : ∀ b ∈ f.blocks, blockOk f.blocks b
  uses : usesF (defsL 0 f.blocks) (domF f.blocks) 0 f.blocks = 0
theorem func_iff {f : SFunc} : funcF f = 0 ↔ FuncIs f := by
  constructor
  · intro h
    have hok := func_ok h
    obtain ⟨h1, h2⟩ := blocks_iff (bs := f.blocks) (l := f.blocks) (k := 0) (d := [])
    have h3 := h1.1 hok.blocks
    have h4 := h2 hok.blocks
    have hu := hok.uses
    rw [h4, List.nil_append] at hu
    have hl := nodup_wi h3.1.nodup h3.1.wi
    rw [keysL] at hl
    have hi := insN_le f.blocks
    have hc := hok.ins
    rw [count_eq _ _ (by omega) (by omega)] at hc
    exact ⟨hok.pos, hok.len, by omega, hok.params, wi_iff.2 hok.name, h3.1, h3.2, hu⟩
  · intro h
    obtain ⟨h1, h2⟩ := blocks_iff (bs := f.blocks) (l := f.blocks) (k := 0) (d := [])
    have h3 := h1.2 ⟨h.kok, h.block⟩
    have h4 := h2 h3
    have a1 := h.pos
    have a2 := h.len
    have a3 := h.ins
    have a4 := h.params
    unfold funcF
    rw [if_neg (by omega), if_neg (by rw [count_eq _ _ (by omega) (by omega)]; omega), if_neg (by rw [h.name]; decide), if_neg (fun hn => hn h3), h4, List.nil_append]
    exact h.uses
end Go.SM
end
section
set_option linter.unusedVariables false
set_option linter.unusedSimpArgs false
namespace Go.SM
open Go.VL
def atF (f : SFunc) : List Int := placeF (reachL f) f.blocks.length
def reB (at_ : List Int) (b : SBlock) : SBlock := { b with term := { b.term with to := b.term.to.map fun e => ⟨gI at_ e.block, e.args⟩ } }
def pruneF (f : SFunc) : SFunc := ⟨f.name, (reachL f).map fun k => reB (atF f) (f.blocks[k.toNat]?.getD default)⟩
def reachN (f : SFunc) : List Nat := (List.range f.blocks.length).filter fun v => decide (v ∈ orderF f.blocks)
def rk (f : SFunc) (v : Nat) : Nat := (gI (atF f) v).toNat
theorem sorted_eq : ∀ {a b : List Int}, a.Pairwise (· < ·) → b.Pairwise (· < ·) → (∀ x, x ∈ a ↔ x ∈ b) → a = b
  | [], [], _, _, _ => rfl
  | [], y :: b, _, _, h => by have := (h y).2 (List.mem_cons_self ..); cases this
  | x :: a, [], _, _, h => by have := (h x).1 (List.mem_cons_self ..); cases this
  | x :: a, y :: b, ha, hb, h => by
    obtain ⟨a1, a2⟩ := List.pairwise_cons.1 ha
    obtain ⟨b1, b2⟩ := List.pairwise_cons.1 hb
    have hxy : x = y := by
      rcases List.mem_cons.1 ((h x).1 (List.mem_cons_self ..)) with e | e
      · exact e
      · rcases List.mem_cons.1 ((h y).2 (List.mem_cons_self ..)) with e2 | e2
        · exact e2.symm
        · have := b1 x e
          have := a1 y e2
          omega
    subst hxy
    rw [sorted_eq a2 b2 fun z => ?_]
    constructor
    · intro hz
      rcases List.mem_cons.1 ((h z).1 (List.mem_cons_of_mem _ hz)) with e | e
      · have := a1 z hz; omega
      · exact e
    · intro hz
      rcases List.mem_cons.1 ((h z).2 (List.mem_cons_of_mem _ hz)) with e | e
      · have := b1 z hz; omega
      · exact e
section
variable {f : SFunc} (ho : OrderOk f.blocks (orderF f.blocks))
include ho
theorem reachN_mem {v : Nat} : v ∈ reachN f ↔ v ∈ orderF f.blocks := by
  unfold reachN
  rw [List.mem_filter, List.mem_range, decide_eq_true_eq]
  exact ⟨fun h => h.2, fun h => ⟨ho.lt v h, h⟩⟩
omit ho in
theorem reachN_sorted : (reachN f).Pairwise (· < ·) := List.Pairwise.filter _ List.pairwise_lt_range
theorem reach_eq : reachL f = (reachN f).map fun k : Nat => (k : Int) := by
  refine sorted_eq ?_ ?_ fun x => ?_
  · have h1 := List.pairwise_mergeSort (le := fun (x y : Int) => decide (x ≤ y)) (fun a b c h1 h2 => by simp at h1 h2 ⊢; omega) (fun a b => by simp; omega) (ordZ f.blocks)
    have h2 : (reachL f).Nodup := (List.mergeSort_perm _ _).nodup_iff.2 (by
      unfold ordZ
      rw [List.Nodup, List.pairwise_map]
      exact ho.nodup.imp fun hne e => hne (by omega))
    refine (List.pairwise_and_iff.2 ⟨h1, h2⟩).imp fun ⟨h3, h4⟩ => ?_
    have := of_decide_eq_true h3
    omega
  · rw [List.pairwise_map]
    exact reachN_sorted.imp fun h => by omega
  · rw [List.mem_map]
    constructor
    · intro hx
      have hx2 := hx
      rw [reachL, List.mem_mergeSort, ordZ, List.mem_map] at hx2
      obtain ⟨v, hv, rfl⟩ := hx2
      exact ⟨v, (reachN_mem ho).2 hv, rfl⟩
    · rintro ⟨v, hv, rfl⟩
      exact reach_mem.2 ((reachN_mem ho).1 hv)
theorem at_of {v : Nat} (hv : v < f.blocks.length) : gI (atF f) v = -1 ∧ v ∉ orderF f.blocks ∨ v ∈ orderF f.blocks ∧ gI (atF f) v = (rk f v : Nat) ∧ (reachN f)[rk f v]? = some v := by
  have hg : (atF f)[v]? = some (idxOf (fun x => decide ((v : Int) = x)) (reachL f)) := by
    unfold atF placeF
    rw [List.getElem?_map, List.getElem?_range hv]
    rfl
  have e := gI_get ho hg
  rw [reach_eq ho] at e
  rcases idx_nat (l := reachN f) (v := v) with ⟨h1, h2⟩ | ⟨i, h1, h2⟩
  · exact .inl ⟨by rw [e]; exact h1, fun h => h2 ((reachN_mem ho).2 h)⟩
  · have e2 : gI (atF f) v = (i : Nat) := by rw [e]; exact h1
    have e3 : rk f v = i := by unfold rk; rw [e2, Int.toNat_natCast]
    exact .inr ⟨(reachN_mem ho).1 (List.mem_of_getElem? h2), by rw [e3]; exact e2, by rw [e3]; exact h2⟩
theorem rk_get {v : Nat} (hv : v ∈ orderF f.blocks) : gI (atF f) v = (rk f v : Nat) ∧ (reachN f)[rk f v]? = some v := by
  rcases at_of ho (ho.lt v hv) with ⟨_, h⟩ | ⟨_, h⟩
  · exact absurd hv h
  · exact h
omit ho in
theorem sorted_inj {l : List Nat} (h : l.Pairwise (· < ·)) {i j v : Nat} (hi : l[i]? = some v) (hj : l[j]? = some v) : i = j := by
  have hn : l.Nodup := h.imp fun h e => by omega
  obtain ⟨a1, a2⟩ := List.getElem?_eq_some_iff.1 hi
  obtain ⟨b1, b2⟩ := List.getElem?_eq_some_iff.1 hj
  exact (List.getElem_inj hn).1 (a2.trans b2.symm)
theorem rk_of {i v : Nat} (h : (reachN f)[i]? = some v) : v ∈ orderF f.blocks ∧ rk f v = i := by
  have hv := (reachN_mem ho).1 (List.mem_of_getElem? h)
  exact ⟨hv, sorted_inj reachN_sorted (rk_get ho hv).2 h⟩
theorem rk_inj {v w : Nat} (hv : v ∈ orderF f.blocks) (hw : w ∈ orderF f.blocks) (h : rk f v = rk f w) : v = w := by
  have h1 := (rk_get ho hv).2
  rw [h, (rk_get ho hw).2] at h1
  injection h1 with h1
  exact h1.symm
theorem rk_zero : rk f 0 = 0 := by
  have h0 := zero_mem ho
  have h1 := (rk_get ho h0).2
  refine Classical.byContradiction fun hne => ?_
  obtain ⟨a1, a2⟩ := List.getElem?_eq_some_iff.1 h1
  have h2 := List.pairwise_iff_getElem.1 (reachN_sorted (f := f)) 0 (rk f 0) (by omega) a1 (by omega)
  omega
omit ho in
theorem prune_len : (pruneF f).blocks.length = (reachL f).length := by unfold pruneF; rw [List.length_map]
theorem prune_blocks : (pruneF f).blocks = ((reachN f).map fun v => f.blocks[v]?.getD default).map (reB (atF f)) := by
  unfold pruneF
  rw [reach_eq ho, List.map_map, List.map_map]
  refine List.map_congr_left fun v _ => ?_
  simp
theorem prune_get {i v : Nat} {b : SBlock} (h : (reachN f)[i]? = some v) (hb : f.blocks[v]? = some b) : (pruneF f).blocks[i]? = some (reB (atF f) b) := by
  rw [prune_blocks ho, List.getElem?_map, List.getElem?_map, h]
  simp [hb]
theorem prune_at {v : Nat} {b : SBlock} (hv : v ∈ orderF f.blocks) (hb : f.blocks[v]? = some b) : (pruneF f).blocks[rk f v]? = some (reB (atF f) b) := prune_get ho (rk_get ho hv).2 hb
theorem prune_of {i : Nat} {c : SBlock} (h : (pruneF f).blocks[i]? = some c) : ∃ v b, v ∈ orderF f.blocks ∧ rk f v = i ∧ f.blocks[v]? = some b ∧ c = reB (atF f) b := by
  have hi := (List.getElem?_eq_some_iff.1 h).1
  have hl : (pruneF f).blocks.length = (reachN f).length := by rw [prune_blocks ho]; simp
  obtain ⟨v, hv⟩ : ∃ v, (reachN f)[i]? = some v := ⟨_, List.getElem?_eq_getElem (by omega)⟩
  obtain ⟨hvo, hr⟩ := rk_of ho hv
  obtain ⟨b, hb⟩ : ∃ b, f.blocks[v]? = some b := ⟨_, List.getElem?_eq_getElem (ho.lt v hvo)⟩
  rw [prune_get ho hv hb] at h
  injection h with h
  exact ⟨v, b, hvo, hr, hb, h.symm⟩
theorem prune_edge {p v : Nat} (hp : p ∈ orderF f.blocks) (he : Edge f.blocks p v) (hE : ∀ b ∈ f.blocks, ∀ e ∈ b.term.to, 1 ≤ e.block ∧ e.block < f.blocks.length) : Edge (pruneF f).blocks (rk f p) (rk f v) := by
  obtain ⟨e, he, hev⟩ := he
  obtain ⟨b, hb⟩ : ∃ b, f.blocks[p]? = some b := ⟨_, List.getElem?_eq_getElem (ho.lt p hp)⟩
  rw [toAt_get hb] at he
  have hem := hE b (List.mem_of_getElem? hb) e he
  refine ⟨⟨gI (atF f) e.block, e.args⟩, ?_, ?_⟩
  · rw [toAt_get (prune_at ho hp hb)]
    exact List.mem_map.2 ⟨e, he, rfl⟩
  · unfold rk
    rw [show (v : Int) = e.block by omega]
theorem edge_prune {i j : Nat} (he : Edge (pruneF f).blocks i j) (hE : ∀ b ∈ f.blocks, ∀ e ∈ b.term.to, 1 ≤ e.block ∧ e.block < f.blocks.length) : ∃ p v, p ∈ orderF f.blocks ∧ v ∈ orderF f.blocks ∧ rk f p = i ∧ rk f v = j ∧ Edge f.blocks p v := by
  obtain ⟨x, hx, hxj⟩ := he
  obtain ⟨c, hc⟩ : ∃ c, (pruneF f).blocks[i]? = some c := by
    unfold toAt at hx
    cases hb : (pruneF f).blocks[i]? with
    | none => rw [hb] at hx; cases hx
    | some c => exact ⟨c, rfl⟩
  obtain ⟨p, b, hp, hr, hb, rfl⟩ := prune_of ho hc
  rw [toAt_get hc] at hx
  obtain ⟨e, he, rfl⟩ := List.mem_map.1 hx
  have hem := hE b (List.mem_of_getElem? hb) e he
  have hedge : Edge f.blocks p e.block.toNat := ⟨e, by rw [toAt_get hb]; exact he, rfl⟩
  have hv := edge_mem ho hp hedge
  refine ⟨p, e.block.toNat, hp, hv, hr, ?_, hedge⟩
  rw [← hxj]
  unfold rk
  rw [show ((e.block.toNat : Nat) : Int) = e.block by omega]
theorem prune_way (hE : ∀ b ∈ f.blocks, ∀ e ∈ b.term.to, 1 ≤ e.block ∧ e.block < f.blocks.length) {l : List Nat} {v : Nat} (hw : Way f.blocks l v) : v ∈ orderF f.blocks ∧ (∀ y ∈ l, y ∈ orderF f.blocks) ∧ Way (pruneF f).blocks (l.map (rk f)) (rk f v) := by
  induction hw with
  | start => exact ⟨zero_mem ho, (fun y hy => absurd hy (by simp)), (by rw [rk_zero ho]; exact .start : Way (pruneF f).blocks ([].map (rk f)) (rk f 0))⟩
  | @step l p k hw he ih =>
    obtain ⟨h1, h2, h3⟩ := ih
    refine ⟨edge_mem ho h1 he, fun y hy => ?_, .step h3 (prune_edge ho h1 he hE)⟩
    rcases List.mem_cons.1 hy with rfl | hy
    · exact h1
    · exact h2 y hy
theorem way_prune (hE : ∀ b ∈ f.blocks, ∀ e ∈ b.term.to, 1 ≤ e.block ∧ e.block < f.blocks.length) {l : List Nat} {i : Nat} (hw : Way (pruneF f).blocks l i) : ∃ l0 v, Way f.blocks l0 v ∧ l = l0.map (rk f) ∧ rk f v = i := by
  induction hw with
  | start => exact ⟨[], 0, .start, rfl, rk_zero ho⟩
  | @step l p k hw he ih =>
    obtain ⟨l0, v, h1, rfl, rfl⟩ := ih
    obtain ⟨p, w, hp, hw2, e1, e2, hed⟩ := edge_prune ho he hE
    have hpv := rk_inj ho hp (prune_way ho hE h1).1 e1
    subst hpv
    exact ⟨p :: l0, w, .step h1 hed, rfl, e2⟩
theorem prune_doms (hE : ∀ b ∈ f.blocks, ∀ e ∈ b.term.to, 1 ≤ e.block ∧ e.block < f.blocks.length) {x v : Nat} (hx : x ∈ orderF f.blocks) (hv : v ∈ orderF f.blocks) : Doms (pruneF f).blocks (rk f x) (rk f v) ↔ Doms f.blocks x v := by
  constructor
  · intro hd l hw
    obtain ⟨_, hl, hw2⟩ := prune_way ho hE hw
    rcases hd _ hw2 with e | e
    · exact .inl (rk_inj ho hx hv e)
    · obtain ⟨y, hy, e⟩ := List.mem_map.1 e
      rw [← rk_inj ho (hl y hy) hx e]
      exact .inr hy
  · intro hd l hw
    obtain ⟨l0, w, h1, rfl, e⟩ := way_prune ho hE hw
    have := rk_inj ho (prune_way ho hE h1).1 hv e
    subst this
    rcases hd _ h1 with e | e
    · exact .inl (by rw [e])
    · exact .inr (List.mem_map.2 ⟨_, e, rfl⟩)
omit ho in
theorem base_sub : ((reachN f).map fun v => f.blocks[v]?.getD default).Sublist f.blocks := by
  have h1 : ((reachN f).map fun v => f.blocks[v]?.getD default).Sublist ((List.range f.blocks.length).map fun v => f.blocks[v]?.getD default) := (List.filter_sublist ..).map _
  have h2 : ((List.range f.blocks.length).map fun v => f.blocks[v]?.getD default) = f.blocks := by
    apply List.ext_getElem
    · simp
    · intro i a b
      simp [List.getElem?_eq_getElem b]
  rw [h2] at h1
  exact h1
end
theorem insN_sub : ∀ {a b : List SBlock}, a.Sublist b → insN a ≤ insN b := fun h => by
  induction h with
  | slnil => exact Nat.le_refl _
  | cons a _ ih => rw [insN]; omega
  | cons_cons a _ ih => rw [insN, insN]; omega
theorem insN_re (at_ : List Int) : ∀ l : List SBlock, insN (l.map (reB at_)) = insN l
  | [] => rfl
  | b :: l => by rw [List.map_cons, insN, insN, insN_re at_ l]; rfl
theorem edgesF_iff {bs : List SBlock} : ∀ {l : List SEdge}, (∀ e ∈ l, 1 ≤ e.block ∧ e.block < bs.length ∧ e.args.length = (paramsOf bs e.block).length) → edgesF bs l = 0
  | [], _ => rfl
  | e :: l, h => by
    have h1 := h e (List.mem_cons_self ..)
    rw [edgesF, if_neg (by rw [wi_iff.2 ⟨h1.1, by omega⟩]; decide), if_neg (fun hn => hn h1.2.2)]
    exact edgesF_iff fun x hx => h x (List.mem_cons_of_mem _ hx)
theorem usesF_iff {d : Defs} {o : Dom} : ∀ {l : List SBlock} {k : Nat}, usesF d o k l = 0 ↔ ∀ (j : Nat) (b : SBlock), l[j]? = some b → usesIns d o (k + j) 0 b.ins = true ∧ usedF b.term (fineF d o (k + j) b.ins.length) = true
  | [], k => by simp [usesF]
  | c :: l, k => by
    rw [usesF]
    constructor
    · intro h j b hb
      split at h
      · cases h
      · rename_i h1
        split at h
        · cases h
        · rename_i h2
          cases j with
          | zero =>
            have hb : c = b := by simpa using hb
            subst hb
            exact ⟨by simpa using h1, by simpa using h2⟩
          | succ j =>
            have := usesF_iff.1 h j b (by simpa using hb)
            rwa [show k + 1 + j = k + (j + 1) by omega] at this
    · intro h
      have h0 := h 0 c rfl
      rw [Nat.add_zero] at h0
      rw [if_neg (by rw [h0.1]; decide), if_neg (by rw [h0.2]; decide)]
      exact usesF_iff.2 fun j b hb => by
        have := h (j + 1) b (by simpa using hb)
        rwa [show k + (j + 1) = k + 1 + j by omega] at this
theorem usesIns_imp {d d' : Defs} {o o' : Dom} {k k' : Nat} (h : ∀ n u, fineF d o k n u = true → fineF d' o' k' n u = true) : ∀ {is : List SIns} {n : Int}, usesIns d o k n is = true → usesIns d' o' k' n is = true
  | [], n, _ => rfl
  | i :: is, n, hu => by
    rw [usesIns, Bool.and_eq_true, List.all_eq_true] at hu ⊢
    exact ⟨fun u hu2 => h n u (hu.1 u hu2), usesIns_imp h hu.2⟩
theorem used_re {at_ : List Int} {t : STerm} {use use' : Int → Bool} (h : ∀ u, use u = true → use' u = true) (hu : usedF t use = true) : usedF { t with to := t.to.map fun e => ⟨gI at_ e.block, e.args⟩ } use' = true := by
  unfold usedF at hu ⊢
  dsimp only
  split at hu
  · cases hu
  · rename_i h1
    rw [if_neg (fun h2 => h1 ⟨h2.1, by
      cases hc : use t.arg with
      | false => rfl
      | true => rw [h _ hc] at h2; exact absurd h2.2 (by decide)⟩)]
    rw [List.all_eq_true] at hu ⊢
    intro e he
    obtain ⟨x, hx, rfl⟩ := List.mem_map.1 he
    have := hu x hx
    rw [List.all_eq_true] at this ⊢
    exact fun u hu2 => h u (this u hu2)
theorem flat_sub {α β : Type} {g : α → List β} {a b : List α} (h : a.Sublist b) : (a.flatMap g).Sublist (b.flatMap g) := by
  induction h with
  | slnil => exact .slnil
  | cons a _ ih => rw [List.flatMap_cons]; exact ih.trans (List.sublist_append_right ..)
  | cons_cons a _ ih => rw [List.flatMap_cons, List.flatMap_cons]; exact (List.Sublist.refl _).append ih
theorem mem_zero_key {d : Defs} : (∀ x ∈ keys d, x ∉ keys ([] : Defs)) := fun x _ h => by cases h
theorem prune_ok {f : SFunc} (h0 : funcF f = 0) : funcF (pruneF f) = 0 := by
  have hok := func_ok h0
  have ho := order_ok hok.pos hok.edges
  have hE := hok.edges
  have fi := func_iff.1 h0
  have hz := zero_mem ho
  have hlen : (pruneF f).blocks.length ≤ f.blocks.length := by
    rw [prune_blocks ho, List.length_map]
    exact (base_sub (f := f)).length_le
  have hgp : ∀ v : Nat, v ∈ orderF f.blocks → rk f v < (pruneF f).blocks.length := fun v hv => by
    obtain ⟨b, hb⟩ : ∃ b, f.blocks[v]? = some b := ⟨_, List.getElem?_eq_getElem (ho.lt v hv)⟩
    exact (List.getElem?_eq_some_iff.1 (prune_at ho hv hb)).1
  have hpos : 0 < (pruneF f).blocks.length := by have := hgp 0 hz; omega
  have hpar : ∀ v : Nat, v ∈ orderF f.blocks → paramsOf (pruneF f).blocks (rk f v) = paramsOf f.blocks v := fun v hv => by
    obtain ⟨b, hb⟩ : ∃ b, f.blocks[v]? = some b := ⟨_, List.getElem?_eq_getElem (ho.lt v hv)⟩
    unfold paramsOf
    rw [Int.toNat_natCast, Int.toNat_natCast, prune_at ho hv hb, hb]
    rfl
  have hblk : ∀ c ∈ (pruneF f).blocks, blockOk (pruneF f).blocks c := fun c hc => by
    obtain ⟨i, hi⟩ := List.getElem?_of_mem hc
    obtain ⟨v, b, hv, hr, hb, rfl⟩ := prune_of ho hi
    obtain ⟨b1, b2⟩ := fi.block b (List.mem_of_getElem? hb)
    refine ⟨b1, ?_⟩
    have he := endF_ok b2
    unfold endF at b2 ⊢
    have hsh : shapeF (reB (atF f) b).term = shapeF b.term := by
      unfold shapeF reB
      simp only [List.length_map]
    rw [hsh, if_neg (by rw [he.shape]; decide)]
    change (if 256 < (b.term.cases.length : Int) then 2 else if b.term.kind = 4 ∧ wi b.term.n 1 6 = false then 4 else if casesF [] b.term.cases ≠ 0 then casesF [] b.term.cases else edgesF (pruneF f).blocks (b.term.to.map fun e => ⟨gI (atF f) e.block, e.args⟩)) = 0
    rw [if_neg (by rw [he.shape]; decide)] at b2
    split at b2
    · cases b2
    · rename_i h2
      rw [if_neg h2]
      split at b2
      · cases b2
      · rename_i h3
        rw [if_neg h3]
        rw [if_neg (fun hn => hn he.cases)]
        refine edgesF_iff fun e hem => ?_
        obtain ⟨x, hx, rfl⟩ := List.mem_map.1 hem
        obtain ⟨x1, x2, x3⟩ := he.edges x hx
        have hedge : Edge f.blocks v x.block.toNat := ⟨x, by rw [toAt_get hb]; exact hx, rfl⟩
        have hxo := edge_mem ho hv hedge
        obtain ⟨g1, g2⟩ := rk_get ho hxo
        rw [show ((x.block.toNat : Nat) : Int) = x.block by omega] at g1
        have hne : rk f x.block.toNat ≠ 0 := fun e => by
          have := rk_inj ho hxo hz (by rw [e, rk_zero ho])
          omega
        have hlt := hgp _ hxo
        have hp := hpar _ hxo
        dsimp only
        rw [g1]
        refine ⟨by omega, by omega, ?_⟩
        rw [hp, x3, show ((x.block.toNat : Nat) : Int) = x.block by omega]
  have hEg : ∀ b ∈ (pruneF f).blocks, ∀ e ∈ b.term.to, 1 ≤ e.block ∧ e.block < (pruneF f).blocks.length := fun b hb e he => by
    have := (endF_ok (hblk b hb).2).edges e he
    exact ⟨this.1, this.2.1⟩
  have hkeys : keys (defsL 0 (pruneF f).blocks) = ((reachN f).map fun v => f.blocks[v]?.getD default).flatMap fun b => (dB b).map (·.1) := by
    rw [keysL, prune_blocks ho, List.flatMap_map]
    rfl
  have hsub : (keys (defsL 0 (pruneF f).blocks)).Sublist (keys (defsL 0 f.blocks)) := by
    rw [hkeys, keysL]
    exact flat_sub (base_sub (f := f))
  have hkok : KOk [] (defsL 0 (pruneF f).blocks) := ⟨fun x hx => fi.kok.wi x (hsub.subset hx), fi.kok.nodup.sublist hsub, mem_zero_key⟩
  have hlen128 := hok.len
  refine func_iff.2 ⟨hpos, by omega, ?_, ?_, fi.name, hkok, hblk, ?_⟩
  · have h1 := insN_sub (base_sub (f := f))
    have h2 := fi.ins
    rw [prune_blocks ho, insN_re]
    omega
  · have h1 := hpar 0 hz
    rw [rk_zero ho] at h1
    have h2 := fi.params
    rw [show ((0 : Nat) : Int) = 0 from rfl] at h1
    rw [h1]
    exact h2
  · refine usesF_iff.2 fun i c hi => ?_
    obtain ⟨v, b, hv, rfl, hb, rfl⟩ := prune_of ho hi
    have hu := usesF_iff.1 fi.uses v b hb
    rw [Nat.zero_add] at hu ⊢
    obtain ⟨l, hw⟩ := (order_iff hok).1 hv
    have hfine : ∀ n u, fineF (defsL 0 f.blocks) (domF f.blocks) v n u = true → fineF (defsL 0 (pruneF f).blocks) (domF (pruneF f).blocks) (rk f v) n u = true := fun n u hf => by
      unfold fineF at hf
      cases hg : dget (defsL 0 f.blocks) u with
      | none => rw [hg] at hf; cases hf
      | some p =>
        rw [hg] at hf
        dsimp only at hf
        obtain ⟨j, bj, hbj, hp1, hp2⟩ := defsL_at.1 ((dget_at fi.kok.nodup).1 hg)
        obtain ⟨p1, q⟩ := p
        have hp1 : p1 = (0 : Int) + j := hp1
        rw [Int.zero_add] at hp1
        subst hp1
        have hp2 : (u, q) ∈ dB bj := hp2
        have hseen : (domF f.blocks).seen.has v = true := (seen_iff hok.pos hok.len hE (by have := ho.lt v hv; omega)).2 ⟨l, hw⟩
        have hcase : j ∈ orderF f.blocks ∧ (j = v ∧ q ≤ n ∨ j ≠ v ∧ Doms f.blocks j v) := by
          rw [hseen] at hf
          simp only [Bool.not_true, Bool.or_false, Bool.or_eq_true, Bool.and_eq_true, decide_eq_true_eq, Int.toNat_natCast] at hf
          rcases hf with ⟨h1, h2⟩ | ⟨h1, h2⟩
          · have : j = v := by omega
            subst this
            exact ⟨hv, .inl ⟨rfl, h2⟩⟩
          · have hd := (has_iff hok.pos hok.len hE ⟨l, hw⟩ (ho.lt v hv) (List.getElem?_eq_some_iff.1 hbj).1).1 h2
            have hjo : j ∈ orderF f.blocks := by
              rcases hd l hw with e | e
              · rw [e]; exact hv
              · exact (prune_way ho hE hw).2.1 j e
            exact ⟨hjo, .inr ⟨fun e => h1 (by rw [e]), hd⟩⟩
        obtain ⟨hjo, hcase⟩ := hcase
        have hgj := prune_at ho hjo hbj
        have hg2 : dget (defsL 0 (pruneF f).blocks) u = some (((rk f j : Nat) : Int), q) := (dget_at hkok.nodup).2 (defsL_at.2 ⟨rk f j, _, hgj, by simp, hp2⟩)
        unfold fineF
        rw [hg2]
        dsimp only
        rcases hcase with ⟨rfl, h2⟩ | ⟨h1, h2⟩
        · simp [h2]
        · have hne : ((rk f j : Nat) : Int) ≠ (rk f v : Nat) := fun e => h1 (rk_inj ho hjo hv (by omega))
          have hh : ((domF (pruneF f).blocks).at (rk f v)).has (rk f j) = true := (has_iff hpos (by omega) hEg ⟨_, (prune_way ho hE hw).2.2⟩ (hgp v hv) (hgp j hjo)).2 ((prune_doms ho hE hjo hv).2 h2)
          rw [Int.toNat_natCast, hh]
          simp [hne]
    exact ⟨usesIns_imp hfine hu.1, used_re (hfine _) hu.2⟩
end Go.SM
end
section
set_option linter.unusedVariables false
set_option linter.unusedSimpArgs false
namespace Go.SM
open Go.VL
end Go.SM
end
section
set_option linter.unusedVariables false
set_option linter.unusedSimpArgs false
namespace Go.SM
open Go.VL
def setsF (o : List Bool) (l : List Int) : List Bool := l.foldl (fun s a => s.set a.toNat true) o
def backI : List SIns → List Bool → List Bool
  | [], s => s
  | i :: l, s => backI l (setsF (s.set i.to.toNat false) i.args)
def backF (b : SBlock) (s : List Bool) : List Bool := backI b.ins.reverse s
def edgeV1 (ps : List Int) : Nat → List Bool → List Bool → List Bool
  | _, [], o => o
  | v, is :: l, o => edgeV1 ps (v + 1) l (if (is && !(ps.any fun x => decide ((v : Int) = x))) = true then o.set v true else o)
abbrev Sets := List (Option (List Bool))
def setAt (s : Sets) (k : Nat) : List Bool := (s[k]?.getD none).getD []
def edgesV (bs : List SBlock) (first : Sets) : List SEdge → List Bool → List Bool
  | [], o => o
  | e :: l, o => edgesV bs first l (edgeV1 (paramsOf bs e.block) 0 (setAt first e.block.toNat) o)
def argsV : List SEdge → List Bool → List Bool
  | [], o => o
  | e :: l, o => argsV l (setsF o e.args)
def termV1 (t : STerm) (o : List Bool) : List Bool := if t.kind ≠ 1 ∧ t.kind ≠ 4 then o.set t.arg.toNat true else o
def lastF (bs : List SBlock) (many : Nat) (t : STerm) (first : Sets) : List Bool := argsV t.to (termV1 t (edgesV bs first t.to (List.replicate many false)))
structure LState where
  behind : Sets
  first : Sets
  again : Bool
def liveNode (bs : List SBlock) (many : Nat) (s : LState) (k : Nat) : LState :=
  let b := bs[k]?.getD default
  let nx := lastF bs many b.term s.first
  if s.behind[k]?.getD none = some nx then s else ⟨s.behind.set k (some nx), s.first.set k (some (backF b nx)), true⟩
def livePass (bs : List SBlock) (many : Nat) : Nat → LState → LState
  | 0, s => s
  | k + 1, s => livePass bs many k (liveNode bs many s k)
def liveIter (bs : List SBlock) (many : Nat) : Nat → LState → LState
  | 0, s => s
  | n + 1, s => if s.again then liveIter bs many n (livePass bs many bs.length { s with again := false }) else s
def liveStart (n : Nat) : LState := ⟨List.replicate n none, List.replicate n none, true⟩
def liveF (bs : List SBlock) (many : Nat) : LState := liveIter bs many (bs.length * (many + 1) + 2) (liveStart bs.length)
def Mem1 (s : List Bool) (v : Nat) : Prop := s[v]? = some true
theorem mem_set_true {s : List Bool} {k v : Nat} : Mem1 (s.set k true) v ↔ Mem1 s v ∨ v = k ∧ v < s.length := by
  unfold Mem1
  rw [List.getElem?_set]
  by_cases h : k = v
  · subst h
    rw [if_pos rfl]
    by_cases hl : k < s.length
    · rw [if_pos hl]; simp [hl]
    · rw [if_neg hl, List.getElem?_eq_none (by omega)]; simp [hl]
  · rw [if_neg h]
    constructor
    · exact .inl
    · rintro (h1 | ⟨h1, _⟩)
      · exact h1
      · exact absurd h1.symm h
theorem mem_set_false {s : List Bool} {k v : Nat} : Mem1 (s.set k false) v ↔ Mem1 s v ∧ v ≠ k := by
  unfold Mem1
  rw [List.getElem?_set]
  by_cases h : k = v
  · subst h
    rw [if_pos rfl]
    split <;> simp
  · rw [if_neg h]
    simp [Ne.symm h]
theorem sets_len : ∀ (l : List Int) (o : List Bool), (setsF o l).length = o.length
  | [], o => rfl
  | a :: l, o => by
    show (setsF (o.set a.toNat true) l).length = _
    rw [sets_len, List.length_set]
theorem mem_sets {v : Nat} : ∀ (l : List Int) (o : List Bool), Mem1 (setsF o l) v ↔ Mem1 o v ∨ v < o.length ∧ ∃ a ∈ l, a.toNat = v
  | [], o => by simp [setsF]
  | a :: l, o => by
    show Mem1 (setsF (o.set a.toNat true) l) v ↔ _
    rw [mem_sets, mem_set_true, List.length_set]
    constructor
    · rintro ((h | ⟨h, h2⟩) | ⟨h, b, hb, e⟩)
      · exact .inl h
      · exact .inr ⟨h2, a, List.mem_cons_self .., h.symm⟩
      · exact .inr ⟨h, b, List.mem_cons_of_mem _ hb, e⟩
    · rintro (h | ⟨h, b, hb, e⟩)
      · exact .inl (.inl h)
      · rcases List.mem_cons.1 hb with rfl | hb
        · exact .inl (.inr ⟨e.symm, h⟩)
        · exact .inr ⟨h, b, hb, e⟩
theorem back_len : ∀ (l : List SIns) (s : List Bool), (backI l s).length = s.length
  | [], s => rfl
  | i :: l, s => by rw [backI, back_len, sets_len, List.length_set]
theorem edge1_len (ps : List Int) : ∀ (l : List Bool) (v : Nat) (o : List Bool), (edgeV1 ps v l o).length = o.length
  | [], v, o => rfl
  | is :: l, v, o => by
    rw [edgeV1, edge1_len]
    split
    · rw [List.length_set]
    · rfl
theorem edges_len (bs : List SBlock) (first : Sets) : ∀ (l : List SEdge) (o : List Bool), (edgesV bs first l o).length = o.length
  | [], o => rfl
  | e :: l, o => by rw [edgesV, edges_len, edge1_len]
theorem args_len : ∀ (l : List SEdge) (o : List Bool), (argsV l o).length = o.length
  | [], o => rfl
  | e :: l, o => by rw [argsV, args_len, sets_len]
theorem term1_len (t : STerm) (o : List Bool) : (termV1 t o).length = o.length := by
  unfold termV1
  split
  · rw [List.length_set]
  · rfl
theorem last_len (bs : List SBlock) (many : Nat) (t : STerm) (first : Sets) : (lastF bs many t first).length = many := by
  rw [lastF, args_len, term1_len, edges_len, List.length_replicate]
theorem mem_edge1 (ps : List Int) {v : Nat} : ∀ (l : List Bool) (w : Nat) (o : List Bool), Mem1 (edgeV1 ps w l o) v ↔ Mem1 o v ∨ v < o.length ∧ w ≤ v ∧ Mem1 l (v - w) ∧ (v : Int) ∉ ps
  | [], w, o => by simp [edgeV1, Mem1]
  | is :: l, w, o => by
    rw [edgeV1, mem_edge1]
    have hany : (ps.any fun x => decide ((w : Int) = x)) = true ↔ (w : Int) ∈ ps := by
      rw [List.any_eq_true]
      constructor
      · rintro ⟨x, hx, e⟩; rwa [of_decide_eq_true e]
      · intro h; exact ⟨_, h, decide_eq_true rfl⟩
    have step : ∀ {u : Nat}, Mem1 (is :: l) u ↔ (u = 0 ∧ is = true) ∨ (1 ≤ u ∧ Mem1 l (u - 1)) := fun {u} => by
      unfold Mem1
      cases u with
      | zero => simp
      | succ u => simp
    rw [step]
    by_cases hc : (is && !(ps.any fun x => decide ((w : Int) = x))) = true
    · rw [if_pos hc, mem_set_true, List.length_set]
      rw [Bool.and_eq_true, Bool.not_eq_true', ← Bool.not_eq_true, hany] at hc
      constructor
      · rintro ((h | ⟨rfl, h⟩) | ⟨h1, h2, h3, h4⟩)
        · exact .inl h
        · exact .inr ⟨h, Nat.le_refl _, .inl ⟨by omega, hc.1⟩, hc.2⟩
        · exact .inr ⟨h1, by omega, .inr ⟨by omega, by rwa [show v - w - 1 = v - (w + 1) by omega]⟩, h4⟩
      · rintro (h | ⟨h1, h2, h3 | h3, h4⟩)
        · exact .inl (.inl h)
        · exact .inl (.inr ⟨by omega, h1⟩)
        · exact .inr ⟨h1, by omega, by rw [show v - (w + 1) = v - w - 1 by omega]; exact h3.2, h4⟩
    · rw [if_neg hc]
      constructor
      · rintro (h | ⟨h1, h2, h3, h4⟩)
        · exact .inl h
        · exact .inr ⟨h1, by omega, .inr ⟨by omega, by rwa [show v - w - 1 = v - (w + 1) by omega]⟩, h4⟩
      · rintro (h | ⟨h1, h2, h3 | h3, h4⟩)
        · exact .inl h
        · exfalso
          have : v = w := by omega
          subst this
          refine hc ?_
          rw [Bool.and_eq_true, Bool.not_eq_true', ← Bool.not_eq_true, hany]
          exact ⟨h3.2, h4⟩
        · exact .inr ⟨h1, by omega, by rw [show v - (w + 1) = v - w - 1 by omega]; exact h3.2, h4⟩
theorem mem_edges (bs : List SBlock) (first : Sets) {v : Nat} : ∀ (l : List SEdge) (o : List Bool), Mem1 (edgesV bs first l o) v ↔ Mem1 o v ∨ v < o.length ∧ ∃ e ∈ l, Mem1 (setAt first e.block.toNat) v ∧ (v : Int) ∉ paramsOf bs e.block
  | [], o => by simp [edgesV]
  | e :: l, o => by
    rw [edgesV, mem_edges, mem_edge1, edge1_len, Nat.sub_zero]
    constructor
    · rintro ((h | ⟨h1, _, h3, h4⟩) | ⟨h1, x, hx, h2⟩)
      · exact .inl h
      · exact .inr ⟨h1, e, List.mem_cons_self .., h3, h4⟩
      · exact .inr ⟨h1, x, List.mem_cons_of_mem _ hx, h2⟩
    · rintro (h | ⟨h1, x, hx, h2⟩)
      · exact .inl (.inl h)
      · rcases List.mem_cons.1 hx with rfl | hx
        · exact .inl (.inr ⟨h1, Nat.zero_le _, h2.1, h2.2⟩)
        · exact .inr ⟨h1, x, hx, h2⟩
theorem mem_args {v : Nat} : ∀ (l : List SEdge) (o : List Bool), Mem1 (argsV l o) v ↔ Mem1 o v ∨ v < o.length ∧ ∃ e ∈ l, ∃ a ∈ e.args, a.toNat = v
  | [], o => by simp [argsV]
  | e :: l, o => by
    rw [argsV, mem_args, mem_sets, sets_len]
    constructor
    · rintro ((h | ⟨h1, h2⟩) | ⟨h1, x, hx, h2⟩)
      · exact .inl h
      · exact .inr ⟨h1, e, List.mem_cons_self .., h2⟩
      · exact .inr ⟨h1, x, List.mem_cons_of_mem _ hx, h2⟩
    · rintro (h | ⟨h1, x, hx, h2⟩)
      · exact .inl (.inl h)
      · rcases List.mem_cons.1 hx with rfl | hx
        · exact .inl (.inr ⟨h1, h2⟩)
        · exact .inr ⟨h1, x, hx, h2⟩
def TermUse (t : STerm) (v : Nat) : Prop := (t.kind ≠ 1 ∧ t.kind ≠ 4) ∧ t.arg.toNat = v ∨ ∃ e ∈ t.to, ∃ a ∈ e.args, a.toNat = v
theorem mem_last (bs : List SBlock) (many : Nat) (t : STerm) (first : Sets) (v : Nat) : Mem1 (lastF bs many t first) v ↔ v < many ∧ (TermUse t v ∨ ∃ e ∈ t.to, Mem1 (setAt first e.block.toNat) v ∧ (v : Int) ∉ paramsOf bs e.block) := by
  rw [lastF, mem_args, term1_len, edges_len, List.length_replicate]
  have h0 : ¬ Mem1 (List.replicate many false) v := by
    unfold Mem1
    rw [List.getElem?_replicate]
    split <;> simp
  have ht : Mem1 (termV1 t (edgesV bs first t.to (List.replicate many false))) v ↔ Mem1 (edgesV bs first t.to (List.replicate many false)) v ∨ (t.kind ≠ 1 ∧ t.kind ≠ 4) ∧ t.arg.toNat = v ∧ v < many := by
    unfold termV1
    split
    · rename_i hc
      rw [mem_set_true, edges_len, List.length_replicate]
      constructor
      · rintro (h | ⟨h1, h2⟩)
        · exact .inl h
        · exact .inr ⟨hc, h1.symm, h2⟩
      · rintro (h | ⟨_, h1, h2⟩)
        · exact .inl h
        · exact .inr ⟨h1.symm, h2⟩
    · rename_i hc
      constructor
      · exact .inl
      · rintro (h | ⟨h, _⟩)
        · exact h
        · exact absurd h hc
  rw [ht, mem_edges, List.length_replicate]
  unfold TermUse
  constructor
  · rintro (((h | ⟨h1, h2⟩) | ⟨h1, h2, h3⟩) | ⟨h1, h2⟩)
    · exact absurd h h0
    · exact ⟨h1, .inr h2⟩
    · exact ⟨h3, .inl (.inl ⟨h1, h2⟩)⟩
    · exact ⟨h1, .inl (.inr h2)⟩
  · rintro ⟨h1, (⟨h2, h3⟩ | h2) | h2⟩
    · exact .inl (.inr ⟨h2, h3, h1⟩)
    · exact .inr ⟨h1, h2⟩
    · exact .inl (.inl (.inr ⟨h1, h2⟩))
def Exp (l : List SIns) (v : Nat) : Prop := ∃ (j : Nat) (i : SIns), l[j]? = some i ∧ (∃ a ∈ i.args, a.toNat = v) ∧ ∀ (j' : Nat) (x : SIns), j' < j → l[j']? = some x → x.to.toNat ≠ v
theorem Exp.append {l : List SIns} {v : Nat} (h : Exp l v) (m : List SIns) : Exp (l ++ m) v := by
  obtain ⟨j, i, h1, h2, h3⟩ := h
  have hj := (List.getElem?_eq_some_iff.1 h1).1
  exact ⟨j, i, by rw [List.getElem?_append_left hj]; exact h1, h2, fun j' x hlt hx => h3 j' x hlt (by rwa [List.getElem?_append_left (by omega)] at hx)⟩
theorem mem_back {v : Nat} : ∀ (r : List SIns) (s : List Bool), Mem1 (backI r s) v → Exp r.reverse v ∨ Mem1 s v ∧ ∀ x ∈ r, x.to.toNat ≠ v
  | [], s, h => .inr ⟨h, fun x hx => by cases hx⟩
  | i :: r, s, h => by
    rw [backI] at h
    rw [List.reverse_cons]
    rcases mem_back r _ h with h | ⟨h, hr⟩
    · exact .inl (h.append _)
    · rw [mem_sets, mem_set_false] at h
      rcases h with ⟨h1, h2⟩ | ⟨_, h2⟩
      · refine .inr ⟨h1, fun x hx => ?_⟩
        rcases List.mem_cons.1 hx with rfl | hx
        · exact Ne.symm h2
        · exact hr x hx
      · refine .inl ⟨r.length, i, by rw [List.getElem?_append_right (by simp)]; simp, h2, fun j' x hlt hx => ?_⟩
        rw [List.getElem?_append_left (by simpa using hlt)] at hx
        exact hr x (by simpa using List.mem_of_getElem? hx)
theorem back_mono {s t : List Bool} (hl : s.length = t.length) : ∀ (r : List SIns), (∀ v, Mem1 s v → Mem1 t v) → ∀ v, Mem1 (backI r s) v → Mem1 (backI r t) v
  | [], h => h
  | i :: r, h => by
    rw [backI, backI]
    refine back_mono (by rw [sets_len, sets_len, List.length_set, List.length_set, hl]) r fun v hv => ?_
    rw [mem_sets, mem_set_false, List.length_set] at hv ⊢
    rw [← hl]
    exact hv.imp (fun hv => ⟨h v hv.1, hv.2⟩) id
inductive LiveIn (bs : List SBlock) (v : Nat) : Nat → Prop where
  | use {k : Nat} {b : SBlock} : bs[k]? = some b → Exp b.ins v → LiveIn bs v k
  | term {k : Nat} {b : SBlock} : bs[k]? = some b → (∀ x ∈ b.ins, x.to.toNat ≠ v) → TermUse b.term v → LiveIn bs v k
  | pass {k : Nat} {b : SBlock} {e : SEdge} : bs[k]? = some b → (∀ x ∈ b.ins, x.to.toNat ≠ v) → e ∈ b.term.to → (v : Int) ∉ paramsOf bs e.block → LiveIn bs v e.block.toNat → LiveIn bs v k
theorem live_back {bs : List SBlock} {many k : Nat} {b : SBlock} {first : Sets} {v : Nat} (hf : ∀ k, Mem1 (setAt first k) v → LiveIn bs v k) (hb : bs[k]? = some b) (h : Mem1 (backF b (lastF bs many b.term first)) v) : LiveIn bs v k := by
  rcases mem_back _ _ h with h | ⟨h, hn⟩
  · rw [List.reverse_reverse] at h
    exact .use hb h
  · have hn : ∀ x ∈ b.ins, x.to.toNat ≠ v := fun x hx => hn x (List.mem_reverse.2 hx)
    rcases ((mem_last ..).1 h).2 with h | ⟨e, he, h1, h2⟩
    · exact .term hb hn h
    · exact .pass hb hn he h2 (hf _ h1)
theorem setAt_set {s : Sets} {k j : Nat} {l : List Bool} (h : k < s.length) : setAt (s.set k (some l)) j = if k = j then l else setAt s j := by
  unfold setAt
  rw [List.getElem?_set]
  split
  · rename_i e
    subst e
    first | rfl | (rw [if_pos h]; rfl)
  · rfl
end Go.SM
end
section
set_option linter.unusedVariables false
set_option linter.unusedSimpArgs false
namespace Go.SM
open Go.VL
def Sub1 (s t : List Bool) : Prop := ∀ v, Mem1 s v → Mem1 t v
def fals (s : List Bool) : Nat := s.countP fun b => !b
theorem fals_le {s t : List Bool} (hl : s.length = t.length) (h : Sub1 s t) : fals t ≤ fals s ∧ (s ≠ t → fals t < fals s) := by
  unfold fals
  induction s generalizing t with
  | nil =>
    cases t with
    | nil => exact ⟨Nat.le_refl _, fun h => absurd rfl h⟩
    | cons b t => simp at hl
  | cons a s ih =>
    cases t with
    | nil => simp at hl
    | cons b t =>
      have hl' : s.length = t.length := by simpa using hl
      have hs : Sub1 s t := fun v hv => by
        have := h (v + 1) (by unfold Mem1 at hv ⊢; simpa using hv)
        unfold Mem1 at this ⊢
        simpa using this
      obtain ⟨h1, h2⟩ := ih hl' hs
      have h0 : a = true → b = true := fun e => by
        have := h 0 (by unfold Mem1; simp [e])
        unfold Mem1 at this
        simpa using this
      rw [List.countP_cons, List.countP_cons]
      cases a <;> cases b
      · refine ⟨by simpa using h1, fun hne => ?_⟩
        have := h2 (fun e => hne (by rw [e]))
        simpa using this
      · refine ⟨by simp; omega, fun hne => by simp; omega⟩
      · exact absurd (h0 rfl) (by decide)
      · refine ⟨by simpa using h1, fun hne => ?_⟩
        have := h2 (fun e => hne (by rw [e]))
        simpa using this
def liveW1 (many : Nat) : Option (List Bool) → Nat
  | none => many + 1
  | some l => fals l
def liveW (many : Nat) (s : LState) : Nat := (s.behind.map (liveW1 many)).sum
structure LiveOk (bs : List SBlock) (many : Nat) (s : LState) : Prop where
  blen : s.behind.length = bs.length
  flen : s.first.length = bs.length
  emp : ∀ (k : Nat), s.behind[k]? = some none → s.first[k]? = some none
  full : ∀ (k : Nat) (l : List Bool), s.behind[k]? = some (some l) → l.length = many ∧ ∃ b, bs[k]? = some b ∧ s.first[k]? = some (some (backF b l)) ∧ Sub1 l (lastF bs many b.term s.first)
  live : ∀ (k v : Nat), Mem1 (setAt s.first k) v → LiveIn bs v k
theorem last_mono {bs : List SBlock} {many : Nat} {t : STerm} {f g : Sets} (h : ∀ k, Sub1 (setAt f k) (setAt g k)) : Sub1 (lastF bs many t f) (lastF bs many t g) := fun v hv => by
  rw [mem_last] at hv ⊢
  obtain ⟨h1, h2⟩ := hv
  refine ⟨h1, h2.imp id ?_⟩
  rintro ⟨e, he, h3, h4⟩
  exact ⟨e, he, h _ v h3, h4⟩
theorem live_node {bs : List SBlock} {many k : Nat} {s : LState} (ok : LiveOk bs many s) (hk : k < bs.length) : LiveOk bs many (liveNode bs many s k) ∧ (liveNode bs many s k = s ∨ (liveNode bs many s k).again = true ∧ liveW many (liveNode bs many s k) < liveW many s) := by
  obtain ⟨b, hb⟩ := get_of_lt bs k (by omega)
  obtain ⟨o, ho⟩ : ∃ o, s.behind[k]? = some o := ⟨_, List.getElem?_eq_getElem (by rw [ok.blen]; exact hk)⟩
  have hbl := ok.blen
  have hfl := ok.flen
  unfold liveNode
  dsimp only
  rw [hb, ho, Option.getD_some, Option.getD_some]
  by_cases hc : o = some (lastF bs many b.term s.first)
  · rw [if_pos hc]
    exact ⟨ok, .inl rfl⟩
  · rw [if_neg hc]
    -- the new set is greater
    have hgrow : ∀ l, o = some l → l.length = many ∧ Sub1 l (lastF bs many b.term s.first) ∧ s.first[k]? = some (some (backF b l)) := fun l e => by
      subst e
      obtain ⟨h1, b', hb', h2, h3⟩ := ok.full k l ho
      rw [hb] at hb'
      injection hb' with hb'
      subst hb'
      exact ⟨h1, h3, h2⟩
    have hfst : ∀ j, Sub1 (setAt s.first j) (setAt (s.first.set k (some (backF b (lastF bs many b.term s.first)))) j) := fun j v hv => by
      rw [setAt_set (by omega)]
      split
      · rename_i e
        subst e
        cases o with
        | none =>
          have := ok.emp k ho
          unfold setAt at hv
          rw [this] at hv
          simp [Mem1] at hv
        | some l =>
          obtain ⟨h1, h2, h3⟩ := hgrow l rfl
          unfold setAt at hv
          rw [h3] at hv
          exact back_mono (by rw [h1, last_len]) _ h2 v hv
      · exact hv
    refine ⟨⟨by simpa using hbl, by simpa using hfl, fun j hj => ?_, fun j l hj => ?_, fun j v hv => ?_⟩, .inr ⟨rfl, ?_⟩⟩
    · dsimp only at hj ⊢
      rw [List.getElem?_set] at hj ⊢
      by_cases hkj : k = j
      · rw [if_pos hkj, if_pos (by omega)] at hj
        injection hj with hj
        cases hj
      · rw [if_neg hkj] at hj ⊢
        exact ok.emp j hj
    · dsimp only at hj ⊢
      rw [List.getElem?_set] at hj ⊢
      by_cases hkj : k = j
      · subst hkj
        rw [if_pos rfl, if_pos (by omega)] at hj
        injection hj with hj
        injection hj with hj
        subst hj
        exact ⟨last_len .., b, hb, by rw [if_pos rfl, if_pos (by omega)], last_mono hfst⟩
      · rw [if_neg hkj] at hj ⊢
        obtain ⟨h1, b', hb', h2, h3⟩ := ok.full j l hj
        exact ⟨h1, b', hb', h2, fun v hv => last_mono hfst v (h3 v hv)⟩
    · dsimp only at hv
      rw [setAt_set (by omega)] at hv
      split at hv
      · rename_i e
        subst e
        exact live_back (fun k => ok.live k v) hb hv
      · exact ok.live j v hv
    · have hs := sum_set (l := s.behind.map (liveW1 many)) (k := k) (x := liveW1 many o) (y := liveW1 many (some (lastF bs many b.term s.first))) (by rw [List.getElem?_map, ho]; rfl)
      unfold liveW
      dsimp only
      rw [List.map_set]
      have hlt : liveW1 many (some (lastF bs many b.term s.first)) < liveW1 many o := by
        cases o with
        | none =>
          have := List.countP_le_length (p := fun b => !b) (l := lastF bs many b.term s.first)
          rw [last_len] at this
          show fals _ < many + 1
          unfold fals
          omega
        | some l =>
          obtain ⟨h1, h2, h3⟩ := hgrow l rfl
          exact (fals_le (by rw [h1, last_len]) h2).2 (fun e => hc (by rw [e]))
      omega
theorem live_pass {bs : List SBlock} {many : Nat} : ∀ (k : Nat) (s : LState), k ≤ bs.length → LiveOk bs many s → LiveOk bs many (livePass bs many k s) ∧ (livePass bs many k s = s ∨ (livePass bs many k s).again = true ∧ liveW many (livePass bs many k s) < liveW many s)
  | 0, s, _, ok => ⟨ok, .inl rfl⟩
  | k + 1, s, hk, ok => by
    obtain ⟨h1, h2⟩ := live_node ok (k := k) (by omega)
    obtain ⟨g1, g2⟩ := live_pass k (liveNode bs many s k) (by omega) h1
    rw [livePass]
    refine ⟨g1, ?_⟩
    rcases h2 with h2 | ⟨h2, h3⟩
    · rw [h2] at g2 ⊢
      exact g2
    · rcases g2 with g2 | ⟨g2, g3⟩
      · rw [g2]; exact .inr ⟨h2, h3⟩
      · exact .inr ⟨g2, by omega⟩
theorem live_round {bs : List SBlock} {many n : Nat} {s : LState} (ok : LiveOk bs many s) (ha : s.again = true) (hw : liveW many s + 1 ≤ n) :
    ∃ n', n = n' + 1 ∧ liveIter bs many n s = liveIter bs many n' (livePass bs many bs.length { s with again := false }) ∧ LiveOk bs many (livePass bs many bs.length { s with again := false }) ∧
      liveW many (livePass bs many bs.length { s with again := false }) + (if (livePass bs many bs.length { s with again := false }).again = true then 1 else 0) ≤ n' := by
  obtain ⟨n', rfl⟩ : ∃ n', n = n' + 1 := ⟨n - 1, by omega⟩
  have ok0 : LiveOk bs many { s with again := false } := ⟨ok.blen, ok.flen, ok.emp, ok.full, ok.live⟩
  obtain ⟨h1, h2⟩ := live_pass bs.length _ (Nat.le_refl _) ok0
  have hwe : liveW many { s with again := false } = liveW many s := rfl
  refine ⟨n', rfl, by rw [liveIter, if_pos ha], h1, ?_⟩
  rcases h2 with h2 | ⟨h2, h3⟩
  · rw [h2]
    dsimp only
    rw [if_neg (by decide)]
    omega
  · rw [h2, if_pos rfl]
    omega
theorem live_start (bs : List SBlock) (many : Nat) : LiveOk bs many (liveStart bs.length) := by
  refine ⟨by simp [liveStart], by simp [liveStart], fun k hk => ?_, fun k l hk => ?_, fun k v hv => ?_⟩
  · exact hk
  · simp only [liveStart, List.getElem?_replicate] at hk
    split at hk
    · injection hk with hk; cases hk
    · cases hk
  · unfold setAt liveStart at hv
    dsimp only at hv
    rw [List.getElem?_replicate] at hv
    split at hv <;> simp [Mem1] at hv
theorem live_w (n many : Nat) : liveW many (liveStart n) = n * (many + 1) := by
  have key : ∀ n x : Nat, (List.replicate n x).sum = n * x := fun n x => by
    induction n with
    | zero => simp
    | succ n ih => rw [List.replicate_succ, List.sum_cons, ih, Nat.succ_mul]; omega
  unfold liveW liveStart
  rw [List.map_replicate, key]
  rfl
theorem live_iter {bs : List SBlock} {many : Nat} : ∀ (n : Nat) (s : LState), LiveOk bs many s → liveW many s + (if s.again = true then 1 else 0) ≤ n → LiveOk bs many (liveIter bs many n s)
  | 0, s, ok, hw => ok
  | n + 1, s, ok, hw => by
    cases ha : s.again with
    | false => rw [liveIter, if_neg (by rw [ha]; decide)]; exact ok
    | true =>
      rw [ha, if_pos rfl] at hw
      obtain ⟨n', e, h1, h2, h3⟩ := live_round ok ha hw
      have : n = n' := by omega
      subst this
      rw [h1]
      exact live_iter n _ h2 h3
theorem live_ok (bs : List SBlock) (many : Nat) : LiveOk bs many (liveF bs many) := by
  refine live_iter _ _ (live_start bs many) ?_
  rw [live_w]
  have : (liveStart bs.length).again = true := rfl
  rw [this, if_pos rfl]
  omega
theorem dget_mem {v : Int} {p : Int × Int} : ∀ {d : Defs}, dget d v = some p → (v, p) ∈ d
  | [], h => by cases h
  | (k, q) :: d, h => by
    rw [dget] at h
    split at h
    · rename_i e
      subst e
      injection h with h
      subst h
      exact List.mem_cons_self ..
    · exact List.mem_cons_of_mem _ (dget_mem h)
theorem usesIns_all {d : Defs} {o : Dom} {k : Nat} : ∀ {l : List SIns} {n : Int}, usesIns d o k n l = true → ∀ (j : Nat) (i : SIns), l[j]? = some i → ∀ a ∈ i.args, fineF d o k (n + j) a = true
  | [], n, h, j, i, hi => by simp at hi
  | x :: l, n, h, j, i, hi => by
    rw [usesIns, Bool.and_eq_true, List.all_eq_true] at h
    cases j with
    | zero =>
      simp at hi
      subst hi
      intro a ha
      have := h.1 a ha
      simpa using this
    | succ j =>
      simp at hi
      intro a ha
      have := usesIns_all h.2 j i hi a ha
      rwa [show n + 1 + (j : Int) = n + ((j + 1 : Nat) : Int) by omega] at this
theorem usesF_all {d : Defs} {o : Dom} : ∀ {l : List SBlock} {k : Nat}, usesF d o k l = 0 → ∀ (j : Nat) (b : SBlock), l[j]? = some b → usesIns d o (k + j) 0 b.ins = true ∧ usedF b.term (fineF d o (k + j) b.ins.length) = true
  | [], k, h, j, b, hb => by simp at hb
  | c :: l, k, h, j, b, hb => by
    rw [usesF] at h
    split at h
    · cases h
    · split at h
      · cases h
      · rename_i h1 h2
        cases j with
        | zero =>
          simp at hb
          subst hb
          exact ⟨by simpa using h1, by simpa using h2⟩
        | succ j =>
          simp at hb
          have := usesF_all h j b hb
          rwa [show k + 1 + j = k + (j + 1) by omega] at this
end Go.SM
end
section
set_option linter.unusedVariables false
namespace Go.SM
open Go.VL
def valuesL (bs : List SBlock) : List Int := bs.flatMap fun b => b.params ++ b.ins.map (·.to)
def freshF (bs : List SBlock) : Int := (valuesL bs).foldl (fun n v => max n (v + 1)) 0
theorem fold_fresh : ∀ (l : List Int) (n : Int), n ≤ l.foldl (fun n v => max n (v + 1)) n ∧ ∀ v ∈ l, v < l.foldl (fun n v => max n (v + 1)) n
  | [], n => ⟨Int.le_refl _, fun v hv => by cases hv⟩
  | a :: l, n => by
    obtain ⟨h1, h2⟩ := fold_fresh l (max n (a + 1))
    rw [List.foldl_cons]
    refine ⟨by omega, fun v hv => ?_⟩
    rcases List.mem_cons.1 hv with rfl | hv
    · omega
    · exact h2 v hv
theorem fold_le {m : Int} : ∀ (l : List Int) (n : Int), n ≤ m → (∀ v ∈ l, v < m) → l.foldl (fun n v => max n (v + 1)) n ≤ m
  | [], n, hn, _ => hn
  | a :: l, n, hn, h => by
    have := h a (List.mem_cons_self ..)
    exact fold_le l _ (by show max n (a + 1) ≤ m; omega) fun v hv => h v (List.mem_cons_of_mem _ hv)
theorem values_keys {f : SFunc} (h : FuncOk f) : ∀ v ∈ valuesL f.blocks, 0 ≤ v ∧ v ≤ 4095 := fun v hv => h.keys.range v (by rw [dkeys_defsL]; exact hv)
theorem fresh_ok {f : SFunc} (h : FuncOk f) : 0 ≤ freshF f.blocks ∧ freshF f.blocks ≤ 4096 ∧ ∀ v ∈ valuesL f.blocks, v < freshF f.blocks := by
  obtain ⟨h1, h2⟩ := fold_fresh (valuesL f.blocks) 0
  exact ⟨h1, fold_le _ 0 (by decide) fun v hv => by have := values_keys h v hv; omega, h2⟩
def listF : Nat → List Bool → List Int
  | _, [] => []
  | v, b :: l => if b = true then (v : Int) :: listF (v + 1) l else listF (v + 1) l
theorem mem_list {v : Nat} : ∀ {l : List Bool} {w : Nat}, (v : Int) ∈ listF w l ↔ w ≤ v ∧ Mem1 l (v - w)
  | [], w => by simp [listF, Mem1]
  | b :: l, w => by
    have step : Mem1 (b :: l) (v - w) ↔ (v - w = 0 ∧ b = true) ∨ (1 ≤ v - w ∧ Mem1 l (v - w - 1)) := by
      unfold Mem1
      cases h : v - w with
      | zero => simp
      | succ u => simp
    rw [listF, step]
    split
    · rename_i hb
      rw [List.mem_cons, mem_list]
      constructor
      · rintro (h | ⟨h1, h2⟩)
        · exact ⟨by omega, .inl ⟨by omega, hb⟩⟩
        · exact ⟨by omega, .inr ⟨by omega, by rwa [show v - w - 1 = v - (w + 1) by omega]⟩⟩
      · rintro ⟨h1, ⟨h2, _⟩ | ⟨h2, h3⟩⟩
        · exact .inl (by omega)
        · exact .inr ⟨by omega, by rwa [show v - (w + 1) = v - w - 1 by omega]⟩
    · rename_i hb
      rw [mem_list]
      constructor
      · rintro ⟨h1, h2⟩
        exact ⟨by omega, .inr ⟨by omega, by rwa [show v - w - 1 = v - (w + 1) by omega]⟩⟩
      · rintro ⟨h1, ⟨_, h3⟩ | ⟨h2, h3⟩⟩
        · exact absurd h3 hb
        · exact ⟨by omega, by rwa [show v - (w + 1) = v - w - 1 by omega]⟩
theorem list_nat : ∀ {l : List Bool} {w : Nat} {x : Int}, x ∈ listF w l → ∃ v : Nat, x = v
  | b :: l, w, x, h => by
    rw [listF] at h
    split at h
    · rcases List.mem_cons.1 h with rfl | h
      · exact ⟨w, rfl⟩
      · exact list_nat h
    · exact list_nat h
theorem list_len : ∀ (l : List Bool) (w : Nat), (listF w l).length ≤ l.length
  | [], w => Nat.le_refl _
  | b :: l, w => by
    rw [listF]
    have := list_len l (w + 1)
    split <;> simp <;> omega
end Go.SM
end
section
set_option linter.unusedVariables false
set_option linter.unusedSimpArgs false
namespace Go.SM
open Go.VL
structure RangeOk (bs : List SBlock) (many : Nat) : Prop where
  to : ∀ b ∈ bs, ∀ i ∈ b.ins, 0 ≤ i.to ∧ i.to < many
  args : ∀ b ∈ bs, ∀ i ∈ b.ins, ∀ a ∈ i.args, 0 ≤ a ∧ a < many
  arg : ∀ b ∈ bs, b.term.kind ≠ 1 ∧ b.term.kind ≠ 4 → 0 ≤ b.term.arg ∧ b.term.arg < many
  eargs : ∀ b ∈ bs, ∀ e ∈ b.term.to, ∀ a ∈ e.args, 0 ≤ a ∧ a < many
  edge : ∀ b ∈ bs, ∀ e ∈ b.term.to, 1 ≤ e.block ∧ e.block < bs.length
theorem fine_key {f : SFunc} (h : FuncOk f) {k : Nat} {at_ a : Int} (hf : fineF (blocksF f.blocks 0 f.blocks []).2 (domF f.blocks) k at_ a = true) : a ∈ valuesL f.blocks := by
  rw [h.defs.1] at hf
  unfold fineF at hf
  cases hd : dget (defsL 0 f.blocks) a with
  | none => rw [hd] at hf; cases hf
  | some p =>
    have hmem := dget_mem hd
    have : a ∈ dkeys (defsL 0 f.blocks) := List.mem_map.2 ⟨_, hmem, rfl⟩
    rwa [dkeys_defsL] at this
theorem used_all {t : STerm} {use : Int → Bool} (h : usedF t use = true) : (t.kind ≠ 1 ∧ t.kind ≠ 4 → use t.arg = true) ∧ ∀ e ∈ t.to, ∀ a ∈ e.args, use a = true := by
  unfold usedF at h
  split at h
  · cases h
  · rename_i hc
    refine ⟨fun hk => ?_, fun e he a ha => ?_⟩
    · cases hu : use t.arg with
      | true => rfl
      | false => exact absurd ⟨hk, hu⟩ hc
    · rw [List.all_eq_true] at h
      have := h e he
      rw [List.all_eq_true] at this
      exact this a ha
theorem range_ok {f : SFunc} (h : FuncOk f) {many : Nat} (hm : freshF f.blocks ≤ many) : RangeOk f.blocks many := by
  have key : ∀ a ∈ valuesL f.blocks, 0 ≤ a ∧ a < many := fun a ha => by
    have h1 := values_keys h a ha
    have h2 := (fresh_ok h).2.2 a ha
    exact ⟨h1.1, by omega⟩
  have hu := usesF_all h.uses
  refine ⟨fun b hb i hi => key _ (List.mem_flatMap.2 ⟨b, hb, List.mem_append_right _ (List.mem_map.2 ⟨i, hi, rfl⟩)⟩), fun b hb i hi a ha => ?_, fun b hb hk => ?_, fun b hb e he a ha => ?_, h.edges⟩
  · obtain ⟨k, hk⟩ := List.getElem?_of_mem hb
    obtain ⟨j, hj⟩ := List.getElem?_of_mem hi
    exact key a (fine_key h (usesIns_all (hu k b hk).1 j i hj a ha))
  · obtain ⟨k, hkb⟩ := List.getElem?_of_mem hb
    exact key _ (fine_key h ((used_all (hu k b hkb).2).1 hk))
  · obtain ⟨k, hk⟩ := List.getElem?_of_mem hb
    exact key a (fine_key h ((used_all (hu k b hk).2).2 e he a ha))
end Go.SM
end
section
set_option linter.unusedVariables false
set_option linter.unusedSimpArgs false
namespace Go.SM
open Go.VL
theorem pass_again {bs : List SBlock} {many : Nat} : ∀ (k : Nat) (s : LState), s.again = true → (livePass bs many k s).again = true
  | 0, s, h => h
  | k + 1, s, h => by
    rw [livePass]
    refine pass_again k _ ?_
    unfold liveNode
    dsimp only
    split
    · exact h
    · rfl
def Stable (bs : List SBlock) (many n : Nat) (s : LState) : Prop := ∀ k < n, s.behind[k]?.getD none = some (lastF bs many (bs[k]?.getD default).term s.first)
theorem live_stable {bs : List SBlock} {many : Nat} : ∀ (k : Nat) (s : LState), (livePass bs many k s).again = false → livePass bs many k s = s ∧ Stable bs many k s
  | 0, s, h => ⟨rfl, fun k hk => by omega⟩
  | k + 1, s, h => by
    rw [livePass] at h ⊢
    have hn : s.behind[k]?.getD none = some (lastF bs many (bs[k]?.getD default).term s.first) := by
      apply Classical.byContradiction
      intro hc
      rw [pass_again k _ (by unfold liveNode; dsimp only; rw [if_neg hc])] at h
      cases h
    have he : liveNode bs many s k = s := by unfold liveNode; dsimp only; rw [if_pos hn]
    rw [he] at h ⊢
    obtain ⟨h1, h2⟩ := live_stable k s h
    refine ⟨h1, fun j hj => ?_⟩
    by_cases e : j = k
    · subst e; exact hn
    · exact h2 j (by omega)
theorem live_end {bs : List SBlock} {many : Nat} : ∀ (n : Nat) (s : LState), LiveOk bs many s → liveW many s + (if s.again = true then 1 else 0) ≤ n → (s.again = false → Stable bs many bs.length s) → Stable bs many bs.length (liveIter bs many n s)
  | 0, s, ok, hw, hs => by
    refine hs ?_
    cases h : s.again with
    | false => rfl
    | true => rw [h, if_pos rfl] at hw; omega
  | n + 1, s, ok, hw, hs => by
    cases ha : s.again with
    | false => rw [liveIter, if_neg (by rw [ha]; decide)]; exact hs ha
    | true =>
      rw [ha, if_pos rfl] at hw
      obtain ⟨n', e, h1, h2, h3⟩ := live_round ok ha hw
      have : n = n' := by omega
      subst this
      rw [h1]
      exact live_end n _ h2 h3 fun h => by
        obtain ⟨h4, h5⟩ := live_stable _ _ h
        rw [h4]
        exact h5
theorem live_fix (bs : List SBlock) (many : Nat) : Stable bs many bs.length (liveF bs many) := by
  refine live_end _ _ (live_start bs many) ?_ fun h => by cases h
  rw [live_w]
  have : (liveStart bs.length).again = true := rfl
  rw [this, if_pos rfl]
  omega
theorem mem_back2 {v : Nat} : ∀ (r : List SIns) (s : List Bool), v < s.length → (Exp r.reverse v ∨ Mem1 s v ∧ ∀ x ∈ r, x.to.toNat ≠ v) → Mem1 (backI r s) v
  | [], s, _, h => by
    rcases h with ⟨j, i, h1, _⟩ | ⟨h, _⟩
    · simp at h1
    · exact h
  | i :: r, s, hl, h => by
    rw [backI]
    refine mem_back2 r _ (by rw [sets_len, List.length_set]; exact hl) ?_
    rw [mem_sets, mem_set_false, List.length_set]
    rcases h with ⟨j, x, h1, h2, h3⟩ | ⟨h1, h2⟩
    · rw [List.reverse_cons] at h1 h3
      by_cases hj : j < r.reverse.length
      · rw [List.getElem?_append_left hj] at h1
        exact .inl ⟨j, x, h1, h2, fun j' y hlt hy => h3 j' y hlt (by rw [List.getElem?_append_left (by omega)]; exact hy)⟩
      · rw [List.getElem?_append_right (by omega)] at h1
        have hj0 : j - r.reverse.length = 0 := by
          have := (List.getElem?_eq_some_iff.1 h1).1
          simp at this
          simp
          omega
        rw [hj0] at h1
        have h1 : i = x := by simpa using h1
        subst h1
        refine .inr ⟨.inr ⟨hl, h2⟩, fun y hy => ?_⟩
        obtain ⟨j', hj'⟩ := List.getElem?_of_mem (List.mem_reverse.2 hy)
        have hlt := (List.getElem?_eq_some_iff.1 hj').1
        exact h3 j' y (by omega) (by rw [List.getElem?_append_left hlt]; exact hj')
    · exact .inr ⟨.inl ⟨h1, fun e => h2 i (List.mem_cons_self ..) e.symm⟩, fun y hy => h2 y (List.mem_cons_of_mem _ hy)⟩
theorem in_range {bs : List SBlock} {many v k : Nat} (ok : RangeOk bs many) (h : LiveIn bs v k) : v < many := by
  have tu : ∀ {b : SBlock}, b ∈ bs → TermUse b.term v → v < many := fun {b} hb hu => by
    rcases hu with ⟨h1, h2⟩ | ⟨e, he, a, ha, h2⟩
    · have := ok.arg b hb h1; omega
    · have := ok.eargs b hb e he a ha; omega
  induction h with
  | use hb he =>
    obtain ⟨j, i, hi, ⟨a, ha, e⟩, _⟩ := he
    have := ok.args _ (List.mem_of_getElem? hb) i (List.mem_of_getElem? hi) a ha
    omega
  | term hb _ hu => exact tu (List.mem_of_getElem? hb) hu
  | pass _ _ _ _ _ ih => exact ih
def LiveOut (bs : List SBlock) (v k : Nat) : Prop := ∃ b, bs[k]? = some b ∧ (TermUse b.term v ∨ ∃ e ∈ b.term.to, (v : Int) ∉ paramsOf bs e.block ∧ LiveIn bs v e.block.toNat)
section
variable {bs : List SBlock} {many : Nat}
theorem first_at {k : Nat} {b : SBlock} (hb : bs[k]? = some b) : (liveF bs many).behind[k]? = some (some (lastF bs many b.term (liveF bs many).first)) ∧ (liveF bs many).first[k]? = some (some (backF b (lastF bs many b.term (liveF bs many).first))) := by
  have hk := (List.getElem?_eq_some_iff.1 hb).1
  have ok := live_ok bs many
  have h1 := live_fix bs many k hk
  rw [hb, Option.getD_some] at h1
  obtain ⟨o, ho⟩ : ∃ o, (liveF bs many).behind[k]? = some o := ⟨_, List.getElem?_eq_getElem (by rw [ok.blen]; exact hk)⟩
  rw [ho, Option.getD_some] at h1
  subst h1
  obtain ⟨_, c, hc, h2, _⟩ := ok.full k _ ho
  rw [hb] at hc
  injection hc with hc
  subst hc
  exact ⟨ho, h2⟩
theorem live_mem (ok : RangeOk bs many) {v k : Nat} (h : LiveIn bs v k) : Mem1 (setAt (liveF bs many).first k) v := by
  have hv := in_range ok h
  have st : ∀ {k : Nat} {b : SBlock}, bs[k]? = some b → (Exp b.ins v ∨ Mem1 (lastF bs many b.term (liveF bs many).first) v ∧ ∀ x ∈ b.ins, x.to.toNat ≠ v) → Mem1 (setAt (liveF bs many).first k) v := fun {k b} hb h => by
    rw [setAt, (first_at hb).2]
    show Mem1 (backF b _) v
    refine mem_back2 _ _ (by rw [last_len]; exact hv) ?_
    rw [List.reverse_reverse]
    exact h.imp id fun h => ⟨h.1, fun x hx => h.2 x (List.mem_reverse.1 hx)⟩
  induction h with
  | use hb he => exact st hb (.inl he)
  | term hb hn hu => exact st hb (.inr ⟨(mem_last ..).2 ⟨hv, .inl hu⟩, hn⟩)
  | pass hb hn he hp _ ih => exact st hb (.inr ⟨(mem_last ..).2 ⟨hv, .inr ⟨_, he, ih, hp⟩⟩, hn⟩)
theorem first_iff (ok : RangeOk bs many) {v k : Nat} : Mem1 (setAt (liveF bs many).first k) v ↔ LiveIn bs v k := ⟨(live_ok bs many).live k v, live_mem ok⟩
theorem behind_iff (ok : RangeOk bs many) {v k : Nat} (hk : k < bs.length) : Mem1 (setAt (liveF bs many).behind k) v ↔ LiveOut bs v k := by
  obtain ⟨b, hb⟩ := get_of_lt bs k (by omega)
  rw [setAt, (first_at hb).1]
  show Mem1 (lastF bs many b.term _) v ↔ _
  rw [mem_last]
  have hbm := List.mem_of_getElem? hb
  constructor
  · rintro ⟨_, h | ⟨e, he, h1, h2⟩⟩
    · exact ⟨b, hb, .inl h⟩
    · exact ⟨b, hb, .inr ⟨e, he, h2, (first_iff ok).1 h1⟩⟩
  · rintro ⟨c, hc, h⟩
    rw [hb] at hc
    injection hc with hc
    subst hc
    rcases h with h | ⟨e, he, h1, h2⟩
    · refine ⟨?_, .inl h⟩
      rcases h with ⟨h1, h2⟩ | ⟨e, he, a, ha, h2⟩
      · have := ok.arg b hbm h1; omega
      · have := ok.eargs b hbm e he a ha; omega
    · exact ⟨in_range ok h2, .inr ⟨e, he, (first_iff ok).2 h2, h1⟩⟩
end
section
variable {f : SFunc} (ho : OrderOk f.blocks (orderF f.blocks)) (hE : ∀ b ∈ f.blocks, ∀ e ∈ b.term.to, 1 ≤ e.block ∧ e.block < f.blocks.length)
theorem re_use (at_ : List Int) (b : SBlock) (v : Nat) : TermUse (reB at_ b).term v ↔ TermUse b.term v := by
  unfold TermUse
  refine or_congr Iff.rfl ⟨?_, ?_⟩
  · rintro ⟨e, he, h⟩
    obtain ⟨x, hx, rfl⟩ := List.mem_map.1 he
    exact ⟨x, hx, h⟩
  · rintro ⟨e, he, h⟩
    exact ⟨_, List.mem_map.2 ⟨e, he, rfl⟩, h⟩
include ho hE
theorem edge_to {k : Nat} {b : SBlock} {e : SEdge} (hk : k ∈ orderF f.blocks) (hb : f.blocks[k]? = some b) (he : e ∈ b.term.to) : e.block.toNat ∈ orderF f.blocks ∧ gI (atF f) e.block = (rk f e.block.toNat : Nat) ∧ paramsOf (pruneF f).blocks (gI (atF f) e.block) = paramsOf f.blocks e.block := by
  have h1 := hE b (List.mem_of_getElem? hb) e he
  have e2 : ((e.block.toNat : Nat) : Int) = e.block := Int.toNat_of_nonneg (by omega)
  have hm : e.block.toNat ∈ orderF f.blocks := ho.closed k hk e.block.toNat ⟨e, by rw [toAt_get hb]; exact he, rfl⟩
  obtain ⟨c, hc⟩ := get_of_lt f.blocks e.block.toNat (by omega)
  have h3 := (rk_get ho hm).1
  rw [e2] at h3
  refine ⟨hm, h3, ?_⟩
  rw [h3, paramsOf_get (by rw [Int.toNat_natCast]; exact prune_at ho hm hc), paramsOf_get hc]
  rfl
theorem live_prune {v k : Nat} (h : LiveIn f.blocks v k) : k ∈ orderF f.blocks → LiveIn (pruneF f).blocks v (rk f k) := by
  induction h with
  | use hb he => exact fun hk => .use (prune_at ho hk hb) he
  | term hb hn hu => exact fun hk => .term (prune_at ho hk hb) hn ((re_use ..).2 hu)
  | @pass k b e hb hn he hp _ ih =>
    intro hk
    obtain ⟨h1, h2, h3⟩ := edge_to ho hE hk hb he
    refine .pass (e := ⟨gI (atF f) e.block, e.args⟩) (prune_at ho hk hb) hn (List.mem_map.2 ⟨e, he, rfl⟩) (by show (v : Int) ∉ paramsOf _ (gI (atF f) e.block); rw [h3]; exact hp) ?_
    show LiveIn _ v (gI (atF f) e.block).toNat
    rw [h2, Int.toNat_natCast]
    exact ih h1
theorem prune_live {v i : Nat} (h : LiveIn (pruneF f).blocks v i) : ∀ k ∈ orderF f.blocks, rk f k = i → LiveIn f.blocks v k := by
  have key : ∀ {i : Nat} {c : SBlock}, (pruneF f).blocks[i]? = some c → ∀ k ∈ orderF f.blocks, rk f k = i → ∃ b, f.blocks[k]? = some b ∧ c = reB (atF f) b := fun {i c} hc k hk e => by
    obtain ⟨w, b, h1, h2, h3, h4⟩ := prune_of ho hc
    have := rk_inj ho hk h1 (by rw [e, h2])
    subst this
    exact ⟨b, h3, h4⟩
  induction h with
  | use hc he =>
    intro k hk e
    obtain ⟨b, hb, rfl⟩ := key hc k hk e
    exact .use hb he
  | term hc hn hu =>
    intro k hk e
    obtain ⟨b, hb, rfl⟩ := key hc k hk e
    exact .term hb hn ((re_use ..).1 hu)
  | @pass i c e hc hn he hp _ ih =>
    intro k hk e2
    obtain ⟨b, hb, rfl⟩ := key hc k hk e2
    obtain ⟨x, hx, rfl⟩ := List.mem_map.1 he
    obtain ⟨h1, h2, h3⟩ := edge_to ho hE hk hb hx
    dsimp only at hp
    rw [h3] at hp
    exact .pass hb hn hx hp (ih _ h1 (by dsimp only; rw [h2, Int.toNat_natCast]))
theorem out_prune {v k : Nat} (hk : k ∈ orderF f.blocks) : LiveOut (pruneF f).blocks v (rk f k) ↔ LiveOut f.blocks v k := by
  constructor
  · rintro ⟨c, hc, h⟩
    obtain ⟨w, b, h1, h2, h3, rfl⟩ := prune_of ho hc
    have := rk_inj ho hk h1 h2.symm
    subst this
    refine ⟨b, h3, h.imp (re_use ..).1 ?_⟩
    rintro ⟨e, he, hp, hl⟩
    obtain ⟨x, hx, rfl⟩ := List.mem_map.1 he
    obtain ⟨g1, g2, g3⟩ := edge_to ho hE hk h3 hx
    dsimp only at hp hl
    rw [g3] at hp
    exact ⟨x, hx, hp, prune_live ho hE hl _ g1 (by rw [g2, Int.toNat_natCast])⟩
  · rintro ⟨b, hb, h⟩
    refine ⟨_, prune_at ho hk hb, h.imp (re_use ..).2 ?_⟩
    rintro ⟨e, he, hp, hl⟩
    obtain ⟨g1, g2, g3⟩ := edge_to ho hE hk hb he
    refine ⟨⟨gI (atF f) e.block, e.args⟩, List.mem_map.2 ⟨e, he, rfl⟩, by show (v : Int) ∉ paramsOf _ (gI (atF f) e.block); rw [g3]; exact hp, ?_⟩
    show LiveIn _ v (gI (atF f) e.block).toNat
    rw [g2, Int.toNat_natCast]
    exact live_prune ho hE hl g1
end
theorem list_sorted : ∀ (l : List Bool) (w : Nat), (listF w l).Pairwise (· < ·) ∧ ∀ x ∈ listF w l, (w : Int) ≤ x
  | [], w => ⟨.nil, fun x h => by cases h⟩
  | b :: l, w => by
    obtain ⟨h1, h2⟩ := list_sorted l (w + 1)
    rw [listF]
    split
    · refine ⟨List.pairwise_cons.2 ⟨fun x hx => ?_, h1⟩, fun x hx => ?_⟩
      · have := h2 x hx; omega
      · rcases List.mem_cons.1 hx with rfl | hx
        · exact Int.le_refl _
        · have := h2 x hx; omega
    · exact ⟨h1, fun x hx => by have := h2 x hx; omega⟩
theorem list_same {a b : List Bool} (h : ∀ v, Mem1 a v ↔ Mem1 b v) : listF 0 a = listF 0 b := by
  refine sorted_eq (list_sorted a 0).1 (list_sorted b 0).1 fun x => ?_
  constructor
  · intro hx
    obtain ⟨v, rfl⟩ := list_nat hx
    have := (mem_list.1 hx).2
    exact mem_list.2 ⟨Nat.zero_le _, (h _).1 this⟩
  · intro hx
    obtain ⟨v, rfl⟩ := list_nat hx
    have := (mem_list.1 hx).2
    exact mem_list.2 ⟨Nat.zero_le _, (h _).2 this⟩
theorem live_law {f : SFunc} (h0 : funcF f = 0) {m n : Nat} (hm : RangeOk f.blocks m) (hn : RangeOk (pruneF f).blocks n) {k : Nat} (hk : k < f.blocks.length) :
    gI (atF f) k = -1 ∨ gI (atF f) k = (rk f k : Nat) ∧ rk f k < (pruneF f).blocks.length ∧ listF 0 (setAt (liveF f.blocks m).first k) = listF 0 (setAt (liveF (pruneF f).blocks n).first (rk f k)) ∧ listF 0 (setAt (liveF f.blocks m).behind k) = listF 0 (setAt (liveF (pruneF f).blocks n).behind (rk f k)) := by
  have hok := func_ok h0
  have ho := order_ok hok.pos hok.edges
  have hE := hok.edges
  rcases at_of ho hk with ⟨h1, _⟩ | ⟨h1, h2, h3⟩
  · exact .inl h1
  · obtain ⟨b, hb⟩ := get_of_lt f.blocks k (by omega)
    have hlt := (List.getElem?_eq_some_iff.1 (prune_at ho h1 hb)).1
    refine .inr ⟨h2, hlt, list_same fun v => ?_, list_same fun v => ?_⟩
    · rw [first_iff hm, first_iff hn]
      exact ⟨fun h => live_prune ho hE h h1, fun h => prune_live ho hE h k h1 rfl⟩
    · rw [behind_iff hm hk, behind_iff hn hlt]
      exact (out_prune ho hE h1).symm
end Go.SM
end
