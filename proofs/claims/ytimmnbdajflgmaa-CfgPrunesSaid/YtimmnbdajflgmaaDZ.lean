import Derived.Test.YtimmnbdajflgmaaSZ
import Derived.Test.YtimmnbdajflgmaaW1
import Derived.Test.YtimmnbdajflgmaaS2
section
set_option linter.unusedVariables false
namespace Go.SM
open Go.VL
def predE (k : Nat) (P : List (List Int)) (e : SEdge) : List (List Int) := P.set e.block.toNat ((P[e.block.toNat]?.getD []) ++ [(k : Int)])
def predB (k : Nat) (P : List (List Int)) (b : SBlock) : List (List Int) := b.term.to.foldl (predE k) P
def predL : Nat → List SBlock → List (List Int) → List (List Int)
  | _, [], P => P
  | k, b :: l, P => predL (k + 1) l (predB k P b)
def predsF (bs : List SBlock) : List (List Int) := predL 0 bs (List.replicate bs.length [])
def edgesN : List SBlock → Nat
  | [] => 0
  | b :: l => b.term.to.length + edgesN l
theorem term_edges {f : SFunc} (h : FuncOk f) {b : SBlock} (hb : b ∈ f.blocks) : b.term.to.length ≤ 257 := by
  have he := endF_ok (h.block hb).2
  have hm := he.many
  have hs := he.shape
  unfold shapeF at hs
  repeat' split at hs
  all_goals first | (simp only [Bool.and_eq_true, decide_eq_true_eq] at hs; omega) | cases hs
theorem FuncOk.edges {f : SFunc} (h : FuncOk f) : ∀ b ∈ f.blocks, ∀ e ∈ b.term.to, 1 ≤ e.block ∧ e.block < f.blocks.length := blocks_edges h.blocks
end Go.SM
end
section
set_option linter.unusedVariables false
set_option linter.unusedSimpArgs false
namespace Go.SM
open Go.VL
structure DState where
  seen : List Bool
  stack : List (Nat × Nat)
  out : List Nat
def toAt (bs : List SBlock) (b : Nat) : List SEdge := ((bs[b]?).map (·.term.to)).getD []
def Edge (bs : List SBlock) (p v : Nat) : Prop := ∃ x ∈ toAt bs p, x.block.toNat = v
def dfsStep (bs : List SBlock) (s : DState) : DState :=
  match s.stack with
  | [] => s
  | (b, e) :: st =>
    match (toAt bs b)[e]? with
    | none => ⟨s.seen, st, s.out ++ [b]⟩
    | some x => if s.seen[x.block.toNat]? = some false then ⟨s.seen.set x.block.toNat true, (x.block.toNat, 0) :: (b, e + 1) :: st, s.out⟩ else ⟨s.seen, (b, e + 1) :: st, s.out⟩
def dfsRun (bs : List SBlock) : Nat → DState → DState
  | 0, s => s
  | n + 1, s => if s.stack = [] then s else dfsRun bs n (dfsStep bs s)
def dfsStart (n : Nat) : DState := ⟨(List.replicate n false).set 0 true, [(0, 0)], []⟩
def postF (bs : List SBlock) : List Nat := (dfsRun bs (edgesN bs + bs.length) (dfsStart bs.length)).out
def orderF (bs : List SBlock) : List Nat := (postF bs).reverse
theorem toAt_get {bs : List SBlock} {k : Nat} {b : SBlock} (h : bs[k]? = some b) : toAt bs k = b.term.to := by rw [toAt, h]; rfl
def cost (bs : List SBlock) (k : Nat) : Nat := (toAt bs k).length + 1
def unseenW (bs : List SBlock) : Nat → List Bool → Nat
  | _, [] => 0
  | k, s :: l => (if s then 0 else cost bs k) + unseenW bs (k + 1) l
def stackW (bs : List SBlock) : List (Nat × Nat) → Nat
  | [] => 0
  | (b, e) :: st => (cost bs b - e) + stackW bs st
def dfsW (bs : List SBlock) (s : DState) : Nat := unseenW bs 0 s.seen + stackW bs s.stack
theorem unseen_set (bs : List SBlock) : ∀ (l : List Bool) (k n : Nat), l[n]? = some false → unseenW bs k (l.set n true) + cost bs (k + n) = unseenW bs k l
  | [], k, n, h => by simp at h
  | s :: l, k, 0, h => by
    simp at h
    subst h
    simp [unseenW]
    omega
  | s :: l, k, n + 1, h => by
    simp at h
    have := unseen_set bs l (k + 1) n h
    simp only [List.set_cons_succ, unseenW]
    rw [show k + (n + 1) = k + 1 + n by omega]
    omega
structure DfsInv0 (bs : List SBlock) (s : DState) : Prop where
  len : s.seen.length = bs.length
  stk : ∀ x ∈ s.stack, x.1 < bs.length ∧ x.2 ≤ (toAt bs x.1).length ∧ s.seen[x.1]? = some true
theorem step_w {bs : List SBlock} {s : DState} (h : DfsInv0 bs s) (hne : s.stack ≠ []) : dfsW bs (dfsStep bs s) + 1 = dfsW bs s := by
  unfold dfsStep
  split
  · rename_i he; exact absurd he hne
  · rename_i b e st hs
    have hb := h.stk (b, e) (by rw [hs]; exact List.mem_cons_self ..)
    dsimp only at hb
    split
    · rename_i hn
      have : e = (toAt bs b).length := by
        have := List.getElem?_eq_none_iff.1 hn
        omega
      unfold dfsW
      rw [hs]
      simp only [stackW, cost]
      omega
    · rename_i x hx
      have hlt := (List.getElem?_eq_some_iff.1 hx).1
      split
      · rename_i hu
        have := unseen_set bs s.seen 0 _ hu
        unfold dfsW
        rw [hs]
        simp only [stackW]
        rw [Nat.zero_add] at this
        have hc : cost bs b = (toAt bs b).length + 1 := rfl
        omega
      · unfold dfsW
        rw [hs]
        simp only [stackW, cost]
        omega
def StackOk (bs : List SBlock) : List (Nat × Nat) → Prop
  | [] => True
  | [x] => x.1 = 0
  | x :: y :: st => Edge bs y.1 x.1 ∧ StackOk bs (y :: st)
def seenB (s : DState) (v : Nat) : Prop := s.seen[v]? = some true
structure DfsInv (bs : List SBlock) (s : DState) : Prop extends DfsInv0 bs s where
  out : ∀ v ∈ s.out, v < bs.length ∧ seenB s v
  nodup : (s.stack.map (·.1) ++ s.out).Nodup
  cover : ∀ v, seenB s v → v ∈ s.stack.map (·.1) ∨ v ∈ s.out
  closedO : ∀ v ∈ s.out, ∀ x ∈ toAt bs v, seenB s x.block.toNat
  closedS : ∀ y ∈ s.stack, ∀ i x, i < y.2 → (toAt bs y.1)[i]? = some x → seenB s x.block.toNat
  chain : StackOk bs s.stack
  par : ∀ (i v : Nat), s.out[i]? = some v → v ≠ 0 → ∃ p, Edge bs p v ∧ (p ∈ s.stack.map (·.1) ∨ ∃ j, i < j ∧ s.out[j]? = some p)
  root : s.stack = [] → ∃ l, s.out = l ++ [0]
theorem StackOk.tail {bs : List SBlock} {x : Nat × Nat} : ∀ {st : List (Nat × Nat)}, StackOk bs (x :: st) → StackOk bs st
  | [], _ => trivial
  | y :: st, h => h.2
theorem StackOk.head {bs : List SBlock} {x y : Nat × Nat} (he : x.1 = y.1) : ∀ {st : List (Nat × Nat)}, StackOk bs (x :: st) → StackOk bs (y :: st)
  | [], h => by
    have h : x.1 = 0 := h
    show y.1 = 0
    rw [← he]
    exact h
  | z :: st, h => ⟨by rw [← he]; exact h.1, h.2⟩
theorem seen_mono {l : List Bool} {n v : Nat} (h : l[v]? = some true) : (l.set n true)[v]? = some true := by
  rw [List.getElem?_set]
  split
  · rename_i e; subst e; rw [if_pos (List.getElem?_eq_some_iff.1 h).1]
  · exact h
theorem step_inv {bs : List SBlock} {s : DState} (hE : ∀ b ∈ bs, ∀ e ∈ b.term.to, 1 ≤ e.block ∧ e.block < bs.length) (h : DfsInv bs s) : DfsInv bs (dfsStep bs s) := by
  unfold dfsStep
  split
  · exact h
  · rename_i b e st hs
    have hb := h.stk (b, e) (by rw [hs]; exact List.mem_cons_self ..)
    dsimp only at hb
    have hnd := h.nodup
    rw [hs] at hnd
    have hch := h.chain
    rw [hs] at hch
    split
    · rename_i hn
      have hee : (toAt bs b).length ≤ e := List.getElem?_eq_none_iff.1 hn
      refine ⟨⟨h.len, fun x hx => h.stk x (by rw [hs]; exact List.mem_cons_of_mem _ hx)⟩, ?_, ?_, ?_, ?_, ?_, hch.tail, ?_, ?_⟩
      · intro v hv
        rcases List.mem_append.1 hv with hv | hv
        · exact h.out v hv
        · rw [List.mem_singleton.1 hv]; exact ⟨hb.1, hb.2.2⟩
      · dsimp only
        rw [← List.append_assoc]
        rw [List.map_cons, List.cons_append] at hnd
        have hp : ((b, e).1 :: (st.map (·.1) ++ s.out)).Perm (st.map (·.1) ++ s.out ++ [b]) := (List.perm_append_singleton _ _).symm
        exact hp.nodup_iff.1 hnd
      · intro v hv
        rcases h.cover v hv with hv | hv
        · rw [hs] at hv
          rcases List.mem_cons.1 hv with rfl | hv
          · exact .inr (List.mem_append_right _ (List.mem_singleton.2 rfl))
          · exact .inl hv
        · exact .inr (List.mem_append_left _ hv)
      · intro v hv x hx
        rcases List.mem_append.1 hv with hv | hv
        · exact h.closedO v hv x hx
        · have hvb := List.mem_singleton.1 hv
          subst hvb
          obtain ⟨i, hi⟩ := List.getElem?_of_mem hx
          exact h.closedS (v, e) (by rw [hs]; exact List.mem_cons_self ..) i x (by have := (List.getElem?_eq_some_iff.1 hi).1; show i < e; omega) hi
      · exact fun y hy => h.closedS y (by rw [hs]; exact List.mem_cons_of_mem _ hy)
      · intro i v hi h0
        dsimp only at hi ⊢
        by_cases hlt : i < s.out.length
        · rw [List.getElem?_append_left hlt] at hi
          obtain ⟨p, hp1, hp2⟩ := h.par i v hi h0
          refine ⟨p, hp1, ?_⟩
          rcases hp2 with hp2 | ⟨j, hj, hj2⟩
          · rw [hs] at hp2
            rcases List.mem_cons.1 hp2 with rfl | hp2
            · exact .inr ⟨s.out.length, hlt, by rw [List.getElem?_append_right (Nat.le_refl _)]; simp⟩
            · exact .inl hp2
          · exact .inr ⟨j, hj, by rw [List.getElem?_append_left (List.getElem?_eq_some_iff.1 hj2).1]; exact hj2⟩
        · rw [List.getElem?_append_right (by omega)] at hi
          have : i - s.out.length = 0 := by
            have := (List.getElem?_eq_some_iff.1 hi).1
            simp at this
            omega
          rw [this] at hi
          simp at hi
          subst hi
          cases st with
          | nil => exact absurd hch h0
          | cons y st => exact ⟨y.1, hch.1, .inl (List.mem_map.2 ⟨y, List.mem_cons_self .., rfl⟩)⟩
      · intro hst
        dsimp only at hst
        subst hst
        have hb0 : b = 0 := hch
        exact ⟨s.out, by rw [hb0]⟩
    · rename_i x hx
      have hlt := (List.getElem?_eq_some_iff.1 hx).1
      have hxm := List.mem_of_getElem? hx
      have hxn : x.block.toNat < bs.length := by
        obtain ⟨bl, hbl⟩ : ∃ bl, bs[b]? = some bl := ⟨_, List.getElem?_eq_getElem hb.1⟩
        rw [toAt_get hbl] at hxm
        have := hE bl (List.mem_of_getElem? hbl) x hxm
        omega
      split
      · rename_i hu
        have hns : ∀ v, seenB s v → v ≠ x.block.toNat := fun v hv e => by
          subst e
          unfold seenB at hv
          rw [hu] at hv
          cases hv
        have hnew : (s.seen.set x.block.toNat true)[x.block.toNat]? = some true := by rw [List.getElem?_set, if_pos rfl, if_pos (by rw [h.len]; exact hxn)]
        refine ⟨⟨by rw [List.length_set]; exact h.len, ?_⟩, ?_, ?_, ?_, ?_, ?_, ?_, ?_, ?_⟩
        · intro y hy
          rcases List.mem_cons.1 hy with rfl | hy
          · exact ⟨hxn, Nat.zero_le _, hnew⟩
          · rcases List.mem_cons.1 hy with rfl | hy
            · exact ⟨hb.1, hlt, seen_mono hb.2.2⟩
            · have := h.stk y (by rw [hs]; exact List.mem_cons_of_mem _ hy)
              exact ⟨this.1, this.2.1, seen_mono this.2.2⟩
        · exact fun v hv => ⟨(h.out v hv).1, seen_mono (h.out v hv).2⟩
        · dsimp only
          rw [List.map_cons, List.map_cons, List.cons_append]
          refine List.nodup_cons.2 ⟨fun hm => ?_, hnd⟩
          have hsn : seenB s x.block.toNat := by
            rcases List.mem_append.1 hm with hm | hm
            · rcases List.mem_cons.1 hm with e1 | hm
              · have e1 : x.block.toNat = b := e1
                rw [e1]; exact hb.2.2
              · obtain ⟨y, hy, hy2⟩ := List.mem_map.1 hm
                have hy2 : y.1 = x.block.toNat := hy2
                rw [← hy2]
                exact (h.stk y (by rw [hs]; exact List.mem_cons_of_mem _ hy)).2.2
            · exact (h.out _ hm).2
          exact hns _ hsn rfl
        · intro v hv
          unfold seenB at hv
          dsimp only at hv ⊢
          by_cases hvx : v = x.block.toNat
          · subst hvx; exact .inl (List.mem_cons_self ..)
          · rw [List.getElem?_set_ne (Ne.symm hvx)] at hv
            rcases h.cover v hv with hc | hc
            · rw [hs] at hc
              exact .inl (List.mem_cons_of_mem _ hc)
            · exact .inr hc
        · exact fun v hv y hy => seen_mono (h.closedO v hv y hy)
        · intro y hy i z hi hz
          rcases List.mem_cons.1 hy with rfl | hy
          · exact absurd hi (Nat.not_lt_zero _)
          · rcases List.mem_cons.1 hy with rfl | hy
            · dsimp only at hi hz
              by_cases hie : i = e
              · subst hie
                rw [hx] at hz
                injection hz with hz
                subst hz
                exact hnew
              · exact seen_mono (h.closedS (b, e) (by rw [hs]; exact List.mem_cons_self ..) i z (by show i < e; omega) hz)
            · exact seen_mono (h.closedS y (by rw [hs]; exact List.mem_cons_of_mem _ hy) i z hi hz)
        · exact ⟨⟨x, hxm, rfl⟩, StackOk.head (x := (b, e)) (y := (b, e + 1)) rfl hch⟩
        · intro i v hi h0
          obtain ⟨p, hp1, hp2⟩ := h.par i v hi h0
          refine ⟨p, hp1, hp2.imp (fun hp2 => ?_) id⟩
          rw [hs] at hp2
          exact List.mem_cons_of_mem _ hp2
        · intro hst; cases hst
      · rename_i hu
        have hsx : seenB s x.block.toNat := by
          unfold seenB
          cases hv : s.seen[x.block.toNat]? with
          | none =>
            have := List.getElem?_eq_none_iff.1 hv
            rw [h.len] at this
            omega
          | some v =>
            cases v with
            | true => rfl
            | false => exact absurd hv hu
        refine ⟨⟨h.len, ?_⟩, h.out, ?_, ?_, h.closedO, ?_, ?_, ?_, ?_⟩
        · intro y hy
          rcases List.mem_cons.1 hy with rfl | hy
          · exact ⟨hb.1, hlt, hb.2.2⟩
          · exact h.stk y (by rw [hs]; exact List.mem_cons_of_mem _ hy)
        · exact hnd
        · intro v hv
          rcases h.cover v hv with hc | hc
          · rw [hs] at hc; exact .inl hc
          · exact .inr hc
        · intro y hy i z hi hz
          rcases List.mem_cons.1 hy with rfl | hy
          · dsimp only at hi hz
            by_cases hie : i = e
            · subst hie
              rw [hx] at hz
              injection hz with hz
              subst hz
              exact hsx
            · exact h.closedS (b, e) (by rw [hs]; exact List.mem_cons_self ..) i z (by show i < e; omega) hz
          · exact h.closedS y (by rw [hs]; exact List.mem_cons_of_mem _ hy) i z hi hz
        · exact StackOk.head (x := (b, e)) (y := (b, e + 1)) rfl hch
        · intro i v hi h0
          obtain ⟨p, hp1, hp2⟩ := h.par i v hi h0
          refine ⟨p, hp1, hp2.imp (fun hp2 => ?_) id⟩
          rw [hs] at hp2
          exact hp2
        · intro hst; cases hst
theorem nodup_lt {l : List Nat} {n : Nat} (h : l.Nodup) (hr : ∀ v ∈ l, v < n) : l.length ≤ n := by
  have := h.length_le_of_subset (l₂ := List.range n) fun v hv => List.mem_range.2 (hr v hv)
  simpa using this
theorem dfs_small {bs : List SBlock} {s : DState} (h : DfsInv bs s) : s.stack.length ≤ bs.length ∧ s.out.length ≤ bs.length := by
  have h1 := (List.nodup_append.1 h.nodup).1
  have h2 := (List.nodup_append.1 h.nodup).2.1
  have := nodup_lt h1 (n := bs.length) fun v hv => by
    obtain ⟨x, hx, rfl⟩ := List.mem_map.1 hv
    exact (h.stk x hx).1
  exact ⟨by simpa using this, nodup_lt h2 fun v hv => (h.out v hv).1⟩
theorem start_inv {bs : List SBlock} (h0 : 0 < bs.length) : DfsInv bs (dfsStart bs.length) := by
  have hs : (dfsStart bs.length).seen[0]? = some true := by
    show ((List.replicate bs.length false).set 0 true)[0]? = some true
    rw [List.getElem?_set, if_pos rfl, if_pos (by simpa using h0)]
  refine ⟨⟨by simp [dfsStart], fun x hx => ?_⟩, fun v hv => (by cases hv), by simp [dfsStart], fun v hv => ?_, fun v hv => (by cases hv), fun y hy i x hi => ?_, rfl, fun i v hi => (by simp [dfsStart] at hi), fun h => (by cases h)⟩
  · have hx := List.mem_singleton.1 hx
    subst hx
    exact ⟨h0, Nat.zero_le _, hs⟩
  · by_cases hv0 : v = 0
    · subst hv0; exact .inl (List.mem_cons_self ..)
    · unfold seenB at hv
      have : ((List.replicate bs.length false).set 0 true)[v]? = some true := hv
      rw [List.getElem?_set_ne (Ne.symm hv0), List.getElem?_replicate] at this
      split at this <;> cases this
  · have hy := List.mem_singleton.1 hy
    subst hy
    exact absurd hi (Nat.not_lt_zero _)
theorem run_inv {bs : List SBlock} (hE : ∀ b ∈ bs, ∀ e ∈ b.term.to, 1 ≤ e.block ∧ e.block < bs.length) : ∀ (n : Nat) (s : DState), DfsInv bs s → dfsW bs s ≤ n → DfsInv bs (dfsRun bs n s) ∧ (dfsRun bs n s).stack = []
  | 0, s, h, hw => by
    refine ⟨h, ?_⟩
    show s.stack = []
    cases hs : s.stack with
    | nil => rfl
    | cons x st =>
      have hb := h.stk x (by rw [hs]; exact List.mem_cons_self ..)
      unfold dfsW at hw
      rw [hs] at hw
      obtain ⟨b, e⟩ := x
      simp only [stackW, cost] at hw
      dsimp only at hb
      omega
  | n + 1, s, h, hw => by
    rw [dfsRun]
    split
    · rename_i he; exact ⟨h, he⟩
    · rename_i hne
      have := step_w h.toDfsInv0 hne
      exact run_inv hE n _ (step_inv hE h) (by omega)
theorem unseen_start (bs : List SBlock) : ∀ (l : List SBlock) (k : Nat), (∀ i b, l[i]? = some b → bs[k + i]? = some b) → unseenW bs k (List.replicate l.length false) = edgesN l + l.length
  | [], k, _ => rfl
  | b :: l, k, h => by
    have h1 := unseen_start bs l (k + 1) fun i b hb => by
      have := h (i + 1) b (by simpa using hb)
      rwa [show k + (i + 1) = k + 1 + i by omega] at this
    have h2 := h 0 b rfl
    rw [Nat.add_zero] at h2
    rw [List.length_cons, List.replicate_succ, unseenW, h1, edgesN, cost, toAt_get h2]
    simp
    omega
theorem start_weight {bs : List SBlock} (h0 : 0 < bs.length) : dfsW bs (dfsStart bs.length) = edgesN bs + bs.length := by
  have h1 := unseen_start bs bs 0 fun i b hb => by rw [Nat.zero_add]; exact hb
  have h2 := unseen_set bs (List.replicate bs.length false) 0 0 (by rw [List.getElem?_replicate, if_pos h0])
  unfold dfsW dfsStart
  simp only [stackW]
  rw [Nat.zero_add] at h2
  omega
structure OrderOk (bs : List SBlock) (l : List Nat) : Prop where
  nodup : l.Nodup
  lt : ∀ v ∈ l, v < bs.length
  zero : l[0]? = some 0
  closed : ∀ v ∈ l, ∀ w, Edge bs v w → w ∈ l
  par : ∀ (j v : Nat), l[j]? = some v → v ≠ 0 → ∃ i p, i < j ∧ l[i]? = some p ∧ Edge bs p v
theorem order_ok {bs : List SBlock} (h0 : 0 < bs.length) (hE : ∀ b ∈ bs, ∀ e ∈ b.term.to, 1 ≤ e.block ∧ e.block < bs.length) : OrderOk bs (orderF bs) := by
  obtain ⟨h, hst⟩ := run_inv hE (edgesN bs + bs.length) _ (start_inv h0) (by rw [start_weight h0]; exact Nat.le_refl _)
  have hpo : postF bs = (dfsRun bs (edgesN bs + bs.length) (dfsStart bs.length)).out := rfl
  unfold orderF
  rw [hpo]
  generalize dfsRun bs (edgesN bs + bs.length) (dfsStart bs.length) = s at *
  have hn := h.nodup
  have hcov := h.cover
  rw [hst] at hn hcov
  refine ⟨(List.reverse_perm _).nodup_iff.2 (by simpa using hn), fun v hv => (h.out v (List.mem_reverse.1 hv)).1, ?_, ?_, ?_⟩
  · obtain ⟨l, hl⟩ := h.root hst
    rw [hl]
    simp
  · rintro v hv w ⟨x, hx, rfl⟩
    have := h.closedO v (List.mem_reverse.1 hv) x hx
    rcases hcov _ this with hc | hc
    · cases hc
    · exact List.mem_reverse.2 hc
  · intro j v hj h0
    have hjl := (List.getElem?_eq_some_iff.1 hj).1
    rw [List.length_reverse] at hjl
    rw [List.getElem?_reverse hjl] at hj
    obtain ⟨p, hp, hp2⟩ := h.par _ v hj h0
    rcases hp2 with hp2 | ⟨i, hi, hi2⟩
    · rw [hst] at hp2; cases hp2
    · have hil := (List.getElem?_eq_some_iff.1 hi2).1
      refine ⟨s.out.length - 1 - i, p, by omega, ?_, hp⟩
      rw [List.getElem?_reverse (by omega)]
      rw [show s.out.length - 1 - (s.out.length - 1 - i) = i by omega]
      exact hi2
theorem post_len {bs : List SBlock} (h0 : 0 < bs.length) (hE : ∀ b ∈ bs, ∀ e ∈ b.term.to, 1 ≤ e.block ∧ e.block < bs.length) : (postF bs).length ≤ bs.length := by
  have h := order_ok h0 hE
  have := nodup_lt h.nodup h.lt
  rw [orderF, List.length_reverse] at this
  exact this
end Go.SM
end
section
set_option linter.unusedVariables false
set_option linter.unusedSimpArgs false
set_option linter.unusedSectionVars false
namespace Go.SM
open Go.VL
def gI (l : List Int) (i : Int) : Int := l[i.toNat]?.getD 0
def meetF (ov pl : List Int) : Nat → Int → Int → Int
  | 0, a, _ => a
  | n + 1, a, b => if a = b then a else if gI pl a > gI pl b then meetF ov pl n (gI ov a) b else meetF ov pl n a (gI ov b)
def skipP (ov pl : List Int) (p : Int) : Bool := decide (gI pl p < 0) || (decide (p ≠ 0) && decide (gI ov p < 0))
def nextL (ov pl : List Int) (m : Nat) : Int → List Int → Int
  | cur, [] => cur
  | cur, p :: ps => nextL ov pl m (if skipP ov pl p then cur else if cur < 0 then p else meetF ov pl m cur p) ps
def placeF (ord : List Int) (n : Nat) : List Int := (List.range n).map fun k : Nat => idxOf (fun x => decide ((k : Int) = x)) ord
structure TState where
  ov : List Int
  again : Bool
def ordZ (bs : List SBlock) : List Int := (orderF bs).map fun k : Nat => (k : Int)
def placeZ (bs : List SBlock) : List Int := placeF (ordZ bs) bs.length
theorem idx_nat {l : List Nat} {v : Nat} : idxOf (fun x => decide ((v : Int) = x)) (l.map fun k : Nat => (k : Int)) = -1 ∧ v ∉ l ∨ ∃ i, idxOf (fun x => decide ((v : Int) = x)) (l.map fun k : Nat => (k : Int)) = (i : Nat) ∧ l[i]? = some v := by
  rcases idxOf_range (fun x => decide ((v : Int) = x)) (l.map fun k : Nat => (k : Int)) with ⟨h1, h2⟩ | ⟨i, x, h1, h2, h3, _⟩
  · refine .inl ⟨h1, fun hm => ?_⟩
    rw [List.any_eq_false] at h2
    exact h2 (v : Int) (List.mem_map.2 ⟨v, hm, rfl⟩) (by simp)
  · refine .inr ⟨i, h1, ?_⟩
    rw [List.getElem?_map] at h2
    obtain ⟨w, hw, rfl⟩ := Option.map_eq_some_iff.1 h2
    rw [hw]
    have : (v : Int) = (w : Int) := by simpa using h3
    congr 1
    omega
theorem place_get {bs : List SBlock} {v : Nat} (hv : v < bs.length) : gI (placeZ bs) v = -1 ∧ v ∉ orderF bs ∨ ∃ i, gI (placeZ bs) v = (i : Nat) ∧ (orderF bs)[i]? = some v := by
  have : gI (placeZ bs) v = idxOf (fun x => decide ((v : Int) = x)) (ordZ bs) := by
    unfold gI placeZ placeF
    rw [Int.toNat_natCast, List.getElem?_map, List.getElem?_range hv]
    rfl
  rw [this]
  exact idx_nat
def pos (bs : List SBlock) (v : Nat) : Nat := (gI (placeZ bs) v).toNat
section
variable {bs : List SBlock} (ho : OrderOk bs (orderF bs))
include ho
theorem place_of {v : Nat} (hv : v ∈ orderF bs) : gI (placeZ bs) v = (pos bs v : Nat) ∧ (orderF bs)[pos bs v]? = some v := by
  rcases place_get (ho.lt v hv) with ⟨_, h⟩ | ⟨i, h1, h2⟩
  · exact absurd hv h
  · unfold pos
    rw [h1, Int.toNat_natCast]
    exact ⟨rfl, h2⟩
theorem pos_of_get {v i : Nat} (h : (orderF bs)[i]? = some v) : pos bs v = i := by
  have := (place_of ho (List.mem_of_getElem? h)).2
  exact (List.getElem?_inj (List.getElem?_eq_some_iff.1 this).1 ho.nodup).1 (this.trans h.symm)
theorem pos_inj {v w : Nat} (hv : v ∈ orderF bs) (hw : w ∈ orderF bs) (h : pos bs v = pos bs w) : v = w := by
  have h1 := (place_of ho hv).2
  have h2 := (place_of ho hw).2
  rw [h, h2] at h1
  injection h1 with h1
  exact h1.symm
theorem pos_lt {v : Nat} (hv : v ∈ orderF bs) : pos bs v < bs.length := by
  have := (List.getElem?_eq_some_iff.1 (place_of ho hv).2).1
  have := nodup_lt ho.nodup ho.lt
  omega
theorem zero_mem : 0 ∈ orderF bs := List.mem_of_getElem? ho.zero
theorem par_of {v : Nat} (hv : v ∈ orderF bs) (h0 : v ≠ 0) : ∃ p, p ∈ orderF bs ∧ pos bs p < pos bs v ∧ Edge bs p v := by
  obtain ⟨i, p, hi, hp, he⟩ := ho.par _ v (place_of ho hv).2 h0
  exact ⟨p, List.mem_of_getElem? hp, by rw [pos_of_get ho hp]; exact hi, he⟩
open Classical in
omit ho in
noncomputable def pi (bs : List SBlock) (v : Nat) : Nat := if h : ∃ p, p ∈ orderF bs ∧ pos bs p < pos bs v ∧ Edge bs p v then Classical.choose h else 0
end
inductive Anc (ov : List Int) : Nat → Nat → Prop where
  | refl (a : Nat) : Anc ov a a
  | step {a q x : Nat} : ov[a]? = some (q : Int) → Anc ov q x → Anc ov a x
inductive AncP (bs : List SBlock) : Nat → Nat → Prop where
  | refl (a : Nat) : AncP bs a a
  | step {a x : Nat} : a ≠ 0 → AncP bs (pi bs a) x → AncP bs a x
theorem Anc.trans {ov : List Int} {a b c : Nat} (h : Anc ov a b) (k : Anc ov b c) : Anc ov a c := by
  induction h with
  | refl => exact k
  | step h _ ih => exact .step h (ih k)
structure Tree (bs : List SBlock) (ov : List Int) : Prop where
  len : ov.length = bs.length
  root : ov[0]? = some (-1)
  out : ∀ v, v < bs.length → v ∉ orderF bs → ov[v]? = some (-1)
  up : ∀ (v : Nat) (x : Int), v ∈ orderF bs → v ≠ 0 → ov[v]? = some x → 0 ≤ x → ∃ q : Nat, x = q ∧ q ∈ orderF bs ∧ pos bs q < pos bs v ∧ (q = 0 ∨ ∃ y : Int, ov[q]? = some y ∧ 0 ≤ y)
  low : ∀ (v : Nat) (x : Int), ov[v]? = some x → x < 0 → x = -1
def InT (bs : List SBlock) (ov : List Int) (v : Nat) : Prop := v ∈ orderF bs ∧ (v = 0 ∨ ∃ x : Int, ov[v]? = some x ∧ 0 ≤ x)
section
variable {bs : List SBlock} (ho : OrderOk bs (orderF bs)) {ov : List Int}
include ho
theorem Tree.parent (h : Tree bs ov) {v : Nat} (hv : InT bs ov v) (h0 : v ≠ 0) : ∃ q : Nat, ov[v]? = some (q : Int) ∧ InT bs ov q ∧ pos bs q < pos bs v := by
  obtain ⟨hm, hv⟩ := hv
  rcases hv with hv | ⟨x, hx, hx0⟩
  · exact absurd hv h0
  · obtain ⟨q, rfl, h1, h2, h3⟩ := h.up v x hm h0 hx hx0
    exact ⟨q, hx, ⟨h1, h3⟩, h2⟩
theorem Tree.anc (h : Tree bs ov) {v x : Nat} (hv : InT bs ov v) (ha : Anc ov v x) : InT bs ov x ∧ pos bs x ≤ pos bs v ∧ (x ≠ v → pos bs x < pos bs v) := by
  induction ha with
  | refl a => exact ⟨hv, Nat.le_refl _, fun h => absurd rfl h⟩
  | @step a q x hq _ ih =>
    by_cases h0 : a = 0
    · subst h0
      rw [h.root] at hq
      injection hq with hq
      omega
    · obtain ⟨q', hq', hi, hp⟩ := h.parent ho hv h0
      rw [hq] at hq'
      injection hq' with hq'
      have : q = q' := by omega
      subst this
      have := ih hi
      exact ⟨this.1, by omega, fun _ => by omega⟩
theorem Tree.zero (h : Tree bs ov) {x : Nat} (ha : Anc ov 0 x) : x = 0 := by
  cases ha with
  | refl => rfl
  | step hq _ =>
    rw [h.root] at hq
    injection hq with hq
    omega
theorem Tree.cases (h : Tree bs ov) {v q x : Nat} (hq : ov[v]? = some (q : Int)) (ha : Anc ov v x) : x = v ∨ Anc ov q x := by
  cases ha with
  | refl => exact .inl rfl
  | @step _ q' _ hq' k =>
    rw [hq] at hq'
    injection hq' with hq'
    have : q = q' := by omega
    subst this
    exact .inr k
theorem Tree.chain (h : Tree bs ov) {v x y : Nat} (hv : InT bs ov v) (hx : Anc ov v x) (hy : Anc ov v y) (hp : pos bs x ≤ pos bs y) : Anc ov y x := by
  induction hx with
  | refl a =>
    have := h.anc ho hv hy
    have : pos bs y = pos bs a := by omega
    rw [pos_inj ho (h.anc ho hv hy).1.1 hv.1 this]
    exact .refl _
  | @step a q x hq ha ih =>
    by_cases h0 : a = 0
    · subst h0
      rw [h.root] at hq
      injection hq with hq
      omega
    · obtain ⟨q', hq', hi, _⟩ := h.parent ho hv h0
      rw [hq] at hq'
      injection hq' with hq'
      have : q = q' := by omega
      subst this
      rcases h.cases ho hq hy with rfl | hy
      · exact .step hq ha
      · exact ih hi hy hp
theorem gI_get {l : List Int} {v : Nat} {x : Int} (h : l[v]? = some x) : gI l v = x := by rw [gI, Int.toNat_natCast, h]; rfl
theorem InT.fuel {v : Nat} (h : InT bs ov v) : pos bs v < bs.length := pos_lt ho h.1
end
end Go.SM
end
section
set_option linter.unusedVariables false
set_option linter.unusedSimpArgs false
set_option linter.unusedSectionVars false
namespace Go.SM
open Go.VL
structure TInv (bs : List SBlock) (ov : List Int) (i : Nat) : Prop where
  tree : Tree bs ov
  done : ∀ (j v : Nat), j < i → (orderF bs)[j]? = some v → InT bs ov v
  down : ∀ (v w : Nat), InT bs ov v → w ∈ orderF bs → pos bs w < pos bs v → InT bs ov w
  anc : ∀ (v x : Nat), InT bs ov v → Anc ov v x → AncP bs v x
  most : ∀ (v q : Nat), InT bs ov v → v ≠ 0 → ov[v]? = some (q : Int) → ∀ y, (∀ p, Edge bs p v → InT bs ov p → Anc ov p y) → pos bs y ≤ pos bs q
  past : ∀ (v : Nat), v ∈ orderF bs → pos bs v < i → ∀ q x, AncP bs v q → Anc ov v x → pos bs x ≤ pos bs q → Anc ov q x
theorem AncP.ne {bs : List SBlock} {v x : Nat} (h : AncP bs v x) (hx : x ≠ v) : v ≠ 0 ∧ AncP bs (pi bs v) x := by
  cases h with
  | refl => exact absurd rfl hx
  | step h0 k => exact ⟨h0, k⟩
def hW (bs : List SBlock) (x : Int) : Nat := if x < 0 then bs.length else pos bs x.toNat
section
variable {bs : List SBlock} (ho : OrderOk bs (orderF bs)) (hE : ∀ b ∈ bs, ∀ e ∈ b.term.to, 1 ≤ e.block ∧ e.block < bs.length) {ov : List Int}
include ho
theorem edge_mem {p v : Nat} (hp : p ∈ orderF bs) (he : Edge bs p v) : v ∈ orderF bs := ho.closed p hp v he
structure TreeOk (bs : List SBlock) (ov : List Int) : Prop where
  inv : TInv bs ov 1
  all : ∀ v, v ∈ orderF bs → InT bs ov v
  fix : ∀ v, v ∈ orderF bs → v ≠ 0 → gI ov v = nextL ov (placeZ bs) (2 * bs.length + 1) (-1) ((predsF bs)[v]?.getD [])
end
end Go.SM
end
section
set_option linter.unusedVariables false
set_option linter.unusedSimpArgs false
set_option linter.unusedSectionVars false
namespace Go.SM
open Go.VL
section
variable {bs : List SBlock} (ho : OrderOk bs (orderF bs)) {ov : List Int}
include ho
structure Up (bs : List SBlock) (ov : List Int) (a : Nat) (l : List Int) (k : Int) (n : Nat) : Prop where
  len : l.length = n
  at_ : k = -1 ∨ ∃ v : Nat, k = v ∧ InT bs ov v ∧ n + pos bs v ≤ pos bs a
  mem : ∀ y : Nat, Anc ov a y ↔ (y : Int) ∈ l ∨ ∃ v : Nat, k = v ∧ Anc ov v y
  le : n ≤ bs.length
omit ho in
structure Climb (bs : List SBlock) (ov : List Int) (a b : Nat) (v n : Nat) : Prop where
  at_ : Anc ov b v
  bound : n + pos bs v ≤ pos bs b
  none : ∀ y, Anc ov b y → pos bs v < pos bs y → ¬ Anc ov a y
omit ho in
end
end Go.SM
end
section
set_option linter.unusedVariables false
set_option linter.unusedSimpArgs false
namespace Go.SM
open Go.VL
def reachL (f : SFunc) : List Int := (ordZ f.blocks).mergeSort fun x y => decide (x ≤ y)
theorem reach_mem {f : SFunc} {v : Nat} : (v : Int) ∈ reachL f ↔ v ∈ orderF f.blocks := by
  unfold reachL
  rw [List.mem_mergeSort, ordZ, List.mem_map]
  constructor
  · rintro ⟨k, hk, e⟩
    have : k = v := by omega
    rwa [← this]
  · intro h
    exact ⟨v, h, rfl⟩
theorem reach_len (f : SFunc) : (reachL f).length = (orderF f.blocks).length := by rw [reachL, List.length_mergeSort, ordZ, List.length_map]
section
variable {bs : List SBlock} (ho : OrderOk bs (orderF bs)) {ov : List Int}
include ho
end
end Go.SM
end
section
set_option linter.unusedVariables false
set_option linter.unusedSimpArgs false
namespace Go.SM
open Go.VL
section
variable {bs : List SBlock} (ho : OrderOk bs (orderF bs)) {ov : List Int}
include ho
end
end Go.SM
end
section
set_option linter.unusedVariables false
set_option linter.unusedSimpArgs false
namespace Go.SM
open Go.VL
theorem again_keep {n : Nat} {d d' : Dom} (h : StepW n d d') (ha : d'.again = false) : d' = d := by
  rcases h.2 with h | ⟨h, _⟩
  · exact h
  · rw [ha] at h; cases h
theorem edges_fix {n k : Nat} (hk : k < n) : ∀ {l : List SEdge} {d : Dom}, DomOk n d → (∀ e ∈ l, 1 ≤ e.block ∧ e.block < n) → (l.foldl (domEdge k) d).again = false → l.foldl (domEdge k) d = d ∧ ∀ e ∈ l, domEdge k d e = d
  | [], d, _, _, _ => ⟨rfl, fun e he => by cases he⟩
  | e :: l, d, ok, h, ha => by
    have h1 := domEdge_w ok hk (h e (List.mem_cons_self ..)).1 (h e (List.mem_cons_self ..)).2
    have hl := fun x hx => h x (List.mem_cons_of_mem e hx)
    have h2 := edges_w hk h1.1 hl
    rw [List.foldl_cons] at ha ⊢
    have e2 := again_keep h2 ha
    have e1 : domEdge k d e = d := again_keep h1 (by rw [← e2]; exact ha)
    rw [e1] at ha ⊢
    obtain ⟨g1, g2⟩ := edges_fix hk ok hl ha
    refine ⟨g1, fun x hx => ?_⟩
    rcases List.mem_cons.1 hx with rfl | hx
    · exact e1
    · exact g2 x hx
theorem block_fix {n k : Nat} {b : SBlock} {d : Dom} (hk : k < n) (ok : DomOk n d) (h : ∀ e ∈ b.term.to, 1 ≤ e.block ∧ e.block < n) (ha : (domBlock d k b).again = false) : domBlock d k b = d ∧ (d.seen.has k = true → ∀ e ∈ b.term.to, domEdge k d e = d) := by
  unfold domBlock at ha ⊢
  split
  · rename_i hs
    rw [if_pos hs] at ha
    obtain ⟨h1, h2⟩ := edges_fix hk ok h ha
    exact ⟨h1, fun _ => h2⟩
  · rename_i hs
    exact ⟨rfl, fun h => absurd h hs⟩
theorem pass_fix {n : Nat} : ∀ {l : List SBlock} {k : Nat} {d : Dom}, k + l.length = n → DomOk n d → (∀ b ∈ l, ∀ e ∈ b.term.to, 1 ≤ e.block ∧ e.block < n) → (domPass k l d).again = false →
    ∀ (j : Nat) (b : SBlock), l[j]? = some b → d.seen.has (k + j) = true → ∀ e ∈ b.term.to, domEdge (k + j) d e = d
  | [], k, d, _, _, _, _, j, b, hb => by simp at hb
  | c :: l, k, d, hl, ok, h, ha, j, b, hb => by
    have hl' : k + (l.length + 1) = n := hl
    have h1 := block_w (k := k) (by omega) ok (h c (List.mem_cons_self ..))
    have hr := fun x hx => h x (List.mem_cons_of_mem c hx)
    have h2 := pass_w (l := l) (k := k + 1) (by omega) h1.1 hr
    rw [domPass] at ha
    have e2 := again_keep h2 ha
    have ha1 : (domBlock d k c).again = false := by rw [← e2]; exact ha
    obtain ⟨e1, g⟩ := block_fix (by omega) ok (h c (List.mem_cons_self ..)) ha1
    rw [e1] at ha
    cases j with
    | zero =>
      simp at hb
      subst hb
      exact g
    | succ j =>
      simp at hb
      have := pass_fix (by omega) ok hr ha j b hb
      rwa [show k + 1 + j = k + (j + 1) by omega] at this
structure DomFix (bs : List SBlock) (d : Dom) : Prop where
  ok : DomOk bs.length d
  seen0 : d.seen.has 0 = true
  at0 : d.at 0 = BSet.with noSet 0
  fix : ∀ (k : Nat) (b : SBlock), bs[k]? = some b → d.seen.has k = true → ∀ e ∈ b.term.to, domEdge k d e = d
def DomZ (n : Nat) (d : Dom) : Prop := d.seen.has 0 = true ∧ d.at 0 = BSet.with noSet 0
theorem edge_z {n k : Nat} {d : Dom} {e : SEdge} (ok : DomOk n d) (h1 : 1 ≤ e.block) (h2 : e.block < n) (hz : DomZ n d) : DomZ n (domEdge k d e) := by
  unfold domEdge
  dsimp only
  have hn := ok.le
  split
  · refine ⟨?_, ?_⟩
    · rw [has_with _ (by omega) (by omega), hz.1]; rfl
    · rw [at_set (by rw [ok.len]; omega), if_neg (by omega)]; exact hz.2
  · exact hz
theorem edges_z {n k : Nat} (hk : k < n) : ∀ {l : List SEdge} {d : Dom}, DomOk n d → (∀ e ∈ l, 1 ≤ e.block ∧ e.block < n) → DomZ n d → DomZ n (l.foldl (domEdge k) d)
  | [], d, _, _, hz => hz
  | e :: l, d, ok, h, hz => by
    have he := h e (List.mem_cons_self ..)
    show DomZ n (l.foldl (domEdge k) (domEdge k d e))
    exact edges_z (l := l) hk (domEdge_w ok hk he.1 he.2).1 (fun x hx => h x (List.mem_cons_of_mem e hx)) (edge_z ok he.1 he.2 hz)
theorem block_z {n k : Nat} {b : SBlock} {d : Dom} (hk : k < n) (ok : DomOk n d) (h : ∀ e ∈ b.term.to, 1 ≤ e.block ∧ e.block < n) (hz : DomZ n d) : DomZ n (domBlock d k b) := by
  unfold domBlock
  split
  · exact edges_z hk ok h hz
  · exact hz
theorem pass_z {n : Nat} : ∀ {l : List SBlock} {k : Nat} {d : Dom}, k + l.length = n → DomOk n d → (∀ b ∈ l, ∀ e ∈ b.term.to, 1 ≤ e.block ∧ e.block < n) → DomZ n d → DomZ n (domPass k l d)
  | [], k, d, _, _, _, hz => hz
  | c :: l, k, d, hl, ok, h, hz => by
    have hl' : k + (l.length + 1) = n := hl
    show DomZ n (domPass (k + 1) l (domBlock d k c))
    exact pass_z (l := l) (by omega) (block_w (k := k) (by omega) ok (h c (List.mem_cons_self ..))).1 (fun x hx => h x (List.mem_cons_of_mem c hx)) (block_z (by omega) ok (h c (List.mem_cons_self ..)) hz)
theorem domIter_fix {bs : List SBlock} (h : ∀ b ∈ bs, ∀ e ∈ b.term.to, 1 ≤ e.block ∧ e.block < bs.length) : ∀ (n : Nat) (d : Dom), DomOk bs.length d → DomZ bs.length d → weight bs.length d + (if d.again then 1 else 0) ≤ n → (d.again = false → DomFix bs d) → DomFix bs (domIter bs n d)
  | 0, d, ok, hz, hw, hf => by
    cases ha : d.again with
    | false => exact hf ha
    | true => rw [ha, if_pos rfl] at hw; omega
  | n + 1, d, ok, hz, hw, hf => by
    cases ha : d.again with
    | false => rw [domIter, if_neg (by rw [ha]; decide)]; exact hf ha
    | true =>
      obtain ⟨n', e, h1, h2, h3⟩ := round ok h hw ha
      have : n = n' := by omega
      subst this
      have ok0 : DomOk bs.length { d with again := false } := ⟨ok.len, ok.le, ok.self⟩
      have hz1 : DomZ bs.length (domPass 0 bs { d with again := false }) := pass_z (by omega) ok0 h hz
      rw [h1]
      refine domIter_fix h n _ h2 hz1 h3 fun ha2 => ?_
      have e2 := again_keep (pass_w (l := bs) (k := 0) (by omega) ok0 h) ha2
      have hfx := pass_fix (l := bs) (k := 0) (by omega) ok0 h ha2
      rw [e2] at hz1 ⊢
      exact ⟨ok0, hz1.1, hz1.2, fun k b hb hs => by have := hfx k b hb (by rw [Nat.zero_add]; exact hs); rwa [Nat.zero_add] at this⟩
theorem dom_fix {bs : List SBlock} (h0 : 0 < bs.length) (hn : bs.length ≤ 128) (h : ∀ b ∈ bs, ∀ e ∈ b.term.to, 1 ≤ e.block ∧ e.block < bs.length) : DomFix bs (domF bs) := by
  refine domIter_fix h _ _ (start_ok h0 hn) ⟨?_, ?_⟩ ?_ fun h => by cases h
  · show (BSet.with noSet 0).has 0 = true
    rw [has_with _ (by omega) (by omega)]
    simp
  · unfold domStart Dom.at
    rw [List.getElem?_set, if_pos rfl, if_pos (by simpa using h0)]
    rfl
  · have := start_w bs.length
    have ha : (domStart bs.length).again = true := rfl
    rw [ha, if_pos rfl, domFuel]
    omega
inductive Way (bs : List SBlock) : List Nat → Nat → Prop where
  | start : Way bs [] 0
  | step {l : List Nat} {p k : Nat} : Way bs l p → Edge bs p k → Way bs (p :: l) k
theorem dom_way {bs : List SBlock} {d : Dom} (hd : DomFix bs d) (h : ∀ b ∈ bs, ∀ e ∈ b.term.to, 1 ≤ e.block ∧ e.block < bs.length) {l : List Nat} {k : Nat} (hw : Way bs l k) : d.seen.has k = true ∧ k < 128 ∧ ∀ j, j < 128 → (d.at k).has j = true → j = k ∨ j ∈ l := by
  induction hw with
  | start =>
    refine ⟨hd.seen0, by omega, fun j hj hh => ?_⟩
    rw [hd.at0, has_with _ (by omega) hj, has_no, Bool.false_or, decide_eq_true_eq] at hh
    exact .inl hh
  | @step l p k hw he ih =>
    obtain ⟨hs, hp, ih⟩ := ih
    obtain ⟨e, hem, rfl⟩ := he
    obtain ⟨b, hb, hem⟩ : ∃ b, bs[p]? = some b ∧ e ∈ b.term.to := by
      unfold toAt at hem
      cases hb : bs[p]? with
      | none => rw [hb] at hem; cases hem
      | some b => rw [hb] at hem; exact ⟨b, rfl, hem⟩
    have hr := h b (List.mem_of_getElem? hb) e hem
    have hn := hd.ok.le
    have ht : e.block.toNat < 128 := by omega
    have hfx := hd.fix p b hb hs e hem
    unfold domEdge at hfx
    dsimp only at hfx
    split at hfx
    · rename_i hc
      -- a change cannot leave all as it was
      exfalso
      have h1 : (d.over.set e.block.toNat (((d.at e.block.toNat).both (d.at p)).with e.block.toNat))[e.block.toNat]? = d.over[e.block.toNat]? := by
        have := congrArg Dom.over hfx
        dsimp only at this
        rw [this]
      have h2 := congrArg Dom.seen hfx
      dsimp only at h2
      rcases hc with hc | hc
      · rw [List.getElem?_set, if_pos rfl, if_pos (by rw [hd.ok.len]; omega)] at h1
        have h3 : d.at e.block.toNat = ((d.at e.block.toNat).both (d.at p)).with e.block.toNat := (congrArg (fun o : Option BSet => o.getD noSet) h1).symm
        exact hc h3.symm
      · rw [← h2, has_with _ ht ht] at hc
        simp at hc
    · rename_i hc
      rw [not_or] at hc
      obtain ⟨h1, h2⟩ := hc
      have h1 := Classical.not_not.1 h1
      refine ⟨by simpa using h2, ht, fun j hj hh => ?_⟩
      rw [← h1, has_with _ ht hj, has_both, Bool.or_eq_true, Bool.and_eq_true, decide_eq_true_eq] at hh
      rcases hh with hh | hh
      · rcases ih j hj hh.2 with h3 | h3
        · exact .inr (by rw [h3]; exact List.mem_cons_self ..)
        · exact .inr (List.mem_cons_of_mem _ h3)
      · exact .inl hh
end Go.SM
end
section
set_option linter.unusedVariables false
set_option linter.unusedSimpArgs false
set_option linter.unusedSectionVars false
namespace Go.SM
open Go.VL
def Doms (bs : List SBlock) (x v : Nat) : Prop := ∀ l, Way bs l v → x = v ∨ x ∈ l
theorem doms_pred {bs : List SBlock} {x p v : Nat} (h : Doms bs x v) (hx : x ≠ v) (he : Edge bs p v) : Doms bs x p := fun l hl => by
  rcases h _ (.step hl he) with e | e
  · exact absurd e hx
  · rcases List.mem_cons.1 e with e | e
    · exact .inl e
    · exact .inr e
section
variable {bs : List SBlock} (ho : OrderOk bs (orderF bs)) (hE : ∀ b ∈ bs, ∀ e ∈ b.term.to, 1 ≤ e.block ∧ e.block < bs.length) {ov : List Int}
include ho
end
theorem way_order {f : SFunc} (hf : FuncOk f) {l : List Nat} {v : Nat} (hw : Way f.blocks l v) : v ∈ orderF f.blocks := by
  have ho := order_ok hf.pos hf.edges
  induction hw with
  | start => exact zero_mem ho
  | step hw he ih => exact edge_mem ho ih he
theorem order_way {f : SFunc} (hf : FuncOk f) : ∀ (n v : Nat), pos f.blocks v < n → v ∈ orderF f.blocks → ∃ l, Way f.blocks l v
  | 0, v, hn, _ => by omega
  | n + 1, v, hn, hv => by
    have ho := order_ok hf.pos hf.edges
    by_cases h0 : v = 0
    · subst h0; exact ⟨[], .start⟩
    · obtain ⟨p, hp, hlt, he⟩ := par_of ho hv h0
      obtain ⟨l, hl⟩ := order_way hf n p (by omega) hp
      exact ⟨p :: l, .step hl he⟩
theorem order_iff {f : SFunc} (hf : FuncOk f) {v : Nat} : v ∈ orderF f.blocks ↔ ∃ l, Way f.blocks l v := ⟨fun h => order_way hf _ v (Nat.lt_succ_self _) h, fun ⟨l, h⟩ => way_order hf h⟩
end Go.SM
end
section
set_option linter.unusedVariables false
set_option linter.unusedSimpArgs false
namespace Go.SM
open Go.VL
structure DomMost (bs : List SBlock) (d : Dom) : Prop where
  most : ∀ k j : Nat, k < bs.length → j < bs.length → Doms bs j k → (d.at k).has j = true
  seen : ∀ k : Nat, k < 128 → d.seen.has k = true → ∃ l, Way bs l k
theorem most_start {bs : List SBlock} (h0 : 0 < bs.length) (hn : bs.length ≤ 128) : DomMost bs (domStart bs.length) := by
  refine ⟨fun k j hk hj hd => ?_, fun k hk hs => ?_⟩
  · unfold domStart Dom.at
    dsimp only
    rw [List.getElem?_set]
    split
    · rename_i e
      subst e
      rw [if_pos (by simpa using h0)]
      rcases hd [] .start with e | e
      · subst e
        show (BSet.with noSet 0).has 0 = true
        rw [has_with _ (by omega) (by omega)]
        simp
      · cases e
    · rw [List.getElem?_replicate, if_pos hk]
      show (allSet bs.length).has j = true
      rw [has_all _ hn j (by omega)]
      exact decide_eq_true hj
  · have hs : (BSet.with noSet 0).has k = true := hs
    rw [has_with _ (by omega) hk, has_no, Bool.false_or, decide_eq_true_eq] at hs
    subst hs
    exact ⟨[], .start⟩
theorem most_edge {bs : List SBlock} (hn : bs.length ≤ 128) {d : Dom} (ok : DomOk bs.length d) {k : Nat} {e : SEdge} (hk : k < bs.length) (he : e ∈ toAt bs k) (h1 : 1 ≤ e.block) (h2 : e.block < bs.length) (hs : d.seen.has k = true) (h : DomMost bs d) : DomMost bs (domEdge k d e) := by
  unfold domEdge
  dsimp only
  have hte : Edge bs k e.block.toNat := ⟨e, he, rfl⟩
  split
  · refine ⟨fun v j hv hj hd => ?_, fun v hv hsv => ?_⟩
    · rw [at_set (by rw [ok.len]; omega)]
      split
      · rename_i e1
        subst e1
        rw [has_with _ (by omega) (by omega), has_both]
        by_cases hjt : j = e.block.toNat
        · rw [decide_eq_true hjt, Bool.or_true]
        · rw [h.most _ j hv hj hd, h.most k j hk hj (doms_pred hd hjt hte)]
          rfl
      · exact h.most v j hv hj hd
    · have hsv : (d.seen.with e.block.toNat).has v = true := hsv
      rw [has_with _ (by omega) hv, Bool.or_eq_true, decide_eq_true_eq] at hsv
      rcases hsv with hsv | rfl
      · exact h.seen v hv hsv
      · obtain ⟨l, hl⟩ := h.seen k (by omega) hs
        exact ⟨_, .step hl hte⟩
  · exact h
theorem seen_edge {n k : Nat} {d : Dom} {e : SEdge} (hn : n ≤ 128) (hk : k < n) (h1 : 1 ≤ e.block) (h2 : e.block < n) (hs : d.seen.has k = true) : (domEdge k d e).seen.has k = true := by
  unfold domEdge
  dsimp only
  split
  · rw [has_with _ (by omega) (by omega), hs]; rfl
  · exact hs
theorem most_edges {bs : List SBlock} (hn : bs.length ≤ 128) {k : Nat} (hk : k < bs.length) : ∀ {l : List SEdge} {d : Dom}, DomOk bs.length d → (∀ e ∈ l, e ∈ toAt bs k) → (∀ e ∈ l, 1 ≤ e.block ∧ e.block < bs.length) → d.seen.has k = true → DomMost bs d → DomMost bs (l.foldl (domEdge k) d)
  | [], d, _, _, _, _, h => h
  | e :: l, d, ok, hl, hb, hs, h => by
    have he := hb e (List.mem_cons_self ..)
    show DomMost bs (l.foldl (domEdge k) (domEdge k d e))
    exact most_edges hn hk (l := l) (domEdge_w ok hk he.1 he.2).1 (fun x hx => hl x (List.mem_cons_of_mem _ hx)) (fun x hx => hb x (List.mem_cons_of_mem _ hx)) (seen_edge hn hk he.1 he.2 hs) (most_edge hn ok hk (hl e (List.mem_cons_self ..)) he.1 he.2 hs h)
theorem most_block {bs : List SBlock} (hn : bs.length ≤ 128) {k : Nat} {b : SBlock} {d : Dom} (hb : bs[k]? = some b) (ok : DomOk bs.length d) (hE : ∀ e ∈ b.term.to, 1 ≤ e.block ∧ e.block < bs.length) (h : DomMost bs d) : DomMost bs (domBlock d k b) := by
  unfold domBlock
  split
  · rename_i hs
    exact most_edges hn (List.getElem?_eq_some_iff.1 hb).1 ok (fun e he => by rw [toAt_get hb]; exact he) hE hs h
  · exact h
theorem most_pass {bs : List SBlock} (hn : bs.length ≤ 128) (hE : ∀ b ∈ bs, ∀ e ∈ b.term.to, 1 ≤ e.block ∧ e.block < bs.length) : ∀ {l : List SBlock} {k : Nat} {d : Dom}, bs.drop k = l → DomOk bs.length d → DomMost bs d → DomMost bs (domPass k l d)
  | [], k, d, _, _, h => h
  | c :: l, k, d, hl, ok, h => by
    have hb : bs[k]? = some c := by
      have h9 : (bs.drop k)[0]? = some c := by rw [hl]; rfl
      rwa [List.getElem?_drop, Nat.add_zero] at h9
    have hl2 : bs.drop (k + 1) = l := by
      have h9 : (bs.drop k).drop 1 = l := by rw [hl]; rfl
      rwa [List.drop_drop] at h9
    have hk := (List.getElem?_eq_some_iff.1 hb).1
    have hc := hE c (List.mem_of_getElem? hb)
    show DomMost bs (domPass (k + 1) l (domBlock d k c))
    exact most_pass hn hE hl2 (block_w hk ok hc).1 (most_block hn hb ok hc h)
theorem most_iter {bs : List SBlock} (hn : bs.length ≤ 128) (hE : ∀ b ∈ bs, ∀ e ∈ b.term.to, 1 ≤ e.block ∧ e.block < bs.length) : ∀ (n : Nat) (d : Dom), DomOk bs.length d → DomMost bs d → DomMost bs (domIter bs n d)
  | 0, d, _, h => h
  | n + 1, d, ok, h => by
    rw [domIter]
    split
    · have ok0 : DomOk bs.length { d with again := false } := ⟨ok.len, ok.le, ok.self⟩
      exact most_iter hn hE n _ (pass_w (l := bs) (k := 0) (by omega) ok0 hE).1 (most_pass hn hE rfl ok0 ⟨h.most, h.seen⟩)
    · exact h
theorem dom_most {bs : List SBlock} (h0 : 0 < bs.length) (hn : bs.length ≤ 128) (hE : ∀ b ∈ bs, ∀ e ∈ b.term.to, 1 ≤ e.block ∧ e.block < bs.length) : DomMost bs (domF bs) := most_iter hn hE _ _ (start_ok h0 hn) (most_start h0 hn)
theorem has_iff {bs : List SBlock} (h0 : 0 < bs.length) (hn : bs.length ≤ 128) (hE : ∀ b ∈ bs, ∀ e ∈ b.term.to, 1 ≤ e.block ∧ e.block < bs.length) {k j : Nat} (hk : ∃ l, Way bs l k) (hkl : k < bs.length) (hj : j < bs.length) : ((domF bs).at k).has j = true ↔ Doms bs j k :=
  ⟨fun h l hw => (dom_way (dom_fix h0 hn hE) hE hw).2.2 j (by omega) h, (dom_most h0 hn hE).most k j hkl hj⟩
theorem seen_iff {bs : List SBlock} (h0 : 0 < bs.length) (hn : bs.length ≤ 128) (hE : ∀ b ∈ bs, ∀ e ∈ b.term.to, 1 ≤ e.block ∧ e.block < bs.length) {k : Nat} (hk : k < 128) : (domF bs).seen.has k = true ↔ ∃ l, Way bs l k :=
  ⟨(dom_most h0 hn hE).seen k hk, fun ⟨l, hw⟩ => (dom_way (dom_fix h0 hn hE) hE hw).1⟩
end Go.SM
end
section
set_option linter.unusedVariables false
set_option linter.unusedSimpArgs false
namespace Go.SM
open Go.VL
abbrev keys (d : Defs) : List Int := d.map (·.1)
structure KOk (d new : Defs) : Prop where
  wi : ∀ x ∈ keys new, wi x 0 4095 = true
  nodup : (keys new).Nodup
  fresh : ∀ x ∈ keys new, x ∉ keys d
theorem kok_nil (d : Defs) : KOk d [] := ⟨by simp, by simp, by simp⟩
theorem kok_append {d a b : Defs} : KOk d (a ++ b) ↔ KOk d a ∧ KOk (d ++ a) b := by
  constructor
  · rintro ⟨h1, h2, h3⟩
    simp only [keys, List.map_append] at h1 h2 h3
    obtain ⟨n1, n2, n3⟩ := List.nodup_append.1 h2
    refine ⟨⟨fun x hx => h1 x (List.mem_append_left _ hx), n1, fun x hx => h3 x (List.mem_append_left _ hx)⟩, ⟨fun x hx => h1 x (List.mem_append_right _ hx), n2, fun x hx => ?_⟩⟩
    simp only [keys, List.map_append, List.mem_append, not_or]
    exact ⟨h3 x (List.mem_append_right _ hx), fun hm => n3 x hm x hx rfl⟩
  · rintro ⟨⟨a1, a2, a3⟩, ⟨b1, b2, b3⟩⟩
    simp only [keys, List.map_append] at b3
    refine ⟨fun x hx => ?_, ?_, fun x hx => ?_⟩ <;> simp only [keys, List.map_append] at *
    · rcases List.mem_append.1 hx with h | h
      · exact a1 x h
      · exact b1 x h
    · exact List.nodup_append.2 ⟨a2, b2, fun x hx y hy e => by subst e; exact b3 x hy (List.mem_append_right _ hx)⟩
    · rcases List.mem_append.1 hx with h | h
      · exact a3 x h
      · exact fun hm => b3 x h (List.mem_append_left _ hm)
theorem kok_one {d : Defs} {v : Int} {p : Int × Int} : KOk d [(v, p)] ↔ wi v 0 4095 = true ∧ v ∉ keys d := by
  constructor
  · rintro ⟨h1, _, h3⟩
    exact ⟨h1 v (by simp), h3 v (by simp)⟩
  · rintro ⟨h1, h2⟩
    exact ⟨fun x hx => by simp at hx; subst hx; exact h1, by simp, fun x hx => by simp at hx; subst hx; exact h2⟩
theorem dget_out {v : Int} : ∀ {d : Defs}, dget d v = none ↔ v ∉ keys d
  | [] => by simp [dget]
  | (k, p) :: d => by
    rw [dget]
    split
    · rename_i e
      subst e
      simp
    · rename_i e
      rw [dget_out]
      simp only [keys, List.map_cons, List.mem_cons, not_or]
      exact ⟨fun h => ⟨fun e2 => e e2.symm, h⟩, fun h => h.2⟩
theorem define_iff {v : Int} {p : Int × Int} {d : Defs} : (defineF v p d).1 = 0 ↔ KOk d [(v, p)] := by
  rw [kok_one]
  unfold defineF
  cases hw : wi v 0 4095 with
  | false => simp
  | true =>
    rw [if_neg (by decide)]
    cases hd : dget d v with
    | none =>
      rw [if_neg (by decide)]
      exact ⟨fun _ => ⟨rfl, dget_out.1 hd⟩, fun _ => rfl⟩
    | some x =>
      rw [if_pos (show (some x).isSome = true from rfl)]
      have : ¬ v ∉ keys d := fun h => by rw [dget_out.2 h] at hd; cases hd
      exact ⟨fun h => absurd (show (7 : Int) = 0 from h) (by decide), fun h => absurd h.2 this⟩
theorem define_eq {v : Int} {p : Int × Int} {d : Defs} (h : (defineF v p d).1 = 0) : (defineF v p d).2 = d ++ [(v, p)] := by
  have h2 := h
  rw [define_iff, kok_one] at h2
  unfold defineF
  rw [if_neg (by rw [h2.1]; decide), dget_out.2 h2.2, if_neg (by decide)]
theorem params_iff {k : Int} : ∀ {ps : List Int} {d : Defs}, ((paramsF k ps d).1 = 0 ↔ KOk d (defsP k ps)) ∧ ((paramsF k ps d).1 = 0 → (paramsF k ps d).2 = d ++ defsP k ps)
  | [], d => ⟨⟨fun _ => kok_nil d, fun _ => rfl⟩, fun _ => by simp [paramsF, defsP]⟩
  | p :: ps, d => by
    have hc : defsP k (p :: ps) = [(p, (k, 0))] ++ defsP k ps := rfl
    rw [hc, kok_append, paramsF]
    by_cases h : (defineF p (k, 0) d).1 = 0
    · rw [if_neg (fun h2 => h2 h)]
      have he := define_eq h
      obtain ⟨h1, h2⟩ := params_iff (k := k) (ps := ps) (d := (defineF p (k, 0) d).2)
      rw [he] at h1 h2
      rw [he]
      exact ⟨⟨fun h3 => ⟨define_iff.1 h, h1.1 h3⟩, fun h3 => h1.2 h3.2⟩, fun h3 => by rw [h2 h3, List.append_assoc]⟩
    · rw [if_pos h]
      exact ⟨⟨fun h3 => absurd h3 h, fun h3 => absurd (define_iff.2 h3.1) h⟩, fun h3 => absurd h3 h⟩
theorem inss_iff {k : Int} : ∀ {is : List SIns} {n : Int} {d : Defs}, ((inssF k n is d).1 = 0 ↔ KOk d (defsI k n is) ∧ ∀ i ∈ is, formF i = 0) ∧ ((inssF k n is d).1 = 0 → (inssF k n is d).2 = d ++ defsI k n is)
  | [], n, d => ⟨⟨fun _ => ⟨kok_nil d, fun i hi => by cases hi⟩, fun _ => rfl⟩, fun _ => by simp [inssF, defsI]⟩
  | i :: is, n, d => by
    have hc : defsI k n (i :: is) = [(i.to, (k, n + 1))] ++ defsI k (n + 1) is := rfl
    rw [hc, kok_append, inssF]
    by_cases h : (defineF i.to (k, n + 1) d).1 = 0
    · rw [if_neg (fun h2 => h2 h)]
      have he := define_eq h
      by_cases hf : formF i = 0
      · rw [if_neg (fun h2 => h2 hf)]
        obtain ⟨h1, h2⟩ := inss_iff (k := k) (is := is) (n := n + 1) (d := (defineF i.to (k, n + 1) d).2)
        rw [he] at h1 h2
        rw [he]
        refine ⟨⟨fun h3 => ?_, fun h3 => ?_⟩, fun h3 => by rw [h2 h3, List.append_assoc]⟩
        · have h4 := h1.1 h3
          refine ⟨⟨define_iff.1 h, h4.1⟩, fun j hj => ?_⟩
          rcases List.mem_cons.1 hj with rfl | hj
          · exact hf
          · exact h4.2 j hj
        · exact h1.2 ⟨h3.1.2, fun j hj => h3.2 j (List.mem_cons_of_mem _ hj)⟩
      · rw [if_pos hf]
        exact ⟨⟨fun h3 => absurd h3 hf, fun h3 => absurd (h3.2 i (List.mem_cons_self ..)) hf⟩, fun h3 => absurd h3 hf⟩
    · rw [if_pos h]
      exact ⟨⟨fun h3 => absurd h3 h, fun h3 => absurd (define_iff.2 h3.1.1) h⟩, fun h3 => absurd h3 h⟩
theorem block_iff {bs : List SBlock} {k : Int} {b : SBlock} {d : Defs} : ((blockF bs k b d).1 = 0 ↔ KOk d (defsB k b) ∧ blockOk bs b) ∧ ((blockF bs k b d).1 = 0 → (blockF bs k b d).2 = d ++ defsB k b) := by
  unfold blockF defsB blockOk
  rw [kok_append]
  obtain ⟨p1, p2⟩ := params_iff (k := k) (ps := b.params) (d := d)
  by_cases hp : (paramsF k b.params d).1 = 0
  · rw [if_neg (fun h => h hp)]
    rw [p2 hp]
    obtain ⟨i1, i2⟩ := inss_iff (k := k) (is := b.ins) (n := 0) (d := d ++ defsP k b.params)
    by_cases hi : (inssF k 0 b.ins (d ++ defsP k b.params)).1 = 0
    · rw [if_neg (fun h => h hi)]
      dsimp only
      rw [i2 hi]
      exact ⟨⟨fun h => ⟨⟨p1.1 hp, (i1.1 hi).1⟩, (i1.1 hi).2, h⟩, fun h => h.2.2⟩, fun h => List.append_assoc ..⟩
    · rw [if_pos hi]
      exact ⟨⟨fun h => absurd h hi, fun h => absurd (i1.2 ⟨h.1.2, h.2.1⟩) hi⟩, fun h => absurd h hi⟩
  · rw [if_pos hp]
    exact ⟨⟨fun h => absurd h hp, fun h => absurd (p1.2 h.1.1) hp⟩, fun h => absurd h hp⟩
theorem blocks_iff {bs : List SBlock} : ∀ {l : List SBlock} {k : Int} {d : Defs}, ((blocksF bs k l d).1 = 0 ↔ KOk d (defsL k l) ∧ ∀ b ∈ l, blockOk bs b) ∧ ((blocksF bs k l d).1 = 0 → (blocksF bs k l d).2 = d ++ defsL k l)
  | [], k, d => ⟨⟨fun _ => ⟨kok_nil d, fun i hi => by cases hi⟩, fun _ => rfl⟩, fun _ => by simp [blocksF, defsL]⟩
  | b :: l, k, d => by
    rw [defsL, kok_append, blocksF]
    obtain ⟨b1, b2⟩ := block_iff (bs := bs) (k := k) (b := b) (d := d)
    by_cases h : (blockF bs k b d).1 = 0
    · rw [if_neg (fun h2 => h2 h), b2 h]
      obtain ⟨h1, h2⟩ := blocks_iff (bs := bs) (l := l) (k := k + 1) (d := d ++ defsB k b)
      refine ⟨⟨fun h3 => ?_, fun h3 => ?_⟩, fun h3 => by rw [h2 h3, List.append_assoc]⟩
      · have h4 := h1.1 h3
        refine ⟨⟨(b1.1 h).1, h4.1⟩, fun j hj => ?_⟩
        rcases List.mem_cons.1 hj with rfl | hj
        · exact (b1.1 h).2
        · exact h4.2 j hj
      · exact h1.2 ⟨h3.1.2, fun j hj => h3.2 j (List.mem_cons_of_mem _ hj)⟩
    · rw [if_pos h]
      exact ⟨⟨fun h3 => absurd h3 h, fun h3 => absurd (b1.2 ⟨h3.1.1, h3.2 b (List.mem_cons_self ..)⟩) h⟩, fun h3 => absurd h3 h⟩
theorem dget_at {v : Int} {p : Int × Int} : ∀ {d : Defs}, (keys d).Nodup → (dget d v = some p ↔ (v, p) ∈ d)
  | [], _ => by simp [dget]
  | (k, q) :: d, h => by
    obtain ⟨h1, h2⟩ := List.nodup_cons.1 (show (k :: keys d).Nodup from h)
    rw [dget]
    split
    · rename_i e
      subst e
      constructor
      · intro e; injection e with e; subst e; exact List.mem_cons_self ..
      · intro hm
        rcases List.mem_cons.1 hm with e | hm
        · injection e with _ e; rw [e]
        · exact absurd (List.mem_map.2 ⟨_, hm, rfl⟩) h1
    · rename_i e
      rw [dget_at h2]
      constructor
      · intro hm; exact List.mem_cons_of_mem _ hm
      · intro hm
        rcases List.mem_cons.1 hm with e2 | hm
        · injection e2 with e2 _; exact absurd e2.symm e
        · exact hm
def dI : Int → List SIns → List (Int × Int)
  | _, [] => []
  | n, i :: is => (i.to, n + 1) :: dI (n + 1) is
def dB (b : SBlock) : List (Int × Int) := b.params.map (fun p => (p, 0)) ++ dI 0 b.ins
theorem defsI_eq (k : Int) : ∀ (is : List SIns) (n : Int), defsI k n is = (dI n is).map fun e => (e.1, (k, e.2))
  | [], n => rfl
  | i :: is, n => by rw [defsI, dI, List.map_cons, defsI_eq k is]
theorem defsB_eq (k : Int) (b : SBlock) : defsB k b = (dB b).map fun e => (e.1, (k, e.2)) := by
  unfold defsB dB defsP
  rw [List.map_append, List.map_map, defsI_eq]
  rfl
theorem defsL_at {x : Int × Int × Int} : ∀ {l : List SBlock} {k : Int}, x ∈ defsL k l ↔ ∃ (j : Nat) (b : SBlock), l[j]? = some b ∧ x.2.1 = k + j ∧ (x.1, x.2.2) ∈ dB b
  | [], k => by simp [defsL]
  | c :: l, k => by
    rw [defsL, List.mem_append, defsL_at (l := l), defsB_eq, List.mem_map]
    constructor
    · rintro (⟨e, he, rfl⟩ | ⟨j, b, hb, h1, h2⟩)
      · exact ⟨0, c, rfl, by simp, he⟩
      · exact ⟨j + 1, b, by simpa using hb, by rw [h1]; simp; omega, h2⟩
    · rintro ⟨j, b, hb, h1, h2⟩
      cases j with
      | zero =>
        have hb : c = b := by simpa using hb
        subst hb
        refine .inl ⟨_, h2, ?_⟩
        obtain ⟨a, b, e⟩ := x
        have h1 : b = k + (0 : Nat) := h1
        rw [show b = k by rw [h1]; simp]
      | succ j => exact .inr ⟨j, b, by simpa using hb, by rw [h1]; simp; omega, h2⟩
theorem keysI_len : ∀ (is : List SIns) (n : Int), (dI n is).length = is.length
  | [], n => rfl
  | i :: is, n => by rw [dI, List.length_cons, keysI_len is, List.length_cons]
def insN : List SBlock → Nat
  | [] => 0
  | b :: l => b.ins.length + insN l
theorem keysL : ∀ (l : List SBlock) (k : Int), keys (defsL k l) = l.flatMap fun b => (dB b).map (·.1)
  | [], k => rfl
  | b :: l, k => by
    rw [defsL, keys, List.map_append, List.flatMap_cons]
    have h := keysL l (k + 1)
    rw [keys] at h
    rw [h, defsB_eq, List.map_map]
    rfl
theorem insN_le : ∀ (l : List SBlock), insN l ≤ (l.flatMap fun b => (dB b).map (·.1)).length
  | [] => Nat.le_refl _
  | b :: l => by
    have h := insN_le l
    rw [insN, List.flatMap_cons, List.length_append, List.length_map, dB, List.length_append, keysI_len]
    omega
theorem nodup_wi {l : List Int} (h : l.Nodup) (hw : ∀ x ∈ l, wi x 0 4095 = true) : l.length ≤ 4096 := by
  have h1 := nodup_lt (l := l.map Int.toNat) (n := 4096) ?_ fun v hv => by
    obtain ⟨x, hx, rfl⟩ := List.mem_map.1 hv
    have := wi_iff.1 (hw x hx)
    omega
  · rwa [List.length_map] at h1
  · rw [List.Nodup, List.pairwise_map]
    refine List.Pairwise.imp_of_mem (fun {a c} ha hc hne e => hne ?_) h
    have h1 := wi_iff.1 (hw a ha)
    have h2 := wi_iff.1 (hw c hc)
    omega
theorem count_eq : ∀ (l : List SBlock) (n : Int), 0 ≤ n → n + insN l ≤ 9223372036854775807 → countIns n l = n + insN l
  | [], n, _, _ => by simp [countIns, insN]
  | b :: l, n, h0, h => by
    rw [insN] at h
    rw [countIns, insN]
    have e : IntKind.i64.wrap (n + b.ins.length) = n + b.ins.length := by rw [IntKind.wrap_i64]; omega
    rw [e, count_eq l _ (by omega) (by omega)]
    omega
structure FuncIs (f : SFunc) : Prop where
  pos : 0 < f.blocks.length
  len : f.blocks.length ≤ 128
  ins : insN f.blocks ≤ 1024
  params : (paramsOf f.blocks 0).length ≤ 6
  name : wi f.name (-1) 1048575 = true
  kok : KOk [] (defsL 0 f.blocks)
  block : ∀ b ∈ f.blocks, blockOk f.blocks b
  uses : usesF (defsL 0 f.blocks) (domF f.blocks) 0 f.blocks = 0
theorem func_iff {f : SFunc} : funcF f = 0 ↔ FuncIs f := by
  constructor
  · intro h
    have hok := func_ok h
    obtain ⟨h1, h2⟩ := blocks_iff (bs := f.blocks) (l := f.blocks) (k := 0) (d := [])
    have h3 := h1.1 hok.blocks
    have h4 := h2 hok.blocks
    have hu := hok.uses
    rw [h4, List.nil_append] at hu
    have hl := nodup_wi h3.1.nodup h3.1.wi
    rw [keysL] at hl
    have hi := insN_le f.blocks
    have hc := hok.ins
    rw [count_eq _ _ (by omega) (by omega)] at hc
    exact ⟨hok.pos, hok.len, by omega, hok.params, wi_iff.2 hok.name, h3.1, h3.2, hu⟩
  · intro h
    obtain ⟨h1, h2⟩ := blocks_iff (bs := f.blocks) (l := f.blocks) (k := 0) (d := [])
    have h3 := h1.2 ⟨h.kok, h.block⟩
    have h4 := h2 h3
    have a1 := h.pos
    have a2 := h.len
    have a3 := h.ins
    have a4 := h.params
    unfold funcF
    rw [if_neg (by omega), if_neg (by rw [count_eq _ _ (by omega) (by omega)]; omega), if_neg (by rw [h.name]; decide), if_neg (fun hn => hn h3), h4, List.nil_append]
    exact h.uses
end Go.SM
end
section
set_option linter.unusedVariables false
set_option linter.unusedSimpArgs false
namespace Go.SM
open Go.VL
def atF (f : SFunc) : List Int := placeF (reachL f) f.blocks.length
def reB (at_ : List Int) (b : SBlock) : SBlock := { b with term := { b.term with to := b.term.to.map fun e => ⟨gI at_ e.block, e.args⟩ } }
def pruneF (f : SFunc) : SFunc := ⟨f.name, (reachL f).map fun k => reB (atF f) (f.blocks[k.toNat]?.getD default)⟩
def reachN (f : SFunc) : List Nat := (List.range f.blocks.length).filter fun v => decide (v ∈ orderF f.blocks)
def rk (f : SFunc) (v : Nat) : Nat := (gI (atF f) v).toNat
theorem sorted_eq : ∀ {a b : List Int}, a.Pairwise (· < ·) → b.Pairwise (· < ·) → (∀ x, x ∈ a ↔ x ∈ b) → a = b
  | [], [], _, _, _ => rfl
  | [], y :: b, _, _, h => by have := (h y).2 (List.mem_cons_self ..); cases this
  | x :: a, [], _, _, h => by have := (h x).1 (List.mem_cons_self ..); cases this
  | x :: a, y :: b, ha, hb, h => by
    obtain ⟨a1, a2⟩ := List.pairwise_cons.1 ha
    obtain ⟨b1, b2⟩ := List.pairwise_cons.1 hb
    have hxy : x = y := by
      rcases List.mem_cons.1 ((h x).1 (List.mem_cons_self ..)) with e | e
      · exact e
      · rcases List.mem_cons.1 ((h y).2 (List.mem_cons_self ..)) with e2 | e2
        · exact e2.symm
        · have := b1 x e
          have := a1 y e2
          omega
    subst hxy
    rw [sorted_eq a2 b2 fun z => ?_]
    constructor
    · intro hz
      rcases List.mem_cons.1 ((h z).1 (List.mem_cons_of_mem _ hz)) with e | e
      · have := a1 z hz; omega
      · exact e
    · intro hz
      rcases List.mem_cons.1 ((h z).2 (List.mem_cons_of_mem _ hz)) with e | e
      · have := b1 z hz; omega
      · exact e
section
variable {f : SFunc} (ho : OrderOk f.blocks (orderF f.blocks))
include ho
theorem reachN_mem {v : Nat} : v ∈ reachN f ↔ v ∈ orderF f.blocks := by
  unfold reachN
  rw [List.mem_filter, List.mem_range, decide_eq_true_eq]
  exact ⟨fun h => h.2, fun h => ⟨ho.lt v h, h⟩⟩
omit ho in
theorem reachN_sorted : (reachN f).Pairwise (· < ·) := List.Pairwise.filter _ List.pairwise_lt_range
theorem reach_eq : reachL f = (reachN f).map fun k : Nat => (k : Int) := by
  refine sorted_eq ?_ ?_ fun x => ?_
  · have h1 := List.pairwise_mergeSort (le := fun (x y : Int) => decide (x ≤ y)) (fun a b c h1 h2 => by simp at h1 h2 ⊢; omega) (fun a b => by simp; omega) (ordZ f.blocks)
    have h2 : (reachL f).Nodup := (List.mergeSort_perm _ _).nodup_iff.2 (by
      unfold ordZ
      rw [List.Nodup, List.pairwise_map]
      exact ho.nodup.imp fun hne e => hne (by omega))
    refine (List.pairwise_and_iff.2 ⟨h1, h2⟩).imp fun ⟨h3, h4⟩ => ?_
    have := of_decide_eq_true h3
    omega
  · rw [List.pairwise_map]
    exact reachN_sorted.imp fun h => by omega
  · rw [List.mem_map]
    constructor
    · intro hx
      have hx2 := hx
      rw [reachL, List.mem_mergeSort, ordZ, List.mem_map] at hx2
      obtain ⟨v, hv, rfl⟩ := hx2
      exact ⟨v, (reachN_mem ho).2 hv, rfl⟩
    · rintro ⟨v, hv, rfl⟩
      exact reach_mem.2 ((reachN_mem ho).1 hv)
theorem at_of {v : Nat} (hv : v < f.blocks.length) : gI (atF f) v = -1 ∧ v ∉ orderF f.blocks ∨ v ∈ orderF f.blocks ∧ gI (atF f) v = (rk f v : Nat) ∧ (reachN f)[rk f v]? = some v := by
  have hg : (atF f)[v]? = some (idxOf (fun x => decide ((v : Int) = x)) (reachL f)) := by
    unfold atF placeF
    rw [List.getElem?_map, List.getElem?_range hv]
    rfl
  have e := gI_get ho hg
  rw [reach_eq ho] at e
  rcases idx_nat (l := reachN f) (v := v) with ⟨h1, h2⟩ | ⟨i, h1, h2⟩
  · exact .inl ⟨by rw [e]; exact h1, fun h => h2 ((reachN_mem ho).2 h)⟩
  · have e2 : gI (atF f) v = (i : Nat) := by rw [e]; exact h1
    have e3 : rk f v = i := by unfold rk; rw [e2, Int.toNat_natCast]
    exact .inr ⟨(reachN_mem ho).1 (List.mem_of_getElem? h2), by rw [e3]; exact e2, by rw [e3]; exact h2⟩
theorem rk_get {v : Nat} (hv : v ∈ orderF f.blocks) : gI (atF f) v = (rk f v : Nat) ∧ (reachN f)[rk f v]? = some v := by
  rcases at_of ho (ho.lt v hv) with ⟨_, h⟩ | ⟨_, h⟩
  · exact absurd hv h
  · exact h
omit ho in
theorem sorted_inj {l : List Nat} (h : l.Pairwise (· < ·)) {i j v : Nat} (hi : l[i]? = some v) (hj : l[j]? = some v) : i = j := by
  have hn : l.Nodup := h.imp fun h e => by omega
  obtain ⟨a1, a2⟩ := List.getElem?_eq_some_iff.1 hi
  obtain ⟨b1, b2⟩ := List.getElem?_eq_some_iff.1 hj
  exact (List.getElem_inj hn).1 (a2.trans b2.symm)
theorem rk_of {i v : Nat} (h : (reachN f)[i]? = some v) : v ∈ orderF f.blocks ∧ rk f v = i := by
  have hv := (reachN_mem ho).1 (List.mem_of_getElem? h)
  exact ⟨hv, sorted_inj reachN_sorted (rk_get ho hv).2 h⟩
theorem rk_inj {v w : Nat} (hv : v ∈ orderF f.blocks) (hw : w ∈ orderF f.blocks) (h : rk f v = rk f w) : v = w := by
  have h1 := (rk_get ho hv).2
  rw [h, (rk_get ho hw).2] at h1
  injection h1 with h1
  exact h1.symm
theorem rk_zero : rk f 0 = 0 := by
  have h0 := zero_mem ho
  have h1 := (rk_get ho h0).2
  refine Classical.byContradiction fun hne => ?_
  obtain ⟨a1, a2⟩ := List.getElem?_eq_some_iff.1 h1
  have h2 := List.pairwise_iff_getElem.1 (reachN_sorted (f := f)) 0 (rk f 0) (by omega) a1 (by omega)
  omega
omit ho in
theorem prune_len : (pruneF f).blocks.length = (reachL f).length := by unfold pruneF; rw [List.length_map]
theorem prune_blocks : (pruneF f).blocks = ((reachN f).map fun v => f.blocks[v]?.getD default).map (reB (atF f)) := by
  unfold pruneF
  rw [reach_eq ho, List.map_map, List.map_map]
  refine List.map_congr_left fun v _ => ?_
  simp
theorem prune_get {i v : Nat} {b : SBlock} (h : (reachN f)[i]? = some v) (hb : f.blocks[v]? = some b) : (pruneF f).blocks[i]? = some (reB (atF f) b) := by
  rw [prune_blocks ho, List.getElem?_map, List.getElem?_map, h]
  simp [hb]
theorem prune_at {v : Nat} {b : SBlock} (hv : v ∈ orderF f.blocks) (hb : f.blocks[v]? = some b) : (pruneF f).blocks[rk f v]? = some (reB (atF f) b) := prune_get ho (rk_get ho hv).2 hb
theorem prune_of {i : Nat} {c : SBlock} (h : (pruneF f).blocks[i]? = some c) : ∃ v b, v ∈ orderF f.blocks ∧ rk f v = i ∧ f.blocks[v]? = some b ∧ c = reB (atF f) b := by
  have hi := (List.getElem?_eq_some_iff.1 h).1
  have hl : (pruneF f).blocks.length = (reachN f).length := by rw [prune_blocks ho]; simp
  obtain ⟨v, hv⟩ : ∃ v, (reachN f)[i]? = some v := ⟨_, List.getElem?_eq_getElem (by omega)⟩
  obtain ⟨hvo, hr⟩ := rk_of ho hv
  obtain ⟨b, hb⟩ : ∃ b, f.blocks[v]? = some b := ⟨_, List.getElem?_eq_getElem (ho.lt v hvo)⟩
  rw [prune_get ho hv hb] at h
  injection h with h
  exact ⟨v, b, hvo, hr, hb, h.symm⟩
theorem prune_edge {p v : Nat} (hp : p ∈ orderF f.blocks) (he : Edge f.blocks p v) (hE : ∀ b ∈ f.blocks, ∀ e ∈ b.term.to, 1 ≤ e.block ∧ e.block < f.blocks.length) : Edge (pruneF f).blocks (rk f p) (rk f v) := by
  obtain ⟨e, he, hev⟩ := he
  obtain ⟨b, hb⟩ : ∃ b, f.blocks[p]? = some b := ⟨_, List.getElem?_eq_getElem (ho.lt p hp)⟩
  rw [toAt_get hb] at he
  have hem := hE b (List.mem_of_getElem? hb) e he
  refine ⟨⟨gI (atF f) e.block, e.args⟩, ?_, ?_⟩
  · rw [toAt_get (prune_at ho hp hb)]
    exact List.mem_map.2 ⟨e, he, rfl⟩
  · unfold rk
    rw [show (v : Int) = e.block by omega]
theorem edge_prune {i j : Nat} (he : Edge (pruneF f).blocks i j) (hE : ∀ b ∈ f.blocks, ∀ e ∈ b.term.to, 1 ≤ e.block ∧ e.block < f.blocks.length) : ∃ p v, p ∈ orderF f.blocks ∧ v ∈ orderF f.blocks ∧ rk f p = i ∧ rk f v = j ∧ Edge f.blocks p v := by
  obtain ⟨x, hx, hxj⟩ := he
  obtain ⟨c, hc⟩ : ∃ c, (pruneF f).blocks[i]? = some c := by
    unfold toAt at hx
    cases hb : (pruneF f).blocks[i]? with
    | none => rw [hb] at hx; cases hx
    | some c => exact ⟨c, rfl⟩
  obtain ⟨p, b, hp, hr, hb, rfl⟩ := prune_of ho hc
  rw [toAt_get hc] at hx
  obtain ⟨e, he, rfl⟩ := List.mem_map.1 hx
  have hem := hE b (List.mem_of_getElem? hb) e he
  have hedge : Edge f.blocks p e.block.toNat := ⟨e, by rw [toAt_get hb]; exact he, rfl⟩
  have hv := edge_mem ho hp hedge
  refine ⟨p, e.block.toNat, hp, hv, hr, ?_, hedge⟩
  rw [← hxj]
  unfold rk
  rw [show ((e.block.toNat : Nat) : Int) = e.block by omega]
theorem prune_way (hE : ∀ b ∈ f.blocks, ∀ e ∈ b.term.to, 1 ≤ e.block ∧ e.block < f.blocks.length) {l : List Nat} {v : Nat} (hw : Way f.blocks l v) : v ∈ orderF f.blocks ∧ (∀ y ∈ l, y ∈ orderF f.blocks) ∧ Way (pruneF f).blocks (l.map (rk f)) (rk f v) := by
  induction hw with
  | start => exact ⟨zero_mem ho, (fun y hy => absurd hy (by simp)), (by rw [rk_zero ho]; exact .start : Way (pruneF f).blocks ([].map (rk f)) (rk f 0))⟩
  | @step l p k hw he ih =>
    obtain ⟨h1, h2, h3⟩ := ih
    refine ⟨edge_mem ho h1 he, fun y hy => ?_, .step h3 (prune_edge ho h1 he hE)⟩
    rcases List.mem_cons.1 hy with rfl | hy
    · exact h1
    · exact h2 y hy
theorem way_prune (hE : ∀ b ∈ f.blocks, ∀ e ∈ b.term.to, 1 ≤ e.block ∧ e.block < f.blocks.length) {l : List Nat} {i : Nat} (hw : Way (pruneF f).blocks l i) : ∃ l0 v, Way f.blocks l0 v ∧ l = l0.map (rk f) ∧ rk f v = i := by
  induction hw with
  | start => exact ⟨[], 0, .start, rfl, rk_zero ho⟩
  | @step l p k hw he ih =>
    obtain ⟨l0, v, h1, rfl, rfl⟩ := ih
    obtain ⟨p, w, hp, hw2, e1, e2, hed⟩ := edge_prune ho he hE
    have hpv := rk_inj ho hp (prune_way ho hE h1).1 e1
    subst hpv
    exact ⟨p :: l0, w, .step h1 hed, rfl, e2⟩
theorem prune_doms (hE : ∀ b ∈ f.blocks, ∀ e ∈ b.term.to, 1 ≤ e.block ∧ e.block < f.blocks.length) {x v : Nat} (hx : x ∈ orderF f.blocks) (hv : v ∈ orderF f.blocks) : Doms (pruneF f).blocks (rk f x) (rk f v) ↔ Doms f.blocks x v := by
  constructor
  · intro hd l hw
    obtain ⟨_, hl, hw2⟩ := prune_way ho hE hw
    rcases hd _ hw2 with e | e
    · exact .inl (rk_inj ho hx hv e)
    · obtain ⟨y, hy, e⟩ := List.mem_map.1 e
      rw [← rk_inj ho (hl y hy) hx e]
      exact .inr hy
  · intro hd l hw
    obtain ⟨l0, w, h1, rfl, e⟩ := way_prune ho hE hw
    have := rk_inj ho (prune_way ho hE h1).1 hv e
    subst this
    rcases hd _ h1 with e | e
    · exact .inl (by rw [e])
    · exact .inr (List.mem_map.2 ⟨_, e, rfl⟩)
omit ho in
theorem base_sub : ((reachN f).map fun v => f.blocks[v]?.getD default).Sublist f.blocks := by
  have h1 : ((reachN f).map fun v => f.blocks[v]?.getD default).Sublist ((List.range f.blocks.length).map fun v => f.blocks[v]?.getD default) := (List.filter_sublist ..).map _
  have h2 : ((List.range f.blocks.length).map fun v => f.blocks[v]?.getD default) = f.blocks := by
    apply List.ext_getElem
    · simp
    · intro i a b
      simp [List.getElem?_eq_getElem b]
  rw [h2] at h1
  exact h1
end
theorem insN_sub : ∀ {a b : List SBlock}, a.Sublist b → insN a ≤ insN b := fun h => by
  induction h with
  | slnil => exact Nat.le_refl _
  | cons a _ ih => rw [insN]; omega
  | cons_cons a _ ih => rw [insN, insN]; omega
theorem insN_re (at_ : List Int) : ∀ l : List SBlock, insN (l.map (reB at_)) = insN l
  | [] => rfl
  | b :: l => by rw [List.map_cons, insN, insN, insN_re at_ l]; rfl
theorem edgesF_iff {bs : List SBlock} : ∀ {l : List SEdge}, (∀ e ∈ l, 1 ≤ e.block ∧ e.block < bs.length ∧ e.args.length = (paramsOf bs e.block).length) → edgesF bs l = 0
  | [], _ => rfl
  | e :: l, h => by
    have h1 := h e (List.mem_cons_self ..)
    rw [edgesF, if_neg (by rw [wi_iff.2 ⟨h1.1, by omega⟩]; decide), if_neg (fun hn => hn h1.2.2)]
    exact edgesF_iff fun x hx => h x (List.mem_cons_of_mem _ hx)
theorem usesF_iff {d : Defs} {o : Dom} : ∀ {l : List SBlock} {k : Nat}, usesF d o k l = 0 ↔ ∀ (j : Nat) (b : SBlock), l[j]? = some b → usesIns d o (k + j) 0 b.ins = true ∧ usedF b.term (fineF d o (k + j) b.ins.length) = true
  | [], k => by simp [usesF]
  | c :: l, k => by
    rw [usesF]
    constructor
    · intro h j b hb
      split at h
      · cases h
      · rename_i h1
        split at h
        · cases h
        · rename_i h2
          cases j with
          | zero =>
            have hb : c = b := by simpa using hb
            subst hb
            exact ⟨by simpa using h1, by simpa using h2⟩
          | succ j =>
            have := usesF_iff.1 h j b (by simpa using hb)
            rwa [show k + 1 + j = k + (j + 1) by omega] at this
    · intro h
      have h0 := h 0 c rfl
      rw [Nat.add_zero] at h0
      rw [if_neg (by rw [h0.1]; decide), if_neg (by rw [h0.2]; decide)]
      exact usesF_iff.2 fun j b hb => by
        have := h (j + 1) b (by simpa using hb)
        rwa [show k + (j + 1) = k + 1 + j by omega] at this
theorem usesIns_imp {d d' : Defs} {o o' : Dom} {k k' : Nat} (h : ∀ n u, fineF d o k n u = true → fineF d' o' k' n u = true) : ∀ {is : List SIns} {n : Int}, usesIns d o k n is = true → usesIns d' o' k' n is = true
  | [], n, _ => rfl
  | i :: is, n, hu => by
    rw [usesIns, Bool.and_eq_true, List.all_eq_true] at hu ⊢
    exact ⟨fun u hu2 => h n u (hu.1 u hu2), usesIns_imp h hu.2⟩
theorem used_re {at_ : List Int} {t : STerm} {use use' : Int → Bool} (h : ∀ u, use u = true → use' u = true) (hu : usedF t use = true) : usedF { t with to := t.to.map fun e => ⟨gI at_ e.block, e.args⟩ } use' = true := by
  unfold usedF at hu ⊢
  dsimp only
  split at hu
  · cases hu
  · rename_i h1
    rw [if_neg (fun h2 => h1 ⟨h2.1, by
      cases hc : use t.arg with
      | false => rfl
      | true => rw [h _ hc] at h2; exact absurd h2.2 (by decide)⟩)]
    rw [List.all_eq_true] at hu ⊢
    intro e he
    obtain ⟨x, hx, rfl⟩ := List.mem_map.1 he
    have := hu x hx
    rw [List.all_eq_true] at this ⊢
    exact fun u hu2 => h u (this u hu2)
theorem flat_sub {α β : Type} {g : α → List β} {a b : List α} (h : a.Sublist b) : (a.flatMap g).Sublist (b.flatMap g) := by
  induction h with
  | slnil => exact .slnil
  | cons a _ ih => rw [List.flatMap_cons]; exact ih.trans (List.sublist_append_right ..)
  | cons_cons a _ ih => rw [List.flatMap_cons, List.flatMap_cons]; exact (List.Sublist.refl _).append ih
theorem mem_zero_key {d : Defs} : (∀ x ∈ keys d, x ∉ keys ([] : Defs)) := fun x _ h => by cases h
theorem prune_ok {f : SFunc} (h0 : funcF f = 0) : funcF (pruneF f) = 0 := by
  have hok := func_ok h0
  have ho := order_ok hok.pos hok.edges
  have hE := hok.edges
  have fi := func_iff.1 h0
  have hz := zero_mem ho
  have hlen : (pruneF f).blocks.length ≤ f.blocks.length := by
    rw [prune_blocks ho, List.length_map]
    exact (base_sub (f := f)).length_le
  have hgp : ∀ v : Nat, v ∈ orderF f.blocks → rk f v < (pruneF f).blocks.length := fun v hv => by
    obtain ⟨b, hb⟩ : ∃ b, f.blocks[v]? = some b := ⟨_, List.getElem?_eq_getElem (ho.lt v hv)⟩
    exact (List.getElem?_eq_some_iff.1 (prune_at ho hv hb)).1
  have hpos : 0 < (pruneF f).blocks.length := by have := hgp 0 hz; omega
  have hpar : ∀ v : Nat, v ∈ orderF f.blocks → paramsOf (pruneF f).blocks (rk f v) = paramsOf f.blocks v := fun v hv => by
    obtain ⟨b, hb⟩ : ∃ b, f.blocks[v]? = some b := ⟨_, List.getElem?_eq_getElem (ho.lt v hv)⟩
    unfold paramsOf
    rw [Int.toNat_natCast, Int.toNat_natCast, prune_at ho hv hb, hb]
    rfl
  have hblk : ∀ c ∈ (pruneF f).blocks, blockOk (pruneF f).blocks c := fun c hc => by
    obtain ⟨i, hi⟩ := List.getElem?_of_mem hc
    obtain ⟨v, b, hv, hr, hb, rfl⟩ := prune_of ho hi
    obtain ⟨b1, b2⟩ := fi.block b (List.mem_of_getElem? hb)
    refine ⟨b1, ?_⟩
    have he := endF_ok b2
    unfold endF at b2 ⊢
    have hsh : shapeF (reB (atF f) b).term = shapeF b.term := by
      unfold shapeF reB
      simp only [List.length_map]
    rw [hsh, if_neg (by rw [he.shape]; decide)]
    change (if 256 < (b.term.cases.length : Int) then 2 else if b.term.kind = 4 ∧ wi b.term.n 1 6 = false then 4 else if casesF [] b.term.cases ≠ 0 then casesF [] b.term.cases else edgesF (pruneF f).blocks (b.term.to.map fun e => ⟨gI (atF f) e.block, e.args⟩)) = 0
    rw [if_neg (by rw [he.shape]; decide)] at b2
    split at b2
    · cases b2
    · rename_i h2
      rw [if_neg h2]
      split at b2
      · cases b2
      · rename_i h3
        rw [if_neg h3]
        rw [if_neg (fun hn => hn he.cases)]
        refine edgesF_iff fun e hem => ?_
        obtain ⟨x, hx, rfl⟩ := List.mem_map.1 hem
        obtain ⟨x1, x2, x3⟩ := he.edges x hx
        have hedge : Edge f.blocks v x.block.toNat := ⟨x, by rw [toAt_get hb]; exact hx, rfl⟩
        have hxo := edge_mem ho hv hedge
        obtain ⟨g1, g2⟩ := rk_get ho hxo
        rw [show ((x.block.toNat : Nat) : Int) = x.block by omega] at g1
        have hne : rk f x.block.toNat ≠ 0 := fun e => by
          have := rk_inj ho hxo hz (by rw [e, rk_zero ho])
          omega
        have hlt := hgp _ hxo
        have hp := hpar _ hxo
        dsimp only
        rw [g1]
        refine ⟨by omega, by omega, ?_⟩
        rw [hp, x3, show ((x.block.toNat : Nat) : Int) = x.block by omega]
  have hEg : ∀ b ∈ (pruneF f).blocks, ∀ e ∈ b.term.to, 1 ≤ e.block ∧ e.block < (pruneF f).blocks.length := fun b hb e he => by
    have := (endF_ok (hblk b hb).2).edges e he
    exact ⟨this.1, this.2.1⟩
  have hkeys : keys (defsL 0 (pruneF f).blocks) = ((reachN f).map fun v => f.blocks[v]?.getD default).flatMap fun b => (dB b).map (·.1) := by
    rw [keysL, prune_blocks ho, List.flatMap_map]
    rfl
  have hsub : (keys (defsL 0 (pruneF f).blocks)).Sublist (keys (defsL 0 f.blocks)) := by
    rw [hkeys, keysL]
    exact flat_sub (base_sub (f := f))
  have hkok : KOk [] (defsL 0 (pruneF f).blocks) := ⟨fun x hx => fi.kok.wi x (hsub.subset hx), fi.kok.nodup.sublist hsub, mem_zero_key⟩
  have hlen128 := hok.len
  refine func_iff.2 ⟨hpos, by omega, ?_, ?_, fi.name, hkok, hblk, ?_⟩
  · have h1 := insN_sub (base_sub (f := f))
    have h2 := fi.ins
    rw [prune_blocks ho, insN_re]
    omega
  · have h1 := hpar 0 hz
    rw [rk_zero ho] at h1
    have h2 := fi.params
    rw [show ((0 : Nat) : Int) = 0 from rfl] at h1
    rw [h1]
    exact h2
  · refine usesF_iff.2 fun i c hi => ?_
    obtain ⟨v, b, hv, rfl, hb, rfl⟩ := prune_of ho hi
    have hu := usesF_iff.1 fi.uses v b hb
    rw [Nat.zero_add] at hu ⊢
    obtain ⟨l, hw⟩ := (order_iff hok).1 hv
    have hfine : ∀ n u, fineF (defsL 0 f.blocks) (domF f.blocks) v n u = true → fineF (defsL 0 (pruneF f).blocks) (domF (pruneF f).blocks) (rk f v) n u = true := fun n u hf => by
      unfold fineF at hf
      cases hg : dget (defsL 0 f.blocks) u with
      | none => rw [hg] at hf; cases hf
      | some p =>
        rw [hg] at hf
        dsimp only at hf
        obtain ⟨j, bj, hbj, hp1, hp2⟩ := defsL_at.1 ((dget_at fi.kok.nodup).1 hg)
        obtain ⟨p1, q⟩ := p
        have hp1 : p1 = (0 : Int) + j := hp1
        rw [Int.zero_add] at hp1
        subst hp1
        have hp2 : (u, q) ∈ dB bj := hp2
        have hseen : (domF f.blocks).seen.has v = true := (seen_iff hok.pos hok.len hE (by have := ho.lt v hv; omega)).2 ⟨l, hw⟩
        have hcase : j ∈ orderF f.blocks ∧ (j = v ∧ q ≤ n ∨ j ≠ v ∧ Doms f.blocks j v) := by
          rw [hseen] at hf
          simp only [Bool.not_true, Bool.or_false, Bool.or_eq_true, Bool.and_eq_true, decide_eq_true_eq, Int.toNat_natCast] at hf
          rcases hf with ⟨h1, h2⟩ | ⟨h1, h2⟩
          · have : j = v := by omega
            subst this
            exact ⟨hv, .inl ⟨rfl, h2⟩⟩
          · have hd := (has_iff hok.pos hok.len hE ⟨l, hw⟩ (ho.lt v hv) (List.getElem?_eq_some_iff.1 hbj).1).1 h2
            have hjo : j ∈ orderF f.blocks := by
              rcases hd l hw with e | e
              · rw [e]; exact hv
              · exact (prune_way ho hE hw).2.1 j e
            exact ⟨hjo, .inr ⟨fun e => h1 (by rw [e]), hd⟩⟩
        obtain ⟨hjo, hcase⟩ := hcase
        have hgj := prune_at ho hjo hbj
        have hg2 : dget (defsL 0 (pruneF f).blocks) u = some (((rk f j : Nat) : Int), q) := (dget_at hkok.nodup).2 (defsL_at.2 ⟨rk f j, _, hgj, by simp, hp2⟩)
        unfold fineF
        rw [hg2]
        dsimp only
        rcases hcase with ⟨rfl, h2⟩ | ⟨h1, h2⟩
        · simp [h2]
        · have hne : ((rk f j : Nat) : Int) ≠ (rk f v : Nat) := fun e => h1 (rk_inj ho hjo hv (by omega))
          have hh : ((domF (pruneF f).blocks).at (rk f v)).has (rk f j) = true := (has_iff hpos (by omega) hEg ⟨_, (prune_way ho hE hw).2.2⟩ (hgp v hv) (hgp j hjo)).2 ((prune_doms ho hE hjo hv).2 h2)
          rw [Int.toNat_natCast, hh]
          simp [hne]
    exact ⟨usesIns_imp hfine hu.1, used_re (hfine _) hu.2⟩
end Go.SM
end
section
set_option linter.unusedVariables false
set_option linter.unusedSimpArgs false
namespace Go.SM
open Go.VL
end Go.SM
end
section
set_option linter.unusedVariables false
set_option linter.unusedSimpArgs false
set_option linter.unusedSectionVars false
namespace Go.SM
open Go.VL
def renT (r : Int → Int) (t : STerm) : STerm := { t with to := t.to.map fun e => ⟨r e.block, e.args⟩ }
structure Ren (u v : SUnit) (ρ : Int → Int → Int) (good : Int → Int → Prop) : Prop where
  main : v.main = u.main
  entry : ∀ k, entryOf v k = entryOf u k
  zero : ∀ fn, good fn 0 ∧ ρ fn 0 = 0
  blk : ∀ fn k, good fn k → (blockAt v fn (ρ fn k)).params = (blockAt u fn k).params ∧ (blockAt v fn (ρ fn k)).ins = (blockAt u fn k).ins ∧ (blockAt v fn (ρ fn k)).term = renT (ρ fn) (blockAt u fn k).term ∧ ∀ e ∈ (blockAt u fn k).term.to, good fn e.block
def wst (s : List MFrame) (M : Mach) : Mach := { M with stack := s }
theorem pay_st (n : Int) (M : Mach) (s : List MFrame) : payF n (wst s M) = wst s (payF n M) := by
  unfold payF
  show (if M.left < n then _ else _) = _
  split <;> rfl
theorem alloc_st (a b : Val) (M : Mach) (s : List MFrame) : allocF a b (wst s M) = (wst s (allocF a b M).1, (allocF a b M).2) := by
  unfold allocF
  rw [pay_st]
  by_cases h1 : a.kind ≠ 0
  · rw [if_pos h1, if_pos h1]
  · rw [if_neg h1, if_neg h1]
    by_cases h2 : a.n < 0 ∨ 1024 < a.n
    · rw [if_pos h2, if_pos h2]
    · rw [if_neg h2, if_neg h2]
      show (if (payF a.n M).short = true then _ else _) = _
      by_cases h3 : (payF a.n M).short = true
      · rw [if_pos h3, if_pos h3]
      · rw [if_neg h3, if_neg h3]; rfl
theorem effect_st (i : SIns) (args : List Val) (M : Mach) (s : List MFrame) : effectF i args (wst s M) = (wst s (effectF i args M).1, (effectF i args M).2) := by
  unfold effectF
  rw [alloc_st]
  show (if i.op = 15 then if (argAt args 0).kind ≠ 0 then _ else if (M.out.length : Int) = 1000 then _ else _ else if i.op = 16 then _ else if i.op = 18 then if allK 0 args = false then _ else if _ then _ else _ else if _ then _ else if i.op = 17 then _ else if (argAt args 1).n < 0 ∨ ((arrOf M (argAt args 0)).length : Int) ≤ (argAt args 1).n then _ else if i.op = 19 then _ else _) = _
  by_cases h1 : i.op = 15
  · rw [if_pos h1, if_pos h1]
    by_cases h2 : (argAt args 0).kind ≠ 0
    · rw [if_pos h2, if_pos h2]
    · rw [if_neg h2, if_neg h2]
      by_cases h3 : (M.out.length : Int) = 1000
      · rw [if_pos h3, if_pos h3]
      · rw [if_neg h3, if_neg h3]; rfl
  · rw [if_neg h1, if_neg h1]
    by_cases h2 : i.op = 16
    · rw [if_pos h2, if_pos h2]
    · rw [if_neg h2, if_neg h2]
      by_cases h3 : i.op = 18
      · rw [if_pos h3, if_pos h3]
        by_cases h4 : allK 0 args = false
        · rw [if_pos h4, if_pos h4]
        · rw [if_neg h4, if_neg h4]
          by_cases h5 : (argAt args 0).n < 0 ∨ (argAt args 1).n ≤ (argAt args 0).n
          · rw [if_pos h5, if_pos h5]
          · rw [if_neg h5, if_neg h5]
      · rw [if_neg h3, if_neg h3]
        by_cases h4 : (argAt args 0).kind ≠ 3 ∨ i.op ≠ 17 ∧ (argAt args 1).kind ≠ 0
        · rw [if_pos h4, if_pos h4]
        · rw [if_neg h4, if_neg h4]
          by_cases h5 : i.op = 17
          · rw [if_pos h5, if_pos h5]; rfl
          · rw [if_neg h5, if_neg h5]
            by_cases h6 : (argAt args 1).n < 0 ∨ ((arrOf M (argAt args 0)).length : Int) ≤ (argAt args 1).n
            · rw [if_pos h6, if_pos h6]
            · rw [if_neg h6, if_neg h6]
              by_cases h7 : i.op = 19
              · rw [if_pos h7, if_pos h7]; rfl
              · rw [if_neg h7, if_neg h7]
                have : ∀ l, setArr (wst s M) (argAt args 0) l = wst s (setArr M (argAt args 0) l) := fun l => by
                  unfold setArr
                  cases (argAt args 0).arr <;> rfl
                rw [this]; rfl
theorem exec_st (i : SIns) (args : List Val) (M : Mach) (s : List MFrame) : execF i args (wst s M) = (wst s (execF i args M).1, (execF i args M).2) := by
  unfold execF
  rw [effect_st]
  by_cases h1 : i.op = 0
  · rw [if_pos h1, if_pos h1]
  · rw [if_neg h1, if_neg h1]
    by_cases h2 : elemJ i.op [1, 2, 3, 4, 5, 6, 7] = true
    · rw [if_pos h2, if_pos h2]
      by_cases h3 : allK 0 args = false
      · rw [if_pos h3, if_pos h3]
      · rw [if_neg h3, if_neg h3]
    · rw [if_neg h2, if_neg h2]
      by_cases h3 : i.op = 8
      · rw [if_pos h3, if_pos h3]
      · rw [if_neg h3, if_neg h3]
        by_cases h4 : i.op = 9
        · rw [if_pos h4, if_pos h4]
        · rw [if_neg h4, if_neg h4]
          by_cases h5 : elemJ i.op [10, 11, 12, 21] = true
          · rw [if_pos h5, if_pos h5]
          · rw [if_neg h5, if_neg h5]
            by_cases h6 : elemJ i.op [22, 23, 24] = true
            · rw [if_pos h6, if_pos h6]
            · rw [if_neg h6, if_neg h6]
              by_cases h7 : i.op = 100
              · rw [if_pos h7, if_pos h7]
              · rw [if_neg h7, if_neg h7]
section
variable {u v : SUnit} {ρ : Int → Int → Int} {good : Int → Int → Prop} (h : Ren u v ρ good)
def renF (ρ : Int → Int → Int) (f : MFrame) : MFrame := { f with block := ρ f.fn f.block }
def renM (ρ : Int → Int → Int) (M : Mach) : Mach := wst (M.stack.map (renF ρ)) M
def AllGood (good : Int → Int → Prop) (M : Mach) : Prop := ∀ f ∈ M.stack, good f.fn f.block
include h
theorem ren_entered (fn : Int) (args : List Val) (to : Int) : entered v fn args to = renF ρ (entered u fn args to) ∧ good (entered u fn args to).fn (entered u fn args to).block := by
  obtain ⟨h1, h2⟩ := h.zero fn
  refine ⟨?_, h1⟩
  show MFrame.mk fn 0 0 to (vputs [] (entryOf v fn) args) = MFrame.mk fn (ρ fn 0) 0 to (vputs [] (entryOf u fn) args)
  rw [h2, h.entry]
theorem ren_edge {fn : Int} {t : STerm} (hg : ∀ e ∈ t.to, good fn e.block) (k : Nat) : edgeAt (renT (ρ fn) t) k = ⟨ρ fn (edgeAt t k).block, (edgeAt t k).args⟩ ∧ good fn (edgeAt t k).block := by
  unfold edgeAt renT
  dsimp only
  rw [List.getElem?_map]
  cases he : t.to[k]? with
  | none =>
    obtain ⟨h1, h2⟩ := h.zero fn
    refine ⟨?_, h1⟩
    show SEdge.mk 0 [] = SEdge.mk (ρ fn 0) []
    rw [h2]
  | some e => exact ⟨rfl, hg e (List.mem_of_getElem? he)⟩
theorem ren_follow (f : MFrame) (e : SEdge) (hg : good f.fn e.block) : followF v (renF ρ f) ⟨ρ f.fn e.block, e.args⟩ = renF ρ (followF u f e) ∧ good (followF u f e).fn (followF u f e).block := by
  refine ⟨?_, hg⟩
  show MFrame.mk f.fn (ρ f.fn e.block) 0 f.to (vputs f.vals (blockAt v f.fn (ρ f.fn e.block)).params (takeF f.vals e.args)) = MFrame.mk f.fn (ρ f.fn e.block) 0 f.to (vputs f.vals (blockAt u f.fn e.block).params (takeF f.vals e.args))
  rw [(h.blk _ _ hg).1]
theorem ren_leave (f : MFrame) (x : Val) (fs : List MFrame) (M : Mach) (hg : ∀ g ∈ fs, good g.fn g.block) : leaveF (renF ρ f) x (fs.map (renF ρ)) (renM ρ M) = renM ρ (leaveF f x fs M) ∧ AllGood good (leaveF f x fs M) := by
  cases fs with
  | nil => exact ⟨rfl, fun g hg2 => by cases hg2⟩
  | cons g gs =>
    refine ⟨rfl, fun x hx => ?_⟩
    rcases List.mem_cons.1 hx with rfl | hx
    · exact hg g (List.mem_cons_self ..)
    · exact hg x (List.mem_cons_of_mem _ hx)
theorem ren_stop (e n : Int) (M : Mach) (hg : AllGood good M) : stopF e n (renM ρ M) = renM ρ (stopF e n M) ∧ AllGood good (stopF e n M) := ⟨rfl, hg⟩
theorem ren_push {M : Mach} {f : MFrame} {fs : List MFrame} (hf : good f.fn f.block) (hg : ∀ g ∈ fs, good g.fn g.block) : ({ renM ρ M with stack := renF ρ f :: fs.map (renF ρ) } : Mach) = renM ρ { M with stack := f :: fs } ∧ AllGood good { M with stack := f :: fs } := by
  refine ⟨rfl, fun x hx => ?_⟩
  rcases List.mem_cons.1 hx with rfl | hx
  · exact hf
  · exact hg x hx
theorem ren_term {f : MFrame} {t : STerm} {fs : List MFrame} {M : Mach} (hM : AllGood good M) (hg : ∀ g ∈ fs, good g.fn g.block) (ht : ∀ e ∈ t.to, good f.fn e.block) : termF v (renF ρ f) (renT (ρ f.fn) t) (fs.map (renF ρ)) (renM ρ M) = renM ρ (termF u f t fs M) ∧ AllGood good (termF u f t fs M) := by
  have go : ∀ k, ({ renM ρ M with stack := followF v (renF ρ f) (edgeAt (renT (ρ f.fn) t) k) :: fs.map (renF ρ) } : Mach) = renM ρ { M with stack := followF u f (edgeAt t k) :: fs } ∧ AllGood good { M with stack := followF u f (edgeAt t k) :: fs } := fun k => by
    obtain ⟨h1, h2⟩ := ren_edge h ht k
    obtain ⟨h3, h4⟩ := ren_follow h f (edgeAt t k) h2
    rw [h1, h3]
    exact ren_push h h4 hg
  unfold termF
  show (if t.kind = 4 then stopF t.n 0 (renM ρ M) else if t.kind = 1 then _ else if t.kind = 0 then leaveF (renF ρ f) (vget f.vals t.arg) (fs.map (renF ρ)) (renM ρ M) else if (vget f.vals t.arg).kind ≠ 0 then stopF 5 0 (renM ρ M) else { renM ρ M with stack := followF v (renF ρ f) (edgeAt (renT (ρ f.fn) t) (choiceF t (vget f.vals t.arg).n).toNat) :: fs.map (renF ρ) }) = _ ∧ _
  by_cases h1 : t.kind = 4
  · rw [if_pos h1, if_pos h1]; exact ren_stop h _ _ _ hM
  · rw [if_neg h1, if_neg h1]
    by_cases h2 : t.kind = 1
    · rw [if_pos h2, if_pos h2]; exact go 0
    · rw [if_neg h2, if_neg h2]
      by_cases h3 : t.kind = 0
      · rw [if_pos h3, if_pos h3]; exact ren_leave h f _ fs M hg
      · rw [if_neg h3, if_neg h3]
        by_cases h4 : (vget f.vals t.arg).kind ≠ 0
        · rw [if_pos h4, if_pos h4]; exact ren_stop h _ _ _ hM
        · rw [if_neg h4, if_neg h4]; exact go _
theorem ren_ins {f : MFrame} {i : SIns} {fs : List MFrame} {M : Mach} (hf : good f.fn f.block) (hst : M.stack = f :: fs) (hg : ∀ g ∈ fs, good g.fn g.block) : insF v (renF ρ f) i (fs.map (renF ρ)) (renM ρ M) = renM ρ (insF u f i fs M) ∧ AllGood good (insF u f i fs M) := by
  have hM : AllGood good M := fun x hx => by
    rw [hst] at hx
    rcases List.mem_cons.1 hx with rfl | hx
    · exact hf
    · exact hg x hx
  have ent : ∀ n args to, enterF v n args to (renM ρ M) = renM ρ (enterF u n args to M) ∧ AllGood good (enterF u n args to M) := fun n args to => by
    obtain ⟨h1, h2⟩ := ren_entered h n args to
    unfold enterF
    rw [h1]
    exact ren_push h h2 hM
  unfold insF
  show (if i.op = 13 then enterF v i.n (takeF f.vals i.args) i.to (renM ρ M) else if i.op = 14 then if (argAt (takeF f.vals i.args) 0).kind = 2 ∧ (entryOf v (argAt (takeF f.vals i.args) 0).n).length = (takeF f.vals i.args).length then enterF v (argAt (takeF f.vals i.args) 0).n (takeF f.vals i.args) i.to (renM ρ M) else stopF 5 0 (renM ρ M) else
    ({ (if (execF i (takeF f.vals i.args) (renM ρ M)).2.2 ≠ 0 then stopF (execF i (takeF f.vals i.args) (renM ρ M)).2.2 0 (execF i (takeF f.vals i.args) (renM ρ M)).1 else (execF i (takeF f.vals i.args) (renM ρ M)).1) with stack := { renF ρ f with vals := vput f.vals i.to (execF i (takeF f.vals i.args) (renM ρ M)).2.1 } :: fs.map (renF ρ) } : Mach)) = _ ∧ _
  rw [h.entry]
  dsimp only
  by_cases h1 : i.op = 13
  · rw [if_pos h1, if_pos h1]; exact ent ..
  · rw [if_neg h1, if_neg h1]
    by_cases h2 : i.op = 14
    · rw [if_pos h2, if_pos h2]
      by_cases h3 : (argAt (takeF f.vals i.args) 0).kind = 2 ∧ (entryOf u (argAt (takeF f.vals i.args) 0).n).length = (takeF f.vals i.args).length
      · rw [if_pos h3, if_pos h3]; exact ent ..
      · rw [if_neg h3, if_neg h3]; exact ren_stop h _ _ _ hM
    · rw [if_neg h2, if_neg h2]
      have he := exec_st i (takeF f.vals i.args) M (M.stack.map (renF ρ))
      unfold renM
      rw [he]
      by_cases h3 : (execF i (takeF f.vals i.args) M).2.2 ≠ 0
      · rw [if_pos h3, if_pos h3]
        exact ren_push h (M := stopF (execF i (takeF f.vals i.args) M).2.2 0 (execF i (takeF f.vals i.args) M).1) (f := { f with vals := vput f.vals i.to (execF i (takeF f.vals i.args) M).2.1 }) hf hg
      · rw [if_neg h3, if_neg h3]
        exact ren_push h (M := (execF i (takeF f.vals i.args) M).1) (f := { f with vals := vput f.vals i.to (execF i (takeF f.vals i.args) M).2.1 }) hf hg
theorem ren_step {M : Mach} (hM : AllGood good M) : stepF v (renM ρ M) = renM ρ (stepF u M) ∧ AllGood good (stepF u M) := by
  unfold stepF
  cases hst : M.stack with
  | nil =>
    have e : (renM ρ M).stack = [] := by show M.stack.map (renF ρ) = []; rw [hst]; rfl
    rw [e]
    exact ⟨rfl, hM⟩
  | cons f fs =>
    have e : (renM ρ M).stack = renF ρ f :: fs.map (renF ρ) := by show M.stack.map (renF ρ) = _; rw [hst]; rfl
    rw [e]
    have hf : good f.fn f.block := hM f (by rw [hst]; exact List.mem_cons_self ..)
    have hg : ∀ g ∈ fs, good g.fn g.block := fun g hg => hM g (by rw [hst]; exact List.mem_cons_of_mem _ hg)
    obtain ⟨b1, b2, b3, b4⟩ := h.blk _ _ hf
    dsimp only
    show (if f.at_ = ((blockAt v f.fn (ρ f.fn f.block)).ins.length : Int) then termF v (renF ρ f) (blockAt v f.fn (ρ f.fn f.block)).term (fs.map (renF ρ)) (renM ρ M) else
      insF v (renF ρ { f with at_ := f.at_ + 1 }) ((blockAt v f.fn (ρ f.fn f.block)).ins[f.at_.toNat]?.getD default) (fs.map (renF ρ)) (renM ρ { M with stack := { f with at_ := f.at_ + 1 } :: fs })) = _ ∧ _
    rw [b2, b3]
    by_cases h1 : f.at_ = ((blockAt u f.fn f.block).ins.length : Int)
    · rw [if_pos h1, if_pos h1]
      exact ren_term h hM hg b4
    · rw [if_neg h1, if_neg h1]
      exact ren_ins h (f := { f with at_ := f.at_ + 1 }) hf rfl hg
theorem ren_go : ∀ (n : Nat) (M : Mach), AllGood good M → goF v n (renM ρ M) = renM ρ (goF u n M)
  | 0, M, _ => rfl
  | n + 1, M, hM => by
    rw [goF, goF]
    have hp : payF 1 (renM ρ M) = renM ρ (payF 1 M) := by
      unfold renM
      rw [pay_st]
      unfold payF
      split <;> rfl
    have hpg : AllGood good (payF 1 M) := fun x hx => hM x (by
      unfold payF at hx
      split at hx <;> exact hx)
    rw [hp]
    show (if M.over = true then _ else if (payF 1 M).short = true then _ else _) = _
    by_cases h1 : M.over = true
    · rw [if_pos h1, if_pos h1]
    · rw [if_neg h1, if_neg h1]
      by_cases h2 : (payF 1 M).short = true
      · rw [if_pos h2, if_pos h2]
      · rw [if_neg h2, if_neg h2]
        obtain ⟨h3, h4⟩ := ren_step h hpg
        rw [h3]
        exact ren_go n _ h4
theorem ren_perform (fuel : Int) : performF v fuel = performF u fuel := by
  have hs : startF v fuel = renM ρ (startF u fuel) := by
    unfold startF enterF
    rw [h.main, (ren_entered h u.main [] 0).1]
    rfl
  have hg : AllGood good (startF u fuel) := fun x hx => by
    rcases List.mem_cons.1 hx with rfl | hx
    · exact (ren_entered h u.main [] 0).2
    · cases hx
  have e := ren_go h (fuel.toNat + 1) _ hg
  unfold performF
  rw [hs, e]
  rfl
theorem ren_run (hu : unitF u = 0) (hv : unitF v = 0) (fuel : Int) : runF v fuel = runF u fuel := by
  unfold runF
  rw [hu, hv, ren_perform h]
end
theorem run_unit {u : SUnit} {fuel : Int} (h : (runF u fuel).2.2 = 0) : unitF u = 0 := by
  unfold runF at h
  by_cases hu : unitF u ≠ 0
  · rw [if_pos hu] at h
    exact absurd h hu
  · exact Decidable.not_not.1 hu
end Go.SM
end
section
set_option linter.unusedVariables false
set_option linter.unusedSimpArgs false
namespace Go.SM
open Go.VL
def pruneU (u : SUnit) : SUnit := ⟨u.fns.map pruneF, u.main⟩
theorem unit_fns {u : SUnit} (h : unitF u = 0) : ∀ f ∈ u.fns, funcF f = 0 := by
  unfold unitF at h
  split at h
  · cases h
  · split at h
    · cases h
    · split at h
      · cases h
      · split at h
        · rename_i hn; exact absurd h hn
        · rename_i hn
          exact firstE_ok (Decidable.not_not.1 hn)
theorem firstE_all {α : Type} {f : α → Int} : ∀ {l : List α}, (∀ x ∈ l, f x = 0) → firstE f l = 0
  | [], _ => rfl
  | x :: l, h => by
    rw [firstE, if_neg (fun hn => hn (h x (List.mem_cons_self ..)))]
    exact firstE_all fun y hy => h y (List.mem_cons_of_mem _ hy)
theorem prune_entry {f : SFunc} (h : funcF f = 0) : paramsOf (pruneF f).blocks 0 = paramsOf f.blocks 0 := by
  have hok := func_ok h
  have ho := order_ok hok.pos hok.edges
  obtain ⟨b, hb⟩ := get_of_lt f.blocks 0 (by have := hok.pos; omega)
  have h1 := prune_at ho (zero_mem ho) hb
  rw [rk_zero ho] at h1
  rw [paramsOf_get (k := 0) (b := b) hb, paramsOf_get (k := 0) h1]
  rfl
theorem pruneU_get (u : SUnit) (k : Int) : (pruneU u).fns[k.toNat]? = (u.fns[k.toNat]?).map pruneF := List.getElem?_map ..
theorem pruneU_entry {u : SUnit} (hf : ∀ f ∈ u.fns, funcF f = 0) (k : Int) : entryOf (pruneU u) k = entryOf u k := by
  unfold entryOf
  rw [pruneU_get]
  cases h : u.fns[k.toNat]? with
  | none => rfl
  | some f => exact prune_entry (hf f (List.mem_of_getElem? h))
theorem prune_unit {u : SUnit} (h : unitF u = 0) : unitF (pruneU u) = 0 := by
  have hf := unit_fns h
  have hl : (pruneU u).fns.length = u.fns.length := List.length_map ..
  have hc : ∀ i, callF (pruneU u) i = callF u i := fun i => by
    unfold callF
    rw [hl, pruneU_entry hf]
  have hcalls : callsF u = 0 → callsF (pruneU u) = 0 := fun hcu => by
    refine firstE_all fun g hg => ?_
    obtain ⟨f, hfm, rfl⟩ := List.mem_map.1 hg
    have h1 := firstE_ok hcu f hfm
    have hok := func_ok (hf f hfm)
    have ho := order_ok hok.pos hok.edges
    refine firstE_all fun c hcm => ?_
    obtain ⟨i, hi⟩ := List.getElem?_of_mem hcm
    obtain ⟨v, b, _, _, hb, rfl⟩ := prune_of ho hi
    have h2 := firstE_ok h1 b (List.mem_of_getElem? hb)
    exact firstE_all fun x hx => (hc x).trans (firstE_ok h2 x hx)
  have hfn : firstE funcF (pruneU u).fns = 0 := firstE_all fun g hg => by
    obtain ⟨f, hfm, rfl⟩ := List.mem_map.1 hg
    exact prune_ok (hf f hfm)
  have hm : (pruneU u).main = u.main := rfl
  unfold unitF at h ⊢
  rw [hl, hm, hfn, pruneU_entry hf]
  split at h
  · cases h
  · rename_i g1
    rw [if_neg g1]
    split at h
    · cases h
    · rename_i g2
      rw [if_neg g2]
      split at h
      · cases h
      · rename_i g3
        rw [if_neg g3, if_neg (fun e => e rfl)]
        split at h
        · rename_i hn; exact absurd h hn
        · split at h
          · cases h
          · rename_i g5
            rw [if_neg g5]
            exact hcalls h
def rhoP (u : SUnit) (fn k : Int) : Int := match u.fns[fn.toNat]? with
  | some f => gI (atF f) k
  | none => k
def goodP (u : SUnit) (fn k : Int) : Prop := ∀ f, u.fns[fn.toNat]? = some f → 0 ≤ k ∧ k.toNat ∈ orderF f.blocks
theorem prune_ren {u : SUnit} (h : unitF u = 0) : Ren u (pruneU u) (rhoP u) (goodP u) := by
  have hf := unit_fns h
  refine ⟨rfl, pruneU_entry hf, fun fn => ?_, fun fn k hg => ?_⟩
  · cases hu : u.fns[fn.toNat]? with
    | none => exact ⟨fun f e => (by rw [hu] at e; cases e), (by unfold rhoP; rw [hu])⟩
    | some f =>
      have hok := func_ok (hf f (List.mem_of_getElem? hu))
      have ho := order_ok hok.pos hok.edges
      have h1 := (rk_get ho (zero_mem ho)).1
      rw [rk_zero ho] at h1
      refine ⟨fun g e => ?_, ?_⟩
      · rw [hu] at e
        injection e with e
        subst e
        exact ⟨Int.le_refl _, zero_mem ho⟩
      · unfold rhoP
        rw [hu]
        exact h1
  · unfold blockAt
    rw [pruneU_get]
    cases hu : u.fns[fn.toNat]? with
    | none => exact ⟨rfl, rfl, rfl, fun e he => by cases he⟩
    | some f =>
      have hok := func_ok (hf f (List.mem_of_getElem? hu))
      have ho := order_ok hok.pos hok.edges
      obtain ⟨h0, hk⟩ := hg f hu
      obtain ⟨b, hb⟩ := get_of_lt f.blocks k.toNat (by have := ho.lt _ hk; omega)
      have hr : rhoP u fn k = (rk f k.toNat : Nat) := by
        unfold rhoP
        rw [hu]
        have h1 := (rk_get ho hk).1
        rw [Int.toNat_of_nonneg h0] at h1
        exact h1
      have hc := prune_at ho hk hb
      have e1 : ((some f).bind fun f => f.blocks[k.toNat]?).getD default = b := by
        show (f.blocks[k.toNat]?).getD default = b
        rw [hb]; rfl
      have e2 : (((some f).map pruneF).bind fun f => f.blocks[(rhoP u fn k).toNat]?).getD default = reB (atF f) b := by
        show ((pruneF f).blocks[(rhoP u fn k).toNat]?).getD default = _
        rw [hr, Int.toNat_natCast, hc]; rfl
      rw [e1, e2]
      refine ⟨rfl, rfl, ?_, fun e he => fun g e2 => ?_⟩
      · have e3 : rhoP u fn = gI (atF f) := by
          funext x
          unfold rhoP
          rw [hu]
        rw [e3]
        rfl
      · rw [hu] at e2
        injection e2 with e2
        subst e2
        have h1 := hok.edges b (List.mem_of_getElem? hb) e he
        exact ⟨by omega, ho.closed _ hk e.block.toNat ⟨e, by rw [toAt_get hb]; exact he, by omega⟩⟩
theorem prune_run {u : SUnit} {fuel : Int} (h : (runF u fuel).2.2 = 0) : runF (pruneU u) fuel = runF u fuel :=
  ren_run (prune_ren (run_unit h)) (run_unit h) (prune_unit (run_unit h)) fuel
theorem prune_all {f : SFunc} (h0 : funcF f = 0) : (reachL (pruneF f)).length = (pruneF f).blocks.length := by
  have hok := func_ok h0
  have ho := order_ok hok.pos hok.edges
  have gok := func_ok (prune_ok h0)
  have go := order_ok gok.pos gok.edges
  have hall : ∀ i < (pruneF f).blocks.length, i ∈ orderF (pruneF f).blocks := fun i hi => by
    obtain ⟨c, hc⟩ := get_of_lt (pruneF f).blocks i (by omega)
    obtain ⟨v, b, hv, hr, hb, _⟩ := prune_of ho hc
    obtain ⟨l, hw⟩ := (order_iff hok).1 hv
    rw [← hr]
    exact (order_iff gok).2 ⟨_, (prune_way ho hok.edges hw).2.2⟩
  rw [reach_eq go, List.length_map]
  unfold reachN
  rw [List.filter_eq_self.2 fun v hv => by rw [decide_eq_true_eq]; exact hall v (List.mem_range.1 hv), List.length_range]
def cntF (f : SFunc) (k : Nat) : Nat := ((List.range k).filter fun v => decide (v ∈ orderF f.blocks)).length
theorem cnt_step {f : SFunc} (h0 : funcF f = 0) {k : Nat} (hk : k < f.blocks.length) : gI (atF f) k = -1 ∧ cntF f (k + 1) = cntF f k ∨ gI (atF f) k = (cntF f k : Int) ∧ cntF f (k + 1) = cntF f k + 1 := by
  have hok := func_ok h0
  have ho := order_ok hok.pos hok.edges
  have hs : cntF f (k + 1) = cntF f k + (if k ∈ orderF f.blocks then 1 else 0) := by
    unfold cntF
    rw [List.range_succ, List.filter_append, List.length_append]
    congr 1
    by_cases h : k ∈ orderF f.blocks
    · rw [if_pos h, List.filter_cons_of_pos (by simpa using h)]; rfl
    · rw [if_neg h, List.filter_cons_of_neg (by simpa using h)]; rfl
  rcases at_of ho hk with ⟨h1, h2⟩ | ⟨h1, h2, h3⟩
  · exact .inl ⟨h1, by rw [hs, if_neg h2]; rfl⟩
  · refine .inr ⟨?_, by rw [hs, if_pos h1]⟩
    rw [h2]
    have hg : (reachN f)[cntF f k]? = some k := by
      have e : f.blocks.length = k + ((f.blocks.length - k - 1) + 1) := by omega
      unfold reachN
      rw [e, List.range_add, List.filter_append, List.range_succ_eq_map, List.map_cons, List.filter_cons_of_pos (by simpa using h1), List.getElem?_append_right (by unfold cntF; omega)]
      unfold cntF
      rw [Nat.sub_self]
      rfl
    have := sorted_inj reachN_sorted h3 hg
    omega
theorem cntF_le (f : SFunc) : ∀ k, cntF f k ≤ k
  | 0 => Nat.le_refl _
  | k + 1 => by
    unfold cntF
    have := List.length_filter_le (fun v => decide (v ∈ orderF f.blocks)) (List.range (k + 1))
    rw [List.length_range] at this
    exact this
end Go.SM
end
