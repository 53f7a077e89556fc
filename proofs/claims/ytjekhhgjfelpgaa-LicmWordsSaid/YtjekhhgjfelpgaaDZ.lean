import Derived.Test.YtjekhhgjfelpgaaSZ
import Derived.Test.YtjekhhgjfelpgaaS2
section
set_option linter.unusedVariables false
namespace Go.SM
open Go.VL
def predE (k : Nat) (P : List (List Int)) (e : SEdge) : List (List Int) := P.set e.block.toNat ((P[e.block.toNat]?.getD []) ++ [(k : Int)])
def predB (k : Nat) (P : List (List Int)) (b : SBlock) : List (List Int) := b.term.to.foldl (predE k) P
def predL : Nat → List SBlock → List (List Int) → List (List Int)
  | _, [], P => P
  | k, b :: l, P => predL (k + 1) l (predB k P b)
def predsF (bs : List SBlock) : List (List Int) := predL 0 bs (List.replicate bs.length [])
def edgesN : List SBlock → Nat
  | [] => 0
  | b :: l => b.term.to.length + edgesN l
theorem term_edges {f : SFunc} (h : FuncOk f) {b : SBlock} (hb : b ∈ f.blocks) : b.term.to.length ≤ 257 := by
  have he := endF_ok (h.block hb).2
  have hm := he.many
  have hs := he.shape
  unfold shapeF at hs
  repeat' split at hs
  all_goals first | (simp only [Bool.and_eq_true, decide_eq_true_eq] at hs; omega) | cases hs
theorem FuncOk.edges {f : SFunc} (h : FuncOk f) : ∀ b ∈ f.blocks, ∀ e ∈ b.term.to, 1 ≤ e.block ∧ e.block < f.blocks.length := blocks_edges h.blocks
end Go.SM
end
section
set_option linter.unusedVariables false
set_option linter.unusedSimpArgs false
namespace Go.SM
open Go.VL
structure DState where
  seen : List Bool
  stack : List (Nat × Nat)
  out : List Nat
def toAt (bs : List SBlock) (b : Nat) : List SEdge := ((bs[b]?).map (·.term.to)).getD []
def Edge (bs : List SBlock) (p v : Nat) : Prop := ∃ x ∈ toAt bs p, x.block.toNat = v
def dfsStep (bs : List SBlock) (s : DState) : DState :=
  match s.stack with
  | [] => s
  | (b, e) :: st =>
    match (toAt bs b)[e]? with
    | none => ⟨s.seen, st, s.out ++ [b]⟩
    | some x => if s.seen[x.block.toNat]? = some false then ⟨s.seen.set x.block.toNat true, (x.block.toNat, 0) :: (b, e + 1) :: st, s.out⟩ else ⟨s.seen, (b, e + 1) :: st, s.out⟩
def dfsRun (bs : List SBlock) : Nat → DState → DState
  | 0, s => s
  | n + 1, s => if s.stack = [] then s else dfsRun bs n (dfsStep bs s)
def dfsStart (n : Nat) : DState := ⟨(List.replicate n false).set 0 true, [(0, 0)], []⟩
def postF (bs : List SBlock) : List Nat := (dfsRun bs (edgesN bs + bs.length) (dfsStart bs.length)).out
def orderF (bs : List SBlock) : List Nat := (postF bs).reverse
theorem toAt_get {bs : List SBlock} {k : Nat} {b : SBlock} (h : bs[k]? = some b) : toAt bs k = b.term.to := by rw [toAt, h]; rfl
def cost (bs : List SBlock) (k : Nat) : Nat := (toAt bs k).length + 1
def unseenW (bs : List SBlock) : Nat → List Bool → Nat
  | _, [] => 0
  | k, s :: l => (if s then 0 else cost bs k) + unseenW bs (k + 1) l
def stackW (bs : List SBlock) : List (Nat × Nat) → Nat
  | [] => 0
  | (b, e) :: st => (cost bs b - e) + stackW bs st
def dfsW (bs : List SBlock) (s : DState) : Nat := unseenW bs 0 s.seen + stackW bs s.stack
theorem unseen_set (bs : List SBlock) : ∀ (l : List Bool) (k n : Nat), l[n]? = some false → unseenW bs k (l.set n true) + cost bs (k + n) = unseenW bs k l
  | [], k, n, h => by simp at h
  | s :: l, k, 0, h => by
    simp at h
    subst h
    simp [unseenW]
    omega
  | s :: l, k, n + 1, h => by
    simp at h
    have := unseen_set bs l (k + 1) n h
    simp only [List.set_cons_succ, unseenW]
    rw [show k + (n + 1) = k + 1 + n by omega]
    omega
structure DfsInv0 (bs : List SBlock) (s : DState) : Prop where
  len : s.seen.length = bs.length
  stk : ∀ x ∈ s.stack, x.1 < bs.length ∧ x.2 ≤ (toAt bs x.1).length ∧ s.seen[x.1]? = some true
theorem step_w {bs : List SBlock} {s : DState} (h : DfsInv0 bs s) (hne : s.stack ≠ []) : dfsW bs (dfsStep bs s) + 1 = dfsW bs s := by
  unfold dfsStep
  split
  · rename_i he; exact absurd he hne
  · rename_i b e st hs
    have hb := h.stk (b, e) (by rw [hs]; exact List.mem_cons_self ..)
    dsimp only at hb
    split
    · rename_i hn
      have : e = (toAt bs b).length := by
        have := List.getElem?_eq_none_iff.1 hn
        omega
      unfold dfsW
      rw [hs]
      simp only [stackW, cost]
      omega
    · rename_i x hx
      have hlt := (List.getElem?_eq_some_iff.1 hx).1
      split
      · rename_i hu
        have := unseen_set bs s.seen 0 _ hu
        unfold dfsW
        rw [hs]
        simp only [stackW]
        rw [Nat.zero_add] at this
        have hc : cost bs b = (toAt bs b).length + 1 := rfl
        omega
      · unfold dfsW
        rw [hs]
        simp only [stackW, cost]
        omega
def StackOk (bs : List SBlock) : List (Nat × Nat) → Prop
  | [] => True
  | [x] => x.1 = 0
  | x :: y :: st => Edge bs y.1 x.1 ∧ StackOk bs (y :: st)
def seenB (s : DState) (v : Nat) : Prop := s.seen[v]? = some true
structure DfsInv (bs : List SBlock) (s : DState) : Prop extends DfsInv0 bs s where
  out : ∀ v ∈ s.out, v < bs.length ∧ seenB s v
  nodup : (s.stack.map (·.1) ++ s.out).Nodup
  cover : ∀ v, seenB s v → v ∈ s.stack.map (·.1) ∨ v ∈ s.out
  closedO : ∀ v ∈ s.out, ∀ x ∈ toAt bs v, seenB s x.block.toNat
  closedS : ∀ y ∈ s.stack, ∀ i x, i < y.2 → (toAt bs y.1)[i]? = some x → seenB s x.block.toNat
  chain : StackOk bs s.stack
  par : ∀ (i v : Nat), s.out[i]? = some v → v ≠ 0 → ∃ p, Edge bs p v ∧ (p ∈ s.stack.map (·.1) ∨ ∃ j, i < j ∧ s.out[j]? = some p)
  root : s.stack = [] → ∃ l, s.out = l ++ [0]
theorem StackOk.tail {bs : List SBlock} {x : Nat × Nat} : ∀ {st : List (Nat × Nat)}, StackOk bs (x :: st) → StackOk bs st
  | [], _ => trivial
  | y :: st, h => h.2
theorem StackOk.head {bs : List SBlock} {x y : Nat × Nat} (he : x.1 = y.1) : ∀ {st : List (Nat × Nat)}, StackOk bs (x :: st) → StackOk bs (y :: st)
  | [], h => by
    have h : x.1 = 0 := h
    show y.1 = 0
    rw [← he]
    exact h
  | z :: st, h => ⟨by rw [← he]; exact h.1, h.2⟩
theorem seen_mono {l : List Bool} {n v : Nat} (h : l[v]? = some true) : (l.set n true)[v]? = some true := by
  rw [List.getElem?_set]
  split
  · rename_i e; subst e; rw [if_pos (List.getElem?_eq_some_iff.1 h).1]
  · exact h
theorem step_inv {bs : List SBlock} {s : DState} (hE : ∀ b ∈ bs, ∀ e ∈ b.term.to, 1 ≤ e.block ∧ e.block < bs.length) (h : DfsInv bs s) : DfsInv bs (dfsStep bs s) := by
  unfold dfsStep
  split
  · exact h
  · rename_i b e st hs
    have hb := h.stk (b, e) (by rw [hs]; exact List.mem_cons_self ..)
    dsimp only at hb
    have hnd := h.nodup
    rw [hs] at hnd
    have hch := h.chain
    rw [hs] at hch
    split
    · rename_i hn
      have hee : (toAt bs b).length ≤ e := List.getElem?_eq_none_iff.1 hn
      refine ⟨⟨h.len, fun x hx => h.stk x (by rw [hs]; exact List.mem_cons_of_mem _ hx)⟩, ?_, ?_, ?_, ?_, ?_, hch.tail, ?_, ?_⟩
      · intro v hv
        rcases List.mem_append.1 hv with hv | hv
        · exact h.out v hv
        · rw [List.mem_singleton.1 hv]; exact ⟨hb.1, hb.2.2⟩
      · dsimp only
        rw [← List.append_assoc]
        rw [List.map_cons, List.cons_append] at hnd
        have hp : ((b, e).1 :: (st.map (·.1) ++ s.out)).Perm (st.map (·.1) ++ s.out ++ [b]) := (List.perm_append_singleton _ _).symm
        exact hp.nodup_iff.1 hnd
      · intro v hv
        rcases h.cover v hv with hv | hv
        · rw [hs] at hv
          rcases List.mem_cons.1 hv with rfl | hv
          · exact .inr (List.mem_append_right _ (List.mem_singleton.2 rfl))
          · exact .inl hv
        · exact .inr (List.mem_append_left _ hv)
      · intro v hv x hx
        rcases List.mem_append.1 hv with hv | hv
        · exact h.closedO v hv x hx
        · have hvb := List.mem_singleton.1 hv
          subst hvb
          obtain ⟨i, hi⟩ := List.getElem?_of_mem hx
          exact h.closedS (v, e) (by rw [hs]; exact List.mem_cons_self ..) i x (by have := (List.getElem?_eq_some_iff.1 hi).1; show i < e; omega) hi
      · exact fun y hy => h.closedS y (by rw [hs]; exact List.mem_cons_of_mem _ hy)
      · intro i v hi h0
        dsimp only at hi ⊢
        by_cases hlt : i < s.out.length
        · rw [List.getElem?_append_left hlt] at hi
          obtain ⟨p, hp1, hp2⟩ := h.par i v hi h0
          refine ⟨p, hp1, ?_⟩
          rcases hp2 with hp2 | ⟨j, hj, hj2⟩
          · rw [hs] at hp2
            rcases List.mem_cons.1 hp2 with rfl | hp2
            · exact .inr ⟨s.out.length, hlt, by rw [List.getElem?_append_right (Nat.le_refl _)]; simp⟩
            · exact .inl hp2
          · exact .inr ⟨j, hj, by rw [List.getElem?_append_left (List.getElem?_eq_some_iff.1 hj2).1]; exact hj2⟩
        · rw [List.getElem?_append_right (by omega)] at hi
          have : i - s.out.length = 0 := by
            have := (List.getElem?_eq_some_iff.1 hi).1
            simp at this
            omega
          rw [this] at hi
          simp at hi
          subst hi
          cases st with
          | nil => exact absurd hch h0
          | cons y st => exact ⟨y.1, hch.1, .inl (List.mem_map.2 ⟨y, List.mem_cons_self .., rfl⟩)⟩
      · intro hst
        dsimp only at hst
        subst hst
        have hb0 : b = 0 := hch
        exact ⟨s.out, by rw [hb0]⟩
    · rename_i x hx
      have hlt := (List.getElem?_eq_some_iff.1 hx).1
      have hxm := List.mem_of_getElem? hx
      have hxn : x.block.toNat < bs.length := by
        obtain ⟨bl, hbl⟩ : ∃ bl, bs[b]? = some bl := ⟨_, List.getElem?_eq_getElem hb.1⟩
        rw [toAt_get hbl] at hxm
        have := hE bl (List.mem_of_getElem? hbl) x hxm
        omega
      split
      · rename_i hu
        have hns : ∀ v, seenB s v → v ≠ x.block.toNat := fun v hv e => by
          subst e
          unfold seenB at hv
          rw [hu] at hv
          cases hv
        have hnew : (s.seen.set x.block.toNat true)[x.block.toNat]? = some true := by rw [List.getElem?_set, if_pos rfl, if_pos (by rw [h.len]; exact hxn)]
        refine ⟨⟨by rw [List.length_set]; exact h.len, ?_⟩, ?_, ?_, ?_, ?_, ?_, ?_, ?_, ?_⟩
        · intro y hy
          rcases List.mem_cons.1 hy with rfl | hy
          · exact ⟨hxn, Nat.zero_le _, hnew⟩
          · rcases List.mem_cons.1 hy with rfl | hy
            · exact ⟨hb.1, hlt, seen_mono hb.2.2⟩
            · have := h.stk y (by rw [hs]; exact List.mem_cons_of_mem _ hy)
              exact ⟨this.1, this.2.1, seen_mono this.2.2⟩
        · exact fun v hv => ⟨(h.out v hv).1, seen_mono (h.out v hv).2⟩
        · dsimp only
          rw [List.map_cons, List.map_cons, List.cons_append]
          refine List.nodup_cons.2 ⟨fun hm => ?_, hnd⟩
          have hsn : seenB s x.block.toNat := by
            rcases List.mem_append.1 hm with hm | hm
            · rcases List.mem_cons.1 hm with e1 | hm
              · have e1 : x.block.toNat = b := e1
                rw [e1]; exact hb.2.2
              · obtain ⟨y, hy, hy2⟩ := List.mem_map.1 hm
                have hy2 : y.1 = x.block.toNat := hy2
                rw [← hy2]
                exact (h.stk y (by rw [hs]; exact List.mem_cons_of_mem _ hy)).2.2
            · exact (h.out _ hm).2
          exact hns _ hsn rfl
        · intro v hv
          unfold seenB at hv
          dsimp only at hv ⊢
          by_cases hvx : v = x.block.toNat
          · subst hvx; exact .inl (List.mem_cons_self ..)
          · rw [List.getElem?_set_ne (Ne.symm hvx)] at hv
            rcases h.cover v hv with hc | hc
            · rw [hs] at hc
              exact .inl (List.mem_cons_of_mem _ hc)
            · exact .inr hc
        · exact fun v hv y hy => seen_mono (h.closedO v hv y hy)
        · intro y hy i z hi hz
          rcases List.mem_cons.1 hy with rfl | hy
          · exact absurd hi (Nat.not_lt_zero _)
          · rcases List.mem_cons.1 hy with rfl | hy
            · dsimp only at hi hz
              by_cases hie : i = e
              · subst hie
                rw [hx] at hz
                injection hz with hz
                subst hz
                exact hnew
              · exact seen_mono (h.closedS (b, e) (by rw [hs]; exact List.mem_cons_self ..) i z (by show i < e; omega) hz)
            · exact seen_mono (h.closedS y (by rw [hs]; exact List.mem_cons_of_mem _ hy) i z hi hz)
        · exact ⟨⟨x, hxm, rfl⟩, StackOk.head (x := (b, e)) (y := (b, e + 1)) rfl hch⟩
        · intro i v hi h0
          obtain ⟨p, hp1, hp2⟩ := h.par i v hi h0
          refine ⟨p, hp1, hp2.imp (fun hp2 => ?_) id⟩
          rw [hs] at hp2
          exact List.mem_cons_of_mem _ hp2
        · intro hst; cases hst
      · rename_i hu
        have hsx : seenB s x.block.toNat := by
          unfold seenB
          cases hv : s.seen[x.block.toNat]? with
          | none =>
            have := List.getElem?_eq_none_iff.1 hv
            rw [h.len] at this
            omega
          | some v =>
            cases v with
            | true => rfl
            | false => exact absurd hv hu
        refine ⟨⟨h.len, ?_⟩, h.out, ?_, ?_, h.closedO, ?_, ?_, ?_, ?_⟩
        · intro y hy
          rcases List.mem_cons.1 hy with rfl | hy
          · exact ⟨hb.1, hlt, hb.2.2⟩
          · exact h.stk y (by rw [hs]; exact List.mem_cons_of_mem _ hy)
        · exact hnd
        · intro v hv
          rcases h.cover v hv with hc | hc
          · rw [hs] at hc; exact .inl hc
          · exact .inr hc
        · intro y hy i z hi hz
          rcases List.mem_cons.1 hy with rfl | hy
          · dsimp only at hi hz
            by_cases hie : i = e
            · subst hie
              rw [hx] at hz
              injection hz with hz
              subst hz
              exact hsx
            · exact h.closedS (b, e) (by rw [hs]; exact List.mem_cons_self ..) i z (by show i < e; omega) hz
          · exact h.closedS y (by rw [hs]; exact List.mem_cons_of_mem _ hy) i z hi hz
        · exact StackOk.head (x := (b, e)) (y := (b, e + 1)) rfl hch
        · intro i v hi h0
          obtain ⟨p, hp1, hp2⟩ := h.par i v hi h0
          refine ⟨p, hp1, hp2.imp (fun hp2 => ?_) id⟩
          rw [hs] at hp2
          exact hp2
        · intro hst; cases hst
theorem nodup_lt {l : List Nat} {n : Nat} (h : l.Nodup) (hr : ∀ v ∈ l, v < n) : l.length ≤ n := by
  have := h.length_le_of_subset (l₂ := List.range n) fun v hv => List.mem_range.2 (hr v hv)
  simpa using this
theorem dfs_small {bs : List SBlock} {s : DState} (h : DfsInv bs s) : s.stack.length ≤ bs.length ∧ s.out.length ≤ bs.length := by
  have h1 := (List.nodup_append.1 h.nodup).1
  have h2 := (List.nodup_append.1 h.nodup).2.1
  have := nodup_lt h1 (n := bs.length) fun v hv => by
    obtain ⟨x, hx, rfl⟩ := List.mem_map.1 hv
    exact (h.stk x hx).1
  exact ⟨by simpa using this, nodup_lt h2 fun v hv => (h.out v hv).1⟩
theorem start_inv {bs : List SBlock} (h0 : 0 < bs.length) : DfsInv bs (dfsStart bs.length) := by
  have hs : (dfsStart bs.length).seen[0]? = some true := by
    show ((List.replicate bs.length false).set 0 true)[0]? = some true
    rw [List.getElem?_set, if_pos rfl, if_pos (by simpa using h0)]
  refine ⟨⟨by simp [dfsStart], fun x hx => ?_⟩, fun v hv => (by cases hv), by simp [dfsStart], fun v hv => ?_, fun v hv => (by cases hv), fun y hy i x hi => ?_, rfl, fun i v hi => (by simp [dfsStart] at hi), fun h => (by cases h)⟩
  · have hx := List.mem_singleton.1 hx
    subst hx
    exact ⟨h0, Nat.zero_le _, hs⟩
  · by_cases hv0 : v = 0
    · subst hv0; exact .inl (List.mem_cons_self ..)
    · unfold seenB at hv
      have : ((List.replicate bs.length false).set 0 true)[v]? = some true := hv
      rw [List.getElem?_set_ne (Ne.symm hv0), List.getElem?_replicate] at this
      split at this <;> cases this
  · have hy := List.mem_singleton.1 hy
    subst hy
    exact absurd hi (Nat.not_lt_zero _)
theorem run_inv {bs : List SBlock} (hE : ∀ b ∈ bs, ∀ e ∈ b.term.to, 1 ≤ e.block ∧ e.block < bs.length) : ∀ (n : Nat) (s : DState), DfsInv bs s → dfsW bs s ≤ n → DfsInv bs (dfsRun bs n s) ∧ (dfsRun bs n s).stack = []
  | 0, s, h, hw => by
    refine ⟨h, ?_⟩
    show s.stack = []
    cases hs : s.stack with
    | nil => rfl
    | cons x st =>
      have hb := h.stk x (by rw [hs]; exact List.mem_cons_self ..)
      unfold dfsW at hw
      rw [hs] at hw
      obtain ⟨b, e⟩ := x
      simp only [stackW, cost] at hw
      dsimp only at hb
      omega
  | n + 1, s, h, hw => by
    rw [dfsRun]
    split
    · rename_i he; exact ⟨h, he⟩
    · rename_i hne
      have := step_w h.toDfsInv0 hne
      exact run_inv hE n _ (step_inv hE h) (by omega)
theorem unseen_start (bs : List SBlock) : ∀ (l : List SBlock) (k : Nat), (∀ i b, l[i]? = some b → bs[k + i]? = some b) → unseenW bs k (List.replicate l.length false) = edgesN l + l.length
  | [], k, _ => rfl
  | b :: l, k, h => by
    have h1 := unseen_start bs l (k + 1) fun i b hb => by
      have := h (i + 1) b (by simpa using hb)
      rwa [show k + (i + 1) = k + 1 + i by omega] at this
    have h2 := h 0 b rfl
    rw [Nat.add_zero] at h2
    rw [List.length_cons, List.replicate_succ, unseenW, h1, edgesN, cost, toAt_get h2]
    simp
    omega
theorem start_weight {bs : List SBlock} (h0 : 0 < bs.length) : dfsW bs (dfsStart bs.length) = edgesN bs + bs.length := by
  have h1 := unseen_start bs bs 0 fun i b hb => by rw [Nat.zero_add]; exact hb
  have h2 := unseen_set bs (List.replicate bs.length false) 0 0 (by rw [List.getElem?_replicate, if_pos h0])
  unfold dfsW dfsStart
  simp only [stackW]
  rw [Nat.zero_add] at h2
  omega
structure OrderOk (bs : List SBlock) (l : List Nat) : Prop where
  nodup : l.Nodup
  lt : ∀ v ∈ l, v < bs.length
  zero : l[0]? = some 0
  closed : ∀ v ∈ l, ∀ w, Edge bs v w → w ∈ l
  par : ∀ (j v : Nat), l[j]? = some v → v ≠ 0 → ∃ i p, i < j ∧ l[i]? = some p ∧ Edge bs p v
theorem order_ok {bs : List SBlock} (h0 : 0 < bs.length) (hE : ∀ b ∈ bs, ∀ e ∈ b.term.to, 1 ≤ e.block ∧ e.block < bs.length) : OrderOk bs (orderF bs) := by
  obtain ⟨h, hst⟩ := run_inv hE (edgesN bs + bs.length) _ (start_inv h0) (by rw [start_weight h0]; exact Nat.le_refl _)
  have hpo : postF bs = (dfsRun bs (edgesN bs + bs.length) (dfsStart bs.length)).out := rfl
  unfold orderF
  rw [hpo]
  generalize dfsRun bs (edgesN bs + bs.length) (dfsStart bs.length) = s at *
  have hn := h.nodup
  have hcov := h.cover
  rw [hst] at hn hcov
  refine ⟨(List.reverse_perm _).nodup_iff.2 (by simpa using hn), fun v hv => (h.out v (List.mem_reverse.1 hv)).1, ?_, ?_, ?_⟩
  · obtain ⟨l, hl⟩ := h.root hst
    rw [hl]
    simp
  · rintro v hv w ⟨x, hx, rfl⟩
    have := h.closedO v (List.mem_reverse.1 hv) x hx
    rcases hcov _ this with hc | hc
    · cases hc
    · exact List.mem_reverse.2 hc
  · intro j v hj h0
    have hjl := (List.getElem?_eq_some_iff.1 hj).1
    rw [List.length_reverse] at hjl
    rw [List.getElem?_reverse hjl] at hj
    obtain ⟨p, hp, hp2⟩ := h.par _ v hj h0
    rcases hp2 with hp2 | ⟨i, hi, hi2⟩
    · rw [hst] at hp2; cases hp2
    · have hil := (List.getElem?_eq_some_iff.1 hi2).1
      refine ⟨s.out.length - 1 - i, p, by omega, ?_, hp⟩
      rw [List.getElem?_reverse (by omega)]
      rw [show s.out.length - 1 - (s.out.length - 1 - i) = i by omega]
      exact hi2
theorem post_len {bs : List SBlock} (h0 : 0 < bs.length) (hE : ∀ b ∈ bs, ∀ e ∈ b.term.to, 1 ≤ e.block ∧ e.block < bs.length) : (postF bs).length ≤ bs.length := by
  have h := order_ok h0 hE
  have := nodup_lt h.nodup h.lt
  rw [orderF, List.length_reverse] at this
  exact this
end Go.SM
end
section
set_option linter.unusedVariables false
set_option linter.unusedSimpArgs false
set_option linter.unusedSectionVars false
namespace Go.SM
open Go.VL
def gI (l : List Int) (i : Int) : Int := l[i.toNat]?.getD 0
def meetF (ov pl : List Int) : Nat → Int → Int → Int
  | 0, a, _ => a
  | n + 1, a, b => if a = b then a else if gI pl a > gI pl b then meetF ov pl n (gI ov a) b else meetF ov pl n a (gI ov b)
def skipP (ov pl : List Int) (p : Int) : Bool := decide (gI pl p < 0) || (decide (p ≠ 0) && decide (gI ov p < 0))
def nextL (ov pl : List Int) (m : Nat) : Int → List Int → Int
  | cur, [] => cur
  | cur, p :: ps => nextL ov pl m (if skipP ov pl p then cur else if cur < 0 then p else meetF ov pl m cur p) ps
def placeF (ord : List Int) (n : Nat) : List Int := (List.range n).map fun k : Nat => idxOf (fun x => decide ((k : Int) = x)) ord
structure TState where
  ov : List Int
  again : Bool
def ordZ (bs : List SBlock) : List Int := (orderF bs).map fun k : Nat => (k : Int)
def placeZ (bs : List SBlock) : List Int := placeF (ordZ bs) bs.length
theorem idx_nat {l : List Nat} {v : Nat} : idxOf (fun x => decide ((v : Int) = x)) (l.map fun k : Nat => (k : Int)) = -1 ∧ v ∉ l ∨ ∃ i, idxOf (fun x => decide ((v : Int) = x)) (l.map fun k : Nat => (k : Int)) = (i : Nat) ∧ l[i]? = some v := by
  rcases idxOf_range (fun x => decide ((v : Int) = x)) (l.map fun k : Nat => (k : Int)) with ⟨h1, h2⟩ | ⟨i, x, h1, h2, h3, _⟩
  · refine .inl ⟨h1, fun hm => ?_⟩
    rw [List.any_eq_false] at h2
    exact h2 (v : Int) (List.mem_map.2 ⟨v, hm, rfl⟩) (by simp)
  · refine .inr ⟨i, h1, ?_⟩
    rw [List.getElem?_map] at h2
    obtain ⟨w, hw, rfl⟩ := Option.map_eq_some_iff.1 h2
    rw [hw]
    have : (v : Int) = (w : Int) := by simpa using h3
    congr 1
    omega
theorem place_get {bs : List SBlock} {v : Nat} (hv : v < bs.length) : gI (placeZ bs) v = -1 ∧ v ∉ orderF bs ∨ ∃ i, gI (placeZ bs) v = (i : Nat) ∧ (orderF bs)[i]? = some v := by
  have : gI (placeZ bs) v = idxOf (fun x => decide ((v : Int) = x)) (ordZ bs) := by
    unfold gI placeZ placeF
    rw [Int.toNat_natCast, List.getElem?_map, List.getElem?_range hv]
    rfl
  rw [this]
  exact idx_nat
def pos (bs : List SBlock) (v : Nat) : Nat := (gI (placeZ bs) v).toNat
section
variable {bs : List SBlock} (ho : OrderOk bs (orderF bs))
include ho
theorem place_of {v : Nat} (hv : v ∈ orderF bs) : gI (placeZ bs) v = (pos bs v : Nat) ∧ (orderF bs)[pos bs v]? = some v := by
  rcases place_get (ho.lt v hv) with ⟨_, h⟩ | ⟨i, h1, h2⟩
  · exact absurd hv h
  · unfold pos
    rw [h1, Int.toNat_natCast]
    exact ⟨rfl, h2⟩
theorem pos_inj {v w : Nat} (hv : v ∈ orderF bs) (hw : w ∈ orderF bs) (h : pos bs v = pos bs w) : v = w := by
  have h1 := (place_of ho hv).2
  have h2 := (place_of ho hw).2
  rw [h, h2] at h1
  injection h1 with h1
  exact h1.symm
theorem pos_lt {v : Nat} (hv : v ∈ orderF bs) : pos bs v < bs.length := by
  have := (List.getElem?_eq_some_iff.1 (place_of ho hv).2).1
  have := nodup_lt ho.nodup ho.lt
  omega
open Classical in
omit ho in
noncomputable def pi (bs : List SBlock) (v : Nat) : Nat := if h : ∃ p, p ∈ orderF bs ∧ pos bs p < pos bs v ∧ Edge bs p v then Classical.choose h else 0
end
inductive Anc (ov : List Int) : Nat → Nat → Prop where
  | refl (a : Nat) : Anc ov a a
  | step {a q x : Nat} : ov[a]? = some (q : Int) → Anc ov q x → Anc ov a x
inductive AncP (bs : List SBlock) : Nat → Nat → Prop where
  | refl (a : Nat) : AncP bs a a
  | step {a x : Nat} : a ≠ 0 → AncP bs (pi bs a) x → AncP bs a x
theorem Anc.trans {ov : List Int} {a b c : Nat} (h : Anc ov a b) (k : Anc ov b c) : Anc ov a c := by
  induction h with
  | refl => exact k
  | step h _ ih => exact .step h (ih k)
structure Tree (bs : List SBlock) (ov : List Int) : Prop where
  len : ov.length = bs.length
  root : ov[0]? = some (-1)
  out : ∀ v, v < bs.length → v ∉ orderF bs → ov[v]? = some (-1)
  up : ∀ (v : Nat) (x : Int), v ∈ orderF bs → v ≠ 0 → ov[v]? = some x → 0 ≤ x → ∃ q : Nat, x = q ∧ q ∈ orderF bs ∧ pos bs q < pos bs v ∧ (q = 0 ∨ ∃ y : Int, ov[q]? = some y ∧ 0 ≤ y)
  low : ∀ (v : Nat) (x : Int), ov[v]? = some x → x < 0 → x = -1
def InT (bs : List SBlock) (ov : List Int) (v : Nat) : Prop := v ∈ orderF bs ∧ (v = 0 ∨ ∃ x : Int, ov[v]? = some x ∧ 0 ≤ x)
section
variable {bs : List SBlock} (ho : OrderOk bs (orderF bs)) {ov : List Int}
include ho
theorem Tree.parent (h : Tree bs ov) {v : Nat} (hv : InT bs ov v) (h0 : v ≠ 0) : ∃ q : Nat, ov[v]? = some (q : Int) ∧ InT bs ov q ∧ pos bs q < pos bs v := by
  obtain ⟨hm, hv⟩ := hv
  rcases hv with hv | ⟨x, hx, hx0⟩
  · exact absurd hv h0
  · obtain ⟨q, rfl, h1, h2, h3⟩ := h.up v x hm h0 hx hx0
    exact ⟨q, hx, ⟨h1, h3⟩, h2⟩
theorem Tree.anc (h : Tree bs ov) {v x : Nat} (hv : InT bs ov v) (ha : Anc ov v x) : InT bs ov x ∧ pos bs x ≤ pos bs v ∧ (x ≠ v → pos bs x < pos bs v) := by
  induction ha with
  | refl a => exact ⟨hv, Nat.le_refl _, fun h => absurd rfl h⟩
  | @step a q x hq _ ih =>
    by_cases h0 : a = 0
    · subst h0
      rw [h.root] at hq
      injection hq with hq
      omega
    · obtain ⟨q', hq', hi, hp⟩ := h.parent ho hv h0
      rw [hq] at hq'
      injection hq' with hq'
      have : q = q' := by omega
      subst this
      have := ih hi
      exact ⟨this.1, by omega, fun _ => by omega⟩
theorem Tree.zero (h : Tree bs ov) {x : Nat} (ha : Anc ov 0 x) : x = 0 := by
  cases ha with
  | refl => rfl
  | step hq _ =>
    rw [h.root] at hq
    injection hq with hq
    omega
theorem Tree.cases (h : Tree bs ov) {v q x : Nat} (hq : ov[v]? = some (q : Int)) (ha : Anc ov v x) : x = v ∨ Anc ov q x := by
  cases ha with
  | refl => exact .inl rfl
  | @step _ q' _ hq' k =>
    rw [hq] at hq'
    injection hq' with hq'
    have : q = q' := by omega
    subst this
    exact .inr k
theorem Tree.chain (h : Tree bs ov) {v x y : Nat} (hv : InT bs ov v) (hx : Anc ov v x) (hy : Anc ov v y) (hp : pos bs x ≤ pos bs y) : Anc ov y x := by
  induction hx with
  | refl a =>
    have := h.anc ho hv hy
    have : pos bs y = pos bs a := by omega
    rw [pos_inj ho (h.anc ho hv hy).1.1 hv.1 this]
    exact .refl _
  | @step a q x hq ha ih =>
    by_cases h0 : a = 0
    · subst h0
      rw [h.root] at hq
      injection hq with hq
      omega
    · obtain ⟨q', hq', hi, _⟩ := h.parent ho hv h0
      rw [hq] at hq'
      injection hq' with hq'
      have : q = q' := by omega
      subst this
      rcases h.cases ho hq hy with rfl | hy
      · exact .step hq ha
      · exact ih hi hy hp
theorem InT.fuel {v : Nat} (h : InT bs ov v) : pos bs v < bs.length := pos_lt ho h.1
end
end Go.SM
end
section
set_option linter.unusedVariables false
set_option linter.unusedSimpArgs false
set_option linter.unusedSectionVars false
namespace Go.SM
open Go.VL
structure TInv (bs : List SBlock) (ov : List Int) (i : Nat) : Prop where
  tree : Tree bs ov
  done : ∀ (j v : Nat), j < i → (orderF bs)[j]? = some v → InT bs ov v
  down : ∀ (v w : Nat), InT bs ov v → w ∈ orderF bs → pos bs w < pos bs v → InT bs ov w
  anc : ∀ (v x : Nat), InT bs ov v → Anc ov v x → AncP bs v x
  most : ∀ (v q : Nat), InT bs ov v → v ≠ 0 → ov[v]? = some (q : Int) → ∀ y, (∀ p, Edge bs p v → InT bs ov p → Anc ov p y) → pos bs y ≤ pos bs q
  past : ∀ (v : Nat), v ∈ orderF bs → pos bs v < i → ∀ q x, AncP bs v q → Anc ov v x → pos bs x ≤ pos bs q → Anc ov q x
theorem AncP.ne {bs : List SBlock} {v x : Nat} (h : AncP bs v x) (hx : x ≠ v) : v ≠ 0 ∧ AncP bs (pi bs v) x := by
  cases h with
  | refl => exact absurd rfl hx
  | step h0 k => exact ⟨h0, k⟩
def hW (bs : List SBlock) (x : Int) : Nat := if x < 0 then bs.length else pos bs x.toNat
section
variable {bs : List SBlock} (ho : OrderOk bs (orderF bs)) (hE : ∀ b ∈ bs, ∀ e ∈ b.term.to, 1 ≤ e.block ∧ e.block < bs.length) {ov : List Int}
include ho
structure TreeOk (bs : List SBlock) (ov : List Int) : Prop where
  inv : TInv bs ov 1
  all : ∀ v, v ∈ orderF bs → InT bs ov v
  fix : ∀ v, v ∈ orderF bs → v ≠ 0 → gI ov v = nextL ov (placeZ bs) (2 * bs.length + 1) (-1) ((predsF bs)[v]?.getD [])
end
end Go.SM
end
section
set_option linter.unusedVariables false
namespace Go.SM
open Go.VL
end Go.SM
end
section
set_option linter.unusedVariables false
set_option linter.unusedSimpArgs false
set_option linter.unusedSectionVars false
namespace Go.SM
open Go.VL
section
variable {bs : List SBlock} (ho : OrderOk bs (orderF bs)) {ov : List Int}
include ho
structure Up (bs : List SBlock) (ov : List Int) (a : Nat) (l : List Int) (k : Int) (n : Nat) : Prop where
  len : l.length = n
  at_ : k = -1 ∨ ∃ v : Nat, k = v ∧ InT bs ov v ∧ n + pos bs v ≤ pos bs a
  mem : ∀ y : Nat, Anc ov a y ↔ (y : Int) ∈ l ∨ ∃ v : Nat, k = v ∧ Anc ov v y
  le : n ≤ bs.length
omit ho in
structure Climb (bs : List SBlock) (ov : List Int) (a b : Nat) (v n : Nat) : Prop where
  at_ : Anc ov b v
  bound : n + pos bs v ≤ pos bs b
  none : ∀ y, Anc ov b y → pos bs v < pos bs y → ¬ Anc ov a y
omit ho in
end
end Go.SM
end
section
set_option linter.unusedVariables false
set_option linter.unusedSimpArgs false
namespace Go.SM
open Go.VL
def reachL (f : SFunc) : List Int := (ordZ f.blocks).mergeSort fun x y => decide (x ≤ y)
theorem reach_mem {f : SFunc} {v : Nat} : (v : Int) ∈ reachL f ↔ v ∈ orderF f.blocks := by
  unfold reachL
  rw [List.mem_mergeSort, ordZ, List.mem_map]
  constructor
  · rintro ⟨k, hk, e⟩
    have : k = v := by omega
    rwa [← this]
  · intro h
    exact ⟨v, h, rfl⟩
theorem reach_len (f : SFunc) : (reachL f).length = (orderF f.blocks).length := by rw [reachL, List.length_mergeSort, ordZ, List.length_map]
section
variable {bs : List SBlock} (ho : OrderOk bs (orderF bs)) {ov : List Int}
include ho
end
end Go.SM
end
section
set_option linter.unusedVariables false
set_option linter.unusedSimpArgs false
namespace Go.SM
open Go.VL
section
variable {bs : List SBlock} (ho : OrderOk bs (orderF bs)) {ov : List Int}
include ho
end
end Go.SM
end
section
set_option linter.unusedVariables false
set_option linter.unusedSimpArgs false
namespace Go.SM
open Go.VL
theorem again_keep {n : Nat} {d d' : Dom} (h : StepW n d d') (ha : d'.again = false) : d' = d := by
  rcases h.2 with h | ⟨h, _⟩
  · exact h
  · rw [ha] at h; cases h
theorem edges_fix {n k : Nat} (hk : k < n) : ∀ {l : List SEdge} {d : Dom}, DomOk n d → (∀ e ∈ l, 1 ≤ e.block ∧ e.block < n) → (l.foldl (domEdge k) d).again = false → l.foldl (domEdge k) d = d ∧ ∀ e ∈ l, domEdge k d e = d
  | [], d, _, _, _ => ⟨rfl, fun e he => by cases he⟩
  | e :: l, d, ok, h, ha => by
    have h1 := domEdge_w ok hk (h e (List.mem_cons_self ..)).1 (h e (List.mem_cons_self ..)).2
    have hl := fun x hx => h x (List.mem_cons_of_mem e hx)
    have h2 := edges_w hk h1.1 hl
    rw [List.foldl_cons] at ha ⊢
    have e2 := again_keep h2 ha
    have e1 : domEdge k d e = d := again_keep h1 (by rw [← e2]; exact ha)
    rw [e1] at ha ⊢
    obtain ⟨g1, g2⟩ := edges_fix hk ok hl ha
    refine ⟨g1, fun x hx => ?_⟩
    rcases List.mem_cons.1 hx with rfl | hx
    · exact e1
    · exact g2 x hx
theorem block_fix {n k : Nat} {b : SBlock} {d : Dom} (hk : k < n) (ok : DomOk n d) (h : ∀ e ∈ b.term.to, 1 ≤ e.block ∧ e.block < n) (ha : (domBlock d k b).again = false) : domBlock d k b = d ∧ (d.seen.has k = true → ∀ e ∈ b.term.to, domEdge k d e = d) := by
  unfold domBlock at ha ⊢
  split
  · rename_i hs
    rw [if_pos hs] at ha
    obtain ⟨h1, h2⟩ := edges_fix hk ok h ha
    exact ⟨h1, fun _ => h2⟩
  · rename_i hs
    exact ⟨rfl, fun h => absurd h hs⟩
theorem pass_fix {n : Nat} : ∀ {l : List SBlock} {k : Nat} {d : Dom}, k + l.length = n → DomOk n d → (∀ b ∈ l, ∀ e ∈ b.term.to, 1 ≤ e.block ∧ e.block < n) → (domPass k l d).again = false →
    ∀ (j : Nat) (b : SBlock), l[j]? = some b → d.seen.has (k + j) = true → ∀ e ∈ b.term.to, domEdge (k + j) d e = d
  | [], k, d, _, _, _, _, j, b, hb => by simp at hb
  | c :: l, k, d, hl, ok, h, ha, j, b, hb => by
    have hl' : k + (l.length + 1) = n := hl
    have h1 := block_w (k := k) (by omega) ok (h c (List.mem_cons_self ..))
    have hr := fun x hx => h x (List.mem_cons_of_mem c hx)
    have h2 := pass_w (l := l) (k := k + 1) (by omega) h1.1 hr
    rw [domPass] at ha
    have e2 := again_keep h2 ha
    have ha1 : (domBlock d k c).again = false := by rw [← e2]; exact ha
    obtain ⟨e1, g⟩ := block_fix (by omega) ok (h c (List.mem_cons_self ..)) ha1
    rw [e1] at ha
    cases j with
    | zero =>
      simp at hb
      subst hb
      exact g
    | succ j =>
      simp at hb
      have := pass_fix (by omega) ok hr ha j b hb
      rwa [show k + 1 + j = k + (j + 1) by omega] at this
structure DomFix (bs : List SBlock) (d : Dom) : Prop where
  ok : DomOk bs.length d
  seen0 : d.seen.has 0 = true
  at0 : d.at 0 = BSet.with noSet 0
  fix : ∀ (k : Nat) (b : SBlock), bs[k]? = some b → d.seen.has k = true → ∀ e ∈ b.term.to, domEdge k d e = d
def DomZ (n : Nat) (d : Dom) : Prop := d.seen.has 0 = true ∧ d.at 0 = BSet.with noSet 0
theorem edge_z {n k : Nat} {d : Dom} {e : SEdge} (ok : DomOk n d) (h1 : 1 ≤ e.block) (h2 : e.block < n) (hz : DomZ n d) : DomZ n (domEdge k d e) := by
  unfold domEdge
  dsimp only
  have hn := ok.le
  split
  · refine ⟨?_, ?_⟩
    · rw [has_with _ (by omega) (by omega), hz.1]; rfl
    · rw [at_set (by rw [ok.len]; omega), if_neg (by omega)]; exact hz.2
  · exact hz
theorem edges_z {n k : Nat} (hk : k < n) : ∀ {l : List SEdge} {d : Dom}, DomOk n d → (∀ e ∈ l, 1 ≤ e.block ∧ e.block < n) → DomZ n d → DomZ n (l.foldl (domEdge k) d)
  | [], d, _, _, hz => hz
  | e :: l, d, ok, h, hz => by
    have he := h e (List.mem_cons_self ..)
    show DomZ n (l.foldl (domEdge k) (domEdge k d e))
    exact edges_z (l := l) hk (domEdge_w ok hk he.1 he.2).1 (fun x hx => h x (List.mem_cons_of_mem e hx)) (edge_z ok he.1 he.2 hz)
theorem block_z {n k : Nat} {b : SBlock} {d : Dom} (hk : k < n) (ok : DomOk n d) (h : ∀ e ∈ b.term.to, 1 ≤ e.block ∧ e.block < n) (hz : DomZ n d) : DomZ n (domBlock d k b) := by
  unfold domBlock
  split
  · exact edges_z hk ok h hz
  · exact hz
theorem pass_z {n : Nat} : ∀ {l : List SBlock} {k : Nat} {d : Dom}, k + l.length = n → DomOk n d → (∀ b ∈ l, ∀ e ∈ b.term.to, 1 ≤ e.block ∧ e.block < n) → DomZ n d → DomZ n (domPass k l d)
  | [], k, d, _, _, _, hz => hz
  | c :: l, k, d, hl, ok, h, hz => by
    have hl' : k + (l.length + 1) = n := hl
    show DomZ n (domPass (k + 1) l (domBlock d k c))
    exact pass_z (l := l) (by omega) (block_w (k := k) (by omega) ok (h c (List.mem_cons_self ..))).1 (fun x hx => h x (List.mem_cons_of_mem c hx)) (block_z (by omega) ok (h c (List.mem_cons_self ..)) hz)
theorem domIter_fix {bs : List SBlock} (h : ∀ b ∈ bs, ∀ e ∈ b.term.to, 1 ≤ e.block ∧ e.block < bs.length) : ∀ (n : Nat) (d : Dom), DomOk bs.length d → DomZ bs.length d → weight bs.length d + (if d.again then 1 else 0) ≤ n → (d.again = false → DomFix bs d) → DomFix bs (domIter bs n d)
  | 0, d, ok, hz, hw, hf => by
    cases ha : d.again with
    | false => exact hf ha
    | true => rw [ha, if_pos rfl] at hw; omega
  | n + 1, d, ok, hz, hw, hf => by
    cases ha : d.again with
    | false => rw [domIter, if_neg (by rw [ha]; decide)]; exact hf ha
    | true =>
      obtain ⟨n', e, h1, h2, h3⟩ := round ok h hw ha
      have : n = n' := by omega
      subst this
      have ok0 : DomOk bs.length { d with again := false } := ⟨ok.len, ok.le, ok.self⟩
      have hz1 : DomZ bs.length (domPass 0 bs { d with again := false }) := pass_z (by omega) ok0 h hz
      rw [h1]
      refine domIter_fix h n _ h2 hz1 h3 fun ha2 => ?_
      have e2 := again_keep (pass_w (l := bs) (k := 0) (by omega) ok0 h) ha2
      have hfx := pass_fix (l := bs) (k := 0) (by omega) ok0 h ha2
      rw [e2] at hz1 ⊢
      exact ⟨ok0, hz1.1, hz1.2, fun k b hb hs => by have := hfx k b hb (by rw [Nat.zero_add]; exact hs); rwa [Nat.zero_add] at this⟩
theorem dom_fix {bs : List SBlock} (h0 : 0 < bs.length) (hn : bs.length ≤ 128) (h : ∀ b ∈ bs, ∀ e ∈ b.term.to, 1 ≤ e.block ∧ e.block < bs.length) : DomFix bs (domF bs) := by
  refine domIter_fix h _ _ (start_ok h0 hn) ⟨?_, ?_⟩ ?_ fun h => by cases h
  · show (BSet.with noSet 0).has 0 = true
    rw [has_with _ (by omega) (by omega)]
    simp
  · unfold domStart Dom.at
    rw [List.getElem?_set, if_pos rfl, if_pos (by simpa using h0)]
    rfl
  · have := start_w bs.length
    have ha : (domStart bs.length).again = true := rfl
    rw [ha, if_pos rfl, domFuel]
    omega
inductive Way (bs : List SBlock) : List Nat → Nat → Prop where
  | start : Way bs [] 0
  | step {l : List Nat} {p k : Nat} : Way bs l p → Edge bs p k → Way bs (p :: l) k
theorem dom_way {bs : List SBlock} {d : Dom} (hd : DomFix bs d) (h : ∀ b ∈ bs, ∀ e ∈ b.term.to, 1 ≤ e.block ∧ e.block < bs.length) {l : List Nat} {k : Nat} (hw : Way bs l k) : d.seen.has k = true ∧ k < 128 ∧ ∀ j, j < 128 → (d.at k).has j = true → j = k ∨ j ∈ l := by
  induction hw with
  | start =>
    refine ⟨hd.seen0, by omega, fun j hj hh => ?_⟩
    rw [hd.at0, has_with _ (by omega) hj, has_no, Bool.false_or, decide_eq_true_eq] at hh
    exact .inl hh
  | @step l p k hw he ih =>
    obtain ⟨hs, hp, ih⟩ := ih
    obtain ⟨e, hem, rfl⟩ := he
    obtain ⟨b, hb, hem⟩ : ∃ b, bs[p]? = some b ∧ e ∈ b.term.to := by
      unfold toAt at hem
      cases hb : bs[p]? with
      | none => rw [hb] at hem; cases hem
      | some b => rw [hb] at hem; exact ⟨b, rfl, hem⟩
    have hr := h b (List.mem_of_getElem? hb) e hem
    have hn := hd.ok.le
    have ht : e.block.toNat < 128 := by omega
    have hfx := hd.fix p b hb hs e hem
    unfold domEdge at hfx
    dsimp only at hfx
    split at hfx
    · rename_i hc
      -- a change cannot leave all as it was
      exfalso
      have h1 : (d.over.set e.block.toNat (((d.at e.block.toNat).both (d.at p)).with e.block.toNat))[e.block.toNat]? = d.over[e.block.toNat]? := by
        have := congrArg Dom.over hfx
        dsimp only at this
        rw [this]
      have h2 := congrArg Dom.seen hfx
      dsimp only at h2
      rcases hc with hc | hc
      · rw [List.getElem?_set, if_pos rfl, if_pos (by rw [hd.ok.len]; omega)] at h1
        have h3 : d.at e.block.toNat = ((d.at e.block.toNat).both (d.at p)).with e.block.toNat := (congrArg (fun o : Option BSet => o.getD noSet) h1).symm
        exact hc h3.symm
      · rw [← h2, has_with _ ht ht] at hc
        simp at hc
    · rename_i hc
      rw [not_or] at hc
      obtain ⟨h1, h2⟩ := hc
      have h1 := Classical.not_not.1 h1
      refine ⟨by simpa using h2, ht, fun j hj hh => ?_⟩
      rw [← h1, has_with _ ht hj, has_both, Bool.or_eq_true, Bool.and_eq_true, decide_eq_true_eq] at hh
      rcases hh with hh | hh
      · rcases ih j hj hh.2 with h3 | h3
        · exact .inr (by rw [h3]; exact List.mem_cons_self ..)
        · exact .inr (List.mem_cons_of_mem _ h3)
      · exact .inl hh
end Go.SM
end
section
set_option linter.unusedVariables false
set_option linter.unusedSimpArgs false
set_option linter.unusedSectionVars false
namespace Go.SM
open Go.VL
def Doms (bs : List SBlock) (x v : Nat) : Prop := ∀ l, Way bs l v → x = v ∨ x ∈ l
theorem doms_pred {bs : List SBlock} {x p v : Nat} (h : Doms bs x v) (hx : x ≠ v) (he : Edge bs p v) : Doms bs x p := fun l hl => by
  rcases h _ (.step hl he) with e | e
  · exact absurd e hx
  · rcases List.mem_cons.1 e with e | e
    · exact .inl e
    · exact .inr e
section
variable {bs : List SBlock} (ho : OrderOk bs (orderF bs)) (hE : ∀ b ∈ bs, ∀ e ∈ b.term.to, 1 ≤ e.block ∧ e.block < bs.length) {ov : List Int}
include ho
end
end Go.SM
end
section
set_option linter.unusedVariables false
set_option linter.unusedSimpArgs false
namespace Go.SM
open Go.VL
structure DomMost (bs : List SBlock) (d : Dom) : Prop where
  most : ∀ k j : Nat, k < bs.length → j < bs.length → Doms bs j k → (d.at k).has j = true
  seen : ∀ k : Nat, k < 128 → d.seen.has k = true → ∃ l, Way bs l k
theorem most_start {bs : List SBlock} (h0 : 0 < bs.length) (hn : bs.length ≤ 128) : DomMost bs (domStart bs.length) := by
  refine ⟨fun k j hk hj hd => ?_, fun k hk hs => ?_⟩
  · unfold domStart Dom.at
    dsimp only
    rw [List.getElem?_set]
    split
    · rename_i e
      subst e
      rw [if_pos (by simpa using h0)]
      rcases hd [] .start with e | e
      · subst e
        show (BSet.with noSet 0).has 0 = true
        rw [has_with _ (by omega) (by omega)]
        simp
      · cases e
    · rw [List.getElem?_replicate, if_pos hk]
      show (allSet bs.length).has j = true
      rw [has_all _ hn j (by omega)]
      exact decide_eq_true hj
  · have hs : (BSet.with noSet 0).has k = true := hs
    rw [has_with _ (by omega) hk, has_no, Bool.false_or, decide_eq_true_eq] at hs
    subst hs
    exact ⟨[], .start⟩
theorem most_edge {bs : List SBlock} (hn : bs.length ≤ 128) {d : Dom} (ok : DomOk bs.length d) {k : Nat} {e : SEdge} (hk : k < bs.length) (he : e ∈ toAt bs k) (h1 : 1 ≤ e.block) (h2 : e.block < bs.length) (hs : d.seen.has k = true) (h : DomMost bs d) : DomMost bs (domEdge k d e) := by
  unfold domEdge
  dsimp only
  have hte : Edge bs k e.block.toNat := ⟨e, he, rfl⟩
  split
  · refine ⟨fun v j hv hj hd => ?_, fun v hv hsv => ?_⟩
    · rw [at_set (by rw [ok.len]; omega)]
      split
      · rename_i e1
        subst e1
        rw [has_with _ (by omega) (by omega), has_both]
        by_cases hjt : j = e.block.toNat
        · rw [decide_eq_true hjt, Bool.or_true]
        · rw [h.most _ j hv hj hd, h.most k j hk hj (doms_pred hd hjt hte)]
          rfl
      · exact h.most v j hv hj hd
    · have hsv : (d.seen.with e.block.toNat).has v = true := hsv
      rw [has_with _ (by omega) hv, Bool.or_eq_true, decide_eq_true_eq] at hsv
      rcases hsv with hsv | rfl
      · exact h.seen v hv hsv
      · obtain ⟨l, hl⟩ := h.seen k (by omega) hs
        exact ⟨_, .step hl hte⟩
  · exact h
theorem seen_edge {n k : Nat} {d : Dom} {e : SEdge} (hn : n ≤ 128) (hk : k < n) (h1 : 1 ≤ e.block) (h2 : e.block < n) (hs : d.seen.has k = true) : (domEdge k d e).seen.has k = true := by
  unfold domEdge
  dsimp only
  split
  · rw [has_with _ (by omega) (by omega), hs]; rfl
  · exact hs
theorem most_edges {bs : List SBlock} (hn : bs.length ≤ 128) {k : Nat} (hk : k < bs.length) : ∀ {l : List SEdge} {d : Dom}, DomOk bs.length d → (∀ e ∈ l, e ∈ toAt bs k) → (∀ e ∈ l, 1 ≤ e.block ∧ e.block < bs.length) → d.seen.has k = true → DomMost bs d → DomMost bs (l.foldl (domEdge k) d)
  | [], d, _, _, _, _, h => h
  | e :: l, d, ok, hl, hb, hs, h => by
    have he := hb e (List.mem_cons_self ..)
    show DomMost bs (l.foldl (domEdge k) (domEdge k d e))
    exact most_edges hn hk (l := l) (domEdge_w ok hk he.1 he.2).1 (fun x hx => hl x (List.mem_cons_of_mem _ hx)) (fun x hx => hb x (List.mem_cons_of_mem _ hx)) (seen_edge hn hk he.1 he.2 hs) (most_edge hn ok hk (hl e (List.mem_cons_self ..)) he.1 he.2 hs h)
theorem most_block {bs : List SBlock} (hn : bs.length ≤ 128) {k : Nat} {b : SBlock} {d : Dom} (hb : bs[k]? = some b) (ok : DomOk bs.length d) (hE : ∀ e ∈ b.term.to, 1 ≤ e.block ∧ e.block < bs.length) (h : DomMost bs d) : DomMost bs (domBlock d k b) := by
  unfold domBlock
  split
  · rename_i hs
    exact most_edges hn (List.getElem?_eq_some_iff.1 hb).1 ok (fun e he => by rw [toAt_get hb]; exact he) hE hs h
  · exact h
theorem most_pass {bs : List SBlock} (hn : bs.length ≤ 128) (hE : ∀ b ∈ bs, ∀ e ∈ b.term.to, 1 ≤ e.block ∧ e.block < bs.length) : ∀ {l : List SBlock} {k : Nat} {d : Dom}, bs.drop k = l → DomOk bs.length d → DomMost bs d → DomMost bs (domPass k l d)
  | [], k, d, _, _, h => h
  | c :: l, k, d, hl, ok, h => by
    have hb : bs[k]? = some c := by
      have h9 : (bs.drop k)[0]? = some c := by rw [hl]; rfl
      rwa [List.getElem?_drop, Nat.add_zero] at h9
    have hl2 : bs.drop (k + 1) = l := by
      have h9 : (bs.drop k).drop 1 = l := by rw [hl]; rfl
      rwa [List.drop_drop] at h9
    have hk := (List.getElem?_eq_some_iff.1 hb).1
    have hc := hE c (List.mem_of_getElem? hb)
    show DomMost bs (domPass (k + 1) l (domBlock d k c))
    exact most_pass hn hE hl2 (block_w hk ok hc).1 (most_block hn hb ok hc h)
theorem most_iter {bs : List SBlock} (hn : bs.length ≤ 128) (hE : ∀ b ∈ bs, ∀ e ∈ b.term.to, 1 ≤ e.block ∧ e.block < bs.length) : ∀ (n : Nat) (d : Dom), DomOk bs.length d → DomMost bs d → DomMost bs (domIter bs n d)
  | 0, d, _, h => h
  | n + 1, d, ok, h => by
    rw [domIter]
    split
    · have ok0 : DomOk bs.length { d with again := false } := ⟨ok.len, ok.le, ok.self⟩
      exact most_iter hn hE n _ (pass_w (l := bs) (k := 0) (by omega) ok0 hE).1 (most_pass hn hE rfl ok0 ⟨h.most, h.seen⟩)
    · exact h
theorem dom_most {bs : List SBlock} (h0 : 0 < bs.length) (hn : bs.length ≤ 128) (hE : ∀ b ∈ bs, ∀ e ∈ b.term.to, 1 ≤ e.block ∧ e.block < bs.length) : DomMost bs (domF bs) := most_iter hn hE _ _ (start_ok h0 hn) (most_start h0 hn)
theorem has_iff {bs : List SBlock} (h0 : 0 < bs.length) (hn : bs.length ≤ 128) (hE : ∀ b ∈ bs, ∀ e ∈ b.term.to, 1 ≤ e.block ∧ e.block < bs.length) {k j : Nat} (hk : ∃ l, Way bs l k) (hkl : k < bs.length) (hj : j < bs.length) : ((domF bs).at k).has j = true ↔ Doms bs j k :=
  ⟨fun h l hw => (dom_way (dom_fix h0 hn hE) hE hw).2.2 j (by omega) h, (dom_most h0 hn hE).most k j hkl hj⟩
end Go.SM
end
section
set_option linter.unusedVariables false
set_option linter.unusedSimpArgs false
namespace Go.SM
open Go.VL
abbrev keys (d : Defs) : List Int := d.map (·.1)
structure KOk (d new : Defs) : Prop where
  wi : ∀ x ∈ keys new, wi x 0 4095 = true
  nodup : (keys new).Nodup
  fresh : ∀ x ∈ keys new, x ∉ keys d
theorem kok_nil (d : Defs) : KOk d [] := ⟨by simp, by simp, by simp⟩
theorem kok_append {d a b : Defs} : KOk d (a ++ b) ↔ KOk d a ∧ KOk (d ++ a) b := by
  constructor
  · rintro ⟨h1, h2, h3⟩
    simp only [keys, List.map_append] at h1 h2 h3
    obtain ⟨n1, n2, n3⟩ := List.nodup_append.1 h2
    refine ⟨⟨fun x hx => h1 x (List.mem_append_left _ hx), n1, fun x hx => h3 x (List.mem_append_left _ hx)⟩, ⟨fun x hx => h1 x (List.mem_append_right _ hx), n2, fun x hx => ?_⟩⟩
    simp only [keys, List.map_append, List.mem_append, not_or]
    exact ⟨h3 x (List.mem_append_right _ hx), fun hm => n3 x hm x hx rfl⟩
  · rintro ⟨⟨a1, a2, a3⟩, ⟨b1, b2, b3⟩⟩
    simp only [keys, List.map_append] at b3
    refine ⟨fun x hx => ?_, ?_, fun x hx => ?_⟩ <;> simp only [keys, List.map_append] at *
    · rcases List.mem_append.1 hx with h | h
      · exact a1 x h
      · exact b1 x h
    · exact List.nodup_append.2 ⟨a2, b2, fun x hx y hy e => by subst e; exact b3 x hy (List.mem_append_right _ hx)⟩
    · rcases List.mem_append.1 hx with h | h
      · exact a3 x h
      · exact fun hm => b3 x h (List.mem_append_left _ hm)
theorem kok_one {d : Defs} {v : Int} {p : Int × Int} : KOk d [(v, p)] ↔ wi v 0 4095 = true ∧ v ∉ keys d := by
  constructor
  · rintro ⟨h1, _, h3⟩
    exact ⟨h1 v (by simp), h3 v (by simp)⟩
  · rintro ⟨h1, h2⟩
    exact ⟨fun x hx => by simp at hx; subst hx; exact h1, by simp, fun x hx => by simp at hx; subst hx; exact h2⟩
theorem dget_out {v : Int} : ∀ {d : Defs}, dget d v = none ↔ v ∉ keys d
  | [] => by simp [dget]
  | (k, p) :: d => by
    rw [dget]
    split
    · rename_i e
      subst e
      simp
    · rename_i e
      rw [dget_out]
      simp only [keys, List.map_cons, List.mem_cons, not_or]
      exact ⟨fun h => ⟨fun e2 => e e2.symm, h⟩, fun h => h.2⟩
theorem define_iff {v : Int} {p : Int × Int} {d : Defs} : (defineF v p d).1 = 0 ↔ KOk d [(v, p)] := by
  rw [kok_one]
  unfold defineF
  cases hw : wi v 0 4095 with
  | false => simp
  | true =>
    rw [if_neg (by decide)]
    cases hd : dget d v with
    | none =>
      rw [if_neg (by decide)]
      exact ⟨fun _ => ⟨rfl, dget_out.1 hd⟩, fun _ => rfl⟩
    | some x =>
      rw [if_pos (show (some x).isSome = true from rfl)]
      have : ¬ v ∉ keys d := fun h => by rw [dget_out.2 h] at hd; cases hd
      exact ⟨fun h => absurd (show (7 : Int) = 0 from h) (by decide), fun h => absurd h.2 this⟩
theorem define_eq {v : Int} {p : Int × Int} {d : Defs} (h : (defineF v p d).1 = 0) : (defineF v p d).2 = d ++ [(v, p)] := by
  have h2 := h
  rw [define_iff, kok_one] at h2
  unfold defineF
  rw [if_neg (by rw [h2.1]; decide), dget_out.2 h2.2, if_neg (by decide)]
theorem params_iff {k : Int} : ∀ {ps : List Int} {d : Defs}, ((paramsF k ps d).1 = 0 ↔ KOk d (defsP k ps)) ∧ ((paramsF k ps d).1 = 0 → (paramsF k ps d).2 = d ++ defsP k ps)
  | [], d => ⟨⟨fun _ => kok_nil d, fun _ => rfl⟩, fun _ => by simp [paramsF, defsP]⟩
  | p :: ps, d => by
    have hc : defsP k (p :: ps) = [(p, (k, 0))] ++ defsP k ps := rfl
    rw [hc, kok_append, paramsF]
    by_cases h : (defineF p (k, 0) d).1 = 0
    · rw [if_neg (fun h2 => h2 h)]
      have he := define_eq h
      obtain ⟨h1, h2⟩ := params_iff (k := k) (ps := ps) (d := (defineF p (k, 0) d).2)
      rw [he] at h1 h2
      rw [he]
      exact ⟨⟨fun h3 => ⟨define_iff.1 h, h1.1 h3⟩, fun h3 => h1.2 h3.2⟩, fun h3 => by rw [h2 h3, List.append_assoc]⟩
    · rw [if_pos h]
      exact ⟨⟨fun h3 => absurd h3 h, fun h3 => absurd (define_iff.2 h3.1) h⟩, fun h3 => absurd h3 h⟩
theorem inss_iff {k : Int} : ∀ {is : List SIns} {n : Int} {d : Defs}, ((inssF k n is d).1 = 0 ↔ KOk d (defsI k n is) ∧ ∀ i ∈ is, formF i = 0) ∧ ((inssF k n is d).1 = 0 → (inssF k n is d).2 = d ++ defsI k n is)
  | [], n, d => ⟨⟨fun _ => ⟨kok_nil d, fun i hi => by cases hi⟩, fun _ => rfl⟩, fun _ => by simp [inssF, defsI]⟩
  | i :: is, n, d => by
    have hc : defsI k n (i :: is) = [(i.to, (k, n + 1))] ++ defsI k (n + 1) is := rfl
    rw [hc, kok_append, inssF]
    by_cases h : (defineF i.to (k, n + 1) d).1 = 0
    · rw [if_neg (fun h2 => h2 h)]
      have he := define_eq h
      by_cases hf : formF i = 0
      · rw [if_neg (fun h2 => h2 hf)]
        obtain ⟨h1, h2⟩ := inss_iff (k := k) (is := is) (n := n + 1) (d := (defineF i.to (k, n + 1) d).2)
        rw [he] at h1 h2
        rw [he]
        refine ⟨⟨fun h3 => ?_, fun h3 => ?_⟩, fun h3 => by rw [h2 h3, List.append_assoc]⟩
        · have h4 := h1.1 h3
          refine ⟨⟨define_iff.1 h, h4.1⟩, fun j hj => ?_⟩
          rcases List.mem_cons.1 hj with rfl | hj
          · exact hf
          · exact h4.2 j hj
        · exact h1.2 ⟨h3.1.2, fun j hj => h3.2 j (List.mem_cons_of_mem _ hj)⟩
      · rw [if_pos hf]
        exact ⟨⟨fun h3 => absurd h3 hf, fun h3 => absurd (h3.2 i (List.mem_cons_self ..)) hf⟩, fun h3 => absurd h3 hf⟩
    · rw [if_pos h]
      exact ⟨⟨fun h3 => absurd h3 h, fun h3 => absurd (define_iff.2 h3.1.1) h⟩, fun h3 => absurd h3 h⟩
theorem block_iff {bs : List SBlock} {k : Int} {b : SBlock} {d : Defs} : ((blockF bs k b d).1 = 0 ↔ KOk d (defsB k b) ∧ blockOk bs b) ∧ ((blockF bs k b d).1 = 0 → (blockF bs k b d).2 = d ++ defsB k b) := by
  unfold blockF defsB blockOk
  rw [kok_append]
  obtain ⟨p1, p2⟩ := params_iff (k := k) (ps := b.params) (d := d)
  by_cases hp : (paramsF k b.params d).1 = 0
  · rw [if_neg (fun h => h hp)]
    rw [p2 hp]
    obtain ⟨i1, i2⟩ := inss_iff (k := k) (is := b.ins) (n := 0) (d := d ++ defsP k b.params)
    by_cases hi : (inssF k 0 b.ins (d ++ defsP k b.params)).1 = 0
    · rw [if_neg (fun h => h hi)]
      dsimp only
      rw [i2 hi]
      exact ⟨⟨fun h => ⟨⟨p1.1 hp, (i1.1 hi).1⟩, (i1.1 hi).2, h⟩, fun h => h.2.2⟩, fun h => List.append_assoc ..⟩
    · rw [if_pos hi]
      exact ⟨⟨fun h => absurd h hi, fun h => absurd (i1.2 ⟨h.1.2, h.2.1⟩) hi⟩, fun h => absurd h hi⟩
  · rw [if_pos hp]
    exact ⟨⟨fun h => absurd h hp, fun h => absurd (p1.2 h.1.1) hp⟩, fun h => absurd h hp⟩
theorem blocks_iff {bs : List SBlock} : ∀ {l : List SBlock} {k : Int} {d : Defs}, ((blocksF bs k l d).1 = 0 ↔ KOk d (defsL k l) ∧ ∀ b ∈ l, blockOk bs b) ∧ ((blocksF bs k l d).1 = 0 → (blocksF bs k l d).2 = d ++ defsL k l)
  | [], k, d => ⟨⟨fun _ => ⟨kok_nil d, fun i hi => by cases hi⟩, fun _ => rfl⟩, fun _ => by simp [blocksF, defsL]⟩
  | b :: l, k, d => by
    rw [defsL, kok_append, blocksF]
    obtain ⟨b1, b2⟩ := block_iff (bs := bs) (k := k) (b := b) (d := d)
    by_cases h : (blockF bs k b d).1 = 0
    · rw [if_neg (fun h2 => h2 h), b2 h]
      obtain ⟨h1, h2⟩ := blocks_iff (bs := bs) (l := l) (k := k + 1) (d := d ++ defsB k b)
      refine ⟨⟨fun h3 => ?_, fun h3 => ?_⟩, fun h3 => by rw [h2 h3, List.append_assoc]⟩
      · have h4 := h1.1 h3
        refine ⟨⟨(b1.1 h).1, h4.1⟩, fun j hj => ?_⟩
        rcases List.mem_cons.1 hj with rfl | hj
        · exact (b1.1 h).2
        · exact h4.2 j hj
      · exact h1.2 ⟨h3.1.2, fun j hj => h3.2 j (List.mem_cons_of_mem _ hj)⟩
    · rw [if_pos h]
      exact ⟨⟨fun h3 => absurd h3 h, fun h3 => absurd (b1.2 ⟨h3.1.1, h3.2 b (List.mem_cons_self ..)⟩) h⟩, fun h3 => absurd h3 h⟩
def dI : Int → List SIns → List (Int × Int)
  | _, [] => []
  | n, i :: is => (i.to, n + 1) :: dI (n + 1) is
def dB (b : SBlock) : List (Int × Int) := b.params.map (fun p => (p, 0)) ++ dI 0 b.ins
theorem defsI_eq (k : Int) : ∀ (is : List SIns) (n : Int), defsI k n is = (dI n is).map fun e => (e.1, (k, e.2))
  | [], n => rfl
  | i :: is, n => by rw [defsI, dI, List.map_cons, defsI_eq k is]
theorem defsB_eq (k : Int) (b : SBlock) : defsB k b = (dB b).map fun e => (e.1, (k, e.2)) := by
  unfold defsB dB defsP
  rw [List.map_append, List.map_map, defsI_eq]
  rfl
theorem keysI_len : ∀ (is : List SIns) (n : Int), (dI n is).length = is.length
  | [], n => rfl
  | i :: is, n => by rw [dI, List.length_cons, keysI_len is, List.length_cons]
def insN : List SBlock → Nat
  | [] => 0
  | b :: l => b.ins.length + insN l
theorem keysL : ∀ (l : List SBlock) (k : Int), keys (defsL k l) = l.flatMap fun b => (dB b).map (·.1)
  | [], k => rfl
  | b :: l, k => by
    rw [defsL, keys, List.map_append, List.flatMap_cons]
    have h := keysL l (k + 1)
    rw [keys] at h
    rw [h, defsB_eq, List.map_map]
    rfl
theorem insN_le : ∀ (l : List SBlock), insN l ≤ (l.flatMap fun b => (dB b).map (·.1)).length
  | [] => Nat.le_refl _
  | b :: l => by
    have h := insN_le l
    rw [insN, List.flatMap_cons, List.length_append, List.length_map, dB, List.length_append, keysI_len]
    omega
theorem nodup_wi {l : List Int} (h : l.Nodup) (hw : ∀ x ∈ l, wi x 0 4095 = true) : l.length ≤ 4096 := by
  have h1 := nodup_lt (l := l.map Int.toNat) (n := 4096) ?_ fun v hv => by
    obtain ⟨x, hx, rfl⟩ := List.mem_map.1 hv
    have := wi_iff.1 (hw x hx)
    omega
  · rwa [List.length_map] at h1
  · rw [List.Nodup, List.pairwise_map]
    refine List.Pairwise.imp_of_mem (fun {a c} ha hc hne e => hne ?_) h
    have h1 := wi_iff.1 (hw a ha)
    have h2 := wi_iff.1 (hw c hc)
    omega
theorem count_eq : ∀ (l : List SBlock) (n : Int), 0 ≤ n → n + insN l ≤ 9223372036854775807 → countIns n l = n + insN l
  | [], n, _, _ => by simp [countIns, insN]
  | b :: l, n, h0, h => by
    rw [insN] at h
    rw [countIns, insN]
    have e : IntKind.i64.wrap (n + b.ins.length) = n + b.ins.length := by rw [IntKind.wrap_i64]; omega
    rw [e, count_eq l _ (by omega) (by omega)]
    omega
structure FuncIs (f : SFunc) : Prop where
  pos : 0 < f.blocks.length
  len : f.blocks.length ≤ 128
  ins : insN f.blocks ≤ 1024
  params : (paramsOf f.blocks 0).length ≤ 6
  name : wi f.name (-1) 1048575 = true
  kok : KOk [] (defsL 0 f.blocks)
  block : ∀ b ∈ f.blocks, blockOk f.blocks b
  uses : usesF (defsL 0 f.blocks) (domF f.blocks) 0 f.blocks = 0
theorem func_iff {f : SFunc} : funcF f = 0 ↔ FuncIs f := by
  constructor
  · intro h
    have hok := func_ok h
    obtain ⟨h1, h2⟩ := blocks_iff (bs := f.blocks) (l := f.blocks) (k := 0) (d := [])
    have h3 := h1.1 hok.blocks
    have h4 := h2 hok.blocks
    have hu := hok.uses
    rw [h4, List.nil_append] at hu
    have hl := nodup_wi h3.1.nodup h3.1.wi
    rw [keysL] at hl
    have hi := insN_le f.blocks
    have hc := hok.ins
    rw [count_eq _ _ (by omega) (by omega)] at hc
    exact ⟨hok.pos, hok.len, by omega, hok.params, wi_iff.2 hok.name, h3.1, h3.2, hu⟩
  · intro h
    obtain ⟨h1, h2⟩ := blocks_iff (bs := f.blocks) (l := f.blocks) (k := 0) (d := [])
    have h3 := h1.2 ⟨h.kok, h.block⟩
    have h4 := h2 h3
    have a1 := h.pos
    have a2 := h.len
    have a3 := h.ins
    have a4 := h.params
    unfold funcF
    rw [if_neg (by omega), if_neg (by rw [count_eq _ _ (by omega) (by omega)]; omega), if_neg (by rw [h.name]; decide), if_neg (fun hn => hn h3), h4, List.nil_append]
    exact h.uses
end Go.SM
end
section
set_option linter.unusedVariables false
set_option linter.unusedSimpArgs false
namespace Go.SM
open Go.VL
def atF (f : SFunc) : List Int := placeF (reachL f) f.blocks.length
def reachN (f : SFunc) : List Nat := (List.range f.blocks.length).filter fun v => decide (v ∈ orderF f.blocks)
theorem sorted_eq : ∀ {a b : List Int}, a.Pairwise (· < ·) → b.Pairwise (· < ·) → (∀ x, x ∈ a ↔ x ∈ b) → a = b
  | [], [], _, _, _ => rfl
  | [], y :: b, _, _, h => by have := (h y).2 (List.mem_cons_self ..); cases this
  | x :: a, [], _, _, h => by have := (h x).1 (List.mem_cons_self ..); cases this
  | x :: a, y :: b, ha, hb, h => by
    obtain ⟨a1, a2⟩ := List.pairwise_cons.1 ha
    obtain ⟨b1, b2⟩ := List.pairwise_cons.1 hb
    have hxy : x = y := by
      rcases List.mem_cons.1 ((h x).1 (List.mem_cons_self ..)) with e | e
      · exact e
      · rcases List.mem_cons.1 ((h y).2 (List.mem_cons_self ..)) with e2 | e2
        · exact e2.symm
        · have := b1 x e
          have := a1 y e2
          omega
    subst hxy
    rw [sorted_eq a2 b2 fun z => ?_]
    constructor
    · intro hz
      rcases List.mem_cons.1 ((h z).1 (List.mem_cons_of_mem _ hz)) with e | e
      · have := a1 z hz; omega
      · exact e
    · intro hz
      rcases List.mem_cons.1 ((h z).2 (List.mem_cons_of_mem _ hz)) with e | e
      · have := b1 z hz; omega
      · exact e
section
variable {f : SFunc} (ho : OrderOk f.blocks (orderF f.blocks))
include ho
theorem reachN_mem {v : Nat} : v ∈ reachN f ↔ v ∈ orderF f.blocks := by
  unfold reachN
  rw [List.mem_filter, List.mem_range, decide_eq_true_eq]
  exact ⟨fun h => h.2, fun h => ⟨ho.lt v h, h⟩⟩
omit ho in
theorem reachN_sorted : (reachN f).Pairwise (· < ·) := List.Pairwise.filter _ List.pairwise_lt_range
theorem reach_eq : reachL f = (reachN f).map fun k : Nat => (k : Int) := by
  refine sorted_eq ?_ ?_ fun x => ?_
  · have h1 := List.pairwise_mergeSort (le := fun (x y : Int) => decide (x ≤ y)) (fun a b c h1 h2 => by simp at h1 h2 ⊢; omega) (fun a b => by simp; omega) (ordZ f.blocks)
    have h2 : (reachL f).Nodup := (List.mergeSort_perm _ _).nodup_iff.2 (by
      unfold ordZ
      rw [List.Nodup, List.pairwise_map]
      exact ho.nodup.imp fun hne e => hne (by omega))
    refine (List.pairwise_and_iff.2 ⟨h1, h2⟩).imp fun ⟨h3, h4⟩ => ?_
    have := of_decide_eq_true h3
    omega
  · rw [List.pairwise_map]
    exact reachN_sorted.imp fun h => by omega
  · rw [List.mem_map]
    constructor
    · intro hx
      have hx2 := hx
      rw [reachL, List.mem_mergeSort, ordZ, List.mem_map] at hx2
      obtain ⟨v, hv, rfl⟩ := hx2
      exact ⟨v, (reachN_mem ho).2 hv, rfl⟩
    · rintro ⟨v, hv, rfl⟩
      exact reach_mem.2 ((reachN_mem ho).1 hv)
end
end Go.SM
end
section
set_option linter.unusedVariables false
set_option linter.unusedSimpArgs false
namespace Go.SM
open Go.VL
def setsF (o : List Bool) (l : List Int) : List Bool := l.foldl (fun s a => s.set a.toNat true) o
def backI : List SIns → List Bool → List Bool
  | [], s => s
  | i :: l, s => backI l (setsF (s.set i.to.toNat false) i.args)
def backF (b : SBlock) (s : List Bool) : List Bool := backI b.ins.reverse s
def edgeV1 (ps : List Int) : Nat → List Bool → List Bool → List Bool
  | _, [], o => o
  | v, is :: l, o => edgeV1 ps (v + 1) l (if (is && !(ps.any fun x => decide ((v : Int) = x))) = true then o.set v true else o)
abbrev Sets := List (Option (List Bool))
def setAt (s : Sets) (k : Nat) : List Bool := (s[k]?.getD none).getD []
def edgesV (bs : List SBlock) (first : Sets) : List SEdge → List Bool → List Bool
  | [], o => o
  | e :: l, o => edgesV bs first l (edgeV1 (paramsOf bs e.block) 0 (setAt first e.block.toNat) o)
def argsV : List SEdge → List Bool → List Bool
  | [], o => o
  | e :: l, o => argsV l (setsF o e.args)
def termV1 (t : STerm) (o : List Bool) : List Bool := if t.kind ≠ 1 ∧ t.kind ≠ 4 then o.set t.arg.toNat true else o
def lastF (bs : List SBlock) (many : Nat) (t : STerm) (first : Sets) : List Bool := argsV t.to (termV1 t (edgesV bs first t.to (List.replicate many false)))
structure LState where
  behind : Sets
  first : Sets
  again : Bool
def Mem1 (s : List Bool) (v : Nat) : Prop := s[v]? = some true
def TermUse (t : STerm) (v : Nat) : Prop := (t.kind ≠ 1 ∧ t.kind ≠ 4) ∧ t.arg.toNat = v ∨ ∃ e ∈ t.to, ∃ a ∈ e.args, a.toNat = v
def Exp (l : List SIns) (v : Nat) : Prop := ∃ (j : Nat) (i : SIns), l[j]? = some i ∧ (∃ a ∈ i.args, a.toNat = v) ∧ ∀ (j' : Nat) (x : SIns), j' < j → l[j']? = some x → x.to.toNat ≠ v
theorem Exp.append {l : List SIns} {v : Nat} (h : Exp l v) (m : List SIns) : Exp (l ++ m) v := by
  obtain ⟨j, i, h1, h2, h3⟩ := h
  have hj := (List.getElem?_eq_some_iff.1 h1).1
  exact ⟨j, i, by rw [List.getElem?_append_left hj]; exact h1, h2, fun j' x hlt hx => h3 j' x hlt (by rwa [List.getElem?_append_left (by omega)] at hx)⟩
inductive LiveIn (bs : List SBlock) (v : Nat) : Nat → Prop where
  | use {k : Nat} {b : SBlock} : bs[k]? = some b → Exp b.ins v → LiveIn bs v k
  | term {k : Nat} {b : SBlock} : bs[k]? = some b → (∀ x ∈ b.ins, x.to.toNat ≠ v) → TermUse b.term v → LiveIn bs v k
  | pass {k : Nat} {b : SBlock} {e : SEdge} : bs[k]? = some b → (∀ x ∈ b.ins, x.to.toNat ≠ v) → e ∈ b.term.to → (v : Int) ∉ paramsOf bs e.block → LiveIn bs v e.block.toNat → LiveIn bs v k
end Go.SM
end
section
set_option linter.unusedVariables false
set_option linter.unusedSimpArgs false
namespace Go.SM
open Go.VL
def Sub1 (s t : List Bool) : Prop := ∀ v, Mem1 s v → Mem1 t v
structure LiveOk (bs : List SBlock) (many : Nat) (s : LState) : Prop where
  blen : s.behind.length = bs.length
  flen : s.first.length = bs.length
  emp : ∀ (k : Nat), s.behind[k]? = some none → s.first[k]? = some none
  full : ∀ (k : Nat) (l : List Bool), s.behind[k]? = some (some l) → l.length = many ∧ ∃ b, bs[k]? = some b ∧ s.first[k]? = some (some (backF b l)) ∧ Sub1 l (lastF bs many b.term s.first)
  live : ∀ (k v : Nat), Mem1 (setAt s.first k) v → LiveIn bs v k
theorem dget_mem {v : Int} {p : Int × Int} : ∀ {d : Defs}, dget d v = some p → (v, p) ∈ d
  | [], h => by cases h
  | (k, q) :: d, h => by
    rw [dget] at h
    split at h
    · rename_i e
      subst e
      injection h with h
      subst h
      exact List.mem_cons_self ..
    · exact List.mem_cons_of_mem _ (dget_mem h)
theorem usesIns_all {d : Defs} {o : Dom} {k : Nat} : ∀ {l : List SIns} {n : Int}, usesIns d o k n l = true → ∀ (j : Nat) (i : SIns), l[j]? = some i → ∀ a ∈ i.args, fineF d o k (n + j) a = true
  | [], n, h, j, i, hi => by simp at hi
  | x :: l, n, h, j, i, hi => by
    rw [usesIns, Bool.and_eq_true, List.all_eq_true] at h
    cases j with
    | zero =>
      simp at hi
      subst hi
      intro a ha
      have := h.1 a ha
      simpa using this
    | succ j =>
      simp at hi
      intro a ha
      have := usesIns_all h.2 j i hi a ha
      rwa [show n + 1 + (j : Int) = n + ((j + 1 : Nat) : Int) by omega] at this
theorem usesF_all {d : Defs} {o : Dom} : ∀ {l : List SBlock} {k : Nat}, usesF d o k l = 0 → ∀ (j : Nat) (b : SBlock), l[j]? = some b → usesIns d o (k + j) 0 b.ins = true ∧ usedF b.term (fineF d o (k + j) b.ins.length) = true
  | [], k, h, j, b, hb => by simp at hb
  | c :: l, k, h, j, b, hb => by
    rw [usesF] at h
    split at h
    · cases h
    · split at h
      · cases h
      · rename_i h1 h2
        cases j with
        | zero =>
          simp at hb
          subst hb
          exact ⟨by simpa using h1, by simpa using h2⟩
        | succ j =>
          simp at hb
          have := usesF_all h j b hb
          rwa [show k + 1 + j = k + (j + 1) by omega] at this
end Go.SM
end
section
set_option linter.unusedVariables false
namespace Go.SM
open Go.VL
def valuesL (bs : List SBlock) : List Int := bs.flatMap fun b => b.params ++ b.ins.map (·.to)
def freshF (bs : List SBlock) : Int := (valuesL bs).foldl (fun n v => max n (v + 1)) 0
theorem fold_fresh : ∀ (l : List Int) (n : Int), n ≤ l.foldl (fun n v => max n (v + 1)) n ∧ ∀ v ∈ l, v < l.foldl (fun n v => max n (v + 1)) n
  | [], n => ⟨Int.le_refl _, fun v hv => by cases hv⟩
  | a :: l, n => by
    obtain ⟨h1, h2⟩ := fold_fresh l (max n (a + 1))
    rw [List.foldl_cons]
    refine ⟨by omega, fun v hv => ?_⟩
    rcases List.mem_cons.1 hv with rfl | hv
    · omega
    · exact h2 v hv
theorem fold_le {m : Int} : ∀ (l : List Int) (n : Int), n ≤ m → (∀ v ∈ l, v < m) → l.foldl (fun n v => max n (v + 1)) n ≤ m
  | [], n, hn, _ => hn
  | a :: l, n, hn, h => by
    have := h a (List.mem_cons_self ..)
    exact fold_le l _ (by show max n (a + 1) ≤ m; omega) fun v hv => h v (List.mem_cons_of_mem _ hv)
theorem values_keys {f : SFunc} (h : FuncOk f) : ∀ v ∈ valuesL f.blocks, 0 ≤ v ∧ v ≤ 4095 := fun v hv => h.keys.range v (by rw [dkeys_defsL]; exact hv)
theorem fresh_ok {f : SFunc} (h : FuncOk f) : 0 ≤ freshF f.blocks ∧ freshF f.blocks ≤ 4096 ∧ ∀ v ∈ valuesL f.blocks, v < freshF f.blocks := by
  obtain ⟨h1, h2⟩ := fold_fresh (valuesL f.blocks) 0
  exact ⟨h1, fold_le _ 0 (by decide) fun v hv => by have := values_keys h v hv; omega, h2⟩
def listF : Nat → List Bool → List Int
  | _, [] => []
  | v, b :: l => if b = true then (v : Int) :: listF (v + 1) l else listF (v + 1) l
theorem list_len : ∀ (l : List Bool) (w : Nat), (listF w l).length ≤ l.length
  | [], w => Nat.le_refl _
  | b :: l, w => by
    rw [listF]
    have := list_len l (w + 1)
    split <;> simp <;> omega
end Go.SM
end
section
set_option linter.unusedVariables false
set_option linter.unusedSimpArgs false
namespace Go.SM
open Go.VL
end Go.SM
end
section
set_option linter.unusedVariables false
set_option linter.unusedSimpArgs false
set_option linter.unusedSectionVars false
namespace Go.SM
open Go.VL
def renT (r : Int → Int) (t : STerm) : STerm := { t with to := t.to.map fun e => ⟨r e.block, e.args⟩ }
structure Ren (u v : SUnit) (ρ : Int → Int → Int) (good : Int → Int → Prop) : Prop where
  main : v.main = u.main
  entry : ∀ k, entryOf v k = entryOf u k
  zero : ∀ fn, good fn 0 ∧ ρ fn 0 = 0
  blk : ∀ fn k, good fn k → (blockAt v fn (ρ fn k)).params = (blockAt u fn k).params ∧ (blockAt v fn (ρ fn k)).ins = (blockAt u fn k).ins ∧ (blockAt v fn (ρ fn k)).term = renT (ρ fn) (blockAt u fn k).term ∧ ∀ e ∈ (blockAt u fn k).term.to, good fn e.block
def wst (s : List MFrame) (M : Mach) : Mach := { M with stack := s }
theorem pay_st (n : Int) (M : Mach) (s : List MFrame) : payF n (wst s M) = wst s (payF n M) := by
  unfold payF
  show (if M.left < n then _ else _) = _
  split <;> rfl
theorem alloc_st (a b : Val) (M : Mach) (s : List MFrame) : allocF a b (wst s M) = (wst s (allocF a b M).1, (allocF a b M).2) := by
  unfold allocF
  rw [pay_st]
  by_cases h1 : a.kind ≠ 0
  · rw [if_pos h1, if_pos h1]
  · rw [if_neg h1, if_neg h1]
    by_cases h2 : a.n < 0 ∨ 1024 < a.n
    · rw [if_pos h2, if_pos h2]
    · rw [if_neg h2, if_neg h2]
      show (if (payF a.n M).short = true then _ else _) = _
      by_cases h3 : (payF a.n M).short = true
      · rw [if_pos h3, if_pos h3]
      · rw [if_neg h3, if_neg h3]; rfl
theorem effect_st (i : SIns) (args : List Val) (M : Mach) (s : List MFrame) : effectF i args (wst s M) = (wst s (effectF i args M).1, (effectF i args M).2) := by
  unfold effectF
  rw [alloc_st]
  show (if i.op = 15 then if (argAt args 0).kind ≠ 0 then _ else if (M.out.length : Int) = 1000 then _ else _ else if i.op = 16 then _ else if i.op = 18 then if allK 0 args = false then _ else if _ then _ else _ else if _ then _ else if i.op = 17 then _ else if (argAt args 1).n < 0 ∨ ((arrOf M (argAt args 0)).length : Int) ≤ (argAt args 1).n then _ else if i.op = 19 then _ else _) = _
  by_cases h1 : i.op = 15
  · rw [if_pos h1, if_pos h1]
    by_cases h2 : (argAt args 0).kind ≠ 0
    · rw [if_pos h2, if_pos h2]
    · rw [if_neg h2, if_neg h2]
      by_cases h3 : (M.out.length : Int) = 1000
      · rw [if_pos h3, if_pos h3]
      · rw [if_neg h3, if_neg h3]; rfl
  · rw [if_neg h1, if_neg h1]
    by_cases h2 : i.op = 16
    · rw [if_pos h2, if_pos h2]
    · rw [if_neg h2, if_neg h2]
      by_cases h3 : i.op = 18
      · rw [if_pos h3, if_pos h3]
        by_cases h4 : allK 0 args = false
        · rw [if_pos h4, if_pos h4]
        · rw [if_neg h4, if_neg h4]
          by_cases h5 : (argAt args 0).n < 0 ∨ (argAt args 1).n ≤ (argAt args 0).n
          · rw [if_pos h5, if_pos h5]
          · rw [if_neg h5, if_neg h5]
      · rw [if_neg h3, if_neg h3]
        by_cases h4 : (argAt args 0).kind ≠ 3 ∨ i.op ≠ 17 ∧ (argAt args 1).kind ≠ 0
        · rw [if_pos h4, if_pos h4]
        · rw [if_neg h4, if_neg h4]
          by_cases h5 : i.op = 17
          · rw [if_pos h5, if_pos h5]; rfl
          · rw [if_neg h5, if_neg h5]
            by_cases h6 : (argAt args 1).n < 0 ∨ ((arrOf M (argAt args 0)).length : Int) ≤ (argAt args 1).n
            · rw [if_pos h6, if_pos h6]
            · rw [if_neg h6, if_neg h6]
              by_cases h7 : i.op = 19
              · rw [if_pos h7, if_pos h7]; rfl
              · rw [if_neg h7, if_neg h7]
                have : ∀ l, setArr (wst s M) (argAt args 0) l = wst s (setArr M (argAt args 0) l) := fun l => by
                  unfold setArr
                  cases (argAt args 0).arr <;> rfl
                rw [this]; rfl
theorem exec_st (i : SIns) (args : List Val) (M : Mach) (s : List MFrame) : execF i args (wst s M) = (wst s (execF i args M).1, (execF i args M).2) := by
  unfold execF
  rw [effect_st]
  by_cases h1 : i.op = 0
  · rw [if_pos h1, if_pos h1]
  · rw [if_neg h1, if_neg h1]
    by_cases h2 : elemJ i.op [1, 2, 3, 4, 5, 6, 7] = true
    · rw [if_pos h2, if_pos h2]
      by_cases h3 : allK 0 args = false
      · rw [if_pos h3, if_pos h3]
      · rw [if_neg h3, if_neg h3]
    · rw [if_neg h2, if_neg h2]
      by_cases h3 : i.op = 8
      · rw [if_pos h3, if_pos h3]
      · rw [if_neg h3, if_neg h3]
        by_cases h4 : i.op = 9
        · rw [if_pos h4, if_pos h4]
        · rw [if_neg h4, if_neg h4]
          by_cases h5 : elemJ i.op [10, 11, 12, 21] = true
          · rw [if_pos h5, if_pos h5]
          · rw [if_neg h5, if_neg h5]
            by_cases h6 : elemJ i.op [22, 23, 24] = true
            · rw [if_pos h6, if_pos h6]
            · rw [if_neg h6, if_neg h6]
              by_cases h7 : i.op = 100
              · rw [if_pos h7, if_pos h7]
              · rw [if_neg h7, if_neg h7]
section
variable {u v : SUnit} {ρ : Int → Int → Int} {good : Int → Int → Prop} (h : Ren u v ρ good)
end
theorem run_unit {u : SUnit} {fuel : Int} (h : (runF u fuel).2.2 = 0) : unitF u = 0 := by
  unfold runF at h
  by_cases hu : unitF u ≠ 0
  · rw [if_pos hu] at h
    exact absurd h hu
  · exact Decidable.not_not.1 hu
end Go.SM
end
section
set_option linter.unusedVariables false
set_option linter.unusedSimpArgs false
namespace Go.SM
open Go.VL
structure RangeOk (bs : List SBlock) (many : Nat) : Prop where
  to : ∀ b ∈ bs, ∀ i ∈ b.ins, 0 ≤ i.to ∧ i.to < many
  args : ∀ b ∈ bs, ∀ i ∈ b.ins, ∀ a ∈ i.args, 0 ≤ a ∧ a < many
  arg : ∀ b ∈ bs, b.term.kind ≠ 1 ∧ b.term.kind ≠ 4 → 0 ≤ b.term.arg ∧ b.term.arg < many
  eargs : ∀ b ∈ bs, ∀ e ∈ b.term.to, ∀ a ∈ e.args, 0 ≤ a ∧ a < many
  edge : ∀ b ∈ bs, ∀ e ∈ b.term.to, 1 ≤ e.block ∧ e.block < bs.length
theorem fine_key {f : SFunc} (h : FuncOk f) {k : Nat} {at_ a : Int} (hf : fineF (blocksF f.blocks 0 f.blocks []).2 (domF f.blocks) k at_ a = true) : a ∈ valuesL f.blocks := by
  rw [h.defs.1] at hf
  unfold fineF at hf
  cases hd : dget (defsL 0 f.blocks) a with
  | none => rw [hd] at hf; cases hf
  | some p =>
    have hmem := dget_mem hd
    have : a ∈ dkeys (defsL 0 f.blocks) := List.mem_map.2 ⟨_, hmem, rfl⟩
    rwa [dkeys_defsL] at this
theorem used_all {t : STerm} {use : Int → Bool} (h : usedF t use = true) : (t.kind ≠ 1 ∧ t.kind ≠ 4 → use t.arg = true) ∧ ∀ e ∈ t.to, ∀ a ∈ e.args, use a = true := by
  unfold usedF at h
  split at h
  · cases h
  · rename_i hc
    refine ⟨fun hk => ?_, fun e he a ha => ?_⟩
    · cases hu : use t.arg with
      | true => rfl
      | false => exact absurd ⟨hk, hu⟩ hc
    · rw [List.all_eq_true] at h
      have := h e he
      rw [List.all_eq_true] at this
      exact this a ha
theorem range_ok {f : SFunc} (h : FuncOk f) {many : Nat} (hm : freshF f.blocks ≤ many) : RangeOk f.blocks many := by
  have key : ∀ a ∈ valuesL f.blocks, 0 ≤ a ∧ a < many := fun a ha => by
    have h1 := values_keys h a ha
    have h2 := (fresh_ok h).2.2 a ha
    exact ⟨h1.1, by omega⟩
  have hu := usesF_all h.uses
  refine ⟨fun b hb i hi => key _ (List.mem_flatMap.2 ⟨b, hb, List.mem_append_right _ (List.mem_map.2 ⟨i, hi, rfl⟩)⟩), fun b hb i hi a ha => ?_, fun b hb hk => ?_, fun b hb e he a ha => ?_, h.edges⟩
  · obtain ⟨k, hk⟩ := List.getElem?_of_mem hb
    obtain ⟨j, hj⟩ := List.getElem?_of_mem hi
    exact key a (fine_key h (usesIns_all (hu k b hk).1 j i hj a ha))
  · obtain ⟨k, hkb⟩ := List.getElem?_of_mem hb
    exact key _ (fine_key h ((used_all (hu k b hkb).2).1 hk))
  · obtain ⟨k, hk⟩ := List.getElem?_of_mem hb
    exact key a (fine_key h ((used_all (hu k b hk).2).2 e he a ha))
end Go.SM
end
section
set_option linter.unusedVariables false
set_option linter.unusedSimpArgs false
set_option linter.unusedSectionVars false
namespace Go.SM
open Go.VL
def mainF (u : SUnit) : SFunc := u.fns[u.main.toNat]?.getD default
def frU (u : SUnit) : Int := freshF (mainF u).blocks
theorem nw_fns {u : SUnit} (h : unitF u = 0) : ∀ f ∈ u.fns, funcF f = 0 := by
  unfold unitF at h
  split at h
  · cases h
  · split at h
    · cases h
    · split at h
      · cases h
      · split at h
        · rename_i hn; exact absurd h hn
        · rename_i hn
          exact firstE_ok (Decidable.not_not.1 hn)
theorem main_at {u : SUnit} (h : unitF u = 0) : u.fns[u.main.toNat]? = some (mainF u) := by
  obtain ⟨h1, h2⟩ := ((unit_of h).u).main
  obtain ⟨f, hf⟩ := get_of_lt u.fns u.main.toNat (by omega)
  unfold mainF
  rw [hf]
  rfl
theorem vget_vput (k : Int) (v : Val) (x : Int) : ∀ m : Vals, vget (vput m k v) x = if k = x then v else vget m x
  | [] => by
    show (if k = x then v else vget [] x) = _
    rfl
  | (j, a) :: m => by
    rw [vput]
    by_cases hj : j = k
    · subst hj
      rw [if_pos rfl, vget, vget]
      by_cases hx : j = x
      · rw [if_pos hx, if_pos hx]
      · rw [if_neg hx, if_neg hx, if_neg hx]
    · rw [if_neg hj, vget, vget_vput k v x m, vget]
      by_cases hx : j = x
      · rw [if_pos hx, if_neg (by omega), if_pos hx]
      · rw [if_neg hx, if_neg hx]
def Agree (q : Int → Prop) (m m' : Vals) : Prop := ∀ x, q x → vget m' x = vget m x
theorem Agree.put {q : Int → Prop} {m m' : Vals} (h : Agree q m m') (k : Int) (v : Val) : Agree q (vput m k v) (vput m' k v) := fun x hx => by
  rw [vget_vput, vget_vput, h x hx]
theorem Agree.take {q : Int → Prop} {m m' : Vals} (h : Agree q m m') {l : List Int} (hl : ∀ a ∈ l, q a) : takeF m' l = takeF m l := List.map_congr_left fun a ha => h a (hl a ha)
def inB (u : SUnit) (f : MFrame) : Prop := f.fn = u.main ∧ f.block = 0
open Classical in
noncomputable def shF (u : SUnit) (f : MFrame) : Int := if inB u f then 1 else 0
def okX (u : SUnit) (f : MFrame) (x : Int) : Prop := f.fn = u.main → x ≠ frU u
structure FR (u : SUnit) (f f' : MFrame) : Prop where
  fn : f'.fn = f.fn
  block : f'.block = f.block
  to : f'.to = f.to
  at_ : f'.at_ = f.at_ + shF u f
  vals : Agree (okX u f) f.vals f'.vals
inductive SR (u : SUnit) : List MFrame → List MFrame → Prop where
  | nil : SR u [] []
  | cons {f f' : MFrame} {fs fs' : List MFrame} : FR u f f' → SR u fs fs' → SR u (f :: fs) (f' :: fs')
inductive PR (u : SUnit) : List MFrame → List MFrame → Prop where
  | mk {f : MFrame} {fs fs' : List MFrame} : inB u f → f.at_ = 0 → SR u fs fs' → PR u (f :: fs) (f :: fs')
section
variable {u : SUnit} {w : Int} (hu : unitF u = 0)
include hu
end
end Go.SM
end
section
set_option linter.unusedVariables false
set_option linter.unusedSimpArgs false
set_option linter.unusedSectionVars false
namespace Go.SM
open Go.VL
mutual
def vecV : Val → Bool
  | .mk k _ l _ => (decide (k ≠ 4) || allK 0 l) && vecVs l
def vecVs : List Val → Bool
  | [] => true
  | v :: l => vecV v && vecVs l
end
theorem vecVs_all : ∀ l, vecVs l = l.all vecV
  | [] => rfl
  | v :: l => by rw [vecVs, vecVs_all l, List.all_cons]
theorem vecV_iff {v : Val} : vecV v = true ↔ (v.kind = 4 → allK 0 v.list = true) ∧ ∀ x ∈ v.list, vecV x = true := by
  cases v with
  | mk k n l a =>
    rw [vecV, vecVs_all]
    simp only [Bool.and_eq_true, Bool.or_eq_true, decide_eq_true_eq, List.all_eq_true, Val.kind, Val.list]
    constructor
    · rintro ⟨h1, h2⟩
      exact ⟨fun h => h1.resolve_left (fun h3 => h3 h), h2⟩
    · rintro ⟨h1, h2⟩
      refine ⟨?_, h2⟩
      by_cases h : k = 4
      · exact .inr (h1 h)
      · exact .inl h
theorem vec_leaf {k n : Int} {a : Option Nat} : vecV (.mk k n [] a) = true := by
  rw [vecV_iff]
  exact ⟨fun _ => rfl, fun x hx => by cases hx⟩
theorem vec_zero : vecV Val.zero = true := vec_leaf
theorem vec_word (n : Int) : vecV (Val.word n) = true := vec_leaf
theorem allK_iff {k : Int} : ∀ {l : List Val}, allK k l = true ↔ ∀ x ∈ l, x.kind = k
  | [] => by simp [allK]
  | v :: l => by
    rw [allK, Bool.and_eq_true, decide_eq_true_eq, allK_iff]
    simp
theorem argAt_vec {l : List Val} (h : ∀ x ∈ l, vecV x = true) (k : Nat) : vecV (argAt l k) = true := by
  unfold argAt
  cases hl : l[k]? with
  | none => exact vec_zero
  | some v => exact h v (List.mem_of_getElem? hl)
theorem argAt_kind {l : List Val} (h : ∀ x ∈ l, x.kind = 0) (k : Nat) : (argAt l k).kind = 0 := by
  unfold argAt
  cases hl : l[k]? with
  | none => rfl
  | some v => exact h v (List.mem_of_getElem? hl)
theorem truth_word (b : Bool) : ∃ n, truthF b = .word n := by
  cases b
  · exact ⟨0, rfl⟩
  · exact ⟨1, rfl⟩
theorem binary_word (op a b : Int) : ∃ n, (binaryF op a b).1 = .word n := by
  unfold binaryF
  split
  · exact ⟨_, rfl⟩
  · split
    · exact ⟨_, rfl⟩
    · split
      · exact ⟨_, rfl⟩
      · split
        · exact truth_word _
        · split
          · exact truth_word _
          · split
            · exact ⟨0, rfl⟩
            · split <;> exact ⟨_, rfl⟩
theorem lanes_words (op : Int) : ∀ (l m : List Val), ∀ x ∈ lanesF op l m, ∃ n, x = .word n
  | [], _, x, hx => by cases hx
  | _ :: _, [], x, hx => by cases hx
  | a :: l, b :: m, x, hx => by
    rcases List.mem_cons.1 hx with rfl | hx
    · exact binary_word op a.n b.n
    · exact lanes_words op l m x hx
def numF (op : Int) : Bool := elemJ op [0, 1, 2, 3, 4, 5, 6, 7, 10, 12, 17, 24, 15, 20, 18]
def VHeap (h : List (List Val)) : Prop := ∀ l ∈ h, ∀ v ∈ l, vecV v = true
structure VRes (i : SIns) (r : Mach × Val × Int) : Prop where
  v : vecV r.2.1 = true
  heap : VHeap r.1.heap
  num : numF i.op = true → r.2.1.kind = 0
theorem VRes.word {i : SIns} {M : Mach} (n e : Int) (h : VHeap M.heap) : VRes i (M, .word n, e) := ⟨vec_word n, h, fun _ => rfl⟩
theorem not_num {op a : Int} (h : op = a) (ha : numF a = false) {p : Prop} : numF op = true → p := fun hn => by
  rw [h, ha] at hn
  cases hn
theorem elem_or {x y : Int} {l : List Int} (h : elemJ x (y :: l) = true) : x = y ∨ elemJ x l = true := by
  rw [elemJ, Bool.or_eq_true, decide_eq_true_eq] at h
  exact h
theorem heap_arr {M : Mach} (h : VHeap M.heap) (v : Val) : ∀ x ∈ arrOf M v, vecV x = true := fun x hx => by
  unfold arrOf at hx
  cases hv : v.arr with
  | none => rw [hv] at hx; cases hx
  | some k =>
    rw [hv] at hx
    have hx : x ∈ (M.heap[k]?).getD [] := hx
    cases hk : M.heap[k]? with
    | none => rw [hk] at hx; cases hx
    | some l =>
      rw [hk] at hx
      exact h l (List.mem_of_getElem? hk) x hx
theorem effect_vec (i : SIns) {args : List Val} {M : Mach} (ha : ∀ a ∈ args, vecV a = true) (hh : VHeap M.heap) : VRes i (effectF i args M) := by
  unfold effectF
  split
  · split
    · exact .word 0 5 hh
    · split
      · exact .word 0 6 hh
      · exact .word 0 0 hh
  · split
    · rename_i h16
      have hn : ∀ p : Prop, numF i.op = true → p := fun p => not_num h16 rfl
      unfold allocF
      split
      · exact .word 0 5 hh
      · split
        · exact .word 0 6 hh
        · have hp : (payF (argAt args 0).n M).heap = M.heap := by unfold payF; split <;> rfl
          split
          · refine .word 0 0 ?_
            rw [hp]
            exact hh
          · refine ⟨vec_leaf, fun l hl => ?_, hn _⟩
            have hl : l ∈ (payF (argAt args 0).n M).heap ++ [List.replicate (argAt args 0).n.toNat (argAt args 1)] ∨ l ∈ M.heap ++ [List.replicate (argAt args 0).n.toNat (argAt args 1)] := .inr hl
            rw [hp] at hl
            rcases List.mem_append.1 (hl.elim id id) with hl | hl
            · exact hh l hl
            · rw [List.mem_singleton.1 hl]
              intro v hv
              rw [List.eq_of_mem_replicate hv]
              exact argAt_vec ha 1
    · split
      · split
        · exact .word 0 5 hh
        · split
          · exact .word 0 2 hh
          · exact .word 0 0 hh
      · split
        · exact .word 0 5 hh
        · split
          · exact .word _ 0 hh
          · split
            · exact .word 0 2 hh
            · split
              · rename_i h19
                exact ⟨argAt_vec (heap_arr hh _) _, hh, not_num h19 rfl⟩
              · refine .word 0 0 fun l hl => ?_
                unfold setArr at hl
                split at hl
                · exact hh l hl
                · rcases List.mem_or_eq_of_mem_set hl with hl | rfl
                  · exact hh l hl
                  · intro v hv
                    rcases List.mem_or_eq_of_mem_set hv with hv | rfl
                    · exact heap_arr hh _ v hv
                    · exact argAt_vec ha 2
theorem exec_vec (i : SIns) {args : List Val} {M : Mach} (ha : ∀ a ∈ args, vecV a = true) (hh : VHeap M.heap) : VRes i (execF i args M) := by
  unfold execF
  split
  · exact .word _ 0 hh
  · split
    · split
      · exact .word 0 5 hh
      · obtain ⟨n, hn⟩ := binary_word i.op (argAt args 0).n (argAt args 1).n
        show VRes i (M, (binaryF i.op (argAt args 0).n (argAt args 1).n).1, (binaryF i.op (argAt args 0).n (argAt args 1).n).2)
        rw [hn]
        exact .word n _ hh
    · split
      · rename_i h8
        exact ⟨vecV_iff.2 ⟨fun h => absurd (show (1 : Int) = 4 from h) (by decide), ha⟩, hh, not_num h8 rfl⟩
      · split
        · rename_i h9
          exact ⟨vecV_iff.2 ⟨fun h => absurd (show (2 : Int) = 4 from h) (by decide), ha⟩, hh, not_num h9 rfl⟩
        · split
          · have hl : ∀ x ∈ (argAt args 0).list, vecV x = true := (vecV_iff.1 (argAt_vec ha 0)).2
            have hel : elemJ i.op [10, 11, 12, 21] = true := ‹elemJ i.op [10, 11, 12, 21] = true›
            show VRes i (M, (objectF i args).1, (objectF i args).2)
            unfold objectF
            dsimp only
            split
            · rename_i h11
              split
              · exact .word 0 5 hh
              · exact ⟨argAt_vec hl _, hh, not_num h11 rfl⟩
            · split
              · exact .word 0 5 hh
              · split
                · exact .word _ 0 hh
                · split
                  · exact .word _ 0 hh
                  · split
                    · exact .word 0 5 hh
                    · split
                      · exact .word 0 2 hh
                      · have h21 : i.op = 21 := by
                          rcases elem_or hel with h | hel
                          · exact absurd h ‹¬i.op = 10›
                          · rcases elem_or hel with h | hel
                            · exact absurd h ‹¬i.op = 11›
                            · rcases elem_or hel with h | hel
                              · exact absurd h ‹¬i.op = 12›
                              · exact (elem_or hel).resolve_right (fun h => absurd h (by simp [elemJ]))
                        exact ⟨argAt_vec hl _, hh, not_num h21 rfl⟩
          · split
            · rename_i hel
              show VRes i (M, (vectorF i args).1, (vectorF i args).2)
              unfold vectorF
              split
              · rename_i h22
                split
                · exact .word 0 5 hh
                · rename_i hk
                  exact ⟨vecV_iff.2 ⟨fun _ => (Bool.not_eq_false _).mp hk, ha⟩, hh, not_num h22 rfl⟩
              · split
                · split
                  · exact .word 0 5 hh
                  · rename_i hk
                    have h4 : (argAt args 0).kind = 4 := by
                      by_cases h : (argAt args 0).kind = 4
                      · exact h
                      · exact absurd (.inl h) hk
                    obtain ⟨g1, g2⟩ := vecV_iff.1 (argAt_vec ha 0)
                    exact ⟨argAt_vec g2 _, hh, fun _ => argAt_kind (allK_iff.1 (g1 h4)) _⟩
                · split
                  · exact .word 0 5 hh
                  · have h23 : i.op = 23 := by
                      rcases elem_or hel with h | hel
                      · exact absurd h ‹¬i.op = 22›
                      · rcases elem_or hel with h | hel
                        · exact h
                        · exact absurd ((elem_or hel).resolve_right (fun h => absurd h (by simp [elemJ]))) ‹¬i.op = 24›
                    refine ⟨vecV_iff.2 ⟨fun _ => allK_iff.2 fun x hx => ?_, fun x hx => ?_⟩, hh, not_num h23 rfl⟩
                    · obtain ⟨n, rfl⟩ := lanes_words i.n _ _ x hx
                      rfl
                    · obtain ⟨n, rfl⟩ := lanes_words i.n _ _ x hx
                      exact vec_word n
            · split
              · rename_i h100
                exact ⟨argAt_vec ha 0, hh, not_num h100 rfl⟩
              · exact effect_vec i ha hh
end Go.SM
end
section
set_option linter.unusedVariables false
set_option linter.unusedSimpArgs false
set_option linter.unusedSectionVars false
namespace Go.SM
open Go.VL
def wAt (W : List Bool) (x : Int) : Bool := decide (0 ≤ x) && W.getD x.toNat false
def addI (nx p : Int) : SIns := ⟨nx, 1, 0, [p, p]⟩
def addsP (W : List Bool) : Int → List Int → List SIns
  | _, [] => []
  | nx, p :: ps => if wAt W p = true then addI nx p :: addsP W (nx + 1) ps else addsP W nx ps
def wdB (W : List Bool) (nx : Int) (b : SBlock) : SBlock := { b with ins := addsP W nx b.params ++ b.ins }
def wdL (W : List Bool) : Int → List SBlock → List SBlock
  | _, [] => []
  | nx, b :: l => wdB W nx b :: wdL W (nx + ((addsP W nx b.params).length : Nat)) l
def wdF (f : SFunc) (W : List Bool) : SFunc := ⟨f.name, wdL W (freshF f.blocks) f.blocks⟩
def wdU (Ws : List (List Bool)) (u : SUnit) : SUnit := ⟨List.zipWith wdF u.fns Ws, u.main⟩
def nxAt (W : List Bool) : Int → List SBlock → Nat → Int
  | nx, [], _ => nx
  | nx, _ :: _, 0 => nx
  | nx, b :: l, k + 1 => nxAt W (nx + ((addsP W nx b.params).length : Nat)) l k
theorem nxAt_le (W : List Bool) : ∀ (bs : List SBlock) (nx : Int) (k : Nat), nx ≤ nxAt W nx bs k
  | [], nx, k => Int.le_refl _
  | b :: l, nx, 0 => Int.le_refl _
  | b :: l, nx, k + 1 => by
    have := nxAt_le W l (nx + ((addsP W nx b.params).length : Nat)) k
    rw [nxAt]
    omega
theorem wdL_len (W : List Bool) : ∀ (bs : List SBlock) (nx : Int), (wdL W nx bs).length = bs.length
  | [], nx => rfl
  | b :: l, nx => by rw [wdL, List.length_cons, List.length_cons, wdL_len W l]
theorem wdL_get (W : List Bool) : ∀ (bs : List SBlock) (nx : Int) (k : Nat), (wdL W nx bs)[k]? = (bs[k]?).map (wdB W (nxAt W nx bs k))
  | [], nx, k => by simp [wdL]
  | b :: l, nx, 0 => rfl
  | b :: l, nx, k + 1 => by
    rw [wdL, List.getElem?_cons_succ, List.getElem?_cons_succ, nxAt]
    exact wdL_get W l _ k
theorem wd_params (W : List Bool) (nx : Int) (bs : List SBlock) (k : Int) : paramsOf (wdL W nx bs) k = paramsOf bs k := by
  unfold paramsOf
  rw [wdL_get]
  cases bs[k.toNat]? <;> rfl
structure WordsOk (f : SFunc) (W : List Bool) : Prop where
  zero : ∀ p ∈ paramsOf f.blocks 0, wAt W p = false
  ins : ∀ b ∈ f.blocks, ∀ i ∈ b.ins, wAt W i.to = true → numF i.op = true
  flow : ∀ (k : Nat) (b c : SBlock) (e : SEdge), k ∈ orderF f.blocks → f.blocks[k]? = some b → e ∈ b.term.to → f.blocks[e.block.toNat]? = some c → ∀ (n : Nat) (v a : Int), c.params[n]? = some v → e.args[n]? = some a → wAt W v = true → wAt W a = true
def WUnit (u : SUnit) (Ws : List (List Bool)) : Prop := Ws.length = u.fns.length ∧ ∀ (k : Nat) (f : SFunc) (W : List Bool), u.fns[k]? = some f → Ws[k]? = some W → WordsOk f W
def gW (Ws : List (List Bool)) (fn : Int) : List Bool := Ws[fn.toNat]?.getD []
def fU (u : SUnit) (fn : Int) : SFunc := u.fns[fn.toNat]?.getD default
def frF (u : SUnit) (fn : Int) : Int := freshF (fU u fn).blocks
def adU (u : SUnit) (Ws : List (List Bool)) (fn k : Int) : List SIns := addsP (gW Ws fn) (nxAt (gW Ws fn) (frF u fn) (fU u fn).blocks k.toNat) (paramsOf (fU u fn).blocks k)
theorem fU_get {u : SUnit} {fn : Int} {F : SFunc} (h : u.fns[fn.toNat]? = some F) : fU u fn = F := by unfold fU; rw [h]; rfl
section
variable {u : SUnit} {Ws : List (List Bool)} (hu : unitF u = 0) (hW : WUnit u Ws)
include hW
theorem gW_get {fn : Int} {F : SFunc} (h : u.fns[fn.toNat]? = some F) : Ws[fn.toNat]? = some (gW Ws fn) := by
  obtain ⟨W, hw⟩ := get_of_lt Ws fn.toNat (by have := (List.getElem?_eq_some_iff.1 h).1; have := hW.1; omega)
  unfold gW
  rw [hw]
  rfl
theorem wd_get {fn : Int} {F : SFunc} (h : u.fns[fn.toNat]? = some F) : (wdU Ws u).fns[fn.toNat]? = some (wdF F (gW Ws fn)) := by
  show (List.zipWith wdF u.fns Ws)[fn.toNat]? = _
  rw [List.getElem?_zipWith, h, gW_get hW h]
theorem wd_words {fn : Int} {F : SFunc} (h : u.fns[fn.toNat]? = some F) : WordsOk F (gW Ws fn) := hW.2 _ _ _ h (gW_get hW h)
theorem wd_entry (k : Int) : entryOf (wdU Ws u) k = entryOf u k := by
  unfold entryOf
  cases h : u.fns[k.toNat]? with
  | none =>
    have : (wdU Ws u).fns[k.toNat]? = none := by
      show (List.zipWith wdF u.fns Ws)[k.toNat]? = none
      rw [List.getElem?_zipWith, h]
    rw [this]
  | some F =>
    rw [wd_get hW h]
    exact wd_params _ _ _ 0
theorem wd_block {fn k : Int} {F : SFunc} {b : SBlock} (hF : u.fns[fn.toNat]? = some F) (hb : F.blocks[k.toNat]? = some b) : blockAt (wdU Ws u) fn k = { b with ins := adU u Ws fn k ++ b.ins } := by
  unfold blockAt
  rw [wd_get hW hF]
  show ((wdL (gW Ws fn) (freshF F.blocks) F.blocks)[k.toNat]?).getD default = _
  rw [wdL_get, hb]
  show ({ b with ins := addsP (gW Ws fn) (nxAt (gW Ws fn) (freshF F.blocks) F.blocks k.toNat) b.params ++ b.ins } : SBlock) = _
  unfold adU frF
  rw [fU_get hF, paramsOf_get hb]
theorem adds_none {W : List Bool} : ∀ {ps : List Int} {nx : Int}, (∀ p ∈ ps, wAt W p = false) → addsP W nx ps = []
  | [], _, _ => rfl
  | p :: ps, nx, h => by
    rw [addsP, if_neg (by rw [h p (List.mem_cons_self ..)]; decide)]
    exact adds_none fun x hx => h x (List.mem_cons_of_mem _ hx)
theorem ad_zero (fn : Int) : adU u Ws fn 0 = [] := by
  unfold adU
  cases h : u.fns[fn.toNat]? with
  | none =>
    have : fU u fn = default := by unfold fU; rw [h]; rfl
    rw [this]
    rfl
  | some F =>
    rw [fU_get h]
    exact adds_none hW (wd_words hW h).zero
end
def wUp (M : Mach) : Mach := { M with left := M.left + 1 }
theorem wfirst {p : SUnit} {M : Mach} {S' : List MFrame} {d : Int} (ho : M.over = false) (hs : M.short = false) (hd : 0 ≤ M.left + d) (N : Nat) : goF p (N + 1) (addL d (wst S' (wUp M))) = goF p N (stepF p (addL d (wst S' M))) := by
  have hp : payF 1 (addL d (wst S' (wUp M))) = addL d (wst S' M) := by
    unfold payF
    rw [if_neg (by show ¬ M.left + 1 + d < 1; omega)]
    show ({ addL d (wst S' M) with left := M.left + 1 + d - 1 } : Mach) = { addL d (wst S' M) with left := M.left + d }
    rw [show M.left + 1 + d - 1 = M.left + d by omega]
  rw [goF_step (by exact ho) _ (by rw [hp]; exact hs), hp]
theorem add_step {p : SUnit} {f' : MFrame} {fs' : List MFrame} {M : Mach} {c : SBlock} {nx x : Int} (hc : blockAt p f'.fn f'.block = c) (h0 : 0 ≤ f'.at_) (hi : c.ins[f'.at_.toNat]? = some (addI nx x)) (hx : (vget f'.vals x).kind = 0) :
    ∃ v, ∀ d, stepF p (addL d (wst (f' :: fs') M)) = addL d (wst ({ f' with at_ := f'.at_ + 1, vals := vput f'.vals nx v } :: fs') M) := by
  have hl := (List.getElem?_eq_some_iff.1 hi).1
  refine ⟨.word (wrapF ((vget f'.vals x).n + (vget f'.vals x).n)), fun d => ?_⟩
  unfold stepF
  show (if f'.at_ = ((blockAt p f'.fn f'.block).ins.length : Int) then _ else insF p { f' with at_ := f'.at_ + 1 } ((blockAt p f'.fn f'.block).ins[f'.at_.toNat]?.getD default) fs' (addL d (wst ({ f' with at_ := f'.at_ + 1 } :: fs') M))) = _
  rw [hc, if_neg (by omega), hi]
  show insF p { f' with at_ := f'.at_ + 1 } (addI nx x) fs' _ = _
  unfold insF execF addI
  dsimp only
  rw [if_neg (by decide), if_neg (by decide), if_neg (by decide), if_pos (by decide)]
  have hk : allK 0 (takeF f'.vals [x, x]) = true := allK_iff.2 fun y hy => by
    have hy : y ∈ [vget f'.vals x, vget f'.vals x] := hy
    have : y = vget f'.vals x := by simpa using hy
    rw [this]
    exact hx
  rw [if_neg (by rw [hk]; decide)]
  rfl
theorem add_run {p : SUnit} {M : Mach} (ho : M.over = false) (hs : M.short = false) {c : SBlock} {rest : List SIns} {W : List Bool} {fr : Int} : ∀ (ps : List Int) (nx : Int) (f' : MFrame) (fs' : List MFrame), blockAt p f'.fn f'.block = c → 0 ≤ f'.at_ → fr ≤ nx → (∀ x ∈ ps, x < fr) → (∀ x ∈ ps, wAt W x = true → (vget f'.vals x).kind = 0) → c.ins.drop f'.at_.toNat = addsP W nx ps ++ rest →
    ∃ v2, (∀ x, x < fr → vget v2 x = vget f'.vals x) ∧ ∀ (d : Int) (N : Nat), ((addsP W nx ps).length : Int) ≤ M.left + d → goF p (N + (addsP W nx ps).length) (addL d (wst (f' :: fs') M)) = goF p N (addL (d - ((addsP W nx ps).length : Nat)) (wst ({ f' with at_ := f'.at_ + ((addsP W nx ps).length : Nat), vals := v2 } :: fs') M))
  | [], nx, f', fs', _, _, _, _, _, _ => by
    refine ⟨f'.vals, fun _ _ => rfl, fun d N _ => ?_⟩
    show goF p N (addL d (wst (f' :: fs') M)) = goF p N (addL (d - 0) (wst ({ f' with at_ := f'.at_ + 0, vals := f'.vals } :: fs') M))
    rw [Int.sub_zero, Int.add_zero]
  | y :: ps, nx, f', fs', hc, h0, hnx, hlt, hk, hd => by
    have hlt2 : ∀ x ∈ ps, x < fr := fun x hx => hlt x (List.mem_cons_of_mem _ hx)
    rw [addsP] at hd ⊢
    by_cases hy : wAt W y = true
    · rw [if_pos hy] at hd ⊢
      rw [List.length_cons]
      have hi : c.ins[f'.at_.toNat]? = some (addI nx y) := by
        have h9 : (c.ins.drop f'.at_.toNat)[0]? = some (addI nx y) := by rw [hd]; rfl
        rw [List.getElem?_drop, Nat.add_zero] at h9
        exact h9
      have hd2 : c.ins.drop (f'.at_ + 1).toNat = addsP W (nx + 1) ps ++ rest := by
        have h9 : (c.ins.drop f'.at_.toNat).drop 1 = addsP W (nx + 1) ps ++ rest := by rw [hd]; rfl
        rw [List.drop_drop] at h9
        rw [show (f'.at_ + 1).toNat = f'.at_.toNat + 1 by omega]
        exact h9
      obtain ⟨v, hv⟩ := add_step (p := p) (f' := f') (fs' := fs') (M := M) hc h0 hi (hk y (List.mem_cons_self ..) hy)
      have hput : ∀ x, x < fr → vget (vput f'.vals nx v) x = vget f'.vals x := fun x hx => by rw [vget_vput, if_neg (by omega)]
      obtain ⟨v2, h2, h3⟩ := add_run ho hs ps (nx + 1) { f' with at_ := f'.at_ + 1, vals := vput f'.vals nx v } fs' hc (by show 0 ≤ f'.at_ + 1; omega) (by omega) hlt2 (fun x hx hw => by
        show (vget (vput f'.vals nx v) x).kind = 0
        rw [hput x (hlt2 x hx)]
        exact hk x (List.mem_cons_of_mem _ hx) hw) hd2
      refine ⟨v2, fun x hx => (h2 x hx).trans (hput x hx), fun d N hl => ?_⟩
      have hp : payF 1 (addL d (wst (f' :: fs') M)) = addL (d - 1) (wst (f' :: fs') M) := by
        unfold payF
        rw [if_neg (by show ¬ M.left + d < 1; omega)]
        show ({ addL d (wst (f' :: fs') M) with left := M.left + d - 1 } : Mach) = { addL d (wst (f' :: fs') M) with left := M.left + (d - 1) }
        rw [show M.left + d - 1 = M.left + (d - 1) by omega]
      rw [show N + ((addsP W (nx + 1) ps).length + 1) = (N + (addsP W (nx + 1) ps).length) + 1 by omega, goF_step (by exact ho) _ (by rw [hp]; exact hs), hp, hv, h3 (d - 1) N (by omega)]
      have e1 : d - 1 - (((addsP W (nx + 1) ps).length : Nat) : Int) = d - (((addsP W (nx + 1) ps).length + 1 : Nat) : Int) := by omega
      have e2 : f'.at_ + 1 + (((addsP W (nx + 1) ps).length : Nat) : Int) = f'.at_ + (((addsP W (nx + 1) ps).length + 1 : Nat) : Int) := by omega
      rw [e1]
      show goF p N (addL _ (wst ({ f' with at_ := f'.at_ + 1 + (((addsP W (nx + 1) ps).length : Nat) : Int), vals := v2 } :: fs') M)) = _
      rw [e2]
    · rw [if_neg hy] at hd ⊢
      exact add_run ho hs ps nx f' fs' hc h0 hnx hlt2 (fun x hx hw => hk x (List.mem_cons_of_mem _ hx) hw) hd
structure WFr (u : SUnit) (Ws : List (List Bool)) (f : MFrame) : Prop where
  vec : ∀ e ∈ f.vals, vecV e.2 = true
  word : ∀ x, wAt (gW Ws f.fn) x = true → (vget f.vals x).kind = 0
  reach : f.block.toNat ∈ orderF (fU u f.fn).blocks
inductive WSt (u : SUnit) (Ws : List (List Bool)) : List MFrame → Prop where
  | nil : WSt u Ws []
  | cons {f : MFrame} {fs : List MFrame} : WFr u Ws f → (∀ g gs, fs = g :: gs → wAt (gW Ws g.fn) f.to = false) → WSt u Ws fs → WSt u Ws (f :: fs)
structure WMach (u : SUnit) (Ws : List (List Bool)) (M : Mach) : Prop where
  st : WSt u Ws M.stack
  heap : VHeap M.heap
structure FW (u : SUnit) (Ws : List (List Bool)) (f f' : MFrame) : Prop where
  fn : f'.fn = f.fn
  block : f'.block = f.block
  to : f'.to = f.to
  at_ : f'.at_ = f.at_ + ((adU u Ws f.fn f.block).length : Nat)
  vals : ∀ x, x < frF u f.fn → vget f'.vals x = vget f.vals x
inductive SW (u : SUnit) (Ws : List (List Bool)) : List MFrame → List MFrame → Prop where
  | nil : SW u Ws [] []
  | cons {f f' : MFrame} {fs fs' : List MFrame} : FW u Ws f f' → SW u Ws fs fs' → SW u Ws (f :: fs) (f' :: fs')
theorem vget_vec {m : Vals} (h : ∀ e ∈ m, vecV e.2 = true) (x : Int) : vecV (vget m x) = true := by
  induction m with
  | nil => exact vec_zero
  | cons e m ih =>
    obtain ⟨k, v⟩ := e
    rw [vget]
    split
    · exact h _ (List.mem_cons_self ..)
    · exact ih fun e he => h e (List.mem_cons_of_mem _ he)
theorem vput_vec {m : Vals} (h : ∀ e ∈ m, vecV e.2 = true) (k : Int) {v : Val} (hv : vecV v = true) : ∀ e ∈ vput m k v, vecV e.2 = true := by
  induction m with
  | nil =>
    intro e he
    have he : e ∈ [(k, v)] := he
    rw [List.mem_singleton.1 he]
    exact hv
  | cons a m ih =>
    obtain ⟨j, x⟩ := a
    intro e he
    rw [vput] at he
    split at he
    · rcases List.mem_cons.1 he with rfl | he
      · exact hv
      · exact h e (List.mem_cons_of_mem _ he)
    · rcases List.mem_cons.1 he with rfl | he
      · exact h _ (List.mem_cons_self ..)
      · exact ih (fun e he => h e (List.mem_cons_of_mem _ he)) e he
theorem vputs_vec : ∀ {ps : List Int} {vs : List Val} {m : Vals}, (∀ e ∈ m, vecV e.2 = true) → (∀ v ∈ vs, vecV v = true) → ∀ e ∈ vputs m ps vs, vecV e.2 = true
  | [], vs, m, h, _ => by cases vs <;> exact h
  | p :: ps, [], m, h, _ => h
  | p :: ps, v :: vs, m, h, hv => by
    rw [vputs]
    exact vputs_vec (vput_vec h p (hv v (List.mem_cons_self ..))) fun x hx => hv x (List.mem_cons_of_mem _ hx)
theorem take_vec {m : Vals} (h : ∀ e ∈ m, vecV e.2 = true) (l : List Int) : ∀ v ∈ takeF m l, vecV v = true := fun v hv => by
  obtain ⟨a, _, rfl⟩ := List.mem_map.1 hv
  exact vget_vec h a
theorem vputs_word {q : Int → Bool} : ∀ {ps : List Int} {vs : List Val} {m : Vals}, (∀ x, q x = true → (vget m x).kind = 0) → (∀ (n : Nat) (p : Int) (v : Val), ps[n]? = some p → vs[n]? = some v → q p = true → v.kind = 0) → ∀ x, q x = true → (vget (vputs m ps vs) x).kind = 0
  | [], vs, m, h, _ => by cases vs <;> exact h
  | p :: ps, [], m, h, _ => h
  | p :: ps, v :: vs, m, h, hv => by
    rw [vputs]
    refine vputs_word (fun x hx => ?_) fun n a w h1 h2 => hv (n + 1) a w (by simpa using h1) (by simpa using h2)
    rw [vget_vput]
    split
    · rename_i e
      subst e
      exact hv 0 p v rfl rfl hx
    · exact h x hx
theorem agW_puts {q : Int} : ∀ {ps : List Int} {vs : List Val} {m m' : Vals}, (∀ x, x < q → vget m' x = vget m x) → ∀ x, x < q → vget (vputs m' ps vs) x = vget (vputs m ps vs) x
  | [], vs, m, m', h => by cases vs <;> exact h
  | p :: ps, [], m, m', h => h
  | p :: ps, v :: vs, m, m', h => by
    rw [vputs, vputs]
    exact agW_puts fun x hx => by rw [vget_vput, vget_vput, h x hx]
theorem agW_take {q : Int} {m m' : Vals} (h : ∀ x, x < q → vget m' x = vget m x) {l : List Int} (hl : ∀ a ∈ l, a < q) : takeF m' l = takeF m l := List.map_congr_left fun a ha => h a (hl a ha)
end Go.SM
end
section
set_option linter.unusedVariables false
set_option linter.unusedSimpArgs false
set_option linter.unusedSectionVars false
namespace Go.SM
open Go.VL
theorem wn_mem : ∀ {l : List SBlock} {b : SBlock}, b ∈ l → b.ins.length ≤ insN l
  | [], b, h => by cases h
  | c :: l, b, h => by
    rw [insN]
    rcases List.mem_cons.1 h with rfl | h
    · omega
    · have := wn_mem h; omega
section
variable {u : SUnit} {Ws : List (List Bool)} (hu : unitF u = 0) (hW : WUnit u Ws) (hv : unitF (wdU Ws u) = 0)
include hu hW
theorem wd_entered (n : Int) (args : List Val) (to : Int) : entered (wdU Ws u) n args to = entered u n args to := by
  unfold entered
  rw [wd_entry hW]
theorem fr_entered {n : Int} {args : List Val} {to : Int} (ha : ∀ v ∈ args, vecV v = true) (hn : ∃ F, u.fns[n.toNat]? = some F) : WFr u Ws (entered u n args to) := by
  obtain ⟨F, hF⟩ := hn
  have hok := func_ok (nw_fns hu F (List.mem_of_getElem? hF))
  refine ⟨vputs_vec (fun e he => by cases he) ha, ?_, ?_⟩
  · show ∀ x, wAt (gW Ws n) x = true → (vget (vputs [] (entryOf u n) args) x).kind = 0
    refine vputs_word (q := fun x => wAt (gW Ws n) x) (fun x _ => rfl) fun k p v hp _ hq => ?_
    have h1 : entryOf u n = paramsOf F.blocks 0 := by unfold entryOf; rw [hF]; rfl
    rw [h1] at hp
    have hq : wAt (gW Ws n) p = true := hq
    rw [(wd_words hW hF).zero p (List.mem_of_getElem? hp)] at hq
    cases hq
  · show (0 : Int).toNat ∈ orderF (fU u n).blocks
    rw [fU_get hF]
    have ho := order_ok hok.pos hok.edges
    exact List.mem_of_getElem? ho.zero
theorem fr_follow {f : MFrame} {F : SFunc} {b c : SBlock} {e : SEdge} (h : WFr u Ws f) (hF : u.fns[f.fn.toNat]? = some F) (hb : F.blocks[f.block.toNat]? = some b) (he : e ∈ b.term.to) (hc : F.blocks[e.block.toNat]? = some c) : WFr u Ws (followF u f e) := by
  have hok := func_ok (nw_fns hu F (List.mem_of_getElem? hF))
  have ho := order_ok hok.pos hok.edges
  have hr := h.reach
  rw [fU_get hF] at hr
  have hblk : (blockAt u f.fn e.block).params = c.params := by
    unfold blockAt
    rw [hF]
    show ((F.blocks[e.block.toNat]?).getD default).params = _
    rw [hc]; rfl
  refine ⟨vputs_vec h.vec (take_vec h.vec _), ?_, ?_⟩
  · show ∀ x, wAt (gW Ws f.fn) x = true → (vget (vputs f.vals (blockAt u f.fn e.block).params (takeF f.vals e.args)) x).kind = 0
    rw [hblk]
    refine vputs_word (q := fun x => wAt (gW Ws f.fn) x) h.word fun n p v hp hv hq => ?_
    unfold takeF at hv
    rw [List.getElem?_map] at hv
    cases ha : e.args[n]? with
    | none => rw [ha] at hv; cases hv
    | some a =>
      rw [ha] at hv
      injection hv with hv
      subst hv
      exact h.word a ((wd_words hW hF).flow _ b c e hr hb he hc n p a hp ha hq)
  · show e.block.toNat ∈ orderF (fU u f.fn).blocks
    rw [fU_get hF]
    exact ho.closed _ hr _ ⟨e, by unfold toAt; rw [hb]; exact he, rfl⟩
theorem wm_step {M : Mach} (hM : MOk u M) (h : WMach u Ws M) : WMach u Ws (stepF u M) := by
  cases hst : M.stack with
  | nil =>
    have e : stepF u M = M := by unfold stepF; rw [hst]
    rw [e]
    exact h
  | cons f fs =>
    obtain ⟨h1, hh⟩ := h
    rw [hst] at h1
    cases h1 with
    | @cons _ _ hf hto hfs =>
    obtain ⟨hf0, hb0, ⟨F, b, hF, hb, ha0, ha1⟩, _⟩ := hM.frames f (by rw [hst]; exact List.mem_cons_self ..)
    have hFm := List.mem_of_getElem? hF
    have hbm := List.mem_of_getElem? hb
    have eb : blockAt u f.fn f.block = b := by
      unfold blockAt
      rw [hF]
      show (F.blocks[f.block.toNat]?).getD default = b
      rw [hb]; rfl
    have hstep : stepF u M = if f.at_ = (b.ins.length : Int) then termF u f b.term fs M else insF u { f with at_ := f.at_ + 1 } (b.ins[f.at_.toNat]?.getD default) fs (wst ({ f with at_ := f.at_ + 1 } :: fs) M) := by
      unfold stepF
      rw [hst]
      dsimp only
      rw [eb]
      rfl
    rw [hstep]
    by_cases h1 : f.at_ = (b.ins.length : Int)
    · rw [if_pos h1]
      have hT : TermOk F b.term := ((unit_of hu).u).term F hFm b hbm
      have hsr : WSt u Ws (f :: fs) := .cons hf hto hfs
      have go : ∀ k : Nat, k < b.term.to.length → WMach u Ws { M with stack := followF u f (edgeAt b.term k) :: fs } := fun k hk => by
        obtain ⟨e, he⟩ := get_of_lt b.term.to k (by omega)
        have ee : edgeAt b.term k = e := by unfold edgeAt; rw [he]; rfl
        have hem := List.mem_of_getElem? he
        obtain ⟨_, ⟨c, hc, _⟩, _⟩ := hT.edges e hem
        rw [ee]
        exact ⟨.cons (fr_follow hu hW hf hF hb hem hc) hto hfs, hh⟩
      have same : ∀ X : Mach, X.stack = f :: fs → X.heap = M.heap → WMach u Ws X := fun X hX hXh => ⟨by rw [hX]; exact hsr, by rw [hXh]; exact hh⟩
      unfold termF
      by_cases k4 : b.term.kind = 4
      · rw [if_pos k4]; exact same (stopF b.term.n 0 M) hst rfl
      · rw [if_neg k4]
        by_cases k1 : b.term.kind = 1
        · rw [if_pos k1]; exact go 0 (hT.one k1)
        · rw [if_neg k1]
          by_cases k0 : b.term.kind = 0
          · rw [if_pos k0]
            cases hfs with
            | nil => exact ⟨.nil, hh⟩
            | @cons g gs hg hgt hgs =>
              refine ⟨.cons ⟨vput_vec hg.vec _ (vget_vec hf.vec _), fun x hx => ?_, hg.reach⟩ hgt hgs, hh⟩
              show (vget (vput g.vals f.to (vget f.vals b.term.arg)) x).kind = 0
              have hx : wAt (gW Ws g.fn) x = true := hx
              rw [vget_vput, if_neg (fun e => by rw [← e, hto g gs rfl] at hx; cases hx)]
              exact hg.word x hx
          · rw [if_neg k0]
            by_cases kw : (vget f.vals b.term.arg).kind ≠ 0
            · rw [if_pos kw]; exact same (stopF 5 0 M) hst rfl
            · rw [if_neg kw]
              have hch := choice_lt hT (vget f.vals b.term.arg).n k0 k1 k4
              exact go _ (by omega)
    · rw [if_neg h1]
      obtain ⟨i, hi⟩ := get_of_lt b.ins f.at_.toNat (by omega)
      have him := List.mem_of_getElem? hi
      rw [hi, Option.getD_some]
      have hio := ((unit_of hu).u).ins F hFm b hbm i him
      have hargs := take_vec hf.vec i.args
      have hf1 : WFr u Ws { f with at_ := f.at_ + 1 } := ⟨hf.vec, hf.word, hf.reach⟩
      have hnum := (wd_words hW hF).ins b hbm i him
      have ent : ∀ n : Int, numF i.op = false → (∃ F, u.fns[n.toNat]? = some F) → WMach u Ws (enterF u n (takeF f.vals i.args) i.to (wst ({ f with at_ := f.at_ + 1 } :: fs) M)) := fun n hop hn => by
        refine ⟨.cons (fr_entered hu hW hargs hn) (fun g gs hg => ?_) (.cons hf1 hto hfs), hh⟩
        injection hg with hg _
        subst hg
        show wAt (gW Ws f.fn) i.to = false
        cases hw : wAt (gW Ws f.fn) i.to with
        | false => rfl
        | true => rw [hnum hw] at hop; cases hop
      unfold insF
      dsimp only
      by_cases o13 : i.op = 13
      · rw [if_pos o13]
        obtain ⟨c1, c2, _⟩ := hio.call o13
        exact ent _ (by rw [o13]; rfl) (get_of_lt u.fns i.n.toNat (by omega))
      · rw [if_neg o13]
        by_cases o14 : i.op = 14
        · rw [if_pos o14]
          by_cases hc : (argAt (takeF f.vals i.args) 0).kind = 2 ∧ (entryOf u (argAt (takeF f.vals i.args) 0).n).length = (takeF f.vals i.args).length
          · rw [if_pos hc]
            refine ent _ (by rw [o14]; rfl) ?_
            cases hx : u.fns[(argAt (takeF f.vals i.args) 0).n.toNat]? with
            | some F => exact ⟨F, rfl⟩
            | none =>
              exfalso
              have h9 := hc.2
              unfold entryOf at h9
              rw [hx] at h9
              have h9 : 0 = (takeF f.vals i.args).length := h9
              have h8 := hio.app o14
              unfold takeF at h9
              rw [List.length_map] at h9
              omega
          · rw [if_neg hc]
            exact ⟨.cons hf1 hto hfs, hh⟩
        · rw [if_neg o14]
          have e1 := exec_st i (takeF f.vals i.args) M ({ f with at_ := f.at_ + 1 } :: fs)
          rw [e1]
          obtain ⟨x1, x2, x3⟩ := exec_vec i (args := takeF f.vals i.args) (M := M) hargs hh
          have hres : WSt u Ws ({ f with at_ := f.at_ + 1, vals := vput f.vals i.to (execF i (takeF f.vals i.args) M).2.1 } :: fs) := by
            refine .cons ⟨vput_vec hf.vec _ x1, fun x hx => ?_, hf.reach⟩ hto hfs
            show (vget (vput f.vals i.to (execF i (takeF f.vals i.args) M).2.1) x).kind = 0
            have hx : wAt (gW Ws f.fn) x = true := hx
            rw [vget_vput]
            split
            · rename_i e
              exact x3 (hnum (by rw [e]; exact hx))
            · exact hf.word x hx
          dsimp only
          refine ⟨hres, ?_⟩
          by_cases hx : (execF i (takeF f.vals i.args) M).2.2 ≠ 0
          · rw [if_pos hx]; exact x2
          · rw [if_neg hx]; exact x2
include hv
theorem ad_small {fn k : Int} {F : SFunc} {b : SBlock} (hF : u.fns[fn.toNat]? = some F) (hb : F.blocks[k.toNat]? = some b) : (adU u Ws fn k).length ≤ 1024 := by
  have h1 := wd_get hW hF
  have h2 := nw_fns hv _ (List.mem_of_getElem? h1)
  have h3 := (func_iff.1 h2).ins
  have h4 : (wdF F (gW Ws fn)).blocks[k.toNat]? = some (wdB (gW Ws fn) (nxAt (gW Ws fn) (freshF F.blocks) F.blocks k.toNat) b) := by
    show (wdL (gW Ws fn) (freshF F.blocks) F.blocks)[k.toNat]? = _
    rw [wdL_get, hb]
    rfl
  have h5 := wn_mem (List.mem_of_getElem? h4)
  have h6 : (wdB (gW Ws fn) (nxAt (gW Ws fn) (freshF F.blocks) F.blocks k.toNat) b).ins.length = (adU u Ws fn k).length + b.ins.length := by
    show (addsP _ _ b.params ++ b.ins).length = _
    rw [List.length_append]
    unfold adU frF
    rw [fU_get hF, paramsOf_get hb]
  omega
theorem step_wd {M : Mach} {S' : List MFrame} (hM : MOk u M) (hw : WMach u Ws M) (hS : SW u Ws M.stack S') (ho : M.over = false) (hs : M.short = false) (hs2 : (stepF u M).short = false) (hl2 : 0 ≤ (stepF u M).left) :
    ∃ (c : Nat) (S'' : List MFrame), c ≤ 1024 ∧ SW u Ws (stepF u M).stack S'' ∧ ∀ (d : Int) (N : Nat), (c : Int) ≤ d → goF (wdU Ws u) (N + c + 1) (addL d (wst S' (wUp M))) = goF (wdU Ws u) N (addL (d - (c : Nat)) (wst S'' (stepF u M))) := by
  have hl := hM.left0
  have one : ∀ S'' : List MFrame, SW u Ws (stepF u M).stack S'' → (∀ d : Int, 0 ≤ d → stepF (wdU Ws u) (addL d (wst S' M)) = addL d (wst S'' (stepF u M))) → ∃ (c : Nat) (S'' : List MFrame), c ≤ 1024 ∧ SW u Ws (stepF u M).stack S'' ∧
      ∀ (d : Int) (N : Nat), (c : Int) ≤ d → goF (wdU Ws u) (N + c + 1) (addL d (wst S' (wUp M))) = goF (wdU Ws u) N (addL (d - (c : Nat)) (wst S'' (stepF u M))) := fun S'' h1 h2 =>
    ⟨0, S'', Nat.zero_le _, h1, fun d N hd => by
      have hd : (0 : Int) ≤ d := hd
      rw [Nat.add_zero, wfirst ho hs (by omega), h2 d hd]
      show _ = goF (wdU Ws u) N (addL (d - 0) _)
      rw [Int.sub_zero]⟩
  have hwst := hw.st
  have hwm := wm_step hu hW hM hw
  cases hst : M.stack with
  | nil =>
    rw [hst] at hS
    cases hS
    have e : stepF u M = M := by unfold stepF; rw [hst]
    refine one [] (by rw [e, hst]; exact .nil) fun d hd => ?_
    rw [e]
    rfl
  | cons f fs =>
    rw [hst] at hS hwst
    cases hS with
    | @cons _ f' _ fs' hf hfs =>
    obtain ⟨hf0, hb0, ⟨F, b, hF, hb, ha0, ha1⟩, _⟩ := hM.frames f (by rw [hst]; exact List.mem_cons_self ..)
    have hFm := List.mem_of_getElem? hF
    have hbm := List.mem_of_getElem? hb
    have h0 := nw_fns hu F hFm
    have hok := func_ok h0
    have hr := range_ok hok (many := (freshF F.blocks).toNat) (by have := (fresh_ok hok).1; omega)
    have efr : frF u f.fn = freshF F.blocks := by unfold frF; rw [fU_get hF]
    have hfr0 := (fresh_ok hok).1
    have eb : blockAt u f.fn f.block = b := by
      unfold blockAt
      rw [hF]
      show (F.blocks[f.block.toNat]?).getD default = b
      rw [hb]; rfl
    have ep := wd_block hW hF hb
    have hat := hf.at_
    have hvals := hf.vals
    rw [efr] at hvals
    obtain ⟨pre, hpre⟩ : ∃ x, x = adU u Ws f.fn f.block := ⟨_, rfl⟩
    rw [← hpre] at hat ep
    have hstep : stepF u M = if f.at_ = (b.ins.length : Int) then termF u f b.term fs M else insF u { f with at_ := f.at_ + 1 } (b.ins[f.at_.toNat]?.getD default) fs (wst ({ f with at_ := f.at_ + 1 } :: fs) M) := by
      unfold stepF
      rw [hst]
      dsimp only
      rw [eb]
      rfl
    have hstep2 : ∀ d, stepF (wdU Ws u) (addL d (wst (f' :: fs') M)) = if f'.at_ = ((pre ++ b.ins).length : Int) then termF (wdU Ws u) f' b.term fs' (addL d (wst (f' :: fs') M)) else insF (wdU Ws u) { f' with at_ := f'.at_ + 1 } ((pre ++ b.ins)[f'.at_.toNat]?.getD default) fs' (addL d (wst ({ f' with at_ := f'.at_ + 1 } :: fs') M)) := fun d => by
      unfold stepF
      show (if f'.at_ = ((blockAt (wdU Ws u) f'.fn f'.block).ins.length : Int) then termF (wdU Ws u) f' (blockAt (wdU Ws u) f'.fn f'.block).term fs' _ else _) = _
      rw [hf.fn, hf.block, ep]
      rfl
    by_cases h1 : f.at_ = (b.ins.length : Int)
    · rw [if_pos h1] at hstep
      have hT : TermOk F b.term := ((unit_of hu).u).term F hFm b hbm
      have hatE : f'.at_ = ((pre ++ b.ins).length : Int) := by rw [List.length_append, hat, h1]; omega
      have hstep3 : ∀ d, stepF (wdU Ws u) (addL d (wst (f' :: fs') M)) = termF (wdU Ws u) f' b.term fs' (addL d (wst (f' :: fs') M)) := fun d => by rw [hstep2, if_pos hatE]
      have hsr : SW u Ws (f :: fs) (f' :: fs') := .cons hf hfs
      have same : ∀ X : Mach, stepF u M = X → X.stack = f :: fs → (∀ d, stepF (wdU Ws u) (addL d (wst (f' :: fs') M)) = addL d (wst (f' :: fs') X)) → ∃ (c : Nat) (S'' : List MFrame), c ≤ 1024 ∧ SW u Ws (stepF u M).stack S'' ∧ ∀ (d : Int) (N : Nat), (c : Int) ≤ d → goF (wdU Ws u) (N + c + 1) (addL d (wst (f' :: fs') (wUp M))) = goF (wdU Ws u) N (addL (d - (c : Nat)) (wst S'' (stepF u M))) := fun X hX hXs hXd => one (f' :: fs') (by rw [hX, hXs]; exact hsr) fun d _ => by rw [hXd, hX]
      have go : ∀ k : Nat, k < b.term.to.length → stepF u M = { M with stack := followF u f (edgeAt b.term k) :: fs } → (∀ d, stepF (wdU Ws u) (addL d (wst (f' :: fs') M)) = { addL d (wst (f' :: fs') M) with stack := followF (wdU Ws u) f' (edgeAt b.term k) :: fs' }) → ∃ (c : Nat) (S'' : List MFrame), c ≤ 1024 ∧ SW u Ws (stepF u M).stack S'' ∧
          ∀ (d : Int) (N : Nat), (c : Int) ≤ d → goF (wdU Ws u) (N + c + 1) (addL d (wst (f' :: fs') (wUp M))) = goF (wdU Ws u) N (addL (d - (c : Nat)) (wst S'' (stepF u M))) := fun k hk hgo hpd => by
        obtain ⟨e, he⟩ := get_of_lt b.term.to k (by omega)
        have ee : edgeAt b.term k = e := by unfold edgeAt; rw [he]; rfl
        rw [ee] at hgo hpd
        have hem := List.mem_of_getElem? he
        obtain ⟨_, ⟨c, hc, _⟩, _⟩ := hT.edges e hem
        have hc2 := wd_block hW hF hc
        have hsm := ad_small hu hW hv hF hc
        have hblk : (blockAt u f.fn e.block).params = c.params := by
          unfold blockAt
          rw [hF]
          show ((F.blocks[e.block.toNat]?).getD default).params = _
          rw [hc]; rfl
        have hblk2 : (blockAt (wdU Ws u) f.fn e.block).params = c.params := by rw [hc2]
        obtain ⟨f1, hf1⟩ : ∃ f1 : MFrame, f1 = followF (wdU Ws u) f' e := ⟨_, rfl⟩
        have hf1f : f1.fn = f.fn := by rw [hf1]; exact hf.fn
        have hf1b : f1.block = e.block := by rw [hf1]; rfl
        have hf1a : f1.at_ = 0 := by rw [hf1]; rfl
        have hf1v : ∀ x, x < freshF F.blocks → vget f1.vals x = vget (followF u f e).vals x := by
          rw [hf1]
          show ∀ x, x < freshF F.blocks → vget (vputs f'.vals (blockAt (wdU Ws u) f'.fn e.block).params (takeF f'.vals e.args)) x = vget (vputs f.vals (blockAt u f.fn e.block).params (takeF f.vals e.args)) x
          rw [hf.fn, hblk2, hblk, agW_take hvals (fun a ha => by have := hr.eargs b hbm e hem a ha; omega)]
          exact agW_puts hvals
        have had : adU u Ws f.fn e.block = addsP (gW Ws f.fn) (nxAt (gW Ws f.fn) (freshF F.blocks) F.blocks e.block.toNat) c.params := by
          unfold adU frF
          rw [fU_get hF, paramsOf_get hc]
        have hfw : WFr u Ws (followF u f e) := by
          cases hwst with
          | cons hf9 _ _ => exact fr_follow hu hW hf9 hF hb hem hc
        have hplt : ∀ x ∈ c.params, x < freshF F.blocks := fun x hx => (fresh_ok hok).2.2 x (List.mem_flatMap.2 ⟨c, List.mem_of_getElem? hc, List.mem_append_left _ hx⟩)
        rw [had] at hc2 hsm
        obtain ⟨v2, hv2, hrun⟩ := add_run (p := wdU Ws u) (M := M) ho hs (c := { c with ins := addsP (gW Ws f.fn) (nxAt (gW Ws f.fn) (freshF F.blocks) F.blocks e.block.toNat) c.params ++ c.ins }) (rest := c.ins) (W := gW Ws f.fn) (fr := freshF F.blocks) c.params (nxAt (gW Ws f.fn) (freshF F.blocks) F.blocks e.block.toNat) f1 fs' (by rw [hf1f, hf1b]; exact hc2) (by rw [hf1a]; exact Int.le_refl _) (nxAt_le _ _ _ _) hplt (fun x hx hq => by rw [hf1v x (hplt x hx)]; exact hfw.word x hq) (by rw [hf1a]; rfl)
        refine ⟨(addsP (gW Ws f.fn) (nxAt (gW Ws f.fn) (freshF F.blocks) F.blocks e.block.toNat) c.params).length, { f1 with at_ := f1.at_ + ((addsP (gW Ws f.fn) (nxAt (gW Ws f.fn) (freshF F.blocks) F.blocks e.block.toNat) c.params).length : Nat), vals := v2 } :: fs', hsm, ?_, fun d N hd => ?_⟩
        · rw [hgo]
          refine .cons ⟨hf1f, hf1b, by show f1.to = f.to; rw [hf1]; exact hf.to, ?_, ?_⟩ hfs
          · show f1.at_ + _ = 0 + ((adU u Ws f.fn e.block).length : Nat)
            rw [had, hf1a]
          · show ∀ x, x < frF u f.fn → vget v2 x = vget (followF u f e).vals x
            rw [efr]
            exact fun x hx => (hv2 x hx).trans (hf1v x hx)
        · rw [wfirst ho hs (by omega), hpd d, ← hf1, hgo]
          exact hrun d N (by omega)
      have harg : b.term.kind ≠ 1 ∧ b.term.kind ≠ 4 → vget f'.vals b.term.arg = vget f.vals b.term.arg := fun hk => hvals _ (by have := hr.arg b hbm hk; omega)
      unfold termF at hstep hstep3
      by_cases k4 : b.term.kind = 4
      · rw [if_pos k4] at hstep
        exact same _ hstep hst fun d => by rw [hstep3, if_pos k4]; rfl
      · rw [if_neg k4] at hstep
        by_cases k1 : b.term.kind = 1
        · rw [if_pos k1] at hstep
          exact go 0 (hT.one k1) hstep fun d => by rw [hstep3, if_neg k4, if_pos k1]
        · rw [if_neg k1] at hstep
          by_cases k0 : b.term.kind = 0
          · rw [if_pos k0] at hstep
            have hpd : ∀ d, stepF (wdU Ws u) (addL d (wst (f' :: fs') M)) = leaveF f' (vget f.vals b.term.arg) fs' (addL d (wst (f' :: fs') M)) := fun d => by rw [hstep3, if_neg k4, if_neg k1, if_pos k0, harg ⟨k1, k4⟩]
            cases hfs with
            | nil =>
              refine one [] (by rw [hstep]; exact .nil) fun d _ => ?_
              rw [hpd, hstep]
              rfl
            | @cons g g' gs gs' hg hgs =>
              refine one ({ g' with vals := vput g'.vals f'.to (vget f.vals b.term.arg) } :: gs') (by rw [hstep]; exact .cons ⟨hg.fn, hg.block, hg.to, hg.at_, fun x hx => by show vget (vput g'.vals f'.to _) x = vget (vput g.vals f.to _) x; rw [hf.to, vget_vput, vget_vput, hg.vals x hx]⟩ hgs) fun d _ => ?_
              rw [hpd, hstep]
              rfl
          · rw [if_neg k0] at hstep
            by_cases kw : (vget f.vals b.term.arg).kind ≠ 0
            · rw [if_pos kw] at hstep
              exact same _ hstep hst fun d => by rw [hstep3, if_neg k4, if_neg k1, if_neg k0, harg ⟨k1, k4⟩, if_pos kw]; rfl
            · rw [if_neg kw] at hstep
              have hch := choice_lt hT (vget f.vals b.term.arg).n k0 k1 k4
              exact go _ (by omega) hstep fun d => by rw [hstep3, if_neg k4, if_neg k1, if_neg k0, harg ⟨k1, k4⟩, if_neg kw]
    · -- an instruction
      rw [if_neg h1] at hstep
      obtain ⟨i, hi⟩ := get_of_lt b.ins f.at_.toNat (by omega)
      have him := List.mem_of_getElem? hi
      rw [hi, Option.getD_some] at hstep
      have hci : (pre ++ b.ins)[f'.at_.toNat]? = some i := by
        rw [List.getElem?_append_right (by rw [hat]; omega), hat, show (f.at_ + (pre.length : Nat)).toNat - pre.length = f.at_.toNat by omega]
        exact hi
      have hstep3 : ∀ d, stepF (wdU Ws u) (addL d (wst (f' :: fs') M)) = insF (wdU Ws u) { f' with at_ := f'.at_ + 1 } i fs' (addL d (wst ({ f' with at_ := f'.at_ + 1 } :: fs') M)) := fun d => by
        rw [hstep2, if_neg (by have := (List.getElem?_eq_some_iff.1 hci).1; omega), hci]
        rfl
      have hargs : takeF f'.vals i.args = takeF f.vals i.args := agW_take hvals fun a ha => by have := hr.args b hbm i him a ha; omega
      have hf1 : FW u Ws { f with at_ := f.at_ + 1 } { f' with at_ := f'.at_ + 1 } := ⟨hf.fn, hf.block, hf.to, by show f'.at_ + 1 = f.at_ + 1 + ((adU u Ws f.fn f.block).length : Nat); rw [hf.at_]; omega, hf.vals⟩
      have ent : ∀ n to, stepF u M = enterF u n (takeF f.vals i.args) to (wst ({ f with at_ := f.at_ + 1 } :: fs) M) → (∀ d, stepF (wdU Ws u) (addL d (wst (f' :: fs') M)) = enterF (wdU Ws u) n (takeF f.vals i.args) to (addL d (wst ({ f' with at_ := f'.at_ + 1 } :: fs') M))) → ∃ (c : Nat) (S'' : List MFrame), c ≤ 1024 ∧ SW u Ws (stepF u M).stack S'' ∧
            ∀ (d : Int) (N : Nat), (c : Int) ≤ d → goF (wdU Ws u) (N + c + 1) (addL d (wst (f' :: fs') (wUp M))) = goF (wdU Ws u) N (addL (d - (c : Nat)) (wst S'' (stepF u M))) := fun n to hv9 hpd => by
        refine one (entered u n (takeF f.vals i.args) to :: { f' with at_ := f'.at_ + 1 } :: fs') ?_ fun d _ => ?_
        · rw [hv9]
          refine .cons ⟨rfl, rfl, rfl, ?_, fun x _ => rfl⟩ (.cons hf1 hfs)
          show (0 : Int) = 0 + ((adU u Ws n 0).length : Nat)
          rw [ad_zero hW]
          rfl
        · rw [hpd, hv9]
          unfold enterF
          rw [wd_entered hu hW]
          rfl
      unfold insF at hstep hstep3
      dsimp only at hstep hstep3
      by_cases o13 : i.op = 13
      · rw [if_pos o13] at hstep
        exact ent _ _ hstep fun d => by rw [hstep3, hargs, if_pos o13]
      · rw [if_neg o13] at hstep
        by_cases o14 : i.op = 14
        · rw [if_pos o14] at hstep
          by_cases hc : (argAt (takeF f.vals i.args) 0).kind = 2 ∧ (entryOf u (argAt (takeF f.vals i.args) 0).n).length = (takeF f.vals i.args).length
          · rw [if_pos hc] at hstep
            exact ent _ _ hstep fun d => by rw [hstep3, hargs, if_neg o13, if_pos o14, wd_entry hW, if_pos hc]
          · rw [if_neg hc] at hstep
            refine one ({ f' with at_ := f'.at_ + 1 } :: fs') (by rw [hstep]; exact .cons hf1 hfs) fun d _ => ?_
            rw [hstep3, hargs, if_neg o13, if_pos o14, wd_entry hW, if_neg hc, hstep]
            rfl
        · rw [if_neg o14] at hstep
          have e1 := exec_st i (takeF f.vals i.args) M ({ f with at_ := f.at_ + 1 } :: fs)
          rw [e1] at hstep
          rw [hstep] at hs2 hl2
          have hsx : (execF i (takeF f.vals i.args) M).1.short = false := by
            dsimp only at hs2
            split at hs2 <;> exact hs2
          have hlx : 0 ≤ (execF i (takeF f.vals i.args) M).1.left := by
            dsimp only at hl2
            split at hl2 <;> exact hl2
          have e2 := exec_st i (takeF f.vals i.args) M ({ f' with at_ := f'.at_ + 1 } :: fs')
          refine one ({ f' with at_ := f'.at_ + 1, vals := vput f'.vals i.to (execF i (takeF f.vals i.args) M).2.1 } :: fs') (by rw [hstep]; exact .cons ⟨hf1.fn, hf1.block, hf1.to, hf1.at_, fun x hx => by show vget (vput f'.vals _ _) x = vget (vput f.vals _ _) x; rw [vget_vput, vget_vput, hf.vals x hx]⟩ hfs) fun d hd => ?_
          have e3 := (exec_addL i (takeF f.vals i.args) (wst ({ f' with at_ := f'.at_ + 1 } :: fs') M) d hs (by rw [e2]; exact hsx) (by show 0 ≤ M.left + d; omega)).1 (by rw [e2]; show 0 ≤ (execF i (takeF f.vals i.args) M).1.left + d; omega)
          rw [hstep3, hargs, if_neg o13, if_neg o14, e3, e2, hstep]
          dsimp only
          by_cases hx : (execF i (takeF f.vals i.args) M).2.2 ≠ 0
          · rw [if_pos hx, if_pos hx]; rfl
          · rw [if_neg hx, if_neg hx]; rfl
theorem go_wd : ∀ (n : Nat) (M : Mach) (d : Int) (S' : List MFrame), M.short = false → M.over = false → Good u M → WMach u Ws M → (goF u n M).over = true → (goF u n M).short = false → SW u Ws M.stack S' → 1024 * M.left ≤ d → ∀ N : Nat, 1025 * M.left + 1 ≤ N → ∃ d' S'', goF (wdU Ws u) N (addL d (wst S' M)) = addL d' (wst S'' (goF u n M))
  | 0, M, d, S', hs, ho, hg, hw, hov, _, _, _, _, _ => by
    have hov : M.over = true := hov
    rw [ho] at hov
    cases hov
  | n + 1, M, d, S', hs, ho, hg, hw, hov, hsh, hS, hd, N, hN => by
    have hU := (unit_of hu).u
    cases hp : (payF 1 M).short with
    | true =>
      rw [goF_short ho n hp] at hsh
      rw [hp] at hsh
      cases hsh
    | false =>
      obtain ⟨e1, hl1⟩ := payF_ok hp
      rw [goF_step ho n hp, e1] at hov hsh ⊢
      have hg2 := good_step hU hg ho hl1
      have hM1 : MOk u { M with left := M.left - 1 } := by
        have := hg.1
        exact ⟨this.frames, this.heap, this.out, by show 0 ≤ M.left - 1; omega, by have h9 := this.left; show M.left - 1 + (M.stack.length : Int) ≤ 1000001; omega⟩
      have hw1 : WMach u Ws { M with left := M.left - 1 } := ⟨hw.st, hw.heap⟩
      have hs1 : ({ M with left := M.left - 1 } : Mach).short = false := hs
      have ho1 : ({ M with left := M.left - 1 } : Mach).over = false := ho
      have hup : wUp { M with left := M.left - 1 } = M := by
        unfold wUp
        show ({ M with left := M.left - 1 + 1 } : Mach) = M
        rw [show M.left - 1 + 1 = M.left by omega]
      have hS1 : SW u Ws ({ M with left := M.left - 1 } : Mach).stack S' := hS
      have hl : ({ M with left := M.left - 1 } : Mach).left = M.left - 1 := rfl
      generalize ({ M with left := M.left - 1 } : Mach) = M1 at hov hsh hg2 hM1 hw1 hs1 ho1 hup hS1 hl ⊢
      have hs2 : (stepF u M1).short = false := by
        cases hx : (stepF u M1).short with
        | false => rfl
        | true => rw [goF_over (step_short hs1 hx), hx] at hsh; cases hsh
      have hl0 := hg2.1.left0
      have hl2 := step_left u M1
      obtain ⟨c, S3, hc, hS3, hrun⟩ := step_wd hu hW hv hM1 hw1 hS1 ho1 hs1 hs2 hl0
      obtain ⟨N0, rfl⟩ : ∃ j, N = j + c + 1 := ⟨N - c - 1, by omega⟩
      rw [← hup, hrun d N0 (by omega)]
      cases ho2 : (stepF u M1).over with
      | true =>
        rw [goF_over ho2, goF_over (M := addL (d - (c : Nat)) (wst S3 (stepF u M1))) ho2]
        exact ⟨_, S3, rfl⟩
      | false => exact go_wd n _ _ S3 hs2 ho2 hg2 (wm_step hu hW hM1 hw1) hov hsh hS3 (by omega) N0 (by omega)
theorem wd_run (h : (runF u 1000).2.2 = 0) : ((runF (wdU Ws u) 1000000).2.2 = 0 → (runF (wdU Ws u) 1000000).1 = (runF u 1000).1) ∧ ((runF (wdU Ws u) 1000000).2.2 = 0 ∨ (runF (wdU Ws u) 1000000).2.2 = 13) := by
  have hU := (unit_of hu).u
  have hP := (unit_of hv).u
  rw [run_perform hu (by decide) (by decide)] at h ⊢
  rw [run_perform hv (by decide) (by decide)]
  rw [perform_eq] at h
  have hsh : (goF u ((1000 : Int).toNat + 1) (startF u 1000)).short = false := by
    cases hx : (goF u ((1000 : Int).toNat + 1) (startF u 1000)).short with
    | false => rfl
    | true => rw [hx, if_pos rfl] at h; cases h
  have hg := good_start hU (fuel := 1000) (by decide) (by decide)
  have hov : (goF u ((1000 : Int).toNat + 1) (startF u 1000)).over = true := goF_end hU _ _ hg (fun _ => rfl) (by show (1000 : Int) + 1 ≤ _; decide)
  have hmain := main_at hu
  have hw : WMach u Ws (startF u 1000) := by
    refine ⟨.cons (fr_entered hu hW (fun v hv => by cases hv) ⟨_, hmain⟩) (fun g gs h => by cases h) .nil, fun l hl => by cases hl⟩
  have hS : SW u Ws (startF u 1000).stack [entered u u.main [] 0] := by
    refine .cons ⟨rfl, rfl, rfl, ?_, fun x _ => rfl⟩ .nil
    show (0 : Int) = 0 + ((adU u Ws u.main 0).length : Nat)
    rw [ad_zero hW]
    rfl
  have key : ∀ b : Int, 1025000 ≤ b → ∃ d' S'', goF (wdU Ws u) (b.toNat + 1) (startF (wdU Ws u) b) = addL d' (wst S'' (goF u ((1000 : Int).toNat + 1) (startF u 1000))) := fun b hb => by
    have hst : startF (wdU Ws u) b = addL (b - 1000) (wst [entered u u.main [] 0] (startF u 1000)) := by
      unfold startF enterF
      rw [wd_entered hu hW]
      show ({ (⟨[], b, false, false, [], 0, 0, []⟩ : Mach) with stack := [entered u u.main [] 0] } : Mach) = { (⟨[], 1000, false, false, [], 0, 0, []⟩ : Mach) with stack := [entered u u.main [] 0], left := 1000 + (b - 1000) }
      rw [show 1000 + (b - 1000) = b by omega]
    rw [hst]
    exact go_wd hu hW hv ((1000 : Int).toNat + 1) (startF u 1000) (b - 1000) [entered u u.main [] 0] rfl rfl hg hw hov hsh hS (by show 1024 * (1000 : Int) ≤ b - 1000; omega) (b.toNat + 1) (by show 1025 * (1000 : Int) + 1 ≤ _; omega)
  refine ⟨fun hok => ?_, ?_⟩
  · rw [perform_eq] at hok ⊢
    rw [perform_eq, hsh]
    have hsh3 : (goF (wdU Ws u) ((1000000 : Int).toNat + 1) (startF (wdU Ws u) 1000000)).short = false := by
      cases hx : (goF (wdU Ws u) ((1000000 : Int).toNat + 1) (startF (wdU Ws u) 1000000)).short with
      | false => rfl
      | true => rw [hx, if_pos rfl] at hok; cases hok
    have hg3 := good_start hP (fuel := 1000000) (by decide) (by decide)
    have hov3 : (goF (wdU Ws u) ((1000000 : Int).toNat + 1) (startF (wdU Ws u) 1000000)).over = true := goF_end hP _ _ hg3 (fun _ => rfl) (by show (1000000 : Int) + 1 ≤ _; decide)
    have hl3 := (good_go hP (fuel := 1000000) (by decide) (by decide) ((1000000 : Int).toNat + 1)).1.left0
    have hadd := (go_addL (u := wdU Ws u) (d := 25000) _ _ rfl rfl hov3 hsh3 (by show (0 : Int) ≤ 1000000 + 25000; decide) ((1000000 + 25000 : Int).toNat + 1) (by show (1000000 : Int) + 25000 + 1 ≤ _; decide)).1 (by omega)
    rw [start_addL] at hadd
    obtain ⟨d', S'', hk⟩ := key (1000000 + 25000) (by decide)
    rw [hk] at hadd
    rw [hsh3]
    have q1 : (goF u ((1000 : Int).toNat + 1) (startF u 1000)).out = (goF (wdU Ws u) ((1000000 : Int).toNat + 1) (startF (wdU Ws u) 1000000)).out := (have q := congrArg Mach.out hadd; q)
    have q2 : (goF u ((1000 : Int).toNat + 1) (startF u 1000)).fin = (goF (wdU Ws u) ((1000000 : Int).toNat + 1) (startF (wdU Ws u) 1000000)).fin := (have q := congrArg Mach.fin hadd; q)
    have q3 : (goF u ((1000 : Int).toNat + 1) (startF u 1000)).value = (goF (wdU Ws u) ((1000000 : Int).toNat + 1) (startF (wdU Ws u) 1000000)).value := (have q := congrArg Mach.value hadd; q)
    show (⟨_, _, _⟩ : Out) = ⟨_, _, _⟩
    rw [← q1, ← q2, ← q3]
  · rw [perform_eq]
    split
    · exact .inr rfl
    · exact .inl rfl
end
end Go.SM
end
section
set_option linter.unusedVariables false
set_option linter.unusedSimpArgs false
namespace Go.SM
open Go.VL
def setB (W : List Bool) (x : Int × Bool) : List Bool := W.set x.1.toNat x.2
def setsB (l : List (Int × Bool)) (W : List Bool) : List Bool := l.foldl setB W
def asgP (k : Nat) (ps : List Int) : List (Int × Bool) := ps.map fun p => (p, decide ((k : Int) > 0))
def asgI (is : List SIns) : List (Int × Bool) := is.map fun i => (i.to, numF i.op)
def asgB (k : Nat) (b : SBlock) : List (Int × Bool) := asgP k b.params ++ asgI b.ins
def asgL : Nat → List SBlock → List (Int × Bool)
  | _, [] => []
  | k, b :: l => asgB k b ++ asgL (k + 1) l
def startW (f : SFunc) (n : Nat) : List Bool := setsB (asgL 0 f.blocks) (List.replicate n false)
theorem setsB_app (a b : List (Int × Bool)) (W : List Bool) : setsB (a ++ b) W = setsB b (setsB a W) := List.foldl_append ..
theorem setsB_len : ∀ (l : List (Int × Bool)) (W : List Bool), (setsB l W).length = W.length
  | [], W => rfl
  | x :: l, W => by
    show (setsB l (setB W x)).length = _
    rw [setsB_len l]
    exact List.length_set ..
theorem asgL_take : ∀ {bs : List SBlock} {j k : Nat} {b : SBlock}, bs[k]? = some b → asgL j (bs.take (k + 1)) = asgL j (bs.take k) ++ asgB (j + k) b
  | [], j, k, b, h => by simp at h
  | c :: l, j, 0, b, h => by
    have h : c = b := by simpa using h
    subst h
    show asgB j c ++ asgL (j + 1) (l.take 0) = [] ++ asgB j c
    rw [List.take_zero]
    show asgB j c ++ [] = _
    rw [List.append_nil]
    rfl
  | c :: l, j, k + 1, b, h => by
    have h : l[k]? = some b := by simpa using h
    rw [List.take_succ_cons, List.take_succ_cons, asgL, asgL, asgL_take h, List.append_assoc, show j + 1 + k = j + (k + 1) by omega]
theorem wAt_set {W : List Bool} {v : Int} {b : Bool} {x : Int} (h0 : 0 ≤ v) (hl : v.toNat < W.length) : wAt (W.set v.toNat b) x = if x = v then b else wAt W x := by
  unfold wAt
  by_cases hx : x = v
  · subst hx
    rw [if_pos rfl, List.getD_eq_getElem?_getD, List.getElem?_set_self hl]
    simp [h0]
  · rw [if_neg hx, List.getD_eq_getElem?_getD, List.getD_eq_getElem?_getD]
    by_cases h1 : 0 ≤ x
    · rw [List.getElem?_set, if_neg (by omega)]
    · simp [h1]
theorem setsB_out {x : Int} : ∀ {l : List (Int × Bool)} {W : List Bool}, (∀ y ∈ l, 0 ≤ y.1 ∧ y.1.toNat < W.length) → x ∉ l.map (·.1) → wAt (setsB l W) x = wAt W x
  | [], W, _, _ => rfl
  | y :: l, W, h, hx => by
    obtain ⟨h1, h2⟩ := h y (List.mem_cons_self ..)
    rw [List.map_cons, List.mem_cons, not_or] at hx
    have h3 := setsB_out (x := x) (l := l) (W := setB W y) (fun z hz => by
      have := h z (List.mem_cons_of_mem _ hz)
      unfold setB
      rw [List.length_set]
      exact this) hx.2
    show wAt (setsB l (setB W y)) x = _
    rw [h3]
    unfold setB
    rw [wAt_set h1 h2, if_neg hx.1]
theorem setsB_at {x : Int × Bool} : ∀ {l : List (Int × Bool)} {W : List Bool}, (∀ y ∈ l, 0 ≤ y.1 ∧ y.1.toNat < W.length) → (l.map (·.1)).Nodup → x ∈ l → wAt (setsB l W) x.1 = x.2
  | [], W, _, _, hx => by cases hx
  | y :: l, W, h, hn, hx => by
    obtain ⟨h1, h2⟩ := h y (List.mem_cons_self ..)
    rw [List.map_cons, List.nodup_cons] at hn
    have hl : ∀ z ∈ l, 0 ≤ z.1 ∧ z.1.toNat < (setB W y).length := fun z hz => by
      have := h z (List.mem_cons_of_mem _ hz)
      unfold setB
      rw [List.length_set]
      exact this
    show wAt (setsB l (setB W y)) x.1 = _
    rcases List.mem_cons.1 hx with rfl | hx
    · rw [setsB_out hl hn.1]
      unfold setB
      rw [wAt_set h1 h2, if_pos rfl]
    · exact setsB_at hl hn.2 hx
theorem asgL_keys : ∀ (j : Nat) (bs : List SBlock), (asgL j bs).map (·.1) = valuesL bs
  | j, [] => rfl
  | j, b :: l => by
    have e : valuesL (b :: l) = (b.params ++ b.ins.map (·.to)) ++ valuesL l := by simp [valuesL]
    rw [e, asgL, List.map_append, asgL_keys (j + 1) l]
    congr 1
    unfold asgB asgP asgI
    rw [List.map_append, List.map_map, List.map_map]
    show b.params.map id ++ _ = _
    rw [List.map_id]
    rfl
theorem asgL_mem {x : Int × Bool} : ∀ {j : Nat} {bs : List SBlock} {k : Nat} {b : SBlock}, bs[k]? = some b → x ∈ asgB (j + k) b → x ∈ asgL j bs
  | j, [], k, b, h, _ => by simp at h
  | j, c :: l, 0, b, h, hx => by
    have h : c = b := by simpa using h
    subst h
    exact List.mem_append_left _ hx
  | j, c :: l, k + 1, b, h, hx => by
    have h : l[k]? = some b := by simpa using h
    exact List.mem_append_right _ (asgL_mem h (by rw [show j + 1 + k = j + (k + 1) by omega]; exact hx))
def LeW (W W0 : List Bool) : Prop := W.length = W0.length ∧ ∀ x, wAt W x = true → wAt W0 x = true
def cntW (W : List Bool) : Nat := W.count true
def b2n (b : Bool) : Nat := if b = true then 1 else 0
theorem cnt_set : ∀ {W : List Bool} {k : Nat}, W[k]? = some true → cntW (W.set k false) + 1 = cntW W
  | [], k, h => by simp at h
  | b :: W, 0, h => by
    have h : b = true := by simpa using h
    subst h
    unfold cntW
    rw [List.set_cons_zero, List.count_cons_self, List.count_cons_of_ne (by decide)]
  | b :: W, k + 1, h => by
    have h : W[k]? = some true := by simpa using h
    have ih := cnt_set h
    unfold cntW at ih ⊢
    rw [List.set_cons_succ, List.count_cons, List.count_cons]
    omega
def okC (W : List Bool) (x : Int × Int) : Prop := wAt W x.1 = true → wAt W x.2 = true
def conE (bs : List SBlock) (e : SEdge) : List (Int × Int) := (paramsOf bs e.block).zip e.args
def conK (bs : List SBlock) (k : Nat) : List (Int × Int) := (toAt bs k).flatMap (conE bs)
def conR (bs : List SBlock) (l : List Nat) : List (Int × Int) := l.flatMap (conK bs)
structure PassOk (W0 : List Bool) (c : Nat) (W : List Bool) (a : Bool) (L : List (Int × Int)) : Prop where
  le : LeW W W0
  cnt : cntW W + b2n a ≤ c
  con : a = false → ∀ x ∈ L, okC W x
theorem pass_nil {W0 W : List Bool} (h : LeW W W0) : PassOk W0 (cntW W) W false [] := ⟨h, Nat.le_refl _, fun _ x hx => by cases hx⟩
theorem pass_keep {W0 W : List Bool} {c : Nat} {a : Bool} {L : List (Int × Int)} {x : Int × Int} (h : PassOk W0 c W a L) (hx : okC W x) : PassOk W0 c W a (L ++ [x]) := ⟨h.le, h.cnt, fun ha y hy => by
  rcases List.mem_append.1 hy with hy | hy
  · exact h.con ha y hy
  · rw [List.mem_singleton.1 hy]; exact hx⟩
theorem wAt_get {W : List Bool} {v : Int} (h : wAt W v = true) : 0 ≤ v ∧ W[v.toNat]? = some true := by
  unfold wAt at h
  rw [Bool.and_eq_true, decide_eq_true_eq, List.getD_eq_getElem?_getD] at h
  refine ⟨h.1, ?_⟩
  cases hx : W[v.toNat]? with
  | none => rw [hx] at h; exact absurd h.2 (by decide)
  | some b => rw [hx] at h; exact congrArg some h.2
theorem pass_set {W0 W : List Bool} {c : Nat} {a : Bool} {L : List (Int × Int)} {v : Int} (h : PassOk W0 c W a L) (hv : wAt W v = true) (L' : List (Int × Int)) : PassOk W0 c (W.set v.toNat false) true L' := by
  obtain ⟨h0, hg⟩ := wAt_get hv
  have hl := (List.getElem?_eq_some_iff.1 hg).1
  refine ⟨⟨by rw [List.length_set]; exact h.le.1, fun x hx => ?_⟩, ?_, fun ha => by cases ha⟩
  · rw [wAt_set h0 hl] at hx
    split at hx
    · cases hx
    · exact h.le.2 x hx
  · have h1 := cnt_set hg
    have h2 := h.cnt
    show cntW _ + 1 ≤ c
    omega
theorem pass_con {W0 W : List Bool} {c : Nat} {a : Bool} {L L' : List (Int × Int)} (h : PassOk W0 c W a L) (e : L = L') : PassOk W0 c W a L' := e ▸ h
theorem start_len (f : SFunc) (n : Nat) : (startW f n).length = n := by
  unfold startW
  rw [setsB_len, List.length_replicate]
theorem le_refl_W (W : List Bool) : LeW W W := ⟨rfl, fun _ h => h⟩
theorem words_ok {f : SFunc} {W : List Bool} {n : Nat} (h0 : funcF f = 0) (hn : freshF f.blocks = (n : Int)) (hl : LeW W (startW f n)) (hc : ∀ x ∈ conR f.blocks (reachN f), okC W x) : WordsOk f W := by
  have hok := func_ok h0
  have fi := func_iff.1 h0
  have hkeys : (asgL 0 f.blocks).map (·.1) = keys (defsL 0 f.blocks) := by
    rw [asgL_keys]
    have : keys (defsL 0 f.blocks) = valuesL f.blocks := dkeys_defsL ..
    exact this.symm
  have hr : ∀ y ∈ asgL 0 f.blocks, 0 ≤ y.1 ∧ y.1.toNat < (List.replicate n false).length := fun y hy => by
    have hm : y.1 ∈ valuesL f.blocks := by
      rw [← asgL_keys 0]
      exact List.mem_map.2 ⟨y, hy, rfl⟩
    have h1 := values_keys hok y.1 hm
    have h2 := (fresh_ok hok).2.2 y.1 hm
    rw [List.length_replicate]
    omega
  have hat : ∀ x ∈ asgL 0 f.blocks, wAt (startW f n) x.1 = x.2 := fun x hx => setsB_at hr (by rw [hkeys]; exact fi.kok.nodup) hx
  refine ⟨fun p hp => ?_, fun b hb i hi hw => ?_, fun k b c e hk hb he hc2 m v a hv ha hw => ?_⟩
  · obtain ⟨b, hb⟩ := get_of_lt f.blocks 0 (by have := hok.pos; omega)
    rw [paramsOf_get (k := 0) (b := b) hb] at hp
    have h1 := hat (p, decide (((0 : Nat) : Int) > 0)) (asgL_mem (j := 0) hb (List.mem_append_left _ (List.mem_map.2 ⟨p, hp, rfl⟩)))
    cases hx : wAt W p with
    | false => rfl
    | true =>
      have h2 := hl.2 p hx
      rw [h1] at h2
      exact absurd (show decide (((0 : Nat) : Int) > 0) = true from h2) (by decide)
  · obtain ⟨k, hk⟩ := List.getElem?_of_mem hb
    have h1 := hat (i.to, numF i.op) (asgL_mem (j := 0) hk (List.mem_append_right _ (List.mem_map.2 ⟨i, hi, rfl⟩)))
    have h2 := hl.2 i.to hw
    rw [h1] at h2
    exact h2
  · refine hc (v, a) (List.mem_flatMap.2 ⟨k, (reachN_mem (order_ok hok.pos hok.edges)).2 hk, List.mem_flatMap.2 ⟨e, by rw [toAt_get hb]; exact he, ?_⟩⟩) hw
    unfold conE
    rw [paramsOf_get hc2]
    exact List.mem_of_getElem? (List.getElem?_zip_eq_some.2 ⟨hv, ha⟩)
theorem rowB_get {W : List Bool} {v : Int} (h0 : 0 ≤ v) (hl : v.toNat < W.length) : (W.map V.bool)[v.toNat]? = some (V.bool (wAt W v)) := by
  rw [List.getElem?_map, List.getElem?_eq_getElem hl]
  show some (V.bool W[v.toNat]) = _
  unfold wAt
  rw [List.getD_eq_getElem?_getD, List.getElem?_eq_getElem hl]
  simp [h0]
theorem rowB_set (l : List (Int × Bool)) (W : List Bool) (v : Int) (c : Bool) : ((setsB l W).map V.bool).set v.toNat (V.bool c) = (setsB (l ++ [(v, c)]) W).map V.bool := by
  rw [setsB_app, ← List.map_set]
  rfl
theorem asgP_snoc {k j : Nat} {ps : List Int} {v : Int} (h : ps[j]? = some v) : asgP k (ps.take (j + 1)) = asgP k (ps.take j) ++ [(v, decide ((k : Int) > 0))] := by
  rw [take_snoc h]
  exact List.map_append
theorem asgI_snoc {j : Nat} {is : List SIns} {i : SIns} (h : is[j]? = some i) : asgI (is.take (j + 1)) = asgI (is.take j) ++ [(i.to, numF i.op)] := by
  rw [take_snoc h]
  exact List.map_append
theorem nxAt_succ (W : List Bool) : ∀ {bs : List SBlock} {k : Nat} {b : SBlock} (nx : Int), bs[k]? = some b → nxAt W nx bs (k + 1) = nxAt W nx bs k + ((addsP W (nxAt W nx bs k) b.params).length : Nat)
  | [], k, b, nx, h => by simp at h
  | c :: l, 0, b, nx, h => by
    have h : c = b := by simpa using h
    subst h
    rw [nxAt, nxAt]
    cases l <;> rfl
  | c :: l, k + 1, b, nx, h => by
    have h : l[k]? = some b := by simpa using h
    rw [nxAt, nxAt_succ W _ h, nxAt]
theorem addsP_app (W : List Bool) : ∀ (ps qs : List Int) (nx : Int), addsP W nx (ps ++ qs) = addsP W nx ps ++ addsP W (nx + ((addsP W nx ps).length : Nat)) qs
  | [], qs, nx => by
    show addsP W nx qs = [] ++ addsP W (nx + 0) qs
    rw [Int.add_zero]
    rfl
  | p :: ps, qs, nx => by
    rw [List.cons_append, addsP, addsP]
    split
    · rw [addsP_app W ps qs, List.cons_append, List.length_cons, show nx + 1 + ((addsP W (nx + 1) ps).length : Nat) = nx + (((addsP W (nx + 1) ps).length + 1 : Nat) : Int) by omega]
    · exact addsP_app W ps qs nx
theorem adds_snoc {W : List Bool} {ps : List Int} {j : Nat} {p nx : Int} (h : ps[j]? = some p) : addsP W nx (ps.take (j + 1)) = addsP W nx (ps.take j) ++ (if wAt W p = true then [addI (nx + ((addsP W nx (ps.take j)).length : Nat)) p] else []) := by
  rw [take_snoc h, addsP_app]
  congr 1
end Go.SM
end
section
set_option linter.unusedVariables false
set_option linter.unusedSimpArgs false
namespace Go.SM
open Go.VL
end Go.SM
end
section
set_option linter.unusedVariables false
set_option linter.unusedSimpArgs false
set_option linter.unusedSectionVars false
namespace Go.SM
open Go.VL
def reP (π : Nat → Nat) (b : SBlock) : SBlock := { b with term := { b.term with to := b.term.to.map fun e => ⟨((π e.block.toNat : Nat) : Int), e.args⟩ } }
structure PermOk (bs gs : List SBlock) (π : Nat → Nat) : Prop where
  perm : gs.Perm (bs.map (reP π))
  at_ : ∀ v b, bs[v]? = some b → gs[π v]? = some (reP π b)
  inj : ∀ v w, v < bs.length → w < bs.length → π v = π w → v = w
  surj : ∀ i, i < bs.length → ∃ v, v < bs.length ∧ π v = i
  zero : π 0 = 0
section
variable {bs gs : List SBlock} {π : Nat → Nat} (h : PermOk bs gs π)
include h
variable (hE : ∀ b ∈ bs, ∀ e ∈ b.term.to, 1 ≤ e.block ∧ e.block < bs.length)
include hE
end
end Go.SM
end
section
set_option linter.unusedVariables false
set_option linter.unusedSimpArgs false
namespace Go.SM
open Go.VL
end Go.SM
end
