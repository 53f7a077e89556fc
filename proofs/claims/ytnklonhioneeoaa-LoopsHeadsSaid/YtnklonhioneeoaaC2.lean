import Derived.Test.YtnklonhioneeoaaC1
set_option linter.unusedVariables false
set_option linter.unusedSimpArgs false
namespace Go.SM
open Go.VL
structure DState where
  seen : List Bool
  stack : List (Nat × Nat)
  out : List Nat
def toAt (bs : List SBlock) (b : Nat) : List SEdge := ((bs[b]?).map (·.term.to)).getD []
def Edge (bs : List SBlock) (p v : Nat) : Prop := ∃ x ∈ toAt bs p, x.block.toNat = v
def dfsStep (bs : List SBlock) (s : DState) : DState :=
  match s.stack with
  | [] => s
  | (b, e) :: st =>
    match (toAt bs b)[e]? with
    | none => ⟨s.seen, st, s.out ++ [b]⟩
    | some x => if s.seen[x.block.toNat]? = some false then ⟨s.seen.set x.block.toNat true, (x.block.toNat, 0) :: (b, e + 1) :: st, s.out⟩ else ⟨s.seen, (b, e + 1) :: st, s.out⟩
def dfsRun (bs : List SBlock) : Nat → DState → DState
  | 0, s => s
  | n + 1, s => if s.stack = [] then s else dfsRun bs n (dfsStep bs s)
def dfsStart (n : Nat) : DState := ⟨(List.replicate n false).set 0 true, [(0, 0)], []⟩
def postF (bs : List SBlock) : List Nat := (dfsRun bs (edgesN bs + bs.length) (dfsStart bs.length)).out
def orderF (bs : List SBlock) : List Nat := (postF bs).reverse
theorem toAt_get {bs : List SBlock} {k : Nat} {b : SBlock} (h : bs[k]? = some b) : toAt bs k = b.term.to := by rw [toAt, h]; rfl
def cost (bs : List SBlock) (k : Nat) : Nat := (toAt bs k).length + 1
def unseenW (bs : List SBlock) : Nat → List Bool → Nat
  | _, [] => 0
  | k, s :: l => (if s then 0 else cost bs k) + unseenW bs (k + 1) l
def stackW (bs : List SBlock) : List (Nat × Nat) → Nat
  | [] => 0
  | (b, e) :: st => (cost bs b - e) + stackW bs st
def dfsW (bs : List SBlock) (s : DState) : Nat := unseenW bs 0 s.seen + stackW bs s.stack
theorem unseen_set (bs : List SBlock) : ∀ (l : List Bool) (k n : Nat), l[n]? = some false → unseenW bs k (l.set n true) + cost bs (k + n) = unseenW bs k l
  | [], k, n, h => by simp at h
  | s :: l, k, 0, h => by
    simp at h
    subst h
    simp [unseenW]
    omega
  | s :: l, k, n + 1, h => by
    simp at h
    have := unseen_set bs l (k + 1) n h
    simp only [List.set_cons_succ, unseenW]
    rw [show k + (n + 1) = k + 1 + n by omega]
    omega
structure DfsInv0 (bs : List SBlock) (s : DState) : Prop where
  len : s.seen.length = bs.length
  stk : ∀ x ∈ s.stack, x.1 < bs.length ∧ x.2 ≤ (toAt bs x.1).length ∧ s.seen[x.1]? = some true
theorem step_w {bs : List SBlock} {s : DState} (h : DfsInv0 bs s) (hne : s.stack ≠ []) : dfsW bs (dfsStep bs s) + 1 = dfsW bs s := by
  unfold dfsStep
  split
  · rename_i he; exact absurd he hne
  · rename_i b e st hs
    have hb := h.stk (b, e) (by rw [hs]; exact List.mem_cons_self ..)
    dsimp only at hb
    split
    · rename_i hn
      have : e = (toAt bs b).length := by
        have := List.getElem?_eq_none_iff.1 hn
        omega
      unfold dfsW
      rw [hs]
      simp only [stackW, cost]
      omega
    · rename_i x hx
      have hlt := (List.getElem?_eq_some_iff.1 hx).1
      split
      · rename_i hu
        have := unseen_set bs s.seen 0 _ hu
        unfold dfsW
        rw [hs]
        simp only [stackW]
        rw [Nat.zero_add] at this
        have hc : cost bs b = (toAt bs b).length + 1 := rfl
        omega
      · unfold dfsW
        rw [hs]
        simp only [stackW, cost]
        omega
def StackOk (bs : List SBlock) : List (Nat × Nat) → Prop
  | [] => True
  | [x] => x.1 = 0
  | x :: y :: st => Edge bs y.1 x.1 ∧ StackOk bs (y :: st)
def seenB (s : DState) (v : Nat) : Prop := s.seen[v]? = some true
structure DfsInv (bs : List SBlock) (s : DState) : Prop extends DfsInv0 bs s where
  out : ∀ v ∈ s.out, v < bs.length ∧ seenB s v
  nodup : (s.stack.map (·.1) ++ s.out).Nodup
  cover : ∀ v, seenB s v → v ∈ s.stack.map (·.1) ∨ v ∈ s.out
  closedO : ∀ v ∈ s.out, ∀ x ∈ toAt bs v, seenB s x.block.toNat
  closedS : ∀ y ∈ s.stack, ∀ i x, i < y.2 → (toAt bs y.1)[i]? = some x → seenB s x.block.toNat
  chain : StackOk bs s.stack
  par : ∀ (i v : Nat), s.out[i]? = some v → v ≠ 0 → ∃ p, Edge bs p v ∧ (p ∈ s.stack.map (·.1) ∨ ∃ j, i < j ∧ s.out[j]? = some p)
  root : s.stack = [] → ∃ l, s.out = l ++ [0]
theorem StackOk.tail {bs : List SBlock} {x : Nat × Nat} : ∀ {st : List (Nat × Nat)}, StackOk bs (x :: st) → StackOk bs st
  | [], _ => trivial
  | y :: st, h => h.2
theorem StackOk.head {bs : List SBlock} {x y : Nat × Nat} (he : x.1 = y.1) : ∀ {st : List (Nat × Nat)}, StackOk bs (x :: st) → StackOk bs (y :: st)
  | [], h => by
    have h : x.1 = 0 := h
    show y.1 = 0
    rw [← he]
    exact h
  | z :: st, h => ⟨by rw [← he]; exact h.1, h.2⟩
theorem seen_mono {l : List Bool} {n v : Nat} (h : l[v]? = some true) : (l.set n true)[v]? = some true := by
  rw [List.getElem?_set]
  split
  · rename_i e; subst e; rw [if_pos (List.getElem?_eq_some_iff.1 h).1]
  · exact h
theorem step_inv {bs : List SBlock} {s : DState} (hE : ∀ b ∈ bs, ∀ e ∈ b.term.to, 1 ≤ e.block ∧ e.block < bs.length) (h : DfsInv bs s) : DfsInv bs (dfsStep bs s) := by
  unfold dfsStep
  split
  · exact h
  · rename_i b e st hs
    have hb := h.stk (b, e) (by rw [hs]; exact List.mem_cons_self ..)
    dsimp only at hb
    have hnd := h.nodup
    rw [hs] at hnd
    have hch := h.chain
    rw [hs] at hch
    split
    · rename_i hn
      have hee : (toAt bs b).length ≤ e := List.getElem?_eq_none_iff.1 hn
      refine ⟨⟨h.len, fun x hx => h.stk x (by rw [hs]; exact List.mem_cons_of_mem _ hx)⟩, ?_, ?_, ?_, ?_, ?_, hch.tail, ?_, ?_⟩
      · intro v hv
        rcases List.mem_append.1 hv with hv | hv
        · exact h.out v hv
        · rw [List.mem_singleton.1 hv]; exact ⟨hb.1, hb.2.2⟩
      · dsimp only
        rw [← List.append_assoc]
        rw [List.map_cons, List.cons_append] at hnd
        have hp : ((b, e).1 :: (st.map (·.1) ++ s.out)).Perm (st.map (·.1) ++ s.out ++ [b]) := (List.perm_append_singleton _ _).symm
        exact hp.nodup_iff.1 hnd
      · intro v hv
        rcases h.cover v hv with hv | hv
        · rw [hs] at hv
          rcases List.mem_cons.1 hv with rfl | hv
          · exact .inr (List.mem_append_right _ (List.mem_singleton.2 rfl))
          · exact .inl hv
        · exact .inr (List.mem_append_left _ hv)
      · intro v hv x hx
        rcases List.mem_append.1 hv with hv | hv
        · exact h.closedO v hv x hx
        · have hvb := List.mem_singleton.1 hv
          subst hvb
          obtain ⟨i, hi⟩ := List.getElem?_of_mem hx
          exact h.closedS (v, e) (by rw [hs]; exact List.mem_cons_self ..) i x (by have := (List.getElem?_eq_some_iff.1 hi).1; show i < e; omega) hi
      · exact fun y hy => h.closedS y (by rw [hs]; exact List.mem_cons_of_mem _ hy)
      · intro i v hi h0
        dsimp only at hi ⊢
        by_cases hlt : i < s.out.length
        · rw [List.getElem?_append_left hlt] at hi
          obtain ⟨p, hp1, hp2⟩ := h.par i v hi h0
          refine ⟨p, hp1, ?_⟩
          rcases hp2 with hp2 | ⟨j, hj, hj2⟩
          · rw [hs] at hp2
            rcases List.mem_cons.1 hp2 with rfl | hp2
            · exact .inr ⟨s.out.length, hlt, by rw [List.getElem?_append_right (Nat.le_refl _)]; simp⟩
            · exact .inl hp2
          · exact .inr ⟨j, hj, by rw [List.getElem?_append_left (List.getElem?_eq_some_iff.1 hj2).1]; exact hj2⟩
        · rw [List.getElem?_append_right (by omega)] at hi
          have : i - s.out.length = 0 := by
            have := (List.getElem?_eq_some_iff.1 hi).1
            simp at this
            omega
          rw [this] at hi
          simp at hi
          subst hi
          cases st with
          | nil => exact absurd hch h0
          | cons y st => exact ⟨y.1, hch.1, .inl (List.mem_map.2 ⟨y, List.mem_cons_self .., rfl⟩)⟩
      · intro hst
        dsimp only at hst
        subst hst
        have hb0 : b = 0 := hch
        exact ⟨s.out, by rw [hb0]⟩
    · rename_i x hx
      have hlt := (List.getElem?_eq_some_iff.1 hx).1
      have hxm := List.mem_of_getElem? hx
      have hxn : x.block.toNat < bs.length := by
        obtain ⟨bl, hbl⟩ : ∃ bl, bs[b]? = some bl := ⟨_, List.getElem?_eq_getElem hb.1⟩
        rw [toAt_get hbl] at hxm
        have := hE bl (List.mem_of_getElem? hbl) x hxm
        omega
      split
      · rename_i hu
        have hns : ∀ v, seenB s v → v ≠ x.block.toNat := fun v hv e => by
          subst e
          unfold seenB at hv
          rw [hu] at hv
          cases hv
        have hnew : (s.seen.set x.block.toNat true)[x.block.toNat]? = some true := by rw [List.getElem?_set, if_pos rfl, if_pos (by rw [h.len]; exact hxn)]
        refine ⟨⟨by rw [List.length_set]; exact h.len, ?_⟩, ?_, ?_, ?_, ?_, ?_, ?_, ?_, ?_⟩
        · intro y hy
          rcases List.mem_cons.1 hy with rfl | hy
          · exact ⟨hxn, Nat.zero_le _, hnew⟩
          · rcases List.mem_cons.1 hy with rfl | hy
            · exact ⟨hb.1, hlt, seen_mono hb.2.2⟩
            · have := h.stk y (by rw [hs]; exact List.mem_cons_of_mem _ hy)
              exact ⟨this.1, this.2.1, seen_mono this.2.2⟩
        · exact fun v hv => ⟨(h.out v hv).1, seen_mono (h.out v hv).2⟩
        · dsimp only
          rw [List.map_cons, List.map_cons, List.cons_append]
          refine List.nodup_cons.2 ⟨fun hm => ?_, hnd⟩
          have hsn : seenB s x.block.toNat := by
            rcases List.mem_append.1 hm with hm | hm
            · rcases List.mem_cons.1 hm with e1 | hm
              · have e1 : x.block.toNat = b := e1
                rw [e1]; exact hb.2.2
              · obtain ⟨y, hy, hy2⟩ := List.mem_map.1 hm
                have hy2 : y.1 = x.block.toNat := hy2
                rw [← hy2]
                exact (h.stk y (by rw [hs]; exact List.mem_cons_of_mem _ hy)).2.2
            · exact (h.out _ hm).2
          exact hns _ hsn rfl
        · intro v hv
          unfold seenB at hv
          dsimp only at hv ⊢
          by_cases hvx : v = x.block.toNat
          · subst hvx; exact .inl (List.mem_cons_self ..)
          · rw [List.getElem?_set_ne (Ne.symm hvx)] at hv
            rcases h.cover v hv with hc | hc
            · rw [hs] at hc
              exact .inl (List.mem_cons_of_mem _ hc)
            · exact .inr hc
        · exact fun v hv y hy => seen_mono (h.closedO v hv y hy)
        · intro y hy i z hi hz
          rcases List.mem_cons.1 hy with rfl | hy
          · exact absurd hi (Nat.not_lt_zero _)
          · rcases List.mem_cons.1 hy with rfl | hy
            · dsimp only at hi hz
              by_cases hie : i = e
              · subst hie
                rw [hx] at hz
                injection hz with hz
                subst hz
                exact hnew
              · exact seen_mono (h.closedS (b, e) (by rw [hs]; exact List.mem_cons_self ..) i z (by show i < e; omega) hz)
            · exact seen_mono (h.closedS y (by rw [hs]; exact List.mem_cons_of_mem _ hy) i z hi hz)
        · exact ⟨⟨x, hxm, rfl⟩, StackOk.head (x := (b, e)) (y := (b, e + 1)) rfl hch⟩
        · intro i v hi h0
          obtain ⟨p, hp1, hp2⟩ := h.par i v hi h0
          refine ⟨p, hp1, hp2.imp (fun hp2 => ?_) id⟩
          rw [hs] at hp2
          exact List.mem_cons_of_mem _ hp2
        · intro hst; cases hst
      · rename_i hu
        have hsx : seenB s x.block.toNat := by
          unfold seenB
          cases hv : s.seen[x.block.toNat]? with
          | none =>
            have := List.getElem?_eq_none_iff.1 hv
            rw [h.len] at this
            omega
          | some v =>
            cases v with
            | true => rfl
            | false => exact absurd hv hu
        refine ⟨⟨h.len, ?_⟩, h.out, ?_, ?_, h.closedO, ?_, ?_, ?_, ?_⟩
        · intro y hy
          rcases List.mem_cons.1 hy with rfl | hy
          · exact ⟨hb.1, hlt, hb.2.2⟩
          · exact h.stk y (by rw [hs]; exact List.mem_cons_of_mem _ hy)
        · exact hnd
        · intro v hv
          rcases h.cover v hv with hc | hc
          · rw [hs] at hc; exact .inl hc
          · exact .inr hc
        · intro y hy i z hi hz
          rcases List.mem_cons.1 hy with rfl | hy
          · dsimp only at hi hz
            by_cases hie : i = e
            · subst hie
              rw [hx] at hz
              injection hz with hz
              subst hz
              exact hsx
            · exact h.closedS (b, e) (by rw [hs]; exact List.mem_cons_self ..) i z (by show i < e; omega) hz
          · exact h.closedS y (by rw [hs]; exact List.mem_cons_of_mem _ hy) i z hi hz
        · exact StackOk.head (x := (b, e)) (y := (b, e + 1)) rfl hch
        · intro i v hi h0
          obtain ⟨p, hp1, hp2⟩ := h.par i v hi h0
          refine ⟨p, hp1, hp2.imp (fun hp2 => ?_) id⟩
          rw [hs] at hp2
          exact hp2
        · intro hst; cases hst
theorem nodup_lt {l : List Nat} {n : Nat} (h : l.Nodup) (hr : ∀ v ∈ l, v < n) : l.length ≤ n := by
  have := h.length_le_of_subset (l₂ := List.range n) fun v hv => List.mem_range.2 (hr v hv)
  simpa using this
theorem dfs_small {bs : List SBlock} {s : DState} (h : DfsInv bs s) : s.stack.length ≤ bs.length ∧ s.out.length ≤ bs.length := by
  have h1 := (List.nodup_append.1 h.nodup).1
  have h2 := (List.nodup_append.1 h.nodup).2.1
  have := nodup_lt h1 (n := bs.length) fun v hv => by
    obtain ⟨x, hx, rfl⟩ := List.mem_map.1 hv
    exact (h.stk x hx).1
  exact ⟨by simpa using this, nodup_lt h2 fun v hv => (h.out v hv).1⟩
theorem start_inv {bs : List SBlock} (h0 : 0 < bs.length) : DfsInv bs (dfsStart bs.length) := by
  have hs : (dfsStart bs.length).seen[0]? = some true := by
    show ((List.replicate bs.length false).set 0 true)[0]? = some true
    rw [List.getElem?_set, if_pos rfl, if_pos (by simpa using h0)]
  refine ⟨⟨by simp [dfsStart], fun x hx => ?_⟩, fun v hv => (by cases hv), by simp [dfsStart], fun v hv => ?_, fun v hv => (by cases hv), fun y hy i x hi => ?_, rfl, fun i v hi => (by simp [dfsStart] at hi), fun h => (by cases h)⟩
  · have hx := List.mem_singleton.1 hx
    subst hx
    exact ⟨h0, Nat.zero_le _, hs⟩
  · by_cases hv0 : v = 0
    · subst hv0; exact .inl (List.mem_cons_self ..)
    · unfold seenB at hv
      have : ((List.replicate bs.length false).set 0 true)[v]? = some true := hv
      rw [List.getElem?_set_ne (Ne.symm hv0), List.getElem?_replicate] at this
      split at this <;> cases this
  · have hy := List.mem_singleton.1 hy
    subst hy
    exact absurd hi (Nat.not_lt_zero _)
theorem run_inv {bs : List SBlock} (hE : ∀ b ∈ bs, ∀ e ∈ b.term.to, 1 ≤ e.block ∧ e.block < bs.length) : ∀ (n : Nat) (s : DState), DfsInv bs s → dfsW bs s ≤ n → DfsInv bs (dfsRun bs n s) ∧ (dfsRun bs n s).stack = []
  | 0, s, h, hw => by
    refine ⟨h, ?_⟩
    show s.stack = []
    cases hs : s.stack with
    | nil => rfl
    | cons x st =>
      have hb := h.stk x (by rw [hs]; exact List.mem_cons_self ..)
      unfold dfsW at hw
      rw [hs] at hw
      obtain ⟨b, e⟩ := x
      simp only [stackW, cost] at hw
      dsimp only at hb
      omega
  | n + 1, s, h, hw => by
    rw [dfsRun]
    split
    · rename_i he; exact ⟨h, he⟩
    · rename_i hne
      have := step_w h.toDfsInv0 hne
      exact run_inv hE n _ (step_inv hE h) (by omega)
theorem unseen_start (bs : List SBlock) : ∀ (l : List SBlock) (k : Nat), (∀ i b, l[i]? = some b → bs[k + i]? = some b) → unseenW bs k (List.replicate l.length false) = edgesN l + l.length
  | [], k, _ => rfl
  | b :: l, k, h => by
    have h1 := unseen_start bs l (k + 1) fun i b hb => by
      have := h (i + 1) b (by simpa using hb)
      rwa [show k + (i + 1) = k + 1 + i by omega] at this
    have h2 := h 0 b rfl
    rw [Nat.add_zero] at h2
    rw [List.length_cons, List.replicate_succ, unseenW, h1, edgesN, cost, toAt_get h2]
    simp
    omega
theorem start_weight {bs : List SBlock} (h0 : 0 < bs.length) : dfsW bs (dfsStart bs.length) = edgesN bs + bs.length := by
  have h1 := unseen_start bs bs 0 fun i b hb => by rw [Nat.zero_add]; exact hb
  have h2 := unseen_set bs (List.replicate bs.length false) 0 0 (by rw [List.getElem?_replicate, if_pos h0])
  unfold dfsW dfsStart
  simp only [stackW]
  rw [Nat.zero_add] at h2
  omega
structure OrderOk (bs : List SBlock) (l : List Nat) : Prop where
  nodup : l.Nodup
  lt : ∀ v ∈ l, v < bs.length
  zero : l[0]? = some 0
  closed : ∀ v ∈ l, ∀ w, Edge bs v w → w ∈ l
  par : ∀ (j v : Nat), l[j]? = some v → v ≠ 0 → ∃ i p, i < j ∧ l[i]? = some p ∧ Edge bs p v
theorem order_ok {bs : List SBlock} (h0 : 0 < bs.length) (hE : ∀ b ∈ bs, ∀ e ∈ b.term.to, 1 ≤ e.block ∧ e.block < bs.length) : OrderOk bs (orderF bs) := by
  obtain ⟨h, hst⟩ := run_inv hE (edgesN bs + bs.length) _ (start_inv h0) (by rw [start_weight h0]; exact Nat.le_refl _)
  have hpo : postF bs = (dfsRun bs (edgesN bs + bs.length) (dfsStart bs.length)).out := rfl
  unfold orderF
  rw [hpo]
  generalize dfsRun bs (edgesN bs + bs.length) (dfsStart bs.length) = s at *
  have hn := h.nodup
  have hcov := h.cover
  rw [hst] at hn hcov
  refine ⟨(List.reverse_perm _).nodup_iff.2 (by simpa using hn), fun v hv => (h.out v (List.mem_reverse.1 hv)).1, ?_, ?_, ?_⟩
  · obtain ⟨l, hl⟩ := h.root hst
    rw [hl]
    simp
  · rintro v hv w ⟨x, hx, rfl⟩
    have := h.closedO v (List.mem_reverse.1 hv) x hx
    rcases hcov _ this with hc | hc
    · cases hc
    · exact List.mem_reverse.2 hc
  · intro j v hj h0
    have hjl := (List.getElem?_eq_some_iff.1 hj).1
    rw [List.length_reverse] at hjl
    rw [List.getElem?_reverse hjl] at hj
    obtain ⟨p, hp, hp2⟩ := h.par _ v hj h0
    rcases hp2 with hp2 | ⟨i, hi, hi2⟩
    · rw [hst] at hp2; cases hp2
    · have hil := (List.getElem?_eq_some_iff.1 hi2).1
      refine ⟨s.out.length - 1 - i, p, by omega, ?_, hp⟩
      rw [List.getElem?_reverse (by omega)]
      rw [show s.out.length - 1 - (s.out.length - 1 - i) = i by omega]
      exact hi2
theorem post_len {bs : List SBlock} (h0 : 0 < bs.length) (hE : ∀ b ∈ bs, ∀ e ∈ b.term.to, 1 ≤ e.block ∧ e.block < bs.length) : (postF bs).length ≤ bs.length := by
  have h := order_ok h0 hE
  have := nodup_lt h.nodup h.lt
  rw [orderF, List.length_reverse] at this
  exact this
theorem predE_mem {k : Nat} {P : List (List Int)} {e : SEdge} {t : Nat} (he : e.block.toNat < P.length) {x : Int} : x ∈ ((predE k P e)[t]?.getD []) ↔ x ∈ (P[t]?.getD []) ∨ (x = k ∧ e.block.toNat = t) := by
  unfold predE
  rw [List.getElem?_set]
  by_cases h : e.block.toNat = t
  · subst h
    rw [if_pos rfl, if_pos he]
    simp
  · rw [if_neg h]
    simp [h]
theorem foldl_mem {k : Nat} {t : Nat} {x : Int} : ∀ {l : List SEdge} {P : List (List Int)}, (∀ e ∈ l, e.block.toNat < P.length) → (x ∈ ((l.foldl (predE k) P)[t]?.getD []) ↔ x ∈ (P[t]?.getD []) ∨ (x = k ∧ ∃ e ∈ l, e.block.toNat = t))
  | [], P, _ => by simp
  | e :: l, P, h => by
    rw [List.foldl_cons, foldl_mem (P := predE k P e) fun y hy => by rw [predE_len]; exact h y (List.mem_cons_of_mem _ hy), predE_mem (h e (List.mem_cons_self ..))]
    constructor
    · rintro ((h1 | ⟨h1, h2⟩) | ⟨h1, y, hy, h2⟩)
      · exact .inl h1
      · exact .inr ⟨h1, e, List.mem_cons_self .., h2⟩
      · exact .inr ⟨h1, y, List.mem_cons_of_mem _ hy, h2⟩
    · rintro (h1 | ⟨h1, y, hy, h2⟩)
      · exact .inl (.inl h1)
      · rcases List.mem_cons.1 hy with rfl | hy
        · exact .inl (.inr ⟨h1, h2⟩)
        · exact .inr ⟨h1, y, hy, h2⟩
theorem predL_mem {t : Nat} {x : Int} : ∀ {l : List SBlock} {k : Nat} {P : List (List Int)}, (∀ b ∈ l, ∀ e ∈ b.term.to, e.block.toNat < P.length) →
    (x ∈ ((predL k l P)[t]?.getD []) ↔ x ∈ (P[t]?.getD []) ∨ ∃ (i : Nat) (b : SBlock), l[i]? = some b ∧ x = ((k + i : Nat) : Int) ∧ ∃ e ∈ b.term.to, e.block.toNat = t)
  | [], k, P, _ => by simp [predL]
  | b :: l, k, P, h => by
    have hb := h b (List.mem_cons_self ..)
    rw [predL, predL_mem (k := k + 1) (P := predB k P b) fun c hc e he => by rw [predB, foldl_len]; exact h c (List.mem_cons_of_mem _ hc) e he]
    rw [predB, foldl_mem hb]
    constructor
    · rintro ((h1 | ⟨h1, h2⟩) | ⟨i, c, hc, h1, h2⟩)
      · exact .inl h1
      · exact .inr ⟨0, b, rfl, h1, h2⟩
      · exact .inr ⟨i + 1, c, by simpa using hc, by rw [h1]; congr 1; omega, h2⟩
    · rintro (h1 | ⟨i, c, hc, h1, h2⟩)
      · exact .inl (.inl h1)
      · cases i with
        | zero =>
          simp at hc
          subst hc
          exact .inl (.inr ⟨h1, h2⟩)
        | succ i => exact .inr ⟨i, c, by simpa using hc, by rw [h1]; congr 1; omega, h2⟩
theorem preds_mem {bs : List SBlock} (hE : ∀ b ∈ bs, ∀ e ∈ b.term.to, 1 ≤ e.block ∧ e.block < bs.length) {t : Nat} {x : Int} : x ∈ ((predsF bs)[t]?.getD []) ↔ ∃ p : Nat, x = p ∧ Edge bs p t := by
  rw [predsF, predL_mem fun b hb e he => by have := hE b hb e he; rw [List.length_replicate]; omega]
  constructor
  · rintro (h | ⟨i, b, hb, h1, e, he, h2⟩)
    · rw [List.getElem?_replicate] at h
      split at h <;> simp at h
    · exact ⟨i, by rw [h1]; congr 1; omega, e, by rw [toAt_get hb]; exact he, h2⟩
  · rintro ⟨p, rfl, e, he, h2⟩
    right
    unfold toAt at he
    cases hb : bs[p]? with
    | none => rw [hb] at he; cases he
    | some b => rw [hb] at he; exact ⟨p, b, hb, by congr 1; omega, e, he, h2⟩
end Go.SM
