import Derived.Test.YthlflmmnankhhaaGreatSZ
set_option linter.all false
open List renaming mem_cons_self → Ya, getElem?_eq_some_iff → Yb, mem_cons → Yc, mem_cons_of_mem → Yd, mem_of_getElem? → Ye, length_cons → Yf, length_map → Yg, replicate → Yh, mem_map → Yi, foldl_cons → Yj, length_replicate → Yk, mem_singleton → Yl, getElem?_of_mem → Ym, getElem?_map → Yn, getElem?_set → Yo, append_assoc → Yp, length_set → Yq, range → Yr, getElem?_eq_getElem → Ys, mem_append → Yt, length_append → Yu, map_cons → Yv, getElem?_replicate → Yw, map_append → Yx, mem_append_left → Yy, flatMap_cons → Yz, nil_append → Yaa, append_nil → Yab, getElem?_append_left → Yac, getElem?_append_right → Yad, nodup_append → Yae, map_map → Yaf, getElem?_eq_none → Yag, length_eq_one_iff → Yah, getElem?_eq_none_iff → Yai, mem_append_right → Yaj, nodup_cons → Yak, map_congr_left → Yal, all_eq_true → Yam, length_eq_zero_iff → Yan, mem_range → Yao, mem_reverse → Yap, getElem?_range → Yaq, pairwise_map → Yar, count_cons_of_ne → Yas, foldl_append → Yat
open Nat renaming le_refl → Yau, zero_le → Yav, zero_add → Yaw, add_zero → Yax
open Int renaming le_refl → Yay, toNat_natCast → Yaz, le_trans → Yba
section
namespace Go.SM
open Go.VL
def rowsX (l : List (List Int)) : V := .sl 1 none (l.map intsX)
def predE (k : Nat) (P : List (List Int)) (e : SEdge) : List (List Int) := P.set e.block.toNat ((P[e.block.toNat]?.getD []) ++ [(k : Int)])
def predB (k : Nat) (P : List (List Int)) (b : SBlock) : List (List Int) := b.term.to.foldl (predE k) P
def predL : Nat -> List SBlock -> List (List Int) -> List (List Int)
 | _, [], P => P
 | k, b :: l, P => predL (k + 1) l (predB k P b)
def predsF (bs : List SBlock) : List (List Int) := predL 0 bs (Yh bs.length [])
theorem predE_len (k : Nat) (P : List (List Int)) (e : SEdge) : (predE k P e).length = P.length := by simp [predE]
theorem foldl_len {k : Nat} : ∀ (l : List SEdge) (P : List (List Int)), (l.foldl (predE k) P).length = P.length
 | [], P => rfl
 | e :: l, P => by rw [Yj, foldl_len l, predE_len]
theorem predL_len : ∀ (k : Nat) (l : List SBlock) (P : List (List Int)), (predL k l P).length = P.length
 | k, [], P => rfl
 | k, b :: l, P => by rw [predL, predL_len (k + 1) l, predB, foldl_len]
theorem predsF_len (bs : List SBlock) : (predsF bs).length = bs.length := by rw [predsF, predL_len, Yk]
def total (P : List (List Int)) : Nat := (P.map List.length).sum
def edgesN : List SBlock -> Nat
 | [] => 0
 | b :: l => b.term.to.length + edgesN l
theorem total_set {P : List (List Int)} {t : Nat} {x : Int} (h : t < P.length) : total (P.set t ((P[t]?.getD []) ++ [x])) = total P + 1 := by
 have h1 : (P.map List.length)[t]? = some (P[t]?.getD []).length := by rw [Yn, Ys h]; rfl
 have := sum_set (y := ((P[t]?.getD []) ++ [x]).length) h1
 unfold total
 rw [List.map_set]
 rw [Yu] at this ⊢
 simp at this ⊢
 omega
theorem total_set2 {P : List (List Int)} {t : Nat} {l : List Int} {x : Int} (h : P[t]? = some l) : total (P.set t (l ++ [x])) = total P + 1 := by
 have := total_set (x := x) (Yb.1 h).1
 rw [h] at this
 exact this
theorem total_zero (n : Nat) : total (Yh n []) = 0 := by simp [total]
theorem edgesN_take {l : List SBlock} {k : Nat} {b : SBlock} (h : l[k]? = some b) : edgesN (l.take (k + 1)) = edgesN (l.take k) + b.term.to.length := by
 induction l generalizing k with
 | nil => simp at h
 | cons a l ih =>
  cases k with
  | zero => simp at h; subst h; simp [edgesN]
  | succ k => simp at h; have := ih h; simp [edgesN, this]; omega
theorem edgesN_takele : ∀ (l : List SBlock) (k : Nat), edgesN (l.take k) <= edgesN l
 | [], k => by simp
 | b :: l, 0 => by simp [edgesN]
 | b :: l, k + 1 => by
  have := edgesN_takele l k
  rw [List.take_succ_cons, edgesN, edgesN]
  omega
theorem edgesN_le : ∀ {l : List SBlock} {n : Nat}, (∀ b ∈ l, b.term.to.length <= n) -> edgesN l <= n * l.length
 | [], n, _ => by simp [edgesN]
 | b :: l, n, h => by
  have := edgesN_le λ c hc => h c (Yd b hc)
  have := h b (Ya ..)
  rw [edgesN, Yf, Nat.mul_add]
  omega
theorem term_edges {f : SFunc} (h : FuncOk f) {b : SBlock} (hb : b ∈ f.blocks) : b.term.to.length <= 257 := by
 have he := endF_ok (h.block hb).2
 have hm := he.many
 have hs := he.shape
 unfold shapeF at hs
 repeat' split at hs
 all_goals first | (simp only [Bool.and_eq_true, decide_eq_true_eq] at hs; omega) | cases hs
theorem FuncOk.edges {f : SFunc} (h : FuncOk f) : ∀ b ∈ f.blocks, ∀ e ∈ b.term.to, 1 <= e.block /\ e.block < f.blocks.length := blocks_edges h.blocks
theorem edges_small {f : SFunc} (h : FuncOk f) : edgesN f.blocks <= 32896 := by
 have := edgesN_le λ b hb => term_edges h (b := b) hb
 have := h.len
 omega
structure DState where
 seen : List Bool
 stack : List (Nat × Nat)
 out : List Nat
def toAt (bs : List SBlock) (b : Nat) : List SEdge := ((bs[b]?).map (·.term.to)).getD []
def Edge (bs : List SBlock) (p v : Nat) : Prop := ∃ x ∈ toAt bs p, x.block.toNat = v
def dfsStep (bs : List SBlock) (s : DState) : DState :=
 match s.stack with
 | [] => s
 | (b, e) :: st =>
  match (toAt bs b)[e]? with
  | none => ⟨s.seen, st, s.out ++ [b]⟩
  | some x => if s.seen[x.block.toNat]? = some false then ⟨s.seen.set x.block.toNat true, (x.block.toNat, 0) :: (b, e + 1) :: st, s.out⟩ else ⟨s.seen, (b, e + 1) :: st, s.out⟩
def dfsRun (bs : List SBlock) : Nat -> DState -> DState
 | 0, s => s
 | n + 1, s => if s.stack = [] then s else dfsRun bs n (dfsStep bs s)
def dfsStart (n : Nat) : DState := ⟨(Yh n false).set 0 true, [(0, 0)], []⟩
def postF (bs : List SBlock) : List Nat := (dfsRun bs (edgesN bs + bs.length) (dfsStart bs.length)).out
def orderF (bs : List SBlock) : List Nat := (postF bs).reverse
theorem toAt_get {bs : List SBlock} {k : Nat} {b : SBlock} (h : bs[k]? = some b) : toAt bs k = b.term.to := by rw [toAt, h]; rfl
def cost (bs : List SBlock) (k : Nat) : Nat := (toAt bs k).length + 1
def unseenW (bs : List SBlock) : Nat -> List Bool -> Nat
 | _, [] => 0
 | k, s :: l => (if s then 0 else cost bs k) + unseenW bs (k + 1) l
def stackW (bs : List SBlock) : List (Nat × Nat) -> Nat
 | [] => 0
 | (b, e) :: st => (cost bs b - e) + stackW bs st
def dfsW (bs : List SBlock) (s : DState) : Nat := unseenW bs 0 s.seen + stackW bs s.stack
theorem unseen_set (bs : List SBlock) : ∀ (l : List Bool) (k n : Nat), l[n]? = some false -> unseenW bs k (l.set n true) + cost bs (k + n) = unseenW bs k l
 | [], k, n, h => by simp at h
 | s :: l, k, 0, h => by
  simp at h
  subst h
  simp [unseenW]
  omega
 | s :: l, k, n + 1, h => by
  simp at h
  have := unseen_set bs l (k + 1) n h
  simp only [List.set_cons_succ, unseenW]
  rw [show k + (n + 1) = k + 1 + n by omega]
  omega
structure DfsInv0 (bs : List SBlock) (s : DState) : Prop where
 len : s.seen.length = bs.length
 stk : ∀ x ∈ s.stack, x.1 < bs.length /\ x.2 <= (toAt bs x.1).length /\ s.seen[x.1]? = some true
theorem step_w {bs : List SBlock} {s : DState} (h : DfsInv0 bs s) (hne : s.stack ≠ []) : dfsW bs (dfsStep bs s) + 1 = dfsW bs s := by
 unfold dfsStep
 split
 .rename_i he; exact absurd he hne
 .rename_i b e st hs
  have hb := h.stk (b, e) (by rw [hs]; exact Ya ..)
  dsimp only at hb
  split
  .rename_i hn
   have : e = (toAt bs b).length := by
    have := Yai.1 hn
    omega
   unfold dfsW
   rw [hs]
   simp only [stackW, cost]
   omega
  .rename_i x hx
   have hlt := (Yb.1 hx).1
   split
   .rename_i hu
    have := unseen_set bs s.seen 0 _ hu
    unfold dfsW
    rw [hs]
    simp only [stackW]
    rw [Yaw] at this
    have hc : cost bs b = (toAt bs b).length + 1 := rfl
    omega
   .unfold dfsW
    rw [hs]
    simp only [stackW, cost]
    omega
def StackOk (bs : List SBlock) : List (Nat × Nat) -> Prop
 | [] => True
 | [x] => x.1 = 0
 | x :: y :: st => Edge bs y.1 x.1 /\ StackOk bs (y :: st)
def seenB (s : DState) (v : Nat) : Prop := s.seen[v]? = some true
structure DfsInv (bs : List SBlock) (s : DState) : Prop extends DfsInv0 bs s where
 out : ∀ v ∈ s.out, v < bs.length /\ seenB s v
 nodup : (s.stack.map (·.1) ++ s.out).Nodup
 cover : ∀ v, seenB s v -> v ∈ s.stack.map (·.1) \/ v ∈ s.out
 closedO : ∀ v ∈ s.out, ∀ x ∈ toAt bs v, seenB s x.block.toNat
 closedS : ∀ y ∈ s.stack, ∀ i x, i < y.2 -> (toAt bs y.1)[i]? = some x -> seenB s x.block.toNat
 chain : StackOk bs s.stack
 par : ∀ (i v : Nat), s.out[i]? = some v -> v ≠ 0 -> ∃ p, Edge bs p v /\ (p ∈ s.stack.map (·.1) \/ ∃ j, i < j /\ s.out[j]? = some p)
 root : s.stack = [] -> ∃ l, s.out = l ++ [0]
theorem StackOk.tail {bs : List SBlock} {x : Nat × Nat} : ∀ {st : List (Nat × Nat)}, StackOk bs (x :: st) -> StackOk bs st
 | [], _ => trivial
 | y :: st, h => h.2
theorem StackOk.head {bs : List SBlock} {x y : Nat × Nat} (he : x.1 = y.1) : ∀ {st : List (Nat × Nat)}, StackOk bs (x :: st) -> StackOk bs (y :: st)
 | [], h => by
  have h : x.1 = 0 := h
  show y.1 = 0
  rw [<- he]
  exact h
 | z :: st, h => ⟨by rw [<- he]; exact h.1, h.2⟩
theorem seen_mono {l : List Bool} {n v : Nat} (h : l[v]? = some true) : (l.set n true)[v]? = some true := by
 rw [Yo]
 split
 .rename_i e; subst e; rw [if_pos (Yb.1 h).1]
 .exact h
theorem step_inv {bs : List SBlock} {s : DState} (hE : ∀ b ∈ bs, ∀ e ∈ b.term.to, 1 <= e.block /\ e.block < bs.length) (h : DfsInv bs s) : DfsInv bs (dfsStep bs s) := by
 unfold dfsStep
 split
 .exact h
 .rename_i b e st hs
  have hb := h.stk (b, e) (by rw [hs]; exact Ya ..)
  dsimp only at hb
  have hnd := h.nodup
  rw [hs] at hnd
  have hch := h.chain
  rw [hs] at hch
  split
  .rename_i hn
   have hee : (toAt bs b).length <= e := Yai.1 hn
   refine ⟨⟨h.len, λ x hx => h.stk x (by rw [hs]; exact Yd _ hx)⟩, ?_, ?_, ?_, ?_, ?_, hch.tail, ?_, ?_⟩
   .intro v hv
    rcases Yt.1 hv with hv | hv
    .exact h.out v hv
    .rw [Yl.1 hv]; exact ⟨hb.1, hb.2.2⟩
   .dsimp only
    rw [<- Yp]
    rw [Yv, List.cons_append] at hnd
    have hp : ((b, e).1 :: (st.map (·.1) ++ s.out)).Perm (st.map (·.1) ++ s.out ++ [b]) := (List.perm_append_singleton _ _).symm
    exact hp.nodup_iff.1 hnd
   .intro v hv
    rcases h.cover v hv with hv | hv
    .rw [hs] at hv
     rcases Yc.1 hv with rfl | hv
     .exact .inr (Yaj _ (Yl.2 rfl))
     .exact .inl hv
    .exact .inr (Yy _ hv)
   .intro v hv x hx
    rcases Yt.1 hv with hv | hv
    .exact h.closedO v hv x hx
    .have hvb := Yl.1 hv
     subst hvb
     obtain ⟨i, hi⟩ := Ym hx
     exact h.closedS (v, e) (by rw [hs]; exact Ya ..) i x (by have := (Yb.1 hi).1; show i < e; omega) hi
   .exact λ y hy => h.closedS y (by rw [hs]; exact Yd _ hy)
   .intro i v hi h0
    dsimp only at hi ⊢
    by_cases hlt : i < s.out.length
    .rw [Yac hlt] at hi
     obtain ⟨p, hp1, hp2⟩ := h.par i v hi h0
     refine ⟨p, hp1, ?_⟩
     rcases hp2 with hp2 | ⟨j, hj, hj2⟩
     .rw [hs] at hp2
      rcases Yc.1 hp2 with rfl | hp2
      .exact .inr ⟨s.out.length, hlt, by rw [Yad (Yau _)]; simp⟩
      .exact .inl hp2
     .exact .inr ⟨j, hj, by rw [Yac (Yb.1 hj2).1]; exact hj2⟩
    .rw [Yad (by omega)] at hi
     have : i - s.out.length = 0 := by
      have := (Yb.1 hi).1
      simp at this
      omega
     rw [this] at hi
     simp at hi
     subst hi
     cases st with
     | nil => exact absurd hch h0
     | cons y st => exact ⟨y.1, hch.1, .inl (Yi.2 ⟨y, Ya .., rfl⟩)⟩
   .intro hst
    dsimp only at hst
    subst hst
    have hb0 : b = 0 := hch
    exact ⟨s.out, by rw [hb0]⟩
  .rename_i x hx
   have hlt := (Yb.1 hx).1
   have hxm := Ye hx
   have hxn : x.block.toNat < bs.length := by
    obtain ⟨bl, hbl⟩ : ∃ bl, bs[b]? = some bl := ⟨_, Ys hb.1⟩
    rw [toAt_get hbl] at hxm
    have := hE bl (Ye hbl) x hxm
    omega
   split
   .rename_i hu
    have hns : ∀ v, seenB s v -> v ≠ x.block.toNat := λ v hv e => by
     subst e
     unfold seenB at hv
     rw [hu] at hv
     cases hv
    have hnew : (s.seen.set x.block.toNat true)[x.block.toNat]? = some true := by rw [Yo, if_pos rfl, if_pos (by rw [h.len]; exact hxn)]
    refine ⟨⟨by rw [Yq]; exact h.len, ?_⟩, ?_, ?_, ?_, ?_, ?_, ?_, ?_, ?_⟩
    .intro y hy
     rcases Yc.1 hy with rfl | hy
     .exact ⟨hxn, Yav _, hnew⟩
     .rcases Yc.1 hy with rfl | hy
      .exact ⟨hb.1, hlt, seen_mono hb.2.2⟩
      .have := h.stk y (by rw [hs]; exact Yd _ hy)
       exact ⟨this.1, this.2.1, seen_mono this.2.2⟩
    .exact λ v hv => ⟨(h.out v hv).1, seen_mono (h.out v hv).2⟩
    .dsimp only
     rw [Yv, Yv, List.cons_append]
     refine Yak.2 ⟨λ hm => ?_, hnd⟩
     have hsn : seenB s x.block.toNat := by
      rcases Yt.1 hm with hm | hm
      .rcases Yc.1 hm with e1 | hm
       .have e1 : x.block.toNat = b := e1
        rw [e1]; exact hb.2.2
       .obtain ⟨y, hy, hy2⟩ := Yi.1 hm
        have hy2 : y.1 = x.block.toNat := hy2
        rw [<- hy2]
        exact (h.stk y (by rw [hs]; exact Yd _ hy)).2.2
      .exact (h.out _ hm).2
     exact hns _ hsn rfl
    .intro v hv
     unfold seenB at hv
     dsimp only at hv ⊢
     by_cases hvx : v = x.block.toNat
     .subst hvx; exact .inl (Ya ..)
     .rw [List.getElem?_set_ne (Ne.symm hvx)] at hv
      rcases h.cover v hv with hc | hc
      .rw [hs] at hc
       exact .inl (Yd _ hc)
      .exact .inr hc
    .exact λ v hv y hy => seen_mono (h.closedO v hv y hy)
    .intro y hy i z hi hz
     rcases Yc.1 hy with rfl | hy
     .exact absurd hi (Nat.not_lt_zero _)
     .rcases Yc.1 hy with rfl | hy
      .dsimp only at hi hz
       by_cases hie : i = e
       .subst hie
        rw [hx] at hz
        injection hz with hz
        subst hz
        exact hnew
       .exact seen_mono (h.closedS (b, e) (by rw [hs]; exact Ya ..) i z (by show i < e; omega) hz)
      .exact seen_mono (h.closedS y (by rw [hs]; exact Yd _ hy) i z hi hz)
    .exact ⟨⟨x, hxm, rfl⟩, StackOk.head (x := (b, e)) (y := (b, e + 1)) rfl hch⟩
    .intro i v hi h0
     obtain ⟨p, hp1, hp2⟩ := h.par i v hi h0
     refine ⟨p, hp1, hp2.imp (λ hp2 => ?_) id⟩
     rw [hs] at hp2
     exact Yd _ hp2
    .intro hst; cases hst
   .rename_i hu
    have hsx : seenB s x.block.toNat := by
     unfold seenB
     cases hv : s.seen[x.block.toNat]? with
     | none =>
      have := Yai.1 hv
      rw [h.len] at this
      omega
     | some v =>
      cases v with
      | true => rfl
      | false => exact absurd hv hu
    refine ⟨⟨h.len, ?_⟩, h.out, ?_, ?_, h.closedO, ?_, ?_, ?_, ?_⟩
    .intro y hy
     rcases Yc.1 hy with rfl | hy
     .exact ⟨hb.1, hlt, hb.2.2⟩
     .exact h.stk y (by rw [hs]; exact Yd _ hy)
    .exact hnd
    .intro v hv
     rcases h.cover v hv with hc | hc
     .rw [hs] at hc; exact .inl hc
     .exact .inr hc
    .intro y hy i z hi hz
     rcases Yc.1 hy with rfl | hy
     .dsimp only at hi hz
      by_cases hie : i = e
      .subst hie
       rw [hx] at hz
       injection hz with hz
       subst hz
       exact hsx
      .exact h.closedS (b, e) (by rw [hs]; exact Ya ..) i z (by show i < e; omega) hz
     .exact h.closedS y (by rw [hs]; exact Yd _ hy) i z hi hz
    .exact StackOk.head (x := (b, e)) (y := (b, e + 1)) rfl hch
    .intro i v hi h0
     obtain ⟨p, hp1, hp2⟩ := h.par i v hi h0
     refine ⟨p, hp1, hp2.imp (λ hp2 => ?_) id⟩
     rw [hs] at hp2
     exact hp2
    .intro hst; cases hst
theorem nodup_lt {l : List Nat} {n : Nat} (h : l.Nodup) (hr : ∀ v ∈ l, v < n) : l.length <= n := by
 have := h.length_le_of_subset (l₂ := Yr n) λ v hv => Yao.2 (hr v hv)
 simpa using this
theorem dfs_small {bs : List SBlock} {s : DState} (h : DfsInv bs s) : s.stack.length <= bs.length /\ s.out.length <= bs.length := by
 have h1 := (Yae.1 h.nodup).1
 have h2 := (Yae.1 h.nodup).2.1
 have := nodup_lt h1 (n := bs.length) λ v hv => by
  obtain ⟨x, hx, rfl⟩ := Yi.1 hv
  exact (h.stk x hx).1
 exact ⟨by simpa using this, nodup_lt h2 λ v hv => (h.out v hv).1⟩
theorem start_inv {bs : List SBlock} (h0 : 0 < bs.length) : DfsInv bs (dfsStart bs.length) := by
 have hs : (dfsStart bs.length).seen[0]? = some true := by
  show ((Yh bs.length false).set 0 true)[0]? = some true
  rw [Yo, if_pos rfl, if_pos (by simpa using h0)]
 refine ⟨⟨by simp [dfsStart], λ x hx => ?_⟩, λ v hv => (by cases hv), by simp [dfsStart], λ v hv => ?_, λ v hv => (by cases hv), λ y hy i x hi => ?_, rfl, λ i v hi => (by simp [dfsStart] at hi), λ h => (by cases h)⟩
 .have hx := Yl.1 hx
  subst hx
  exact ⟨h0, Yav _, hs⟩
 .by_cases hv0 : v = 0
  .subst hv0; exact .inl (Ya ..)
  .unfold seenB at hv
   have : ((Yh bs.length false).set 0 true)[v]? = some true := hv
   rw [List.getElem?_set_ne (Ne.symm hv0), Yw] at this
   split at this <;> cases this
 .have hy := Yl.1 hy
  subst hy
  exact absurd hi (Nat.not_lt_zero _)
theorem run_inv {bs : List SBlock} (hE : ∀ b ∈ bs, ∀ e ∈ b.term.to, 1 <= e.block /\ e.block < bs.length) : ∀ (n : Nat) (s : DState), DfsInv bs s -> dfsW bs s <= n -> DfsInv bs (dfsRun bs n s) /\ (dfsRun bs n s).stack = []
 | 0, s, h, hw => by
  refine ⟨h, ?_⟩
  show s.stack = []
  cases hs : s.stack with
  | nil => rfl
  | cons x st =>
   have hb := h.stk x (by rw [hs]; exact Ya ..)
   unfold dfsW at hw
   rw [hs] at hw
   obtain ⟨b, e⟩ := x
   simp only [stackW, cost] at hw
   dsimp only at hb
   omega
 | n + 1, s, h, hw => by
  rw [dfsRun]
  split
  .rename_i he; exact ⟨h, he⟩
  .rename_i hne
   have := step_w h.toDfsInv0 hne
   exact run_inv hE n _ (step_inv hE h) (by omega)
theorem unseen_start (bs : List SBlock) : ∀ (l : List SBlock) (k : Nat), (∀ i b, l[i]? = some b -> bs[k + i]? = some b) -> unseenW bs k (Yh l.length false) = edgesN l + l.length
 | [], k, _ => rfl
 | b :: l, k, h => by
  have h1 := unseen_start bs l (k + 1) λ i b hb => by
   have := h (i + 1) b (by simpa using hb)
   rwa [show k + (i + 1) = k + 1 + i by omega] at this
  have h2 := h 0 b rfl
  rw [Yax] at h2
  rw [Yf, List.replicate_succ, unseenW, h1, edgesN, cost, toAt_get h2]
  simp
  omega
theorem start_weight {bs : List SBlock} (h0 : 0 < bs.length) : dfsW bs (dfsStart bs.length) = edgesN bs + bs.length := by
 have h1 := unseen_start bs bs 0 λ i b hb => by rw [Yaw]; exact hb
 have h2 := unseen_set bs (Yh bs.length false) 0 0 (by rw [Yw, if_pos h0])
 unfold dfsW dfsStart
 simp only [stackW]
 rw [Yaw] at h2
 omega
structure OrderOk (bs : List SBlock) (l : List Nat) : Prop where
 nodup : l.Nodup
 lt : ∀ v ∈ l, v < bs.length
 zero : l[0]? = some 0
 closed : ∀ v ∈ l, ∀ w, Edge bs v w -> w ∈ l
 par : ∀ (j v : Nat), l[j]? = some v -> v ≠ 0 -> ∃ i p, i < j /\ l[i]? = some p /\ Edge bs p v
theorem order_ok {bs : List SBlock} (h0 : 0 < bs.length) (hE : ∀ b ∈ bs, ∀ e ∈ b.term.to, 1 <= e.block /\ e.block < bs.length) : OrderOk bs (orderF bs) := by
 obtain ⟨h, hst⟩ := run_inv hE (edgesN bs + bs.length) _ (start_inv h0) (by rw [start_weight h0]; exact Yau _)
 have hpo : postF bs = (dfsRun bs (edgesN bs + bs.length) (dfsStart bs.length)).out := rfl
 unfold orderF
 rw [hpo]
 generalize dfsRun bs (edgesN bs + bs.length) (dfsStart bs.length) = s at *
 have hn := h.nodup
 have hcov := h.cover
 rw [hst] at hn hcov
 refine ⟨(List.reverse_perm _).nodup_iff.2 (by simpa using hn), λ v hv => (h.out v (Yap.1 hv)).1, ?_, ?_, ?_⟩
 .obtain ⟨l, hl⟩ := h.root hst
  rw [hl]
  simp
 .rintro v hv w ⟨x, hx, rfl⟩
  have := h.closedO v (Yap.1 hv) x hx
  rcases hcov _ this with hc | hc
  .cases hc
  .exact Yap.2 hc
 .intro j v hj h0
  have hjl := (Yb.1 hj).1
  rw [List.length_reverse] at hjl
  rw [List.getElem?_reverse hjl] at hj
  obtain ⟨p, hp, hp2⟩ := h.par _ v hj h0
  rcases hp2 with hp2 | ⟨i, hi, hi2⟩
  .rw [hst] at hp2; cases hp2
  .have hil := (Yb.1 hi2).1
   refine ⟨s.out.length - 1 - i, p, by omega, ?_, hp⟩
   rw [List.getElem?_reverse (by omega)]
   rw [show s.out.length - 1 - (s.out.length - 1 - i) = i by omega]
   exact hi2
theorem post_len {bs : List SBlock} (h0 : 0 < bs.length) (hE : ∀ b ∈ bs, ∀ e ∈ b.term.to, 1 <= e.block /\ e.block < bs.length) : (postF bs).length <= bs.length := by
 have h := order_ok h0 hE
 have := nodup_lt h.nodup h.lt
 rw [orderF, List.length_reverse] at this
 exact this
theorem predE_mem {k : Nat} {P : List (List Int)} {e : SEdge} {t : Nat} (he : e.block.toNat < P.length) {x : Int} : x ∈ ((predE k P e)[t]?.getD []) ↔ x ∈ (P[t]?.getD []) \/ (x = k /\ e.block.toNat = t) := by
 unfold predE
 rw [Yo]
 by_cases h : e.block.toNat = t
 .subst h
  rw [if_pos rfl, if_pos he]
  simp
 .rw [if_neg h]
  simp [h]
theorem foldl_mem {k : Nat} {t : Nat} {x : Int} : ∀ {l : List SEdge} {P : List (List Int)}, (∀ e ∈ l, e.block.toNat < P.length) -> (x ∈ ((l.foldl (predE k) P)[t]?.getD []) ↔ x ∈ (P[t]?.getD []) \/ (x = k /\ ∃ e ∈ l, e.block.toNat = t))
 | [], P, _ => by simp
 | e :: l, P, h => by
  rw [Yj, foldl_mem (P := predE k P e) λ y hy => by rw [predE_len]; exact h y (Yd _ hy), predE_mem (h e (Ya ..))]
  constructor
  .rintro ((h1 | ⟨h1, h2⟩) | ⟨h1, y, hy, h2⟩)
   .exact .inl h1
   .exact .inr ⟨h1, e, Ya .., h2⟩
   .exact .inr ⟨h1, y, Yd _ hy, h2⟩
  .rintro (h1 | ⟨h1, y, hy, h2⟩)
   .exact .inl (.inl h1)
   .rcases Yc.1 hy with rfl | hy
    .exact .inl (.inr ⟨h1, h2⟩)
    .exact .inr ⟨h1, y, hy, h2⟩
theorem predL_mem {t : Nat} {x : Int} : ∀ {l : List SBlock} {k : Nat} {P : List (List Int)}, (∀ b ∈ l, ∀ e ∈ b.term.to, e.block.toNat < P.length) ->
  (x ∈ ((predL k l P)[t]?.getD []) ↔ x ∈ (P[t]?.getD []) \/ ∃ (i : Nat) (b : SBlock), l[i]? = some b /\ x = ((k + i : Nat) : Int) /\ ∃ e ∈ b.term.to, e.block.toNat = t)
 | [], k, P, _ => by simp [predL]
 | b :: l, k, P, h => by
  have hb := h b (Ya ..)
  rw [predL, predL_mem (k := k + 1) (P := predB k P b) λ c hc e he => by rw [predB, foldl_len]; exact h c (Yd _ hc) e he]
  rw [predB, foldl_mem hb]
  constructor
  .rintro ((h1 | ⟨h1, h2⟩) | ⟨i, c, hc, h1, h2⟩)
   .exact .inl h1
   .exact .inr ⟨0, b, rfl, h1, h2⟩
   .exact .inr ⟨i + 1, c, by simpa using hc, by rw [h1]; congr 1; omega, h2⟩
  .rintro (h1 | ⟨i, c, hc, h1, h2⟩)
   .exact .inl (.inl h1)
   .cases i with
    | zero =>
     simp at hc
     subst hc
     exact .inl (.inr ⟨h1, h2⟩)
    | succ i => exact .inr ⟨i, c, by simpa using hc, by rw [h1]; congr 1; omega, h2⟩
theorem preds_mem {bs : List SBlock} (hE : ∀ b ∈ bs, ∀ e ∈ b.term.to, 1 <= e.block /\ e.block < bs.length) {t : Nat} {x : Int} : x ∈ ((predsF bs)[t]?.getD []) ↔ ∃ p : Nat, x = p /\ Edge bs p t := by
 rw [predsF, predL_mem λ b hb e he => by have := hE b hb e he; rw [Yk]; omega]
 constructor
 .rintro (h | ⟨i, b, hb, h1, e, he, h2⟩)
  .rw [Yw] at h
   split at h <;> simp at h
  .exact ⟨i, by rw [h1]; congr 1; omega, e, by rw [toAt_get hb]; exact he, h2⟩
 .rintro ⟨p, rfl, e, he, h2⟩
  right
  unfold toAt at he
  cases hb : bs[p]? with
  | none => rw [hb] at he; cases he
  | some b => rw [hb] at he; exact ⟨p, b, hb, by congr 1; omega, e, he, h2⟩
def gI (l : List Int) (i : Int) : Int := l[i.toNat]?.getD 0
def meetF (ov pl : List Int) : Nat -> Int -> Int -> Int
 | 0, a, _ => a
 | n + 1, a, b => if a = b then a else if gI pl a > gI pl b then meetF ov pl n (gI ov a) b else meetF ov pl n a (gI ov b)
def skipP (ov pl : List Int) (p : Int) : Bool := decide (gI pl p < 0) || (decide (p ≠ 0) && decide (gI ov p < 0))
def nextL (ov pl : List Int) (m : Nat) : Int -> List Int -> Int
 | cur, [] => cur
 | cur, p :: ps => nextL ov pl m (if skipP ov pl p then cur else if cur < 0 then p else meetF ov pl m cur p) ps
def placeF (ord : List Int) (n : Nat) : List Int := (Yr n).map λ k : Nat => idxOf (λ x => decide ((k : Int) = x)) ord
structure TState where
 ov : List Int
 again : Bool
def ordZ (bs : List SBlock) : List Int := (orderF bs).map λ k : Nat => (k : Int)
def placeZ (bs : List SBlock) : List Int := placeF (ordZ bs) bs.length
theorem idx_nat {l : List Nat} {v : Nat} : idxOf (λ x => decide ((v : Int) = x)) (l.map λ k : Nat => (k : Int)) = -1 /\ v ∉ l \/ ∃ i, idxOf (λ x => decide ((v : Int) = x)) (l.map λ k : Nat => (k : Int)) = (i : Nat) /\ l[i]? = some v := by
 rcases idxOf_range (λ x => decide ((v : Int) = x)) (l.map λ k : Nat => (k : Int)) with ⟨h1, h2⟩ | ⟨i, x, h1, h2, h3, _⟩
 .refine .inl ⟨h1, λ hm => ?_⟩
  rw [List.any_eq_false] at h2
  exact h2 (v : Int) (Yi.2 ⟨v, hm, rfl⟩) (by simp)
 .refine .inr ⟨i, h1, ?_⟩
  rw [Yn] at h2
  obtain ⟨w, hw, rfl⟩ := Option.map_eq_some_iff.1 h2
  rw [hw]
  have : (v : Int) = (w : Int) := by simpa using h3
  congr 1
  omega
theorem place_get {bs : List SBlock} {v : Nat} (hv : v < bs.length) : gI (placeZ bs) v = -1 /\ v ∉ orderF bs \/ ∃ i, gI (placeZ bs) v = (i : Nat) /\ (orderF bs)[i]? = some v := by
 have : gI (placeZ bs) v = idxOf (λ x => decide ((v : Int) = x)) (ordZ bs) := by
  unfold gI placeZ placeF
  rw [Yaz, Yn, Yaq hv]
  rfl
 rw [this]
 exact idx_nat
def pos (bs : List SBlock) (v : Nat) : Nat := (gI (placeZ bs) v).toNat
section
variable {bs : List SBlock} (ho : OrderOk bs (orderF bs))
include ho
theorem place_of {v : Nat} (hv : v ∈ orderF bs) : gI (placeZ bs) v = (pos bs v : Nat) /\ (orderF bs)[pos bs v]? = some v := by
 rcases place_get (ho.lt v hv) with ⟨_, h⟩ | ⟨i, h1, h2⟩
 .exact absurd hv h
 .unfold pos
  rw [h1, Yaz]
  exact ⟨rfl, h2⟩
theorem pos_of_get {v i : Nat} (h : (orderF bs)[i]? = some v) : pos bs v = i := by
 have := (place_of ho (Ye h)).2
 exact (List.getElem?_inj (Yb.1 this).1 ho.nodup).1 (this.trans h.symm)
theorem pos_inj {v w : Nat} (hv : v ∈ orderF bs) (hw : w ∈ orderF bs) (h : pos bs v = pos bs w) : v = w := by
 have h1 := (place_of ho hv).2
 have h2 := (place_of ho hw).2
 rw [h, h2] at h1
 injection h1 with h1
 exact h1.symm
theorem pos_lt {v : Nat} (hv : v ∈ orderF bs) : pos bs v < bs.length := by
 have := (Yb.1 (place_of ho hv).2).1
 have := nodup_lt ho.nodup ho.lt
 omega
theorem zero_mem : 0 ∈ orderF bs := Ye ho.zero
theorem par_of {v : Nat} (hv : v ∈ orderF bs) (h0 : v ≠ 0) : ∃ p, p ∈ orderF bs /\ pos bs p < pos bs v /\ Edge bs p v := by
 obtain ⟨i, p, hi, hp, he⟩ := ho.par _ v (place_of ho hv).2 h0
 exact ⟨p, Ye hp, by rw [pos_of_get ho hp]; exact hi, he⟩
open Classical in
omit ho in
noncomputable def pi (bs : List SBlock) (v : Nat) : Nat := if h : ∃ p, p ∈ orderF bs /\ pos bs p < pos bs v /\ Edge bs p v then Classical.choose h else 0
end
inductive Anc (ov : List Int) : Nat -> Nat -> Prop where
 | refl (a : Nat) : Anc ov a a
 | step {a q x : Nat} : ov[a]? = some (q : Int) -> Anc ov q x -> Anc ov a x
inductive AncP (bs : List SBlock) : Nat -> Nat -> Prop where
 | refl (a : Nat) : AncP bs a a
 | step {a x : Nat} : a ≠ 0 -> AncP bs (pi bs a) x -> AncP bs a x
theorem Anc.trans {ov : List Int} {a b c : Nat} (h : Anc ov a b) (k : Anc ov b c) : Anc ov a c := by
 induction h with
 | refl => exact k
 | step h _ ih => exact .step h (ih k)
structure Tree (bs : List SBlock) (ov : List Int) : Prop where
 len : ov.length = bs.length
 root : ov[0]? = some (-1)
 out : ∀ v, v < bs.length -> v ∉ orderF bs -> ov[v]? = some (-1)
 up : ∀ (v : Nat) (x : Int), v ∈ orderF bs -> v ≠ 0 -> ov[v]? = some x -> 0 <= x -> ∃ q : Nat, x = q /\ q ∈ orderF bs /\ pos bs q < pos bs v /\ (q = 0 \/ ∃ y : Int, ov[q]? = some y /\ 0 <= y)
 low : ∀ (v : Nat) (x : Int), ov[v]? = some x -> x < 0 -> x = -1
def InT (bs : List SBlock) (ov : List Int) (v : Nat) : Prop := v ∈ orderF bs /\ (v = 0 \/ ∃ x : Int, ov[v]? = some x /\ 0 <= x)
section
variable {bs : List SBlock} (ho : OrderOk bs (orderF bs)) {ov : List Int}
include ho
theorem Tree.parent (h : Tree bs ov) {v : Nat} (hv : InT bs ov v) (h0 : v ≠ 0) : ∃ q : Nat, ov[v]? = some (q : Int) /\ InT bs ov q /\ pos bs q < pos bs v := by
 obtain ⟨hm, hv⟩ := hv
 rcases hv with hv | ⟨x, hx, hx0⟩
 .exact absurd hv h0
 .obtain ⟨q, rfl, h1, h2, h3⟩ := h.up v x hm h0 hx hx0
  exact ⟨q, hx, ⟨h1, h3⟩, h2⟩
theorem Tree.anc (h : Tree bs ov) {v x : Nat} (hv : InT bs ov v) (ha : Anc ov v x) : InT bs ov x /\ pos bs x <= pos bs v /\ (x ≠ v -> pos bs x < pos bs v) := by
 induction ha with
 | refl a => exact ⟨hv, Yau _, λ h => absurd rfl h⟩
 | @step a q x hq _ ih =>
  by_cases h0 : a = 0
  .subst h0
   rw [h.root] at hq
   injection hq with hq
   omega
  .obtain ⟨q', hq', hi, hp⟩ := h.parent ho hv h0
   rw [hq] at hq'
   injection hq' with hq'
   have : q = q' := by omega
   subst this
   have := ih hi
   exact ⟨this.1, by omega, λ _ => by omega⟩
theorem Tree.zero (h : Tree bs ov) {x : Nat} (ha : Anc ov 0 x) : x = 0 := by
 cases ha with
 | refl => rfl
 | step hq _ =>
  rw [h.root] at hq
  injection hq with hq
  omega
theorem Tree.cases (h : Tree bs ov) {v q x : Nat} (hq : ov[v]? = some (q : Int)) (ha : Anc ov v x) : x = v \/ Anc ov q x := by
 cases ha with
 | refl => exact .inl rfl
 | @step _ q' _ hq' k =>
  rw [hq] at hq'
  injection hq' with hq'
  have : q = q' := by omega
  subst this
  exact .inr k
theorem Tree.chain (h : Tree bs ov) {v x y : Nat} (hv : InT bs ov v) (hx : Anc ov v x) (hy : Anc ov v y) (hp : pos bs x <= pos bs y) : Anc ov y x := by
 induction hx with
 | refl a =>
  have := h.anc ho hv hy
  have : pos bs y = pos bs a := by omega
  rw [pos_inj ho (h.anc ho hv hy).1.1 hv.1 this]
  exact .refl _
 | @step a q x hq ha ih =>
  by_cases h0 : a = 0
  .subst h0
   rw [h.root] at hq
   injection hq with hq
   omega
  .obtain ⟨q', hq', hi, _⟩ := h.parent ho hv h0
   rw [hq] at hq'
   injection hq' with hq'
   have : q = q' := by omega
   subst this
   rcases h.cases ho hq hy with rfl | hy
   .exact .step hq ha
   .exact ih hi hy hp
theorem gI_get {l : List Int} {v : Nat} {x : Int} (h : l[v]? = some x) : gI l v = x := by rw [gI, Yaz, h]; rfl
theorem InT.fuel {v : Nat} (h : InT bs ov v) : pos bs v < bs.length := pos_lt ho h.1
end
structure TInv (bs : List SBlock) (ov : List Int) (i : Nat) : Prop where
 tree : Tree bs ov
 done : ∀ (j v : Nat), j < i -> (orderF bs)[j]? = some v -> InT bs ov v
 down : ∀ (v w : Nat), InT bs ov v -> w ∈ orderF bs -> pos bs w < pos bs v -> InT bs ov w
 anc : ∀ (v x : Nat), InT bs ov v -> Anc ov v x -> AncP bs v x
 most : ∀ (v q : Nat), InT bs ov v -> v ≠ 0 -> ov[v]? = some (q : Int) -> ∀ y, (∀ p, Edge bs p v -> InT bs ov p -> Anc ov p y) -> pos bs y <= pos bs q
 past : ∀ (v : Nat), v ∈ orderF bs -> pos bs v < i -> ∀ q x, AncP bs v q -> Anc ov v x -> pos bs x <= pos bs q -> Anc ov q x
theorem AncP.ne {bs : List SBlock} {v x : Nat} (h : AncP bs v x) (hx : x ≠ v) : v ≠ 0 /\ AncP bs (pi bs v) x := by
 cases h with
 | refl => exact absurd rfl hx
 | step h0 k => exact ⟨h0, k⟩
def hW (bs : List SBlock) (x : Int) : Nat := if x < 0 then bs.length else pos bs x.toNat
section
variable {bs : List SBlock} (ho : OrderOk bs (orderF bs)) (hE : ∀ b ∈ bs, ∀ e ∈ b.term.to, 1 <= e.block /\ e.block < bs.length) {ov : List Int}
include ho
theorem edge_mem {p v : Nat} (hp : p ∈ orderF bs) (he : Edge bs p v) : v ∈ orderF bs := ho.closed p hp v he
structure TreeOk (bs : List SBlock) (ov : List Int) : Prop where
 inv : TInv bs ov 1
 all : ∀ v, v ∈ orderF bs -> InT bs ov v
 fix : ∀ v, v ∈ orderF bs -> v ≠ 0 -> gI ov v = nextL ov (placeZ bs) (2 * bs.length + 1) (-1) ((predsF bs)[v]?.getD [])
end
section
variable {bs : List SBlock} (ho : OrderOk bs (orderF bs)) {ov : List Int}
include ho
structure Up (bs : List SBlock) (ov : List Int) (a : Nat) (l : List Int) (k : Int) (n : Nat) : Prop where
 len : l.length = n
 at_ : k = -1 \/ ∃ v : Nat, k = v /\ InT bs ov v /\ n + pos bs v <= pos bs a
 mem : ∀ y : Nat, Anc ov a y ↔ (y : Int) ∈ l \/ ∃ v : Nat, k = v /\ Anc ov v y
 le : n <= bs.length
omit ho in
structure Climb (bs : List SBlock) (ov : List Int) (a b : Nat) (v n : Nat) : Prop where
 at_ : Anc ov b v
 bound : n + pos bs v <= pos bs b
 none : ∀ y, Anc ov b y -> pos bs v < pos bs y -> ¬ Anc ov a y
omit ho in
end
def reachL (f : SFunc) : List Int := (ordZ f.blocks).mergeSort λ x y => decide (x <= y)
theorem reach_mem {f : SFunc} {v : Nat} : (v : Int) ∈ reachL f ↔ v ∈ orderF f.blocks := by
 unfold reachL
 rw [List.mem_mergeSort, ordZ, Yi]
 constructor
 .rintro ⟨k, hk, e⟩
  have : k = v := by omega
  rwa [<- this]
 .intro h
  exact ⟨v, h, rfl⟩
theorem reach_len (f : SFunc) : (reachL f).length = (orderF f.blocks).length := by rw [reachL, List.length_mergeSort, ordZ, Yg]
section
variable {bs : List SBlock} (ho : OrderOk bs (orderF bs)) {ov : List Int}
include ho
end
section
variable {bs : List SBlock} (ho : OrderOk bs (orderF bs)) {ov : List Int}
include ho
end
theorem again_keep {n : Nat} {d d' : Dom} (h : StepW n d d') (ha : d'.again = false) : d' = d := by
 rcases h.2 with h | ⟨h, _⟩
 .exact h
 .rw [ha] at h; cases h
theorem edges_fix {n k : Nat} (hk : k < n) : ∀ {l : List SEdge} {d : Dom}, DomOk n d -> (∀ e ∈ l, 1 <= e.block /\ e.block < n) -> (l.foldl (domEdge k) d).again = false -> l.foldl (domEdge k) d = d /\ ∀ e ∈ l, domEdge k d e = d
 | [], d, _, _, _ => ⟨rfl, λ e he => by cases he⟩
 | e :: l, d, ok, h, ha => by
  have h1 := domEdge_w ok hk (h e (Ya ..)).1 (h e (Ya ..)).2
  have hl := λ x hx => h x (Yd e hx)
  have h2 := edges_w hk h1.1 hl
  rw [Yj] at ha ⊢
  have e2 := again_keep h2 ha
  have e1 : domEdge k d e = d := again_keep h1 (by rw [<- e2]; exact ha)
  rw [e1] at ha ⊢
  obtain ⟨g1, g2⟩ := edges_fix hk ok hl ha
  refine ⟨g1, λ x hx => ?_⟩
  rcases Yc.1 hx with rfl | hx
  .exact e1
  .exact g2 x hx
theorem block_fix {n k : Nat} {b : SBlock} {d : Dom} (hk : k < n) (ok : DomOk n d) (h : ∀ e ∈ b.term.to, 1 <= e.block /\ e.block < n) (ha : (domBlock d k b).again = false) : domBlock d k b = d /\ (d.seen.has k = true -> ∀ e ∈ b.term.to, domEdge k d e = d) := by
 unfold domBlock at ha ⊢
 split
 .rename_i hs
  rw [if_pos hs] at ha
  obtain ⟨h1, h2⟩ := edges_fix hk ok h ha
  exact ⟨h1, λ _ => h2⟩
 .rename_i hs
  exact ⟨rfl, λ h => absurd h hs⟩
theorem pass_fix {n : Nat} : ∀ {l : List SBlock} {k : Nat} {d : Dom}, k + l.length = n -> DomOk n d -> (∀ b ∈ l, ∀ e ∈ b.term.to, 1 <= e.block /\ e.block < n) -> (domPass k l d).again = false ->
  ∀ (j : Nat) (b : SBlock), l[j]? = some b -> d.seen.has (k + j) = true -> ∀ e ∈ b.term.to, domEdge (k + j) d e = d
 | [], k, d, _, _, _, _, j, b, hb => by simp at hb
 | c :: l, k, d, hl, ok, h, ha, j, b, hb => by
  have hl' : k + (l.length + 1) = n := hl
  have h1 := block_w (k := k) (by omega) ok (h c (Ya ..))
  have hr := λ x hx => h x (Yd c hx)
  have h2 := pass_w (l := l) (k := k + 1) (by omega) h1.1 hr
  rw [domPass] at ha
  have e2 := again_keep h2 ha
  have ha1 : (domBlock d k c).again = false := by rw [<- e2]; exact ha
  obtain ⟨e1, g⟩ := block_fix (by omega) ok (h c (Ya ..)) ha1
  rw [e1] at ha
  cases j with
  | zero =>
   simp at hb
   subst hb
   exact g
  | succ j =>
   simp at hb
   have := pass_fix (by omega) ok hr ha j b hb
   rwa [show k + 1 + j = k + (j + 1) by omega] at this
structure DomFix (bs : List SBlock) (d : Dom) : Prop where
 ok : DomOk bs.length d
 seen0 : d.seen.has 0 = true
 at0 : d.at 0 = BSet.with noSet 0
 fix : ∀ (k : Nat) (b : SBlock), bs[k]? = some b -> d.seen.has k = true -> ∀ e ∈ b.term.to, domEdge k d e = d
def DomZ (n : Nat) (d : Dom) : Prop := d.seen.has 0 = true /\ d.at 0 = BSet.with noSet 0
theorem edge_z {n k : Nat} {d : Dom} {e : SEdge} (ok : DomOk n d) (h1 : 1 <= e.block) (h2 : e.block < n) (hz : DomZ n d) : DomZ n (domEdge k d e) := by
 unfold domEdge
 dsimp only
 have hn := ok.le
 split
 .refine ⟨?_, ?_⟩
  .rw [has_with _ (by omega) (by omega), hz.1]; rfl
  .rw [at_set (by rw [ok.len]; omega), if_neg (by omega)]; exact hz.2
 .exact hz
theorem edges_z {n k : Nat} (hk : k < n) : ∀ {l : List SEdge} {d : Dom}, DomOk n d -> (∀ e ∈ l, 1 <= e.block /\ e.block < n) -> DomZ n d -> DomZ n (l.foldl (domEdge k) d)
 | [], d, _, _, hz => hz
 | e :: l, d, ok, h, hz => by
  have he := h e (Ya ..)
  show DomZ n (l.foldl (domEdge k) (domEdge k d e))
  exact edges_z (l := l) hk (domEdge_w ok hk he.1 he.2).1 (λ x hx => h x (Yd e hx)) (edge_z ok he.1 he.2 hz)
theorem block_z {n k : Nat} {b : SBlock} {d : Dom} (hk : k < n) (ok : DomOk n d) (h : ∀ e ∈ b.term.to, 1 <= e.block /\ e.block < n) (hz : DomZ n d) : DomZ n (domBlock d k b) := by
 unfold domBlock
 split
 .exact edges_z hk ok h hz
 .exact hz
theorem pass_z {n : Nat} : ∀ {l : List SBlock} {k : Nat} {d : Dom}, k + l.length = n -> DomOk n d -> (∀ b ∈ l, ∀ e ∈ b.term.to, 1 <= e.block /\ e.block < n) -> DomZ n d -> DomZ n (domPass k l d)
 | [], k, d, _, _, _, hz => hz
 | c :: l, k, d, hl, ok, h, hz => by
  have hl' : k + (l.length + 1) = n := hl
  show DomZ n (domPass (k + 1) l (domBlock d k c))
  exact pass_z (l := l) (by omega) (block_w (k := k) (by omega) ok (h c (Ya ..))).1 (λ x hx => h x (Yd c hx)) (block_z (by omega) ok (h c (Ya ..)) hz)
theorem domIter_fix {bs : List SBlock} (h : ∀ b ∈ bs, ∀ e ∈ b.term.to, 1 <= e.block /\ e.block < bs.length) : ∀ (n : Nat) (d : Dom), DomOk bs.length d -> DomZ bs.length d -> weight bs.length d + (if d.again then 1 else 0) <= n -> (d.again = false -> DomFix bs d) -> DomFix bs (domIter bs n d)
 | 0, d, ok, hz, hw, hf => by
  cases ha : d.again with
  | false => exact hf ha
  | true => rw [ha, if_pos rfl] at hw; omega
 | n + 1, d, ok, hz, hw, hf => by
  cases ha : d.again with
  | false => rw [domIter, if_neg (by rw [ha]; decide)]; exact hf ha
  | true =>
   obtain ⟨n', e, h1, h2, h3⟩ := round ok h hw ha
   have : n = n' := by omega
   subst this
   have ok0 : DomOk bs.length { d with again := false } := ⟨ok.len, ok.le, ok.self⟩
   have hz1 : DomZ bs.length (domPass 0 bs { d with again := false }) := pass_z (by omega) ok0 h hz
   rw [h1]
   refine domIter_fix h n _ h2 hz1 h3 λ ha2 => ?_
   have e2 := again_keep (pass_w (l := bs) (k := 0) (by omega) ok0 h) ha2
   have hfx := pass_fix (l := bs) (k := 0) (by omega) ok0 h ha2
   rw [e2] at hz1 ⊢
   exact ⟨ok0, hz1.1, hz1.2, λ k b hb hs => by have := hfx k b hb (by rw [Yaw]; exact hs); rwa [Yaw] at this⟩
theorem dom_fix {bs : List SBlock} (h0 : 0 < bs.length) (hn : bs.length <= 128) (h : ∀ b ∈ bs, ∀ e ∈ b.term.to, 1 <= e.block /\ e.block < bs.length) : DomFix bs (domF bs) := by
 refine domIter_fix h _ _ (start_ok h0 hn) ⟨?_, ?_⟩ ?_ λ h => by cases h
 .show (BSet.with noSet 0).has 0 = true
  rw [has_with _ (by omega) (by omega)]
  simp
 .unfold domStart Dom.at
  rw [Yo, if_pos rfl, if_pos (by simpa using h0)]
  rfl
 .have := start_w bs.length
  have ha : (domStart bs.length).again = true := rfl
  rw [ha, if_pos rfl, domFuel]
  omega
inductive Way (bs : List SBlock) : List Nat -> Nat -> Prop where
 | start : Way bs [] 0
 | step {l : List Nat} {p k : Nat} : Way bs l p -> Edge bs p k -> Way bs (p :: l) k
theorem dom_way {bs : List SBlock} {d : Dom} (hd : DomFix bs d) (h : ∀ b ∈ bs, ∀ e ∈ b.term.to, 1 <= e.block /\ e.block < bs.length) {l : List Nat} {k : Nat} (hw : Way bs l k) : d.seen.has k = true /\ k < 128 /\ ∀ j, j < 128 -> (d.at k).has j = true -> j = k \/ j ∈ l := by
 induction hw with
 | start =>
  refine ⟨hd.seen0, by omega, λ j hj hh => ?_⟩
  rw [hd.at0, has_with _ (by omega) hj, has_no, Bool.false_or, decide_eq_true_eq] at hh
  exact .inl hh
 | @step l p k hw he ih =>
  obtain ⟨hs, hp, ih⟩ := ih
  obtain ⟨e, hem, rfl⟩ := he
  obtain ⟨b, hb, hem⟩ : ∃ b, bs[p]? = some b /\ e ∈ b.term.to := by
   unfold toAt at hem
   cases hb : bs[p]? with
   | none => rw [hb] at hem; cases hem
   | some b => rw [hb] at hem; exact ⟨b, rfl, hem⟩
  have hr := h b (Ye hb) e hem
  have hn := hd.ok.le
  have ht : e.block.toNat < 128 := by omega
  have hfx := hd.fix p b hb hs e hem
  unfold domEdge at hfx
  dsimp only at hfx
  split at hfx
  .rename_i hc
   -- a change cannot leave all as it was
   exfalso
   have h1 : (d.over.set e.block.toNat (((d.at e.block.toNat).both (d.at p)).with e.block.toNat))[e.block.toNat]? = d.over[e.block.toNat]? := by
    have := congrArg Dom.over hfx
    dsimp only at this
    rw [this]
   have h2 := congrArg Dom.seen hfx
   dsimp only at h2
   rcases hc with hc | hc
   .rw [Yo, if_pos rfl, if_pos (by rw [hd.ok.len]; omega)] at h1
    have h3 : d.at e.block.toNat = ((d.at e.block.toNat).both (d.at p)).with e.block.toNat := (congrArg (λ o : Option BSet => o.getD noSet) h1).symm
    exact hc h3.symm
   .rw [<- h2, has_with _ ht ht] at hc
    simp at hc
  .rename_i hc
   rw [not_or] at hc
   obtain ⟨h1, h2⟩ := hc
   have h1 := Classical.not_not.1 h1
   refine ⟨by simpa using h2, ht, λ j hj hh => ?_⟩
   rw [<- h1, has_with _ ht hj, has_both, Bool.or_eq_true, Bool.and_eq_true, decide_eq_true_eq] at hh
   rcases hh with hh | hh
   .rcases ih j hj hh.2 with h3 | h3
    .exact .inr (by rw [h3]; exact Ya ..)
    .exact .inr (Yd _ h3)
   .exact .inl hh
def Doms (bs : List SBlock) (x v : Nat) : Prop := ∀ l, Way bs l v -> x = v \/ x ∈ l
theorem doms_pred {bs : List SBlock} {x p v : Nat} (h : Doms bs x v) (hx : x ≠ v) (he : Edge bs p v) : Doms bs x p := λ l hl => by
 rcases h _ (.step hl he) with e | e
 .exact absurd e hx
 .rcases Yc.1 e with e | e
  .exact .inl e
  .exact .inr e
section
variable {bs : List SBlock} (ho : OrderOk bs (orderF bs)) (hE : ∀ b ∈ bs, ∀ e ∈ b.term.to, 1 <= e.block /\ e.block < bs.length) {ov : List Int}
include ho
end
theorem way_order {f : SFunc} (hf : FuncOk f) {l : List Nat} {v : Nat} (hw : Way f.blocks l v) : v ∈ orderF f.blocks := by
 have ho := order_ok hf.pos hf.edges
 induction hw with
 | start => exact zero_mem ho
 | step hw he ih => exact edge_mem ho ih he
theorem order_way {f : SFunc} (hf : FuncOk f) : ∀ (n v : Nat), pos f.blocks v < n -> v ∈ orderF f.blocks -> ∃ l, Way f.blocks l v
 | 0, v, hn, _ => by omega
 | n + 1, v, hn, hv => by
  have ho := order_ok hf.pos hf.edges
  by_cases h0 : v = 0
  .subst h0; exact ⟨[], .start⟩
  .obtain ⟨p, hp, hlt, he⟩ := par_of ho hv h0
   obtain ⟨l, hl⟩ := order_way hf n p (by omega) hp
   exact ⟨p :: l, .step hl he⟩
theorem order_iff {f : SFunc} (hf : FuncOk f) {v : Nat} : v ∈ orderF f.blocks ↔ ∃ l, Way f.blocks l v := ⟨λ h => order_way hf _ v (Nat.lt_succ_self _) h, λ ⟨l, h⟩ => way_order hf h⟩
structure DomMost (bs : List SBlock) (d : Dom) : Prop where
 most : ∀ k j : Nat, k < bs.length -> j < bs.length -> Doms bs j k -> (d.at k).has j = true
 seen : ∀ k : Nat, k < 128 -> d.seen.has k = true -> ∃ l, Way bs l k
theorem most_start {bs : List SBlock} (h0 : 0 < bs.length) (hn : bs.length <= 128) : DomMost bs (domStart bs.length) := by
 refine ⟨λ k j hk hj hd => ?_, λ k hk hs => ?_⟩
 .unfold domStart Dom.at
  dsimp only
  rw [Yo]
  split
  .rename_i e
   subst e
   rw [if_pos (by simpa using h0)]
   rcases hd [] .start with e | e
   .subst e
    show (BSet.with noSet 0).has 0 = true
    rw [has_with _ (by omega) (by omega)]
    simp
   .cases e
  .rw [Yw, if_pos hk]
   show (allSet bs.length).has j = true
   rw [has_all _ hn j (by omega)]
   exact decide_eq_true hj
 .have hs : (BSet.with noSet 0).has k = true := hs
  rw [has_with _ (by omega) hk, has_no, Bool.false_or, decide_eq_true_eq] at hs
  subst hs
  exact ⟨[], .start⟩
theorem most_edge {bs : List SBlock} (hn : bs.length <= 128) {d : Dom} (ok : DomOk bs.length d) {k : Nat} {e : SEdge} (hk : k < bs.length) (he : e ∈ toAt bs k) (h1 : 1 <= e.block) (h2 : e.block < bs.length) (hs : d.seen.has k = true) (h : DomMost bs d) : DomMost bs (domEdge k d e) := by
 unfold domEdge
 dsimp only
 have hte : Edge bs k e.block.toNat := ⟨e, he, rfl⟩
 split
 .refine ⟨λ v j hv hj hd => ?_, λ v hv hsv => ?_⟩
  .rw [at_set (by rw [ok.len]; omega)]
   split
   .rename_i e1
    subst e1
    rw [has_with _ (by omega) (by omega), has_both]
    by_cases hjt : j = e.block.toNat
    .rw [decide_eq_true hjt, Bool.or_true]
    .rw [h.most _ j hv hj hd, h.most k j hk hj (doms_pred hd hjt hte)]
     rfl
   .exact h.most v j hv hj hd
  .have hsv : (d.seen.with e.block.toNat).has v = true := hsv
   rw [has_with _ (by omega) hv, Bool.or_eq_true, decide_eq_true_eq] at hsv
   rcases hsv with hsv | rfl
   .exact h.seen v hv hsv
   .obtain ⟨l, hl⟩ := h.seen k (by omega) hs
    exact ⟨_, .step hl hte⟩
 .exact h
theorem seen_edge {n k : Nat} {d : Dom} {e : SEdge} (hn : n <= 128) (hk : k < n) (h1 : 1 <= e.block) (h2 : e.block < n) (hs : d.seen.has k = true) : (domEdge k d e).seen.has k = true := by
 unfold domEdge
 dsimp only
 split
 .rw [has_with _ (by omega) (by omega), hs]; rfl
 .exact hs
theorem most_edges {bs : List SBlock} (hn : bs.length <= 128) {k : Nat} (hk : k < bs.length) : ∀ {l : List SEdge} {d : Dom}, DomOk bs.length d -> (∀ e ∈ l, e ∈ toAt bs k) -> (∀ e ∈ l, 1 <= e.block /\ e.block < bs.length) -> d.seen.has k = true -> DomMost bs d -> DomMost bs (l.foldl (domEdge k) d)
 | [], d, _, _, _, _, h => h
 | e :: l, d, ok, hl, hb, hs, h => by
  have he := hb e (Ya ..)
  show DomMost bs (l.foldl (domEdge k) (domEdge k d e))
  exact most_edges hn hk (l := l) (domEdge_w ok hk he.1 he.2).1 (λ x hx => hl x (Yd _ hx)) (λ x hx => hb x (Yd _ hx)) (seen_edge hn hk he.1 he.2 hs) (most_edge hn ok hk (hl e (Ya ..)) he.1 he.2 hs h)
theorem most_block {bs : List SBlock} (hn : bs.length <= 128) {k : Nat} {b : SBlock} {d : Dom} (hb : bs[k]? = some b) (ok : DomOk bs.length d) (hE : ∀ e ∈ b.term.to, 1 <= e.block /\ e.block < bs.length) (h : DomMost bs d) : DomMost bs (domBlock d k b) := by
 unfold domBlock
 split
 .rename_i hs
  exact most_edges hn (Yb.1 hb).1 ok (λ e he => by rw [toAt_get hb]; exact he) hE hs h
 .exact h
theorem most_pass {bs : List SBlock} (hn : bs.length <= 128) (hE : ∀ b ∈ bs, ∀ e ∈ b.term.to, 1 <= e.block /\ e.block < bs.length) : ∀ {l : List SBlock} {k : Nat} {d : Dom}, bs.drop k = l -> DomOk bs.length d -> DomMost bs d -> DomMost bs (domPass k l d)
 | [], k, d, _, _, h => h
 | c :: l, k, d, hl, ok, h => by
  have hb : bs[k]? = some c := by
   have h9 : (bs.drop k)[0]? = some c := by rw [hl]; rfl
   rwa [List.getElem?_drop, Yax] at h9
  have hl2 : bs.drop (k + 1) = l := by
   have h9 : (bs.drop k).drop 1 = l := by rw [hl]; rfl
   rwa [List.drop_drop] at h9
  have hk := (Yb.1 hb).1
  have hc := hE c (Ye hb)
  show DomMost bs (domPass (k + 1) l (domBlock d k c))
  exact most_pass hn hE hl2 (block_w hk ok hc).1 (most_block hn hb ok hc h)
theorem most_iter {bs : List SBlock} (hn : bs.length <= 128) (hE : ∀ b ∈ bs, ∀ e ∈ b.term.to, 1 <= e.block /\ e.block < bs.length) : ∀ (n : Nat) (d : Dom), DomOk bs.length d -> DomMost bs d -> DomMost bs (domIter bs n d)
 | 0, d, _, h => h
 | n + 1, d, ok, h => by
  rw [domIter]
  split
  .have ok0 : DomOk bs.length { d with again := false } := ⟨ok.len, ok.le, ok.self⟩
   exact most_iter hn hE n _ (pass_w (l := bs) (k := 0) (by omega) ok0 hE).1 (most_pass hn hE rfl ok0 ⟨h.most, h.seen⟩)
  .exact h
theorem dom_most {bs : List SBlock} (h0 : 0 < bs.length) (hn : bs.length <= 128) (hE : ∀ b ∈ bs, ∀ e ∈ b.term.to, 1 <= e.block /\ e.block < bs.length) : DomMost bs (domF bs) := most_iter hn hE _ _ (start_ok h0 hn) (most_start h0 hn)
theorem has_iff {bs : List SBlock} (h0 : 0 < bs.length) (hn : bs.length <= 128) (hE : ∀ b ∈ bs, ∀ e ∈ b.term.to, 1 <= e.block /\ e.block < bs.length) {k j : Nat} (hk : ∃ l, Way bs l k) (hkl : k < bs.length) (hj : j < bs.length) : ((domF bs).at k).has j = true ↔ Doms bs j k :=
 ⟨λ h l hw => (dom_way (dom_fix h0 hn hE) hE hw).2.2 j (by omega) h, (dom_most h0 hn hE).most k j hkl hj⟩
theorem seen_iff {bs : List SBlock} (h0 : 0 < bs.length) (hn : bs.length <= 128) (hE : ∀ b ∈ bs, ∀ e ∈ b.term.to, 1 <= e.block /\ e.block < bs.length) {k : Nat} (hk : k < 128) : (domF bs).seen.has k = true ↔ ∃ l, Way bs l k :=
 ⟨(dom_most h0 hn hE).seen k hk, λ ⟨l, hw⟩ => (dom_way (dom_fix h0 hn hE) hE hw).1⟩
abbrev keys (d : Defs) : List Int := d.map (·.1)
structure KOk (d new : Defs) : Prop where
 wi : ∀ x ∈ keys new, wi x 0 4095 = true
 nodup : (keys new).Nodup
 fresh : ∀ x ∈ keys new, x ∉ keys d
theorem kok_nil (d : Defs) : KOk d [] := ⟨by simp, by simp, by simp⟩
theorem kok_append {d a b : Defs} : KOk d (a ++ b) ↔ KOk d a /\ KOk (d ++ a) b := by
 constructor
 .rintro ⟨h1, h2, h3⟩
  simp only [keys, Yx] at h1 h2 h3
  obtain ⟨n1, n2, n3⟩ := Yae.1 h2
  refine ⟨⟨λ x hx => h1 x (Yy _ hx), n1, λ x hx => h3 x (Yy _ hx)⟩, ⟨λ x hx => h1 x (Yaj _ hx), n2, λ x hx => ?_⟩⟩
  simp only [keys, Yx, Yt, not_or]
  exact ⟨h3 x (Yaj _ hx), λ hm => n3 x hm x hx rfl⟩
 .rintro ⟨⟨a1, a2, a3⟩, ⟨b1, b2, b3⟩⟩
  simp only [keys, Yx] at b3
  refine ⟨λ x hx => ?_, ?_, λ x hx => ?_⟩ <;> simp only [keys, Yx] at *
  .rcases Yt.1 hx with h | h
   .exact a1 x h
   .exact b1 x h
  .exact Yae.2 ⟨a2, b2, λ x hx y hy e => by subst e; exact b3 x hy (Yaj _ hx)⟩
  .rcases Yt.1 hx with h | h
   .exact a3 x h
   .exact λ hm => b3 x h (Yy _ hm)
theorem kok_one {d : Defs} {v : Int} {p : Int × Int} : KOk d [(v, p)] ↔ wi v 0 4095 = true /\ v ∉ keys d := by
 constructor
 .rintro ⟨h1, _, h3⟩
  exact ⟨h1 v (by simp), h3 v (by simp)⟩
 .rintro ⟨h1, h2⟩
  exact ⟨λ x hx => by simp at hx; subst hx; exact h1, by simp, λ x hx => by simp at hx; subst hx; exact h2⟩
theorem dget_out {v : Int} : ∀ {d : Defs}, dget d v = none ↔ v ∉ keys d
 | [] => by simp [dget]
 | (k, p) :: d => by
  rw [dget]
  split
  .rename_i e
   subst e
   simp
  .rename_i e
   rw [dget_out]
   simp only [keys, Yv, Yc, not_or]
   exact ⟨λ h => ⟨λ e2 => e e2.symm, h⟩, λ h => h.2⟩
theorem define_iff {v : Int} {p : Int × Int} {d : Defs} : (defineF v p d).1 = 0 ↔ KOk d [(v, p)] := by
 rw [kok_one]
 unfold defineF
 cases hw : wi v 0 4095 with
 | false => simp
 | true =>
  rw [if_neg (by decide)]
  cases hd : dget d v with
  | none =>
   rw [if_neg (by decide)]
   exact ⟨λ _ => ⟨rfl, dget_out.1 hd⟩, λ _ => rfl⟩
  | some x =>
   rw [if_pos (show (some x).isSome = true from rfl)]
   have : ¬ v ∉ keys d := λ h => by rw [dget_out.2 h] at hd; cases hd
   exact ⟨λ h => absurd (show (7 : Int) = 0 from h) (by decide), λ h => absurd h.2 this⟩
theorem define_eq {v : Int} {p : Int × Int} {d : Defs} (h : (defineF v p d).1 = 0) : (defineF v p d).2 = d ++ [(v, p)] := by
 have h2 := h
 rw [define_iff, kok_one] at h2
 unfold defineF
 rw [if_neg (by rw [h2.1]; decide), dget_out.2 h2.2, if_neg (by decide)]
theorem params_iff {k : Int} : ∀ {ps : List Int} {d : Defs}, ((paramsF k ps d).1 = 0 ↔ KOk d (defsP k ps)) /\ ((paramsF k ps d).1 = 0 -> (paramsF k ps d).2 = d ++ defsP k ps)
 | [], d => ⟨⟨λ _ => kok_nil d, λ _ => rfl⟩, λ _ => by simp [paramsF, defsP]⟩
 | p :: ps, d => by
  have hc : defsP k (p :: ps) = [(p, (k, 0))] ++ defsP k ps := rfl
  rw [hc, kok_append, paramsF]
  by_cases h : (defineF p (k, 0) d).1 = 0
  .rw [if_neg (λ h2 => h2 h)]
   have he := define_eq h
   obtain ⟨h1, h2⟩ := params_iff (k := k) (ps := ps) (d := (defineF p (k, 0) d).2)
   rw [he] at h1 h2
   rw [he]
   exact ⟨⟨λ h3 => ⟨define_iff.1 h, h1.1 h3⟩, λ h3 => h1.2 h3.2⟩, λ h3 => by rw [h2 h3, Yp]⟩
  .rw [if_pos h]
   exact ⟨⟨λ h3 => absurd h3 h, λ h3 => absurd (define_iff.2 h3.1) h⟩, λ h3 => absurd h3 h⟩
theorem inss_iff {k : Int} : ∀ {is : List SIns} {n : Int} {d : Defs}, ((inssF k n is d).1 = 0 ↔ KOk d (defsI k n is) /\ ∀ i ∈ is, formF i = 0) /\ ((inssF k n is d).1 = 0 -> (inssF k n is d).2 = d ++ defsI k n is)
 | [], n, d => ⟨⟨λ _ => ⟨kok_nil d, λ i hi => by cases hi⟩, λ _ => rfl⟩, λ _ => by simp [inssF, defsI]⟩
 | i :: is, n, d => by
  have hc : defsI k n (i :: is) = [(i.to, (k, n + 1))] ++ defsI k (n + 1) is := rfl
  rw [hc, kok_append, inssF]
  by_cases h : (defineF i.to (k, n + 1) d).1 = 0
  .rw [if_neg (λ h2 => h2 h)]
   have he := define_eq h
   by_cases hf : formF i = 0
   .rw [if_neg (λ h2 => h2 hf)]
    obtain ⟨h1, h2⟩ := inss_iff (k := k) (is := is) (n := n + 1) (d := (defineF i.to (k, n + 1) d).2)
    rw [he] at h1 h2
    rw [he]
    refine ⟨⟨λ h3 => ?_, λ h3 => ?_⟩, λ h3 => by rw [h2 h3, Yp]⟩
    .have h4 := h1.1 h3
     refine ⟨⟨define_iff.1 h, h4.1⟩, λ j hj => ?_⟩
     rcases Yc.1 hj with rfl | hj
     .exact hf
     .exact h4.2 j hj
    .exact h1.2 ⟨h3.1.2, λ j hj => h3.2 j (Yd _ hj)⟩
   .rw [if_pos hf]
    exact ⟨⟨λ h3 => absurd h3 hf, λ h3 => absurd (h3.2 i (Ya ..)) hf⟩, λ h3 => absurd h3 hf⟩
  .rw [if_pos h]
   exact ⟨⟨λ h3 => absurd h3 h, λ h3 => absurd (define_iff.2 h3.1.1) h⟩, λ h3 => absurd h3 h⟩
theorem block_iff {bs : List SBlock} {k : Int} {b : SBlock} {d : Defs} : ((blockF bs k b d).1 = 0 ↔ KOk d (defsB k b) /\ blockOk bs b) /\ ((blockF bs k b d).1 = 0 -> (blockF bs k b d).2 = d ++ defsB k b) := by
 unfold blockF defsB blockOk
 rw [kok_append]
 obtain ⟨p1, p2⟩ := params_iff (k := k) (ps := b.params) (d := d)
 by_cases hp : (paramsF k b.params d).1 = 0
 .rw [if_neg (λ h => h hp)]
  rw [p2 hp]
  obtain ⟨i1, i2⟩ := inss_iff (k := k) (is := b.ins) (n := 0) (d := d ++ defsP k b.params)
  by_cases hi : (inssF k 0 b.ins (d ++ defsP k b.params)).1 = 0
  .rw [if_neg (λ h => h hi)]
   dsimp only
   rw [i2 hi]
   exact ⟨⟨λ h => ⟨⟨p1.1 hp, (i1.1 hi).1⟩, (i1.1 hi).2, h⟩, λ h => h.2.2⟩, λ h => Yp ..⟩
  .rw [if_pos hi]
   exact ⟨⟨λ h => absurd h hi, λ h => absurd (i1.2 ⟨h.1.2, h.2.1⟩) hi⟩, λ h => absurd h hi⟩
 .rw [if_pos hp]
  exact ⟨⟨λ h => absurd h hp, λ h => absurd (p1.2 h.1.1) hp⟩, λ h => absurd h hp⟩
theorem blocks_iff {bs : List SBlock} : ∀ {l : List SBlock} {k : Int} {d : Defs}, ((blocksF bs k l d).1 = 0 ↔ KOk d (defsL k l) /\ ∀ b ∈ l, blockOk bs b) /\ ((blocksF bs k l d).1 = 0 -> (blocksF bs k l d).2 = d ++ defsL k l)
 | [], k, d => ⟨⟨λ _ => ⟨kok_nil d, λ i hi => by cases hi⟩, λ _ => rfl⟩, λ _ => by simp [blocksF, defsL]⟩
 | b :: l, k, d => by
  rw [defsL, kok_append, blocksF]
  obtain ⟨b1, b2⟩ := block_iff (bs := bs) (k := k) (b := b) (d := d)
  by_cases h : (blockF bs k b d).1 = 0
  .rw [if_neg (λ h2 => h2 h), b2 h]
   obtain ⟨h1, h2⟩ := blocks_iff (bs := bs) (l := l) (k := k + 1) (d := d ++ defsB k b)
   refine ⟨⟨λ h3 => ?_, λ h3 => ?_⟩, λ h3 => by rw [h2 h3, Yp]⟩
   .have h4 := h1.1 h3
    refine ⟨⟨(b1.1 h).1, h4.1⟩, λ j hj => ?_⟩
    rcases Yc.1 hj with rfl | hj
    .exact (b1.1 h).2
    .exact h4.2 j hj
   .exact h1.2 ⟨h3.1.2, λ j hj => h3.2 j (Yd _ hj)⟩
  .rw [if_pos h]
   exact ⟨⟨λ h3 => absurd h3 h, λ h3 => absurd (b1.2 ⟨h3.1.1, h3.2 b (Ya ..)⟩) h⟩, λ h3 => absurd h3 h⟩
theorem dget_at {v : Int} {p : Int × Int} : ∀ {d : Defs}, (keys d).Nodup -> (dget d v = some p ↔ (v, p) ∈ d)
 | [], _ => by simp [dget]
 | (k, q) :: d, h => by
  obtain ⟨h1, h2⟩ := Yak.1 (show (k :: keys d).Nodup from h)
  rw [dget]
  split
  .rename_i e
   subst e
   constructor
   .intro e; injection e with e; subst e; exact Ya ..
   .intro hm
    rcases Yc.1 hm with e | hm
    .injection e with _ e; rw [e]
    .exact absurd (Yi.2 ⟨_, hm, rfl⟩) h1
  .rename_i e
   rw [dget_at h2]
   constructor
   .intro hm; exact Yd _ hm
   .intro hm
    rcases Yc.1 hm with e2 | hm
    .injection e2 with e2 _; exact absurd e2.symm e
    .exact hm
def dI : Int -> List SIns -> List (Int × Int)
 | _, [] => []
 | n, i :: is => (i.to, n + 1) :: dI (n + 1) is
def dB (b : SBlock) : List (Int × Int) := b.params.map (λ p => (p, 0)) ++ dI 0 b.ins
theorem defsI_eq (k : Int) : ∀ (is : List SIns) (n : Int), defsI k n is = (dI n is).map λ e => (e.1, (k, e.2))
 | [], n => rfl
 | i :: is, n => by rw [defsI, dI, Yv, defsI_eq k is]
theorem defsB_eq (k : Int) (b : SBlock) : defsB k b = (dB b).map λ e => (e.1, (k, e.2)) := by
 unfold defsB dB defsP
 rw [Yx, Yaf, defsI_eq]
 rfl
theorem defsL_at {x : Int × Int × Int} : ∀ {l : List SBlock} {k : Int}, x ∈ defsL k l ↔ ∃ (j : Nat) (b : SBlock), l[j]? = some b /\ x.2.1 = k + j /\ (x.1, x.2.2) ∈ dB b
 | [], k => by simp [defsL]
 | c :: l, k => by
  rw [defsL, Yt, defsL_at (l := l), defsB_eq, Yi]
  constructor
  .rintro (⟨e, he, rfl⟩ | ⟨j, b, hb, h1, h2⟩)
   .exact ⟨0, c, rfl, by simp, he⟩
   .exact ⟨j + 1, b, by simpa using hb, by rw [h1]; simp; omega, h2⟩
  .rintro ⟨j, b, hb, h1, h2⟩
   cases j with
   | zero =>
    have hb : c = b := by simpa using hb
    subst hb
    refine .inl ⟨_, h2, ?_⟩
    obtain ⟨a, b, e⟩ := x
    have h1 : b = k + (0 : Nat) := h1
    rw [show b = k by rw [h1]; simp]
   | succ j => exact .inr ⟨j, b, by simpa using hb, by rw [h1]; simp; omega, h2⟩
theorem keysI_len : ∀ (is : List SIns) (n : Int), (dI n is).length = is.length
 | [], n => rfl
 | i :: is, n => by rw [dI, Yf, keysI_len is, Yf]
def insN : List SBlock -> Nat
 | [] => 0
 | b :: l => b.ins.length + insN l
theorem keysL : ∀ (l : List SBlock) (k : Int), keys (defsL k l) = l.flatMap λ b => (dB b).map (·.1)
 | [], k => rfl
 | b :: l, k => by
  rw [defsL, keys, Yx, Yz]
  have h := keysL l (k + 1)
  rw [keys] at h
  rw [h, defsB_eq, Yaf]
  rfl
theorem insN_le : ∀ (l : List SBlock), insN l <= (l.flatMap λ b => (dB b).map (·.1)).length
 | [] => Yau _
 | b :: l => by
  have h := insN_le l
  rw [insN, Yz, Yu, Yg, dB, Yu, keysI_len]
  omega
theorem nodup_wi {l : List Int} (h : l.Nodup) (hw : ∀ x ∈ l, wi x 0 4095 = true) : l.length <= 4096 := by
 have h1 := nodup_lt (l := l.map Int.toNat) (n := 4096) ?_ λ v hv => by
  obtain ⟨x, hx, rfl⟩ := Yi.1 hv
  have := wi_iff.1 (hw x hx)
  omega
 .rwa [Yg] at h1
 .rw [List.Nodup, Yar]
  refine List.Pairwise.imp_of_mem (λ {a c} ha hc hne e => hne ?_) h
  have h1 := wi_iff.1 (hw a ha)
  have h2 := wi_iff.1 (hw c hc)
  omega
theorem count_eq : ∀ (l : List SBlock) (n : Int), 0 <= n -> n + insN l <= 9223372036854775807 -> countIns n l = n + insN l
 | [], n, _, _ => by simp [countIns, insN]
 | b :: l, n, h0, h => by
  rw [insN] at h
  rw [countIns, insN]
  have e : IntKind.i64.wrap (n + b.ins.length) = n + b.ins.length := by rw [IntKind.wrap_i64]; omega
  rw [e, count_eq l _ (by omega) (by omega)]
  omega
structure FuncIs (f : SFunc) : Prop where
 pos : 0 < f.blocks.length
 len : f.blocks.length <= 128
 ins : insN f.blocks <= 1024
 params : (paramsOf f.blocks 0).length <= 6
 name : wi f.name (-1) 1048575 = true
 kok : KOk [] (defsL 0 f.blocks)
 block : ∀ b ∈ f.blocks, blockOk f.blocks b
 uses : usesF (defsL 0 f.blocks) (domF f.blocks) 0 f.blocks = 0
theorem func_iff {f : SFunc} : funcF f = 0 ↔ FuncIs f := by
 constructor
 .intro h
  have hok := func_ok h
  obtain ⟨h1, h2⟩ := blocks_iff (bs := f.blocks) (l := f.blocks) (k := 0) (d := [])
  have h3 := h1.1 hok.blocks
  have h4 := h2 hok.blocks
  have hu := hok.uses
  rw [h4, Yaa] at hu
  have hl := nodup_wi h3.1.nodup h3.1.wi
  rw [keysL] at hl
  have hi := insN_le f.blocks
  have hc := hok.ins
  rw [count_eq _ _ (by omega) (by omega)] at hc
  exact ⟨hok.pos, hok.len, by omega, hok.params, wi_iff.2 hok.name, h3.1, h3.2, hu⟩
 .intro h
  obtain ⟨h1, h2⟩ := blocks_iff (bs := f.blocks) (l := f.blocks) (k := 0) (d := [])
  have h3 := h1.2 ⟨h.kok, h.block⟩
  have h4 := h2 h3
  have a1 := h.pos
  have a2 := h.len
  have a3 := h.ins
  have a4 := h.params
  unfold funcF
  rw [if_neg (by omega), if_neg (by rw [count_eq _ _ (by omega) (by omega)]; omega), if_neg (by rw [h.name]; decide), if_neg (λ hn => hn h3), h4, Yaa]
  exact h.uses
def atF (f : SFunc) : List Int := placeF (reachL f) f.blocks.length
def reB (at_ : List Int) (b : SBlock) : SBlock := { b with term := { b.term with to := b.term.to.map λ e => ⟨gI at_ e.block, e.args⟩ } }
def pruneF (f : SFunc) : SFunc := ⟨f.name, (reachL f).map λ k => reB (atF f) (f.blocks[k.toNat]?.getD default)⟩
def reachN (f : SFunc) : List Nat := (Yr f.blocks.length).filter λ v => decide (v ∈ orderF f.blocks)
def rk (f : SFunc) (v : Nat) : Nat := (gI (atF f) v).toNat
theorem sorted_eq : ∀ {a b : List Int}, a.Pairwise (· < ·) -> b.Pairwise (· < ·) -> (∀ x, x ∈ a ↔ x ∈ b) -> a = b
 | [], [], _, _, _ => rfl
 | [], y :: b, _, _, h => by have := (h y).2 (Ya ..); cases this
 | x :: a, [], _, _, h => by have := (h x).1 (Ya ..); cases this
 | x :: a, y :: b, ha, hb, h => by
  obtain ⟨a1, a2⟩ := List.pairwise_cons.1 ha
  obtain ⟨b1, b2⟩ := List.pairwise_cons.1 hb
  have hxy : x = y := by
   rcases Yc.1 ((h x).1 (Ya ..)) with e | e
   .exact e
   .rcases Yc.1 ((h y).2 (Ya ..)) with e2 | e2
    .exact e2.symm
    .have := b1 x e
     have := a1 y e2
     omega
  subst hxy
  rw [sorted_eq a2 b2 λ z => ?_]
  constructor
  .intro hz
   rcases Yc.1 ((h z).1 (Yd _ hz)) with e | e
   .have := a1 z hz; omega
   .exact e
  .intro hz
   rcases Yc.1 ((h z).2 (Yd _ hz)) with e | e
   .have := b1 z hz; omega
   .exact e
section
variable {f : SFunc} (ho : OrderOk f.blocks (orderF f.blocks))
include ho
theorem reachN_mem {v : Nat} : v ∈ reachN f ↔ v ∈ orderF f.blocks := by
 unfold reachN
 rw [List.mem_filter, Yao, decide_eq_true_eq]
 exact ⟨λ h => h.2, λ h => ⟨ho.lt v h, h⟩⟩
omit ho in
theorem reachN_sorted : (reachN f).Pairwise (· < ·) := List.Pairwise.filter _ List.pairwise_lt_range
theorem reach_eq : reachL f = (reachN f).map λ k : Nat => (k : Int) := by
 refine sorted_eq ?_ ?_ λ x => ?_
 .have h1 := List.pairwise_mergeSort (le := λ (x y : Int) => decide (x <= y)) (λ a b c h1 h2 => by simp at h1 h2 ⊢; omega) (λ a b => by simp; omega) (ordZ f.blocks)
  have h2 : (reachL f).Nodup := (List.mergeSort_perm _ _).nodup_iff.2 (by
   unfold ordZ
   rw [List.Nodup, Yar]
   exact ho.nodup.imp λ hne e => hne (by omega))
  refine (List.pairwise_and_iff.2 ⟨h1, h2⟩).imp λ ⟨h3, h4⟩ => ?_
  have := of_decide_eq_true h3
  omega
 .rw [Yar]
  exact reachN_sorted.imp λ h => by omega
 .rw [Yi]
  constructor
  .intro hx
   have hx2 := hx
   rw [reachL, List.mem_mergeSort, ordZ, Yi] at hx2
   obtain ⟨v, hv, rfl⟩ := hx2
   exact ⟨v, (reachN_mem ho).2 hv, rfl⟩
  .rintro ⟨v, hv, rfl⟩
   exact reach_mem.2 ((reachN_mem ho).1 hv)
theorem at_of {v : Nat} (hv : v < f.blocks.length) : gI (atF f) v = -1 /\ v ∉ orderF f.blocks \/ v ∈ orderF f.blocks /\ gI (atF f) v = (rk f v : Nat) /\ (reachN f)[rk f v]? = some v := by
 have hg : (atF f)[v]? = some (idxOf (λ x => decide ((v : Int) = x)) (reachL f)) := by
  unfold atF placeF
  rw [Yn, Yaq hv]
  rfl
 have e := gI_get ho hg
 rw [reach_eq ho] at e
 rcases idx_nat (l := reachN f) (v := v) with ⟨h1, h2⟩ | ⟨i, h1, h2⟩
 .exact .inl ⟨by rw [e]; exact h1, λ h => h2 ((reachN_mem ho).2 h)⟩
 .have e2 : gI (atF f) v = (i : Nat) := by rw [e]; exact h1
  have e3 : rk f v = i := by unfold rk; rw [e2, Yaz]
  exact .inr ⟨(reachN_mem ho).1 (Ye h2), by rw [e3]; exact e2, by rw [e3]; exact h2⟩
theorem rk_get {v : Nat} (hv : v ∈ orderF f.blocks) : gI (atF f) v = (rk f v : Nat) /\ (reachN f)[rk f v]? = some v := by
 rcases at_of ho (ho.lt v hv) with ⟨_, h⟩ | ⟨_, h⟩
 .exact absurd hv h
 .exact h
omit ho in
theorem sorted_inj {l : List Nat} (h : l.Pairwise (· < ·)) {i j v : Nat} (hi : l[i]? = some v) (hj : l[j]? = some v) : i = j := by
 have hn : l.Nodup := h.imp λ h e => by omega
 obtain ⟨a1, a2⟩ := Yb.1 hi
 obtain ⟨b1, b2⟩ := Yb.1 hj
 exact (List.getElem_inj hn).1 (a2.trans b2.symm)
theorem rk_of {i v : Nat} (h : (reachN f)[i]? = some v) : v ∈ orderF f.blocks /\ rk f v = i := by
 have hv := (reachN_mem ho).1 (Ye h)
 exact ⟨hv, sorted_inj reachN_sorted (rk_get ho hv).2 h⟩
theorem rk_inj {v w : Nat} (hv : v ∈ orderF f.blocks) (hw : w ∈ orderF f.blocks) (h : rk f v = rk f w) : v = w := by
 have h1 := (rk_get ho hv).2
 rw [h, (rk_get ho hw).2] at h1
 injection h1 with h1
 exact h1.symm
theorem rk_zero : rk f 0 = 0 := by
 have h0 := zero_mem ho
 have h1 := (rk_get ho h0).2
 refine Classical.byContradiction λ hne => ?_
 obtain ⟨a1, a2⟩ := Yb.1 h1
 have h2 := List.pairwise_iff_getElem.1 (reachN_sorted (f := f)) 0 (rk f 0) (by omega) a1 (by omega)
 omega
omit ho in
theorem prune_len : (pruneF f).blocks.length = (reachL f).length := by unfold pruneF; rw [Yg]
theorem prune_blocks : (pruneF f).blocks = ((reachN f).map λ v => f.blocks[v]?.getD default).map (reB (atF f)) := by
 unfold pruneF
 rw [reach_eq ho, Yaf, Yaf]
 refine Yal λ v _ => ?_
 simp
theorem prune_get {i v : Nat} {b : SBlock} (h : (reachN f)[i]? = some v) (hb : f.blocks[v]? = some b) : (pruneF f).blocks[i]? = some (reB (atF f) b) := by
 rw [prune_blocks ho, Yn, Yn, h]
 simp [hb]
theorem prune_at {v : Nat} {b : SBlock} (hv : v ∈ orderF f.blocks) (hb : f.blocks[v]? = some b) : (pruneF f).blocks[rk f v]? = some (reB (atF f) b) := prune_get ho (rk_get ho hv).2 hb
theorem prune_of {i : Nat} {c : SBlock} (h : (pruneF f).blocks[i]? = some c) : ∃ v b, v ∈ orderF f.blocks /\ rk f v = i /\ f.blocks[v]? = some b /\ c = reB (atF f) b := by
 have hi := (Yb.1 h).1
 have hl : (pruneF f).blocks.length = (reachN f).length := by rw [prune_blocks ho]; simp
 obtain ⟨v, hv⟩ : ∃ v, (reachN f)[i]? = some v := ⟨_, Ys (by omega)⟩
 obtain ⟨hvo, hr⟩ := rk_of ho hv
 obtain ⟨b, hb⟩ : ∃ b, f.blocks[v]? = some b := ⟨_, Ys (ho.lt v hvo)⟩
 rw [prune_get ho hv hb] at h
 injection h with h
 exact ⟨v, b, hvo, hr, hb, h.symm⟩
theorem prune_edge {p v : Nat} (hp : p ∈ orderF f.blocks) (he : Edge f.blocks p v) (hE : ∀ b ∈ f.blocks, ∀ e ∈ b.term.to, 1 <= e.block /\ e.block < f.blocks.length) : Edge (pruneF f).blocks (rk f p) (rk f v) := by
 obtain ⟨e, he, hev⟩ := he
 obtain ⟨b, hb⟩ : ∃ b, f.blocks[p]? = some b := ⟨_, Ys (ho.lt p hp)⟩
 rw [toAt_get hb] at he
 have hem := hE b (Ye hb) e he
 refine ⟨⟨gI (atF f) e.block, e.args⟩, ?_, ?_⟩
 .rw [toAt_get (prune_at ho hp hb)]
  exact Yi.2 ⟨e, he, rfl⟩
 .unfold rk
  rw [show (v : Int) = e.block by omega]
theorem edge_prune {i j : Nat} (he : Edge (pruneF f).blocks i j) (hE : ∀ b ∈ f.blocks, ∀ e ∈ b.term.to, 1 <= e.block /\ e.block < f.blocks.length) : ∃ p v, p ∈ orderF f.blocks /\ v ∈ orderF f.blocks /\ rk f p = i /\ rk f v = j /\ Edge f.blocks p v := by
 obtain ⟨x, hx, hxj⟩ := he
 obtain ⟨c, hc⟩ : ∃ c, (pruneF f).blocks[i]? = some c := by
  unfold toAt at hx
  cases hb : (pruneF f).blocks[i]? with
  | none => rw [hb] at hx; cases hx
  | some c => exact ⟨c, rfl⟩
 obtain ⟨p, b, hp, hr, hb, rfl⟩ := prune_of ho hc
 rw [toAt_get hc] at hx
 obtain ⟨e, he, rfl⟩ := Yi.1 hx
 have hem := hE b (Ye hb) e he
 have hedge : Edge f.blocks p e.block.toNat := ⟨e, by rw [toAt_get hb]; exact he, rfl⟩
 have hv := edge_mem ho hp hedge
 refine ⟨p, e.block.toNat, hp, hv, hr, ?_, hedge⟩
 rw [<- hxj]
 unfold rk
 rw [show ((e.block.toNat : Nat) : Int) = e.block by omega]
theorem prune_way (hE : ∀ b ∈ f.blocks, ∀ e ∈ b.term.to, 1 <= e.block /\ e.block < f.blocks.length) {l : List Nat} {v : Nat} (hw : Way f.blocks l v) : v ∈ orderF f.blocks /\ (∀ y ∈ l, y ∈ orderF f.blocks) /\ Way (pruneF f).blocks (l.map (rk f)) (rk f v) := by
 induction hw with
 | start => exact ⟨zero_mem ho, (λ y hy => absurd hy (by simp)), (by rw [rk_zero ho]; exact .start : Way (pruneF f).blocks ([].map (rk f)) (rk f 0))⟩
 | @step l p k hw he ih =>
  obtain ⟨h1, h2, h3⟩ := ih
  refine ⟨edge_mem ho h1 he, λ y hy => ?_, .step h3 (prune_edge ho h1 he hE)⟩
  rcases Yc.1 hy with rfl | hy
  .exact h1
  .exact h2 y hy
theorem way_prune (hE : ∀ b ∈ f.blocks, ∀ e ∈ b.term.to, 1 <= e.block /\ e.block < f.blocks.length) {l : List Nat} {i : Nat} (hw : Way (pruneF f).blocks l i) : ∃ l0 v, Way f.blocks l0 v /\ l = l0.map (rk f) /\ rk f v = i := by
 induction hw with
 | start => exact ⟨[], 0, .start, rfl, rk_zero ho⟩
 | @step l p k hw he ih =>
  obtain ⟨l0, v, h1, rfl, rfl⟩ := ih
  obtain ⟨p, w, hp, hw2, e1, e2, hed⟩ := edge_prune ho he hE
  have hpv := rk_inj ho hp (prune_way ho hE h1).1 e1
  subst hpv
  exact ⟨p :: l0, w, .step h1 hed, rfl, e2⟩
theorem prune_doms (hE : ∀ b ∈ f.blocks, ∀ e ∈ b.term.to, 1 <= e.block /\ e.block < f.blocks.length) {x v : Nat} (hx : x ∈ orderF f.blocks) (hv : v ∈ orderF f.blocks) : Doms (pruneF f).blocks (rk f x) (rk f v) ↔ Doms f.blocks x v := by
 constructor
 .intro hd l hw
  obtain ⟨_, hl, hw2⟩ := prune_way ho hE hw
  rcases hd _ hw2 with e | e
  .exact .inl (rk_inj ho hx hv e)
  .obtain ⟨y, hy, e⟩ := Yi.1 e
   rw [<- rk_inj ho (hl y hy) hx e]
   exact .inr hy
 .intro hd l hw
  obtain ⟨l0, w, h1, rfl, e⟩ := way_prune ho hE hw
  have := rk_inj ho (prune_way ho hE h1).1 hv e
  subst this
  rcases hd _ h1 with e | e
  .exact .inl (by rw [e])
  .exact .inr (Yi.2 ⟨_, e, rfl⟩)
omit ho in
theorem base_sub : ((reachN f).map λ v => f.blocks[v]?.getD default).Sublist f.blocks := by
 have h1 : ((reachN f).map λ v => f.blocks[v]?.getD default).Sublist ((Yr f.blocks.length).map λ v => f.blocks[v]?.getD default) := (List.filter_sublist ..).map _
 have h2 : ((Yr f.blocks.length).map λ v => f.blocks[v]?.getD default) = f.blocks := by
  apply List.ext_getElem
  .simp
  .intro i a b
   simp [Ys b]
 rw [h2] at h1
 exact h1
end
theorem insN_sub : ∀ {a b : List SBlock}, a.Sublist b -> insN a <= insN b := λ h => by
 induction h with
 | slnil => exact Yau _
 | cons a _ ih => rw [insN]; omega
 | cons_cons a _ ih => rw [insN, insN]; omega
theorem insN_re (at_ : List Int) : ∀ l : List SBlock, insN (l.map (reB at_)) = insN l
 | [] => rfl
 | b :: l => by rw [Yv, insN, insN, insN_re at_ l]; rfl
theorem edgesF_iff {bs : List SBlock} : ∀ {l : List SEdge}, (∀ e ∈ l, 1 <= e.block /\ e.block < bs.length /\ e.args.length = (paramsOf bs e.block).length) -> edgesF bs l = 0
 | [], _ => rfl
 | e :: l, h => by
  have h1 := h e (Ya ..)
  rw [edgesF, if_neg (by rw [wi_iff.2 ⟨h1.1, by omega⟩]; decide), if_neg (λ hn => hn h1.2.2)]
  exact edgesF_iff λ x hx => h x (Yd _ hx)
theorem usesF_iff {d : Defs} {o : Dom} : ∀ {l : List SBlock} {k : Nat}, usesF d o k l = 0 ↔ ∀ (j : Nat) (b : SBlock), l[j]? = some b -> usesIns d o (k + j) 0 b.ins = true /\ usedF b.term (fineF d o (k + j) b.ins.length) = true
 | [], k => by simp [usesF]
 | c :: l, k => by
  rw [usesF]
  constructor
  .intro h j b hb
   split at h
   .cases h
   .rename_i h1
    split at h
    .cases h
    .rename_i h2
     cases j with
     | zero =>
      have hb : c = b := by simpa using hb
      subst hb
      exact ⟨by simpa using h1, by simpa using h2⟩
     | succ j =>
      have := usesF_iff.1 h j b (by simpa using hb)
      rwa [show k + 1 + j = k + (j + 1) by omega] at this
  .intro h
   have h0 := h 0 c rfl
   rw [Yax] at h0
   rw [if_neg (by rw [h0.1]; decide), if_neg (by rw [h0.2]; decide)]
   exact usesF_iff.2 λ j b hb => by
    have := h (j + 1) b (by simpa using hb)
    rwa [show k + (j + 1) = k + 1 + j by omega] at this
theorem usesIns_imp {d d' : Defs} {o o' : Dom} {k k' : Nat} (h : ∀ n u, fineF d o k n u = true -> fineF d' o' k' n u = true) : ∀ {is : List SIns} {n : Int}, usesIns d o k n is = true -> usesIns d' o' k' n is = true
 | [], n, _ => rfl
 | i :: is, n, hu => by
  rw [usesIns, Bool.and_eq_true, Yam] at hu ⊢
  exact ⟨λ u hu2 => h n u (hu.1 u hu2), usesIns_imp h hu.2⟩
theorem used_re {at_ : List Int} {t : STerm} {use use' : Int -> Bool} (h : ∀ u, use u = true -> use' u = true) (hu : usedF t use = true) : usedF { t with to := t.to.map λ e => ⟨gI at_ e.block, e.args⟩ } use' = true := by
 unfold usedF at hu ⊢
 dsimp only
 split at hu
 .cases hu
 .rename_i h1
  rw [if_neg (λ h2 => h1 ⟨h2.1, by
   cases hc : use t.arg with
   | false => rfl
   | true => rw [h _ hc] at h2; exact absurd h2.2 (by decide)⟩)]
  rw [Yam] at hu ⊢
  intro e he
  obtain ⟨x, hx, rfl⟩ := Yi.1 he
  have := hu x hx
  rw [Yam] at this ⊢
  exact λ u hu2 => h u (this u hu2)
theorem flat_sub {α β : Type} {g : α -> List β} {a b : List α} (h : a.Sublist b) : (a.flatMap g).Sublist (b.flatMap g) := by
 induction h with
 | slnil => exact .slnil
 | cons a _ ih => rw [Yz]; exact ih.trans (List.sublist_append_right ..)
 | cons_cons a _ ih => rw [Yz, Yz]; exact (List.Sublist.refl _).append ih
theorem mem_zero_key {d : Defs} : (∀ x ∈ keys d, x ∉ keys ([] : Defs)) := λ x _ h => by cases h
theorem prune_ok {f : SFunc} (h0 : funcF f = 0) : funcF (pruneF f) = 0 := by
 have hok := func_ok h0
 have ho := order_ok hok.pos hok.edges
 have hE := hok.edges
 have fi := func_iff.1 h0
 have hz := zero_mem ho
 have hlen : (pruneF f).blocks.length <= f.blocks.length := by
  rw [prune_blocks ho, Yg]
  exact (base_sub (f := f)).length_le
 have hgp : ∀ v : Nat, v ∈ orderF f.blocks -> rk f v < (pruneF f).blocks.length := λ v hv => by
  obtain ⟨b, hb⟩ : ∃ b, f.blocks[v]? = some b := ⟨_, Ys (ho.lt v hv)⟩
  exact (Yb.1 (prune_at ho hv hb)).1
 have hpos : 0 < (pruneF f).blocks.length := by have := hgp 0 hz; omega
 have hpar : ∀ v : Nat, v ∈ orderF f.blocks -> paramsOf (pruneF f).blocks (rk f v) = paramsOf f.blocks v := λ v hv => by
  obtain ⟨b, hb⟩ : ∃ b, f.blocks[v]? = some b := ⟨_, Ys (ho.lt v hv)⟩
  unfold paramsOf
  rw [Yaz, Yaz, prune_at ho hv hb, hb]
  rfl
 have hblk : ∀ c ∈ (pruneF f).blocks, blockOk (pruneF f).blocks c := λ c hc => by
  obtain ⟨i, hi⟩ := Ym hc
  obtain ⟨v, b, hv, hr, hb, rfl⟩ := prune_of ho hi
  obtain ⟨b1, b2⟩ := fi.block b (Ye hb)
  refine ⟨b1, ?_⟩
  have he := endF_ok b2
  unfold endF at b2 ⊢
  have hsh : shapeF (reB (atF f) b).term = shapeF b.term := by
   unfold shapeF reB
   simp only [Yg]
  rw [hsh, if_neg (by rw [he.shape]; decide)]
  change (if 256 < (b.term.cases.length : Int) then 2 else if b.term.kind = 4 /\ wi b.term.n 1 6 = false then 4 else if casesF [] b.term.cases ≠ 0 then casesF [] b.term.cases else edgesF (pruneF f).blocks (b.term.to.map λ e => ⟨gI (atF f) e.block, e.args⟩)) = 0
  rw [if_neg (by rw [he.shape]; decide)] at b2
  split at b2
  .cases b2
  .rename_i h2
   rw [if_neg h2]
   split at b2
   .cases b2
   .rename_i h3
    rw [if_neg h3]
    rw [if_neg (λ hn => hn he.cases)]
    refine edgesF_iff λ e hem => ?_
    obtain ⟨x, hx, rfl⟩ := Yi.1 hem
    obtain ⟨x1, x2, x3⟩ := he.edges x hx
    have hedge : Edge f.blocks v x.block.toNat := ⟨x, by rw [toAt_get hb]; exact hx, rfl⟩
    have hxo := edge_mem ho hv hedge
    obtain ⟨g1, g2⟩ := rk_get ho hxo
    rw [show ((x.block.toNat : Nat) : Int) = x.block by omega] at g1
    have hne : rk f x.block.toNat ≠ 0 := λ e => by
     have := rk_inj ho hxo hz (by rw [e, rk_zero ho])
     omega
    have hlt := hgp _ hxo
    have hp := hpar _ hxo
    dsimp only
    rw [g1]
    refine ⟨by omega, by omega, ?_⟩
    rw [hp, x3, show ((x.block.toNat : Nat) : Int) = x.block by omega]
 have hEg : ∀ b ∈ (pruneF f).blocks, ∀ e ∈ b.term.to, 1 <= e.block /\ e.block < (pruneF f).blocks.length := λ b hb e he => by
  have := (endF_ok (hblk b hb).2).edges e he
  exact ⟨this.1, this.2.1⟩
 have hkeys : keys (defsL 0 (pruneF f).blocks) = ((reachN f).map λ v => f.blocks[v]?.getD default).flatMap λ b => (dB b).map (·.1) := by
  rw [keysL, prune_blocks ho, List.flatMap_map]
  rfl
 have hsub : (keys (defsL 0 (pruneF f).blocks)).Sublist (keys (defsL 0 f.blocks)) := by
  rw [hkeys, keysL]
  exact flat_sub (base_sub (f := f))
 have hkok : KOk [] (defsL 0 (pruneF f).blocks) := ⟨λ x hx => fi.kok.wi x (hsub.subset hx), fi.kok.nodup.sublist hsub, mem_zero_key⟩
 have hlen128 := hok.len
 refine func_iff.2 ⟨hpos, by omega, ?_, ?_, fi.name, hkok, hblk, ?_⟩
 .have h1 := insN_sub (base_sub (f := f))
  have h2 := fi.ins
  rw [prune_blocks ho, insN_re]
  omega
 .have h1 := hpar 0 hz
  rw [rk_zero ho] at h1
  have h2 := fi.params
  rw [show ((0 : Nat) : Int) = 0 from rfl] at h1
  rw [h1]
  exact h2
 .refine usesF_iff.2 λ i c hi => ?_
  obtain ⟨v, b, hv, rfl, hb, rfl⟩ := prune_of ho hi
  have hu := usesF_iff.1 fi.uses v b hb
  rw [Yaw] at hu ⊢
  obtain ⟨l, hw⟩ := (order_iff hok).1 hv
  have hfine : ∀ n u, fineF (defsL 0 f.blocks) (domF f.blocks) v n u = true -> fineF (defsL 0 (pruneF f).blocks) (domF (pruneF f).blocks) (rk f v) n u = true := λ n u hf => by
   unfold fineF at hf
   cases hg : dget (defsL 0 f.blocks) u with
   | none => rw [hg] at hf; cases hf
   | some p =>
    rw [hg] at hf
    dsimp only at hf
    obtain ⟨j, bj, hbj, hp1, hp2⟩ := defsL_at.1 ((dget_at fi.kok.nodup).1 hg)
    obtain ⟨p1, q⟩ := p
    have hp1 : p1 = (0 : Int) + j := hp1
    rw [Int.zero_add] at hp1
    subst hp1
    have hp2 : (u, q) ∈ dB bj := hp2
    have hseen : (domF f.blocks).seen.has v = true := (seen_iff hok.pos hok.len hE (by have := ho.lt v hv; omega)).2 ⟨l, hw⟩
    have hcase : j ∈ orderF f.blocks /\ (j = v /\ q <= n \/ j ≠ v /\ Doms f.blocks j v) := by
     rw [hseen] at hf
     simp only [Bool.not_true, Bool.or_false, Bool.or_eq_true, Bool.and_eq_true, decide_eq_true_eq, Yaz] at hf
     rcases hf with ⟨h1, h2⟩ | ⟨h1, h2⟩
     .have : j = v := by omega
      subst this
      exact ⟨hv, .inl ⟨rfl, h2⟩⟩
     .have hd := (has_iff hok.pos hok.len hE ⟨l, hw⟩ (ho.lt v hv) (Yb.1 hbj).1).1 h2
      have hjo : j ∈ orderF f.blocks := by
       rcases hd l hw with e | e
       .rw [e]; exact hv
       .exact (prune_way ho hE hw).2.1 j e
      exact ⟨hjo, .inr ⟨λ e => h1 (by rw [e]), hd⟩⟩
    obtain ⟨hjo, hcase⟩ := hcase
    have hgj := prune_at ho hjo hbj
    have hg2 : dget (defsL 0 (pruneF f).blocks) u = some (((rk f j : Nat) : Int), q) := (dget_at hkok.nodup).2 (defsL_at.2 ⟨rk f j, _, hgj, by simp, hp2⟩)
    unfold fineF
    rw [hg2]
    dsimp only
    rcases hcase with ⟨rfl, h2⟩ | ⟨h1, h2⟩
    .simp [h2]
    .have hne : ((rk f j : Nat) : Int) ≠ (rk f v : Nat) := λ e => h1 (rk_inj ho hjo hv (by omega))
     have hh : ((domF (pruneF f).blocks).at (rk f v)).has (rk f j) = true := (has_iff hpos (by omega) hEg ⟨_, (prune_way ho hE hw).2.2⟩ (hgp v hv) (hgp j hjo)).2 ((prune_doms ho hE hjo hv).2 h2)
     rw [Yaz, hh]
     simp [hne]
  exact ⟨usesIns_imp hfine hu.1, used_re (hfine _) hu.2⟩
def renT (r : Int -> Int) (t : STerm) : STerm := { t with to := t.to.map λ e => ⟨r e.block, e.args⟩ }
structure Ren (u v : SUnit) (ρ : Int -> Int -> Int) (good : Int -> Int -> Prop) : Prop where
 main : v.main = u.main
 entry : ∀ k, entryOf v k = entryOf u k
 zero : ∀ fn, good fn 0 /\ ρ fn 0 = 0
 blk : ∀ fn k, good fn k -> (blockAt v fn (ρ fn k)).params = (blockAt u fn k).params /\ (blockAt v fn (ρ fn k)).ins = (blockAt u fn k).ins /\ (blockAt v fn (ρ fn k)).term = renT (ρ fn) (blockAt u fn k).term /\ ∀ e ∈ (blockAt u fn k).term.to, good fn e.block
def wst (s : List MFrame) (M : Mach) : Mach := { M with stack := s }
theorem pay_st (n : Int) (M : Mach) (s : List MFrame) : payF n (wst s M) = wst s (payF n M) := by
 unfold payF
 show (if M.left < n then _ else _) = _
 split <;> rfl
theorem alloc_st (a b : Val) (M : Mach) (s : List MFrame) : allocF a b (wst s M) = (wst s (allocF a b M).1, (allocF a b M).2) := by
 unfold allocF
 rw [pay_st]
 by_cases h1 : a.kind ≠ 0
 .rw [if_pos h1, if_pos h1]
 .rw [if_neg h1, if_neg h1]
  by_cases h2 : a.n < 0 \/ 1024 < a.n
  .rw [if_pos h2, if_pos h2]
  .rw [if_neg h2, if_neg h2]
   show (if (payF a.n M).short = true then _ else _) = _
   by_cases h3 : (payF a.n M).short = true
   .rw [if_pos h3, if_pos h3]
   .rw [if_neg h3, if_neg h3]; rfl
theorem effect_st (i : SIns) (args : List Val) (M : Mach) (s : List MFrame) : effectF i args (wst s M) = (wst s (effectF i args M).1, (effectF i args M).2) := by
 unfold effectF
 rw [alloc_st]
 show (if i.op = 15 then if (argAt args 0).kind ≠ 0 then _ else if (M.out.length : Int) = 1000 then _ else _ else if i.op = 16 then _ else if i.op = 18 then if allK 0 args = false then _ else if _ then _ else _ else if _ then _ else if i.op = 17 then _ else if (argAt args 1).n < 0 \/ ((arrOf M (argAt args 0)).length : Int) <= (argAt args 1).n then _ else if i.op = 19 then _ else _) = _
 by_cases h1 : i.op = 15
 .rw [if_pos h1, if_pos h1]
  by_cases h2 : (argAt args 0).kind ≠ 0
  .rw [if_pos h2, if_pos h2]
  .rw [if_neg h2, if_neg h2]
   by_cases h3 : (M.out.length : Int) = 1000
   .rw [if_pos h3, if_pos h3]
   .rw [if_neg h3, if_neg h3]; rfl
 .rw [if_neg h1, if_neg h1]
  by_cases h2 : i.op = 16
  .rw [if_pos h2, if_pos h2]
  .rw [if_neg h2, if_neg h2]
   by_cases h3 : i.op = 18
   .rw [if_pos h3, if_pos h3]
    by_cases h4 : allK 0 args = false
    .rw [if_pos h4, if_pos h4]
    .rw [if_neg h4, if_neg h4]
     by_cases h5 : (argAt args 0).n < 0 \/ (argAt args 1).n <= (argAt args 0).n
     .rw [if_pos h5, if_pos h5]
     .rw [if_neg h5, if_neg h5]
   .rw [if_neg h3, if_neg h3]
    by_cases h4 : (argAt args 0).kind ≠ 3 \/ i.op ≠ 17 /\ (argAt args 1).kind ≠ 0
    .rw [if_pos h4, if_pos h4]
    .rw [if_neg h4, if_neg h4]
     by_cases h5 : i.op = 17
     .rw [if_pos h5, if_pos h5]; rfl
     .rw [if_neg h5, if_neg h5]
      by_cases h6 : (argAt args 1).n < 0 \/ ((arrOf M (argAt args 0)).length : Int) <= (argAt args 1).n
      .rw [if_pos h6, if_pos h6]
      .rw [if_neg h6, if_neg h6]
       by_cases h7 : i.op = 19
       .rw [if_pos h7, if_pos h7]; rfl
       .rw [if_neg h7, if_neg h7]
        have : ∀ l, setArr (wst s M) (argAt args 0) l = wst s (setArr M (argAt args 0) l) := λ l => by
         unfold setArr
         cases (argAt args 0).arr <;> rfl
        rw [this]; rfl
theorem exec_st (i : SIns) (args : List Val) (M : Mach) (s : List MFrame) : execF i args (wst s M) = (wst s (execF i args M).1, (execF i args M).2) := by
 unfold execF
 rw [effect_st]
 by_cases h1 : i.op = 0
 .rw [if_pos h1, if_pos h1]
 .rw [if_neg h1, if_neg h1]
  by_cases h2 : elemJ i.op [1, 2, 3, 4, 5, 6, 7] = true
  .rw [if_pos h2, if_pos h2]
   by_cases h3 : allK 0 args = false
   .rw [if_pos h3, if_pos h3]
   .rw [if_neg h3, if_neg h3]
  .rw [if_neg h2, if_neg h2]
   by_cases h3 : i.op = 8
   .rw [if_pos h3, if_pos h3]
   .rw [if_neg h3, if_neg h3]
    by_cases h4 : i.op = 9
    .rw [if_pos h4, if_pos h4]
    .rw [if_neg h4, if_neg h4]
     by_cases h5 : elemJ i.op [10, 11, 12, 21] = true
     .rw [if_pos h5, if_pos h5]
     .rw [if_neg h5, if_neg h5]
      by_cases h6 : elemJ i.op [22, 23, 24] = true
      .rw [if_pos h6, if_pos h6]
      .rw [if_neg h6, if_neg h6]
       by_cases h7 : i.op = 100
       .rw [if_pos h7, if_pos h7]
       .rw [if_neg h7, if_neg h7]
section
variable {u v : SUnit} {ρ : Int -> Int -> Int} {good : Int -> Int -> Prop} (h : Ren u v ρ good)
end
theorem prune_all {f : SFunc} (h0 : funcF f = 0) : (reachL (pruneF f)).length = (pruneF f).blocks.length := by
 have hok := func_ok h0
 have ho := order_ok hok.pos hok.edges
 have gok := func_ok (prune_ok h0)
 have go := order_ok gok.pos gok.edges
 have hall : ∀ i < (pruneF f).blocks.length, i ∈ orderF (pruneF f).blocks := λ i hi => by
  obtain ⟨c, hc⟩ := get_of_lt (pruneF f).blocks i (by omega)
  obtain ⟨v, b, hv, hr, hb, _⟩ := prune_of ho hc
  obtain ⟨l, hw⟩ := (order_iff hok).1 hv
  rw [<- hr]
  exact (order_iff gok).2 ⟨_, (prune_way ho hok.edges hw).2.2⟩
 rw [reach_eq go, Yg]
 unfold reachN
 rw [List.filter_eq_self.2 λ v hv => by rw [decide_eq_true_eq]; exact hall v (Yao.1 hv), List.length_range]
def cntF (f : SFunc) (k : Nat) : Nat := ((Yr k).filter λ v => decide (v ∈ orderF f.blocks)).length
theorem cnt_step {f : SFunc} (h0 : funcF f = 0) {k : Nat} (hk : k < f.blocks.length) : gI (atF f) k = -1 /\ cntF f (k + 1) = cntF f k \/ gI (atF f) k = (cntF f k : Int) /\ cntF f (k + 1) = cntF f k + 1 := by
 have hok := func_ok h0
 have ho := order_ok hok.pos hok.edges
 have hs : cntF f (k + 1) = cntF f k + (if k ∈ orderF f.blocks then 1 else 0) := by
  unfold cntF
  rw [List.range_succ, List.filter_append, Yu]
  congr 1
  by_cases h : k ∈ orderF f.blocks
  .rw [if_pos h, List.filter_cons_of_pos (by simpa using h)]; rfl
  .rw [if_neg h, List.filter_cons_of_neg (by simpa using h)]; rfl
 rcases at_of ho hk with ⟨h1, h2⟩ | ⟨h1, h2, h3⟩
 .exact .inl ⟨h1, by rw [hs, if_neg h2]; rfl⟩
 .refine .inr ⟨?_, by rw [hs, if_pos h1]⟩
  rw [h2]
  have hg : (reachN f)[cntF f k]? = some k := by
   have e : f.blocks.length = k + ((f.blocks.length - k - 1) + 1) := by omega
   unfold reachN
   rw [e, List.range_add, List.filter_append, List.range_succ_eq_map, Yv, List.filter_cons_of_pos (by simpa using h1), Yad (by unfold cntF; omega)]
   unfold cntF
   rw [Nat.sub_self]
   rfl
  have := sorted_inj reachN_sorted h3 hg
  omega
def mvarF (v : Int) : Bool := decide (v ≥ 0) && decide (v < 4096)
def minsF (i : SIns) : Int :=
 if (!mvarF i.to || i.args.any λ a => !mvarF a) = true then 4 else if i.op ≠ 100 then formF i else if (i.args.length : Int) ≠ 1 then 3 else if i.n ≠ 0 then 4 else 0
def mparamsF : List Int -> List Int -> Int
 | _, [] => 0
 | done, v :: l => if mvarF v = false then 4 else if (done.any λ x => decide (v = x)) = true then 7 else mparamsF (done ++ [v]) l
def mblockF (bs : List SBlock) (k : Nat) (b : SBlock) : Int :=
 if (0 : Int) < k /\ 0 < (b.params.length : Int) then 3 else if mparamsF [] b.params ≠ 0 then mparamsF [] b.params else if firstE minsF b.ins ≠ 0 then firstE minsF b.ins
 else if endF bs b.term ≠ 0 then endF bs b.term else if mvarF b.term.arg = false then 4 else 0
def mblocksF (bs : List SBlock) : Nat -> List SBlock -> Int
 | _, [] => 0
 | k, b :: l => if mblockF bs k b ≠ 0 then mblockF bs k b else mblocksF bs (k + 1) l
def mfuncF (f : SFunc) : Int :=
 if (f.blocks.length : Int) = 0 then 3
 else if 128 < (f.blocks.length : Int) \/ 4096 < countIns 0 f.blocks \/ 6 < ((paramsOf f.blocks 0).length : Int) then 2
 else if f.name < -1 \/ f.name ≥ 1048576 then 4
 else mblocksF f.blocks 0 f.blocks
def mcheckF (u : SUnit) : Int :=
 if (u.fns.length : Int) = 0 then 3 else if 256 < (u.fns.length : Int) then 2 else if u.main < 0 \/ u.main ≥ (u.fns.length : Int) then 4
 else if firstE mfuncF u.fns ≠ 0 then firstE mfuncF u.fns
 else if (entryOf u u.main).length > 0 then 3 else callsF u
def mrunF (u : SUnit) (fuel : Int) : Out × Int × Int :=
 if mcheckF u ≠ 0 then (⟨[], 0, 0⟩, 0, mcheckF u) else if fuel < 1 \/ fuel > 1000000 then (⟨[], 0, 0⟩, 0, 4) else performF u fuel
theorem firstE_zero {α : Type} {f : α -> Int} : ∀ {l : List α}, firstE f l = 0 -> ∀ x ∈ l, f x = 0
 | [], _, x, hx => by cases hx
 | y :: l, h, x, hx => by
  rw [firstE] at h
  split at h
  .rename_i hy; exact absurd h hy
  .rename_i hy
   rcases Yc.1 hx with rfl | hx
   .exact Classical.not_not.1 hy
   .exact firstE_zero h x hx
structure MBlockOk (bs : List SBlock) (k : Nat) (b : SBlock) : Prop where
 params : 0 < k -> b.params = []
 vars : mparamsF [] b.params = 0
 ins : ∀ i ∈ b.ins, minsF i = 0
 term : endF bs b.term = 0
 arg : mvarF b.term.arg = true
theorem mblock_ok {bs : List SBlock} {k : Nat} {b : SBlock} (h : mblockF bs k b = 0) : MBlockOk bs k b := by
 unfold mblockF at h
 split at h
 .cases h
 .rename_i h1
  split at h
  .rename_i h2; exact absurd h h2
  .rename_i h2
   split at h
   .rename_i h3; exact absurd h h3
   .rename_i h3
    split at h
    .rename_i h4; exact absurd h h4
    .rename_i h4
     split at h
     .cases h
     .rename_i h5
      refine ⟨λ hk => ?_, Classical.not_not.1 h2, firstE_zero (Classical.not_not.1 h3), Classical.not_not.1 h4, by simpa using h5⟩
      apply Yan.1
      omega
theorem mblocks_ok {bs : List SBlock} : ∀ {l : List SBlock} {k : Nat}, mblocksF bs k l = 0 -> ∀ (j : Nat) (b : SBlock), l[j]? = some b -> MBlockOk bs (k + j) b
 | [], k, _, j, b, hb => by simp at hb
 | c :: l, k, h, j, b, hb => by
  rw [mblocksF] at h
  split at h
  .rename_i hc; exact absurd h hc
  .rename_i hc
   cases j with
   | zero =>
    simp at hb
    subst hb
    exact mblock_ok (Classical.not_not.1 hc)
   | succ j =>
    simp at hb
    have := mblocks_ok h j b hb
    rwa [show k + 1 + j = k + (j + 1) by omega] at this
structure MFuncOk (f : SFunc) : Prop where
 pos : 0 < f.blocks.length
 len : f.blocks.length <= 128
 params : (paramsOf f.blocks 0).length <= 6
 name : -1 <= f.name /\ f.name < 1048576
 block : ∀ (k : Nat) (b : SBlock), f.blocks[k]? = some b -> MBlockOk f.blocks k b
theorem mfunc_ok {f : SFunc} (h : mfuncF f = 0) : MFuncOk f := by
 unfold mfuncF at h
 split at h
 .cases h
 .rename_i h1
  split at h
  .cases h
  .rename_i h2
   split at h
   .cases h
   .rename_i h3
    refine ⟨by omega, by omega, by omega, by omega, λ k b hb => ?_⟩
    have := mblocks_ok h k b hb
    rwa [Yaw] at this
theorem MFuncOk.ne {f : SFunc} (h : MFuncOk f) : f.blocks ≠ [] := λ e => by have := h.pos; rw [e] at this; simp at this
structure MUnitOk (u : SUnit) : Prop where
 many : u.fns.length <= 256
 main : 0 <= u.main /\ u.main < u.fns.length
 fns : ∀ f ∈ u.fns, MFuncOk f
 entry : entryOf u u.main = []
 calls : ∀ f ∈ u.fns, ∀ b ∈ f.blocks, ∀ i ∈ b.ins, callF u i = 0
theorem mcheck_ok {u : SUnit} (h : mcheckF u = 0) : MUnitOk u := by
 unfold mcheckF at h
 split at h
 .cases h
 .split at h
  .cases h
  .split at h
   .cases h
   .split at h
    .rename_i h4; exact absurd h h4
    .rename_i h1 h2 h3 h4
     split at h
     .cases h
     .rename_i h5
      have hc := firstE_zero h
      exact ⟨by omega, by omega, λ f hf => mfunc_ok (firstE_zero (Classical.not_not.1 h4) f hf), Yan.1 (by omega), λ f hf b hb i hi => firstE_zero (firstE_zero (hc f hf) b hb) i hi⟩
theorem mterm_ok {f : SFunc} (h : MFuncOk f) {b : SBlock} {k : Nat} (hb : f.blocks[k]? = some b) : TermOk f b.term := by
 have he := endF_ok (h.block k b hb).term
 have hs := he.shape
 unfold shapeF at hs
 refine ⟨λ h1 => ?_, λ h2 => ?_, λ h0 h1 h2 h4 => ?_, λ e hm => ?_⟩
 .rw [if_neg (by omega), if_pos h1] at hs
  simp at hs
  omega
 .rw [if_neg (by omega), if_neg (by omega), if_pos h2] at hs
  simp at hs
  omega
 .rw [if_neg h0, if_neg h1, if_neg h2] at hs
  split at hs
  .simp at hs; omega
  .first | cases hs | (rw [if_neg h4] at hs; cases hs)
 .obtain ⟨e1, e2, e3⟩ := he.edges e hm
  obtain ⟨c, hc⟩ := get_of_lt f.blocks e.block.toNat (by omega)
  rw [paramsOf_get hc] at e3
  have hp := (h.block _ c hc).params (by omega)
  exact ⟨by omega, ⟨c, hc, e3⟩, by rw [e3, hp]; simp⟩
theorem mins_ok {u : SUnit} {i : SIns} (h : minsF i = 0) (hc : callF u i = 0) : InsOk u i := by
 unfold minsF at h
 split at h
 .cases h
 .split at h
  .exact ins_ok_of h hc
  .rename_i h2
   have h2 := Classical.not_not.1 h2
   split at h
   .cases h
   .rename_i h3
    have h3 : i.args.length = 1 := by omega
    refine ⟨λ _ _ => ⟨by rw [h2]; rfl, by omega, λ h => ?_, λ _ => h3, λ h => ?_, λ h => ?_⟩, λ h => ?_, λ h => ?_, λ h => ?_, by omega⟩
    .rw [h2] at h; cases h
    all_goals omega
theorem MUnitOk.u {u : SUnit} (h : MUnitOk u) : UOk u :=
 ⟨h.main, h.entry, λ f hf => (h.fns f hf).ne, λ f hf b hb => by
  obtain ⟨k, hk⟩ := Ym hb
  exact mterm_ok (h.fns f hf) hk, λ f hf b hb i hi => by
  obtain ⟨k, hk⟩ := Ym hb
  exact mins_ok (((h.fns f hf).block k b hk).ins i hi) (h.calls f hf b hb i hi)⟩
def skT (b : SBlock) : STerm := if b.term.kind = 0 then ⟨4, 0, 3, [], []⟩ else ⟨b.term.kind, 0, b.term.n, b.term.cases, b.term.to⟩
def skB (k : Nat) (b : SBlock) : SBlock := if (skT b).kind = 2 \/ (skT b).kind = 3 then ⟨[], [⟨k, 0, 0, []⟩], ⟨(skT b).kind, k, (skT b).n, (skT b).cases, (skT b).to⟩⟩ else ⟨[], [], skT b⟩
def skL : Nat -> List SBlock -> List SBlock
 | _, [] => []
 | k, b :: l => skB k b :: skL (k + 1) l
def skF (f : SFunc) : SFunc := ⟨-1, skL 0 f.blocks⟩
theorem skL_len : ∀ (l : List SBlock) (k : Nat), (skL k l).length = l.length
 | [], k => rfl
 | b :: l, k => by rw [skL, Yf, Yf, skL_len l]
theorem skL_get : ∀ (l : List SBlock) (k i : Nat), (skL k l)[i]? = (l[i]?).map (skB (k + i))
 | [], k, i => by simp [skL]
 | b :: l, k, 0 => rfl
 | b :: l, k, i + 1 => by
  rw [skL, List.getElem?_cons_succ, List.getElem?_cons_succ, skL_get l, show k + 1 + i = k + (i + 1) by omega]
theorem skF_len (f : SFunc) : (skF f).blocks.length = f.blocks.length := skL_len ..
theorem skF_get {f : SFunc} {k : Nat} {b : SBlock} (h : f.blocks[k]? = some b) : (skF f).blocks[k]? = some (skB k b) := by
 show (skL 0 f.blocks)[k]? = _
 rw [skL_get, h, Yaw]
 rfl
theorem skB_to {k : Nat} {b : SBlock} : (skB k b).term.to = (skT b).to := by
 unfold skB
 split <;> rfl
def orB (a : List Bool) (b : List Bool) : List Bool := List.zipWith (λ x y => x || y) a b
def befA (s : List Bool) (args : List Int) : List Bool := args.foldl (λ s a => s.set a.toNat true) s
def befI (s : List Bool) (i : SIns) : List Bool := befA (s.set i.to.toNat false) i.args
def befT (t : STerm) (s : List Bool) : List Bool := if t.kind ≠ 1 /\ t.kind ≠ 4 then s.set t.arg.toNat true else s
def befF (b : SBlock) (s : List Bool) : List Bool := b.ins.reverse.foldl befI (befT b.term s)
theorem befA_len : ∀ (l : List Int) (s : List Bool), (befA s l).length = s.length
 | [], s => rfl
 | a :: l, s => by
  show (befA (s.set a.toNat true) l).length = _
  rw [befA_len l, Yq]
theorem befI_len (s : List Bool) (i : SIns) : (befI s i).length = s.length := by rw [befI, befA_len, Yq]
theorem foldI_len : ∀ (l : List SIns) (s : List Bool), (l.foldl befI s).length = s.length
 | [], s => rfl
 | i :: l, s => by rw [Yj, foldI_len l, befI_len]
theorem befT_len (t : STerm) (s : List Bool) : (befT t s).length = s.length := by
 unfold befT
 split
 .rw [Yq]
 .rfl
theorem befF_len (b : SBlock) (s : List Bool) : (befF b s).length = s.length := by rw [befF, foldI_len, befT_len]
abbrev Nds := List (List Bool)
def ndAt (Nd : Nds) (k : Nat) : List Bool := Nd[k]?.getD []
def orE (Nd : Nds) (s : List Bool) (to : List SEdge) : List Bool := to.foldl (λ s e => orB s (ndAt Nd e.block.toNat)) s
def behF (Nd : Nds) (many : Nat) (b : SBlock) : List Bool := orE Nd (Yh many false) b.term.to
def needK (Nd : Nds) (many : Nat) (b : SBlock) : List Bool := befF b (behF Nd many b)
structure NeedOk (G : List SBlock) (order : List Nat) (many : Nat) (Nd : Nds) : Prop where
 len : Nd.length = G.length
 row : ∀ s ∈ Nd, s.length = many
 fix : ∀ k ∈ order, ∀ b, G[k]? = some b -> Nd[k]? = some (needK Nd many b)
def LeB (s t : List Bool) : Prop := s.length = t.length /\ ∀ i : Nat, s[i]? = some true -> t[i]? = some true
theorem LeB.refl (s : List Bool) : LeB s s := ⟨rfl, λ _ h => h⟩
theorem LeB.trans {s t u : List Bool} (h : LeB s t) (k : LeB t u) : LeB s u := ⟨h.1.trans k.1, λ i hi => k.2 i (h.2 i hi)⟩
theorem LeB.set {s t : List Bool} (h : LeB s t) (j : Nat) (x : Bool) : LeB (s.set j x) (t.set j x) := ⟨by rw [Yq, Yq]; exact h.1, λ i hi => by
 rw [Yo] at hi ⊢
 split
 .rename_i e
  rw [if_pos e] at hi
  split at hi
  .rename_i hl
   rw [if_pos (by rw [<- h.1]; exact hl)]
   exact hi
  .cases hi
 .rename_i e
  rw [if_neg e] at hi
  exact h.2 i hi⟩
theorem befA_le : ∀ {l : List Int} {s t : List Bool}, LeB s t -> LeB (befA s l) (befA t l)
 | [], s, t, h => h
 | a :: l, s, t, h => befA_le (l := l) (h.set a.toNat true)
theorem foldI_le : ∀ {l : List SIns} {s t : List Bool}, LeB s t -> LeB (l.foldl befI s) (l.foldl befI t)
 | [], s, t, h => h
 | i :: l, s, t, h => by
  rw [Yj, Yj]
  exact foldI_le (befA_le (h.set i.to.toNat false))
theorem befF_le {b : SBlock} {s t : List Bool} (h : LeB s t) : LeB (befF b s) (befF b t) := by
 unfold befF
 refine foldI_le ?_
 unfold befT
 split
 .exact h.set _ true
 .exact h
theorem orB_len {s t : List Bool} (h : s.length = t.length) : (orB s t).length = s.length := by
 unfold orB
 rw [List.length_zipWith]
 omega
theorem orB_get {s t : List Bool} {i : Nat} {x y : Bool} (h : s[i]? = some x) (k : t[i]? = some y) : (orB s t)[i]? = some (x || y) := by
 unfold orB
 rw [List.getElem?_zipWith, h, k]
theorem orB_le {s s' t t' : List Bool} (h : LeB s s') (k : LeB t t') (hl : s.length = t.length) : LeB (orB s t) (orB s' t') := by
 refine ⟨by rw [orB_len hl, orB_len (by rw [<- h.1, <- k.1]; exact hl)]; exact h.1, λ i hi => ?_⟩
 have hil := (Yb.1 hi).1
 rw [orB_len hl] at hil
 obtain ⟨x, hx⟩ := get_of_lt s i (by omega)
 obtain ⟨y, hy⟩ := get_of_lt t i (by omega)
 obtain ⟨x', hx'⟩ := get_of_lt s' i (by have := h.1; omega)
 obtain ⟨y', hy'⟩ := get_of_lt t' i (by have := k.1; omega)
 rw [orB_get hx hy] at hi
 injection hi with hi
 rw [orB_get hx' hy']
 have h1 := h.2 i
 have k1 := k.2 i
 rw [hx, hx'] at h1
 rw [hy, hy'] at k1
 cases x <;> cases y <;> simp_all
def RowsB (many : Nat) (Nd : Nds) : Prop := ∀ s ∈ Nd, s.length = many
theorem rows_at {many : Nat} {Nd : Nds} (h : RowsB many Nd) {k : Nat} (hk : k < Nd.length) : (ndAt Nd k).length = many := by
 obtain ⟨s, hs⟩ := get_of_lt Nd k (by omega)
 unfold ndAt
 rw [hs]
 exact h s (Ye hs)
def LeN (A B : Nds) : Prop := A.length = B.length /\ ∀ k, LeB (ndAt A k) (ndAt B k)
theorem orE_len {many : Nat} {Nd : Nds} (h : RowsB many Nd) : ∀ {to : List SEdge} {s : List Bool}, s.length = many -> (∀ e ∈ to, e.block.toNat < Nd.length) -> (orE Nd s to).length = many
 | [], s, hs, _ => hs
 | e :: to, s, hs, ht => by
  show (orE Nd (orB s (ndAt Nd e.block.toNat)) to).length = many
  have hl := rows_at h (ht e (Ya ..))
  exact orE_len h (by rw [orB_len (by omega)]; exact hs) λ x hx => ht x (Yd _ hx)
theorem orE_le {many : Nat} {A B : Nds} (hA : RowsB many A) (hB : RowsB many B) (h : LeN A B) : ∀ {to : List SEdge} {s t : List Bool}, s.length = many -> LeB s t -> (∀ e ∈ to, e.block.toNat < A.length) -> LeB (orE A s to) (orE B t to)
 | [], s, t, _, hs, _ => hs
 | e :: to, s, t, hs0, hs, ht => by
  show LeB (orE A (orB s (ndAt A e.block.toNat)) to) (orE B (orB t (ndAt B e.block.toNat)) to)
  have hl := rows_at hA (ht e (Ya ..))
  exact orE_le hA hB h (by rw [orB_len (by omega)]; exact hs0) (orB_le hs (h.2 _) (by omega)) λ x hx => ht x (Yd _ hx)
theorem needK_le {many : Nat} {A B : Nds} (hA : RowsB many A) (hB : RowsB many B) (h : LeN A B) {b : SBlock} (ht : ∀ e ∈ b.term.to, e.block.toNat < A.length) : LeB (needK A many b) (needK B many b) :=
 befF_le (orE_le hA hB h Yk (.refl _) ht)
theorem needK_len {many : Nat} {Nd : Nds} (h : RowsB many Nd) {b : SBlock} (ht : ∀ e ∈ b.term.to, e.block.toNat < Nd.length) : (needK Nd many b).length = many := by
 unfold needK behF
 rw [befF_len, orE_len h Yk ht]
def offN (Nd : Nds) : Nat := (Nd.map (·.count false)).sum
theorem le_off : ∀ {s t : List Bool}, LeB s t -> t.count false <= s.count false /\ (s = t \/ t.count false < s.count false)
 | [], t, h => by
  have : t = [] := Yan.1 h.1.symm
  subst this
  exact ⟨Yau _, .inl rfl⟩
 | x :: s, [], h => by cases h.1
 | x :: s, y :: t, h => by
  have h1 : LeB s t := ⟨by have := h.1; simpa using this, λ k hk => h.2 (k + 1) hk⟩
  obtain ⟨a, b⟩ := le_off h1
  have h0 := h.2 0
  cases x with
  | true =>
   have : y = true := by have := h0 rfl; simpa using this
   subst this
   rw [Yas (by decide), Yas (by decide)]
   exact ⟨a, b.elim (λ e => .inl (by rw [e])) .inr⟩
  | false =>
   rw [List.count_cons_self]
   cases y with
   | true =>
    rw [Yas (by decide)]
    exact ⟨by omega, .inr (by omega)⟩
   | false =>
    rw [List.count_cons_self]
    exact ⟨by omega, b.elim (λ e => .inl (by rw [e])) λ e => .inr (by omega)⟩
theorem off_set : ∀ {Nd : Nds} {k : Nat} {s t : List Bool}, Nd[k]? = some s -> t.count false < s.count false -> offN (Nd.set k t) < offN Nd
 | [], k, s, t, h, _ => by simp at h
 | x :: Nd, 0, s, t, h, hc => by
  have h : x = s := by simpa using h
  subst h
  show t.count false + (Nd.map (·.count false)).sum < x.count false + (Nd.map (·.count false)).sum
  omega
 | x :: Nd, k + 1, s, t, h, hc => by
  have := off_set (Nd := Nd) (k := k) (by simpa using h) hc
  show x.count false + offN (Nd.set k t) < x.count false + offN Nd
  omega
structure NInv (G : List SBlock) (many : Nat) (Nd : Nds) : Prop where
 len : Nd.length = G.length
 row : RowsB many Nd
 low : ∀ (k : Nat) (b : SBlock), G[k]? = some b -> LeB (ndAt Nd k) (needK Nd many b)
theorem ninv_start {G : List SBlock} {many : Nat} (hE : ∀ b ∈ G, ∀ e ∈ b.term.to, e.block.toNat < G.length) : NInv G many (Yh G.length (Yh many false)) := by
 have hrow : RowsB many (Yh G.length (Yh many false)) := λ s hs => by rw [(List.mem_replicate.1 hs).2, Yk]
 refine ⟨Yk, hrow, λ k b hb => ?_⟩
 have hk := (Yb.1 hb).1
 have e : ndAt (Yh G.length (Yh many false)) k = Yh many false := by
  unfold ndAt
  rw [Yw, if_pos hk]
  rfl
 rw [e]
 refine ⟨by rw [Yk, needK_len hrow (λ e he => by rw [Yk]; exact hE b (Ye hb) e he)], λ i hi => ?_⟩
 rw [Yw] at hi
 split at hi <;> cases hi
theorem ninv_set {G : List SBlock} {many : Nat} {Nd : Nds} {k : Nat} {b : SBlock} (hE : ∀ b ∈ G, ∀ e ∈ b.term.to, e.block.toNat < G.length) (h : NInv G many Nd) (hb : G[k]? = some b) (hne : needK Nd many b ≠ ndAt Nd k) : NInv G many (Nd.set k (needK Nd many b)) /\ offN (Nd.set k (needK Nd many b)) < offN Nd := by
 have hk := (Yb.1 hb).1
 have hlen := h.len
 obtain ⟨s, hs⟩ := get_of_lt Nd k (by omega)
 have hsd : ndAt Nd k = s := by unfold ndAt; rw [hs]; rfl
 have hlow := h.low k b hb
 have hbE := hE b (Ye hb)
 have hnl := needK_len h.row (b := b) (λ e he => by rw [hlen]; exact hbE e he)
 have hrow : RowsB many (Nd.set k (needK Nd many b)) := λ x hx => by
  rcases List.mem_or_eq_of_mem_set hx with hx | rfl
  .exact h.row x hx
  .exact hnl
 have hat : ∀ j, ndAt (Nd.set k (needK Nd many b)) j = if j = k then needK Nd many b else ndAt Nd j := λ j => by
  unfold ndAt
  rw [Yo]
  by_cases e : k = j
  .rw [if_pos e, if_pos (by omega), if_pos e.symm]
   rfl
  .rw [if_neg e, if_neg (λ q => e q.symm)]
 have hle : LeN Nd (Nd.set k (needK Nd many b)) := ⟨(Yq ..).symm, λ j => by
  rw [hat]
  split
  .rename_i e
   rw [e]
   exact hlow
  .exact .refl _⟩
 refine ⟨⟨by rw [Yq]; exact hlen, hrow, λ j c hc => ?_⟩, ?_⟩
 .have hm := needK_le h.row hrow hle (b := c) (λ e he => by rw [hlen]; exact hE c (Ye hc) e he)
  rw [hat]
  split
  .rename_i e
   subst e
   rw [hb] at hc
   injection hc with hc
   subst hc
   exact hm
  .exact (h.low j c hc).trans hm
 .rw [hsd] at hne hlow
  rcases (le_off hlow).2 with e | e
  .exact absurd e.symm hne
  .exact off_set hs e
abbrev Env := Int -> Option Int
def updE (e : Env) (v x : Int) : Env := λ y => if y = v then some x else e y
structure BSt where
 env : Env
 nx : Int
 params : List Int
 ins : List SIns
def stP (s : BSt) (v : Int) : BSt := ⟨updE s.env v s.nx, s.nx + 1, s.params ++ [s.nx], s.ins⟩
def stI (s : BSt) (v : Int) (is : Bool) : BSt := if (is && !(s.env v).isSome) = true then ⟨updE s.env v s.nx, s.nx + 1, s.params, s.ins ++ [⟨s.nx, 0, 0, []⟩]⟩ else s
def stQ (s : BSt) (v : Int) (is : Bool) : BSt := if is = true then stP s v else s
def foldZ (f : BSt -> Int -> Bool -> BSt) : Nat -> List Bool -> BSt -> BSt
 | _, [], s => s
 | j, x :: l, s => foldZ f (j + 1) l (f s j x)
def emptyS (nx : Int) : BSt := ⟨λ _ => none, nx, [], []⟩
def beg0 (params : List Int) (nd : List Bool) (nx : Int) : BSt := foldZ stI 0 nd (params.foldl stP (emptyS nx))
def begQ (nd : List Bool) (nx : Int) : BSt := foldZ stQ 0 nd (emptyS nx)
def blkAt (G : List SBlock) (k : Nat) : SBlock := G[k]?.getD default
def innAt (inn : List (List Int)) (k : Nat) : List Int := inn[k]?.getD []
def beginF (G : List SBlock) (inn : List (List Int)) (Nd : Nds) (ends : Nat -> Env) (k : Nat) (nx : Int) : BSt :=
 if k = 0 then beg0 (blkAt G 0).params (ndAt Nd 0) nx
 else if (innAt inn k).length = 1 then ⟨ends ((innAt inn k)[0]?.getD 0).toNat, nx, [], []⟩
 else begQ (ndAt Nd k) nx
def argsE (e : Env) (l : List Int) : List Int := l.map λ a => (e a).getD 0
def stB (s : BSt) (i : SIns) : BSt :=
 if i.op = 100 then { s with env := updE s.env i.to ((argsE s.env i.args)[0]?.getD 0) }
 else ⟨updE s.env i.to s.nx, s.nx + 1, s.params, s.ins ++ [⟨s.nx, i.op, i.n, argsE s.env i.args⟩]⟩
def bodyF2 (G : List SBlock) (inn : List (List Int)) (Nd : Nds) (ends : Nat -> Env) (k : Nat) (nx : Int) : BSt := (blkAt G k).ins.foldl stB (beginF G inn Nd ends k nx)
def midT (t : STerm) (e : Env) : STerm := ⟨t.kind, if t.kind ≠ 1 /\ t.kind ≠ 4 then (e t.arg).getD 0 else 0, t.n, t.cases, []⟩
def midB (t : STerm) (s : BSt) : SBlock := ⟨s.params, s.ins, midT t s.env⟩
def edgeW (inn : List (List Int)) (Nd : Nds) (env : Env) (e : SEdge) : SEdge := ⟨e.block, if 1 < (innAt inn e.block.toNat).length then ndArgs env 0 (ndAt Nd e.block.toNat) else []⟩
where
 ndArgs (env : Env) : Nat -> List Bool -> List Int
  | _, [] => []
  | j, x :: l => (if x = true then [(env j).getD 0] else []) ++ ndArgs env (j + 1) l
theorem skT_0 {b : SBlock} (h : b.term.kind = 0) : skT b = ⟨4, 0, 3, [], []⟩ := if_pos h
theorem skT_1 {b : SBlock} (h : ¬ b.term.kind = 0) : skT b = ⟨b.term.kind, 0, b.term.n, b.term.cases, b.term.to⟩ := if_neg h
theorem skB_params {k : Nat} {b : SBlock} : (skB k b).params = [] := by
 unfold skB
 split <;> rfl
theorem skB_keys {k : Nat} {b : SBlock} : (dB (skB k b)).map (·.1) = [] \/ (dB (skB k b)).map (·.1) = [(k : Int)] := by
 unfold skB
 split
 .exact .inr rfl
 .exact .inl rfl
theorem sk_keys : ∀ (l : List SBlock) (m : Nat) (c : Int), (∀ x ∈ keys (defsL c (skL m l)), (m : Int) <= x /\ x < m + l.length) /\ (keys (defsL c (skL m l))).Nodup
 | [], m, c => ⟨(λ x hx => by cases hx), List.nodup_nil⟩
 | b :: l, m, c => by
  obtain ⟨h1, h2⟩ := sk_keys l (m + 1) c
  rw [keysL] at h1 h2 ⊢
  rw [skL, Yz, Yf]
  rcases skB_keys (k := m) (b := b) with e | e
  .rw [e, Yaa]
   refine ⟨λ x hx => ?_, h2⟩
   have := h1 x hx
   omega
  .rw [e, List.singleton_append]
   refine ⟨λ x hx => ?_, Yak.2 ⟨λ hx => ?_, h2⟩⟩
   .rcases Yc.1 hx with rfl | hx
    .omega
    .have := h1 x hx
     omega
   .have := h1 _ hx
    omega
theorem sk_insN : ∀ (l : List SBlock) (m : Nat), insN (skL m l) <= l.length
 | [], m => Yau _
 | b :: l, m => by
  rw [skL, insN, Yf]
  have h1 := sk_insN l (m + 1)
  have h2 : (skB m b).ins.length <= 1 := by
   unfold skB
   split
   .exact Yau _
   .exact Yav _
  omega
theorem sk_at {f : SFunc} {k : Nat} {c : SBlock} (h : (skF f).blocks[k]? = some c) : ∃ b, f.blocks[k]? = some b /\ c = skB k b := by
 have hk := (Yb.1 h).1
 rw [skF_len] at hk
 obtain ⟨b, hb⟩ := get_of_lt f.blocks k (by omega)
 rw [skF_get hb] at h
 injection h with h
 exact ⟨b, hb, h.symm⟩
theorem sk_paramsOf (f : SFunc) (k : Int) : paramsOf (skF f).blocks k = [] := by
 unfold paramsOf
 cases h : (skF f).blocks[k.toNat]? with
 | none => rfl
 | some c =>
  obtain ⟨b, _, rfl⟩ := sk_at h
  exact skB_params
section
variable {f : SFunc} (h : mfuncF f = 0)
include h
theorem m_args {k : Nat} {b : SBlock} (hb : f.blocks[k]? = some b) {e : SEdge} (he : e ∈ b.term.to) : 1 <= e.block /\ e.block < f.blocks.length /\ e.args = [] := by
 have hM := mfunc_ok h
 obtain ⟨e1, e2, e3⟩ := (endF_ok (hM.block k b hb).term).edges e he
 obtain ⟨c, hc⟩ := get_of_lt f.blocks e.block.toNat (by omega)
 have hp := (hM.block _ c hc).params (by omega)
 rw [paramsOf_get hc, hp] at e3
 exact ⟨e1, e2, Yan.1 e3⟩
theorem sk_end {k : Nat} {b : SBlock} (hb : f.blocks[k]? = some b) : endF (skF f).blocks (skT b) = 0 := by
 have hM := mfunc_ok h
 have hE := endF_ok (hM.block k b hb).term
 have hs := hE.shape
 by_cases h0 : b.term.kind = 0
 .rw [skT_0 h0]
  rfl
 .rw [skT_1 h0]
  have hs2 : shapeF ⟨b.term.kind, 0, b.term.n, b.term.cases, b.term.to⟩ = true := by
   unfold shapeF at hs ⊢
   dsimp only at hs ⊢
   rw [if_neg h0] at hs ⊢
   split at hs
   .rename_i h1
    rw [if_pos h1]
    simp only [Bool.and_eq_true, decide_eq_true_eq] at hs ⊢
    exact ⟨⟨⟨hs.1.1.1, trivial⟩, hs.1.2⟩, hs.2⟩
   .rename_i h1
    rw [if_neg h1]
    split at hs
    .rename_i h2; rw [if_pos h2]; exact hs
    .rename_i h2
     rw [if_neg h2]
     split at hs
     .rename_i h3; rw [if_pos h3]; exact hs
     .rename_i h3
      rw [if_neg h3]
      split at hs
      .rename_i h4
       rw [if_pos h4]
       simp only [Bool.and_eq_true, decide_eq_true_eq] at hs ⊢
       exact ⟨⟨hs.1.1, trivial⟩, hs.2⟩
      .cases hs
  unfold endF
  rw [if_neg (by rw [hs2]; decide)]
  dsimp only
  rw [if_neg (by have := hE.many; omega), if_neg (λ hn => by have h9 := hE.trap hn.1; rw [wi_iff.2 ⟨h9.1, h9.2⟩] at hn; exact absurd hn.2 (by decide)), if_neg (λ hn => hn hE.cases)]
  refine edgesF_iff λ e he => ?_
  obtain ⟨e1, e2, e3⟩ := m_args h hb he
  rw [skF_len, sk_paramsOf, e3]
  exact ⟨e1, e2, rfl⟩
theorem sk_kind {k : Nat} {b : SBlock} (hb : f.blocks[k]? = some b) (h1 : (skT b).kind ≠ 1) (h4 : (skT b).kind ≠ 4) : (skT b).kind = 2 \/ (skT b).kind = 3 := by
 have hs := (endF_ok (sk_end h hb)).shape
 have h0 : (skT b).kind ≠ 0 := by
  intro e
  by_cases h0 : b.term.kind = 0
  .rw [skT_0 h0] at e; cases e
  .rw [skT_1 h0] at e; exact h0 e
 unfold shapeF at hs
 rw [if_neg h0, if_neg h1] at hs
 split at hs
 .rename_i h2; exact .inl h2
 .split at hs
  .rename_i h3; exact .inr h3
  .first | cases hs | (rw [if_neg h4] at hs; cases hs)
theorem sk_ok : funcF (skF f) = 0 := by
 have hM := mfunc_ok h
 have h0 := hM.pos
 have h1 := hM.len
 have hl := skF_len f
 obtain ⟨k1, k2⟩ := sk_keys f.blocks 0 0
 refine func_iff.2 ⟨by omega, by omega, ?_, ?_, (show wi (-1) (-1) 1048575 = true by decide), ⟨λ x hx => ?_, k2, mem_zero_key⟩, λ c hc => ?_, ?_⟩
 .have := sk_insN f.blocks 0
  show insN (skL 0 f.blocks) <= 1024
  omega
 .rw [sk_paramsOf]
  exact Yav _
 .have := k1 x hx
  exact wi_iff.2 ⟨by omega, by omega⟩
 .obtain ⟨k, hk⟩ := Ym hc
  obtain ⟨b, hb, rfl⟩ := sk_at hk
  have he := sk_end h hb
  unfold skB
  split
  .rename_i hk
   refine ⟨λ i hi => ?_, ?_⟩
   .rw [Yl.1 hi]
    rfl
   .have hs := endF_ok he
    have : endF (skF f).blocks ⟨(skT b).kind, k, (skT b).n, (skT b).cases, (skT b).to⟩ = endF (skF f).blocks (skT b) := by
     unfold endF shapeF
     dsimp only
     rcases hk with hk | hk
     .rw [hk]; rfl
     .rw [hk]; rfl
    rw [this]
    exact he
  .exact ⟨(λ i hi => by cases hi), he⟩
 .refine usesF_iff.2 λ k c hk => ?_
  obtain ⟨b, hb, rfl⟩ := sk_at hk
  have hargs : ∀ p : Int -> Bool, ((skT b).to.all λ e => e.args.all p) = true := λ p => by
   rw [Yam]
   intro e he
   by_cases h9 : b.term.kind = 0
   .rw [skT_0 h9] at he; cases he
   .rw [skT_1 h9] at he
    rw [(m_args h hb he).2.2]
    rfl
  rw [Yaw]
  by_cases hk2 : (skT b).kind = 2 \/ (skT b).kind = 3
  .have e : skB k b = ⟨[], [⟨k, 0, 0, []⟩], ⟨(skT b).kind, k, (skT b).n, (skT b).cases, (skT b).to⟩⟩ := if_pos hk2
   have hg : dget (defsL 0 (skF f).blocks) k = some ((k : Int), (1 : Int)) := by
    refine (dget_at k2).2 (defsL_at.2 ⟨k, skB k b, hk, (by show (k : Int) = 0 + k; omega), ?_⟩)
    rw [e]
    exact Yl.2 rfl
   rw [e]
   refine ⟨rfl, ?_⟩
   unfold usedF
   dsimp only
   rw [if_neg, hargs]
   intro hn
   have : fineF (defsL 0 (skF f).blocks) (domF (skF f).blocks) k (1 : Nat) (k : Int) = true := by
    unfold fineF
    rw [hg]
    simp
   rw [show ([(⟨k, 0, 0, []⟩ : SIns)].length : Nat) = 1 from rfl, this] at hn
   exact absurd hn.2 (by decide)
  .have e : skB k b = ⟨[], [], skT b⟩ := if_neg hk2
   rw [e]
   refine ⟨rfl, ?_⟩
   unfold usedF
   rw [if_neg, hargs]
   intro hn
   exact hk2 (sk_kind h hb hn.1.1 hn.1.2)
end
def lv (L : List Bool) (v : Int) : Prop := 0 <= v /\ L[v.toNat]? = some true
theorem lv_setT {L : List Bool} {a v : Int} (h0 : 0 <= a) (ha : a.toNat < L.length) : lv (L.set a.toNat true) v ↔ v = a \/ lv L v := by
 unfold lv
 rw [Yo]
 by_cases e : a.toNat = v.toNat
 .rw [if_pos e, if_pos ha]
  constructor
  .rintro ⟨h1, _⟩; exact .inl (by omega)
  .rintro (rfl | h)
   .exact ⟨h0, rfl⟩
   .exact ⟨h.1, rfl⟩
 .rw [if_neg e]
  constructor
  .intro h; exact .inr h
  .rintro (rfl | h)
   .exact absurd rfl e
   .exact h
theorem lv_setF {L : List Bool} {a v : Int} (h0 : 0 <= a) : lv (L.set a.toNat false) v ↔ v ≠ a /\ lv L v := by
 unfold lv
 rw [Yo]
 by_cases e : a.toNat = v.toNat
 .rw [if_pos e]
  constructor
  .rintro ⟨h1, h2⟩
   split at h2 <;> cases h2
  .rintro ⟨h1, h2, h3⟩; exact absurd (show v = a by omega) h1
 .rw [if_neg e]
  exact ⟨λ h => ⟨λ q => e (by rw [q]), h⟩, λ h => h.2⟩
theorem lv_befA {many : Nat} {v : Int} : ∀ {l : List Int} {L : List Bool}, L.length = many -> (∀ a ∈ l, 0 <= a /\ a < many) -> (lv (befA L l) v ↔ lv L v \/ v ∈ l)
 | [], L, _, _ => ⟨λ h => .inl h, λ h => h.resolve_right (by simp)⟩
 | a :: l, L, hL, ha => by
  have h1 := ha a (Ya ..)
  show lv (befA (L.set a.toNat true) l) v ↔ _
  rw [lv_befA (by rw [Yq]; exact hL) λ x hx => ha x (Yd _ hx), lv_setT h1.1 (by omega), Yc]
  constructor
  .rintro ((h | h) | h)
   .exact .inr (.inl h)
   .exact .inl h
   .exact .inr (.inr h)
  .rintro (h | h | h)
   .exact .inl (.inr h)
   .exact .inl (.inl h)
   .exact .inr h
theorem lv_befI {many : Nat} {v : Int} {L : List Bool} {i : SIns} (hL : L.length = many) (ht : 0 <= i.to) (ha : ∀ a ∈ i.args, 0 <= a /\ a < many) : lv (befI L i) v ↔ v ≠ i.to /\ lv L v \/ v ∈ i.args := by
 unfold befI
 rw [lv_befA (by rw [Yq]; exact hL) ha, lv_setF ht]
theorem lv_befT {many : Nat} {v : Int} {L : List Bool} {t : STerm} (hL : L.length = many) (ha : 0 <= t.arg /\ t.arg < many) : lv (befT t L) v ↔ lv L v \/ (t.kind ≠ 1 /\ t.kind ≠ 4) /\ v = t.arg := by
 unfold befT
 split
 .rename_i h
  rw [lv_setT ha.1 (by omega)]
  constructor
  .rintro (h1 | h1)
   .exact .inr ⟨h, h1⟩
   .exact .inl h1
  .rintro (h1 | ⟨_, h1⟩)
   .exact .inr h1
   .exact .inl h1
 .rename_i h
  exact ⟨λ h1 => .inl h1, λ h1 => h1.resolve_right λ h2 => h h2.1⟩
theorem lv_orB {s t : List Bool} {v : Int} (h : s.length = t.length) : lv (orB s t) v ↔ lv s v \/ lv t v := by
 unfold lv
 by_cases hv : v.toNat < s.length
 .obtain ⟨x, hx⟩ := get_of_lt s v.toNat (by omega)
  obtain ⟨y, hy⟩ := get_of_lt t v.toNat (by omega)
  rw [orB_get hx hy, hx, hy]
  cases x <;> cases y <;> simp
 .rw [Yag (by rw [orB_len h]; omega), Yag (l := s) (by omega), Yag (l := t) (by omega)]
  simp
theorem lv_orE {many : Nat} {Nd : Nds} (h : RowsB many Nd) {v : Int} : ∀ {to : List SEdge} {s : List Bool}, s.length = many -> (∀ e ∈ to, e.block.toNat < Nd.length) -> (lv (orE Nd s to) v ↔ lv s v \/ ∃ e ∈ to, lv (ndAt Nd e.block.toNat) v)
 | [], s, hs, _ => ⟨λ h => .inl h, λ h => h.resolve_right (by simp)⟩
 | e :: to, s, hs, ht => by
  have hl := rows_at h (ht e (Ya ..))
  show lv (orE Nd (orB s (ndAt Nd e.block.toNat)) to) v ↔ _
  rw [lv_orE h (by rw [orB_len (by omega)]; exact hs) λ x hx => ht x (Yd _ hx), lv_orB (by omega)]
  constructor
  .rintro ((h1 | h1) | ⟨x, hx, h1⟩)
   .exact .inl h1
   .exact .inr ⟨e, Ya .., h1⟩
   .exact .inr ⟨x, Yd _ hx, h1⟩
  .rintro (h1 | ⟨x, hx, h1⟩)
   .exact .inl (.inl h1)
   .rcases Yc.1 hx with rfl | hx
    .exact .inl (.inr h1)
    .exact .inr ⟨x, hx, h1⟩
theorem lv_none {n : Nat} {v : Int} : ¬ lv (Yh n false) v := by
 rintro ⟨_, h⟩
 rw [Yw] at h
 split at h <;> cases h
theorem lv_beh {many : Nat} {Nd : Nds} (h : RowsB many Nd) {b : SBlock} (ht : ∀ e ∈ b.term.to, e.block.toNat < Nd.length) {v : Int} : lv (behF Nd many b) v ↔ ∃ e ∈ b.term.to, lv (ndAt Nd e.block.toNat) v := by
 unfold behF
 rw [lv_orE h Yk ht]
 exact ⟨λ h1 => h1.resolve_left lv_none, .inr⟩
structure VarsB (many : Nat) (b : SBlock) : Prop where
 arg : 0 <= b.term.arg /\ b.term.arg < many
 to : ∀ i ∈ b.ins, 0 <= i.to /\ i.to < many
 args : ∀ i ∈ b.ins, ∀ a ∈ i.args, 0 <= a /\ a < many
 one : ∀ i ∈ b.ins, i.op = 100 -> i.args.length = 1
def LA (Nd : Nds) (many : Nat) (b : SBlock) (j : Nat) : List Bool := (b.ins.drop j).reverse.foldl befI (befT b.term (behF Nd many b))
theorem LA_end {Nd : Nds} {many : Nat} {b : SBlock} : LA Nd many b b.ins.length = befT b.term (behF Nd many b) := by
 unfold LA
 rw [List.drop_length]
 rfl
theorem LA_step {Nd : Nds} {many : Nat} {b : SBlock} {j : Nat} {i : SIns} (h : b.ins[j]? = some i) : LA Nd many b j = befI (LA Nd many b (j + 1)) i := by
 unfold LA
 rw [drop_cons h, List.reverse_cons, Yat]
 rfl
theorem LA_len {Nd : Nds} {many : Nat} (h : RowsB many Nd) {b : SBlock} (ht : ∀ e ∈ b.term.to, e.block.toNat < Nd.length) (j : Nat) : (LA Nd many b j).length = many := by
 unfold LA
 rw [foldI_len, befT_len]
 exact orE_len h Yk ht
structure Has (q : Int -> Prop) (s : BSt) : Prop where
 nx : 0 <= s.nx
 has : ∀ v, q v -> ∃ x, s.env v = some x /\ 0 <= x /\ x < s.nx
theorem Has.imp {q r : Int -> Prop} {s : BSt} (h : Has q s) (hr : ∀ v, r v -> q v) : Has r s := ⟨h.nx, λ v hv => h.has v (hr v hv)⟩
theorem has_upd {q : Int -> Prop} {s : BSt} (h : Has q s) (v : Int) (ps : List Int) (is : List SIns) : Has (λ y => y = v \/ q y) ⟨updE s.env v s.nx, s.nx + 1, ps, is⟩ := by
 have h0 := h.nx
 refine ⟨by show 0 <= s.nx + 1; omega, λ y hy => ?_⟩
 show ∃ x, updE s.env v s.nx y = some x /\ 0 <= x /\ x < s.nx + 1
 unfold updE
 by_cases e : y = v
 .rw [if_pos e]
  exact ⟨_, rfl, h0, by omega⟩
 .rw [if_neg e]
  obtain ⟨x, h1, h2, h3⟩ := h.has y (hy.resolve_left e)
  exact ⟨x, h1, h2, by omega⟩
def AllLt (s : BSt) : Prop := 0 <= s.nx /\ ∀ v x, s.env v = some x -> 0 <= x /\ x < s.nx
theorem al_upd {s : BSt} (h : AllLt s) (v : Int) (ps : List Int) (is : List SIns) : AllLt ⟨updE s.env v s.nx, s.nx + 1, ps, is⟩ := by
 obtain ⟨h0, h1⟩ := h
 refine ⟨by show 0 <= s.nx + 1; omega, λ y x hy => ?_⟩
 show 0 <= x /\ x < s.nx + 1
 have hy : updE s.env v s.nx y = some x := hy
 unfold updE at hy
 split at hy
 .injection hy with hy; omega
 .have := h1 y x hy; omega
theorem some_upd {s : BSt} {v x y : Int} (h : (s.env y).isSome = true) : (updE s.env v x y).isSome = true := by
 unfold updE
 split
 .rfl
 .exact h
theorem al_P : ∀ {l : List Int} {s : BSt}, AllLt s -> AllLt (l.foldl stP s) /\ ∀ v, (v ∈ l \/ (s.env v).isSome = true) -> ((l.foldl stP s).env v).isSome = true
 | [], s, h => ⟨h, λ v hv => hv.resolve_left (by simp)⟩
 | a :: l, s, h => by
  obtain ⟨h1, h2⟩ := al_P (l := l) (al_upd h a (s.params ++ [s.nx]) s.ins)
  refine ⟨h1, λ v hv => h2 v ?_⟩
  rcases hv with hv | hv
  .rcases Yc.1 hv with rfl | hv
   .right
    show (updE s.env v s.nx v).isSome = true
    unfold updE
    rw [if_pos rfl]
    rfl
   .exact .inl hv
  .exact .inr (some_upd hv)
theorem al_Z {f : BSt -> Int -> Bool -> BSt} (hf : ∀ s v x, AllLt s -> AllLt (f s v x) /\ (∀ y, (s.env y).isSome = true -> ((f s v x).env y).isSome = true) /\ (x = true -> ((f s v x).env v).isSome = true)) : ∀ {l : List Bool} {j : Nat} {s : BSt}, AllLt s -> AllLt (foldZ f j l s) /\ ∀ y : Int, ((s.env y).isSome = true \/ (j : Int) <= y /\ l[(y - j).toNat]? = some true) -> ((foldZ f j l s).env y).isSome = true
 | [], j, s, h => ⟨h, λ y hy => hy.resolve_right λ h2 => by simp at h2⟩
 | x :: l, j, s, h => by
  obtain ⟨g1, g2, g3⟩ := hf s j x h
  obtain ⟨h1, h2⟩ := al_Z hf (l := l) (j := j + 1) g1
  rw [foldZ]
  refine ⟨h1, λ y hy => h2 y ?_⟩
  rcases hy with hy | ⟨hy, h3⟩
  .exact .inl (g2 y hy)
  .by_cases e : y = j
   .subst e
    rw [Int.sub_self] at h3
    have h3 : x = true := by simpa using h3
    exact .inl (g3 h3)
   .refine .inr ⟨by omega, ?_⟩
    rw [show (y - (j : Int)).toNat = (y - ((j + 1 : Nat) : Int)).toNat + 1 by omega] at h3
    simpa using h3
theorem al_I (s : BSt) (v : Int) (x : Bool) (h : AllLt s) : AllLt (stI s v x) /\ (∀ y, (s.env y).isSome = true -> ((stI s v x).env y).isSome = true) /\ (x = true -> ((stI s v x).env v).isSome = true) := by
 unfold stI
 split
 .refine ⟨al_upd h v _ _, λ y hy => some_upd hy, λ _ => ?_⟩
  show (updE s.env v s.nx v).isSome = true
  unfold updE
  rw [if_pos rfl]
  rfl
 .rename_i hc
  refine ⟨h, λ y hy => hy, λ hx => ?_⟩
  subst hx
  cases he : (s.env v).isSome with
  | true => rfl
  | false => rw [he] at hc; exact absurd rfl hc
theorem al_Q (s : BSt) (v : Int) (x : Bool) (h : AllLt s) : AllLt (stQ s v x) /\ (∀ y, (s.env y).isSome = true -> ((stQ s v x).env y).isSome = true) /\ (x = true -> ((stQ s v x).env v).isSome = true) := by
 unfold stQ
 split
 .refine ⟨al_upd h v _ _, λ y hy => some_upd hy, λ _ => ?_⟩
  show (updE s.env v s.nx v).isSome = true
  unfold updE
  rw [if_pos rfl]
  rfl
 .rename_i hc
  exact ⟨h, λ y hy => hy, λ hx => absurd hx hc⟩
theorem al_empty {nx : Int} (h : 0 <= nx) : AllLt (emptyS nx) := ⟨h, λ v x hv => by cases hv⟩
theorem has_of {q : Int -> Prop} {s : BSt} (h : AllLt s) (hq : ∀ v, q v -> (s.env v).isSome = true) : Has q s := ⟨h.1, λ v hv => by
 cases he : s.env v with
 | none => have := hq v hv; rw [he] at this; cases this
 | some x => exact ⟨x, rfl, h.2 v x he⟩⟩
theorem has_begQ {nd : List Bool} {nx : Int} (h : 0 <= nx) : Has (lv nd) (begQ nd nx) := by
 obtain ⟨h1, h2⟩ := al_Z al_Q (l := nd) (j := 0) (al_empty h)
 refine has_of h1 λ v hv => h2 v (.inr ⟨hv.1, ?_⟩)
 rw [show (v - ((0 : Nat) : Int)).toNat = v.toNat by omega]
 exact hv.2
theorem has_beg0 {params : List Int} {nd : List Bool} {nx : Int} (h : 0 <= nx) : Has (λ v => v ∈ params \/ lv nd v) (beg0 params nd nx) := by
 obtain ⟨g1, g2⟩ := al_P (l := params) (al_empty h)
 obtain ⟨h1, h2⟩ := al_Z al_I (l := nd) (j := 0) g1
 refine has_of h1 λ v hv => h2 v ?_
 rcases hv with hv | hv
 .exact .inl (g2 v (.inl hv))
 .refine .inr ⟨hv.1, ?_⟩
  rw [show (v - ((0 : Nat) : Int)).toNat = v.toNat by omega]
  exact hv.2
theorem has_B {many : Nat} {L : List Bool} {i : SIns} {s : BSt} (hL : L.length = many) (ht : 0 <= i.to) (ha : ∀ a ∈ i.args, 0 <= a /\ a < many) (h1 : i.op = 100 -> i.args.length = 1) (h : Has (lv (befI L i)) s) : Has (lv L) (stB s i) := by
 have hl := λ v => lv_befI (v := v) hL ht ha
 unfold stB
 split
 .rename_i ho
  obtain ⟨a, hia⟩ := Yah.1 (h1 ho)
  obtain ⟨x, hx, hx1, hx2⟩ := h.has a ((hl a).2 (.inr (by rw [hia]; exact Yl.2 rfl)))
  refine ⟨h.nx, λ v hv => ?_⟩
  show ∃ y, updE s.env i.to _ v = some y /\ 0 <= y /\ y < s.nx
  unfold updE
  by_cases e : v = i.to
  .rw [if_pos e, hia]
   refine ⟨x, ?_, hx1, hx2⟩
   show some ((s.env a).getD 0) = some x
   rw [hx]
   rfl
  .rw [if_neg e]
   exact h.has v ((hl v).2 (.inl ⟨e, hv⟩))
 .have h2 := has_upd h i.to s.params (s.ins ++ [⟨s.nx, i.op, i.n, argsE s.env i.args⟩])
  refine h2.imp λ v hv => ?_
  by_cases e : v = i.to
  .exact .inl e
  .exact .inr ((hl v).2 (.inl ⟨e, hv⟩))
def stAt (b : SBlock) (s : BSt) (j : Nat) : BSt := (b.ins.take j).foldl stB s
theorem stAt_zero {b : SBlock} {s : BSt} : stAt b s 0 = s := rfl
theorem stAt_step {b : SBlock} {s : BSt} {j : Nat} {i : SIns} (h : b.ins[j]? = some i) : stAt b s (j + 1) = stB (stAt b s j) i := by
 unfold stAt
 rw [take_snoc h, Yat]
 rfl
theorem stAt_end {b : SBlock} {s : BSt} : stAt b s b.ins.length = b.ins.foldl stB s := by
 unfold stAt
 rw [List.take_of_length_le (Yau _)]
theorem has_at {many : Nat} {Nd : Nds} (hr : RowsB many Nd) {b : SBlock} (hb : VarsB many b) (ht : ∀ e ∈ b.term.to, e.block.toNat < Nd.length) {s : BSt} (h : Has (lv (needK Nd many b)) s) : ∀ {j : Nat}, j <= b.ins.length -> Has (lv (LA Nd many b j)) (stAt b s j)
 | 0, _ => h
 | j + 1, hj => by
  obtain ⟨i, hi⟩ := get_of_lt b.ins j (by omega)
  have him := Ye hi
  have h1 := has_at hr hb ht h (j := j) (by omega)
  rw [LA_step hi] at h1
  rw [stAt_step hi]
  exact has_B (LA_len hr ht _) (hb.to i him).1 (hb.args i him) (hb.one i him) h1
theorem stB_ins (s : BSt) (i : SIns) : ∃ l, (stB s i).ins = s.ins ++ l := by
 unfold stB
 split
 .exact ⟨[], (Yab _).symm⟩
 .exact ⟨_, rfl⟩
theorem foldB_ins : ∀ (l : List SIns) (s : BSt), ∃ m, (l.foldl stB s).ins = s.ins ++ m
 | [], s => ⟨[], (Yab _).symm⟩
 | i :: l, s => by
  obtain ⟨m, hm⟩ := foldB_ins l (stB s i)
  obtain ⟨n, hn⟩ := stB_ins s i
  rw [Yj, hm, hn, Yp]
  exact ⟨_, rfl⟩
theorem foldB_params : ∀ (l : List SIns) (s : BSt), (l.foldl stB s).params = s.params
 | [], s => rfl
 | i :: l, s => by
  rw [Yj, foldB_params l]
  unfold stB
  split <;> rfl
theorem foldB_nx : ∀ (l : List SIns) (s : BSt), s.nx <= (l.foldl stB s).nx
 | [], s => Yay _
 | i :: l, s => by
  rw [Yj]
  refine Yba ?_ (foldB_nx l _)
  unfold stB
  split
  .exact Yay _
  .show s.nx <= s.nx + 1
   omega
theorem stAt_ins (b : SBlock) (s : BSt) {j : Nat} (hj : j <= b.ins.length) : ∃ l, (b.ins.foldl stB s).ins = (stAt b s j).ins ++ l := by
 have h : b.ins.foldl stB s = (b.ins.drop j).foldl stB (stAt b s j) := by
  unfold stAt
  rw [<- Yat, List.take_append_drop]
 rw [h]
 exact foldB_ins _ _
structure WSt where
 nx : Int
 nxs : Nat -> Int
 ends : Nat -> Env
 mid : Nat -> SBlock
def wStep (G : List SBlock) (inn : List (List Int)) (Nd : Nds) (s : WSt) (k : Nat) : WSt :=
 ⟨(bodyF2 G inn Nd s.ends k s.nx).nx, λ j => if j = k then s.nx else s.nxs j, λ j => if j = k then (bodyF2 G inn Nd s.ends k s.nx).env else s.ends j, λ j => if j = k then midB (blkAt G k).term (bodyF2 G inn Nd s.ends k s.nx) else s.mid j⟩
def wStart : WSt := ⟨0, λ _ => 0, λ _ _ => none, λ _ => default⟩
def wRun (G : List SBlock) (inn : List (List Int)) (Nd : Nds) (order : List Nat) : WSt := order.foldl (wStep G inn Nd) wStart
theorem begin_congr {G : List SBlock} {inn : List (List Int)} {Nd : Nds} {ends ends' : Nat -> Env} {k : Nat} {nx : Int} (h : k ≠ 0 -> ∀ p, innAt inn k = [p] -> ends p.toNat = ends' p.toNat) : beginF G inn Nd ends k nx = beginF G inn Nd ends' k nx := by
 unfold beginF
 by_cases h0 : k = 0
 .rw [if_pos h0, if_pos h0]
 .rw [if_neg h0, if_neg h0]
  by_cases h1 : (innAt inn k).length = 1
  .rw [if_pos h1, if_pos h1]
   obtain ⟨p, hp⟩ := Yah.1 h1
   rw [hp]
   show (⟨ends p.toNat, nx, [], []⟩ : BSt) = ⟨ends' p.toNat, nx, [], []⟩
   rw [h h0 p hp]
  .rw [if_neg h1, if_neg h1]
theorem body_congr {G : List SBlock} {inn : List (List Int)} {Nd : Nds} {ends ends' : Nat -> Env} {k : Nat} {nx : Int} (h : k ≠ 0 -> ∀ p, innAt inn k = [p] -> ends p.toNat = ends' p.toNat) : bodyF2 G inn Nd ends k nx = bodyF2 G inn Nd ends' k nx := by
 unfold bodyF2
 rw [begin_congr h]
theorem foldP_nx : ∀ (l : List Int) (s : BSt), s.nx <= (l.foldl stP s).nx
 | [], s => Yay _
 | v :: l, s => Yba (by show s.nx <= s.nx + 1; omega) (foldP_nx l (stP s v))
theorem foldZ_nx {f : BSt -> Int -> Bool -> BSt} (hf : ∀ s v x, s.nx <= (f s v x).nx) : ∀ (l : List Bool) (j : Nat) (s : BSt), s.nx <= (foldZ f j l s).nx
 | [], j, s => Yay _
 | x :: l, j, s => Yba (hf s j x) (foldZ_nx hf l (j + 1) _)
theorem stI_nx (s : BSt) (v : Int) (x : Bool) : s.nx <= (stI s v x).nx := by
 unfold stI
 split
 .show s.nx <= s.nx + 1; omega
 .exact Yay _
theorem stQ_nx (s : BSt) (v : Int) (x : Bool) : s.nx <= (stQ s v x).nx := by
 unfold stQ
 split
 .show s.nx <= s.nx + 1; omega
 .exact Yay _
theorem begin_nx (G : List SBlock) (inn : List (List Int)) (Nd : Nds) (ends : Nat -> Env) (k : Nat) (nx : Int) : nx <= (beginF G inn Nd ends k nx).nx := by
 unfold beginF
 split
 .exact Yba (foldP_nx _ (emptyS nx)) (foldZ_nx stI_nx _ _ _)
 .split
  .exact Yay _
  .exact foldZ_nx stQ_nx _ _ (emptyS nx)
theorem body_nx (G : List SBlock) (inn : List (List Int)) (Nd : Nds) (ends : Nat -> Env) (k : Nat) (nx : Int) : nx <= (bodyF2 G inn Nd ends k nx).nx := Yba (begin_nx ..) (foldB_nx _ _)
structure WOkk (G : List SBlock) (inn : List (List Int)) (Nd : Nds) (done : List Nat) (s : WSt) : Prop where
 nx : 0 <= s.nx
 low : ∀ k ∈ done, 0 <= s.nxs k
 le : ∀ k ∈ done, (bodyF2 G inn Nd s.ends k (s.nxs k)).nx <= s.nx
 ends : ∀ k ∈ done, s.ends k = (bodyF2 G inn Nd s.ends k (s.nxs k)).env
 mid : ∀ k ∈ done, s.mid k = midB (blkAt G k).term (bodyF2 G inn Nd s.ends k (s.nxs k))
 par : ∀ k ∈ done, k ≠ 0 -> ∀ p, innAt inn k = [p] -> p.toNat ∈ done /\ (bodyF2 G inn Nd s.ends p.toNat (s.nxs p.toNat)).nx <= s.nxs k
theorem wokk_start {G : List SBlock} {inn : List (List Int)} {Nd : Nds} : WOkk G inn Nd [] wStart := ⟨Yay _, (λ k hk => by cases hk), (λ k hk => by cases hk), (λ k hk => by cases hk), (λ k hk => by cases hk), (λ k hk => by cases hk)⟩
theorem wokk_step {G : List SBlock} {inn : List (List Int)} {Nd : Nds} {done : List Nat} {s : WSt} (h : WOkk G inn Nd done s) {k : Nat} (hk : k ∉ done) (hp : k ≠ 0 -> ∀ p, innAt inn k = [p] -> p.toNat ∈ done) : WOkk G inn Nd (done ++ [k]) (wStep G inn Nd s k) := by
 have hxo : ∀ j ∈ done, (wStep G inn Nd s k).nxs j = s.nxs j := λ j hj => if_neg (show ¬ j = k from λ e => hk (e ▸ hj))
 have hxk : (wStep G inn Nd s k).nxs k = s.nx := if_pos rfl
 have hne : ∀ j ∈ done, j ≠ k := λ j hj e => hk (e ▸ hj)
 have hends : ∀ j ∈ done, (wStep G inn Nd s k).ends j = s.ends j := λ j hj => if_neg (hne j hj)
 have hold : ∀ j ∈ done, ∀ nx, bodyF2 G inn Nd (wStep G inn Nd s k).ends j nx = bodyF2 G inn Nd s.ends j nx := λ j hj nx => body_congr λ h0 p hpj => hends _ (h.par j hj h0 p hpj).1
 have hnew : ∀ nx, bodyF2 G inn Nd (wStep G inn Nd s k).ends k nx = bodyF2 G inn Nd s.ends k nx := λ nx => body_congr λ h0 p hpj => hends _ (hp h0 p hpj)
 have hnx := body_nx G inn Nd s.ends k s.nx
 have hn0 := h.nx
 have hm : ∀ j, j ∈ done ++ [k] -> j ∈ done \/ j = k := λ j hj => (Yt.1 hj).imp id Yl.1
 refine ⟨by show 0 <= (bodyF2 G inn Nd s.ends k s.nx).nx; omega, λ j hj => ?_, λ j hj => ?_, λ j hj => ?_, λ j hj => ?_, λ j hj h0 p hpj => ?_⟩
 .rcases hm j hj with hj | rfl
  .rw [hxo j hj]
   exact h.low j hj
  .rw [hxk]
   exact hn0
 .rcases hm j hj with hj | rfl
  .rw [hxo j hj, hold j hj]
   have := h.le j hj
   show _ <= (bodyF2 G inn Nd s.ends k s.nx).nx
   omega
  .rw [hxk, hnew]
   exact Yay _
 .rcases hm j hj with hj | rfl
  .rw [hxo j hj, hold j hj, hends j hj]
   exact h.ends j hj
  .rw [hxk, hnew]
   exact if_pos rfl
 .rcases hm j hj with hj | rfl
  .rw [hxo j hj, hold j hj]
   exact (if_neg (hne j hj)).trans (h.mid j hj)
  .rw [hxk, hnew]
   exact if_pos rfl
 .rcases hm j hj with hj | rfl
  .obtain ⟨h1, h2⟩ := h.par j hj h0 p hpj
   refine ⟨Yy _ h1, ?_⟩
   rw [hxo j hj, hxo _ h1, hold _ h1]
   exact h2
  .have h1 := hp h0 p hpj
   refine ⟨Yy _ h1, ?_⟩
   rw [hxk, hxo _ h1, hold _ h1]
   exact h.le _ h1
theorem wokk_run {G : List SBlock} {inn : List (List Int)} {Nd : Nds} : ∀ {rest done : List Nat} {s : WSt}, WOkk G inn Nd done s -> (done ++ rest).Nodup -> (∀ (d : List Nat) (k : Nat) (r : List Nat), done ++ rest = d ++ k :: r -> k ≠ 0 -> ∀ p, innAt inn k = [p] -> p.toNat ∈ d) -> WOkk G inn Nd (done ++ rest) (rest.foldl (wStep G inn Nd) s)
 | [], done, s, h, _, _ => by
  rw [Yab]
  exact h
 | k :: rest, done, s, h, hn, hp => by
  have hk : k ∉ done := λ hk => (Yae.1 hn).2.2 k hk k (Ya ..) rfl
  have h1 := wokk_step h hk (hp done k rest rfl)
  have e : done ++ k :: rest = (done ++ [k]) ++ rest := by rw [Yp]; rfl
  rw [e] at hn hp ⊢
  exact wokk_run h1 hn hp
theorem wr_ok {bs : List SBlock} (hE : ∀ b ∈ bs, ∀ e ∈ b.term.to, 1 <= e.block /\ e.block < bs.length) {order : List Nat} (ho : OrderOk bs order) (G : List SBlock) (Nd : Nds) : WOkk G (predsF bs) Nd order (wRun G (predsF bs) Nd order) := by
 have h := wokk_run (G := G) (inn := predsF bs) (Nd := Nd) (rest := order) (done := []) wokk_start (by rw [Yaa]; exact ho.nodup) ?_
 .rw [Yaa] at h
  exact h
 .intro d k r hd h0 p hpk
  rw [Yaa] at hd
  have hj : order[d.length]? = some k := by rw [hd, Yad (Yau _), Nat.sub_self]; rfl
  obtain ⟨i, q, hi, hq, he⟩ := ho.par _ k hj h0
  have hm : (q : Int) ∈ innAt (predsF bs) k := (preds_mem hE).2 ⟨q, rfl, he⟩
  rw [hpk] at hm
  have e : (q : Int) = p := Yl.1 hm
  rw [<- e, Yaz]
  rw [hd, Yac hi] at hq
  exact Ye hq
def setsF (o : List Bool) (l : List Int) : List Bool := l.foldl (λ s a => s.set a.toNat true) o
def backI : List SIns -> List Bool -> List Bool
 | [], s => s
 | i :: l, s => backI l (setsF (s.set i.to.toNat false) i.args)
def backF (b : SBlock) (s : List Bool) : List Bool := backI b.ins.reverse s
def edgeV1 (ps : List Int) : Nat -> List Bool -> List Bool -> List Bool
 | _, [], o => o
 | v, is :: l, o => edgeV1 ps (v + 1) l (if (is && !(ps.any λ x => decide ((v : Int) = x))) = true then o.set v true else o)
abbrev Sets := List (Option (List Bool))
def setAt (s : Sets) (k : Nat) : List Bool := (s[k]?.getD none).getD []
def edgesV (bs : List SBlock) (first : Sets) : List SEdge -> List Bool -> List Bool
 | [], o => o
 | e :: l, o => edgesV bs first l (edgeV1 (paramsOf bs e.block) 0 (setAt first e.block.toNat) o)
def argsV : List SEdge -> List Bool -> List Bool
 | [], o => o
 | e :: l, o => argsV l (setsF o e.args)
def termV1 (t : STerm) (o : List Bool) : List Bool := if t.kind ≠ 1 /\ t.kind ≠ 4 then o.set t.arg.toNat true else o
def lastF (bs : List SBlock) (many : Nat) (t : STerm) (first : Sets) : List Bool := argsV t.to (termV1 t (edgesV bs first t.to (Yh many false)))
structure LState where
 behind : Sets
 first : Sets
 again : Bool
def Mem1 (s : List Bool) (v : Nat) : Prop := s[v]? = some true
def TermUse (t : STerm) (v : Nat) : Prop := (t.kind ≠ 1 /\ t.kind ≠ 4) /\ t.arg.toNat = v \/ ∃ e ∈ t.to, ∃ a ∈ e.args, a.toNat = v
def Exp (l : List SIns) (v : Nat) : Prop := ∃ (j : Nat) (i : SIns), l[j]? = some i /\ (∃ a ∈ i.args, a.toNat = v) /\ ∀ (j' : Nat) (x : SIns), j' < j -> l[j']? = some x -> x.to.toNat ≠ v
theorem Exp.append {l : List SIns} {v : Nat} (h : Exp l v) (m : List SIns) : Exp (l ++ m) v := by
 obtain ⟨j, i, h1, h2, h3⟩ := h
 have hj := (Yb.1 h1).1
 exact ⟨j, i, by rw [Yac hj]; exact h1, h2, λ j' x hlt hx => h3 j' x hlt (by rwa [Yac (by omega)] at hx)⟩
inductive LiveIn (bs : List SBlock) (v : Nat) : Nat -> Prop where
 | use {k : Nat} {b : SBlock} : bs[k]? = some b -> Exp b.ins v -> LiveIn bs v k
 | term {k : Nat} {b : SBlock} : bs[k]? = some b -> (∀ x ∈ b.ins, x.to.toNat ≠ v) -> TermUse b.term v -> LiveIn bs v k
 | pass {k : Nat} {b : SBlock} {e : SEdge} : bs[k]? = some b -> (∀ x ∈ b.ins, x.to.toNat ≠ v) -> e ∈ b.term.to -> (v : Int) ∉ paramsOf bs e.block -> LiveIn bs v e.block.toNat -> LiveIn bs v k
def Sub1 (s t : List Bool) : Prop := ∀ v, Mem1 s v -> Mem1 t v
structure LiveOk (bs : List SBlock) (many : Nat) (s : LState) : Prop where
 blen : s.behind.length = bs.length
 flen : s.first.length = bs.length
 emp : ∀ (k : Nat), s.behind[k]? = some none -> s.first[k]? = some none
 full : ∀ (k : Nat) (l : List Bool), s.behind[k]? = some (some l) -> l.length = many /\ ∃ b, bs[k]? = some b /\ s.first[k]? = some (some (backF b l)) /\ Sub1 l (lastF bs many b.term s.first)
 live : ∀ (k v : Nat), Mem1 (setAt s.first k) v -> LiveIn bs v k
def valuesL (bs : List SBlock) : List Int := bs.flatMap λ b => b.params ++ b.ins.map (·.to)
def freshF (bs : List SBlock) : Int := (valuesL bs).foldl (λ n v => max n (v + 1)) 0
def listF : Nat -> List Bool -> List Int
 | _, [] => []
 | v, b :: l => if b = true then (v : Int) :: listF (v + 1) l else listF (v + 1) l
theorem list_len : ∀ (l : List Bool) (w : Nat), (listF w l).length <= l.length
 | [], w => Yau _
 | b :: l, w => by
  rw [listF]
  have := list_len l (w + 1)
  split <;> simp <;> omega
structure RangeOk (bs : List SBlock) (many : Nat) : Prop where
 to : ∀ b ∈ bs, ∀ i ∈ b.ins, 0 <= i.to /\ i.to < many
 args : ∀ b ∈ bs, ∀ i ∈ b.ins, ∀ a ∈ i.args, 0 <= a /\ a < many
 arg : ∀ b ∈ bs, b.term.kind ≠ 1 /\ b.term.kind ≠ 4 -> 0 <= b.term.arg /\ b.term.arg < many
 eargs : ∀ b ∈ bs, ∀ e ∈ b.term.to, ∀ a ∈ e.args, 0 <= a /\ a < many
 edge : ∀ b ∈ bs, ∀ e ∈ b.term.to, 1 <= e.block /\ e.block < bs.length
def mainF (u : SUnit) : SFunc := u.fns[u.main.toNat]?.getD default
def frU (u : SUnit) : Int := freshF (mainF u).blocks
theorem nw_fns {u : SUnit} (h : unitF u = 0) : ∀ f ∈ u.fns, funcF f = 0 := by
 unfold unitF at h
 split at h
 .cases h
 .split at h
  .cases h
  .split at h
   .cases h
   .split at h
    .rename_i hn; exact absurd h hn
    .rename_i hn
     exact firstE_ok (Decidable.not_not.1 hn)
theorem vget_vput (k : Int) (v : Val) (x : Int) : ∀ m : Vals, vget (vput m k v) x = if k = x then v else vget m x
 | [] => by
  show (if k = x then v else vget [] x) = _
  rfl
 | (j, a) :: m => by
  rw [vput]
  by_cases hj : j = k
  .subst hj
   rw [if_pos rfl, vget, vget]
   by_cases hx : j = x
   .rw [if_pos hx, if_pos hx]
   .rw [if_neg hx, if_neg hx, if_neg hx]
  .rw [if_neg hj, vget, vget_vput k v x m, vget]
   by_cases hx : j = x
   .rw [if_pos hx, if_neg (by omega), if_pos hx]
   .rw [if_neg hx, if_neg hx]
def Agree (q : Int -> Prop) (m m' : Vals) : Prop := ∀ x, q x -> vget m' x = vget m x
theorem Agree.put {q : Int -> Prop} {m m' : Vals} (h : Agree q m m') (k : Int) (v : Val) : Agree q (vput m k v) (vput m' k v) := λ x hx => by
 rw [vget_vput, vget_vput, h x hx]
theorem Agree.take {q : Int -> Prop} {m m' : Vals} (h : Agree q m m') {l : List Int} (hl : ∀ a ∈ l, q a) : takeF m' l = takeF m l := Yal λ a ha => h a (hl a ha)
def inB (u : SUnit) (f : MFrame) : Prop := f.fn = u.main /\ f.block = 0
open Classical in
noncomputable def shF (u : SUnit) (f : MFrame) : Int := if inB u f then 1 else 0
def okX (u : SUnit) (f : MFrame) (x : Int) : Prop := f.fn = u.main -> x ≠ frU u
structure FR (u : SUnit) (f f' : MFrame) : Prop where
 fn : f'.fn = f.fn
 block : f'.block = f.block
 to : f'.to = f.to
 at_ : f'.at_ = f.at_ + shF u f
 vals : Agree (okX u f) f.vals f'.vals
inductive SR (u : SUnit) : List MFrame -> List MFrame -> Prop where
 | nil : SR u [] []
 | cons {f f' : MFrame} {fs fs' : List MFrame} : FR u f f' -> SR u fs fs' -> SR u (f :: fs) (f' :: fs')
inductive PR (u : SUnit) : List MFrame -> List MFrame -> Prop where
 | mk {f : MFrame} {fs fs' : List MFrame} : inB u f -> f.at_ = 0 -> SR u fs fs' -> PR u (f :: fs) (f :: fs')
section
variable {u : SUnit} {w : Int} (hu : unitF u = 0)
include hu
end
def jumpB (e : SEdge) : SBlock := ⟨[], [], ⟨1, 0, 0, [], [e]⟩⟩
abbrev Cut := List (Nat × SEdge)
def spE (c : SEdge -> Bool) (n k : Nat) : List SEdge -> Cut -> List SEdge × Cut
 | [], X => ([], X)
 | e :: l, X => if c e = true then (⟨((n + X.length : Nat) : Int), []⟩ :: (spE c n k l (X ++ [(k, e)])).1, (spE c n k l (X ++ [(k, e)])).2) else (e :: (spE c n k l X).1, (spE c n k l X).2)
def setTo (b : SBlock) (to : List SEdge) : SBlock := { b with term := { b.term with to := to } }
def spB (c : SBlock -> SEdge -> Bool) (n : Nat) : Nat -> List SBlock -> Cut -> List SBlock × Cut
 | _, [], X => ([], X)
 | k, b :: l, X => (setTo b (spE (c b) n k b.term.to X).1 :: (spB c n (k + 1) l (spE (c b) n k b.term.to X).2).1, (spB c n (k + 1) l (spE (c b) n k b.term.to X).2).2)
def critB (bs : List SBlock) (b : SBlock) (e : SEdge) : Bool := !(decide ((b.term.to.length : Int) < 2) || decide ((((predsF bs)[e.block.toNat]?.getD []).length : Int) < 2))
def splitP (f : SFunc) : List SBlock × Cut := spB (critB f.blocks) f.blocks.length 0 f.blocks []
def splitF (f : SFunc) : SFunc := ⟨f.name, (splitP f).1 ++ (splitP f).2.map λ x => jumpB x.2⟩
structure SplitOk (bs gs : List SBlock) (E : Cut) : Prop where
 len : gs.length = bs.length + E.length
 old : ∀ k b, bs[k]? = some b -> ∃ to : List SEdge, gs[k]? = some (setTo b to) /\ to.length = b.term.to.length /\ ∀ (j : Nat) (e : SEdge), b.term.to[j]? = some e -> to[j]? = some e \/ ∃ m, E[m]? = some (k, e) /\ to[j]? = some ⟨((bs.length + m : Nat) : Int), []⟩
 new : ∀ m k e, E[m]? = some (k, e) -> gs[bs.length + m]? = some (jumpB e) /\ ∃ b, bs[k]? = some b /\ e ∈ b.term.to
section
variable {bs gs : List SBlock} {E : Cut} (h : SplitOk bs gs E) (hE : ∀ b ∈ bs, ∀ e ∈ b.term.to, 1 <= e.block /\ e.block < bs.length)
include h hE
end
def skP (f : SFunc) : SFunc := pruneF (skF f)
def grT (f : SFunc) (b : SBlock) : SBlock := setTo b ((skT b).to.map λ e => ⟨gI (atF (skF f)) e.block, e.args⟩)
def graphG (f : SFunc) : List SBlock := (reachL (skF f)).map λ k => grT f (f.blocks[k.toNat]?.getD default)
def innG (f : SFunc) : List (List Int) := predsF (skP f).blocks
def orderG (f : SFunc) : List Nat := orderF (skP f).blocks
def WG (f : SFunc) (Nd : Nds) : WSt := wRun (graphG f) (innG f) Nd (orderG f)
def outB (f : SFunc) (Nd : Nds) (k : Nat) : SBlock := setTo ((WG f Nd).mid k) ((blkAt (graphG f) k).term.to.map (edgeW (innG f) Nd ((WG f Nd).ends k)))
def enterG (f : SFunc) (Nd : Nds) : SFunc := ⟨f.name, (Yr (graphG f).length).map (outB f Nd)⟩
def begG (f : SFunc) (Nd : Nds) (i : Nat) : BSt := beginF (graphG f) (innG f) Nd (WG f Nd).ends i ((WG f Nd).nxs i)
def stG (f : SFunc) (Nd : Nds) (i j : Nat) : BSt := stAt (blkAt (graphG f) i) (begG f Nd i) j
structure EnOk (f : SFunc) (many : Nat) (Nd : Nds) : Prop where
 mle : many <= 4096
 vars : ∀ b ∈ f.blocks, VarsB many b
 need : NeedOk (graphG f) (orderG f) many Nd
section
variable {f : SFunc} (h : mfuncF f = 0)
include h
theorem sk_order : OrderOk (skF f).blocks (orderF (skF f).blocks) := order_ok (func_ok (sk_ok h)).pos (func_ok (sk_ok h)).edges
theorem skP_ok : funcF (skP f) = 0 := prune_ok (sk_ok h)
theorem skP_edges : ∀ b ∈ (skP f).blocks, ∀ e ∈ b.term.to, 1 <= e.block /\ e.block < (skP f).blocks.length := (func_ok (skP_ok h)).edges
theorem skP_order : OrderOk (skP f).blocks (orderG f) := order_ok (func_ok (skP_ok h)).pos (skP_edges h)
omit h in
theorem graph_len : (graphG f).length = (skP f).blocks.length := by
 unfold graphG skP
 rw [prune_len, Yg]
theorem graph_at {v : Nat} (hv : v ∈ orderF (skF f).blocks) {b : SBlock} (hb : f.blocks[v]? = some b) : (graphG f)[rk (skF f) v]? = some (grT f b) /\ (skP f).blocks[rk (skF f) v]? = some (reB (atF (skF f)) (skB v b)) := by
 have ho := sk_order h
 refine ⟨?_, prune_at ho hv (skF_get hb)⟩
 have h1 := (rk_get ho hv).2
 unfold graphG
 rw [Yn, reach_eq ho, Yn, h1]
 show some (grT f (f.blocks[((v : Int)).toNat]?.getD default)) = _
 rw [Yaz, hb]
 rfl
theorem graph_of {i : Nat} (hi : i < (graphG f).length) : ∃ v b, v ∈ orderF (skF f).blocks /\ rk (skF f) v = i /\ f.blocks[v]? = some b /\ (graphG f)[i]? = some (grT f b) /\ (skP f).blocks[i]? = some (reB (atF (skF f)) (skB v b)) := by
 rw [graph_len] at hi
 obtain ⟨c, hc⟩ := get_of_lt (skP f).blocks i (by omega)
 obtain ⟨v, c2, hv, hr, hc2, _⟩ := prune_of (sk_order h) hc
 obtain ⟨b, hb, rfl⟩ := sk_at hc2
 obtain ⟨h1, h2⟩ := graph_at h hv hb
 rw [hr] at h1 h2
 exact ⟨v, b, hv, hr, hb, h1, h2⟩
omit h in
theorem re_to {at_ : List Int} {k : Nat} {b : SBlock} : (reB at_ (skB k b)).term.to = (skT b).to.map λ e => ⟨gI at_ e.block, e.args⟩ := by
 show ((skB k b).term.to.map _) = _
 rw [skB_to]
omit h in
theorem grT_to {b : SBlock} : (grT f b).term.to = (skT b).to.map λ e => ⟨gI (atF (skF f)) e.block, e.args⟩ := rfl
theorem graph_toAt (i : Nat) : toAt (graphG f) i = toAt (skP f).blocks i := by
 by_cases hi : i < (graphG f).length
 .obtain ⟨v, b, _, _, _, h1, h2⟩ := graph_of h hi
  rw [toAt_get h1, toAt_get h2, re_to]
  rfl
 .unfold toAt
  rw [Yag (by omega), Yag (by rw [<- graph_len]; omega)]
theorem graph_edges : ∀ b ∈ graphG f, ∀ e ∈ b.term.to, 1 <= e.block /\ e.block < (graphG f).length := λ b hb e he => by
 obtain ⟨i, hi⟩ := Ym hb
 have h1 := graph_toAt h i
 rw [toAt_get hi] at h1
 have hl := (Yb.1 hi).1
 obtain ⟨c, hc⟩ := get_of_lt (skP f).blocks i (by rw [graph_len] at hl; omega)
 rw [toAt_get hc] at h1
 rw [graph_len]
 exact skP_edges h c (Ye hc) e (by rw [<- h1]; exact he)
omit h in
theorem blk_of {i : Nat} {b : SBlock} (hi : (graphG f)[i]? = some b) : blkAt (graphG f) i = b := by
 unfold blkAt
 rw [hi]
 rfl
theorem order_all {i : Nat} (hi : i < (graphG f).length) : i ∈ orderG f := by
 have hz := prune_all (sk_ok h)
 have ho := skP_order h
 have h1 : (reachL (skP f)).length = (orderG f).length := by
  unfold reachL
  rw [(List.mergeSort_perm _ _).length_eq]
  unfold ordZ
  rw [Yg]
  rfl
 have h2 : (orderG f).length = (skP f).blocks.length := h1.symm.trans hz
 refine Classical.byContradiction λ hn => ?_
 have h3 := nodup_lt (l := i :: orderG f) (n := (skP f).blocks.length) (Yak.2 ⟨hn, ho.nodup⟩) λ x hx => by
  rcases Yc.1 hx with rfl | hx
  .rw [<- graph_len]; exact hi
  .exact ho.lt x hx
 rw [Yf] at h3
 omega
variable {many : Nat} {Nd : Nds} (hE : EnOk f many Nd)
include hE
theorem graph_vars : ∀ b ∈ graphG f, VarsB many b := λ b hb => by
 obtain ⟨i, hi⟩ := Ym hb
 obtain ⟨v, c, _, _, hc, h1, _⟩ := graph_of h (Yb.1 hi).1
 rw [hi] at h1
 injection h1 with h1
 subst h1
 obtain ⟨a, b, c, d⟩ := hE.vars c (Ye hc)
 exact ⟨a, b, c, d⟩
omit h in
theorem nd_rows : RowsB many Nd := hE.need.row
theorem edge_lt {b : SBlock} (hb : b ∈ graphG f) : ∀ e ∈ b.term.to, e.block.toNat < Nd.length := λ e he => by
 have := graph_edges h b hb e he
 rw [hE.need.len]
 omega
theorem nd_fix {i : Nat} {b : SBlock} (hi : (graphG f)[i]? = some b) : ndAt Nd i = needK Nd many b := by
 have h1 := hE.need.fix i (order_all h (Yb.1 hi).1) b hi
 unfold ndAt
 rw [h1]
 rfl
theorem wg_ok : WOkk (graphG f) (innG f) Nd (orderG f) (WG f Nd) := wr_ok (skP_edges h) (skP_order h) (graphG f) Nd
theorem body_eq (i : Nat) : bodyF2 (graphG f) (innG f) Nd (WG f Nd).ends i ((WG f Nd).nxs i) = stG f Nd i (blkAt (graphG f) i).ins.length := by
 unfold bodyF2 stG
 rw [stAt_end]
 rfl
theorem preds_of {i : Nat} {p : Int} : p ∈ innAt (innG f) i ↔ ∃ q : Nat, p = q /\ Edge (graphG f) q i := by
 have h1 := preds_mem (skP_edges h) (t := i) (x := p)
 unfold innAt innG
 rw [h1]
 unfold Edge
 exact ⟨λ ⟨q, a, b⟩ => ⟨q, a, by rw [graph_toAt h]; exact b⟩, λ ⟨q, a, b⟩ => ⟨q, a, by rw [<- graph_toAt h]; exact b⟩⟩
theorem has_beg : ∀ (n j i : Nat), j < n -> (orderG f)[j]? = some i -> Has (lv (ndAt Nd i)) (begG f Nd i)
 | 0, j, i, hj, _ => absurd hj (by omega)
 | n + 1, j, i, hj, hi => by
  have hw := wg_ok h hE
  have ho := skP_order h
  have him := Ye hi
  have hx0 := hw.low i him
  unfold begG beginF
  by_cases h0 : i = 0
  .rw [if_pos h0, h0]
   exact (has_beg0 (by rw [<- h0]; exact hx0)).imp λ v hv => .inr hv
  .rw [if_neg h0]
   by_cases h1 : (innAt (innG f) i).length = 1
   .rw [if_pos h1]
    obtain ⟨p, hp⟩ := Yah.1 h1
    obtain ⟨hpd, hpn⟩ := hw.par i him h0 p hp
    obtain ⟨j2, q, hj2, hq, he⟩ := ho.par j i hi h0
    have hqi : (q : Int) ∈ innAt (innG f) i := (preds_mem (skP_edges h)).2 ⟨q, rfl, he⟩
    rw [hp] at hqi
    have e : p = q := (Yl.1 hqi).symm
    subst e
    rw [Yaz] at hpd hpn
    have hB := has_beg n j2 q (by omega) hq
    obtain ⟨b, hb⟩ := get_of_lt (graphG f) q (by have := ho.lt q hpd; rw [graph_len]; omega)
    have hbm := Ye hb
    have hlt := edge_lt h hE hbm
    rw [nd_fix h hE hb] at hB
    have hF := has_at (nd_rows hE) (graph_vars h hE b hbm) hlt hB (Yau _)
    have hs : stAt b (begG f Nd q) b.ins.length = bodyF2 (graphG f) (innG f) Nd (WG f Nd).ends q ((WG f Nd).nxs q) := by
     rw [body_eq h hE, blk_of hb]
     unfold stG
     rw [blk_of hb]
    rw [hs] at hF
    rw [hp]
    show Has (lv (ndAt Nd i)) ⟨(WG f Nd).ends ((q : Int)).toNat, (WG f Nd).nxs i, [], []⟩
    rw [Yaz]
    have he2 : ∃ x ∈ b.term.to, x.block.toNat = i := by
     obtain ⟨x, hx, hxi⟩ := he
     rw [<- graph_toAt h, toAt_get hb] at hx
     exact ⟨x, hx, hxi⟩
    obtain ⟨x, hx, hxi⟩ := he2
    refine ⟨hx0, λ v hv => ?_⟩
    have hv2 : lv (LA Nd many b b.ins.length) v := by
     rw [LA_end]
     refine (lv_befT (orE_len (nd_rows hE) Yk hlt) (graph_vars h hE b hbm).arg).2 (.inl ?_)
     exact (lv_beh (nd_rows hE) hlt).2 ⟨x, hx, by rw [hxi]; exact hv⟩
    obtain ⟨y, hy, hy1, hy2⟩ := hF.has v hv2
    refine ⟨y, ?_, hy1, by show y < (WG f Nd).nxs i; omega⟩
    show (WG f Nd).ends q v = some y
    rw [hw.ends q hpd]
    exact hy
   .rw [if_neg h1]
    exact has_begQ hx0
theorem has_G {i : Nat} {b : SBlock} (hi : (graphG f)[i]? = some b) {j : Nat} (hj : j <= b.ins.length) : Has (lv (LA Nd many b j)) (stG f Nd i j) := by
 obtain ⟨n, hn⟩ := Ym (order_all h (Yb.1 hi).1)
 have hB := has_beg h hE (n + 1) n i (by omega) hn
 have hbm := Ye hi
 rw [nd_fix h hE hi] at hB
 unfold stG
 rw [blk_of hi]
 exact has_at (nd_rows hE) (graph_vars h hE b hbm) (edge_lt h hE hbm) hB hj
theorem out_get {i : Nat} {b : SBlock} (hi : (graphG f)[i]? = some b) : (enterG f Nd).blocks[i]? = some ⟨(begG f Nd i).params, (stG f Nd i b.ins.length).ins, ⟨b.term.kind, (midT b.term (stG f Nd i b.ins.length).env).arg, b.term.n, b.term.cases, b.term.to.map (edgeW (innG f) Nd (stG f Nd i b.ins.length).env)⟩⟩ := by
 have hil := (Yb.1 hi).1
 have hio := order_all h hil
 have hw := wg_ok h hE
 have hb := body_eq h hE (i := i)
 rw [blk_of hi] at hb
 show ((Yr (graphG f).length).map (outB f Nd))[i]? = _
 rw [Yn, Yaq hil]
 show some (setTo ((WG f Nd).mid i) ((blkAt (graphG f) i).term.to.map (edgeW (innG f) Nd ((WG f Nd).ends i)))) = _
 rw [hw.mid i hio, hw.ends i hio, hb, blk_of hi]
 have hp : (stG f Nd i b.ins.length).params = (begG f Nd i).params := by
  rw [<- hb]
  exact foldB_params _ _
 unfold setTo midB midT
 rw [hp]
end
section
variable {f : SFunc} (hf : FuncOk f)
include hf
omit hf in
end
abbrev Mv := Int × Int
def seqBad (spare : Int) : List Mv -> List Mv -> Int
 | _, [] => 0
 | pre, x :: l => if x.1 < 0 \/ x.2 < 0 then 4 else if (pre.any λ y => y.1 == x.1) = true then 7 else if x.1 = spare \/ x.2 = spare then 1 else seqBad spare (pre ++ [x]) l
def seqAt (left : List Mv) : Int := idxOf (λ x => !(left.any λ y => y.2 == x.1)) left
def brkF (spare v : Int) (p : Mv) : Mv := if p.2 = v then (p.1, spare) else p
def seqStep (spare : Int) (s : List Mv × List Mv) : List Mv × List Mv :=
 if seqAt s.1 < 0 then
  let v := (s.1[0]?.getD (0, 0)).1
  let left := s.1.map (brkF spare v)
  (left.eraseIdx 0, (s.2 ++ [(spare, v)]) ++ [left[0]?.getD (0, 0)])
 else (s.1.eraseIdx (seqAt s.1).toNat, s.2 ++ [s.1[(seqAt s.1).toNat]?.getD (0, 0)])
def seqLoop (spare : Int) : Nat -> List Mv × List Mv -> List Mv × List Mv
 | 0, s => s
 | n + 1, s => seqLoop spare n (seqStep spare s)
def leftF (l : List Mv) : List Mv := l.filter λ x => !(x.1 == x.2)
def seqF (l : List Mv) (spare : Int) : List Mv × Int :=
 if seqBad spare [] l = 0 then ((seqLoop spare (leftF l).length (leftF l, [])).2, 0) else ([], seqBad spare [] l)
def mvI (x : Mv) : SIns := ⟨x.1, 100, 0, [x.2]⟩
def movesOf (bs : List SBlock) (e : SEdge) : List Mv := (paramsOf bs e.block).zip e.args
def copiesF (bs : List SBlock) (e : SEdge) (sp : Int) : List SIns := (seqF (movesOf bs e) sp).1.map mvI
def updB (B : List SBlock) (m : Nat) (f : SBlock -> SBlock) : List SBlock := B.set m (f (B[m]?.getD default))
def addE (l : List SIns) (b : SBlock) : SBlock := { b with ins := b.ins ++ l }
def addH (l : List SIns) (b : SBlock) : SBlock := { b with ins := l ++ b.ins }
def clrE (n : Nat) (b : SBlock) : SBlock := setTo b (b.term.to.set n ⟨(b.term.to[n]?.getD default).block, []⟩)
def jmpT (b : SBlock) : SBlock := { b with term := ⟨1, 0, 0, [], b.term.to⟩ }
def noPar (b : SBlock) : SBlock := { b with params := [] }
def lvE (bs : List SBlock) (sp : Int) (k : Nat) (b : SBlock) (n : Nat) (e : SEdge) (B : List SBlock) : List SBlock :=
 updB (if b.term.to.length = 1 then updB B k (addE (copiesF bs e sp)) else updB B e.block.toNat (addH (copiesF bs e sp))) k (clrE n)
def lvEs (bs : List SBlock) (sp : Int) (k : Nat) (b : SBlock) : Nat -> List SEdge -> List SBlock -> List SBlock
 | _, [], B => B
 | n, e :: l, B => lvEs bs sp k b (n + 1) l (lvE bs sp k b n e B)
def lvB (bs : List SBlock) (sp : Int) (k : Nat) (b : SBlock) (B : List SBlock) : List SBlock :=
 lvEs bs sp k b 0 b.term.to (if b.term.kind = 3 /\ b.term.to.length = 1 then updB B k jmpT else B)
def lvBs (bs : List SBlock) (sp : Int) : Nat -> List SBlock -> List SBlock -> List SBlock
 | _, [], B => B
 | k, b :: l, B => lvBs bs sp (k + 1) l (lvB bs sp k b B)
def clrP (k : Nat) : Nat -> List SBlock -> List SBlock
 | _, [] => []
 | n, b :: l => (if 0 < n /\ n < k then noPar b else b) :: clrP k (n + 1) l
def leaveG (g : SFunc) (sp : Int) : SFunc := ⟨g.name, clrP g.blocks.length 0 (lvBs g.blocks sp 0 g.blocks g.blocks)⟩
def lvF (f : SFunc) : SFunc := leaveG (splitF f) (freshF f.blocks)
def lvU (u : SUnit) : SUnit := ⟨u.fns.map lvF, u.main⟩
def insH (bs : List SBlock) (sp : Int) (i : Nat) : List SEdge -> List SIns
 | [] => []
 | e :: l => insH bs sp i l ++ if i = e.block.toNat then copiesF bs e sp else []
def preB (bs : List SBlock) (sp : Int) (i : Nat) : List SBlock -> List SIns
 | [] => []
 | b :: l => preB bs sp i l ++ if b.term.to.length = 1 then [] else insH bs sp i b.term.to
section
variable (bs : List SBlock) (sp : Int)
end
def SmallF (u : SUnit) : Prop := ∀ f ∈ u.fns, (splitF f).blocks.length <= 128
open Classical in
noncomputable def lvErr (u : SUnit) : Int := if unitF u ≠ 0 then unitF u else if ¬ SmallF u then 2 else if mcheckF (lvU u) ≠ 0 then 2 else 0
theorem vget_pt (k : Int) (v : Val) (x : Int) : ∀ m : Vals, vget (vput m k v) x = if k = x then v else vget m x
 | [] => rfl
 | (j, a) :: m => by
  rw [vput]
  by_cases hj : j = k
  .subst hj
   rw [if_pos rfl, vget, vget]
   by_cases hx : j = x
   .rw [if_pos hx, if_pos hx]
   .rw [if_neg hx, if_neg hx, if_neg hx]
  .rw [if_neg hj, vget, vget_pt k v x m, vget]
   by_cases hx : j = x
   .rw [if_pos hx, if_neg (by omega), if_pos hx]
   .rw [if_neg hx, if_neg hx]
section
variable (sp : Int) (L : List Mv) (m : Vals)
structure SInvM (left : List Mv) (M : Vals) : Prop where
 src : ∀ x ∈ left, ∃ s, (x.1, s) ∈ L /\ vget M x.2 = vget m s
 done : ∀ y, y ≠ sp -> (∀ v, (y, v) ∉ left) -> (∀ s, (y, s) ∈ L -> vget M y = vget m s) /\ ((∀ s, (y, s) ∉ L) -> vget M y = vget m y)
 nodup : (left.map (·.1)).Nodup
 ne : ∀ x ∈ left, x.1 ≠ sp
variable {sp L m}
end
section
variable {u : SUnit} (hu : unitF u = 0)
include hu
end
section
variable {f : SFunc} (h0 : funcF f = 0) (hl : (splitF f).blocks.length <= 128)
include h0 hl
end
def gU (u : SUnit) (fn : Int) : SFunc := u.fns[fn.toNat]?.getD default
def spU (u : SUnit) (fn : Int) : Int := freshF (gU u fn).blocks
def preU (u : SUnit) (fn k : Int) : List SIns := preB (splitF (gU u fn)).blocks (spU u fn) k.toNat (splitF (gU u fn)).blocks
def AgL (q : Int) (m m' : Vals) : Prop := ∀ x, x ≠ q -> vget m' x = vget m x
theorem AgL.put {q : Int} {m m' : Vals} (h : AgL q m m') (k : Int) (v : Val) : AgL q (vput m k v) (vput m' k v) := λ x hx => by
 rw [vget_pt, vget_pt, h x hx]
theorem AgL.take {q : Int} {m m' : Vals} (h : AgL q m m') {l : List Int} (hl : ∀ a ∈ l, a ≠ q) : takeF m' l = takeF m l := Yal λ a ha => h a (hl a ha)
structure FL (u : SUnit) (f f' : MFrame) : Prop where
 fn : f'.fn = f.fn
 block : f'.block = f.block
 to : f'.to = f.to
 at_ : f'.at_ = f.at_ + ((preU u f.fn f.block).length : Nat)
 vals : AgL (spU u f.fn) f.vals f'.vals
inductive SL (u : SUnit) : List MFrame -> List MFrame -> Prop where
 | nil : SL u [] []
 | cons {f f' : MFrame} {fs fs' : List MFrame} : FL u f f' -> SL u fs fs' -> SL u (f :: fs) (f' :: fs')
theorem insN_mem : ∀ {l : List SBlock} {b : SBlock}, b ∈ l -> b.ins.length <= insN l
 | [], b, h => by cases h
 | c :: l, b, h => by
  rw [insN]
  rcases Yc.1 h with rfl | h
  .omega
  .have := insN_mem h; omega
section
variable {u : SUnit} (hu : unitF u = 0) (hS : SmallF u) (hM : mcheckF (lvU u) = 0)
include hu
end
def Rv (s : BSt) (m m' : Vals) : Prop := ∀ v x, s.env v = some x -> vget m' x = vget m v
theorem rv_upd {s : BSt} {m m' : Vals} (h : Rv s m m') (ha : AllLt s) (v : Int) (a : Val) (ps : List Int) (is : List SIns) : Rv ⟨updE s.env v s.nx, s.nx + 1, ps, is⟩ (vput m v a) (vput m' s.nx a) := λ y x hy => by
 have hy : updE s.env v s.nx y = some x := hy
 unfold updE at hy
 rw [vget_vput, vget_vput]
 by_cases e : y = v
 .rw [if_pos e] at hy
  injection hy with hy
  rw [if_pos hy, if_pos e.symm]
 .rw [if_neg e] at hy
  have := (ha.2 y x hy).2
  rw [if_neg (by omega), if_neg (λ q => e q.symm)]
  exact h y x hy
theorem rv_keep {s : BSt} {m m' : Vals} (h : Rv s m m') (ha : AllLt s) {v : Int} {a : Val} (hv : a = vget m v) (ps : List Int) (is : List SIns) : Rv ⟨updE s.env v s.nx, s.nx + 1, ps, is⟩ m (vput m' s.nx a) := λ y x hy => by
 have hy : updE s.env v s.nx y = some x := hy
 unfold updE at hy
 rw [vget_vput]
 by_cases e : y = v
 .rw [if_pos e] at hy
  injection hy with hy
  rw [if_pos hy, hv, e]
 .rw [if_neg e] at hy
  have := (ha.2 y x hy).2
  rw [if_neg (by omega)]
  exact h y x hy
theorem rv_P : ∀ {l : List Int} {s : BSt} {m m' : Vals} {as : List Val}, AllLt s -> Rv s m m' -> as.length = l.length -> ∃ Q, (l.foldl stP s).params = s.params ++ Q /\ Q.length = l.length /\ (∀ x ∈ Q, s.nx <= x) /\ Rv (l.foldl stP s) (vputs m l as) (vputs m' Q as)
 | [], s, m, m', as, _, h, hl => ⟨[], (Yab _).symm, rfl, (λ x hx => by cases hx), by cases as <;> first | exact h | cases hl⟩
 | v :: l, s, m, m', [], _, _, hl => by cases hl
 | v :: l, s, m, m', a :: as, ha, h, hl => by
  obtain ⟨Q, h1, h2, h3, h4⟩ := rv_P (l := l) (as := as) (al_upd ha v (s.params ++ [s.nx]) s.ins) (rv_upd h ha v a _ _) (by simpa using hl)
  refine ⟨s.nx :: Q, ?_, by rw [Yf, Yf, h2], λ x hx => ?_, h4⟩
  .show (l.foldl stP (stP s v)).params = _
   have h1 : (l.foldl stP (stP s v)).params = (s.params ++ [s.nx]) ++ Q := h1
   rw [h1, Yp]
   rfl
  .rcases Yc.1 hx with rfl | hx
   .exact Yay _
   .have h9 : s.nx + 1 <= x := h3 x hx
    omega
def nvals (m : Vals) : Nat -> List Bool -> List Val
 | _, [] => []
 | j, x :: l => (if x = true then [vget m j] else []) ++ nvals m (j + 1) l
theorem rv_Q {m : Vals} : ∀ {l : List Bool} {j : Nat} {s : BSt} {m' : Vals}, AllLt s -> Rv s m m' -> ∃ Q, (foldZ stQ j l s).params = s.params ++ Q /\ Rv (foldZ stQ j l s) m (vputs m' Q (nvals m j l))
 | [], j, s, m', _, h => ⟨[], (Yab _).symm, h⟩
 | x :: l, j, s, m', ha, h => by
  rw [foldZ, nvals]
  cases x with
  | false => exact rv_Q (l := l) (j := j + 1) ha h
  | true =>
   obtain ⟨Q, h1, h2⟩ := rv_Q (l := l) (j := j + 1) (al_upd ha j (s.params ++ [s.nx]) s.ins) (rv_keep h ha (v := (j : Int)) rfl _ _)
   refine ⟨s.nx :: Q, ?_, h2⟩
   have h1 : (foldZ stQ (j + 1) l (stQ s j true)).params = (s.params ++ [s.nx]) ++ Q := h1
   rw [h1, Yp]
   rfl
theorem nd_args {m m' : Vals} {env : Env} : ∀ {l : List Bool} {j : Nat}, (∀ i : Nat, l[i]? = some true -> vget m' ((env ((j + i : Nat) : Int)).getD 0) = vget m ((j + i : Nat) : Int)) -> takeF m' (edgeW.ndArgs env j l) = nvals m j l
 | [], j, _ => rfl
 | x :: l, j, h => by
  rw [edgeW.ndArgs, nvals]
  have h2 := nd_args (l := l) (j := j + 1) (m := m) (m' := m') (env := env) λ i hi => by
   have := h (i + 1) (by simpa using hi)
   rwa [show j + (i + 1) = j + 1 + i by omega] at this
  unfold takeF at h2 ⊢
  rw [Yx, h2]
  cases x with
  | false => rfl
  | true =>
   have h3 := h 0 rfl
   rw [Yax] at h3
   show [vget m' ((env (j : Int)).getD 0)] ++ _ = [vget m (j : Int)] ++ _
   rw [h3]
theorem int_step {p : SUnit} {f' : MFrame} {fs' : List MFrame} {M : Mach} {d : Int} {c : SBlock} {x : Int} (hc : blockAt p f'.fn f'.block = c) (h0 : 0 <= f'.at_) (hi : c.ins[f'.at_.toNat]? = some ⟨x, 0, 0, []⟩) :
  stepF p (addL d (wst (f' :: fs') M)) = addL d (wst ({ f' with at_ := f'.at_ + 1, vals := vput f'.vals x Val.zero } :: fs') M) := by
 have hl := (Yb.1 hi).1
 unfold stepF
 show (if f'.at_ = ((blockAt p f'.fn f'.block).ins.length : Int) then _ else insF p { f' with at_ := f'.at_ + 1 } ((blockAt p f'.fn f'.block).ins[f'.at_.toNat]?.getD default) fs' (addL d (wst ({ f' with at_ := f'.at_ + 1 } :: fs') M))) = _
 rw [hc, if_neg (by omega), hi]
 show insF p { f' with at_ := f'.at_ + 1 } ⟨x, 0, 0, []⟩ fs' _ = _
 unfold insF execF
 dsimp only
 rw [if_neg (by decide), if_neg (by decide), if_pos rfl]
 rfl
def putZ (m : Vals) (l : List Int) : Vals := l.foldl (λ m x => vput m x Val.zero) m
def zI (x : Int) : SIns := ⟨x, 0, 0, []⟩
theorem ints_run {p : SUnit} {M : Mach} (ho : M.over = false) (hs : M.short = false) {c : SBlock} {rest : List SIns} : ∀ (l : List Int) (f' : MFrame) (fs' : List MFrame) (d : Int) (N : Nat), blockAt p f'.fn f'.block = c -> 0 <= f'.at_ -> c.ins.drop f'.at_.toNat = l.map zI ++ rest -> (l.length : Int) <= M.left + d ->
  goF p (N + l.length) (addL d (wst (f' :: fs') M)) = goF p N (addL (d - (l.length : Nat)) (wst ({ f' with at_ := f'.at_ + (l.length : Nat), vals := putZ f'.vals l } :: fs') M))
 | [], f', fs', d, N, _, _, _, _ => by
  show goF p N (addL d (wst (f' :: fs') M)) = goF p N (addL (d - 0) (wst ({ f' with at_ := f'.at_ + 0, vals := f'.vals } :: fs') M))
  rw [Int.sub_zero, Int.add_zero]
 | x :: l, f', fs', d, N, hc, h0, hd, hl => by
  rw [Yf] at hl ⊢
  have hi : c.ins[f'.at_.toNat]? = some (zI x) := by
   have h9 : (c.ins.drop f'.at_.toNat)[0]? = some (zI x) := by rw [hd]; rfl
   rw [List.getElem?_drop, Yax] at h9
   exact h9
  have hd2 : c.ins.drop (f'.at_ + 1).toNat = l.map zI ++ rest := by
   have h9 : (c.ins.drop f'.at_.toNat).drop 1 = l.map zI ++ rest := by rw [hd]; rfl
   rw [List.drop_drop] at h9
   rw [show (f'.at_ + 1).toNat = f'.at_.toNat + 1 by omega]
   exact h9
  have hp : payF 1 (addL d (wst (f' :: fs') M)) = addL (d - 1) (wst (f' :: fs') M) := by
   unfold payF
   rw [if_neg (by show ¬ M.left + d < 1; omega)]
   show ({ addL d (wst (f' :: fs') M) with left := M.left + d - 1 } : Mach) = { addL d (wst (f' :: fs') M) with left := M.left + (d - 1) }
   rw [show M.left + d - 1 = M.left + (d - 1) by omega]
  rw [show N + (l.length + 1) = (N + l.length) + 1 by omega, goF_step (by exact ho) _ (by rw [hp]; exact hs), hp, int_step hc h0 hi]
  have h := ints_run ho hs l { f' with at_ := f'.at_ + 1, vals := vput f'.vals x Val.zero } fs' (d - 1) N hc (by show 0 <= f'.at_ + 1; omega) hd2 (by omega)
  rw [h]
  have e1 : d - 1 - ((l.length : Nat) : Int) = d - ((l.length + 1 : Nat) : Int) := by omega
  have e2 : f'.at_ + 1 + ((l.length : Nat) : Int) = f'.at_ + ((l.length + 1 : Nat) : Int) := by omega
  rw [e1]
  show goF p N (addL _ (wst ({ f' with at_ := f'.at_ + 1 + ((l.length : Nat) : Int), vals := putZ f'.vals (x :: l) } :: fs') M)) = _
  rw [e2]
theorem beg_I {m : Vals} : ∀ {l : List Bool} {j : Nat} {s : BSt} {m' : Vals}, AllLt s -> (∀ v x, s.env v = some x -> vget m' x = vget m v) -> (∀ v, s.env v = none -> vget m v = Val.zero) -> ∃ Z, (foldZ stI j l s).ins = s.ins ++ Z.map zI /\ Z.length <= l.length /\ (∀ x ∈ Z, s.nx <= x) /\ Rv (foldZ stI j l s) m (putZ m' Z)
 | [], j, s, m', _, h, _ => ⟨[], (Yab _).symm, Yau _, (λ x hx => by cases hx), h⟩
 | b :: l, j, s, m', ha, h, hz => by
  rw [foldZ]
  by_cases hc : (b && !(s.env j).isSome) = true
  .have e : stI s j b = ⟨updE s.env j s.nx, s.nx + 1, s.params, s.ins ++ [⟨s.nx, 0, 0, []⟩]⟩ := if_pos hc
   have hn : s.env j = none := by
    cases hx : s.env j with
    | none => rfl
    | some y => rw [hx] at hc; simp at hc
   have h2 : Rv ⟨updE s.env j s.nx, s.nx + 1, s.params, s.ins ++ [⟨s.nx, 0, 0, []⟩]⟩ m (vput m' s.nx Val.zero) := rv_keep h ha (hz j hn).symm _ _
   obtain ⟨Z, z1, z2, z3, z4⟩ := beg_I (l := l) (j := j + 1) (al_upd ha j s.params (s.ins ++ [⟨s.nx, 0, 0, []⟩])) h2 λ v hv => hz v (by
    have hv : updE s.env j s.nx v = none := hv
    unfold updE at hv
    split at hv
    .cases hv
    .exact hv)
   rw [e]
   refine ⟨s.nx :: Z, ?_, by rw [Yf, Yf]; omega, λ x hx => ?_, z4⟩
   .rw [z1, Yp]
    rfl
   .rcases Yc.1 hx with rfl | hx
    .exact Yay _
    .have h9 : s.nx + 1 <= x := z3 x hx
     omega
  .have e : stI s j b = s := if_neg hc
   rw [e]
   obtain ⟨Z, z1, z2, z3, z4⟩ := beg_I (l := l) (j := j + 1) ha h hz
   exact ⟨Z, z1, by rw [Yf]; omega, z3, z4⟩
theorem vputs_none {y : Int} : ∀ {ps : List Int} {as : List Val} {m : Vals}, y ∉ ps -> vget (vputs m ps as) y = vget m y
 | [], as, m, _ => by cases as <;> rfl
 | p :: ps, [], m, _ => rfl
 | p :: ps, a :: as, m, h => by
  rw [vputs, vputs_none (λ hn => h (Yd _ hn)), vget_vput, if_neg (λ e => h (by rw [e]; exact Ya ..))]
theorem foldP_none {v : Int} : ∀ {l : List Int} {s : BSt}, (l.foldl stP s).env v = none -> v ∉ l /\ s.env v = none
 | [], s, h => ⟨by simp, h⟩
 | a :: l, s, h => by
  obtain ⟨h1, h2⟩ := foldP_none (l := l) h
  have h2 : updE s.env a s.nx v = none := h2
  unfold updE at h2
  split at h2
  .cases h2
  .rename_i e
   exact ⟨by rw [Yc]; exact λ hn => hn.elim e h1, h2⟩
theorem beg0_run {params : List Int} {nd : List Bool} {nx : Int} (h0 : 0 <= nx) {as : List Val} (hl : as.length = params.length) : ∃ Z, (beg0 params nd nx).ins = Z.map zI /\ Z.length <= nd.length /\ (beg0 params nd nx).params.length = params.length /\ Rv (beg0 params nd nx) (vputs [] params as) (putZ (vputs [] (beg0 params nd nx).params as) Z) := by
 obtain ⟨Q, q1, q2, q3, q4⟩ := rv_P (l := params) (s := emptyS nx) (m := []) (m' := []) (as := as) (al_empty h0) (λ v x hv => by cases hv) hl
 have q1 : (params.foldl stP (emptyS nx)).params = Q := q1
 have hp : (beg0 params nd nx).params = Q := by
  rw [<- q1]
  unfold beg0
  generalize params.foldl stP (emptyS nx) = s
  have : ∀ (l : List Bool) (j : Nat) (s : BSt), (foldZ stI j l s).params = s.params := by
   intro l
   induction l with
   | nil => intro j s; rfl
   | cons x l ih =>
    intro j s
    rw [foldZ, ih]
    unfold stI
    split <;> rfl
  exact this nd 0 s
 have hi : ∀ (l : List Int) (s : BSt), (l.foldl stP s).ins = s.ins := by
  intro l
  induction l with
  | nil => intro s; rfl
  | cons x l ih => intro s; exact ih (stP s x)
 obtain ⟨Z, z1, z2, z3, z4⟩ := beg_I (l := nd) (j := 0) (al_P (l := params) (al_empty h0)).1 q4 λ v hv => by
  obtain ⟨g1, _⟩ := foldP_none hv
  rw [vputs_none g1]
  rfl
 refine ⟨Z, ?_, z2, by rw [hp]; exact q2, by rw [hp]; exact z4⟩
 unfold beg0
 rw [z1, hi]
 rfl
abbrev Ghs := List (Nat × Nds)
def mD (ds : Ghs) (k : Nat) : Nat := (ds[k]?.getD (0, [])).1
def nD (ds : Ghs) (k : Nat) : Nds := (ds[k]?.getD (0, [])).2
structure EnU (p v : SUnit) (ds : Ghs) : Prop where
 check : mcheckF p = 0
 main : v.main = p.main
 len : v.fns.length = p.fns.length
 fn : ∀ k f, p.fns[k]? = some f -> EnOk f (mD ds k) (nD ds k) /\ v.fns[k]? = some (enterG f (nD ds k))
structure EA (p : SUnit) (ds : Ghs) (x x' : MFrame) (b : SBlock) (f : SFunc) (i j : Nat) : Prop where
 hf : p.fns[x.fn.toNat]? = some f
 fn : x'.fn = x.fn
 b0 : 0 <= x.block
 ord : x.block.toNat ∈ orderF (skF f).blocks
 hb : f.blocks[x.block.toNat]? = some b
 hi : rk (skF f) x.block.toNat = i
 blk : x'.block = i
 at_ : x.at_ = j
 jl : j <= b.ins.length
 at2 : x'.at_ = ((stG f (nD ds x.fn.toNat) i j).ins.length : Nat)
abbrev liveG (ds : Ghs) (k : Nat) (f : SFunc) (b : SBlock) (j : Nat) (y : Int) : Prop := lv (LA (nD ds k) (mD ds k) (grT f b) j) y
def FE (p : SUnit) (ds : Ghs) (x x' : MFrame) : Prop := ∃ b f i j, EA p ds x x' b f i j /\ ∀ y, liveG ds x.fn.toNat f b j y -> vget x'.vals (((stG f (nD ds x.fn.toNat) i j).env y).getD 0) = vget x.vals y
def FW (p : SUnit) (ds : Ghs) (x x' : MFrame) (to to' : Int) : Prop := ∃ b f i j, EA p ds x x' b f i j /\ (stG f (nD ds x.fn.toNat) i j).env to = some to' /\ ∀ y, y ≠ to -> liveG ds x.fn.toNat f b j y -> ((stG f (nD ds x.fn.toNat) i j).env y).getD 0 ≠ to' /\ vget x'.vals (((stG f (nD ds x.fn.toNat) i j).env y).getD 0) = vget x.vals y
inductive EW (p : SUnit) (ds : Ghs) : Int -> Int -> List MFrame -> List MFrame -> Prop where
 | nil {t t' : Int} : EW p ds t t' [] []
 | cons {t t' : Int} {g g' : MFrame} {gs gs' : List MFrame} : FW p ds g g' t t' -> EW p ds g.to g'.to gs gs' -> EW p ds t t' (g :: gs) (g' :: gs')
inductive ES (p : SUnit) (ds : Ghs) : List MFrame -> List MFrame -> Prop where
 | nil : ES p ds [] []
 | cons {x x' : MFrame} {fs fs' : List MFrame} : FE p ds x x' -> EW p ds x.to x'.to fs fs' -> ES p ds (x :: fs) (x' :: fs')
theorem fw_put {p : SUnit} {ds : Ghs} {g g' : MFrame} {t t' : Int} (h : FW p ds g g' t t') (a : Val) : FE p ds { g with vals := vput g.vals t a } { g' with vals := vput g'.vals t' a } := by
 obtain ⟨b, f, i, j, ⟨h1, h2, h3, h4, h5, h6, h7, h8, h9, h10⟩, ht, hv⟩ := h
 refine ⟨b, f, i, j, ⟨h1, h2, h3, h4, h5, h6, h7, h8, h9, h10⟩, λ y hy => ?_⟩
 show vget (vput g'.vals t' a) (((stG f (nD ds g.fn.toNat) i j).env y).getD 0) = vget (vput g.vals t a) y
 rw [vget_vput, vget_vput]
 by_cases e : y = t
 .subst e
  rw [ht, if_pos rfl]
  exact if_pos rfl
 .obtain ⟨q1, q2⟩ := hv y e hy
  rw [if_neg (λ q => q1 q.symm), if_neg (λ q => e q.symm)]
  exact q2
section
variable {p v : SUnit} {ds : Ghs} (hU : EnU p v ds)
include hU
theorem en_fn {k : Nat} {f : SFunc} (hf : p.fns[k]? = some f) : mfuncF f = 0 := by
 have h := hU.check
 unfold mcheckF at h
 split at h
 .cases h
 .split at h
  .cases h
  .split at h
   .cases h
   .split at h
    .rename_i h4; exact absurd h h4
    .rename_i h4
     exact firstE_zero (Classical.not_not.1 h4) f (Ye hf)
theorem en_block {x x' : MFrame} {b : SBlock} {f : SFunc} {i j : Nat} (h : EA p ds x x' b f i j) : (graphG f)[i]? = some (grT f b) /\ blockAt v x'.fn x'.block = ⟨(begG f (nD ds x.fn.toNat) i).params, (stG f (nD ds x.fn.toNat) i b.ins.length).ins, ⟨b.term.kind, (midT b.term (stG f (nD ds x.fn.toNat) i b.ins.length).env).arg, b.term.n, b.term.cases, (grT f b).term.to.map (edgeW (innG f) (nD ds x.fn.toNat) (stG f (nD ds x.fn.toNat) i b.ins.length).env)⟩⟩ := by
 have hm := en_fn hU h.hf
 obtain ⟨hE, hv⟩ := hU.fn _ _ h.hf
 have hg := (graph_at hm h.ord h.hb).1
 rw [h.hi] at hg
 refine ⟨hg, ?_⟩
 unfold blockAt
 rw [h.fn, hv, h.blk]
 show (((enterG f (nD ds x.fn.toNat)).blocks)[((i : Nat) : Int).toNat]?).getD default = _
 rw [Yaz, out_get hm hE hg]
 rfl
theorem en_params {n : Int} {F : SFunc} (hF : p.fns[n.toNat]? = some F) : ∃ b, F.blocks[0]? = some b /\ entryOf p n = b.params /\ entryOf v n = (begG F (nD ds n.toNat) 0).params /\ begG F (nD ds n.toNat) 0 = beg0 b.params (ndAt (nD ds n.toNat) 0) ((WG F (nD ds n.toNat)).nxs 0) /\ 0 ∈ orderF (skF F).blocks /\ rk (skF F) 0 = 0 /\ (graphG F)[0]? = some (grT F b) := by
 have hm := en_fn hU hF
 obtain ⟨hE, hv⟩ := hU.fn _ _ hF
 have ho := sk_order hm
 have h0 := zero_mem ho
 have hr := rk_zero ho
 obtain ⟨b, hb⟩ := get_of_lt F.blocks 0 (by have := (mfunc_ok hm).pos; omega)
 have hg := (graph_at hm h0 hb).1
 rw [hr] at hg
 refine ⟨b, hb, ?_, ?_, ?_, h0, hr, hg⟩
 .unfold entryOf
  rw [hF]
  show paramsOf F.blocks 0 = _
  unfold paramsOf
  rw [show (0 : Int).toNat = 0 from rfl, hb]
  rfl
 .unfold entryOf
  rw [hv]
  show paramsOf (enterG F (nD ds n.toNat)).blocks 0 = _
  unfold paramsOf
  rw [show (0 : Int).toNat = 0 from rfl, out_get hm hE hg]
  rfl
 .unfold begG beginF
  rw [if_pos rfl, blk_of hg]
  rfl
theorem enter_run {n : Int} {F : SFunc} (hF : p.fns[n.toNat]? = some F) {args : List Val} (hl : args.length = (entryOf p n).length) {to to' : Int} {fs fs' : List MFrame} (hW : EW p ds to to' fs fs') {M : Mach} (ho : M.over = false) (hs : M.short = false) (hst : M.stack = entered p n args to :: fs) :
  ∃ (c : Nat) (S'' : List MFrame), c <= 4096 /\ (unitF v = 0 -> c <= 1024) /\ ES p ds M.stack S'' /\ ∀ (d : Int) (N : Nat), (c : Int) <= M.left + d -> goF v (N + c) (addL d (wst (entered v n args to' :: fs') M)) = goF v N (addL (d - (c : Nat)) (wst S'' M)) := by
 have hm := en_fn hU hF
 obtain ⟨hE, hv⟩ := hU.fn _ _ hF
 obtain ⟨b, hb, hp1, hp2, hp3, h0, hr, hg⟩ := en_params hU hF
 have hw := wg_ok hm hE
 have hx0 := hw.low 0 (order_all hm (Yb.1 hg).1)
 obtain ⟨Z, z1, z2, z3, z4⟩ := beg0_run (params := b.params) (nd := ndAt (nD ds n.toNat) 0) hx0 (as := args) (by rw [hl, hp1])
 rw [<- hp3] at z1 z3 z4
 have hz : Z.length <= 4096 := by
  have h1 : (ndAt (nD ds n.toNat) 0).length = mD ds n.toNat := rows_at (nd_rows hE) (by rw [hE.need.len]; exact (Yb.1 hg).1)
  have := hE.mle
  omega
 have hEA : EA p ds (entered p n args to) { entered v n args to' with at_ := (0 : Int) + (Z.length : Nat), vals := putZ (entered v n args to').vals Z } b F 0 0 := by
  refine ⟨hF, rfl, Yay _, h0, hb, hr, rfl, rfl, Yav _, ?_⟩
  show (0 : Int) + (Z.length : Nat) = ((begG F (nD ds n.toNat) 0).ins.length : Nat)
  rw [z1, Yg]
  omega
 have hFE : FE p ds (entered p n args to) { entered v n args to' with at_ := (0 : Int) + (Z.length : Nat), vals := putZ (entered v n args to').vals Z } := by
  refine ⟨b, F, 0, 0, hEA, λ y hy => ?_⟩
  have hH := has_G hm hE hg (j := 0) (Yav _)
  obtain ⟨z, hz1, _, _⟩ := hH.has y hy
  show vget (putZ (vputs [] (entryOf v n) args) Z) (((stG F (nD ds n.toNat) 0 0).env y).getD 0) = vget (vputs [] (entryOf p n) args) y
  rw [hp1, hp2, hz1]
  have hz2 : (begG F (nD ds n.toNat) 0).env y = some z := by
   unfold stG at hz1
   exact hz1
  exact z4 y z hz2
 obtain ⟨l, hl2⟩ := stAt_ins (grT F b) (begG F (nD ds n.toNat) 0) (Yav _)
 have hfin : (stG F (nD ds n.toNat) 0 b.ins.length).ins = Z.map zI ++ l := by
  unfold stG
  rw [blk_of hg]
  have e : stAt (grT F b) (begG F (nD ds n.toNat) 0) b.ins.length = (grT F b).ins.foldl stB (begG F (nD ds n.toNat) 0) := stAt_end
  rw [e, hl2, stAt_zero, z1]
 have hz1 : unitF v = 0 -> Z.length <= 1024 := λ h9 => by
  have g1 := (func_iff.1 (nw_fns h9 _ (Ye hv))).ins
  have g2 := insN_mem (Ye (out_get hm hE hg))
  have g3 : (stG F (nD ds n.toNat) 0 b.ins.length).ins.length <= 1024 := Nat.le_trans g2 g1
  rw [hfin, Yu, Yg] at g3
  omega
 refine ⟨Z.length, { entered v n args to' with at_ := (0 : Int) + (Z.length : Nat), vals := putZ (entered v n args to').vals Z } :: fs', hz, hz1, by rw [hst]; exact .cons hFE hW, λ d N hd => ?_⟩
 .have hbk := (en_block hU hEA).2
  exact ints_run ho hs Z (entered v n args to') fs' d N (c := blockAt v n 0) rfl (Yay _) (by
   have h9 : blockAt v n 0 = _ := hbk
   rw [h9]
   show List.drop 0 (stG F (nD ds n.toNat) 0 b.ins.length).ins = _
   rw [hfin]
   rfl) hd
theorem en_follow {x x' : MFrame} {b : SBlock} {f : SFunc} {i : Nat} (h : EA p ds x x' b f i b.ins.length) (hv : ∀ y, liveG ds x.fn.toNat f b b.ins.length y -> vget x'.vals (((stG f (nD ds x.fn.toNat) i b.ins.length).env y).getD 0) = vget x.vals y) {e : SEdge} (he : e ∈ b.term.to) (h0 : b.term.kind ≠ 0) :
  FE p ds (followF p x e) (followF v x' (edgeW (innG f) (nD ds x.fn.toNat) (stG f (nD ds x.fn.toNat) i b.ins.length).env ⟨gI (atF (skF f)) e.block, e.args⟩)) := by
 have hm := en_fn hU h.hf
 obtain ⟨hE, hvf⟩ := hU.fn _ _ h.hf
 have ho := sk_order hm
 obtain ⟨hg, hbk⟩ := en_block hU h
 have hbm := Ye hg
 have hlt := edge_lt hm hE hbm
 obtain ⟨e1, e2, e3⟩ := m_args hm h.hb he
 have hto : (⟨gI (atF (skF f)) e.block, e.args⟩ : SEdge) ∈ (grT f b).term.to := by
  rw [grT_to, skT_1 h0]
  exact Yi.2 ⟨e, he, rfl⟩
 -- the target
 have hedge : Edge (skF f).blocks x.block.toNat e.block.toNat := ⟨e, by rw [toAt_get (skF_get h.hb), skB_to, skT_1 h0]; exact he, rfl⟩
 have hto2 := ho.closed _ h.ord _ hedge
 obtain ⟨g1, g2⟩ := rk_get ho hto2
 rw [show ((e.block.toNat : Nat) : Int) = e.block by omega] at g1
 obtain ⟨t, ht⟩ : ∃ t, t = rk (skF f) e.block.toNat := ⟨_, rfl⟩
 rw [<- ht] at g1
 obtain ⟨c, hc⟩ := get_of_lt f.blocks e.block.toNat (by omega)
 have hgt := (graph_at hm hto2 hc).1
 rw [<- ht] at hgt
 have htne : t ≠ 0 := λ q => by
  have := rk_inj ho hto2 (zero_mem ho) (by rw [rk_zero ho, <- ht, q])
  omega
 rw [g1]
 have hpe : (blockAt p x.fn e.block).params = [] := by
  unfold blockAt
  rw [h.hf]
  show ((f.blocks[e.block.toNat]?).getD default).params = []
  rw [hc]
  exact ((mfunc_ok hm).block _ c hc).params (by omega)
 have hpv : (blockAt v x'.fn (t : Int)).params = (begG f (nD ds x.fn.toNat) t).params := by
  unfold blockAt
  rw [h.fn, hvf]
  show ((((enterG f (nD ds x.fn.toNat)).blocks)[((t : Nat) : Int).toNat]?).getD default).params = _
  rw [Yaz, out_get hm hE hgt]
  rfl
 have hEA : EA p ds (followF p x e) (followF v x' (edgeW (innG f) (nD ds x.fn.toNat) (stG f (nD ds x.fn.toNat) i b.ins.length).env ⟨(t : Int), e.args⟩)) c f t 0 := by
  refine ⟨h.hf, h.fn, by show 0 <= e.block; omega, hto2, hc, ht.symm, rfl, rfl, Yav _, ?_⟩
  show (0 : Int) = ((begG f (nD ds x.fn.toNat) t).ins.length : Nat)
  unfold begG beginF
  rw [if_neg htne]
  split
  .rfl
  .unfold begQ
   have : ∀ (l : List Bool) (j : Nat) (s : BSt), (foldZ stQ j l s).ins = s.ins := by
    intro l
    induction l with
    | nil => intro j s; rfl
    | cons x l ih =>
     intro j s
     rw [foldZ, ih]
     unfold stQ
     split <;> rfl
   rw [this]
   rfl
 refine ⟨c, f, t, 0, hEA, λ y hy => ?_⟩
 have hy : lv (LA (nD ds x.fn.toNat) (mD ds x.fn.toNat) (grT f c) 0) y := hy
 have hyn : lv (ndAt (nD ds x.fn.toNat) t) y := by
  rw [nd_fix hm hE hgt]
  exact hy
 -- what is needed there is needed here
 have hback : ∀ y, lv (ndAt (nD ds x.fn.toNat) t) y -> vget x'.vals (((stG f (nD ds x.fn.toNat) i b.ins.length).env y).getD 0) = vget x.vals y := λ y hy => hv y (by
  show lv (LA (nD ds x.fn.toNat) (mD ds x.fn.toNat) (grT f b) (grT f b).ins.length) y
  rw [LA_end]
  refine (lv_befT (orE_len (nd_rows hE) Yk hlt) (graph_vars hm hE _ hbm).arg).2 (.inl ?_)
  exact (lv_beh (nd_rows hE) hlt).2 ⟨_, hto, by show lv (ndAt _ (gI (atF (skF f)) e.block).toNat) y; rw [g1, Yaz]; exact hy⟩)
 have hpi : (i : Int) ∈ innAt (innG f) t := (preds_of hm hE).2 ⟨i, rfl, _, by rw [toAt_get hg]; exact hto, by show (gI (atF (skF f)) e.block).toNat = t; rw [g1, Yaz]⟩
 show vget (vputs x'.vals (blockAt v x'.fn (t : Int)).params (takeF x'.vals (if 1 < (innAt (innG f) ((t : Nat) : Int).toNat).length then edgeW.ndArgs (stG f (nD ds x.fn.toNat) i b.ins.length).env 0 (ndAt (nD ds x.fn.toNat) ((t : Nat) : Int).toNat) else []))) (((begG f (nD ds x.fn.toNat) t).env y).getD 0) = vget (vputs x.vals (blockAt p x.fn e.block).params (takeF x.vals e.args)) y
 rw [hpe, hpv, Yaz]
 have hw := wg_ok hm hE
 have hto3 := order_all hm (Yb.1 hgt).1
 show _ = vget x.vals y
 by_cases h1 : (innAt (innG f) t).length = 1
 .obtain ⟨q, hq⟩ := Yah.1 h1
  rw [hq] at hpi
  have e4 : q = i := (Yl.1 hpi).symm
  subst e4
  rw [if_neg (by omega)]
  have hbg : begG f (nD ds x.fn.toNat) t = ⟨(WG f (nD ds x.fn.toNat)).ends i, (WG f (nD ds x.fn.toNat)).nxs t, [], []⟩ := by
   unfold begG beginF
   rw [if_neg htne, if_pos h1, hq]
   show (⟨(WG f (nD ds x.fn.toNat)).ends ((i : Int)).toNat, _, _, _⟩ : BSt) = _
   rw [Yaz]
  rw [hbg]
  show vget x'.vals (((WG f (nD ds x.fn.toNat)).ends i y).getD 0) = vget x.vals y
  rw [hw.ends i (order_all hm (Yb.1 hg).1), body_eq hm hE, blk_of hg]
  exact hback y hyn
 .have hlen : 1 < (innAt (innG f) t).length := by
   have := List.length_pos_of_mem hpi
   omega
  rw [if_pos hlen]
  have hbg : begG f (nD ds x.fn.toNat) t = begQ (ndAt (nD ds x.fn.toNat) t) ((WG f (nD ds x.fn.toNat)).nxs t) := by
   unfold begG beginF
   rw [if_neg htne, if_neg h1]
  have hx0 := hw.low t hto3
  obtain ⟨Q, q1, q2⟩ := rv_Q (m := x.vals) (l := ndAt (nD ds x.fn.toNat) t) (j := 0) (m' := x'.vals) (al_empty hx0) (λ v x hv => by cases hv)
  have q1 : (begQ (ndAt (nD ds x.fn.toNat) t) ((WG f (nD ds x.fn.toNat)).nxs t)).params = Q := q1
  rw [nd_args (m := x.vals) λ n hn => hback _ ⟨by omega, by rw [show (((0 + n : Nat) : Int)).toNat = n by omega]; exact hn⟩, hbg, q1]
  obtain ⟨z, hz, _, _⟩ := (has_begQ (nd := ndAt (nD ds x.fn.toNat) t) hx0).has y hyn
  rw [hz]
  exact q2 y z hz
end
def up1 (M : Mach) : Mach := { M with left := M.left + 1 }
theorem first_step {p : SUnit} {M : Mach} {S' : List MFrame} {d : Int} (ho : M.over = false) (hs : M.short = false) (hd : 0 <= M.left + d) (N : Nat) : goF p (N + 1) (addL d (wst S' (up1 M))) = goF p N (stepF p (addL d (wst S' M))) := by
 have hp : payF 1 (addL d (wst S' (up1 M))) = addL d (wst S' M) := by
  unfold payF
  rw [if_neg (by show ¬ M.left + 1 + d < 1; omega)]
  show ({ addL d (wst S' M) with left := M.left + 1 + d - 1 } : Mach) = { addL d (wst S' M) with left := M.left + d }
  rw [show M.left + 1 + d - 1 = M.left + d by omega]
 rw [goF_step (by exact ho) _ (by rw [hp]; exact hs), hp]
section
variable {u : SUnit} (hu : unitF u = 0) (hS : SmallF u) (hM : mcheckF (lvU u) = 0)
include hu hS
end
inductive EStep (p v : SUnit) (ds : Ghs) (M : Mach) (S' : List MFrame) : Prop where
 | copy : stepF p M = wst (stepF p M).stack M -> ES p ds (stepF p M).stack S' -> EStep p v ds M S'
 | step (S2 : List MFrame) (c : Nat) (S3 : List MFrame) : c <= 4096 -> (unitF v = 0 -> c <= 1024) -> (∀ d : Int, 0 <= d -> stepF v (addL d (wst S' M)) = addL d (wst S2 (stepF p M))) ->
   ((stepF p M).over = true \/ ES p ds (stepF p M).stack S3 /\ ∀ (d : Int) (N : Nat), (c : Int) <= (stepF p M).left + d -> goF v (N + c) (addL d (wst S2 (stepF p M))) = goF v N (addL (d - (c : Nat)) (wst S3 (stepF p M)))) -> EStep p v ds M S'
section
variable {p v : SUnit} {ds : Ghs} (hU : EnU p v ds)
include hU
theorem en_step {M : Mach} {S' : List MFrame} (hl : 0 <= M.left) (hS : ES p ds M.stack S') (ho : M.over = false) (hs : M.short = false) (hs2 : (stepF p M).short = false) (hl2 : 0 <= (stepF p M).left) : EStep p v ds M S' := by
 have hUok := (mcheck_ok hU.check).u
 -- one step suffices
 have one : ∀ S2 : List MFrame, ((stepF p M).over = true \/ ES p ds (stepF p M).stack S2) -> (∀ d : Int, 0 <= d -> stepF v (addL d (wst S' M)) = addL d (wst S2 (stepF p M))) -> EStep p v ds M S' := λ S2 h1 h2 =>
  .step S2 0 S2 (Yav _) (λ _ => Yav _) h2 (h1.imp id λ h1 => ⟨h1, λ d N _ => by
   rw [Yax]
   show _ = goF v N (addL (d - 0) _)
   rw [Int.sub_zero]⟩)
 cases hst : M.stack with
 | nil =>
  rw [hst] at hS
  cases hS
  have e : stepF p M = M := by unfold stepF; rw [hst]
  refine one [] (.inr (by rw [e, hst]; exact .nil)) λ d _ => ?_
  rw [e]
  rfl
 | cons x fs =>
  rw [hst] at hS
  cases hS with
  | @cons _ x' _ fs' hF hW =>
  obtain ⟨b, f, i, j, hA, hv⟩ := hF
  obtain ⟨hg, hbk⟩ := en_block hU hA
  have hm := en_fn hU hA.hf
  obtain ⟨hE, hvf⟩ := hU.fn _ _ hA.hf
  have hFm := Ye hA.hf
  have hbm := Ye hA.hb
  have hgm := Ye hg
  have eb : blockAt p x.fn x.block = b := by
   unfold blockAt
   rw [hA.hf]
   show (f.blocks[x.block.toNat]?).getD default = b
   rw [hA.hb]
   rfl
  have hstep : stepF p M = if x.at_ = (b.ins.length : Int) then termF p x b.term fs M else insF p { x with at_ := x.at_ + 1 } (b.ins[x.at_.toNat]?.getD default) fs (wst ({ x with at_ := x.at_ + 1 } :: fs) M) := by
   unfold stepF
   rw [hst]
   dsimp only
   rw [eb]
   rfl
  have hstep2 : ∀ d, stepF v (addL d (wst (x' :: fs') M)) = if x'.at_ = ((stG f (nD ds x.fn.toNat) i b.ins.length).ins.length : Int) then termF v x' ⟨b.term.kind, (midT b.term (stG f (nD ds x.fn.toNat) i b.ins.length).env).arg, b.term.n, b.term.cases, (grT f b).term.to.map (edgeW (innG f) (nD ds x.fn.toNat) (stG f (nD ds x.fn.toNat) i b.ins.length).env)⟩ fs' (addL d (wst (x' :: fs') M)) else insF v { x' with at_ := x'.at_ + 1 } ((stG f (nD ds x.fn.toNat) i b.ins.length).ins[x'.at_.toNat]?.getD default) fs' (addL d (wst ({ x' with at_ := x'.at_ + 1 } :: fs') M)) := λ d => by
   unfold stepF
   show (if x'.at_ = ((blockAt v x'.fn x'.block).ins.length : Int) then termF v x' (blockAt v x'.fn x'.block).term fs' _ else insF v { x' with at_ := x'.at_ + 1 } ((blockAt v x'.fn x'.block).ins[x'.at_.toNat]?.getD default) fs' _) = _
   rw [hbk]
   rfl
  have hVB := graph_vars hm hE _ hgm
  have hlt := edge_lt hm hE hgm
  by_cases h1 : x.at_ = (b.ins.length : Int)
  .-- the end of a block
   rw [if_pos h1] at hstep
   have hj : j = b.ins.length := by have := hA.at_; omega
   subst hj
   have hstep2 : ∀ d, stepF v (addL d (wst (x' :: fs') M)) = termF v x' ⟨b.term.kind, (midT b.term (stG f (nD ds x.fn.toNat) i b.ins.length).env).arg, b.term.n, b.term.cases, (grT f b).term.to.map (edgeW (innG f) (nD ds x.fn.toNat) (stG f (nD ds x.fn.toNat) i b.ins.length).env)⟩ fs' (addL d (wst (x' :: fs') M)) := λ d => by
    rw [hstep2 d, if_pos hA.at2]
   have hT : TermOk f b.term := hUok.term f hFm b hbm
   have harg : b.term.kind ≠ 1 /\ b.term.kind ≠ 4 -> vget x'.vals (midT b.term (stG f (nD ds x.fn.toNat) i b.ins.length).env).arg = vget x.vals b.term.arg := λ hk => by
    have e : (midT b.term (stG f (nD ds x.fn.toNat) i b.ins.length).env).arg = (((stG f (nD ds x.fn.toNat) i b.ins.length).env b.term.arg).getD 0) := if_pos hk
    rw [e]
    refine hv _ ?_
    show lv (LA (nD ds x.fn.toNat) (mD ds x.fn.toNat) (grT f b) (grT f b).ins.length) _
    rw [LA_end]
    exact (lv_befT (orE_len (nd_rows hE) Yk hlt) hVB.arg).2 (.inr ⟨hk, rfl⟩)
   have go : ∀ k : Nat, k < b.term.to.length -> b.term.kind ≠ 0 -> stepF p M = { M with stack := followF p x (edgeAt b.term k) :: fs } -> (∀ d, stepF v (addL d (wst (x' :: fs') M)) = { addL d (wst (x' :: fs') M) with stack := followF v x' (edgeAt ⟨b.term.kind, (midT b.term (stG f (nD ds x.fn.toNat) i b.ins.length).env).arg, b.term.n, b.term.cases, (grT f b).term.to.map (edgeW (innG f) (nD ds x.fn.toNat) (stG f (nD ds x.fn.toNat) i b.ins.length).env)⟩ k) :: fs' }) -> EStep p v ds M (x' :: fs') := λ k hk k0 he1 he2 => by
    obtain ⟨e, he⟩ := get_of_lt b.term.to k (by omega)
    have e1 : edgeAt b.term k = e := by unfold edgeAt; rw [he]; rfl
    have e2 : edgeAt ⟨b.term.kind, (midT b.term (stG f (nD ds x.fn.toNat) i b.ins.length).env).arg, b.term.n, b.term.cases, (grT f b).term.to.map (edgeW (innG f) (nD ds x.fn.toNat) (stG f (nD ds x.fn.toNat) i b.ins.length).env)⟩ k = edgeW (innG f) (nD ds x.fn.toNat) (stG f (nD ds x.fn.toNat) i b.ins.length).env ⟨gI (atF (skF f)) e.block, e.args⟩ := by
     unfold edgeAt
     show (((grT f b).term.to.map _)[k]?).getD default = _
     rw [grT_to, skT_1 k0, Yn, Yn, he]
     rfl
    have hFE := en_follow hU hA hv (Ye he) k0
    rw [e1] at he1
    rw [e2] at he2
    refine one (followF v x' (edgeW (innG f) (nD ds x.fn.toNat) (stG f (nD ds x.fn.toNat) i b.ins.length).env ⟨gI (atF (skF f)) e.block, e.args⟩) :: fs') (.inr ?_) λ d _ => ?_
    .rw [he1]
     exact .cons hFE hW
    .rw [he2 d, he1]
     rfl
   by_cases k4 : b.term.kind = 4
   .have e1 : stepF p M = stopF b.term.n 0 M := by rw [hstep]; unfold termF; rw [if_pos k4]
    refine one (x' :: fs') (.inl (by rw [e1]; rfl)) λ d _ => ?_
    rw [hstep2 d, e1]
    unfold termF
    rw [if_pos k4]
    rfl
   .by_cases k1 : b.term.kind = 1
    .refine go 0 (hT.one k1) (by rw [k1]; decide) ?_ λ d => ?_
     .rw [hstep]; unfold termF; rw [if_neg k4, if_pos k1]
     .rw [hstep2 d]; unfold termF; dsimp only; rw [if_neg k4, if_pos k1]
    .have ha := harg ⟨k1, k4⟩
     by_cases k0 : b.term.kind = 0
     .have e1 : stepF p M = leaveF x (vget x.vals b.term.arg) fs M := by rw [hstep]; unfold termF; rw [if_neg k4, if_neg k1, if_pos k0]
      have e2 : ∀ d, stepF v (addL d (wst (x' :: fs') M)) = leaveF x' (vget x.vals b.term.arg) fs' (addL d (wst (x' :: fs') M)) := λ d => by
       rw [hstep2 d]; unfold termF; dsimp only; rw [if_neg k4, if_neg k1, if_pos k0, ha]
      cases hW with
      | nil =>
       refine one [] (.inl (by rw [e1]; rfl)) λ d _ => ?_
       rw [e2 d, e1]
       rfl
      | @cons _ _ g g' gs gs' hgw hgs =>
       refine one ({ g' with vals := vput g'.vals x'.to (vget x.vals b.term.arg) } :: gs') (.inr (by rw [e1]; exact .cons (fw_put hgw (vget x.vals b.term.arg)) hgs)) λ d _ => ?_
       rw [e2 d, e1]
       rfl
     .by_cases kw : (vget x.vals b.term.arg).kind ≠ 0
      .have e1 : stepF p M = stopF 5 0 M := by rw [hstep]; unfold termF; rw [if_neg k4, if_neg k1, if_neg k0, if_pos kw]
       refine one (x' :: fs') (.inl (by rw [e1]; rfl)) λ d _ => ?_
       rw [hstep2 d, e1]
       unfold termF
       dsimp only
       rw [if_neg k4, if_neg k1, if_neg k0, ha, if_pos kw]
       rfl
      .have hch := choice_lt hT (vget x.vals b.term.arg).n k0 k1 k4
       refine go (choiceF b.term (vget x.vals b.term.arg).n).toNat (by omega) k0 ?_ λ d => ?_
       .rw [hstep]; unfold termF; rw [if_neg k4, if_neg k1, if_neg k0, if_neg kw]
       .rw [hstep2 d]; unfold termF; dsimp only; rw [if_neg k4, if_neg k1, if_neg k0, ha, if_neg kw]
        rfl
  .-- an instruction
   rw [if_neg h1] at hstep
   have hat := hA.at_
   have hjl := hA.jl
   have hjlt : j < b.ins.length := by omega
   obtain ⟨i0, hi⟩ := get_of_lt b.ins j (by omega)
   have him := Ye hi
   rw [show x.at_.toNat = j by omega, hi, Option.getD_some] at hstep
   have hi2 : (grT f b).ins[j]? = some i0 := hi
   have hLs := LA_step (Nd := nD ds x.fn.toNat) (many := mD ds x.fn.toNat) hi2
   have hLl := LA_len (many := mD ds x.fn.toNat) (nd_rows hE) hlt (j + 1)
   have hSs : stG f (nD ds x.fn.toNat) i (j + 1) = stB (stG f (nD ds x.fn.toNat) i j) i0 := by
    unfold stG
    rw [blk_of hg]
    exact stAt_step hi2
   have hlv : ∀ y, lv (LA (nD ds x.fn.toNat) (mD ds x.fn.toNat) (grT f b) j) y ↔ y ≠ i0.to /\ lv (LA (nD ds x.fn.toNat) (mD ds x.fn.toNat) (grT f b) (j + 1)) y \/ y ∈ i0.args := λ y => by
    rw [hLs]
    exact lv_befI hLl (hVB.to i0 him).1 (hVB.args i0 him)
   have hH := has_G hm hE hg (j := j) (by show j <= b.ins.length; omega)
   have hargs : takeF x'.vals (argsE (stG f (nD ds x.fn.toNat) i j).env i0.args) = takeF x.vals i0.args := by
    unfold takeF argsE
    rw [Yaf]
    exact Yal λ a ha => hv a ((hlv a).2 (.inr ha))
   by_cases oc : i0.op = 100
   .-- a copy
    obtain ⟨a, ha⟩ := Yah.1 (hVB.one i0 him oc)
    have hs3 : stG f (nD ds x.fn.toNat) i (j + 1) = { stG f (nD ds x.fn.toNat) i j with env := updE (stG f (nD ds x.fn.toNat) i j).env i0.to (((stG f (nD ds x.fn.toNat) i j).env a).getD 0) } := by
     rw [hSs]
     unfold stB
     rw [if_pos oc, ha]
     rfl
    have e1 : stepF p M = wst ({ x with at_ := x.at_ + 1, vals := vput x.vals i0.to (vget x.vals a) } :: fs) M := by
     rw [hstep]
     unfold insF execF
     dsimp only
     rw [oc, ha]
     rfl
    refine .copy (by rw [e1]; rfl) ?_
    rw [e1]
    refine .cons ⟨b, f, i, j + 1, ⟨hA.hf, hA.fn, hA.b0, hA.ord, hA.hb, hA.hi, hA.blk, by show x.at_ + 1 = ((j + 1 : Nat) : Int); omega, by omega, ?_⟩, λ y hy => ?_⟩ hW
    .show x'.at_ = ((stG f (nD ds x.fn.toNat) i (j + 1)).ins.length : Nat)
     rw [hs3]
     exact hA.at2
    .show vget x'.vals (((stG f (nD ds x.fn.toNat) i (j + 1)).env y).getD 0) = vget (vput x.vals i0.to (vget x.vals a)) y
     rw [hs3, vget_vput]
     show vget x'.vals ((updE (stG f (nD ds x.fn.toNat) i j).env i0.to (((stG f (nD ds x.fn.toNat) i j).env a).getD 0) y).getD 0) = _
     unfold updE
     by_cases e : y = i0.to
     .rw [if_pos e, if_pos e.symm]
      exact hv a ((hlv a).2 (.inr (by rw [ha]; exact Yl.2 rfl)))
     .rw [if_neg e, if_neg (λ q => e q.symm)]
      exact hv y ((hlv y).2 (.inl ⟨e, hy⟩))
   .-- any other instruction
    have hs3 : stG f (nD ds x.fn.toNat) i (j + 1) = ⟨updE (stG f (nD ds x.fn.toNat) i j).env i0.to (stG f (nD ds x.fn.toNat) i j).nx, (stG f (nD ds x.fn.toNat) i j).nx + 1, (stG f (nD ds x.fn.toNat) i j).params, (stG f (nD ds x.fn.toNat) i j).ins ++ [⟨(stG f (nD ds x.fn.toNat) i j).nx, i0.op, i0.n, argsE (stG f (nD ds x.fn.toNat) i j).env i0.args⟩]⟩ := by
     rw [hSs]
     unfold stB
     rw [if_neg oc]
    obtain ⟨nx, hnx⟩ : ∃ nx, nx = (stG f (nD ds x.fn.toNat) i j).nx := ⟨_, rfl⟩
    obtain ⟨l, hl3⟩ := stAt_ins (grT f b) (begG f (nD ds x.fn.toNat) i) (j := j + 1) (by show j + 1 <= b.ins.length; omega)
    have hfin : (stG f (nD ds x.fn.toNat) i b.ins.length).ins = (stG f (nD ds x.fn.toNat) i (j + 1)).ins ++ l := by
     unfold stG
     rw [blk_of hg, <- hl3]
     have e : stAt (grT f b) (begG f (nD ds x.fn.toNat) i) b.ins.length = (grT f b).ins.foldl stB (begG f (nD ds x.fn.toNat) i) := stAt_end
     rw [e]
    have hat2 := hA.at2
    have hins : (stG f (nD ds x.fn.toNat) i b.ins.length).ins[x'.at_.toNat]? = some ⟨nx, i0.op, i0.n, argsE (stG f (nD ds x.fn.toNat) i j).env i0.args⟩ := by
     rw [hfin, hs3, hnx, show x'.at_.toNat = (stG f (nD ds x.fn.toNat) i j).ins.length by omega]
     dsimp only
     rw [Yp, Yad (Yau _), Nat.sub_self]
     rfl
    have hne : ¬ x'.at_ = ((stG f (nD ds x.fn.toNat) i b.ins.length).ins.length : Int) := by
     have := (Yb.1 hins).1
     omega
    have hstep2 : ∀ d, stepF v (addL d (wst (x' :: fs') M)) = insF v { x' with at_ := x'.at_ + 1 } ⟨nx, i0.op, i0.n, argsE (stG f (nD ds x.fn.toNat) i j).env i0.args⟩ fs' (addL d (wst ({ x' with at_ := x'.at_ + 1 } :: fs') M)) := λ d => by
     rw [hstep2 d, if_neg hne, hins, Option.getD_some]
    have hA1 : ∀ m m' : Vals, EA p ds { x with at_ := x.at_ + 1, vals := m } { x' with at_ := x'.at_ + 1, vals := m' } b f i (j + 1) := λ m m' => by
     refine ⟨hA.hf, hA.fn, hA.b0, hA.ord, hA.hb, hA.hi, hA.blk, by show x.at_ + 1 = ((j + 1 : Nat) : Int); omega, by omega, ?_⟩
     show x'.at_ + 1 = ((stG f (nD ds x.fn.toNat) i (j + 1)).ins.length : Nat)
     rw [hs3]
     dsimp only
     rw [Yu, List.length_singleton]
     omega
    have hFW : FW p ds { x with at_ := x.at_ + 1 } { x' with at_ := x'.at_ + 1 } i0.to nx := by
     refine ⟨b, f, i, j + 1, hA1 _ _, ?_, λ y hy hyl => ?_⟩
     .show (stG f (nD ds x.fn.toNat) i (j + 1)).env i0.to = some nx
      rw [hs3, hnx]
      exact if_pos rfl
     .have hyj := (hlv y).2 (.inl ⟨hy, hyl⟩)
      obtain ⟨z, hz, _, hz2⟩ := hH.has y hyj
      have e : (stG f (nD ds x.fn.toNat) i (j + 1)).env y = (stG f (nD ds x.fn.toNat) i j).env y := by
       rw [hs3]
       exact if_neg hy
      show ((stG f (nD ds x.fn.toNat) i (j + 1)).env y).getD 0 ≠ nx /\ vget x'.vals (((stG f (nD ds x.fn.toNat) i (j + 1)).env y).getD 0) = vget x.vals y
      rw [e]
      refine ⟨?_, hv y hyj⟩
      rw [hz, hnx]
      show z ≠ _
      omega
    -- a call
    have ent : ∀ (n : Int) (F : SFunc), p.fns[n.toNat]? = some F -> (takeF x.vals i0.args).length = (entryOf p n).length -> stepF p M = enterF p n (takeF x.vals i0.args) i0.to (wst ({ x with at_ := x.at_ + 1 } :: fs) M) -> (∀ d, stepF v (addL d (wst (x' :: fs') M)) = enterF v n (takeF x.vals i0.args) nx (addL d (wst ({ x' with at_ := x'.at_ + 1 } :: fs') M))) -> EStep p v ds M (x' :: fs') := λ n F hF hlen he1 he2 => by
     have hWW : EW p ds i0.to nx ({ x with at_ := x.at_ + 1 } :: fs) ({ x' with at_ := x'.at_ + 1 } :: fs') := .cons hFW hW
     have ho3 : (stepF p M).over = false := by rw [he1]; exact ho
     obtain ⟨c, S3, hc, hc1, hES, hrun⟩ := enter_run hU hF hlen hWW (M := stepF p M) ho3 hs2 (by rw [he1]; rfl)
     refine .step (entered v n (takeF x.vals i0.args) nx :: { x' with at_ := x'.at_ + 1 } :: fs') c S3 hc hc1 (λ d _ => ?_) (.inr ⟨hES, hrun⟩)
     rw [he2 d, he1]
     rfl
    have hIok := hUok.ins f hFm b hbm i0 him
    by_cases o13 : i0.op = 13
    .obtain ⟨c0, c1, c2⟩ := hIok.call o13
     obtain ⟨F, hF⟩ := get_of_lt p.fns i0.n.toNat (by omega)
     refine ent i0.n F hF (by unfold takeF; rw [Yg]; exact c2.symm) ?_ λ d => ?_
     .rw [hstep]; unfold insF; dsimp only; rw [if_pos o13]
     .rw [hstep2 d]; unfold insF; dsimp only; rw [if_pos o13, hargs]
    .by_cases o14 : i0.op = 14
     .have hent : ∀ n, (entryOf v n).length = (entryOf p n).length := λ n => by
       cases hn : p.fns[n.toNat]? with
       | none =>
        have hn2 : v.fns[n.toNat]? = none := by
         rw [Yai] at hn ⊢
         rw [hU.len]
         exact hn
        unfold entryOf
        rw [hn, hn2]
       | some F =>
        obtain ⟨b2, _, q1, q2, q3, _, _, hg0⟩ := en_params hU hn
        have hmF := en_fn hU hn
        have hx0 := (wg_ok hmF (hU.fn _ _ hn).1).low 0 (order_all hmF (Yb.1 hg0).1)
        obtain ⟨_, _, _, z3, _⟩ := beg0_run (params := b2.params) (nd := ndAt (nD ds n.toNat) 0) hx0 (as := b2.params.map λ _ => Val.zero) (Yg ..)
        rw [q1, q2, q3, z3]
      by_cases hc : (argAt (takeF x.vals i0.args) 0).kind = 2 /\ (entryOf p (argAt (takeF x.vals i0.args) 0).n).length = (takeF x.vals i0.args).length
      .have hn : 1 <= (entryOf p (argAt (takeF x.vals i0.args) 0).n).length := by
        rw [hc.2]
        unfold takeF
        rw [Yg]
        exact hIok.app o14
       cases hF : p.fns[(argAt (takeF x.vals i0.args) 0).n.toNat]? with
       | none =>
        unfold entryOf at hn
        rw [hF] at hn
        exact absurd hn (by show ¬ 1 <= 0; omega)
       | some F =>
        refine ent _ F hF hc.2.symm ?_ λ d => ?_
        .rw [hstep]; unfold insF; dsimp only; rw [if_neg o13, if_pos o14, if_pos hc]
        .rw [hstep2 d]; unfold insF; dsimp only; rw [if_neg o13, if_pos o14, hargs, if_pos (by rw [hent]; exact hc)]
      .have e1 : stepF p M = stopF 5 0 (wst ({ x with at_ := x.at_ + 1 } :: fs) M) := by
        rw [hstep]; unfold insF; dsimp only; rw [if_neg o13, if_pos o14, if_neg hc]
       refine one ({ x' with at_ := x'.at_ + 1 } :: fs') (.inl (by rw [e1]; rfl)) λ d _ => ?_
       rw [hstep2 d, e1]
       unfold insF
       dsimp only
       rw [if_neg o13, if_pos o14, hargs, if_neg (by rw [hent]; exact hc)]
       rfl
     .have e1 := exec_st i0 (takeF x.vals i0.args) M ({ x with at_ := x.at_ + 1 } :: fs)
      have e2 := exec_st i0 (takeF x.vals i0.args) M ({ x' with at_ := x'.at_ + 1 } :: fs')
      have hex : ∀ (args : List Val) (M : Mach), execF ⟨nx, i0.op, i0.n, argsE (stG f (nD ds x.fn.toNat) i j).env i0.args⟩ args M = execF i0 args M := λ _ _ => rfl
      have hP : stepF p M = { (if (execF i0 (takeF x.vals i0.args) M).2.2 ≠ 0 then stopF (execF i0 (takeF x.vals i0.args) M).2.2 0 (wst ({ x with at_ := x.at_ + 1 } :: fs) (execF i0 (takeF x.vals i0.args) M).1) else wst ({ x with at_ := x.at_ + 1 } :: fs) (execF i0 (takeF x.vals i0.args) M).1) with stack := { x with at_ := x.at_ + 1, vals := vput x.vals i0.to (execF i0 (takeF x.vals i0.args) M).2.1 } :: fs } := by
       rw [hstep]
       unfold insF
       dsimp only
       rw [if_neg o13, if_neg o14, e1]
      have hsx : (execF i0 (takeF x.vals i0.args) M).1.short = false := by
       rw [hP] at hs2
       dsimp only at hs2
       split at hs2 <;> exact hs2
      have hlx : 0 <= (execF i0 (takeF x.vals i0.args) M).1.left := by
       rw [hP] at hl2
       dsimp only at hl2
       split at hl2 <;> exact hl2
      refine one ({ x' with at_ := x'.at_ + 1, vals := vput x'.vals nx (execF i0 (takeF x.vals i0.args) M).2.1 } :: fs') (.inr ?_) λ d hd => ?_
      .rw [hP]
       exact .cons (fw_put hFW _) hW
      .have e3 := (exec_addL i0 (takeF x.vals i0.args) (wst ({ x' with at_ := x'.at_ + 1 } :: fs') M) d hs (by rw [e2]; exact hsx) (by show 0 <= M.left + d; omega)).1 (by rw [e2]; show 0 <= (execF i0 (takeF x.vals i0.args) M).1.left + d; omega)
       rw [hstep2 d, hP]
       unfold insF
       dsimp only
       rw [if_neg o13, if_neg o14, hargs, hex, e3, e2]
       dsimp only
       by_cases hx : (execF i0 (takeF x.vals i0.args) M).2.2 ≠ 0
       .rw [if_pos hx, if_pos hx]; rfl
       .rw [if_neg hx, if_neg hx]; rfl
end
section
variable {p v : SUnit} {ds : Ghs} (hU : EnU p v ds)
include hU
theorem go_en : ∀ (n : Nat) (M : Mach) (d : Int) (S' : List MFrame), M.short = false -> M.over = false -> Good p M -> (goF p n M).over = true -> (goF p n M).short = false -> ES p ds M.stack S' -> 4097 * M.left <= d -> ∀ N : Nat, 4098 * M.left + 1 <= N -> ∃ d' S'', goF v N (addL d (wst S' M)) = addL d' (wst S'' (goF p n M))
 | 0, M, d, S', hs, ho, hg, hov, _, _, _, _, _ => by
  have hov : M.over = true := hov
  rw [ho] at hov
  cases hov
 | n + 1, M, d, S', hs, ho, hg, hov, hsh, hS, hd, N, hN => by
  have hP := (mcheck_ok hU.check).u
  cases hp : (payF 1 M).short with
  | true =>
   rw [goF_short ho n hp] at hsh
   rw [hp] at hsh
   cases hsh
  | false =>
   obtain ⟨e1, hl1⟩ := payF_ok hp
   rw [goF_step ho n hp, e1] at hov hsh ⊢
   have hg2 := good_step hP hg ho hl1
   have hM1 : MOk p { M with left := M.left - 1 } := by
    have := hg.1
    exact ⟨this.frames, this.heap, this.out, by show 0 <= M.left - 1; omega, by have h9 := this.left; show M.left - 1 + (M.stack.length : Int) <= 1000001; omega⟩
   have hs1 : ({ M with left := M.left - 1 } : Mach).short = false := hs
   have ho1 : ({ M with left := M.left - 1 } : Mach).over = false := ho
   have hS1 : ES p ds ({ M with left := M.left - 1 } : Mach).stack S' := hS
   have hup : addL d (wst S' M) = addL d (wst S' (up1 { M with left := M.left - 1 })) := by
    show ({ wst S' M with left := M.left + d } : Mach) = { wst S' M with left := M.left - 1 + 1 + d }
    rw [Int.sub_add_cancel]
   rw [hup]
   generalize hM1e : ({ M with left := M.left - 1 } : Mach) = M1 at hov hsh hg2 hM1 hs1 ho1 hS1 ⊢
   have hl : M1.left = M.left - 1 := by rw [<- hM1e]
   have hs2 : (stepF p M1).short = false := by
    cases hx : (stepF p M1).short with
    | false => rfl
    | true => rw [goF_over (step_short hs1 hx), hx] at hsh; cases hsh
   have hl0 := hg2.1.left0
   have hl2 := step_left p M1
   have fin : ∀ (d2 : Int) (S3 : List MFrame) (N2 : Nat), (stepF p M1).over = true \/ ES p ds (stepF p M1).stack S3 -> 4097 * (stepF p M1).left <= d2 -> 4098 * (stepF p M1).left + 1 <= N2 -> ∃ d' S'', goF v N2 (addL d2 (wst S3 (stepF p M1))) = addL d' (wst S'' (goF p n (stepF p M1))) := λ d2 S3 N2 hS3 hd2 hN2 => by
    cases ho2 : (stepF p M1).over with
    | true =>
     rw [goF_over ho2, goF_over (M := addL d2 (wst S3 (stepF p M1))) ho2]
     exact ⟨d2, S3, rfl⟩
    | false =>
     have hS3 := hS3.resolve_left (by rw [ho2]; decide)
     exact go_en n _ d2 S3 hs2 ho2 hg2 hov hsh hS3 hd2 N2 hN2
   rcases en_step hU hM1.left0 hS1 ho1 hs1 hs2 hl0 with ⟨h1, h2⟩ | ⟨S2, c, S3, hc, _, h1, h2⟩
   .have hl3 : (stepF p M1).left = M1.left := by rw [h1]; rfl
    have e : addL d (wst S' (up1 M1)) = addL (d + 1) (wst S' (stepF p M1)) := by
     rw [h1]
     show ({ wst S' M1 with left := M1.left + 1 + d } : Mach) = { wst S' M1 with left := M1.left + (d + 1) }
     rw [show M1.left + 1 + d = M1.left + (d + 1) by omega]
    rw [e]
    exact fin (d + 1) S' N (.inr h2) (by omega) (by omega)
   .obtain ⟨N, rfl⟩ : ∃ j, N = j + 1 := ⟨N - 1, by omega⟩
    rw [first_step ho1 hs1 (by omega), h1 d (by omega)]
    rcases h2 with h2 | ⟨h2, h3⟩
    .exact fin d S2 N (.inl h2) (by omega) (by omega)
    .obtain ⟨N, rfl⟩ : ∃ j, N = j + c := ⟨N - c, by omega⟩
     rw [h3 d N (by omega)]
     exact fin _ S3 N (.inr h2) (by omega) (by omega)
theorem en_run (hv : unitF v = 0) (h : (mrunF p 1500).2.2 = 0) :
  (5000 * ((mrunF p 1500).2.1 + 1) <= 1000000 -> (runF v 1000000).2.2 = 0) /\ ((runF v 1000000).2.2 = 0 -> (runF v 1000000).1 = (mrunF p 1500).1) /\ ((runF v 1000000).2.2 = 0 \/ (runF v 1000000).2.2 = 13) /\ 0 <= (mrunF p 1500).2.1 /\ (mrunF p 1500).2.1 <= 1500 := by
 have hP := (mcheck_ok hU.check).u
 have e2 : mrunF p 1500 = performF p 1500 := by
  unfold mrunF
  rw [hU.check, if_neg (λ e => e rfl), if_neg (by decide)]
 rw [e2] at h ⊢
 have hl := (good_go hP (fuel := 1500) (by omega) (by omega) 1501).1.left0
 have h2 : 0 <= (performF p 1500).2.1 /\ (performF p 1500).2.1 <= 1500 := by
  have h9 := (good_go hP (fuel := 1500) (by omega) (by omega) 1501).2
  rw [perform_eq]
  split
  .show (0 : Int) <= 0 /\ (0 : Int) <= 1500; decide
  .have hle : (goF p 1501 (startF p 1500)).left <= 1500 := goF_left p 1501 (startF p 1500)
   show 0 <= (1500 : Int) - (goF p 1501 (startF p 1500)).left /\ (1500 : Int) - (goF p 1501 (startF p 1500)).left <= 1500
   omega
 have hpf := (perform_fuel hP (a := 1500) (b := (performF p 1500).2.1) (by omega) (by omega) h2.1 h).1 (Yay _)
 obtain ⟨n, hn⟩ : ∃ n : Int, n = (performF p 1500).2.1 := ⟨_, rfl⟩
 rw [<- hn] at h2 hpf ⊢
 rw [<- hpf] at h ⊢
 rw [perform_eq] at h ⊢
 have hsh : (goF p (n.toNat + 1) (startF p n)).short = false := by
  cases hx : (goF p (n.toNat + 1) (startF p n)).short with
  | false => rfl
  | true => rw [hx, if_pos rfl] at h; cases h
 rw [hsh]
 have hg := good_start hP (fuel := n) (by omega) (by omega)
 have hov : (goF p (n.toNat + 1) (startF p n)).over = true := goF_end hP _ _ hg (λ _ => rfl) (by show n + 1 <= _; omega)
 have key : ∀ b : Int, 4098 * n + 4096 <= b -> ∃ d' S'', goF v (b.toNat + 1) (startF v b) = addL d' (wst S'' (goF p (n.toNat + 1) (startF p n))) := λ b hb => by
  have hst : startF v b = addL (b - n) (wst [entered v p.main [] 0] (startF p n)) := by
   unfold startF enterF
   rw [hU.main]
   show ({ (⟨[], b, false, false, [], 0, 0, []⟩ : Mach) with stack := [entered v p.main [] 0] } : Mach) = { (⟨[], n, false, false, [], 0, 0, []⟩ : Mach) with stack := [entered v p.main [] 0], left := n + (b - n) }
   rw [show n + (b - n) = b by omega]
  obtain ⟨m0, m1⟩ := hP.main
  obtain ⟨F, hF⟩ := get_of_lt p.fns p.main.toNat (by omega)
  obtain ⟨c, S3, hc, _, hES, hrun⟩ := enter_run hU hF (args := []) (by rw [hP.entry]; rfl) (to := 0) (to' := 0) (fs := []) (fs' := []) .nil (M := startF p n) rfl rfl rfl
  obtain ⟨N, hN⟩ : ∃ j, b.toNat + 1 = j + c := ⟨b.toNat + 1 - c, by omega⟩
  rw [hst, hN, hrun (b - n) N (by show (c : Int) <= n + (b - n); omega)]
  exact go_en hU (n.toNat + 1) (startF p n) _ S3 rfl rfl hg hov hsh hES (by show 4097 * n <= b - n - (c : Nat); omega) N (by show 4098 * n + 1 <= _; omega)
 have hrv : runF v 1000000 = performF v 1000000 := run_perform hv (by decide) (by decide)
 rw [hrv]
 have hV := (unit_of hv).u
 refine ⟨λ hen => ?_, λ hok => ?_, ?_, h2.1, h2.2⟩
 .obtain ⟨d', S'', hk⟩ := key 1000000 (by omega)
  rw [perform_eq, hk]
  have hsh2 : (addL d' (wst S'' (goF p (n.toNat + 1) (startF p n)))).short = false := hsh
  rw [hsh2]
  rfl
 .rw [perform_eq] at hok ⊢
  have hsh3 : (goF v ((1000000 : Int).toNat + 1) (startF v 1000000)).short = false := by
   cases hx : (goF v ((1000000 : Int).toNat + 1) (startF v 1000000)).short with
   | false => rfl
   | true => rw [hx, if_pos rfl] at hok; cases hok
  have hg3 := good_start hV (fuel := 1000000) (by decide) (by decide)
  have hov3 : (goF v ((1000000 : Int).toNat + 1) (startF v 1000000)).over = true := goF_end hV _ _ hg3 (λ _ => rfl) (by show (1000000 : Int) + 1 <= _; decide)
  have hl3 := (good_go hV (fuel := 1000000) (by decide) (by decide) ((1000000 : Int).toNat + 1)).1.left0
  have hadd := (go_addL (u := v) (d := 6200000) _ _ rfl rfl hov3 hsh3 (by show (0 : Int) <= 1000000 + 6200000; decide) ((1000000 + 6200000 : Int).toNat + 1) (by show (1000000 : Int) + 6200000 + 1 <= _; decide)).1 (by omega)
  rw [start_addL] at hadd
  obtain ⟨d', S'', hk⟩ := key (1000000 + 6200000) (by omega)
  rw [hk] at hadd
  rw [hsh3]
  have q1 := congrArg Mach.out hadd
  have q2 := congrArg Mach.fin hadd
  have q3 := congrArg Mach.value hadd
  show (⟨_, _, _⟩ : Out) = ⟨_, _, _⟩
  have q1 : (goF p (n.toNat + 1) (startF p n)).out = (goF v ((1000000 : Int).toNat + 1) (startF v 1000000)).out := q1
  have q2 : (goF p (n.toNat + 1) (startF p n)).fin = (goF v ((1000000 : Int).toNat + 1) (startF v 1000000)).fin := q2
  have q3 : (goF p (n.toNat + 1) (startF p n)).value = (goF v ((1000000 : Int).toNat + 1) (startF v 1000000)).value := q3
  rw [<- q1, <- q2, <- q3]
 .rw [perform_eq]
  split
  .exact .inr rfl
  .exact .inl rfl
end
section
variable {f : SFunc} (h : mfuncF f = 0) {many : Nat} {Nd : Nds} (hE : EnOk f many Nd)
include h hE
theorem enter_len : (enterG f Nd).blocks.length = (graphG f).length := by
 show ((Yr (graphG f).length).map (outB f Nd)).length = _
 rw [Yg, List.length_range]
end
def InsB (f : SFunc) : Prop := ∀ b ∈ f.blocks, b.ins.length <= 2932031007402
theorem insN_le3 {c : Nat} : ∀ {l : List SBlock}, (∀ b ∈ l, b.ins.length <= c) -> insN l <= l.length * c
 | [], _ => Yav _
 | b :: l, h => by
  have h1 := h b (Ya ..)
  have h2 := insN_le3 λ x hx => h x (Yd _ hx)
  rw [insN, Yf, Nat.succ_mul]
  omega
theorem insN_mem3 : ∀ {l : List SBlock} {b : SBlock}, b ∈ l -> b.ins.length <= insN l
 | [], b, h => by cases h
 | c :: l, b, h => by
  rw [insN]
  rcases Yc.1 h with rfl | h
  .omega
  .have := insN_mem3 h; omega
theorem mins_vars {i : SIns} (h : minsF i = 0) : (0 <= i.to /\ i.to < 4096) /\ (∀ a ∈ i.args, 0 <= a /\ a < 4096) /\ (i.op = 100 -> i.args.length = 1) /\ i.args.length <= 16 := by
 have hv : ∀ {v : Int}, mvarF v = true -> 0 <= v /\ v < 4096 := λ {v} hv => by
  unfold mvarF at hv
  rw [Bool.and_eq_true, decide_eq_true_eq, decide_eq_true_eq] at hv
  omega
 unfold minsF at h
 split at h
 .cases h
 .rename_i h1
  have h1 : (!mvarF i.to || i.args.any λ a => !mvarF a) = false := by simpa using h1
  rw [Bool.or_eq_false_iff] at h1
  obtain ⟨h2, h3⟩ := h1
  have h2 : mvarF i.to = true := by simpa using h2
  have h3 : ∀ a ∈ i.args, mvarF a = true := λ a ha => by
   rw [List.any_eq_false] at h3
   have := h3 a ha
   simpa using this
  refine ⟨hv h2, λ a ha => hv (h3 a ha), ?_⟩
  split at h
  .rename_i h4
   exact ⟨λ h5 => absurd h5 h4, (form_of h).many⟩
  .split at h
   .cases h
   .rename_i h5
    exact ⟨λ _ => by omega, by omega⟩
theorem mparams_vars : ∀ {l done : List Int}, mparamsF done l = 0 -> ∀ v ∈ l, 0 <= v /\ v < 4096
 | [], done, _, v, hv => by cases hv
 | a :: l, done, h, v, hv => by
  rw [mparamsF] at h
  split at h
  .cases h
  .rename_i h1
   split at h
   .cases h
   .rcases Yc.1 hv with rfl | hv
    .have h1 : mvarF v = true := by simpa using h1
     unfold mvarF at h1
     rw [Bool.and_eq_true, decide_eq_true_eq, decide_eq_true_eq] at h1
     omega
    .exact mparams_vars h v hv
def mxV (m a : Int) : Int := if a + 1 > m then a + 1 else m
def mxI (m : Int) (i : SIns) : Int := i.args.foldl mxV (mxV m i.to)
def mxB (m : Int) (b : SBlock) : Int := b.ins.foldl mxI (b.params.foldl mxV (mxV m b.term.arg))
def manyI (f : SFunc) : Int := f.blocks.foldl mxB 0
def manyN (f : SFunc) : Nat := (manyI f).toNat
theorem mxV_le (m a : Int) : m <= mxV m a /\ a < mxV m a /\ (m <= 4096 -> a < 4096 -> mxV m a <= 4096) := by
 unfold mxV
 split <;> omega
theorem mxA_le : ∀ {l : List Int} {m : Int}, m <= l.foldl mxV m /\ (∀ a ∈ l, a < l.foldl mxV m) /\ (m <= 4096 -> (∀ a ∈ l, a < 4096) -> l.foldl mxV m <= 4096)
 | [], m => ⟨Yay _, (λ a ha => by cases ha), λ h _ => h⟩
 | x :: l, m => by
  obtain ⟨h1, h2, h3⟩ := mxA_le (l := l) (m := mxV m x)
  obtain ⟨g1, g2, g3⟩ := mxV_le m x
  rw [Yj]
  refine ⟨by omega, λ a ha => ?_, λ hm ha => h3 (g3 hm (ha x (Ya ..))) λ a h => ha a (Yd _ h)⟩
  rcases Yc.1 ha with rfl | ha
  .omega
  .exact h2 a ha
theorem mxI_le {i : SIns} {m : Int} : m <= mxI m i /\ i.to < mxI m i /\ (∀ a ∈ i.args, a < mxI m i) /\ (m <= 4096 -> i.to < 4096 -> (∀ a ∈ i.args, a < 4096) -> mxI m i <= 4096) := by
 obtain ⟨h1, h2, h3⟩ := mxA_le (l := i.args) (m := mxV m i.to)
 obtain ⟨g1, g2, g3⟩ := mxV_le m i.to
 unfold mxI
 exact ⟨by omega, by omega, h2, λ hm ht ha => h3 (g3 hm ht) ha⟩
theorem mxIs_le : ∀ {l : List SIns} {m : Int}, m <= l.foldl mxI m /\ (∀ i ∈ l, i.to < l.foldl mxI m /\ ∀ a ∈ i.args, a < l.foldl mxI m) /\ (m <= 4096 -> (∀ i ∈ l, i.to < 4096 /\ ∀ a ∈ i.args, a < 4096) -> l.foldl mxI m <= 4096)
 | [], m => ⟨Yay _, (λ a ha => by cases ha), λ h _ => h⟩
 | x :: l, m => by
  obtain ⟨h1, h2, h3⟩ := mxIs_le (l := l) (m := mxI m x)
  obtain ⟨g1, g2, g3, g4⟩ := mxI_le (i := x) (m := m)
  rw [Yj]
  refine ⟨by omega, λ i hi => ?_, λ hm ha => h3 (g4 hm (ha x (Ya ..)).1 (ha x (Ya ..)).2) λ a h => ha a (Yd _ h)⟩
  rcases Yc.1 hi with rfl | hi
  .exact ⟨by omega, λ a ha => by have := g3 a ha; omega⟩
  .exact h2 i hi
def VB4 (b : SBlock) : Prop := (0 <= b.term.arg /\ b.term.arg < 4096) /\ (∀ a ∈ b.params, 0 <= a /\ a < 4096) /\ ∀ i ∈ b.ins, (0 <= i.to /\ i.to < 4096) /\ (∀ a ∈ i.args, 0 <= a /\ a < 4096) /\ (i.op = 100 -> i.args.length = 1) /\ i.args.length <= 16
theorem mxB_le {b : SBlock} {m : Int} : m <= mxB m b /\ b.term.arg < mxB m b /\ (∀ i ∈ b.ins, i.to < mxB m b /\ ∀ a ∈ i.args, a < mxB m b) /\ (m <= 4096 -> VB4 b -> mxB m b <= 4096) := by
 obtain ⟨g1, g2, g3⟩ := mxV_le m b.term.arg
 obtain ⟨p1, p2, p3⟩ := mxA_le (l := b.params) (m := mxV m b.term.arg)
 obtain ⟨i1, i2, i3⟩ := mxIs_le (l := b.ins) (m := b.params.foldl mxV (mxV m b.term.arg))
 unfold mxB
 exact ⟨by omega, by omega, i2, λ hm ⟨v1, v2, v3⟩ => i3 (p3 (g3 hm v1.2) λ a ha => (v2 a ha).2) λ i hi => ⟨(v3 i hi).1.2, λ a ha => ((v3 i hi).2.1 a ha).2⟩⟩
theorem mxBs_le : ∀ {l : List SBlock} {m : Int}, m <= l.foldl mxB m /\ (∀ b ∈ l, b.term.arg < l.foldl mxB m /\ ∀ i ∈ b.ins, i.to < l.foldl mxB m /\ ∀ a ∈ i.args, a < l.foldl mxB m) /\ (m <= 4096 -> (∀ b ∈ l, VB4 b) -> l.foldl mxB m <= 4096)
 | [], m => ⟨Yay _, (λ a ha => by cases ha), λ h _ => h⟩
 | x :: l, m => by
  obtain ⟨h1, h2, h3⟩ := mxBs_le (l := l) (m := mxB m x)
  obtain ⟨g1, g2, g3, g4⟩ := mxB_le (b := x) (m := m)
  rw [Yj]
  refine ⟨by omega, λ b hb => ?_, λ hm ha => h3 (g4 hm (ha x (Ya ..))) λ a h => ha a (Yd _ h)⟩
  rcases Yc.1 hb with rfl | hb
  .refine ⟨by omega, λ i hi => ?_⟩
   obtain ⟨q1, q2⟩ := g3 i hi
   exact ⟨by omega, λ a ha => by have := q2 a ha; omega⟩
  .exact h2 b hb
section
variable {f : SFunc} (h : mfuncF f = 0)
include h
theorem m_vb {b : SBlock} (hb : b ∈ f.blocks) : VB4 b := by
 obtain ⟨k, hk⟩ := Ym hb
 have hB := (mfunc_ok h).block k b hk
 refine ⟨?_, mparams_vars hB.vars, λ i hi => mins_vars (hB.ins i hi)⟩
 have h1 := hB.arg
 unfold mvarF at h1
 rw [Bool.and_eq_true, decide_eq_true_eq, decide_eq_true_eq] at h1
 omega
theorem many_le : 1 <= manyI f /\ manyI f <= 4096 /\ manyI f = (manyN f : Nat) /\ ∀ b ∈ f.blocks, VarsB (manyN f) b := by
 have hM := mfunc_ok h
 obtain ⟨h1, h2, h3⟩ := mxBs_le (l := f.blocks) (m := 0)
 obtain ⟨b0, hb0⟩ := get_of_lt f.blocks 0 (by have := hM.pos; omega)
 have hm0 := Ye hb0
 have hlt := (h2 b0 hm0).1
 have hv0 := (m_vb h hm0).1
 have hle := h3 (by decide) λ b hb => m_vb h hb
 have e : manyI f = (manyN f : Nat) := by unfold manyN; have : manyI f = f.blocks.foldl mxB 0 := rfl; omega
 have hd : manyI f = f.blocks.foldl mxB 0 := rfl
 refine ⟨by omega, by omega, e, λ b hb => ?_⟩
 obtain ⟨q1, q2⟩ := h2 b hb
 obtain ⟨v1, v2, v3⟩ := m_vb h hb
 refine ⟨⟨v1.1, by omega⟩, λ i hi => ⟨(v3 i hi).1.1, by have := (q2 i hi).1; omega⟩, λ i hi a ha => ⟨((v3 i hi).2.1 a ha).1, by have := (q2 i hi).2 a ha; omega⟩, λ i hi => (v3 i hi).2.2.1⟩
theorem m_small (hz : InsB f) : ∀ b ∈ f.blocks, b.ins.length <= 4096 := λ b hb => by
 have hM := mfunc_ok h
 have hN := insN_le3 hz
 have hN2 : insN f.blocks <= 128 * 2932031007402 := Nat.le_trans hN (Nat.mul_le_mul_right _ hM.len)
 have hc := count_eq f.blocks 0 (Yay _) (by omega)
 have h9 := h
 unfold mfuncF at h9
 split at h9
 .cases h9
 .split at h9
  .cases h9
  .rename_i h2
   rw [hc] at h2
   have := insN_mem3 hb
   omega
theorem m_params {b : SBlock} (hb : b ∈ f.blocks) : b.params.length <= 6 := by
 have hM := mfunc_ok h
 obtain ⟨k, hk⟩ := Ym hb
 by_cases h0 : k = 0
 .subst h0
  have := hM.params
  rwa [show (0 : Int) = ((0 : Nat) : Int) from rfl, paramsOf_get (k := ((0 : Nat) : Int)) (by rw [Yaz]; exact hk)] at this
 .rw [(hM.block k b hk).params (by omega)]
  exact Yav _
theorem m_cases {b : SBlock} (hb : b ∈ f.blocks) : b.term.cases.length <= 256 /\ b.term.to.length <= 257 := by
 obtain ⟨k, hk⟩ := Ym hb
 have hE := endF_ok ((mfunc_ok h).block k b hk).term
 have h1 := hE.many
 have hs := hE.shape
 refine ⟨by omega, ?_⟩
 unfold shapeF at hs
 split at hs
 .simp only [Bool.and_eq_true, decide_eq_true_eq] at hs; omega
 .split at hs
  .simp only [Bool.and_eq_true, decide_eq_true_eq] at hs; omega
  .split at hs
   .simp only [Bool.and_eq_true, decide_eq_true_eq] at hs; omega
   .split at hs
    .simp only [Bool.and_eq_true, decide_eq_true_eq] at hs; omega
    .split at hs
     .simp only [Bool.and_eq_true, decide_eq_true_eq] at hs; omega
     .cases hs
theorem graph_of_mem {c : SBlock} (hc : c ∈ graphG f) : ∃ b ∈ f.blocks, c = grT f b := by
 obtain ⟨i, hi⟩ := Ym hc
 obtain ⟨v, b, _, _, hb, h1, _⟩ := graph_of h (Yb.1 hi).1
 rw [hi] at h1
 injection h1 with h1
 exact ⟨b, Ye hb, h1⟩
theorem graph_small : 1 <= (graphG f).length /\ (graphG f).length <= 128 := by
 have h1 := func_ok (skP_ok h)
 have h2 := h1.pos
 have h3 := h1.len
 rw [graph_len]
 omega
theorem grT_len {b : SBlock} (hb : b ∈ f.blocks) : (grT f b).term.to.length <= 257 := by
 rw [grT_to, Yg]
 by_cases h0 : b.term.kind = 0
 .rw [skT_0 h0]; exact Yav _
 .rw [skT_1 h0]; exact (m_cases h hb).2
theorem cnt_at {k : Nat} (hk : k < f.blocks.length) : gI (atF (skF f)) k < 0 /\ cntF (skF f) (k + 1) = cntF (skF f) k \/ ∃ b, f.blocks[k]? = some b /\ k ∈ orderF (skF f).blocks /\ 0 <= gI (atF (skF f)) k /\ gI (atF (skF f)) k = (cntF (skF f) k : Nat) /\ cntF (skF f) (k + 1) = cntF (skF f) k + 1 /\ (graphG f)[cntF (skF f) k]? = some (grT f b) /\ (skP f).blocks[cntF (skF f) k]? = some (reB (atF (skF f)) (skB k b)) := by
 have hkl : k < (skF f).blocks.length := by rw [skF_len]; exact hk
 obtain ⟨b, hb⟩ := get_of_lt f.blocks k (by omega)
 rcases cnt_step (sk_ok h) hkl with ⟨h1, h2⟩ | ⟨h1, h2⟩
 .exact .inl ⟨by omega, h2⟩
 .right
  rcases at_of (sk_order h) hkl with ⟨g1, g2⟩ | ⟨g1, g2, g3⟩
  .omega
  .obtain ⟨q1, q2⟩ := graph_at h g1 hb
   have e : rk (skF f) k = cntF (skF f) k := by omega
   rw [e] at q1 q2
   exact ⟨b, hb, g1, by omega, h1, h2, q1, q2⟩
theorem cnt_end : cntF (skF f) f.blocks.length = (graphG f).length := by
 unfold graphG
 rw [Yg, reach_eq (sk_order h), Yg]
 unfold cntF reachN
 rw [skF_len]
omit h in
theorem cnt_zero : cntF (skF f) 0 = 0 := rfl
omit h in
theorem need_ex {G : List SBlock} {many : Nat} (hE : ∀ b ∈ G, ∀ e ∈ b.term.to, e.block.toNat < G.length) : ∀ (n : Nat) (Nd : Nds), offN Nd <= n -> NInv G many Nd -> ∃ Nd', NInv G many Nd' /\ ∀ (k : Nat) (b : SBlock), G[k]? = some b -> needK Nd' many b = ndAt Nd' k
 | n, Nd, hn, hI => by
  by_cases hf : ∀ (k : Nat) (b : SBlock), G[k]? = some b -> needK Nd many b = ndAt Nd k
  .exact ⟨Nd, hI, hf⟩
  .have hf : ∃ (k : Nat) (b : SBlock), G[k]? = some b /\ needK Nd many b ≠ ndAt Nd k := by
    refine Classical.byContradiction λ hn => hf λ k b hb => Classical.byContradiction λ hne => hn ⟨k, b, hb, hne⟩
   obtain ⟨k, b, hb, hne⟩ := hf
   obtain ⟨h1, h2⟩ := ninv_set hE hI hb hne
   obtain ⟨n, rfl⟩ : ∃ m, n = m + 1 := ⟨n - 1, by omega⟩
   exact need_ex hE n _ (by omega) h1
theorem need_inh (many : Nat) : Nonempty { Nd : Nds // NeedOk (graphG f) (orderG f) many Nd } := by
 have hE : ∀ b ∈ graphG f, ∀ e ∈ b.term.to, e.block.toNat < (graphG f).length := λ b hb e he => by have := graph_edges h b hb e he; omega
 obtain ⟨Nd, hI, hf⟩ := need_ex hE _ _ (Yau _) (ninv_start (many := many) hE)
 refine ⟨⟨Nd, hI.len, hI.row, λ k hk b hb => ?_⟩⟩
 have h1 := hf k b hb
 have hk := (Yb.1 hb).1
 obtain ⟨s, hs⟩ := get_of_lt Nd k (by rw [hI.len]; omega)
 have h2 : ndAt Nd k = s := by unfold ndAt; rw [hs]; rfl
 rw [hs, h1, h2]
omit h in
theorem foldP_le : ∀ (l : List Int) (s : BSt), (l.foldl stP s).nx <= s.nx + l.length /\ (l.foldl stP s).ins = s.ins
 | [], s => ⟨by show s.nx <= s.nx + 0; omega, rfl⟩
 | v :: l, s => by
  obtain ⟨h1, h2⟩ := foldP_le l (stP s v)
  have e : (stP s v).nx = s.nx + 1 := rfl
  rw [Yj, Yf]
  exact ⟨by omega, h2⟩
omit h in
theorem foldZ_le {f : BSt -> Int -> Bool -> BSt} (hf : ∀ s v x, (f s v x).nx <= s.nx + 1 /\ (f s v x).ins.length <= s.ins.length + 1) : ∀ (l : List Bool) (j : Nat) (s : BSt), (foldZ f j l s).nx <= s.nx + l.length /\ (foldZ f j l s).ins.length <= s.ins.length + l.length
 | [], j, s => ⟨by show s.nx <= s.nx + 0; omega, Yau _⟩
 | x :: l, j, s => by
  obtain ⟨h1, h2⟩ := foldZ_le hf l (j + 1) (f s j x)
  obtain ⟨h3, h4⟩ := hf s j x
  rw [foldZ, Yf]
  exact ⟨by omega, by omega⟩
omit h in
theorem stI_le (s : BSt) (v : Int) (x : Bool) : (stI s v x).nx <= s.nx + 1 /\ (stI s v x).ins.length <= s.ins.length + 1 := by
 unfold stI
 split
 .exact ⟨Yay _, by show (s.ins ++ [_]).length <= _; rw [Yu]; exact Yau _⟩
 .exact ⟨by omega, by omega⟩
omit h in
theorem stQ_le (s : BSt) (v : Int) (x : Bool) : (stQ s v x).nx <= s.nx + 1 /\ (stQ s v x).ins.length <= s.ins.length + 1 := by
 unfold stQ
 split
 .exact ⟨Yay _, by show s.ins.length <= _; omega⟩
 .exact ⟨by omega, by omega⟩
omit h in
theorem begin_le (G : List SBlock) (inn : List (List Int)) (Nd : Nds) (ends : Nat -> Env) (k : Nat) (nx : Int) : (beginF G inn Nd ends k nx).nx <= nx + ((blkAt G 0).params.length + (ndAt Nd k).length : Nat) /\ (beginF G inn Nd ends k nx).ins.length <= (ndAt Nd k).length := by
 unfold beginF
 by_cases h0 : k = 0
 .subst h0
  rw [if_pos rfl]
  obtain ⟨p1, p2⟩ := foldP_le (blkAt G 0).params (emptyS nx)
  obtain ⟨q1, q2⟩ := foldZ_le stI_le (ndAt Nd 0) 0 ((blkAt G 0).params.foldl stP (emptyS nx))
  have e : (emptyS nx).nx = nx := rfl
  have e2 : (emptyS nx).ins.length = 0 := rfl
  rw [p2] at q2
  unfold beg0
  exact ⟨by omega, by omega⟩
 .rw [if_neg h0]
  split
  .exact ⟨by show nx <= _; omega, Yav _⟩
  .obtain ⟨q1, q2⟩ := foldZ_le stQ_le (ndAt Nd k) 0 (emptyS nx)
   have e : (emptyS nx).nx = nx := rfl
   have e2 : (emptyS nx).ins.length = 0 := rfl
   unfold begQ
   exact ⟨by omega, by omega⟩
omit h in
theorem foldB_le : ∀ (l : List SIns) (s : BSt), (l.foldl stB s).nx <= s.nx + l.length
 | [], s => by show s.nx <= s.nx + 0; omega
 | i :: l, s => by
  have h1 := foldB_le l (stB s i)
  have h2 : (stB s i).nx <= s.nx + 1 := by
   unfold stB
   split
   .show s.nx <= s.nx + 1; omega
   .exact Yay _
  rw [Yj, Yf]
  omega
end
section
variable {n : Int} {v : Vals} {L : Int}
structure LongAt (n : Int) (v : Vals) (i s : Int) : Prop where
 v0 : vget v 0 = .word i
 v1 : vget v 1 = .word n
 v2 : vget v 2 = .word 1
 v3 : vget v 3 = .word s
end
end Go.SM
end
