import Derived.Test.YtjekhhgjfelpgaaGreatSZ
set_option linter.all false
open List renaming mem_cons_self → Ya, mem_cons_of_mem → Yb, getElem?_eq_some_iff → Yc, mem_of_getElem? → Yd, mem_cons → Ye, mem_map → Yf, mem_singleton → Yg, getElem?_map → Yh, length_map → Yi, replicate → Yj, mem_append → Yk, map_append → Yl, range → Ym, length_cons → Yn, getElem?_of_mem → Yo, getElem?_set → Yp, mem_append_left → Yq, map_cons → Yr, mem_append_right → Ys, nodup_append → Yt, getElem?_replicate → Yu, mem_filter → Yv, foldl_cons → Yw, getElem?_eq_getElem → Yx, append_assoc → Yy, all_eq_true → Yz, length_append → Yaa, cons_append → Yab, filter_cons → Yac, length → Yad, mem_range → Yae, map_map → Yaf, any_eq_true → Yag, getElem?_eq_none → Yah, length_replicate → Yai, getElem?_append_left → Yaj, getElem?_set_ne → Yak, sum_cons → Yal, append_nil → Yam, getElem?_append_right → Yan, length_set → Yao, nodup_cons → Yap, getElem?_drop → Yaq, mem_mergeSort → Yar, pairwise_map → Yas, getLast?_concat → Yat, dropLast_concat → Yau, length_filter_le → Yav, filter_append → Yaw, getElem?_eq_none_iff → Yax, mem_reverse → Yay, getElem?_inj → Yaz, flatMap_cons → Yba, nil_append → Ybb, mem_flatMap → Ybc, getElem?_cons_succ → Ybd, nodup_nil → Ybe, dropLast_concat_getLast → Ybf, exists_mem_of_ne_nil → Ybg
open Nat renaming zero_add → Ybh, le_refl → Ybi, add_zero → Ybj, zero_le → Ybk
open Int renaming toNat_natCast → Ybl, le_refl → Ybm
section
namespace Go.SM
open Go.VL
def rowsX (l : List (List Int)) : V := .sl 1 none (l.map intsX)
def predE (k : Nat) (P : List (List Int)) (e : SEdge) : List (List Int) := P.set e.block.toNat ((P[e.block.toNat]?.getD []) ++ [(k : Int)])
def predB (k : Nat) (P : List (List Int)) (b : SBlock) : List (List Int) := b.term.to.foldl (predE k) P
def predL : Nat → List SBlock → List (List Int) → List (List Int)
 | _, [], P => P
 | k, b :: l, P => predL (k + 1) l (predB k P b)
def predsF (bs : List SBlock) : List (List Int) := predL 0 bs (Yj bs.length [])
theorem predE_len (k : Nat) (P : List (List Int)) (e : SEdge) : (predE k P e).length = P.length := by simp [predE]
theorem foldl_len {k : Nat} : ∀ (l : List SEdge) (P : List (List Int)), (l.foldl (predE k) P).length = P.length
 | [], P => rfl
 | e :: l, P => by rw [Yw, foldl_len l, predE_len]
theorem predL_len : ∀ (k : Nat) (l : List SBlock) (P : List (List Int)), (predL k l P).length = P.length
 | k, [], P => rfl
 | k, b :: l, P => by rw [predL, predL_len (k + 1) l, predB, foldl_len]
theorem predsF_len (bs : List SBlock) : (predsF bs).length = bs.length := by rw [predsF, predL_len, Yai]
def total (P : List (List Int)) : Nat := (P.map Yad).sum
def edgesN : List SBlock → Nat
 | [] => 0
 | b :: l => b.term.to.length + edgesN l
theorem total_set {P : List (List Int)} {t : Nat} {x : Int} (h : t < P.length) : total (P.set t ((P[t]?.getD []) ++ [x])) = total P + 1 := by
 have h1 : (P.map Yad)[t]? = some (P[t]?.getD []).length := by rw [Yh, Yx h]; rfl
 have := sum_set (y := ((P[t]?.getD []) ++ [x]).length) h1
 unfold total
 rw [List.map_set]
 rw [Yaa] at this ⊢
 simp at this ⊢
 omega
theorem total_set2 {P : List (List Int)} {t : Nat} {l : List Int} {x : Int} (h : P[t]? = some l) : total (P.set t (l ++ [x])) = total P + 1 := by
 have := total_set (x := x) (Yc.1 h).1
 rw [h] at this
 exact this
theorem total_edges {k : Nat} : ∀ {l : List SEdge} {P : List (List Int)}, (∀ e ∈ l, 1 ≤ e.block ∧ e.block < P.length) → total (l.foldl (predE k) P) = total P + l.length
 | [], P, _ => rfl
 | e :: l, P, h => by
  have he := h e (Ya ..)
  rw [Yw, total_edges (P := predE k P e) fun x hx => by rw [predE_len]; exact h x (Yb _ hx)]
  unfold predE
  rw [total_set (by omega), Yn]
  omega
theorem total_blocks : ∀ {l : List SBlock} {k : Nat} {P : List (List Int)}, (∀ b ∈ l, ∀ e ∈ b.term.to, 1 ≤ e.block ∧ e.block < P.length) → total (predL k l P) = total P + edgesN l
 | [], k, P, _ => rfl
 | b :: l, k, P, h => by
  rw [predL, total_blocks (k := k + 1) (P := predB k P b) fun c hc e he => by rw [predB, foldl_len]; exact h c (Yb _ hc) e he]
  rw [predB, total_edges (h b (Ya ..)), edgesN]
  omega
theorem total_zero (n : Nat) : total (Yj n []) = 0 := by simp [total]
theorem preds_total {bs : List SBlock} (h : ∀ b ∈ bs, ∀ e ∈ b.term.to, 1 ≤ e.block ∧ e.block < bs.length) : total (predsF bs) = edgesN bs := by
 rw [predsF, total_blocks (by rw [Yai]; exact h), total_zero, Ybh]
theorem total_take {P : List (List Int)} {k : Nat} {l : List Int} (h : P[k]? = some l) : total (P.take (k + 1)) = total (P.take k) + l.length := by
 rw [take_snoc h, total, total, Yl, List.sum_append]
 simp
theorem total_takele : ∀ (P : List (List Int)) (k : Nat), total (P.take k) ≤ total P
 | [], k => by simp
 | l :: P, 0 => by simp [total]
 | l :: P, k + 1 => by
  have := total_takele P k
  simp [total] at this ⊢
  omega
theorem edgesN_take {l : List SBlock} {k : Nat} {b : SBlock} (h : l[k]? = some b) : edgesN (l.take (k + 1)) = edgesN (l.take k) + b.term.to.length := by
 induction l generalizing k with
 | nil => simp at h
 | cons a l ih =>
  cases k with
  | zero => simp at h; subst h; simp [edgesN]
  | succ k => simp at h; have := ih h; simp [edgesN, this]; omega
theorem edgesN_takele : ∀ (l : List SBlock) (k : Nat), edgesN (l.take k) ≤ edgesN l
 | [], k => by simp
 | b :: l, 0 => by simp [edgesN]
 | b :: l, k + 1 => by
  have := edgesN_takele l k
  rw [List.take_succ_cons, edgesN, edgesN]
  omega
theorem edgesN_le : ∀ {l : List SBlock} {n : Nat}, (∀ b ∈ l, b.term.to.length ≤ n) → edgesN l ≤ n * l.length
 | [], n, _ => by simp [edgesN]
 | b :: l, n, h => by
  have := edgesN_le fun c hc => h c (Yb b hc)
  have := h b (Ya ..)
  rw [edgesN, Yn, Nat.mul_add]
  omega
theorem term_edges {f : SFunc} (h : FuncOk f) {b : SBlock} (hb : b ∈ f.blocks) : b.term.to.length ≤ 257 := by
 have he := endF_ok (h.block hb).2
 have hm := he.many
 have hs := he.shape
 unfold shapeF at hs
 repeat' split at hs
 all_goals first | (simp only [Bool.and_eq_true, decide_eq_true_eq] at hs; omega) | cases hs
theorem FuncOk.edges {f : SFunc} (h : FuncOk f) : ∀ b ∈ f.blocks, ∀ e ∈ b.term.to, 1 ≤ e.block ∧ e.block < f.blocks.length := blocks_edges h.blocks
theorem edges_small {f : SFunc} (h : FuncOk f) : edgesN f.blocks ≤ 32896 := by
 have := edgesN_le fun b hb => term_edges h (b := b) hb
 have := h.len
 omega
structure DState where
 seen : List Bool
 stack : List (Nat × Nat)
 out : List Nat
def toAt (bs : List SBlock) (b : Nat) : List SEdge := ((bs[b]?).map (·.term.to)).getD []
def Edge (bs : List SBlock) (p v : Nat) : Prop := ∃ x ∈ toAt bs p, x.block.toNat = v
def dfsStep (bs : List SBlock) (s : DState) : DState :=
 match s.stack with
 | [] => s
 | (b, e) :: st =>
  match (toAt bs b)[e]? with
  | none => ⟨s.seen, st, s.out ++ [b]⟩
  | some x => if s.seen[x.block.toNat]? = some false then ⟨s.seen.set x.block.toNat true, (x.block.toNat, 0) :: (b, e + 1) :: st, s.out⟩ else ⟨s.seen, (b, e + 1) :: st, s.out⟩
def dfsRun (bs : List SBlock) : Nat → DState → DState
 | 0, s => s
 | n + 1, s => if s.stack = [] then s else dfsRun bs n (dfsStep bs s)
def dfsStart (n : Nat) : DState := ⟨(Yj n false).set 0 true, [(0, 0)], []⟩
def postF (bs : List SBlock) : List Nat := (dfsRun bs (edgesN bs + bs.length) (dfsStart bs.length)).out
def orderF (bs : List SBlock) : List Nat := (postF bs).reverse
theorem toAt_get {bs : List SBlock} {k : Nat} {b : SBlock} (h : bs[k]? = some b) : toAt bs k = b.term.to := by rw [toAt, h]; rfl
def cost (bs : List SBlock) (k : Nat) : Nat := (toAt bs k).length + 1
def unseenW (bs : List SBlock) : Nat → List Bool → Nat
 | _, [] => 0
 | k, s :: l => (if s then 0 else cost bs k) + unseenW bs (k + 1) l
def stackW (bs : List SBlock) : List (Nat × Nat) → Nat
 | [] => 0
 | (b, e) :: st => (cost bs b - e) + stackW bs st
def dfsW (bs : List SBlock) (s : DState) : Nat := unseenW bs 0 s.seen + stackW bs s.stack
theorem unseen_set (bs : List SBlock) : ∀ (l : List Bool) (k n : Nat), l[n]? = some false → unseenW bs k (l.set n true) + cost bs (k + n) = unseenW bs k l
 | [], k, n, h => by simp at h
 | s :: l, k, 0, h => by
  simp at h
  subst h
  simp [unseenW]
  omega
 | s :: l, k, n + 1, h => by
  simp at h
  have := unseen_set bs l (k + 1) n h
  simp only [List.set_cons_succ, unseenW]
  rw [show k + (n + 1) = k + 1 + n by omega]
  omega
structure DfsInv0 (bs : List SBlock) (s : DState) : Prop where
 len : s.seen.length = bs.length
 stk : ∀ x ∈ s.stack, x.1 < bs.length ∧ x.2 ≤ (toAt bs x.1).length ∧ s.seen[x.1]? = some true
theorem step_w {bs : List SBlock} {s : DState} (h : DfsInv0 bs s) (hne : s.stack ≠ []) : dfsW bs (dfsStep bs s) + 1 = dfsW bs s := by
 unfold dfsStep
 split
 ·rename_i he; exact absurd he hne
 ·rename_i b e st hs
  have hb := h.stk (b, e) (by rw [hs]; exact Ya ..)
  dsimp only at hb
  split
  ·rename_i hn
   have : e = (toAt bs b).length := by
    have := Yax.1 hn
    omega
   unfold dfsW
   rw [hs]
   simp only [stackW, cost]
   omega
  ·rename_i x hx
   have hlt := (Yc.1 hx).1
   split
   ·rename_i hu
    have := unseen_set bs s.seen 0 _ hu
    unfold dfsW
    rw [hs]
    simp only [stackW]
    rw [Ybh] at this
    have hc : cost bs b = (toAt bs b).length + 1 := rfl
    omega
   ·unfold dfsW
    rw [hs]
    simp only [stackW, cost]
    omega
def StackOk (bs : List SBlock) : List (Nat × Nat) → Prop
 | [] => True
 | [x] => x.1 = 0
 | x :: y :: st => Edge bs y.1 x.1 ∧ StackOk bs (y :: st)
def seenB (s : DState) (v : Nat) : Prop := s.seen[v]? = some true
structure DfsInv (bs : List SBlock) (s : DState) : Prop extends DfsInv0 bs s where
 out : ∀ v ∈ s.out, v < bs.length ∧ seenB s v
 nodup : (s.stack.map (·.1) ++ s.out).Nodup
 cover : ∀ v, seenB s v → v ∈ s.stack.map (·.1) ∨ v ∈ s.out
 closedO : ∀ v ∈ s.out, ∀ x ∈ toAt bs v, seenB s x.block.toNat
 closedS : ∀ y ∈ s.stack, ∀ i x, i < y.2 → (toAt bs y.1)[i]? = some x → seenB s x.block.toNat
 chain : StackOk bs s.stack
 par : ∀ (i v : Nat), s.out[i]? = some v → v ≠ 0 → ∃ p, Edge bs p v ∧ (p ∈ s.stack.map (·.1) ∨ ∃ j, i < j ∧ s.out[j]? = some p)
 root : s.stack = [] → ∃ l, s.out = l ++ [0]
theorem StackOk.tail {bs : List SBlock} {x : Nat × Nat} : ∀ {st : List (Nat × Nat)}, StackOk bs (x :: st) → StackOk bs st
 | [], _ => trivial
 | y :: st, h => h.2
theorem StackOk.head {bs : List SBlock} {x y : Nat × Nat} (he : x.1 = y.1) : ∀ {st : List (Nat × Nat)}, StackOk bs (x :: st) → StackOk bs (y :: st)
 | [], h => by
  have h : x.1 = 0 := h
  show y.1 = 0
  rw [← he]
  exact h
 | z :: st, h => ⟨by rw [← he]; exact h.1, h.2⟩
theorem seen_mono {l : List Bool} {n v : Nat} (h : l[v]? = some true) : (l.set n true)[v]? = some true := by
 rw [Yp]
 split
 ·rename_i e; subst e; rw [if_pos (Yc.1 h).1]
 ·exact h
theorem step_inv {bs : List SBlock} {s : DState} (hE : ∀ b ∈ bs, ∀ e ∈ b.term.to, 1 ≤ e.block ∧ e.block < bs.length) (h : DfsInv bs s) : DfsInv bs (dfsStep bs s) := by
 unfold dfsStep
 split
 ·exact h
 ·rename_i b e st hs
  have hb := h.stk (b, e) (by rw [hs]; exact Ya ..)
  dsimp only at hb
  have hnd := h.nodup
  rw [hs] at hnd
  have hch := h.chain
  rw [hs] at hch
  split
  ·rename_i hn
   have hee : (toAt bs b).length ≤ e := Yax.1 hn
   refine ⟨⟨h.len, fun x hx => h.stk x (by rw [hs]; exact Yb _ hx)⟩, ?_, ?_, ?_, ?_, ?_, hch.tail, ?_, ?_⟩
   ·intro v hv
    rcases Yk.1 hv with hv | hv
    ·exact h.out v hv
    ·rw [Yg.1 hv]; exact ⟨hb.1, hb.2.2⟩
   ·dsimp only
    rw [← Yy]
    rw [Yr, Yab] at hnd
    have hp : ((b, e).1 :: (st.map (·.1) ++ s.out)).Perm (st.map (·.1) ++ s.out ++ [b]) := (List.perm_append_singleton _ _).symm
    exact hp.nodup_iff.1 hnd
   ·intro v hv
    rcases h.cover v hv with hv | hv
    ·rw [hs] at hv
     rcases Ye.1 hv with rfl | hv
     ·exact .inr (Ys _ (Yg.2 rfl))
     ·exact .inl hv
    ·exact .inr (Yq _ hv)
   ·intro v hv x hx
    rcases Yk.1 hv with hv | hv
    ·exact h.closedO v hv x hx
    ·have hvb := Yg.1 hv
     subst hvb
     obtain ⟨i, hi⟩ := Yo hx
     exact h.closedS (v, e) (by rw [hs]; exact Ya ..) i x (by have := (Yc.1 hi).1; show i < e; omega) hi
   ·exact fun y hy => h.closedS y (by rw [hs]; exact Yb _ hy)
   ·intro i v hi h0
    dsimp only at hi ⊢
    by_cases hlt : i < s.out.length
    ·rw [Yaj hlt] at hi
     obtain ⟨p, hp1, hp2⟩ := h.par i v hi h0
     refine ⟨p, hp1, ?_⟩
     rcases hp2 with hp2 | ⟨j, hj, hj2⟩
     ·rw [hs] at hp2
      rcases Ye.1 hp2 with rfl | hp2
      ·exact .inr ⟨s.out.length, hlt, by rw [Yan (Ybi _)]; simp⟩
      ·exact .inl hp2
     ·exact .inr ⟨j, hj, by rw [Yaj (Yc.1 hj2).1]; exact hj2⟩
    ·rw [Yan (by omega)] at hi
     have : i - s.out.length = 0 := by
      have := (Yc.1 hi).1
      simp at this
      omega
     rw [this] at hi
     simp at hi
     subst hi
     cases st with
     | nil => exact absurd hch h0
     | cons y st => exact ⟨y.1, hch.1, .inl (Yf.2 ⟨y, Ya .., rfl⟩)⟩
   ·intro hst
    dsimp only at hst
    subst hst
    have hb0 : b = 0 := hch
    exact ⟨s.out, by rw [hb0]⟩
  ·rename_i x hx
   have hlt := (Yc.1 hx).1
   have hxm := Yd hx
   have hxn : x.block.toNat < bs.length := by
    obtain ⟨bl, hbl⟩ : ∃ bl, bs[b]? = some bl := ⟨_, Yx hb.1⟩
    rw [toAt_get hbl] at hxm
    have := hE bl (Yd hbl) x hxm
    omega
   split
   ·rename_i hu
    have hns : ∀ v, seenB s v → v ≠ x.block.toNat := fun v hv e => by
     subst e
     unfold seenB at hv
     rw [hu] at hv
     cases hv
    have hnew : (s.seen.set x.block.toNat true)[x.block.toNat]? = some true := by rw [Yp, if_pos rfl, if_pos (by rw [h.len]; exact hxn)]
    refine ⟨⟨by rw [Yao]; exact h.len, ?_⟩, ?_, ?_, ?_, ?_, ?_, ?_, ?_, ?_⟩
    ·intro y hy
     rcases Ye.1 hy with rfl | hy
     ·exact ⟨hxn, Ybk _, hnew⟩
     ·rcases Ye.1 hy with rfl | hy
      ·exact ⟨hb.1, hlt, seen_mono hb.2.2⟩
      ·have := h.stk y (by rw [hs]; exact Yb _ hy)
       exact ⟨this.1, this.2.1, seen_mono this.2.2⟩
    ·exact fun v hv => ⟨(h.out v hv).1, seen_mono (h.out v hv).2⟩
    ·dsimp only
     rw [Yr, Yr, Yab]
     refine Yap.2 ⟨fun hm => ?_, hnd⟩
     have hsn : seenB s x.block.toNat := by
      rcases Yk.1 hm with hm | hm
      ·rcases Ye.1 hm with e1 | hm
       ·have e1 : x.block.toNat = b := e1
        rw [e1]; exact hb.2.2
       ·obtain ⟨y, hy, hy2⟩ := Yf.1 hm
        have hy2 : y.1 = x.block.toNat := hy2
        rw [← hy2]
        exact (h.stk y (by rw [hs]; exact Yb _ hy)).2.2
      ·exact (h.out _ hm).2
     exact hns _ hsn rfl
    ·intro v hv
     unfold seenB at hv
     dsimp only at hv ⊢
     by_cases hvx : v = x.block.toNat
     ·subst hvx; exact .inl (Ya ..)
     ·rw [Yak (Ne.symm hvx)] at hv
      rcases h.cover v hv with hc | hc
      ·rw [hs] at hc
       exact .inl (Yb _ hc)
      ·exact .inr hc
    ·exact fun v hv y hy => seen_mono (h.closedO v hv y hy)
    ·intro y hy i z hi hz
     rcases Ye.1 hy with rfl | hy
     ·exact absurd hi (Nat.not_lt_zero _)
     ·rcases Ye.1 hy with rfl | hy
      ·dsimp only at hi hz
       by_cases hie : i = e
       ·subst hie
        rw [hx] at hz
        injection hz with hz
        subst hz
        exact hnew
       ·exact seen_mono (h.closedS (b, e) (by rw [hs]; exact Ya ..) i z (by show i < e; omega) hz)
      ·exact seen_mono (h.closedS y (by rw [hs]; exact Yb _ hy) i z hi hz)
    ·exact ⟨⟨x, hxm, rfl⟩, StackOk.head (x := (b, e)) (y := (b, e + 1)) rfl hch⟩
    ·intro i v hi h0
     obtain ⟨p, hp1, hp2⟩ := h.par i v hi h0
     refine ⟨p, hp1, hp2.imp (fun hp2 => ?_) id⟩
     rw [hs] at hp2
     exact Yb _ hp2
    ·intro hst; cases hst
   ·rename_i hu
    have hsx : seenB s x.block.toNat := by
     unfold seenB
     cases hv : s.seen[x.block.toNat]? with
     | none =>
      have := Yax.1 hv
      rw [h.len] at this
      omega
     | some v =>
      cases v with
      | true => rfl
      | false => exact absurd hv hu
    refine ⟨⟨h.len, ?_⟩, h.out, ?_, ?_, h.closedO, ?_, ?_, ?_, ?_⟩
    ·intro y hy
     rcases Ye.1 hy with rfl | hy
     ·exact ⟨hb.1, hlt, hb.2.2⟩
     ·exact h.stk y (by rw [hs]; exact Yb _ hy)
    ·exact hnd
    ·intro v hv
     rcases h.cover v hv with hc | hc
     ·rw [hs] at hc; exact .inl hc
     ·exact .inr hc
    ·intro y hy i z hi hz
     rcases Ye.1 hy with rfl | hy
     ·dsimp only at hi hz
      by_cases hie : i = e
      ·subst hie
       rw [hx] at hz
       injection hz with hz
       subst hz
       exact hsx
      ·exact h.closedS (b, e) (by rw [hs]; exact Ya ..) i z (by show i < e; omega) hz
     ·exact h.closedS y (by rw [hs]; exact Yb _ hy) i z hi hz
    ·exact StackOk.head (x := (b, e)) (y := (b, e + 1)) rfl hch
    ·intro i v hi h0
     obtain ⟨p, hp1, hp2⟩ := h.par i v hi h0
     refine ⟨p, hp1, hp2.imp (fun hp2 => ?_) id⟩
     rw [hs] at hp2
     exact hp2
    ·intro hst; cases hst
theorem nodup_lt {l : List Nat} {n : Nat} (h : l.Nodup) (hr : ∀ v ∈ l, v < n) : l.length ≤ n := by
 have := h.length_le_of_subset (l₂ := Ym n) fun v hv => Yae.2 (hr v hv)
 simpa using this
theorem dfs_small {bs : List SBlock} {s : DState} (h : DfsInv bs s) : s.stack.length ≤ bs.length ∧ s.out.length ≤ bs.length := by
 have h1 := (Yt.1 h.nodup).1
 have h2 := (Yt.1 h.nodup).2.1
 have := nodup_lt h1 (n := bs.length) fun v hv => by
  obtain ⟨x, hx, rfl⟩ := Yf.1 hv
  exact (h.stk x hx).1
 exact ⟨by simpa using this, nodup_lt h2 fun v hv => (h.out v hv).1⟩
theorem start_inv {bs : List SBlock} (h0 : 0 < bs.length) : DfsInv bs (dfsStart bs.length) := by
 have hs : (dfsStart bs.length).seen[0]? = some true := by
  show ((Yj bs.length false).set 0 true)[0]? = some true
  rw [Yp, if_pos rfl, if_pos (by simpa using h0)]
 refine ⟨⟨by simp [dfsStart], fun x hx => ?_⟩, fun v hv => (by cases hv), by simp [dfsStart], fun v hv => ?_, fun v hv => (by cases hv), fun y hy i x hi => ?_, rfl, fun i v hi => (by simp [dfsStart] at hi), fun h => (by cases h)⟩
 ·have hx := Yg.1 hx
  subst hx
  exact ⟨h0, Ybk _, hs⟩
 ·by_cases hv0 : v = 0
  ·subst hv0; exact .inl (Ya ..)
  ·unfold seenB at hv
   have : ((Yj bs.length false).set 0 true)[v]? = some true := hv
   rw [Yak (Ne.symm hv0), Yu] at this
   split at this <;> cases this
 ·have hy := Yg.1 hy
  subst hy
  exact absurd hi (Nat.not_lt_zero _)
theorem run_inv {bs : List SBlock} (hE : ∀ b ∈ bs, ∀ e ∈ b.term.to, 1 ≤ e.block ∧ e.block < bs.length) : ∀ (n : Nat) (s : DState), DfsInv bs s → dfsW bs s ≤ n → DfsInv bs (dfsRun bs n s) ∧ (dfsRun bs n s).stack = []
 | 0, s, h, hw => by
  refine ⟨h, ?_⟩
  show s.stack = []
  cases hs : s.stack with
  | nil => rfl
  | cons x st =>
   have hb := h.stk x (by rw [hs]; exact Ya ..)
   unfold dfsW at hw
   rw [hs] at hw
   obtain ⟨b, e⟩ := x
   simp only [stackW, cost] at hw
   dsimp only at hb
   omega
 | n + 1, s, h, hw => by
  rw [dfsRun]
  split
  ·rename_i he; exact ⟨h, he⟩
  ·rename_i hne
   have := step_w h.toDfsInv0 hne
   exact run_inv hE n _ (step_inv hE h) (by omega)
theorem unseen_start (bs : List SBlock) : ∀ (l : List SBlock) (k : Nat), (∀ i b, l[i]? = some b → bs[k + i]? = some b) → unseenW bs k (Yj l.length false) = edgesN l + l.length
 | [], k, _ => rfl
 | b :: l, k, h => by
  have h1 := unseen_start bs l (k + 1) fun i b hb => by
   have := h (i + 1) b (by simpa using hb)
   rwa [show k + (i + 1) = k + 1 + i by omega] at this
  have h2 := h 0 b rfl
  rw [Ybj] at h2
  rw [Yn, List.replicate_succ, unseenW, h1, edgesN, cost, toAt_get h2]
  simp
  omega
theorem start_weight {bs : List SBlock} (h0 : 0 < bs.length) : dfsW bs (dfsStart bs.length) = edgesN bs + bs.length := by
 have h1 := unseen_start bs bs 0 fun i b hb => by rw [Ybh]; exact hb
 have h2 := unseen_set bs (Yj bs.length false) 0 0 (by rw [Yu, if_pos h0])
 unfold dfsW dfsStart
 simp only [stackW]
 rw [Ybh] at h2
 omega
structure OrderOk (bs : List SBlock) (l : List Nat) : Prop where
 nodup : l.Nodup
 lt : ∀ v ∈ l, v < bs.length
 zero : l[0]? = some 0
 closed : ∀ v ∈ l, ∀ w, Edge bs v w → w ∈ l
 par : ∀ (j v : Nat), l[j]? = some v → v ≠ 0 → ∃ i p, i < j ∧ l[i]? = some p ∧ Edge bs p v
theorem order_ok {bs : List SBlock} (h0 : 0 < bs.length) (hE : ∀ b ∈ bs, ∀ e ∈ b.term.to, 1 ≤ e.block ∧ e.block < bs.length) : OrderOk bs (orderF bs) := by
 obtain ⟨h, hst⟩ := run_inv hE (edgesN bs + bs.length) _ (start_inv h0) (by rw [start_weight h0]; exact Ybi _)
 have hpo : postF bs = (dfsRun bs (edgesN bs + bs.length) (dfsStart bs.length)).out := rfl
 unfold orderF
 rw [hpo]
 generalize dfsRun bs (edgesN bs + bs.length) (dfsStart bs.length) = s at *
 have hn := h.nodup
 have hcov := h.cover
 rw [hst] at hn hcov
 refine ⟨(List.reverse_perm _).nodup_iff.2 (by simpa using hn), fun v hv => (h.out v (Yay.1 hv)).1, ?_, ?_, ?_⟩
 ·obtain ⟨l, hl⟩ := h.root hst
  rw [hl]
  simp
 ·rintro v hv w ⟨x, hx, rfl⟩
  have := h.closedO v (Yay.1 hv) x hx
  rcases hcov _ this with hc | hc
  ·cases hc
  ·exact Yay.2 hc
 ·intro j v hj h0
  have hjl := (Yc.1 hj).1
  rw [List.length_reverse] at hjl
  rw [List.getElem?_reverse hjl] at hj
  obtain ⟨p, hp, hp2⟩ := h.par _ v hj h0
  rcases hp2 with hp2 | ⟨i, hi, hi2⟩
  ·rw [hst] at hp2; cases hp2
  ·have hil := (Yc.1 hi2).1
   refine ⟨s.out.length - 1 - i, p, by omega, ?_, hp⟩
   rw [List.getElem?_reverse (by omega)]
   rw [show s.out.length - 1 - (s.out.length - 1 - i) = i by omega]
   exact hi2
theorem post_len {bs : List SBlock} (h0 : 0 < bs.length) (hE : ∀ b ∈ bs, ∀ e ∈ b.term.to, 1 ≤ e.block ∧ e.block < bs.length) : (postF bs).length ≤ bs.length := by
 have h := order_ok h0 hE
 have := nodup_lt h.nodup h.lt
 rw [orderF, List.length_reverse] at this
 exact this
theorem predE_mem {k : Nat} {P : List (List Int)} {e : SEdge} {t : Nat} (he : e.block.toNat < P.length) {x : Int} : x ∈ ((predE k P e)[t]?.getD []) ↔ x ∈ (P[t]?.getD []) ∨ (x = k ∧ e.block.toNat = t) := by
 unfold predE
 rw [Yp]
 by_cases h : e.block.toNat = t
 ·subst h
  rw [if_pos rfl, if_pos he]
  simp
 ·rw [if_neg h]
  simp [h]
theorem foldl_mem {k : Nat} {t : Nat} {x : Int} : ∀ {l : List SEdge} {P : List (List Int)}, (∀ e ∈ l, e.block.toNat < P.length) → (x ∈ ((l.foldl (predE k) P)[t]?.getD []) ↔ x ∈ (P[t]?.getD []) ∨ (x = k ∧ ∃ e ∈ l, e.block.toNat = t))
 | [], P, _ => by simp
 | e :: l, P, h => by
  rw [Yw, foldl_mem (P := predE k P e) fun y hy => by rw [predE_len]; exact h y (Yb _ hy), predE_mem (h e (Ya ..))]
  constructor
  ·rintro ((h1 | ⟨h1, h2⟩) | ⟨h1, y, hy, h2⟩)
   ·exact .inl h1
   ·exact .inr ⟨h1, e, Ya .., h2⟩
   ·exact .inr ⟨h1, y, Yb _ hy, h2⟩
  ·rintro (h1 | ⟨h1, y, hy, h2⟩)
   ·exact .inl (.inl h1)
   ·rcases Ye.1 hy with rfl | hy
    ·exact .inl (.inr ⟨h1, h2⟩)
    ·exact .inr ⟨h1, y, hy, h2⟩
theorem predL_mem {t : Nat} {x : Int} : ∀ {l : List SBlock} {k : Nat} {P : List (List Int)}, (∀ b ∈ l, ∀ e ∈ b.term.to, e.block.toNat < P.length) →
  (x ∈ ((predL k l P)[t]?.getD []) ↔ x ∈ (P[t]?.getD []) ∨ ∃ (i : Nat) (b : SBlock), l[i]? = some b ∧ x = ((k + i : Nat) : Int) ∧ ∃ e ∈ b.term.to, e.block.toNat = t)
 | [], k, P, _ => by simp [predL]
 | b :: l, k, P, h => by
  have hb := h b (Ya ..)
  rw [predL, predL_mem (k := k + 1) (P := predB k P b) fun c hc e he => by rw [predB, foldl_len]; exact h c (Yb _ hc) e he]
  rw [predB, foldl_mem hb]
  constructor
  ·rintro ((h1 | ⟨h1, h2⟩) | ⟨i, c, hc, h1, h2⟩)
   ·exact .inl h1
   ·exact .inr ⟨0, b, rfl, h1, h2⟩
   ·exact .inr ⟨i + 1, c, by simpa using hc, by rw [h1]; congr 1; omega, h2⟩
  ·rintro (h1 | ⟨i, c, hc, h1, h2⟩)
   ·exact .inl (.inl h1)
   ·cases i with
    | zero =>
     simp at hc
     subst hc
     exact .inl (.inr ⟨h1, h2⟩)
    | succ i => exact .inr ⟨i, c, by simpa using hc, by rw [h1]; congr 1; omega, h2⟩
theorem preds_mem {bs : List SBlock} (hE : ∀ b ∈ bs, ∀ e ∈ b.term.to, 1 ≤ e.block ∧ e.block < bs.length) {t : Nat} {x : Int} : x ∈ ((predsF bs)[t]?.getD []) ↔ ∃ p : Nat, x = p ∧ Edge bs p t := by
 rw [predsF, predL_mem fun b hb e he => by have := hE b hb e he; rw [Yai]; omega]
 constructor
 ·rintro (h | ⟨i, b, hb, h1, e, he, h2⟩)
  ·rw [Yu] at h
   split at h <;> simp at h
  ·exact ⟨i, by rw [h1]; congr 1; omega, e, by rw [toAt_get hb]; exact he, h2⟩
 ·rintro ⟨p, rfl, e, he, h2⟩
  right
  unfold toAt at he
  cases hb : bs[p]? with
  | none => rw [hb] at he; cases he
  | some b => rw [hb] at he; exact ⟨p, b, hb, by congr 1; omega, e, he, h2⟩
def gI (l : List Int) (i : Int) : Int := l[i.toNat]?.getD 0
def meetF (ov pl : List Int) : Nat → Int → Int → Int
 | 0, a, _ => a
 | n + 1, a, b => if a = b then a else if gI pl a > gI pl b then meetF ov pl n (gI ov a) b else meetF ov pl n a (gI ov b)
def skipP (ov pl : List Int) (p : Int) : Bool := decide (gI pl p < 0) || (decide (p ≠ 0) && decide (gI ov p < 0))
def nextL (ov pl : List Int) (m : Nat) : Int → List Int → Int
 | cur, [] => cur
 | cur, p :: ps => nextL ov pl m (if skipP ov pl p then cur else if cur < 0 then p else meetF ov pl m cur p) ps
def placeF (ord : List Int) (n : Nat) : List Int := (Ym n).map fun k : Nat => idxOf (fun x => decide ((k : Int) = x)) ord
structure TState where
 ov : List Int
 again : Bool
def treeNode (bs : List SBlock) (pl : List Int) (s : TState) (k : Int) : TState :=
 let nx := nextL s.ov pl (2 * bs.length + 1) (-1) ((predsF bs)[k.toNat]?.getD [])
 if nx ≠ gI s.ov k then ⟨s.ov.set k.toNat nx, true⟩ else s
def treePass (bs : List SBlock) (pl : List Int) : List Int → TState → TState
 | [], s => s
 | k :: l, s => treePass bs pl l (treeNode bs pl s k)
def treeIter (bs : List SBlock) (pl : List Int) (ord : List Int) : Nat → TState → TState
 | 0, s => s
 | n + 1, s => if s.again then treeIter bs pl ord n (treePass bs pl (ord.drop 1) ⟨s.ov, false⟩) else s
def ordZ (bs : List SBlock) : List Int := (orderF bs).map fun k : Nat => (k : Int)
def placeZ (bs : List SBlock) : List Int := placeF (ordZ bs) bs.length
def treeF (bs : List SBlock) : List Int := (treeIter bs (placeZ bs) (ordZ bs) (bs.length * bs.length + 2) ⟨Yj bs.length (-1), true⟩).ov
theorem place_len (bs : List SBlock) : (placeZ bs).length = bs.length := by simp [placeZ, placeF]
theorem idx_nat {l : List Nat} {v : Nat} : idxOf (fun x => decide ((v : Int) = x)) (l.map fun k : Nat => (k : Int)) = -1 ∧ v ∉ l ∨ ∃ i, idxOf (fun x => decide ((v : Int) = x)) (l.map fun k : Nat => (k : Int)) = (i : Nat) ∧ l[i]? = some v := by
 rcases idxOf_range (fun x => decide ((v : Int) = x)) (l.map fun k : Nat => (k : Int)) with ⟨h1, h2⟩ | ⟨i, x, h1, h2, h3, _⟩
 ·refine .inl ⟨h1, fun hm => ?_⟩
  rw [List.any_eq_false] at h2
  exact h2 (v : Int) (Yf.2 ⟨v, hm, rfl⟩) (by simp)
 ·refine .inr ⟨i, h1, ?_⟩
  rw [Yh] at h2
  obtain ⟨w, hw, rfl⟩ := Option.map_eq_some_iff.1 h2
  rw [hw]
  have : (v : Int) = (w : Int) := by simpa using h3
  congr 1
  omega
theorem place_get {bs : List SBlock} {v : Nat} (hv : v < bs.length) : gI (placeZ bs) v = -1 ∧ v ∉ orderF bs ∨ ∃ i, gI (placeZ bs) v = (i : Nat) ∧ (orderF bs)[i]? = some v := by
 have : gI (placeZ bs) v = idxOf (fun x => decide ((v : Int) = x)) (ordZ bs) := by
  unfold gI placeZ placeF
  rw [Ybl, Yh, List.getElem?_range hv]
  rfl
 rw [this]
 exact idx_nat
def pos (bs : List SBlock) (v : Nat) : Nat := (gI (placeZ bs) v).toNat
section
variable {bs : List SBlock} (ho : OrderOk bs (orderF bs))
include ho
theorem place_of {v : Nat} (hv : v ∈ orderF bs) : gI (placeZ bs) v = (pos bs v : Nat) ∧ (orderF bs)[pos bs v]? = some v := by
 rcases place_get (ho.lt v hv) with ⟨_, h⟩ | ⟨i, h1, h2⟩
 ·exact absurd hv h
 ·unfold pos
  rw [h1, Ybl]
  exact ⟨rfl, h2⟩
theorem pos_of_get {v i : Nat} (h : (orderF bs)[i]? = some v) : pos bs v = i := by
 have := (place_of ho (Yd h)).2
 exact (Yaz (Yc.1 this).1 ho.nodup).1 (this.trans h.symm)
theorem pos_inj {v w : Nat} (hv : v ∈ orderF bs) (hw : w ∈ orderF bs) (h : pos bs v = pos bs w) : v = w := by
 have h1 := (place_of ho hv).2
 have h2 := (place_of ho hw).2
 rw [h, h2] at h1
 injection h1 with h1
 exact h1.symm
theorem pos_zero : pos bs 0 = 0 := pos_of_get ho ho.zero
theorem pos_lt {v : Nat} (hv : v ∈ orderF bs) : pos bs v < bs.length := by
 have := (Yc.1 (place_of ho hv).2).1
 have := nodup_lt ho.nodup ho.lt
 omega
theorem zero_mem : 0 ∈ orderF bs := Yd ho.zero
theorem par_of {v : Nat} (hv : v ∈ orderF bs) (h0 : v ≠ 0) : ∃ p, p ∈ orderF bs ∧ pos bs p < pos bs v ∧ Edge bs p v := by
 obtain ⟨i, p, hi, hp, he⟩ := ho.par _ v (place_of ho hv).2 h0
 exact ⟨p, Yd hp, by rw [pos_of_get ho hp]; exact hi, he⟩
open Classical in
omit ho in
noncomputable def pi (bs : List SBlock) (v : Nat) : Nat := if h : ∃ p, p ∈ orderF bs ∧ pos bs p < pos bs v ∧ Edge bs p v then Classical.choose h else 0
theorem pi_spec {v : Nat} (hv : v ∈ orderF bs) (h0 : v ≠ 0) : pi bs v ∈ orderF bs ∧ pos bs (pi bs v) < pos bs v ∧ Edge bs (pi bs v) v := by
 have h := par_of ho hv h0
 unfold pi
 rw [dif_pos h]
 exact Classical.choose_spec h
end
inductive Anc (ov : List Int) : Nat → Nat → Prop where
 | refl (a : Nat) : Anc ov a a
 | step {a q x : Nat} : ov[a]? = some (q : Int) → Anc ov q x → Anc ov a x
inductive AncP (bs : List SBlock) : Nat → Nat → Prop where
 | refl (a : Nat) : AncP bs a a
 | step {a x : Nat} : a ≠ 0 → AncP bs (pi bs a) x → AncP bs a x
theorem Anc.trans {ov : List Int} {a b c : Nat} (h : Anc ov a b) (k : Anc ov b c) : Anc ov a c := by
 induction h with
 | refl => exact k
 | step h _ ih => exact .step h (ih k)
structure Tree (bs : List SBlock) (ov : List Int) : Prop where
 len : ov.length = bs.length
 root : ov[0]? = some (-1)
 out : ∀ v, v < bs.length → v ∉ orderF bs → ov[v]? = some (-1)
 up : ∀ (v : Nat) (x : Int), v ∈ orderF bs → v ≠ 0 → ov[v]? = some x → 0 ≤ x → ∃ q : Nat, x = q ∧ q ∈ orderF bs ∧ pos bs q < pos bs v ∧ (q = 0 ∨ ∃ y : Int, ov[q]? = some y ∧ 0 ≤ y)
 low : ∀ (v : Nat) (x : Int), ov[v]? = some x → x < 0 → x = -1
def InT (bs : List SBlock) (ov : List Int) (v : Nat) : Prop := v ∈ orderF bs ∧ (v = 0 ∨ ∃ x : Int, ov[v]? = some x ∧ 0 ≤ x)
section
variable {bs : List SBlock} (ho : OrderOk bs (orderF bs)) {ov : List Int}
include ho
theorem Tree.parent (h : Tree bs ov) {v : Nat} (hv : InT bs ov v) (h0 : v ≠ 0) : ∃ q : Nat, ov[v]? = some (q : Int) ∧ InT bs ov q ∧ pos bs q < pos bs v := by
 obtain ⟨hm, hv⟩ := hv
 rcases hv with hv | ⟨x, hx, hx0⟩
 ·exact absurd hv h0
 ·obtain ⟨q, rfl, h1, h2, h3⟩ := h.up v x hm h0 hx hx0
  exact ⟨q, hx, ⟨h1, h3⟩, h2⟩
theorem Tree.anc (h : Tree bs ov) {v x : Nat} (hv : InT bs ov v) (ha : Anc ov v x) : InT bs ov x ∧ pos bs x ≤ pos bs v ∧ (x ≠ v → pos bs x < pos bs v) := by
 induction ha with
 | refl a => exact ⟨hv, Ybi _, fun h => absurd rfl h⟩
 | @step a q x hq _ ih =>
  by_cases h0 : a = 0
  ·subst h0
   rw [h.root] at hq
   injection hq with hq
   omega
  ·obtain ⟨q', hq', hi, hp⟩ := h.parent ho hv h0
   rw [hq] at hq'
   injection hq' with hq'
   have : q = q' := by omega
   subst this
   have := ih hi
   exact ⟨this.1, by omega, fun _ => by omega⟩
theorem Tree.zero (h : Tree bs ov) {x : Nat} (ha : Anc ov 0 x) : x = 0 := by
 cases ha with
 | refl => rfl
 | step hq _ =>
  rw [h.root] at hq
  injection hq with hq
  omega
theorem Tree.cases (h : Tree bs ov) {v q x : Nat} (hq : ov[v]? = some (q : Int)) (ha : Anc ov v x) : x = v ∨ Anc ov q x := by
 cases ha with
 | refl => exact .inl rfl
 | @step _ q' _ hq' k =>
  rw [hq] at hq'
  injection hq' with hq'
  have : q = q' := by omega
  subst this
  exact .inr k
theorem Tree.chain (h : Tree bs ov) {v x y : Nat} (hv : InT bs ov v) (hx : Anc ov v x) (hy : Anc ov v y) (hp : pos bs x ≤ pos bs y) : Anc ov y x := by
 induction hx with
 | refl a =>
  have := h.anc ho hv hy
  have : pos bs y = pos bs a := by omega
  rw [pos_inj ho (h.anc ho hv hy).1.1 hv.1 this]
  exact .refl _
 | @step a q x hq ha ih =>
  by_cases h0 : a = 0
  ·subst h0
   rw [h.root] at hq
   injection hq with hq
   omega
  ·obtain ⟨q', hq', hi, _⟩ := h.parent ho hv h0
   rw [hq] at hq'
   injection hq' with hq'
   have : q = q' := by omega
   subst this
   rcases h.cases ho hq hy with rfl | hy
   ·exact .step hq ha
   ·exact ih hi hy hp
theorem ancP_mem {v x : Nat} (hv : v ∈ orderF bs) (ha : AncP bs v x) : x ∈ orderF bs ∧ pos bs x ≤ pos bs v := by
 induction ha with
 | refl a => exact ⟨hv, Ybi _⟩
 | step h0 _ ih =>
  have hp := pi_spec ho hv h0
  have := ih hp.1
  exact ⟨this.1, by omega⟩
theorem gI_get {l : List Int} {v : Nat} {x : Int} (h : l[v]? = some x) : gI l v = x := by rw [gI, Ybl, h]; rfl
theorem meet_ok (h : Tree bs ov) : ∀ (n : Nat) (a b : Nat), InT bs ov a → InT bs ov b → pos bs a + pos bs b + 1 ≤ n →
  ∃ c : Nat, meetF ov (placeZ bs) n a b = c ∧ InT bs ov c ∧ Anc ov a c ∧ Anc ov b c ∧ ∀ x, Anc ov a x → Anc ov b x → Anc ov c x
 | 0, a, b, _, _, hn => by omega
 | n + 1, a, b, ha, hb, hn => by
  rw [meetF]
  by_cases hab : a = b
  ·subst hab
   rw [if_pos rfl]
   exact ⟨a, rfl, ha, .refl _, .refl _, fun x hx _ => hx⟩
  ·rw [if_neg (by omega)]
   have hpa := (place_of ho ha.1).1
   have hpb := (place_of ho hb.1).1
   rw [hpa, hpb]
   have hne : pos bs a ≠ pos bs b := fun e => hab (pos_inj ho ha.1 hb.1 e)
   by_cases hlt : (pos bs a : Int) > (pos bs b : Int)
   ·rw [if_pos hlt]
    have h0 : a ≠ 0 := fun e => by subst e; rw [pos_zero ho] at hlt; omega
    obtain ⟨q, hq, hi, hp⟩ := h.parent ho ha h0
    rw [gI_get ho hq]
    obtain ⟨c, e, hc, h1, h2, h3⟩ := meet_ok h n q b hi hb (by omega)
    refine ⟨c, e, hc, .step hq h1, h2, fun x hx hy => ?_⟩
    rcases h.cases ho hq hx with rfl | hx
    ·have := (h.anc ho hb hy).2.1
     omega
    ·exact h3 x hx hy
   ·rw [if_neg hlt]
    have h0 : b ≠ 0 := fun e => by subst e; rw [pos_zero ho] at hlt hne; omega
    obtain ⟨q, hq, hi, hp⟩ := h.parent ho hb h0
    rw [gI_get ho hq]
    obtain ⟨c, e, hc, h1, h2, h3⟩ := meet_ok h n a q ha hi (by omega)
    refine ⟨c, e, hc, h1, .step hq h2, fun x hx hy => ?_⟩
    rcases h.cases ho hq hy with rfl | hy
    ·have := (h.anc ho ha hx).2.1
     omega
    ·exact h3 x hx hy
theorem InT.fuel {v : Nat} (h : InT bs ov v) : pos bs v < bs.length := pos_lt ho h.1
theorem skip_iff {p : Nat} (h : Tree bs ov) (hp : p < bs.length) : skipP ov (placeZ bs) p = false ↔ InT bs ov p := by
 unfold skipP
 rw [Bool.or_eq_false_iff, decide_eq_false_iff_not, Bool.and_eq_false_iff, decide_eq_false_iff_not, decide_eq_false_iff_not]
 obtain ⟨x, hx⟩ : ∃ x, ov[p]? = some x := ⟨_, Yx (by rw [h.len]; exact hp)⟩
 rw [gI_get ho hx]
 rcases place_get hp with ⟨h1, h2⟩ | ⟨i, h1, h2⟩
 ·rw [h1]
  constructor
  ·intro h3; omega
  ·intro h3; exact absurd h3.1 h2
 ·rw [h1]
  constructor
  ·rintro ⟨_, h3⟩
   refine ⟨Yd h2, ?_⟩
   rcases h3 with h3 | h3
   ·left; omega
   ·exact .inr ⟨x, hx, by omega⟩
  ·rintro ⟨_, h3⟩
   refine ⟨by omega, ?_⟩
   rcases h3 with h3 | ⟨y, hy, h4⟩
   ·left; omega
   ·rw [hx] at hy
    injection hy with hy
    right; omega
theorem next_ok (h : Tree bs ov) : ∀ (ps : List Int) (cur : Int) (Q : List Nat), (∀ p ∈ ps, ∃ k : Nat, p = k ∧ k < bs.length) →
  (cur = -1 ∧ Q = [] ∨ ∃ c : Nat, cur = c ∧ InT bs ov c ∧ Q ≠ [] ∧ (∀ p ∈ Q, Anc ov p c) ∧ ∀ x, (∀ p ∈ Q, Anc ov p x) → Anc ov c x) →
  ∃ Q' : List Nat, (∀ p : Nat, p ∈ Q' ↔ p ∈ Q ∨ ((p : Int) ∈ ps ∧ InT bs ov p)) ∧ (nextL ov (placeZ bs) (2 * bs.length + 1) cur ps = -1 ∧ Q' = [] ∨ ∃ c : Nat, nextL ov (placeZ bs) (2 * bs.length + 1) cur ps = c ∧ InT bs ov c ∧ Q' ≠ [] ∧ (∀ p ∈ Q', Anc ov p c) ∧ ∀ x, (∀ p ∈ Q', Anc ov p x) → Anc ov c x)
 | [], cur, Q, _, hc => ⟨Q, fun p => by simp, hc⟩
 | p :: ps, cur, Q, hps, hc => by
  obtain ⟨k, rfl, hk⟩ := hps p (Ya ..)
  have hps' := fun q hq => hps q (Yb _ hq)
  rw [nextL]
  cases hs : skipP ov (placeZ bs) (k : Int) with
  | true =>
   rw [if_pos rfl]
   obtain ⟨Q', h1, h2⟩ := next_ok h ps cur Q hps' hc
   refine ⟨Q', fun q => ?_, h2⟩
   rw [h1 q]
   constructor
   ·rintro (h3 | ⟨h3, h4⟩)
    ·exact .inl h3
    ·exact .inr ⟨Yb _ h3, h4⟩
   ·rintro (h3 | ⟨h3, h4⟩)
    ·exact .inl h3
    ·rcases Ye.1 h3 with h3 | h3
     ·have : q = k := by omega
      subst this
      rw [(skip_iff ho h hk).2 h4] at hs
      cases hs
     ·exact .inr ⟨h3, h4⟩
  | false =>
   rw [if_neg (by decide)]
   have hi := (skip_iff ho h hk).1 hs
   have key : ∀ cur' : Int, (∃ c : Nat, cur' = c ∧ InT bs ov c ∧ (∀ p ∈ k :: Q, Anc ov p c) ∧ ∀ x, (∀ p ∈ k :: Q, Anc ov p x) → Anc ov c x) → ∃ Q' : List Nat, (∀ p : Nat, p ∈ Q' ↔ p ∈ Q ∨ ((p : Int) ∈ (k : Int) :: ps ∧ InT bs ov p)) ∧ (nextL ov (placeZ bs) (2 * bs.length + 1) cur' ps = -1 ∧ Q' = [] ∨ ∃ c : Nat, nextL ov (placeZ bs) (2 * bs.length + 1) cur' ps = c ∧ InT bs ov c ∧ Q' ≠ [] ∧ (∀ p ∈ Q', Anc ov p c) ∧ ∀ x, (∀ p ∈ Q', Anc ov p x) → Anc ov c x) := fun cur' ⟨c, e, h1, h2, h3⟩ => by
    obtain ⟨Q', g1, g2⟩ := next_ok h ps cur' (k :: Q) hps' (.inr ⟨c, e, h1, by simp, h2, h3⟩)
    refine ⟨Q', fun q => ?_, g2⟩
    rw [g1 q]
    constructor
    ·rintro (h4 | ⟨h4, h5⟩)
     ·rcases Ye.1 h4 with rfl | h4
      ·exact .inr ⟨Ya .., hi⟩
      ·exact .inl h4
     ·exact .inr ⟨Yb _ h4, h5⟩
    ·rintro (h4 | ⟨h4, h5⟩)
     ·exact .inl (Yb _ h4)
     ·rcases Ye.1 h4 with h4 | h4
      ·have : q = k := by omega
       subst this
       exact .inl (Ya ..)
      ·exact .inr ⟨h4, h5⟩
   rcases hc with ⟨rfl, rfl⟩ | ⟨c, rfl, hci, hQ, h1, h2⟩
   ·rw [if_pos (by decide)]
    refine key _ ⟨k, rfl, hi, fun p hp => ?_, fun x hx => hx k (Ya ..)⟩
    rw [Yg.1 hp]
    exact .refl _
   ·rw [if_neg (by omega)]
    have hf1 := InT.fuel ho hci
    have hf2 := InT.fuel ho hi
    obtain ⟨d, e, hd, g1, g2, g3⟩ := meet_ok ho h (2 * bs.length + 1) c k hci hi (by omega)
    refine key _ ⟨d, e, hd, fun p hp => ?_, fun x hx => ?_⟩
    ·rcases Ye.1 hp with rfl | hp
     ·exact g2
     ·exact (h1 p hp).trans g1
    ·exact g3 x (h2 x fun p hp => hx p (Yb _ hp)) (hx k (Ya ..))
end
structure TInv (bs : List SBlock) (ov : List Int) (i : Nat) : Prop where
 tree : Tree bs ov
 done : ∀ (j v : Nat), j < i → (orderF bs)[j]? = some v → InT bs ov v
 down : ∀ (v w : Nat), InT bs ov v → w ∈ orderF bs → pos bs w < pos bs v → InT bs ov w
 anc : ∀ (v x : Nat), InT bs ov v → Anc ov v x → AncP bs v x
 most : ∀ (v q : Nat), InT bs ov v → v ≠ 0 → ov[v]? = some (q : Int) → ∀ y, (∀ p, Edge bs p v → InT bs ov p → Anc ov p y) → pos bs y ≤ pos bs q
 past : ∀ (v : Nat), v ∈ orderF bs → pos bs v < i → ∀ q x, AncP bs v q → Anc ov v x → pos bs x ≤ pos bs q → Anc ov q x
theorem AncP.ne {bs : List SBlock} {v x : Nat} (h : AncP bs v x) (hx : x ≠ v) : v ≠ 0 ∧ AncP bs (pi bs v) x := by
 cases h with
 | refl => exact absurd rfl hx
 | step h0 k => exact ⟨h0, k⟩
def hW (bs : List SBlock) (x : Int) : Nat := if x < 0 then bs.length else pos bs x.toNat
def treeW (bs : List SBlock) (ov : List Int) : Nat := (ov.map (hW bs)).sum
section
variable {bs : List SBlock} (ho : OrderOk bs (orderF bs)) (hE : ∀ b ∈ bs, ∀ e ∈ b.term.to, 1 ≤ e.block ∧ e.block < bs.length) {ov : List Int}
include ho
theorem edge_mem {p v : Nat} (hp : p ∈ orderF bs) (he : Edge bs p v) : v ∈ orderF bs := ho.closed p hp v he
theorem set_get {k v : Nat} {c : Int} (h : v ≠ k) : (ov.set k c)[v]? = ov[v]? := Yak (Ne.symm h)
theorem anc_before (h : Tree bs ov) {k c v x : Nat} (hv : InT bs ov v) (hp : pos bs v < pos bs k) : Anc (ov.set k (c : Int)) v x ↔ Anc ov v x := by
 constructor
 ·intro ha
  generalize ho' : ov.set k (c : Int) = ov' at ha
  induction ha with
  | refl a => exact .refl _
  | @step a q x hq _ ih =>
   subst ho'
   have hak : a ≠ k := fun e => by subst e; omega
   rw [set_get ho hak] at hq
   by_cases h0 : a = 0
   ·subst h0
    rw [h.root] at hq
    injection hq with hq
    omega
   ·obtain ⟨q', hq', hi, hlt⟩ := h.parent ho hv h0
    have e : (q : Int) = q' := by rw [hq] at hq'; injection hq'
    have : q = q' := by omega
    subst this
    exact .step hq (ih hi (by omega))
 ·intro ha
  induction ha with
  | refl a => exact .refl _
  | @step a q x hq _ ih =>
   have hak : a ≠ k := fun e => by subst e; omega
   by_cases h0 : a = 0
   ·subst h0
    rw [h.root] at hq
    injection hq with hq
    omega
   ·obtain ⟨q', hq', hi, hlt⟩ := h.parent ho hv h0
    have e : (q : Int) = q' := by rw [hq] at hq'; injection hq'
    have : q = q' := by omega
    subst this
    exact .step (by rw [set_get ho hak]; exact hq) (ih hi (by omega))
theorem anc_shrink (h : Tree bs ov) {k c v x : Nat} (hkl : k < ov.length) (hk : InT bs ov k → ∃ q : Nat, ov[k]? = some (q : Int) ∧ Anc ov q c) (hv : InT bs ov v) (ha : Anc (ov.set k (c : Int)) v x) : Anc ov v x := by
 generalize ho' : ov.set k (c : Int) = ov' at ha
 induction ha with
 | refl a => exact .refl _
 | @step a q x hq _ ih =>
  subst ho'
  by_cases hak : a = k
  ·subst hak
   rw [Yp, if_pos rfl, if_pos hkl] at hq
   injection hq with hq
   have : c = q := by omega
   subst this
   obtain ⟨q', hq', hc⟩ := hk hv
   have hkc : Anc ov a c := .step hq' hc
   exact hkc.trans (ih (h.anc ho hv hkc).1)
  ·rw [set_get ho hak] at hq
   by_cases h0 : a = 0
   ·subst h0
    rw [h.root] at hq
    injection hq with hq
    omega
   ·obtain ⟨q', hq', hi, hlt⟩ := h.parent ho hv h0
    have e : (q : Int) = q' := by rw [hq] at hq'; injection hq'
    have : q = q' := by omega
    subst this
    exact .step hq (ih hi)
theorem anc_self (h : Tree bs ov) {k c x : Nat} (hkl : k < ov.length) (hc : InT bs ov c) (hp : pos bs c < pos bs k) : Anc (ov.set k (c : Int)) k x ↔ x = k ∨ Anc ov c x := by
 have hck : (ov.set k (c : Int))[k]? = some (c : Int) := by rw [Yp, if_pos rfl, if_pos hkl]
 constructor
 ·intro ha
  cases ha with
  | refl => exact .inl rfl
  | @step _ q _ hq ha =>
   rw [hck] at hq
   injection hq with hq
   have : c = q := by omega
   subst this
   exact .inr ((anc_before ho h hc hp).1 ha)
 ·rintro (rfl | ha)
  ·exact .refl _
  ·exact .step hck ((anc_before ho h hc hp).2 ha)
theorem inT_set {k c v : Nat} (hkl : k < ov.length) (hkm : k ∈ orderF bs) : InT bs (ov.set k (c : Int)) v ↔ InT bs ov v ∨ v = k := by
 unfold InT
 by_cases hvk : v = k
 ·subst hvk
  have hck : (ov.set v (c : Int))[v]? = some (c : Int) := by rw [Yp, if_pos rfl, if_pos hkl]
  exact ⟨fun _ => .inr rfl, fun _ => ⟨hkm, .inr ⟨c, hck, by omega⟩⟩⟩
 ·rw [set_get ho hvk]
  simp [hvk]
include hE
theorem preds_nat {v : Nat} : ∀ p ∈ ((predsF bs)[v]?.getD []), ∃ k : Nat, p = k ∧ k < bs.length := fun p hp => by
 obtain ⟨k, rfl, he⟩ := (preds_mem hE).1 hp
 refine ⟨k, rfl, ?_⟩
 obtain ⟨x, hx, _⟩ := he
 unfold toAt at hx
 cases hb : bs[k]? with
 | none => rw [hb] at hx; cases hx
 | some b => exact (Yc.1 hb).1
theorem next_of {i k : Nat} (h : TInv bs ov i) (h1 : 1 ≤ i) (hk : (orderF bs)[i]? = some k) :
  ∃ c : Nat, nextL ov (placeZ bs) (2 * bs.length + 1) (-1) ((predsF bs)[k]?.getD []) = c ∧ InT bs ov c ∧ pos bs c < pos bs k ∧ k ≠ 0 ∧ (∀ p, Edge bs p k → InT bs ov p → Anc ov p c) ∧ (∀ x, (∀ p, Edge bs p k → InT bs ov p → Anc ov p x) → Anc ov c x) ∧ InT bs ov (pi bs k) ∧ Anc ov (pi bs k) c := by
 have hkm := Yd hk
 have hpk := pos_of_get ho hk
 have hk0 : k ≠ 0 := fun e => by
  subst e
  rw [pos_zero ho] at hpk
  omega
 obtain ⟨hp1, hp2, hp3⟩ := pi_spec ho hkm hk0
 have hpi : InT bs ov (pi bs k) := h.done _ _ (by omega) (place_of ho hp1).2
 obtain ⟨Q, hQ, hc⟩ := next_ok ho h.tree _ (-1) [] (preds_nat ho hE) (.inl ⟨rfl, rfl⟩)
 have hmem : ∀ p : Nat, p ∈ Q ↔ Edge bs p k ∧ InT bs ov p := fun p => by
  rw [hQ p]
  constructor
  ·rintro (h3 | ⟨h3, h4⟩)
   ·cases h3
   ·obtain ⟨q, hq, he⟩ := (preds_mem hE).1 h3
    have : p = q := by omega
    subst this
    exact ⟨he, h4⟩
  ·rintro ⟨h3, h4⟩
   exact .inr ⟨(preds_mem hE).2 ⟨p, rfl, h3⟩, h4⟩
 have hpQ : pi bs k ∈ Q := (hmem _).2 ⟨hp3, hpi⟩
 rcases hc with ⟨_, rfl⟩ | ⟨c, e, hci, _, h2, h3⟩
 ·cases hpQ
 ·have hpc := h2 _ hpQ
  have := h.tree.anc ho hpi hpc
  exact ⟨c, e, hci, by omega, hk0, fun p hp hi => h2 p ((hmem p).2 ⟨hp, hi⟩), fun x hx => h3 x fun p hp => hx p ((hmem p).1 hp).1 ((hmem p).1 hp).2, hpi, hpc⟩
theorem node_step {i k : Nat} {a : Bool} (h : TInv bs ov i) (h1 : 1 ≤ i) (hk : (orderF bs)[i]? = some k) :
  TInv bs (treeNode bs (placeZ bs) ⟨ov, a⟩ k).ov (i + 1) ∧ (treeNode bs (placeZ bs) ⟨ov, a⟩ k = ⟨ov, a⟩ ∧ gI ov k = nextL ov (placeZ bs) (2 * bs.length + 1) (-1) ((predsF bs)[k]?.getD []) ∨ (treeNode bs (placeZ bs) ⟨ov, a⟩ k).again = true ∧ treeW bs (treeNode bs (placeZ bs) ⟨ov, a⟩ k).ov < treeW bs ov) := by
 obtain ⟨c, ec, hci, hcp, hk0, hA, hB, hpi, hpc⟩ := next_of ho hE h h1 hk
 have hkm := Yd hk
 have hpk := pos_of_get ho hk
 have hkl : k < ov.length := by rw [h.tree.len]; exact ho.lt k hkm
 obtain ⟨x, hx⟩ : ∃ x, ov[k]? = some x := ⟨_, Yx hkl⟩
 have hgx := gI_get ho hx
 have hpik := (pi_spec ho hkm hk0).2.1
 -- what 'past' says of the block itself, once its ancestor is c
 have pastk : ∀ q y, AncP bs k q → (y = k ∨ Anc ov c y) → pos bs y ≤ pos bs q → q ≠ k → Anc ov q y := fun q y hq hy hle hqk => by
  have hq2 := (hq.ne hqk).2
  have hqm := ancP_mem ho (pi_spec ho hkm hk0).1 hq2
  rcases hy with rfl | hy
  ·omega
  ·exact h.past (pi bs k) (pi_spec ho hkm hk0).1 (by omega) q y hq2 (hpc.trans hy) hle
 unfold treeNode
 simp only [Ybl]
 rw [ec, hgx]
 by_cases hcx : (c : Int) = x
 ·-- nothing changes
  rw [if_neg (fun hne => hne hcx)]
  refine ⟨⟨h.tree, fun j v hj hv => ?_, h.down, h.anc, h.most, fun v hv hlt q y hq hy hle => ?_⟩, .inl ⟨rfl, hcx.symm⟩⟩
  ·by_cases hji : j < i
   ·exact h.done j v hji hv
   ·have : j = i := by omega
    subst this
    rw [hk] at hv
    injection hv with hv
    subst hv
    exact ⟨hkm, .inr ⟨x, hx, by omega⟩⟩
  ·by_cases hlt2 : pos bs v < i
   ·exact h.past v hv hlt2 q y hq hy hle
   ·have hvk : v = k := pos_inj ho hv hkm (by omega)
    subst hvk
    by_cases hqk : q = v
    ·subst hqk; exact hy
    ·subst hcx
     exact pastk q y hq (h.tree.cases ho hx hy) hle hqk
 ·rw [if_pos hcx]
  -- how the block's ancestor moves up
  have hup : InT bs ov k → ∃ q : Nat, ov[k]? = some (q : Int) ∧ Anc ov q c ∧ pos bs c < pos bs q := fun hi => by
   obtain ⟨q, hq, hqi, hqp⟩ := h.tree.parent ho hi hk0
   have hle := h.most k q hi hk0 hq c hA
   have hqk : q ≠ k := fun e => by subst e; omega
   have hq2 := ((h.anc k q hi (.step hq (.refl _))).ne hqk).2
   have hac := h.past (pi bs k) (pi_spec ho hkm hk0).1 (by omega) q c hq2 hpc hle
   have hcq : c ≠ q := fun e => by
    subst e
    rw [hx] at hq
    injection hq with hq
    exact hcx hq.symm
   exact ⟨q, hq, hac, (h.tree.anc ho hqi hac).2.2 hcq⟩
  have hup2 : InT bs ov k → ∃ q : Nat, ov[k]? = some (q : Int) ∧ Anc ov q c := fun hi => by
   obtain ⟨q, h1, h2, _⟩ := hup hi
   exact ⟨q, h1, h2⟩
  have hIn := fun v => inT_set ho (c := c) (v := v) hkl hkm
  have hck : (ov.set k (c : Int))[k]? = some (c : Int) := by rw [Yp, if_pos rfl, if_pos hkl]
  have tree' : Tree bs (ov.set k (c : Int)) := by
   refine ⟨by rw [Yao]; exact h.tree.len, by rw [set_get ho (Ne.symm hk0)]; exact h.tree.root, fun v hv hm => ?_, fun v y hm h0 hy hy0 => ?_, fun v y hy hy0 => ?_⟩
   ·rw [set_get ho (fun e => by subst e; exact hm hkm)]; exact h.tree.out v hv hm
   ·have known : ∀ q, InT bs ov q → q = 0 ∨ ∃ y : Int, (ov.set k (c : Int))[q]? = some y ∧ 0 ≤ y := fun q hq => by
     by_cases hqk : q = k
     ·subst hqk; exact .inr ⟨c, hck, by omega⟩
     ·rw [set_get ho hqk]; exact hq.2
    by_cases hvk : v = k
    ·subst hvk
     rw [hck] at hy
     injection hy with hy
     exact ⟨c, hy.symm, hci.1, hcp, known c hci⟩
    ·rw [set_get ho hvk] at hy
     obtain ⟨q, e, hq1, hq2, hq3⟩ := h.tree.up v y hm h0 hy hy0
     exact ⟨q, e, hq1, hq2, known q ⟨hq1, hq3⟩⟩
   ·by_cases hvk : v = k
    ·subst hvk
     rw [hck] at hy
     injection hy with hy
     omega
    ·rw [set_get ho hvk] at hy
     exact h.tree.low v y hy hy0
  have shr : ∀ v y, InT bs ov v → Anc (ov.set k (c : Int)) v y → Anc ov v y := fun v y hv ha => anc_shrink ho h.tree hkl hup2 hv ha
  have selfk := fun y => anc_self ho h.tree (x := y) hkl hci hcp
  refine ⟨⟨tree', fun j v hj hv => ?_, fun v w hv hw hlt => ?_, fun v y hv ha => ?_, fun v q hv h0 hq y hy => ?_, fun v hv hlt q y hq hy hle => ?_⟩, .inr ⟨rfl, ?_⟩⟩
  ·rw [hIn]
   by_cases hji : j < i
   ·exact .inl (h.done j v hji hv)
   ·have : j = i := by omega
    subst this
    rw [hk] at hv
    injection hv with hv
    exact .inr hv.symm
  ·rw [hIn] at hv ⊢
   rcases hv with hv | rfl
   ·exact .inl (h.down v w hv hw hlt)
   ·exact .inl (h.done _ _ (by omega) (place_of ho hw).2)
  ·rw [hIn] at hv
   rcases hv with hv | rfl
   ·exact h.anc v y hv (shr v y hv ha)
   ·rcases (selfk y).1 ha with rfl | ha
    ·exact .refl _
    ·exact .step hk0 (h.anc _ y hpi (hpc.trans ha))
  ·by_cases hvk : v = k
   ·subst hvk
    rw [hck] at hq
    injection hq with hq
    have : c = q := by omega
    subst this
    have hcy : Anc ov c y := hB y fun p hp hi => shr p y hi (hy p hp ((hIn p).2 (.inl hi)))
    exact (h.tree.anc ho hci hcy).2.1
   ·rw [set_get ho hvk] at hq
    rw [hIn] at hv
    exact h.most v q (hv.resolve_right hvk) h0 hq y fun p hp hi => shr p y hi (hy p hp ((hIn p).2 (.inl hi)))
  ·by_cases hlt2 : pos bs v < i
   ·have hvi : InT bs ov v := h.done _ _ hlt2 (place_of ho hv).2
    have hqm := ancP_mem ho hv hq
    have hqi : InT bs ov q := h.done _ _ (by omega) (place_of ho hqm.1).2
    rw [anc_before ho h.tree hvi (by omega)] at hy
    rw [anc_before ho h.tree hqi (by omega)]
    exact h.past v hv hlt2 q y hq hy hle
   ·have hvk : v = k := pos_inj ho hv hkm (by omega)
    subst hvk
    by_cases hqk : q = v
    ·subst hqk; exact hy
    ·have hqm := ancP_mem ho (pi_spec ho hkm hk0).1 (hq.ne hqk).2
     have hqi : InT bs ov q := h.done _ _ (by omega) (place_of ho hqm.1).2
     rw [anc_before ho h.tree hqi (by omega)]
     exact pastk q y hq ((selfk y).1 hy) hle hqk
  ·have hs := sum_set (l := ov.map (hW bs)) (k := k) (x := hW bs x) (y := hW bs (c : Int)) (by rw [Yh, hx]; rfl)
   unfold treeW
   rw [List.map_set]
   have hlt : hW bs (c : Int) < hW bs x := by
    unfold hW
    rw [if_neg (by omega), Ybl]
    split
    ·exact pos_lt ho hci.1
    ·rename_i hx0
     obtain ⟨q, hq, _, hlt⟩ := hup ⟨hkm, .inr ⟨x, hx, by omega⟩⟩
     rw [hx] at hq
     injection hq with hq
     rw [hq, Ybl]
     exact hlt
   omega
theorem pass_step : ∀ (l : List Int) (i : Nat) (s : TState), TInv bs s.ov i → 1 ≤ i → (ordZ bs).drop i = l →
  TInv bs (treePass bs (placeZ bs) l s).ov (i + l.length) ∧ (treePass bs (placeZ bs) l s = s ∧ (∀ k ∈ l, gI s.ov k = nextL s.ov (placeZ bs) (2 * bs.length + 1) (-1) ((predsF bs)[k.toNat]?.getD [])) ∨ (treePass bs (placeZ bs) l s).again = true ∧ treeW bs (treePass bs (placeZ bs) l s).ov < treeW bs s.ov)
 | [], i, s, h, _, _ => ⟨h, .inl ⟨rfl, fun k hk => by cases hk⟩⟩
 | z :: l, i, s, h, h1, hl => by
  have hz : (ordZ bs)[i]? = some z := by
   have : ((ordZ bs).drop i)[0]? = some z := by rw [hl]; rfl
   rwa [Yaq, Ybj] at this
  have hz2 := hz
  unfold ordZ at hz
  rw [Yh] at hz
  obtain ⟨k, hk, rfl⟩ := Option.map_eq_some_iff.1 hz
  have hl2 : (ordZ bs).drop (i + 1) = l := by
   have := drop_cons hz2
   rw [hl] at this
   injection this with _ this
   exact this.symm
  obtain ⟨ov, a⟩ := s
  obtain ⟨g1, g2⟩ := node_step ho hE (a := a) h h1 hk
  rw [treePass]
  obtain ⟨p1, p2⟩ := pass_step l (i + 1) (treeNode bs (placeZ bs) ⟨ov, a⟩ k) g1 (by omega) hl2
  refine ⟨by rw [Yn, show i + (l.length + 1) = i + 1 + l.length by omega]; exact p1, ?_⟩
  rcases g2 with ⟨g2, g3⟩ | ⟨g2, g3⟩
  ·rw [g2] at p2 ⊢
   rcases p2 with ⟨p2, p3⟩ | p2
   ·refine .inl ⟨p2, fun q hq => ?_⟩
    rcases Ye.1 hq with rfl | hq
    ·rw [Ybl]; exact g3
    ·exact p3 q hq
   ·exact .inr p2
  ·rcases p2 with ⟨p2, _⟩ | ⟨p2, p3⟩
   ·rw [p2]; exact .inr ⟨g2, g3⟩
   ·exact .inr ⟨p2, by dsimp only at g3 ⊢; omega⟩
omit hE in
theorem TInv.begin {n : Nat} (h : TInv bs ov n) (hn : 1 ≤ n) : TInv bs ov 1 := by
 refine ⟨h.tree, fun j v hj hv => h.done j v (by omega) hv, h.down, h.anc, h.most, fun v hv hlt q x hq hx hle => ?_⟩
 have hv0 : v = 0 := pos_inj ho hv (zero_mem ho) (by rw [pos_zero ho]; omega)
 subst hv0
 cases hq with
 | refl => exact hx
 | step h0 _ => exact absurd rfl h0
omit hE in
theorem tree_start : TInv bs (Yj bs.length (-1)) 1 := by
 have h0 := ho.lt 0 (zero_mem ho)
 have neg : ∀ (v : Nat) (x : Int), (Yj bs.length (-1 : Int))[v]? = some x → x = -1 := fun v x hx => by
  rw [Yu] at hx
  split at hx
  ·injection hx with hx; exact hx.symm
  ·cases hx
 have inz : ∀ v, InT bs (Yj bs.length (-1)) v → v = 0 := fun v hv => by
  rcases hv.2 with h | ⟨x, hx, hx0⟩
  ·exact h
  ·have := neg v x hx; omega
 have tr : Tree bs (Yj bs.length (-1)) := by
  refine ⟨Yai, by rw [Yu, if_pos h0], fun v hv _ => by rw [Yu, if_pos hv], fun v x _ _ hx hx0 => ?_, fun v x hx _ => neg v x hx⟩
  have := neg v x hx
  omega
 refine ⟨tr, fun j v hj hv => ?_, fun v w hv hw hlt => ?_, fun v x hv ha => ?_, fun v q hv hv0 => absurd (inz v hv) hv0, fun v hv hlt q x hq hx hle => ?_⟩
 ·have : j = 0 := by omega
  subst this
  rw [ho.zero] at hv
  injection hv with hv
  subst hv
  exact ⟨zero_mem ho, .inl rfl⟩
 ·have := inz v hv
  subst this
  rw [pos_zero ho] at hlt
  omega
 ·have := inz v hv
  subst this
  rw [tr.zero ho ha]
  exact .refl _
 ·have hv0 : v = 0 := pos_inj ho hv (zero_mem ho) (by rw [pos_zero ho]; omega)
  subst hv0
  cases hq with
  | refl => exact hx
  | step h0 _ => exact absurd rfl h0
omit hE in
theorem treeW_start : treeW bs (Yj bs.length (-1)) = bs.length * bs.length := by
 have key : ∀ n x : Nat, (Yj n x).sum = n * x := fun n x => by
  induction n with
  | zero => simp
  | succ n ih => rw [List.replicate_succ, Yal, ih, Nat.succ_mul]; omega
 unfold treeW
 rw [List.map_replicate, key]
 simp [hW]
theorem tree_round {n : Nat} {s : TState} (h : TInv bs s.ov 1) (ha : s.again = true) (hw : treeW bs s.ov + 1 ≤ n) :
  ∃ n', n = n' + 1 ∧ treeIter bs (placeZ bs) (ordZ bs) n s = treeIter bs (placeZ bs) (ordZ bs) n' (treePass bs (placeZ bs) ((ordZ bs).drop 1) ⟨s.ov, false⟩) ∧ TInv bs (treePass bs (placeZ bs) ((ordZ bs).drop 1) ⟨s.ov, false⟩).ov 1 ∧
   treeW bs (treePass bs (placeZ bs) ((ordZ bs).drop 1) ⟨s.ov, false⟩).ov + (if (treePass bs (placeZ bs) ((ordZ bs).drop 1) ⟨s.ov, false⟩).again then 1 else 0) ≤ n' := by
 obtain ⟨n', rfl⟩ : ∃ n', n = n' + 1 := ⟨n - 1, by omega⟩
 obtain ⟨h1, h2⟩ := pass_step ho hE ((ordZ bs).drop 1) 1 ⟨s.ov, false⟩ h (Ybi _) rfl
 refine ⟨n', rfl, by rw [treeIter, if_pos ha], h1.begin ho (by omega), ?_⟩
 rcases h2 with ⟨h2, _⟩ | ⟨h2, h3⟩
 ·rw [h2]
  dsimp only
  rw [if_neg (by decide)]
  omega
 ·rw [h2, if_pos rfl]
  dsimp only at h3
  omega
structure TreeOk (bs : List SBlock) (ov : List Int) : Prop where
 inv : TInv bs ov 1
 all : ∀ v, v ∈ orderF bs → InT bs ov v
 fix : ∀ v, v ∈ orderF bs → v ≠ 0 → gI ov v = nextL ov (placeZ bs) (2 * bs.length + 1) (-1) ((predsF bs)[v]?.getD [])
theorem iter_ok : ∀ (n : Nat) (s : TState), TInv bs s.ov 1 → treeW bs s.ov + (if s.again then 1 else 0) ≤ n → (s.again = false → TreeOk bs s.ov) → TreeOk bs (treeIter bs (placeZ bs) (ordZ bs) n s).ov
 | 0, s, h, hw, hf => by
  cases ha : s.again with
  | false => exact hf ha
  | true => rw [ha, if_pos rfl] at hw; omega
 | n + 1, s, h, hw, hf => by
  cases ha : s.again with
  | false => rw [treeIter, if_neg (by rw [ha]; decide)]; exact hf ha
  | true =>
   rw [ha, if_pos rfl] at hw
   obtain ⟨n', e, h1, h2, h3⟩ := tree_round ho hE h ha hw
   have : n = n' := by omega
   subst this
   rw [h1]
   refine iter_ok n _ h2 h3 fun ha2 => ?_
   obtain ⟨g1, g2⟩ := pass_step ho hE ((ordZ bs).drop 1) 1 ⟨s.ov, false⟩ h (Ybi _) rfl
   rcases g2 with ⟨g2, g3⟩ | ⟨g2, _⟩
   ·rw [g2] at g1 ⊢
    have hl : 1 + ((ordZ bs).drop 1).length = (orderF bs).length := by
     have := (Yc.1 ho.zero).1
     simp [ordZ]
     omega
    refine ⟨h, fun v hv => g1.done _ _ (by rw [hl]; exact (Yc.1 (place_of ho hv).2).1) (place_of ho hv).2, fun v hv h0 => ?_⟩
    have hvp : 1 ≤ pos bs v := by
     apply Classical.byContradiction
     intro hn
     exact h0 (pos_inj ho hv (zero_mem ho) (by rw [pos_zero ho]; omega))
    have := g3 (v : Int) (by
     have hg : (ordZ bs)[pos bs v]? = some (v : Int) := by
      unfold ordZ
      rw [Yh, (place_of ho hv).2]
      rfl
     have : ((ordZ bs).drop 1)[pos bs v - 1]? = some (v : Int) := by
      rw [Yaq, show 1 + (pos bs v - 1) = pos bs v by omega]
      exact hg
     exact Yd this)
    rw [Ybl] at this
    exact this
   ·rw [g2] at ha2; cases ha2
theorem tree_ok : TreeOk bs (treeF bs) := by
 refine iter_ok ho hE _ _ (tree_start ho) ?_ fun h => by cases h
 dsimp only
 rw [treeW_start ho, if_pos rfl]
 omega
end
def graphV (f : SFunc) : V := .agg [intsX (if funcF f = 0 then treeF f.blocks else []), intsX (if funcF f = 0 then placeZ f.blocks else [])]
theorem meet_same (ov pl : List Int) : ∀ (n : Nat) (a : Int), meetF ov pl n a a = a
 | 0, a => rfl
 | n + 1, a => by rw [meetF, if_pos rfl]
section
variable {bs : List SBlock} (ho : OrderOk bs (orderF bs)) {ov : List Int}
include ho
theorem meet_walk (h : Tree bs ov) {n a b : Nat} (ha : InT bs ov a) (hb : InT bs ov b) (hn : pos bs a + pos bs b + 1 ≤ n) (hab : (a : Int) ≠ b) :
  ∃ (n' : Nat) (x y : Int), n = n' + 1 ∧ (placeZ bs)[a]? = some x ∧ (placeZ bs)[b]? = some y ∧
   (x > y → ∃ q : Nat, ov[a]? = some (q : Int) ∧ InT bs ov q ∧ pos bs q + pos bs b + 1 ≤ n' ∧ meetF ov (placeZ bs) n a b = meetF ov (placeZ bs) n' q b) ∧
   (¬ x > y → ∃ q : Nat, ov[b]? = some (q : Int) ∧ InT bs ov q ∧ pos bs a + pos bs q + 1 ≤ n' ∧ meetF ov (placeZ bs) n a b = meetF ov (placeZ bs) n' a q) := by
 obtain ⟨n', rfl⟩ : ∃ n', n = n' + 1 := ⟨n - 1, by omega⟩
 have hpa := (place_of ho ha.1).1
 have hpb := (place_of ho hb.1).1
 obtain ⟨x, hx⟩ : ∃ x, (placeZ bs)[a]? = some x := ⟨_, Yx (by rw [place_len]; exact ho.lt a ha.1)⟩
 obtain ⟨y, hy⟩ : ∃ y, (placeZ bs)[b]? = some y := ⟨_, Yx (by rw [place_len]; exact ho.lt b hb.1)⟩
 have hx2 := gI_get ho hx
 have hy2 := gI_get ho hy
 have hne : pos bs a ≠ pos bs b := fun e => hab (by rw [pos_inj ho ha.1 hb.1 e])
 refine ⟨n', x, y, rfl, hx, hy, fun hlt => ?_, fun hlt => ?_⟩
 ·have h0 : a ≠ 0 := fun e => by subst e; rw [pos_zero ho] at hpa; omega
  obtain ⟨q, hq, hi, hp⟩ := h.parent ho ha h0
  exact ⟨q, hq, hi, by omega, by rw [meetF, if_neg hab, if_pos (by omega), gI_get ho hq]⟩
 ·have h0 : b ≠ 0 := fun e => by subst e; rw [pos_zero ho] at hpb hne; omega
  obtain ⟨q, hq, hi, hp⟩ := h.parent ho hb h0
  exact ⟨q, hq, hi, by omega, by rw [meetF, if_neg hab, if_neg (by omega), gI_get ho hq]⟩
omit ho in
theorem skip_eq {ov pl : List Int} {k : Nat} {x y : Int} (hx : pl[k]? = some x) (hy : ov[k]? = some y) : skipP ov pl k = (decide (x < 0) || (decide ((k : Int) ≠ 0) && decide (y < 0))) := by
 unfold skipP gI
 rw [Ybl, hx, hy]
 rfl
theorem skip_inT (h : Tree bs ov) {k : Nat} (hk : k < bs.length) (hs : skipP ov (placeZ bs) k = false) : InT bs ov k := (skip_iff ho h hk).1 hs
structure Up (bs : List SBlock) (ov : List Int) (a : Nat) (l : List Int) (k : Int) (n : Nat) : Prop where
 len : l.length = n
 at_ : k = -1 ∨ ∃ v : Nat, k = v ∧ InT bs ov v ∧ n + pos bs v ≤ pos bs a
 mem : ∀ y : Nat, Anc ov a y ↔ (y : Int) ∈ l ∨ ∃ v : Nat, k = v ∧ Anc ov v y
 le : n ≤ bs.length
omit ho in
structure Climb (bs : List SBlock) (ov : List Int) (a b : Nat) (v n : Nat) : Prop where
 at_ : Anc ov b v
 bound : n + pos bs v ≤ pos bs b
 none : ∀ y, Anc ov b y → pos bs v < pos bs y → ¬ Anc ov a y
omit ho in
end
def climbB (ov : List Int) : Nat → Int → Int → Bool
 | 0, a, b => decide (b = a)
 | n + 1, a, b => if 0 ≤ b ∧ b ≠ a then climbB ov n a (gI ov b) else decide (b = a)
def domsF (f : SFunc) (a b : Int) : Bool := if gI (placeZ f.blocks) b < 0 then true else climbB (treeF f.blocks) (f.blocks.length + 1) a b
def reachL (f : SFunc) : List Int := (ordZ f.blocks).mergeSort fun x y => decide (x ≤ y)
theorem reach_mem {f : SFunc} {v : Nat} : (v : Int) ∈ reachL f ↔ v ∈ orderF f.blocks := by
 unfold reachL
 rw [Yar, ordZ, Yf]
 constructor
 ·rintro ⟨k, hk, e⟩
  have : k = v := by omega
  rwa [← this]
 ·intro h
  exact ⟨v, h, rfl⟩
theorem reach_len (f : SFunc) : (reachL f).length = (orderF f.blocks).length := by rw [reachL, List.length_mergeSort, ordZ, Yi]
section
variable {bs : List SBlock} (ho : OrderOk bs (orderF bs)) {ov : List Int}
include ho
theorem climb_anc (h : Tree bs ov) {a : Nat} : ∀ (n v : Nat), pos bs v < n → InT bs ov v → (climbB ov n a v = true ↔ Anc ov v a)
 | 0, v, hn, _ => by omega
 | n + 1, v, hn, hv => by
  rw [climbB]
  by_cases he : v = a
  ·subst he
   rw [if_neg (by omega)]
   exact ⟨fun _ => .refl _, fun _ => decide_eq_true rfl⟩
  ·rw [if_pos ⟨by omega, by omega⟩]
   by_cases h0 : v = 0
   ·subst h0
    have hg : gI ov ((0 : Nat) : Int) = -1 := gI_get ho h.root
    rw [hg]
    have hf : climbB ov n a (-1) = false := by
     cases n with
     | zero => rw [climbB]; exact decide_eq_false (by omega)
     | succ n => rw [climbB, if_neg (by omega)]; exact decide_eq_false (by omega)
    rw [hf]
    constructor
    ·intro h; cases h
    ·intro ha; exact absurd (h.zero ho ha).symm he
   ·obtain ⟨q, hq, hi, hp⟩ := h.parent ho hv h0
    rw [gI_get ho hq, climb_anc h n q (by omega) hi]
    constructor
    ·exact fun ha => .step hq ha
    ·intro ha
     rcases h.cases ho hq ha with e | ha
     ·exact absurd e.symm he
     ·exact ha
end
theorem doms_anc {f : SFunc} (ho : OrderOk f.blocks (orderF f.blocks)) (ht : TreeOk f.blocks (treeF f.blocks)) {a b : Nat} (hb : b ∈ orderF f.blocks) : domsF f a b = true ↔ Anc (treeF f.blocks) b a := by
 have hi := ht.all b hb
 have hpl := place_of ho hb
 unfold domsF
 rw [if_neg (by rw [hpl.1]; omega)]
 exact climb_anc ho ht.inv.tree _ b (by have := pos_lt ho hb; omega) hi
section
variable {bs : List SBlock} (ho : OrderOk bs (orderF bs)) {ov : List Int}
include ho
end
theorem idom_anc {f : SFunc} (h : FuncOk f) {k b : Nat} (hk : k ∈ orderF f.blocks) (he : Edge f.blocks k b) : b ≠ 0 ∧ b ∈ orderF f.blocks ∧ ∃ q : Nat, (treeF f.blocks)[b]? = some (q : Int) ∧ InT f.blocks (treeF f.blocks) q ∧ Anc (treeF f.blocks) k q := by
 have ho := order_ok h.pos h.edges
 have ht := tree_ok ho h.edges
 have hb := edge_mem ho hk he
 have hb0 : b ≠ 0 := by
  obtain ⟨e, hem, hb2⟩ := he
  have hkl := ho.lt k hk
  obtain ⟨bl, hbl⟩ := get_of_lt f.blocks k (by omega)
  rw [toAt_get hbl] at hem
  have := h.edges bl (Yd hbl) e hem
  omega
 refine ⟨hb0, hb, ?_⟩
 have hpn : ∀ p ∈ ((predsF f.blocks)[b]?.getD []), ∃ k : Nat, p = k ∧ k < f.blocks.length := preds_nat ho h.edges
 obtain ⟨Q', hQ, hor⟩ := next_ok ho ht.inv.tree ((predsF f.blocks)[b]?.getD []) (-1) [] hpn (.inl ⟨rfl, rfl⟩)
 have hkQ : k ∈ Q' := (hQ k).2 (.inr ⟨(preds_mem h.edges).2 ⟨k, rfl, he⟩, ht.all k hk⟩)
 rcases hor with ⟨_, e⟩ | ⟨c, hc, hi, _, hall, _⟩
 ·rw [e] at hkQ; cases hkQ
 ·refine ⟨c, ?_, hi, hall k hkQ⟩
  have hfix := ht.fix b hb hb0
  rw [hc] at hfix
  obtain ⟨y, hy⟩ := get_of_lt (treeF f.blocks) b (by rw [ht.inv.tree.len]; have := ho.lt b hb; omega)
  rw [gI_get ho hy] at hfix
  rw [hy, hfix]
theorem again_keep {n : Nat} {d d' : Dom} (h : StepW n d d') (ha : d'.again = false) : d' = d := by
 rcases h.2 with h | ⟨h, _⟩
 ·exact h
 ·rw [ha] at h; cases h
theorem edges_fix {n k : Nat} (hk : k < n) : ∀ {l : List SEdge} {d : Dom}, DomOk n d → (∀ e ∈ l, 1 ≤ e.block ∧ e.block < n) → (l.foldl (domEdge k) d).again = false → l.foldl (domEdge k) d = d ∧ ∀ e ∈ l, domEdge k d e = d
 | [], d, _, _, _ => ⟨rfl, fun e he => by cases he⟩
 | e :: l, d, ok, h, ha => by
  have h1 := domEdge_w ok hk (h e (Ya ..)).1 (h e (Ya ..)).2
  have hl := fun x hx => h x (Yb e hx)
  have h2 := edges_w hk h1.1 hl
  rw [Yw] at ha ⊢
  have e2 := again_keep h2 ha
  have e1 : domEdge k d e = d := again_keep h1 (by rw [← e2]; exact ha)
  rw [e1] at ha ⊢
  obtain ⟨g1, g2⟩ := edges_fix hk ok hl ha
  refine ⟨g1, fun x hx => ?_⟩
  rcases Ye.1 hx with rfl | hx
  ·exact e1
  ·exact g2 x hx
theorem block_fix {n k : Nat} {b : SBlock} {d : Dom} (hk : k < n) (ok : DomOk n d) (h : ∀ e ∈ b.term.to, 1 ≤ e.block ∧ e.block < n) (ha : (domBlock d k b).again = false) : domBlock d k b = d ∧ (d.seen.has k = true → ∀ e ∈ b.term.to, domEdge k d e = d) := by
 unfold domBlock at ha ⊢
 split
 ·rename_i hs
  rw [if_pos hs] at ha
  obtain ⟨h1, h2⟩ := edges_fix hk ok h ha
  exact ⟨h1, fun _ => h2⟩
 ·rename_i hs
  exact ⟨rfl, fun h => absurd h hs⟩
theorem pass_fix {n : Nat} : ∀ {l : List SBlock} {k : Nat} {d : Dom}, k + l.length = n → DomOk n d → (∀ b ∈ l, ∀ e ∈ b.term.to, 1 ≤ e.block ∧ e.block < n) → (domPass k l d).again = false →
  ∀ (j : Nat) (b : SBlock), l[j]? = some b → d.seen.has (k + j) = true → ∀ e ∈ b.term.to, domEdge (k + j) d e = d
 | [], k, d, _, _, _, _, j, b, hb => by simp at hb
 | c :: l, k, d, hl, ok, h, ha, j, b, hb => by
  have hl' : k + (l.length + 1) = n := hl
  have h1 := block_w (k := k) (by omega) ok (h c (Ya ..))
  have hr := fun x hx => h x (Yb c hx)
  have h2 := pass_w (l := l) (k := k + 1) (by omega) h1.1 hr
  rw [domPass] at ha
  have e2 := again_keep h2 ha
  have ha1 : (domBlock d k c).again = false := by rw [← e2]; exact ha
  obtain ⟨e1, g⟩ := block_fix (by omega) ok (h c (Ya ..)) ha1
  rw [e1] at ha
  cases j with
  | zero =>
   simp at hb
   subst hb
   exact g
  | succ j =>
   simp at hb
   have := pass_fix (by omega) ok hr ha j b hb
   rwa [show k + 1 + j = k + (j + 1) by omega] at this
structure DomFix (bs : List SBlock) (d : Dom) : Prop where
 ok : DomOk bs.length d
 seen0 : d.seen.has 0 = true
 at0 : d.at 0 = BSet.with noSet 0
 fix : ∀ (k : Nat) (b : SBlock), bs[k]? = some b → d.seen.has k = true → ∀ e ∈ b.term.to, domEdge k d e = d
def DomZ (n : Nat) (d : Dom) : Prop := d.seen.has 0 = true ∧ d.at 0 = BSet.with noSet 0
theorem edge_z {n k : Nat} {d : Dom} {e : SEdge} (ok : DomOk n d) (h1 : 1 ≤ e.block) (h2 : e.block < n) (hz : DomZ n d) : DomZ n (domEdge k d e) := by
 unfold domEdge
 dsimp only
 have hn := ok.le
 split
 ·refine ⟨?_, ?_⟩
  ·rw [has_with _ (by omega) (by omega), hz.1]; rfl
  ·rw [at_set (by rw [ok.len]; omega), if_neg (by omega)]; exact hz.2
 ·exact hz
theorem edges_z {n k : Nat} (hk : k < n) : ∀ {l : List SEdge} {d : Dom}, DomOk n d → (∀ e ∈ l, 1 ≤ e.block ∧ e.block < n) → DomZ n d → DomZ n (l.foldl (domEdge k) d)
 | [], d, _, _, hz => hz
 | e :: l, d, ok, h, hz => by
  have he := h e (Ya ..)
  show DomZ n (l.foldl (domEdge k) (domEdge k d e))
  exact edges_z (l := l) hk (domEdge_w ok hk he.1 he.2).1 (fun x hx => h x (Yb e hx)) (edge_z ok he.1 he.2 hz)
theorem block_z {n k : Nat} {b : SBlock} {d : Dom} (hk : k < n) (ok : DomOk n d) (h : ∀ e ∈ b.term.to, 1 ≤ e.block ∧ e.block < n) (hz : DomZ n d) : DomZ n (domBlock d k b) := by
 unfold domBlock
 split
 ·exact edges_z hk ok h hz
 ·exact hz
theorem pass_z {n : Nat} : ∀ {l : List SBlock} {k : Nat} {d : Dom}, k + l.length = n → DomOk n d → (∀ b ∈ l, ∀ e ∈ b.term.to, 1 ≤ e.block ∧ e.block < n) → DomZ n d → DomZ n (domPass k l d)
 | [], k, d, _, _, _, hz => hz
 | c :: l, k, d, hl, ok, h, hz => by
  have hl' : k + (l.length + 1) = n := hl
  show DomZ n (domPass (k + 1) l (domBlock d k c))
  exact pass_z (l := l) (by omega) (block_w (k := k) (by omega) ok (h c (Ya ..))).1 (fun x hx => h x (Yb c hx)) (block_z (by omega) ok (h c (Ya ..)) hz)
theorem domIter_fix {bs : List SBlock} (h : ∀ b ∈ bs, ∀ e ∈ b.term.to, 1 ≤ e.block ∧ e.block < bs.length) : ∀ (n : Nat) (d : Dom), DomOk bs.length d → DomZ bs.length d → weight bs.length d + (if d.again then 1 else 0) ≤ n → (d.again = false → DomFix bs d) → DomFix bs (domIter bs n d)
 | 0, d, ok, hz, hw, hf => by
  cases ha : d.again with
  | false => exact hf ha
  | true => rw [ha, if_pos rfl] at hw; omega
 | n + 1, d, ok, hz, hw, hf => by
  cases ha : d.again with
  | false => rw [domIter, if_neg (by rw [ha]; decide)]; exact hf ha
  | true =>
   obtain ⟨n', e, h1, h2, h3⟩ := round ok h hw ha
   have : n = n' := by omega
   subst this
   have ok0 : DomOk bs.length { d with again := false } := ⟨ok.len, ok.le, ok.self⟩
   have hz1 : DomZ bs.length (domPass 0 bs { d with again := false }) := pass_z (by omega) ok0 h hz
   rw [h1]
   refine domIter_fix h n _ h2 hz1 h3 fun ha2 => ?_
   have e2 := again_keep (pass_w (l := bs) (k := 0) (by omega) ok0 h) ha2
   have hfx := pass_fix (l := bs) (k := 0) (by omega) ok0 h ha2
   rw [e2] at hz1 ⊢
   exact ⟨ok0, hz1.1, hz1.2, fun k b hb hs => by have := hfx k b hb (by rw [Ybh]; exact hs); rwa [Ybh] at this⟩
theorem dom_fix {bs : List SBlock} (h0 : 0 < bs.length) (hn : bs.length ≤ 128) (h : ∀ b ∈ bs, ∀ e ∈ b.term.to, 1 ≤ e.block ∧ e.block < bs.length) : DomFix bs (domF bs) := by
 refine domIter_fix h _ _ (start_ok h0 hn) ⟨?_, ?_⟩ ?_ fun h => by cases h
 ·show (BSet.with noSet 0).has 0 = true
  rw [has_with _ (by omega) (by omega)]
  simp
 ·unfold domStart Dom.at
  rw [Yp, if_pos rfl, if_pos (by simpa using h0)]
  rfl
 ·have := start_w bs.length
  have ha : (domStart bs.length).again = true := rfl
  rw [ha, if_pos rfl, domFuel]
  omega
inductive Way (bs : List SBlock) : List Nat → Nat → Prop where
 | start : Way bs [] 0
 | step {l : List Nat} {p k : Nat} : Way bs l p → Edge bs p k → Way bs (p :: l) k
theorem dom_way {bs : List SBlock} {d : Dom} (hd : DomFix bs d) (h : ∀ b ∈ bs, ∀ e ∈ b.term.to, 1 ≤ e.block ∧ e.block < bs.length) {l : List Nat} {k : Nat} (hw : Way bs l k) : d.seen.has k = true ∧ k < 128 ∧ ∀ j, j < 128 → (d.at k).has j = true → j = k ∨ j ∈ l := by
 induction hw with
 | start =>
  refine ⟨hd.seen0, by omega, fun j hj hh => ?_⟩
  rw [hd.at0, has_with _ (by omega) hj, has_no, Bool.false_or, decide_eq_true_eq] at hh
  exact .inl hh
 | @step l p k hw he ih =>
  obtain ⟨hs, hp, ih⟩ := ih
  obtain ⟨e, hem, rfl⟩ := he
  obtain ⟨b, hb, hem⟩ : ∃ b, bs[p]? = some b ∧ e ∈ b.term.to := by
   unfold toAt at hem
   cases hb : bs[p]? with
   | none => rw [hb] at hem; cases hem
   | some b => rw [hb] at hem; exact ⟨b, rfl, hem⟩
  have hr := h b (Yd hb) e hem
  have hn := hd.ok.le
  have ht : e.block.toNat < 128 := by omega
  have hfx := hd.fix p b hb hs e hem
  unfold domEdge at hfx
  dsimp only at hfx
  split at hfx
  ·rename_i hc
   -- a change cannot leave all as it was
   exfalso
   have h1 : (d.over.set e.block.toNat (((d.at e.block.toNat).both (d.at p)).with e.block.toNat))[e.block.toNat]? = d.over[e.block.toNat]? := by
    have := congrArg Dom.over hfx
    dsimp only at this
    rw [this]
   have h2 := congrArg Dom.seen hfx
   dsimp only at h2
   rcases hc with hc | hc
   ·rw [Yp, if_pos rfl, if_pos (by rw [hd.ok.len]; omega)] at h1
    have h3 : d.at e.block.toNat = ((d.at e.block.toNat).both (d.at p)).with e.block.toNat := (congrArg (fun o : Option BSet => o.getD noSet) h1).symm
    exact hc h3.symm
   ·rw [← h2, has_with _ ht ht] at hc
    simp at hc
  ·rename_i hc
   rw [not_or] at hc
   obtain ⟨h1, h2⟩ := hc
   have h1 := Classical.not_not.1 h1
   refine ⟨by simpa using h2, ht, fun j hj hh => ?_⟩
   rw [← h1, has_with _ ht hj, has_both, Bool.or_eq_true, Bool.and_eq_true, decide_eq_true_eq] at hh
   rcases hh with hh | hh
   ·rcases ih j hj hh.2 with h3 | h3
    ·exact .inr (by rw [h3]; exact Ya ..)
    ·exact .inr (Yb _ h3)
   ·exact .inl hh
def Doms (bs : List SBlock) (x v : Nat) : Prop := ∀ l, Way bs l v → x = v ∨ x ∈ l
theorem doms_pred {bs : List SBlock} {x p v : Nat} (h : Doms bs x v) (hx : x ≠ v) (he : Edge bs p v) : Doms bs x p := fun l hl => by
 rcases h _ (.step hl he) with e | e
 ·exact absurd e hx
 ·rcases Ye.1 e with e | e
  ·exact .inl e
  ·exact .inr e
section
variable {bs : List SBlock} (ho : OrderOk bs (orderF bs)) (hE : ∀ b ∈ bs, ∀ e ∈ b.term.to, 1 ≤ e.block ∧ e.block < bs.length) {ov : List Int}
include ho
theorem way_down {a q : Nat} (h : AncP bs a q) : a ∈ orderF bs → ∀ l, Way bs l q → ∃ l', Way bs l' a ∧ ∀ y ∈ l', y ∈ l ∨ pos bs q ≤ pos bs y := by
 induction h with
 | refl a => intro _ l hl; exact ⟨l, hl, fun y hy => .inl hy⟩
 | @step a q h0 hp ih =>
  intro ha l hl
  obtain ⟨h1, h2, h3⟩ := pi_spec ho ha h0
  obtain ⟨l', w, hw⟩ := ih h1 l hl
  have hq := ancP_mem ho h1 hp
  refine ⟨pi bs a :: l', .step w h3, fun y hy => ?_⟩
  rcases Ye.1 hy with rfl | hy
  ·exact .inr hq.2
  ·exact hw y hy
theorem doms_up {i a q x : Nat} (h : TInv bs ov i) (ha : InT bs ov a) (h0 : a ≠ 0) (hq : ov[a]? = some (q : Int)) (hx : Anc ov q x) (hd : Doms bs x a) : Doms bs x q := by
 obtain ⟨q', hq', hqi, hqp⟩ := h.tree.parent ho ha h0
 have : q = q' := by rw [hq] at hq'; injection hq' with e; omega
 subst this
 intro l hl
 by_cases hxq : x = q
 ·exact .inl hxq
 ·obtain ⟨hxi, _, hlt⟩ := h.tree.anc ho hqi hx
  have hlt := hlt hxq
  obtain ⟨l', w, hw⟩ := way_down ho (h.anc a q ha (.step hq (.refl _))) ha.1 l hl
  rcases hd l' w with e | e
  ·subst e; omega
  ·rcases hw x e with e | e
   ·exact .inr e
   ·omega
def Sees (bs : List SBlock) (ov : List Int) : Prop := ∀ v x, InT bs ov v → Doms bs x v → Anc ov v x
include hE
theorem node_sees {i k : Nat} {a : Bool} (h : TInv bs ov i) (h1 : 1 ≤ i) (hk : (orderF bs)[i]? = some k) (hs : Sees bs ov) : Sees bs (treeNode bs (placeZ bs) ⟨ov, a⟩ k).ov := by
 obtain ⟨c, ec, hci, hcp, hk0, hA, hB, hpi, hpc⟩ := next_of ho hE h h1 hk
 have hkm := Yd hk
 have hkl : k < ov.length := by rw [h.tree.len]; exact ho.lt k hkm
 unfold treeNode
 simp only [Ybl]
 rw [ec]
 split
 ·have atk : ∀ x, Doms bs x k → Anc (ov.set k (c : Int)) k x := fun x hd => by
   refine (anc_self ho h.tree hkl hci hcp).2 ?_
   by_cases hx : x = k
   ·exact .inl hx
   ·exact .inr (hB x fun p hp hi => hs p x hi (doms_pred hd hx hp))
  have key : ∀ a x, Anc ov a x → InT bs ov a → Doms bs x a → Anc (ov.set k (c : Int)) a x := fun a x ha => by
   induction ha with
   | refl => intro _ _; exact .refl _
   | @step a q x hq hr ih =>
    intro hi hd
    by_cases hak : a = k
    ·subst hak; exact atk x hd
    ·by_cases h0 : a = 0
     ·subst h0
      rw [h.tree.root] at hq
      injection hq with hq
      omega
     ·obtain ⟨q', hq', hqi, _⟩ := h.tree.parent ho hi h0
      have : q = q' := by rw [hq] at hq'; injection hq' with e; omega
      subst this
      exact .step (by rw [set_get ho hak]; exact hq) (ih hqi (doms_up ho h hi h0 hq hr hd))
  intro v x hv hd
  rcases (inT_set ho hkl hkm).1 hv with hv | rfl
  ·exact key v x (hs v x hv hd) hv hd
  ·exact atk x hd
 ·exact hs
theorem pass_sees : ∀ (l : List Int) (i : Nat) (s : TState), TInv bs s.ov i → 1 ≤ i → (ordZ bs).drop i = l → Sees bs s.ov → Sees bs (treePass bs (placeZ bs) l s).ov
 | [], i, s, h, _, _, hs => hs
 | z :: l, i, s, h, h1, hl, hs => by
  have hz : (ordZ bs)[i]? = some z := by
   have : ((ordZ bs).drop i)[0]? = some z := by rw [hl]; rfl
   rwa [Yaq, Ybj] at this
  have hz2 := hz
  unfold ordZ at hz
  rw [Yh] at hz
  obtain ⟨k, hk, rfl⟩ := Option.map_eq_some_iff.1 hz
  have hl2 : (ordZ bs).drop (i + 1) = l := by
   have := drop_cons hz2
   rw [hl] at this
   injection this with _ this
   exact this.symm
  obtain ⟨ov, a⟩ := s
  rw [treePass]
  exact pass_sees l (i + 1) _ (node_step ho hE (a := a) h h1 hk).1 (by omega) hl2 (node_sees ho hE h h1 hk hs)
theorem iter_sees : ∀ (n : Nat) (s : TState), TInv bs s.ov 1 → Sees bs s.ov → Sees bs (treeIter bs (placeZ bs) (ordZ bs) n s).ov
 | 0, s, h, hs => hs
 | n + 1, s, h, hs => by
  rw [treeIter]
  split
  ·exact iter_sees n _ ((pass_step ho hE ((ordZ bs).drop 1) 1 ⟨s.ov, false⟩ h (Ybi _) rfl).1.begin ho (by omega)) (pass_sees ho hE _ 1 ⟨s.ov, false⟩ h (Ybi _) rfl hs)
  ·exact hs
theorem tree_sees : Sees bs (treeF bs) := by
 refine iter_sees ho hE _ _ (tree_start ho) fun v x hv hd => ?_
 have neg : ∀ (v : Nat) (x : Int), (Yj bs.length (-1 : Int))[v]? = some x → x = -1 := fun v x hx => by
  rw [Yu] at hx
  split at hx
  ·injection hx with hx; exact hx.symm
  ·cases hx
 have hv0 : v = 0 := by
  rcases hv.2 with h | ⟨x, hx, hx0⟩
  ·exact h
  ·have := neg v x hx; omega
 subst hv0
 rcases hd _ .start with e | e
 ·subst e; exact .refl _
 ·cases e
end
theorem way_order {f : SFunc} (hf : FuncOk f) {l : List Nat} {v : Nat} (hw : Way f.blocks l v) : v ∈ orderF f.blocks := by
 have ho := order_ok hf.pos hf.edges
 induction hw with
 | start => exact zero_mem ho
 | step hw he ih => exact edge_mem ho ih he
theorem order_way {f : SFunc} (hf : FuncOk f) : ∀ (n v : Nat), pos f.blocks v < n → v ∈ orderF f.blocks → ∃ l, Way f.blocks l v
 | 0, v, hn, _ => by omega
 | n + 1, v, hn, hv => by
  have ho := order_ok hf.pos hf.edges
  by_cases h0 : v = 0
  ·subst h0; exact ⟨[], .start⟩
  ·obtain ⟨p, hp, hlt, he⟩ := par_of ho hv h0
   obtain ⟨l, hl⟩ := order_way hf n p (by omega) hp
   exact ⟨p :: l, .step hl he⟩
theorem order_iff {f : SFunc} (hf : FuncOk f) {v : Nat} : v ∈ orderF f.blocks ↔ ∃ l, Way f.blocks l v := ⟨fun h => order_way hf _ v (Nat.lt_succ_self _) h, fun ⟨l, h⟩ => way_order hf h⟩
theorem anc_doms {f : SFunc} (hf : FuncOk f) {v x : Nat} (ha : Anc (treeF f.blocks) v x) : Doms f.blocks x v := fun l hw => by
 have ho := order_ok hf.pos hf.edges
 have ht := tree_ok ho hf.edges
 induction hw with
 | start => exact .inl (ht.inv.tree.zero ho ha)
 | @step l p k hw he ih =>
  obtain ⟨_, _, q, hq, _, hpq⟩ := idom_anc hf (way_order hf hw) he
  rcases ht.inv.tree.cases ho hq ha with e | h1
  ·exact .inl e
  ·rcases ih (hpq.trans h1) with e | e
   ·exact .inr (e ▸ Ya ..)
   ·exact .inr (Yb _ e)
theorem doms_iff {f : SFunc} (hf : FuncOk f) {v x : Nat} (hv : v ∈ orderF f.blocks) : Anc (treeF f.blocks) v x ↔ Doms f.blocks x v := by
 have ho := order_ok hf.pos hf.edges
 have ht := tree_ok ho hf.edges
 exact ⟨anc_doms hf, tree_sees ho hf.edges v x (ht.all v hv)⟩
structure DomMost (bs : List SBlock) (d : Dom) : Prop where
 most : ∀ k j : Nat, k < bs.length → j < bs.length → Doms bs j k → (d.at k).has j = true
 seen : ∀ k : Nat, k < 128 → d.seen.has k = true → ∃ l, Way bs l k
theorem most_start {bs : List SBlock} (h0 : 0 < bs.length) (hn : bs.length ≤ 128) : DomMost bs (domStart bs.length) := by
 refine ⟨fun k j hk hj hd => ?_, fun k hk hs => ?_⟩
 ·unfold domStart Dom.at
  dsimp only
  rw [Yp]
  split
  ·rename_i e
   subst e
   rw [if_pos (by simpa using h0)]
   rcases hd [] .start with e | e
   ·subst e
    show (BSet.with noSet 0).has 0 = true
    rw [has_with _ (by omega) (by omega)]
    simp
   ·cases e
  ·rw [Yu, if_pos hk]
   show (allSet bs.length).has j = true
   rw [has_all _ hn j (by omega)]
   exact decide_eq_true hj
 ·have hs : (BSet.with noSet 0).has k = true := hs
  rw [has_with _ (by omega) hk, has_no, Bool.false_or, decide_eq_true_eq] at hs
  subst hs
  exact ⟨[], .start⟩
theorem most_edge {bs : List SBlock} (hn : bs.length ≤ 128) {d : Dom} (ok : DomOk bs.length d) {k : Nat} {e : SEdge} (hk : k < bs.length) (he : e ∈ toAt bs k) (h1 : 1 ≤ e.block) (h2 : e.block < bs.length) (hs : d.seen.has k = true) (h : DomMost bs d) : DomMost bs (domEdge k d e) := by
 unfold domEdge
 dsimp only
 have hte : Edge bs k e.block.toNat := ⟨e, he, rfl⟩
 split
 ·refine ⟨fun v j hv hj hd => ?_, fun v hv hsv => ?_⟩
  ·rw [at_set (by rw [ok.len]; omega)]
   split
   ·rename_i e1
    subst e1
    rw [has_with _ (by omega) (by omega), has_both]
    by_cases hjt : j = e.block.toNat
    ·rw [decide_eq_true hjt, Bool.or_true]
    ·rw [h.most _ j hv hj hd, h.most k j hk hj (doms_pred hd hjt hte)]
     rfl
   ·exact h.most v j hv hj hd
  ·have hsv : (d.seen.with e.block.toNat).has v = true := hsv
   rw [has_with _ (by omega) hv, Bool.or_eq_true, decide_eq_true_eq] at hsv
   rcases hsv with hsv | rfl
   ·exact h.seen v hv hsv
   ·obtain ⟨l, hl⟩ := h.seen k (by omega) hs
    exact ⟨_, .step hl hte⟩
 ·exact h
theorem seen_edge {n k : Nat} {d : Dom} {e : SEdge} (hn : n ≤ 128) (hk : k < n) (h1 : 1 ≤ e.block) (h2 : e.block < n) (hs : d.seen.has k = true) : (domEdge k d e).seen.has k = true := by
 unfold domEdge
 dsimp only
 split
 ·rw [has_with _ (by omega) (by omega), hs]; rfl
 ·exact hs
theorem most_edges {bs : List SBlock} (hn : bs.length ≤ 128) {k : Nat} (hk : k < bs.length) : ∀ {l : List SEdge} {d : Dom}, DomOk bs.length d → (∀ e ∈ l, e ∈ toAt bs k) → (∀ e ∈ l, 1 ≤ e.block ∧ e.block < bs.length) → d.seen.has k = true → DomMost bs d → DomMost bs (l.foldl (domEdge k) d)
 | [], d, _, _, _, _, h => h
 | e :: l, d, ok, hl, hb, hs, h => by
  have he := hb e (Ya ..)
  show DomMost bs (l.foldl (domEdge k) (domEdge k d e))
  exact most_edges hn hk (l := l) (domEdge_w ok hk he.1 he.2).1 (fun x hx => hl x (Yb _ hx)) (fun x hx => hb x (Yb _ hx)) (seen_edge hn hk he.1 he.2 hs) (most_edge hn ok hk (hl e (Ya ..)) he.1 he.2 hs h)
theorem most_block {bs : List SBlock} (hn : bs.length ≤ 128) {k : Nat} {b : SBlock} {d : Dom} (hb : bs[k]? = some b) (ok : DomOk bs.length d) (hE : ∀ e ∈ b.term.to, 1 ≤ e.block ∧ e.block < bs.length) (h : DomMost bs d) : DomMost bs (domBlock d k b) := by
 unfold domBlock
 split
 ·rename_i hs
  exact most_edges hn (Yc.1 hb).1 ok (fun e he => by rw [toAt_get hb]; exact he) hE hs h
 ·exact h
theorem most_pass {bs : List SBlock} (hn : bs.length ≤ 128) (hE : ∀ b ∈ bs, ∀ e ∈ b.term.to, 1 ≤ e.block ∧ e.block < bs.length) : ∀ {l : List SBlock} {k : Nat} {d : Dom}, bs.drop k = l → DomOk bs.length d → DomMost bs d → DomMost bs (domPass k l d)
 | [], k, d, _, _, h => h
 | c :: l, k, d, hl, ok, h => by
  have hb : bs[k]? = some c := by
   have h9 : (bs.drop k)[0]? = some c := by rw [hl]; rfl
   rwa [Yaq, Ybj] at h9
  have hl2 : bs.drop (k + 1) = l := by
   have h9 : (bs.drop k).drop 1 = l := by rw [hl]; rfl
   rwa [List.drop_drop] at h9
  have hk := (Yc.1 hb).1
  have hc := hE c (Yd hb)
  show DomMost bs (domPass (k + 1) l (domBlock d k c))
  exact most_pass hn hE hl2 (block_w hk ok hc).1 (most_block hn hb ok hc h)
theorem most_iter {bs : List SBlock} (hn : bs.length ≤ 128) (hE : ∀ b ∈ bs, ∀ e ∈ b.term.to, 1 ≤ e.block ∧ e.block < bs.length) : ∀ (n : Nat) (d : Dom), DomOk bs.length d → DomMost bs d → DomMost bs (domIter bs n d)
 | 0, d, _, h => h
 | n + 1, d, ok, h => by
  rw [domIter]
  split
  ·have ok0 : DomOk bs.length { d with again := false } := ⟨ok.len, ok.le, ok.self⟩
   exact most_iter hn hE n _ (pass_w (l := bs) (k := 0) (by omega) ok0 hE).1 (most_pass hn hE rfl ok0 ⟨h.most, h.seen⟩)
  ·exact h
theorem dom_most {bs : List SBlock} (h0 : 0 < bs.length) (hn : bs.length ≤ 128) (hE : ∀ b ∈ bs, ∀ e ∈ b.term.to, 1 ≤ e.block ∧ e.block < bs.length) : DomMost bs (domF bs) := most_iter hn hE _ _ (start_ok h0 hn) (most_start h0 hn)
theorem has_iff {bs : List SBlock} (h0 : 0 < bs.length) (hn : bs.length ≤ 128) (hE : ∀ b ∈ bs, ∀ e ∈ b.term.to, 1 ≤ e.block ∧ e.block < bs.length) {k j : Nat} (hk : ∃ l, Way bs l k) (hkl : k < bs.length) (hj : j < bs.length) : ((domF bs).at k).has j = true ↔ Doms bs j k :=
 ⟨fun h l hw => (dom_way (dom_fix h0 hn hE) hE hw).2.2 j (by omega) h, (dom_most h0 hn hE).most k j hkl hj⟩
theorem seen_iff {bs : List SBlock} (h0 : 0 < bs.length) (hn : bs.length ≤ 128) (hE : ∀ b ∈ bs, ∀ e ∈ b.term.to, 1 ≤ e.block ∧ e.block < bs.length) {k : Nat} (hk : k < 128) : (domF bs).seen.has k = true ↔ ∃ l, Way bs l k :=
 ⟨(dom_most h0 hn hE).seen k hk, fun ⟨l, hw⟩ => (dom_way (dom_fix h0 hn hE) hE hw).1⟩
abbrev keys (d : Defs) : List Int := d.map (·.1)
structure KOk (d new : Defs) : Prop where
 wi : ∀ x ∈ keys new, wi x 0 4095 = true
 nodup : (keys new).Nodup
 fresh : ∀ x ∈ keys new, x ∉ keys d
theorem kok_nil (d : Defs) : KOk d [] := ⟨by simp, by simp, by simp⟩
theorem kok_append {d a b : Defs} : KOk d (a ++ b) ↔ KOk d a ∧ KOk (d ++ a) b := by
 constructor
 ·rintro ⟨h1, h2, h3⟩
  simp only [keys, Yl] at h1 h2 h3
  obtain ⟨n1, n2, n3⟩ := Yt.1 h2
  refine ⟨⟨fun x hx => h1 x (Yq _ hx), n1, fun x hx => h3 x (Yq _ hx)⟩, ⟨fun x hx => h1 x (Ys _ hx), n2, fun x hx => ?_⟩⟩
  simp only [keys, Yl, Yk, not_or]
  exact ⟨h3 x (Ys _ hx), fun hm => n3 x hm x hx rfl⟩
 ·rintro ⟨⟨a1, a2, a3⟩, ⟨b1, b2, b3⟩⟩
  simp only [keys, Yl] at b3
  refine ⟨fun x hx => ?_, ?_, fun x hx => ?_⟩ <;> simp only [keys, Yl] at *
  ·rcases Yk.1 hx with h | h
   ·exact a1 x h
   ·exact b1 x h
  ·exact Yt.2 ⟨a2, b2, fun x hx y hy e => by subst e; exact b3 x hy (Ys _ hx)⟩
  ·rcases Yk.1 hx with h | h
   ·exact a3 x h
   ·exact fun hm => b3 x h (Yq _ hm)
theorem kok_one {d : Defs} {v : Int} {p : Int × Int} : KOk d [(v, p)] ↔ wi v 0 4095 = true ∧ v ∉ keys d := by
 constructor
 ·rintro ⟨h1, _, h3⟩
  exact ⟨h1 v (by simp), h3 v (by simp)⟩
 ·rintro ⟨h1, h2⟩
  exact ⟨fun x hx => by simp at hx; subst hx; exact h1, by simp, fun x hx => by simp at hx; subst hx; exact h2⟩
theorem dget_out {v : Int} : ∀ {d : Defs}, dget d v = none ↔ v ∉ keys d
 | [] => by simp [dget]
 | (k, p) :: d => by
  rw [dget]
  split
  ·rename_i e
   subst e
   simp
  ·rename_i e
   rw [dget_out]
   simp only [keys, Yr, Ye, not_or]
   exact ⟨fun h => ⟨fun e2 => e e2.symm, h⟩, fun h => h.2⟩
theorem define_iff {v : Int} {p : Int × Int} {d : Defs} : (defineF v p d).1 = 0 ↔ KOk d [(v, p)] := by
 rw [kok_one]
 unfold defineF
 cases hw : wi v 0 4095 with
 | false => simp
 | true =>
  rw [if_neg (by decide)]
  cases hd : dget d v with
  | none =>
   rw [if_neg (by decide)]
   exact ⟨fun _ => ⟨rfl, dget_out.1 hd⟩, fun _ => rfl⟩
  | some x =>
   rw [if_pos (show (some x).isSome = true from rfl)]
   have : ¬ v ∉ keys d := fun h => by rw [dget_out.2 h] at hd; cases hd
   exact ⟨fun h => absurd (show (7 : Int) = 0 from h) (by decide), fun h => absurd h.2 this⟩
theorem define_eq {v : Int} {p : Int × Int} {d : Defs} (h : (defineF v p d).1 = 0) : (defineF v p d).2 = d ++ [(v, p)] := by
 have h2 := h
 rw [define_iff, kok_one] at h2
 unfold defineF
 rw [if_neg (by rw [h2.1]; decide), dget_out.2 h2.2, if_neg (by decide)]
theorem params_iff {k : Int} : ∀ {ps : List Int} {d : Defs}, ((paramsF k ps d).1 = 0 ↔ KOk d (defsP k ps)) ∧ ((paramsF k ps d).1 = 0 → (paramsF k ps d).2 = d ++ defsP k ps)
 | [], d => ⟨⟨fun _ => kok_nil d, fun _ => rfl⟩, fun _ => by simp [paramsF, defsP]⟩
 | p :: ps, d => by
  have hc : defsP k (p :: ps) = [(p, (k, 0))] ++ defsP k ps := rfl
  rw [hc, kok_append, paramsF]
  by_cases h : (defineF p (k, 0) d).1 = 0
  ·rw [if_neg (fun h2 => h2 h)]
   have he := define_eq h
   obtain ⟨h1, h2⟩ := params_iff (k := k) (ps := ps) (d := (defineF p (k, 0) d).2)
   rw [he] at h1 h2
   rw [he]
   exact ⟨⟨fun h3 => ⟨define_iff.1 h, h1.1 h3⟩, fun h3 => h1.2 h3.2⟩, fun h3 => by rw [h2 h3, Yy]⟩
  ·rw [if_pos h]
   exact ⟨⟨fun h3 => absurd h3 h, fun h3 => absurd (define_iff.2 h3.1) h⟩, fun h3 => absurd h3 h⟩
theorem inss_iff {k : Int} : ∀ {is : List SIns} {n : Int} {d : Defs}, ((inssF k n is d).1 = 0 ↔ KOk d (defsI k n is) ∧ ∀ i ∈ is, formF i = 0) ∧ ((inssF k n is d).1 = 0 → (inssF k n is d).2 = d ++ defsI k n is)
 | [], n, d => ⟨⟨fun _ => ⟨kok_nil d, fun i hi => by cases hi⟩, fun _ => rfl⟩, fun _ => by simp [inssF, defsI]⟩
 | i :: is, n, d => by
  have hc : defsI k n (i :: is) = [(i.to, (k, n + 1))] ++ defsI k (n + 1) is := rfl
  rw [hc, kok_append, inssF]
  by_cases h : (defineF i.to (k, n + 1) d).1 = 0
  ·rw [if_neg (fun h2 => h2 h)]
   have he := define_eq h
   by_cases hf : formF i = 0
   ·rw [if_neg (fun h2 => h2 hf)]
    obtain ⟨h1, h2⟩ := inss_iff (k := k) (is := is) (n := n + 1) (d := (defineF i.to (k, n + 1) d).2)
    rw [he] at h1 h2
    rw [he]
    refine ⟨⟨fun h3 => ?_, fun h3 => ?_⟩, fun h3 => by rw [h2 h3, Yy]⟩
    ·have h4 := h1.1 h3
     refine ⟨⟨define_iff.1 h, h4.1⟩, fun j hj => ?_⟩
     rcases Ye.1 hj with rfl | hj
     ·exact hf
     ·exact h4.2 j hj
    ·exact h1.2 ⟨h3.1.2, fun j hj => h3.2 j (Yb _ hj)⟩
   ·rw [if_pos hf]
    exact ⟨⟨fun h3 => absurd h3 hf, fun h3 => absurd (h3.2 i (Ya ..)) hf⟩, fun h3 => absurd h3 hf⟩
  ·rw [if_pos h]
   exact ⟨⟨fun h3 => absurd h3 h, fun h3 => absurd (define_iff.2 h3.1.1) h⟩, fun h3 => absurd h3 h⟩
theorem block_iff {bs : List SBlock} {k : Int} {b : SBlock} {d : Defs} : ((blockF bs k b d).1 = 0 ↔ KOk d (defsB k b) ∧ blockOk bs b) ∧ ((blockF bs k b d).1 = 0 → (blockF bs k b d).2 = d ++ defsB k b) := by
 unfold blockF defsB blockOk
 rw [kok_append]
 obtain ⟨p1, p2⟩ := params_iff (k := k) (ps := b.params) (d := d)
 by_cases hp : (paramsF k b.params d).1 = 0
 ·rw [if_neg (fun h => h hp)]
  rw [p2 hp]
  obtain ⟨i1, i2⟩ := inss_iff (k := k) (is := b.ins) (n := 0) (d := d ++ defsP k b.params)
  by_cases hi : (inssF k 0 b.ins (d ++ defsP k b.params)).1 = 0
  ·rw [if_neg (fun h => h hi)]
   dsimp only
   rw [i2 hi]
   exact ⟨⟨fun h => ⟨⟨p1.1 hp, (i1.1 hi).1⟩, (i1.1 hi).2, h⟩, fun h => h.2.2⟩, fun h => Yy ..⟩
  ·rw [if_pos hi]
   exact ⟨⟨fun h => absurd h hi, fun h => absurd (i1.2 ⟨h.1.2, h.2.1⟩) hi⟩, fun h => absurd h hi⟩
 ·rw [if_pos hp]
  exact ⟨⟨fun h => absurd h hp, fun h => absurd (p1.2 h.1.1) hp⟩, fun h => absurd h hp⟩
theorem blocks_iff {bs : List SBlock} : ∀ {l : List SBlock} {k : Int} {d : Defs}, ((blocksF bs k l d).1 = 0 ↔ KOk d (defsL k l) ∧ ∀ b ∈ l, blockOk bs b) ∧ ((blocksF bs k l d).1 = 0 → (blocksF bs k l d).2 = d ++ defsL k l)
 | [], k, d => ⟨⟨fun _ => ⟨kok_nil d, fun i hi => by cases hi⟩, fun _ => rfl⟩, fun _ => by simp [blocksF, defsL]⟩
 | b :: l, k, d => by
  rw [defsL, kok_append, blocksF]
  obtain ⟨b1, b2⟩ := block_iff (bs := bs) (k := k) (b := b) (d := d)
  by_cases h : (blockF bs k b d).1 = 0
  ·rw [if_neg (fun h2 => h2 h), b2 h]
   obtain ⟨h1, h2⟩ := blocks_iff (bs := bs) (l := l) (k := k + 1) (d := d ++ defsB k b)
   refine ⟨⟨fun h3 => ?_, fun h3 => ?_⟩, fun h3 => by rw [h2 h3, Yy]⟩
   ·have h4 := h1.1 h3
    refine ⟨⟨(b1.1 h).1, h4.1⟩, fun j hj => ?_⟩
    rcases Ye.1 hj with rfl | hj
    ·exact (b1.1 h).2
    ·exact h4.2 j hj
   ·exact h1.2 ⟨h3.1.2, fun j hj => h3.2 j (Yb _ hj)⟩
  ·rw [if_pos h]
   exact ⟨⟨fun h3 => absurd h3 h, fun h3 => absurd (b1.2 ⟨h3.1.1, h3.2 b (Ya ..)⟩) h⟩, fun h3 => absurd h3 h⟩
theorem dget_at {v : Int} {p : Int × Int} : ∀ {d : Defs}, (keys d).Nodup → (dget d v = some p ↔ (v, p) ∈ d)
 | [], _ => by simp [dget]
 | (k, q) :: d, h => by
  obtain ⟨h1, h2⟩ := Yap.1 (show (k :: keys d).Nodup from h)
  rw [dget]
  split
  ·rename_i e
   subst e
   constructor
   ·intro e; injection e with e; subst e; exact Ya ..
   ·intro hm
    rcases Ye.1 hm with e | hm
    ·injection e with _ e; rw [e]
    ·exact absurd (Yf.2 ⟨_, hm, rfl⟩) h1
  ·rename_i e
   rw [dget_at h2]
   constructor
   ·intro hm; exact Yb _ hm
   ·intro hm
    rcases Ye.1 hm with e2 | hm
    ·injection e2 with e2 _; exact absurd e2.symm e
    ·exact hm
def dI : Int → List SIns → List (Int × Int)
 | _, [] => []
 | n, i :: is => (i.to, n + 1) :: dI (n + 1) is
def dB (b : SBlock) : List (Int × Int) := b.params.map (fun p => (p, 0)) ++ dI 0 b.ins
theorem defsI_eq (k : Int) : ∀ (is : List SIns) (n : Int), defsI k n is = (dI n is).map fun e => (e.1, (k, e.2))
 | [], n => rfl
 | i :: is, n => by rw [defsI, dI, Yr, defsI_eq k is]
theorem defsB_eq (k : Int) (b : SBlock) : defsB k b = (dB b).map fun e => (e.1, (k, e.2)) := by
 unfold defsB dB defsP
 rw [Yl, Yaf, defsI_eq]
 rfl
theorem defsL_at {x : Int × Int × Int} : ∀ {l : List SBlock} {k : Int}, x ∈ defsL k l ↔ ∃ (j : Nat) (b : SBlock), l[j]? = some b ∧ x.2.1 = k + j ∧ (x.1, x.2.2) ∈ dB b
 | [], k => by simp [defsL]
 | c :: l, k => by
  rw [defsL, Yk, defsL_at (l := l), defsB_eq, Yf]
  constructor
  ·rintro (⟨e, he, rfl⟩ | ⟨j, b, hb, h1, h2⟩)
   ·exact ⟨0, c, rfl, by simp, he⟩
   ·exact ⟨j + 1, b, by simpa using hb, by rw [h1]; simp; omega, h2⟩
  ·rintro ⟨j, b, hb, h1, h2⟩
   cases j with
   | zero =>
    have hb : c = b := by simpa using hb
    subst hb
    refine .inl ⟨_, h2, ?_⟩
    obtain ⟨a, b, e⟩ := x
    have h1 : b = k + (0 : Nat) := h1
    rw [show b = k by rw [h1]; simp]
   | succ j => exact .inr ⟨j, b, by simpa using hb, by rw [h1]; simp; omega, h2⟩
theorem keysI_len : ∀ (is : List SIns) (n : Int), (dI n is).length = is.length
 | [], n => rfl
 | i :: is, n => by rw [dI, Yn, keysI_len is, Yn]
def insN : List SBlock → Nat
 | [] => 0
 | b :: l => b.ins.length + insN l
theorem keysL : ∀ (l : List SBlock) (k : Int), keys (defsL k l) = l.flatMap fun b => (dB b).map (·.1)
 | [], k => rfl
 | b :: l, k => by
  rw [defsL, keys, Yl, Yba]
  have h := keysL l (k + 1)
  rw [keys] at h
  rw [h, defsB_eq, Yaf]
  rfl
theorem insN_le : ∀ (l : List SBlock), insN l ≤ (l.flatMap fun b => (dB b).map (·.1)).length
 | [] => Ybi _
 | b :: l => by
  have h := insN_le l
  rw [insN, Yba, Yaa, Yi, dB, Yaa, keysI_len]
  omega
theorem nodup_wi {l : List Int} (h : l.Nodup) (hw : ∀ x ∈ l, wi x 0 4095 = true) : l.length ≤ 4096 := by
 have h1 := nodup_lt (l := l.map Int.toNat) (n := 4096) ?_ fun v hv => by
  obtain ⟨x, hx, rfl⟩ := Yf.1 hv
  have := wi_iff.1 (hw x hx)
  omega
 ·rwa [Yi] at h1
 ·rw [List.Nodup, Yas]
  refine List.Pairwise.imp_of_mem (fun {a c} ha hc hne e => hne ?_) h
  have h1 := wi_iff.1 (hw a ha)
  have h2 := wi_iff.1 (hw c hc)
  omega
theorem count_eq : ∀ (l : List SBlock) (n : Int), 0 ≤ n → n + insN l ≤ 9223372036854775807 → countIns n l = n + insN l
 | [], n, _, _ => by simp [countIns, insN]
 | b :: l, n, h0, h => by
  rw [insN] at h
  rw [countIns, insN]
  have e : IntKind.i64.wrap (n + b.ins.length) = n + b.ins.length := by rw [IntKind.wrap_i64]; omega
  rw [e, count_eq l _ (by omega) (by omega)]
  omega
structure FuncIs (f : SFunc) : Prop where
 pos : 0 < f.blocks.length
 len : f.blocks.length ≤ 128
 ins : insN f.blocks ≤ 1024
 params : (paramsOf f.blocks 0).length ≤ 6
 name : wi f.name (-1) 1048575 = true
 kok : KOk [] (defsL 0 f.blocks)
 block : ∀ b ∈ f.blocks, blockOk f.blocks b
 uses : usesF (defsL 0 f.blocks) (domF f.blocks) 0 f.blocks = 0
theorem func_iff {f : SFunc} : funcF f = 0 ↔ FuncIs f := by
 constructor
 ·intro h
  have hok := func_ok h
  obtain ⟨h1, h2⟩ := blocks_iff (bs := f.blocks) (l := f.blocks) (k := 0) (d := [])
  have h3 := h1.1 hok.blocks
  have h4 := h2 hok.blocks
  have hu := hok.uses
  rw [h4, Ybb] at hu
  have hl := nodup_wi h3.1.nodup h3.1.wi
  rw [keysL] at hl
  have hi := insN_le f.blocks
  have hc := hok.ins
  rw [count_eq _ _ (by omega) (by omega)] at hc
  exact ⟨hok.pos, hok.len, by omega, hok.params, wi_iff.2 hok.name, h3.1, h3.2, hu⟩
 ·intro h
  obtain ⟨h1, h2⟩ := blocks_iff (bs := f.blocks) (l := f.blocks) (k := 0) (d := [])
  have h3 := h1.2 ⟨h.kok, h.block⟩
  have h4 := h2 h3
  have a1 := h.pos
  have a2 := h.len
  have a3 := h.ins
  have a4 := h.params
  unfold funcF
  rw [if_neg (by omega), if_neg (by rw [count_eq _ _ (by omega) (by omega)]; omega), if_neg (by rw [h.name]; decide), if_neg (fun hn => hn h3), h4, Ybb]
  exact h.uses
def atF (f : SFunc) : List Int := placeF (reachL f) f.blocks.length
def reachN (f : SFunc) : List Nat := (Ym f.blocks.length).filter fun v => decide (v ∈ orderF f.blocks)
section
variable {f : SFunc} (ho : OrderOk f.blocks (orderF f.blocks))
include ho
end
theorem edgesF_iff {bs : List SBlock} : ∀ {l : List SEdge}, (∀ e ∈ l, 1 ≤ e.block ∧ e.block < bs.length ∧ e.args.length = (paramsOf bs e.block).length) → edgesF bs l = 0
 | [], _ => rfl
 | e :: l, h => by
  have h1 := h e (Ya ..)
  rw [edgesF, if_neg (by rw [wi_iff.2 ⟨h1.1, by omega⟩]; decide), if_neg (fun hn => hn h1.2.2)]
  exact edgesF_iff fun x hx => h x (Yb _ hx)
theorem usesF_iff {d : Defs} {o : Dom} : ∀ {l : List SBlock} {k : Nat}, usesF d o k l = 0 ↔ ∀ (j : Nat) (b : SBlock), l[j]? = some b → usesIns d o (k + j) 0 b.ins = true ∧ usedF b.term (fineF d o (k + j) b.ins.length) = true
 | [], k => by simp [usesF]
 | c :: l, k => by
  rw [usesF]
  constructor
  ·intro h j b hb
   split at h
   ·cases h
   ·rename_i h1
    split at h
    ·cases h
    ·rename_i h2
     cases j with
     | zero =>
      have hb : c = b := by simpa using hb
      subst hb
      exact ⟨by simpa using h1, by simpa using h2⟩
     | succ j =>
      have := usesF_iff.1 h j b (by simpa using hb)
      rwa [show k + 1 + j = k + (j + 1) by omega] at this
  ·intro h
   have h0 := h 0 c rfl
   rw [Ybj] at h0
   rw [if_neg (by rw [h0.1]; decide), if_neg (by rw [h0.2]; decide)]
   exact usesF_iff.2 fun j b hb => by
    have := h (j + 1) b (by simpa using hb)
    rwa [show k + (j + 1) = k + 1 + j by omega] at this
theorem usesIns_imp {d d' : Defs} {o o' : Dom} {k k' : Nat} (h : ∀ n u, fineF d o k n u = true → fineF d' o' k' n u = true) : ∀ {is : List SIns} {n : Int}, usesIns d o k n is = true → usesIns d' o' k' n is = true
 | [], n, _ => rfl
 | i :: is, n, hu => by
  rw [usesIns, Bool.and_eq_true, Yz] at hu ⊢
  exact ⟨fun u hu2 => h n u (hu.1 u hu2), usesIns_imp h hu.2⟩
theorem mem_zero_key {d : Defs} : (∀ x ∈ keys d, x ∉ keys ([] : Defs)) := fun x _ h => by cases h
def jumpB (e : SEdge) : SBlock := ⟨[], [], ⟨1, 0, 0, [], [e]⟩⟩
abbrev Cut := List (Nat × SEdge)
def setTo (b : SBlock) (to : List SEdge) : SBlock := { b with term := { b.term with to := to } }
structure SplitOk (bs gs : List SBlock) (E : Cut) : Prop where
 len : gs.length = bs.length + E.length
 old : ∀ k b, bs[k]? = some b → ∃ to : List SEdge, gs[k]? = some (setTo b to) ∧ to.length = b.term.to.length ∧ ∀ (j : Nat) (e : SEdge), b.term.to[j]? = some e → to[j]? = some e ∨ ∃ m, E[m]? = some (k, e) ∧ to[j]? = some ⟨((bs.length + m : Nat) : Int), []⟩
 new : ∀ m k e, E[m]? = some (k, e) → gs[bs.length + m]? = some (jumpB e) ∧ ∃ b, bs[k]? = some b ∧ e ∈ b.term.to
section
variable {bs gs : List SBlock} {E : Cut} (h : SplitOk bs gs E) (hE : ∀ b ∈ bs, ∀ e ∈ b.term.to, 1 ≤ e.block ∧ e.block < bs.length)
include h hE
end
theorem defsL_append : ∀ (a b : List SBlock) (k : Int), defsL k (a ++ b) = defsL k a ++ defsL (k + a.length) b
 | [], b, k => by simp [defsL]
 | x :: a, b, k => by
  rw [Yab, defsL, defsL, defsL_append a b, Yy, Yn, show k + 1 + (a.length : Int) = k + ((a.length + 1 : Nat) : Int) by omega]
theorem insN_append : ∀ a b : List SBlock, insN (a ++ b) = insN a + insN b
 | [], b => by rw [Ybb, insN, Ybh]
 | x :: a, b => by rw [Yab, insN, insN, insN_append a b]; omega
theorem domsF_reach {f : SFunc} (hf : FuncOk f) {a b : Nat} (hb : b ∈ orderF f.blocks) : domsF f a b = true ↔ Doms f.blocks a b := by
 have ho := order_ok hf.pos hf.edges
 rw [doms_anc ho (tree_ok ho hf.edges) hb]
 exact doms_iff hf hb
def overZ (f : SFunc) (a b : Int) : Bool := climbB (treeF f.blocks) (f.blocks.length + 1) a b
def backsF (f : SFunc) : List (Int × Int) := (reachL f).flatMap fun k => ((toAt f.blocks k.toNat).filter fun e => overZ f e.block k).map fun e => (k, e.block)
def workF (f : SFunc) (h : Int) : List Int := ((backsF f).filter fun x => x.2 == h).map (·.1)
def inR (f : SFunc) (k : Int) : Bool := (reachL f).any fun x => decide (k = x)
def loopStep (f : SFunc) (s : List Int × List Int) : List Int × List Int :=
 match s.1.getLast? with
 | none => s
 | some k => if (inR f k && !(s.2.any fun x => decide (k = x))) = true then (s.1.dropLast ++ ((predsF f.blocks)[k.toNat]?.getD []), s.2 ++ [k]) else (s.1.dropLast, s.2)
def loopRun (f : SFunc) : Nat → List Int × List Int → List Int × List Int
 | 0, s => s
 | n + 1, s => if s.1 = [] then s else loopRun f n (loopStep f s)
def loopC (f : SFunc) (all : List Int) : Nat := ((Ym f.blocks.length).map fun (k : Nat) => if ((k : Int) ∈ all) then 0 else ((predsF f.blocks)[k]?.getD []).length).sum
def loopW (f : SFunc) (s : List Int × List Int) : Nat := s.1.length + loopC f s.2
def bodyF (f : SFunc) (h : Int) : List Int := (loopRun f (loopW f (workF f h, [h])) (workF f h, [h])).2
def headsF (f : SFunc) : List Int := ((Ym f.blocks.length).map fun (k : Nat) => (k : Int)).filter fun h => !(workF f h).isEmpty
def sortL (l : List Int) : List Int := l.mergeSort fun x y => decide (x ≤ y)
def findF (f : SFunc) : List (Int × List Int) := (headsF f).map fun h => (h, sortL (bodyF f h))
theorem loopC_add {f : SFunc} {all : List Int} {v : Nat} (hv : v < f.blocks.length) (hn : (v : Int) ∉ all) : loopC f (all ++ [(v : Int)]) + ((predsF f.blocks)[v]?.getD []).length = loopC f all := by
 unfold loopC
 have key : ∀ l : List Nat, l.Nodup → (l.map fun (k : Nat) => if ((k : Int) ∈ all ++ [(v : Int)]) then 0 else ((predsF f.blocks)[k]?.getD []).length).sum + (if v ∈ l then ((predsF f.blocks)[v]?.getD []).length else 0) = (l.map fun (k : Nat) => if ((k : Int) ∈ all) then 0 else ((predsF f.blocks)[k]?.getD []).length).sum := by
  intro l
  induction l with
  | nil => intro _; rfl
  | cons a l ih =>
   intro hnd
   obtain ⟨h1, h2⟩ := Yap.1 hnd
   have ih := ih h2
   rw [Yr, Yr, Yal, Yal]
   by_cases hav : a = v
   ·subst hav
    rw [if_neg h1] at ih
    rw [if_pos (Ys _ (Yg.2 rfl)), if_neg hn, if_pos (Ya ..)]
    omega
   ·have hm : ((a : Int) ∈ all ++ [(v : Int)]) ↔ (a : Int) ∈ all := by
     rw [Yk, Yg]
     constructor
     ·rintro (h | h)
      ·exact h
      ·omega
     ·exact .inl
    have hvl : v ∈ a :: l ↔ v ∈ l := by
     rw [Ye]
     constructor
     ·rintro (h | h)
      ·exact absurd h.symm hav
      ·exact h
     ·exact .inr
    simp only [hm, hvl]
    omega
 have h := key (Ym f.blocks.length) List.nodup_range
 rw [if_pos (Yae.2 hv)] at h
 exact h
theorem inR_iff {f : SFunc} {k : Int} : inR f k = true ↔ ∃ v : Nat, k = v ∧ v ∈ orderF f.blocks := by
 unfold inR
 rw [Yag]
 constructor
 ·rintro ⟨x, hx, e⟩
  rw [of_decide_eq_true e]
  have hx2 := hx
  rw [reachL, Yar, ordZ, Yf] at hx2
  obtain ⟨v, hv, rfl⟩ := hx2
  exact ⟨v, rfl, hv⟩
 ·rintro ⟨v, rfl, hv⟩
  exact ⟨_, reach_mem.2 hv, decide_eq_true rfl⟩
theorem loopstep_w {f : SFunc} (ho : OrderOk f.blocks (orderF f.blocks)) {s : List Int × List Int} (hs : s.1 ≠ []) : loopW f (loopStep f s) + 1 = loopW f s := by
 obtain ⟨w, all⟩ := s
 obtain ⟨w0, k, rfl⟩ : ∃ w0 k, w = w0 ++ [k] := ⟨w.dropLast, w.getLast hs, (Ybf hs).symm⟩
 unfold loopStep loopW
 dsimp only
 rw [Yat]
 dsimp only
 rw [Yau, Yaa, List.length_singleton]
 split
 ·rename_i h
  rw [Bool.and_eq_true, inR_iff] at h
  obtain ⟨⟨v, rfl, hv⟩, hn⟩ := h
  have hnm : (v : Int) ∉ all := fun hm => by
   have : (all.any fun x => decide ((v : Int) = x)) = true := Yag.2 ⟨_, hm, decide_eq_true rfl⟩
   rw [this] at hn
   cases hn
  have := loopC_add (f := f) (ho.lt v hv) hnm
  dsimp only
  rw [Ybl, Yaa]
  omega
 ·dsimp only
  omega
inductive NatLoop (f : SFunc) (h : Nat) : Nat → Prop where
 | head : NatLoop f h h
 | latch {k : Nat} : k ∈ orderF f.blocks → Edge f.blocks k h → domsF f h k = true → NatLoop f h k
 | pred {x p : Nat} : NatLoop f h x → x ≠ h → p ∈ orderF f.blocks → Edge f.blocks p x → NatLoop f h p
structure LoopInv (f : SFunc) (h : Nat) (s : List Int × List Int) : Prop where
 sound : ∀ v ∈ s.2, ∃ n : Nat, v = n ∧ NatLoop f h n
 work : ∀ v ∈ s.1, ∃ n : Nat, v = n ∧ n < f.blocks.length ∧ (n ∈ orderF f.blocks → NatLoop f h n)
 head : (h : Int) ∈ s.2
 nodup : s.2.Nodup
 latch : ∀ k : Nat, k ∈ orderF f.blocks → Edge f.blocks k h → domsF f h k = true → (k : Int) ∈ s.2 ∨ (k : Int) ∈ s.1
 closed : ∀ x p : Nat, (x : Int) ∈ s.2 → x ≠ h → p ∈ orderF f.blocks → Edge f.blocks p x → (p : Int) ∈ s.2 ∨ (p : Int) ∈ s.1
theorem back_mem {f : SFunc} (hf : FuncOk f) {k : Int} {h : Nat} : k ∈ workF f h ↔ ∃ v : Nat, k = v ∧ v ∈ orderF f.blocks ∧ Edge f.blocks v h ∧ domsF f h v = true := by
 have ho := order_ok hf.pos hf.edges
 have hdz : ∀ {v : Nat}, v ∈ orderF f.blocks → ∀ a : Int, domsF f a v = overZ f a v := fun {v} hv a => by
  unfold domsF overZ
  rw [if_neg (by rw [(place_of ho hv).1]; omega)]
 unfold workF backsF
 rw [Yf]
 constructor
 ·rintro ⟨⟨a, b⟩, hx, rfl⟩
  obtain ⟨hx1, hx2⟩ := Yv.1 hx
  obtain ⟨y, hy, hx3⟩ := Ybc.1 hx1
  obtain ⟨e, he, heq⟩ := Yf.1 hx3
  obtain ⟨he1, he2⟩ := Yv.1 he
  injection heq with e1 e2
  subst e1
  rw [reachL, Yar, ordZ, Yf] at hy
  obtain ⟨v, hv, rfl⟩ := hy
  have hbh : b = (h : Int) := by simpa using hx2
  rw [Ybl] at he1
  refine ⟨v, rfl, hv, ⟨e, he1, by omega⟩, ?_⟩
  rw [hdz hv, ← hbh, ← e2]
  exact he2
 ·rintro ⟨v, rfl, hv, ⟨e, he1, he2⟩, hd⟩
  have hvl := ho.lt v hv
  obtain ⟨bl, hbl⟩ := get_of_lt f.blocks v (by omega)
  have hem := he1
  rw [toAt_get hbl] at hem
  have hb1 := (hf.edges bl (Yd hbl) e hem).1
  have hbe : e.block = (h : Int) := by omega
  refine ⟨((v : Int), e.block), Yv.2 ⟨Ybc.2 ⟨(v : Int), reach_mem.2 hv, Yf.2 ⟨e, Yv.2 ⟨by rw [Ybl]; exact he1, ?_⟩, rfl⟩⟩, by rw [hbe]; simp⟩, rfl⟩
  rw [hbe, ← hdz hv]
  exact hd
theorem loop_start {f : SFunc} (hf : FuncOk f) {h : Nat} (hh : h < f.blocks.length) : LoopInv f h (workF f h, [(h : Int)]) := by
 have ho := order_ok hf.pos hf.edges
 refine ⟨fun v hv => ?_, fun v hv => ?_, Yg.2 rfl, by simp, fun k hk he hd => .inr ((back_mem hf).2 ⟨k, rfl, hk, he, hd⟩), fun x p hx hne => ?_⟩
 ·rw [Yg.1 hv]; exact ⟨h, rfl, .head⟩
 ·obtain ⟨k, rfl, hk, he, hd⟩ := (back_mem hf).1 hv
  exact ⟨k, rfl, ho.lt k hk, fun _ => .latch hk he hd⟩
 ·have : x = h := by have := Yg.1 hx; omega
  exact absurd this hne
theorem loop_step {f : SFunc} (hf : FuncOk f) {h : Nat} {s : List Int × List Int} (inv : LoopInv f h s) (hs : s.1 ≠ []) : LoopInv f h (loopStep f s) := by
 have ho := order_ok hf.pos hf.edges
 obtain ⟨w, all⟩ := s
 obtain ⟨w0, k, rfl⟩ : ∃ w0 k, w = w0 ++ [k] := ⟨w.dropLast, w.getLast hs, (Ybf hs).symm⟩
 obtain ⟨i1, i2, i3, i4, i5, i6⟩ := inv
 dsimp only at i1 i2 i3 i4 i5 i6
 unfold loopStep
 dsimp only
 rw [Yat]
 dsimp only
 rw [Yau]
 obtain ⟨n, rfl, hn, hnl⟩ := i2 k (Ys _ (Yg.2 rfl))
 have split : ∀ {v : Int}, v ∈ w0 ++ [(n : Int)] → v = n ∨ v ∈ w0 := fun {v} hv => (Yk.1 hv).elim .inr fun h => .inl (Yg.1 h)
 split
 ·rename_i hc
  rw [Bool.and_eq_true, inR_iff] at hc
  obtain ⟨⟨v, hv, hvo⟩, hnot⟩ := hc
  have hvn : n = v := by omega
  subst hvn
  have hnm : (n : Int) ∉ all := fun hm => by
   have : (all.any fun x => decide ((n : Int) = x)) = true := Yag.2 ⟨_, hm, decide_eq_true rfl⟩
   rw [this] at hnot
   cases hnot
  have hnh : n ≠ h := fun e => hnm (by rw [e]; exact i3)
  rw [Ybl]
  have hpm : ∀ y : Int, y ∈ ((predsF f.blocks)[n]?.getD []) ↔ ∃ p : Nat, y = p ∧ Edge f.blocks p n := fun y => preds_mem hf.edges
  refine ⟨fun v hv => ?_, fun v hv => ?_, Yq _ i3, ?_, fun k hk he hd => ?_, fun x p hx hne hp he => ?_⟩
  ·rcases Yk.1 hv with hv | hv
   ·exact i1 v hv
   ·rw [Yg.1 hv]; exact ⟨n, rfl, hnl hvo⟩
  ·rcases Yk.1 hv with hv | hv
   ·exact i2 v (Yq _ hv)
   ·obtain ⟨p, rfl, he⟩ := (hpm v).1 hv
    refine ⟨p, rfl, ?_, fun hp => .pred (hnl hvo) hnh hp he⟩
    obtain ⟨x, hx, _⟩ := he
    refine Classical.byContradiction fun hge => ?_
    unfold toAt at hx
    rw [Yah (by omega)] at hx
    cases hx
  ·refine Yt.2 ⟨i4, by simp, fun a ha b hb => ?_⟩
   rw [Yg.1 hb]
   exact fun e => hnm (e ▸ ha)
  ·rcases i5 k hk he hd with h1 | h1
   ·exact .inl (Yq _ h1)
   ·rcases split h1 with h1 | h1
    ·exact .inl (Ys _ (Yg.2 h1))
    ·exact .inr (Yq _ h1)
  ·rcases Yk.1 hx with hx | hx
   ·rcases i6 x p hx hne hp he with h1 | h1
    ·exact .inl (Yq _ h1)
    ·rcases split h1 with h1 | h1
     ·exact .inl (Ys _ (Yg.2 h1))
     ·exact .inr (Yq _ h1)
   ·have hxn : x = n := by have := Yg.1 hx; omega
    subst hxn
    exact .inr (Ys _ ((hpm p).2 ⟨p, rfl, he⟩))
 ·rename_i hc
  have hor : (n : Int) ∈ all ∨ n ∉ orderF f.blocks := by
   by_cases hm : (n : Int) ∈ all
   ·exact .inl hm
   ·refine .inr fun ho' => hc ?_
    rw [Bool.and_eq_true, inR_iff, Bool.not_eq_true', ← Bool.not_eq_true, Yag]
    exact ⟨⟨n, rfl, ho'⟩, fun ⟨x, hx, e⟩ => hm (by rw [of_decide_eq_true e]; exact hx)⟩
  refine ⟨i1, fun v hv => i2 v (Yq _ hv), i3, i4, fun k hk he hd => ?_, fun x p hx hne hp he => ?_⟩
  ·rcases i5 k hk he hd with h1 | h1
   ·exact .inl h1
   ·rcases split h1 with h1 | h1
    ·have hkn : k = n := by omega
     subst hkn
     exact .inl (hor.resolve_right fun h => h hk)
    ·exact .inr h1
  ·rcases i6 x p hx hne hp he with h1 | h1
   ·exact .inl h1
   ·rcases split h1 with h1 | h1
    ·have hpn : p = n := by omega
     subst hpn
     exact .inl (hor.resolve_right fun h => h hp)
    ·exact .inr h1
theorem looprun_inv {f : SFunc} (hf : FuncOk f) {h : Nat} : ∀ (n : Nat) (s : List Int × List Int), LoopInv f h s → loopW f s ≤ n → LoopInv f h (loopRun f n s) ∧ (loopRun f n s).1 = []
 | 0, s, inv, hw => by
  have : s.1.length = 0 := by unfold loopW at hw; omega
  exact ⟨inv, List.length_eq_zero_iff.1 this⟩
 | n + 1, s, inv, hw => by
  rw [loopRun]
  by_cases h0 : s.1 = []
  ·rw [if_pos h0]
   exact ⟨inv, h0⟩
  ·rw [if_neg h0]
   have := loopstep_w (order_ok hf.pos hf.edges) h0
   exact looprun_inv hf n _ (loop_step hf inv h0) (by omega)
theorem body_mem {f : SFunc} (hf : FuncOk f) {h : Nat} (hh : h < f.blocks.length) : (bodyF f h).Nodup ∧ (∀ v ∈ bodyF f h, ∃ n : Nat, v = n ∧ NatLoop f h n) ∧ ∀ n : Nat, NatLoop f h n → (n : Int) ∈ bodyF f h := by
 obtain ⟨inv, h0⟩ := looprun_inv hf _ _ (loop_start hf hh) (Ybi _)
 change (loopRun f (loopW f (workF f h, [(h : Int)])) (workF f h, [(h : Int)])).1 = [] at h0
 have hb : bodyF f h = (loopRun f (loopW f (workF f h, [(h : Int)])) (workF f h, [(h : Int)])).2 := rfl
 rw [hb]
 refine ⟨inv.nodup, inv.sound, fun n hn => ?_⟩
 induction hn with
 | head => exact inv.head
 | latch hk he hd => exact (inv.latch _ hk he hd).resolve_right fun h1 => by rw [h0] at h1; cases h1
 | pred hx hne hp he ih => exact (inv.closed _ _ ih hne hp he).resolve_right fun h1 => by rw [h0] at h1; cases h1
theorem work_head {f : SFunc} (hf : FuncOk f) {h : Nat} (hw : workF f h ≠ []) : h ∈ orderF f.blocks ∧ ∃ k : Nat, k ∈ orderF f.blocks ∧ Edge f.blocks k h ∧ domsF f h k = true := by
 obtain ⟨x, hx⟩ := Ybg _ hw
 obtain ⟨k, rfl, hk, he, hd⟩ := (back_mem hf).1 hx
 exact ⟨edge_mem (order_ok hf.pos hf.edges) hk he, k, hk, he, hd⟩
theorem nat_anc {f : SFunc} (hf : FuncOk f) {h n : Nat} (hh : h ∈ orderF f.blocks) (hn : NatLoop f h n) : n ∈ orderF f.blocks ∧ Anc (treeF f.blocks) n h := by
 have ho := order_ok hf.pos hf.edges
 have ht := tree_ok ho hf.edges
 induction hn with
 | head => exact ⟨hh, .refl _⟩
 | latch hk he hd => exact ⟨hk, (doms_anc ho ht hk).1 hd⟩
 | pred hx hne hp he ih =>
  obtain ⟨hb0, hxo, q, hq, hi, ha⟩ := idom_anc hf hp he
  refine ⟨hp, ?_⟩
  rcases ht.inv.tree.cases ho hq ih.2 with e | h1
  ·exact absurd e.symm hne
  ·exact ha.trans h1
theorem heads_mem {f : SFunc} {h : Int} : h ∈ headsF f ↔ ∃ k : Nat, h = k ∧ k < f.blocks.length ∧ workF f k ≠ [] := by
 unfold headsF
 rw [Yv, Yf]
 constructor
 ·rintro ⟨⟨k, hk, rfl⟩, hw⟩
  exact ⟨k, rfl, Yae.1 hk, fun e => by rw [e] at hw; simp at hw⟩
 ·rintro ⟨k, rfl, hk, hw⟩
  exact ⟨⟨k, Yae.2 hk, rfl⟩, by cases hw2 : workF f k with
   | nil => exact absurd hw2 hw
   | cons a l => rfl⟩
theorem heads_nodup (f : SFunc) : (headsF f).Nodup := by
 unfold headsF
 refine List.Pairwise.filter _ ?_
 rw [Yas]
 exact List.nodup_range.imp fun hne e => hne (by omega)
theorem sort_mem {l : List Int} {x : Int} : x ∈ sortL l ↔ x ∈ l := Yar
theorem sort_nodup {l : List Int} (h : l.Nodup) : (sortL l).Nodup := (List.mergeSort_perm l _).nodup_iff.2 h
structure LoopOk (f : SFunc) (x : Int × List Int) : Prop where
 head : ∃ h : Nat, x.1 = h ∧ h ∈ orderF f.blocks ∧ h < f.blocks.length ∧ (∀ v ∈ x.2, ∃ n : Nat, v = n ∧ NatLoop f h n) ∧ (∀ n : Nat, NatLoop f h n → (n : Int) ∈ x.2) ∧ ∃ k : Nat, k ∈ orderF f.blocks ∧ Edge f.blocks k h ∧ domsF f h k = true
 nodup : x.2.Nodup
theorem find_ok {f : SFunc} (hf : FuncOk f) : ∀ x ∈ findF f, LoopOk f x := fun x hx => by
 obtain ⟨h, hh, rfl⟩ := Yf.1 hx
 obtain ⟨k, rfl, hk, hw⟩ := heads_mem.1 hh
 obtain ⟨b1, b2, b3⟩ := body_mem hf hk
 obtain ⟨ho, hl⟩ := work_head hf hw
 exact ⟨⟨k, rfl, ho, hk, fun v hv => b2 v (sort_mem.1 hv), fun n hn => sort_mem.2 (b3 n hn), hl⟩, sort_nodup b1⟩
theorem heads_ne {f : SFunc} {i j : Nat} {x y : Int × List Int} (hx : (findF f)[i]? = some x) (hy : (findF f)[j]? = some y) (hij : i ≠ j) : x.1 ≠ y.1 := by
 intro e
 unfold findF at hx hy
 rw [Yh] at hx hy
 obtain ⟨a, ha, rfl⟩ := Option.map_eq_some_iff.1 hx
 obtain ⟨b, hb, rfl⟩ := Option.map_eq_some_iff.1 hy
 have e : a = b := e
 subst e
 have hn := heads_nodup f
 obtain ⟨hi, hie⟩ := Yc.1 ha
 obtain ⟨hj, hje⟩ := Yc.1 hb
 exact hij ((List.getElem_inj hn).1 (hie.trans hje.symm))
theorem flat_le {α β : Type} {g : α → List β} {c : Nat} : ∀ {l : List α}, (∀ x ∈ l, (g x).length ≤ c) → (l.flatMap g).length ≤ l.length * c
 | [], _ => by simp
 | x :: l, h => by
  rw [Yba, Yaa, Yn, Nat.succ_mul]
  have h1 := h x (Ya ..)
  have h2 := flat_le fun y hy => h y (Yb _ hy)
  omega
theorem toAt_le {f : SFunc} (hf : FuncOk f) (k : Nat) : (toAt f.blocks k).length ≤ 257 := by
 cases hb : f.blocks[k]? with
 | none => rw [toAt, hb]; exact Ybk _
 | some b => rw [toAt_get hb]; exact term_edges hf (Yd hb)
theorem backs_small {f : SFunc} (hf : FuncOk f) : (backsF f).length ≤ 32896 := by
 have ho := order_ok hf.pos hf.edges
 have h1 := nodup_lt ho.nodup ho.lt
 have h2 := reach_len f
 have h3 := hf.len
 have h4 : (backsF f).length ≤ (reachL f).length * 257 := flat_le fun k _ => by
  rw [Yi]
  exact Nat.le_trans (Yav ..) (toAt_le hf _)
 have h5 : (reachL f).length * 257 ≤ 128 * 257 := Nat.mul_le_mul_right _ (by omega)
 omega
theorem work_le (f : SFunc) (h : Int) : (workF f h).length ≤ (backsF f).length := by
 unfold workF
 rw [Yi]
 exact Yav ..
theorem work_cons {e : Int × Int} {l : List (Int × Int)} {h : Int} : ((e :: l).filter fun x => x.2 == h).map (·.1) = (if e.2 = h then [e.1] else []) ++ (l.filter fun x => x.2 == h).map (·.1) := by
 rw [Yac]
 by_cases h1 : e.2 = h
 ·rw [if_pos h1, if_pos (by rw [h1]; simp)]
  rfl
 ·rw [if_neg h1, if_neg (by simpa using h1)]
  rfl
theorem range_total (P : List (List Int)) : ((Ym P.length).map fun k => (P[k]?.getD []).length).sum = total P := by
 have h : (Ym P.length).map (fun k => (P[k]?.getD []).length) = P.map Yad := by
  apply List.ext_getElem
  ·simp
  ·intro i h1 h2
   have h3 : i < P.length := by simpa using h2
   simp [Yx h3]
 rw [h]
 rfl
theorem loopC_small {f : SFunc} (hf : FuncOk f) (all : List Int) : loopC f all ≤ 32896 := by
 have h1 := edges_small hf
 have h2 := preds_total hf.edges
 have h3 := range_total (predsF f.blocks)
 rw [predsF_len] at h3
 have h4 : loopC f all ≤ ((Ym f.blocks.length).map fun k => ((predsF f.blocks)[k]?.getD []).length).sum := by
  unfold loopC
  generalize Ym f.blocks.length = l
  induction l with
  | nil => exact Ybi _
  | cons a l ih =>
   rw [Yr, Yr, Yal, Yal]
   split <;> omega
 omega
def hdr (f : SFunc) (k : Nat) : List (Int × List Int) := ((((Ym f.blocks.length).map fun (k : Nat) => (k : Int)).drop k).filter fun h => !(workF f h).isEmpty).map fun h => (h, sortL (bodyF f h))
theorem hdr_end {f : SFunc} : hdr f f.blocks.length = [] := by
 unfold hdr
 rw [List.drop_of_length_le (by simp)]
 rfl
theorem hdr_step {f : SFunc} {k : Nat} (hk : k < f.blocks.length) : hdr f k = (if workF f k = [] then [] else [((k : Int), sortL (bodyF f k))]) ++ hdr f (k + 1) := by
 have hx : ((Ym f.blocks.length).map fun (k : Nat) => (k : Int))[k]? = some (k : Int) := by simp [hk]
 unfold hdr
 rw [drop_cons hx, Yac]
 by_cases h : workF f k = []
 ·rw [if_pos h, if_neg (by rw [h]; simp)]
  rfl
 ·rw [if_neg h, if_pos (by cases hw : workF f k with
   | nil => exact absurd hw h
   | cons a l => rfl)]
  rfl
def bodyR (f : SFunc) (s : List Int × List Int) : List Int := (loopRun f (loopW f s) s).2
theorem body_eq (f : SFunc) (h : Int) : bodyR f (workF f h, [h]) = bodyF f h := rfl
theorem bodyR_end {f : SFunc} (sa : List Int) : bodyR f ([], sa) = sa := by
 unfold bodyR
 cases loopW f ([], sa) with
 | zero => rfl
 | succ n => rw [loopRun, if_pos rfl]
theorem lstep {f : SFunc} (hf : FuncOk f) {h : Nat} {s s' : List Int × List Int} (inv : LoopInv f h s) (hs : s.1 ≠ []) (e : loopStep f s = s') : LoopInv f h s' ∧ loopW f s' + 1 = loopW f s ∧ bodyR f s' = bodyR f s := by
 subst e
 have hw := loopstep_w (order_ok hf.pos hf.edges) hs
 refine ⟨loop_step hf inv hs, hw, ?_⟩
 unfold bodyR
 rw [← hw, loopRun, if_neg hs]
theorem lstep_T {f : SFunc} {w : List Int} {n : Nat} {all : List Int} (h1 : inR f n = true) (h2 : (all.any fun x => decide ((n : Int) = x)) = false) : loopStep f (w ++ [(n : Int)], all) = (w ++ ((predsF f.blocks)[n]?.getD []), all ++ [(n : Int)]) := by
 unfold loopStep
 dsimp only
 rw [Yat]
 dsimp only
 rw [h1, h2, Yau, Ybl]
 rfl
theorem lstep_F {f : SFunc} {w : List Int} {n : Nat} {all : List Int} (h : inR f n = false ∨ (all.any fun x => decide ((n : Int) = x)) = true) : loopStep f (w ++ [(n : Int)], all) = (w, all) := by
 unfold loopStep
 dsimp only
 rw [Yat]
 dsimp only
 rw [Yau, if_neg]
 rintro h2
 rw [Bool.and_eq_true] at h2
 rcases h with h | h
 ·rw [h2.1] at h; cases h
 ·rw [h] at h2; exact absurd h2.2 (by decide)
theorem has_inR (f : SFunc) (k : Int) : (reachL f).contains k = inR f k := by
 unfold inR
 rw [Bool.eq_iff_iff, List.contains_iff_mem, Yag]
 constructor
 ·intro h; exact ⟨_, h, decide_eq_true rfl⟩
 ·rintro ⟨x, hx, e⟩; rw [of_decide_eq_true e]; exact hx
theorem reach_sorted (f : SFunc) : (reachL f).Pairwise (· ≤ ·) := by
 have h := List.pairwise_mergeSort (le := fun (x y : Int) => decide (x ≤ y)) (fun a b c h1 h2 => by simp at h1 h2 ⊢; omega) (fun a b => by simp; omega) (ordZ f.blocks)
 exact h.imp fun h => of_decide_eq_true h
theorem reach_ne {f : SFunc} (hf : FuncOk f) : reachL f ≠ [] := by
 have h := reach_mem.2 (zero_mem (order_ok hf.pos hf.edges))
 exact List.ne_nil_of_mem h
theorem all_len {f : SFunc} (hf : FuncOk f) {h : Nat} (hh : h ∈ orderF f.blocks) {s : List Int × List Int} (inv : LoopInv f h s) : s.2.length ≤ 128 := by
 have ho := order_ok hf.pos hf.edges
 have h3 := hf.len
 have h1 := nodup_lt (l := s.2.map Int.toNat) (n := f.blocks.length) ?_ fun v hv => by
  obtain ⟨x, hx, rfl⟩ := Yf.1 hv
  obtain ⟨n, rfl, hn⟩ := inv.sound x hx
  rw [Ybl]
  exact ho.lt n (nat_anc hf hh hn).1
 ·rw [Yi] at h1; omega
 ·rw [List.Nodup, Yas]
  refine List.Pairwise.imp_of_mem (fun {a c} ha hc hne e => hne ?_) inv.nodup
  obtain ⟨n, rfl, _⟩ := inv.sound a ha
  obtain ⟨m, rfl, _⟩ := inv.sound c hc
  omega
theorem find_len (f : SFunc) : (findF f).length ≤ f.blocks.length := by
 unfold findF headsF
 rw [Yi]
 refine Nat.le_trans (Yav ..) ?_
 simp
section
variable {bs gs : List SBlock} {E : Cut} (h : SplitOk bs gs E) (hE : ∀ b ∈ bs, ∀ e ∈ b.term.to, 1 ≤ e.block ∧ e.block < bs.length)
include h hE
end
def setsF (o : List Bool) (l : List Int) : List Bool := l.foldl (fun s a => s.set a.toNat true) o
def backI : List SIns → List Bool → List Bool
 | [], s => s
 | i :: l, s => backI l (setsF (s.set i.to.toNat false) i.args)
def backF (b : SBlock) (s : List Bool) : List Bool := backI b.ins.reverse s
def edgeV1 (ps : List Int) : Nat → List Bool → List Bool → List Bool
 | _, [], o => o
 | v, is :: l, o => edgeV1 ps (v + 1) l (if (is && !(ps.any fun x => decide ((v : Int) = x))) = true then o.set v true else o)
abbrev Sets := List (Option (List Bool))
def setAt (s : Sets) (k : Nat) : List Bool := (s[k]?.getD none).getD []
def edgesV (bs : List SBlock) (first : Sets) : List SEdge → List Bool → List Bool
 | [], o => o
 | e :: l, o => edgesV bs first l (edgeV1 (paramsOf bs e.block) 0 (setAt first e.block.toNat) o)
def argsV : List SEdge → List Bool → List Bool
 | [], o => o
 | e :: l, o => argsV l (setsF o e.args)
def termV1 (t : STerm) (o : List Bool) : List Bool := if t.kind ≠ 1 ∧ t.kind ≠ 4 then o.set t.arg.toNat true else o
def lastF (bs : List SBlock) (many : Nat) (t : STerm) (first : Sets) : List Bool := argsV t.to (termV1 t (edgesV bs first t.to (Yj many false)))
structure LState where
 behind : Sets
 first : Sets
 again : Bool
def Mem1 (s : List Bool) (v : Nat) : Prop := s[v]? = some true
def TermUse (t : STerm) (v : Nat) : Prop := (t.kind ≠ 1 ∧ t.kind ≠ 4) ∧ t.arg.toNat = v ∨ ∃ e ∈ t.to, ∃ a ∈ e.args, a.toNat = v
def Exp (l : List SIns) (v : Nat) : Prop := ∃ (j : Nat) (i : SIns), l[j]? = some i ∧ (∃ a ∈ i.args, a.toNat = v) ∧ ∀ (j' : Nat) (x : SIns), j' < j → l[j']? = some x → x.to.toNat ≠ v
theorem Exp.append {l : List SIns} {v : Nat} (h : Exp l v) (m : List SIns) : Exp (l ++ m) v := by
 obtain ⟨j, i, h1, h2, h3⟩ := h
 have hj := (Yc.1 h1).1
 exact ⟨j, i, by rw [Yaj hj]; exact h1, h2, fun j' x hlt hx => h3 j' x hlt (by rwa [Yaj (by omega)] at hx)⟩
inductive LiveIn (bs : List SBlock) (v : Nat) : Nat → Prop where
 | use {k : Nat} {b : SBlock} : bs[k]? = some b → Exp b.ins v → LiveIn bs v k
 | term {k : Nat} {b : SBlock} : bs[k]? = some b → (∀ x ∈ b.ins, x.to.toNat ≠ v) → TermUse b.term v → LiveIn bs v k
 | pass {k : Nat} {b : SBlock} {e : SEdge} : bs[k]? = some b → (∀ x ∈ b.ins, x.to.toNat ≠ v) → e ∈ b.term.to → (v : Int) ∉ paramsOf bs e.block → LiveIn bs v e.block.toNat → LiveIn bs v k
def Sub1 (s t : List Bool) : Prop := ∀ v, Mem1 s v → Mem1 t v
structure LiveOk (bs : List SBlock) (many : Nat) (s : LState) : Prop where
 blen : s.behind.length = bs.length
 flen : s.first.length = bs.length
 emp : ∀ (k : Nat), s.behind[k]? = some none → s.first[k]? = some none
 full : ∀ (k : Nat) (l : List Bool), s.behind[k]? = some (some l) → l.length = many ∧ ∃ b, bs[k]? = some b ∧ s.first[k]? = some (some (backF b l)) ∧ Sub1 l (lastF bs many b.term s.first)
 live : ∀ (k v : Nat), Mem1 (setAt s.first k) v → LiveIn bs v k
theorem dget_mem {v : Int} {p : Int × Int} : ∀ {d : Defs}, dget d v = some p → (v, p) ∈ d
 | [], h => by cases h
 | (k, q) :: d, h => by
  rw [dget] at h
  split at h
  ·rename_i e
   subst e
   injection h with h
   subst h
   exact Ya ..
  ·exact Yb _ (dget_mem h)
theorem usesIns_all {d : Defs} {o : Dom} {k : Nat} : ∀ {l : List SIns} {n : Int}, usesIns d o k n l = true → ∀ (j : Nat) (i : SIns), l[j]? = some i → ∀ a ∈ i.args, fineF d o k (n + j) a = true
 | [], n, h, j, i, hi => by simp at hi
 | x :: l, n, h, j, i, hi => by
  rw [usesIns, Bool.and_eq_true, Yz] at h
  cases j with
  | zero =>
   simp at hi
   subst hi
   intro a ha
   have := h.1 a ha
   simpa using this
  | succ j =>
   simp at hi
   intro a ha
   have := usesIns_all h.2 j i hi a ha
   rwa [show n + 1 + (j : Int) = n + ((j + 1 : Nat) : Int) by omega] at this
theorem usesF_all {d : Defs} {o : Dom} : ∀ {l : List SBlock} {k : Nat}, usesF d o k l = 0 → ∀ (j : Nat) (b : SBlock), l[j]? = some b → usesIns d o (k + j) 0 b.ins = true ∧ usedF b.term (fineF d o (k + j) b.ins.length) = true
 | [], k, h, j, b, hb => by simp at hb
 | c :: l, k, h, j, b, hb => by
  rw [usesF] at h
  split at h
  ·cases h
  ·split at h
   ·cases h
   ·rename_i h1 h2
    cases j with
    | zero =>
     simp at hb
     subst hb
     exact ⟨by simpa using h1, by simpa using h2⟩
    | succ j =>
     simp at hb
     have := usesF_all h j b hb
     rwa [show k + 1 + j = k + (j + 1) by omega] at this
def valuesL (bs : List SBlock) : List Int := bs.flatMap fun b => b.params ++ b.ins.map (·.to)
def freshF (bs : List SBlock) : Int := (valuesL bs).foldl (fun n v => max n (v + 1)) 0
theorem fold_fresh : ∀ (l : List Int) (n : Int), n ≤ l.foldl (fun n v => max n (v + 1)) n ∧ ∀ v ∈ l, v < l.foldl (fun n v => max n (v + 1)) n
 | [], n => ⟨Ybm _, fun v hv => by cases hv⟩
 | a :: l, n => by
  obtain ⟨h1, h2⟩ := fold_fresh l (max n (a + 1))
  rw [Yw]
  refine ⟨by omega, fun v hv => ?_⟩
  rcases Ye.1 hv with rfl | hv
  ·omega
  ·exact h2 v hv
theorem fold_le {m : Int} : ∀ (l : List Int) (n : Int), n ≤ m → (∀ v ∈ l, v < m) → l.foldl (fun n v => max n (v + 1)) n ≤ m
 | [], n, hn, _ => hn
 | a :: l, n, hn, h => by
  have := h a (Ya ..)
  exact fold_le l _ (by show max n (a + 1) ≤ m; omega) fun v hv => h v (Yb _ hv)
theorem values_keys {f : SFunc} (h : FuncOk f) : ∀ v ∈ valuesL f.blocks, 0 ≤ v ∧ v ≤ 4095 := fun v hv => h.keys.range v (by rw [dkeys_defsL]; exact hv)
theorem fresh_ok {f : SFunc} (h : FuncOk f) : 0 ≤ freshF f.blocks ∧ freshF f.blocks ≤ 4096 ∧ ∀ v ∈ valuesL f.blocks, v < freshF f.blocks := by
 obtain ⟨h1, h2⟩ := fold_fresh (valuesL f.blocks) 0
 exact ⟨h1, fold_le _ 0 (by decide) fun v hv => by have := values_keys h v hv; omega, h2⟩
def listF : Nat → List Bool → List Int
 | _, [] => []
 | v, b :: l => if b = true then (v : Int) :: listF (v + 1) l else listF (v + 1) l
theorem list_len : ∀ (l : List Bool) (w : Nat), (listF w l).length ≤ l.length
 | [], w => Ybi _
 | b :: l, w => by
  rw [listF]
  have := list_len l (w + 1)
  split <;> simp <;> omega
abbrev Loop := Int × List Int
def isOut (x : Loop) (k : Nat) (e : SEdge) : Bool := decide (e.block = x.1) && !(x.2.any fun y => decide ((k : Int) = y))
def redT (L : List Loop) (k : Nat) (e : SEdge) : Option Nat := L.findIdx? fun x => isOut x k e
def redE (L : List Loop) (n k : Nat) (e : SEdge) : SEdge := match redT L k e with
 | some m => ⟨((n + m : Nat) : Int), e.args⟩
 | none => e
def redB (L : List Loop) (n k : Nat) (b : SBlock) : SBlock := setTo b (b.term.to.map (redE L n k))
def redL (L : List Loop) (n : Nat) : Nat → List SBlock → List SBlock
 | _, [] => []
 | k, b :: l => redB L n k b :: redL L n (k + 1) l
def newP (fr : Int) (n : Nat) : List Int := (Ym n).map fun i : Nat => fr + i
def parN (bs : List SBlock) (x : Loop) : Nat := (paramsOf bs x.1).length
def preB (fr : Int) (n : Nat) (h : Int) : SBlock := ⟨newP fr n, [], ⟨1, 0, 0, [], [⟨h, newP fr n⟩]⟩⟩
def newBs (bs : List SBlock) : Int → List Loop → List SBlock
 | _, [] => []
 | fr, x :: l => preB fr (parN bs x) x.1 :: newBs bs (fr + (parN bs x : Nat)) l
def frAt (bs : List SBlock) : Int → List Loop → Int
 | fr, [] => fr
 | fr, x :: l => frAt bs (fr + (parN bs x : Nat)) l
def preG (f : SFunc) (L : List Loop) : SFunc := ⟨f.name, redL L f.blocks.length 0 f.blocks ++ newBs f.blocks (freshF f.blocks) L⟩
theorem redL_len (L : List Loop) (n : Nat) : ∀ (l : List SBlock) (k : Nat), (redL L n k l).length = l.length
 | [], k => rfl
 | b :: l, k => by rw [redL, Yn, Yn, redL_len L n l]
theorem redL_get (L : List Loop) (n : Nat) : ∀ (l : List SBlock) (k i : Nat), (redL L n k l)[i]? = (l[i]?).map (redB L n (k + i))
 | [], k, i => by simp [redL]
 | b :: l, k, 0 => rfl
 | b :: l, k, i + 1 => by
  rw [redL, Ybd, Ybd, redL_get L n l, show k + 1 + i = k + (i + 1) by omega]
theorem newBs_len (bs : List SBlock) : ∀ (L : List Loop) (fr : Int), (newBs bs fr L).length = L.length
 | [], fr => rfl
 | x :: l, fr => by rw [newBs, Yn, Yn, newBs_len bs l]
theorem newBs_get (bs : List SBlock) : ∀ (L : List Loop) (fr : Int) (m : Nat) (x : Loop), L[m]? = some x → (newBs bs fr L)[m]? = some (preB (frAt bs fr (L.take m)) (parN bs x) x.1)
 | [], fr, m, x, h => by simp at h
 | y :: l, fr, 0, x, h => by
  have h : y = x := by simpa using h
  subst h
  rfl
 | y :: l, fr, m + 1, x, h => by
  have h : l[m]? = some x := by simpa using h
  rw [newBs, Ybd, List.take_succ_cons, frAt]
  exact newBs_get bs l _ m x h
theorem frAt_app (bs : List SBlock) : ∀ (L M : List Loop) (fr : Int), frAt bs fr (L ++ M) = frAt bs (frAt bs fr L) M
 | [], M, fr => rfl
 | x :: l, M, fr => by rw [Yab, frAt, frAt, frAt_app bs l]
theorem frAt_le (bs : List SBlock) : ∀ (L : List Loop) (fr : Int), fr ≤ frAt bs fr L
 | [], fr => Ybm _
 | x :: l, fr => by
  have := frAt_le bs l (fr + (parN bs x : Nat))
  rw [frAt]
  omega
theorem red_some {L : List Loop} {k m : Nat} {e : SEdge} (h : redT L k e = some m) : ∃ x, L[m]? = some x ∧ isOut x k e = true := by
 unfold redT at h
 rw [List.findIdx?_eq_some_iff_getElem] at h
 obtain ⟨h1, h2, _⟩ := h
 exact ⟨L[m], Yx h1, h2⟩
theorem red_none {L : List Loop} {k : Nat} {e : SEdge} (h : redT L k e = none) : ∀ x ∈ L, isOut x k e = false := by
 unfold redT at h
 rw [List.findIdx?_eq_none_iff] at h
 exact h
theorem out_iff {x : Loop} {k : Nat} {e : SEdge} : isOut x k e = true ↔ e.block = x.1 ∧ (k : Int) ∉ x.2 := by
 unfold isOut
 rw [Bool.and_eq_true, decide_eq_true_eq, Bool.not_eq_true', ← Bool.not_eq_true, Yag]
 constructor
 ·rintro ⟨h1, h2⟩
  exact ⟨h1, fun hm => h2 ⟨_, hm, decide_eq_true rfl⟩⟩
 ·rintro ⟨h1, h2⟩
  refine ⟨h1, fun ⟨y, hy, e⟩ => h2 ?_⟩
  have := of_decide_eq_true e
  rw [this]
  exact hy
structure PreOk (bs gs : List SBlock) (H : List Nat) (red : Nat → SEdge → Option Nat) : Prop where
 len : gs.length = bs.length + H.length
 old : ∀ (k : Nat) (b : SBlock), bs[k]? = some b → gs[k]? = some (setTo b (b.term.to.map fun e => match red k e with
  | some m => ⟨((bs.length + m : Nat) : Int), e.args⟩
  | none => e))
 red : ∀ (k : Nat) (b : SBlock) (e : SEdge) (m : Nat), bs[k]? = some b → e ∈ b.term.to → red k e = some m → H[m]? = some e.block.toNat
 new : ∀ (m h : Nat), H[m]? = some h → ∃ ps : List Int, gs[bs.length + m]? = some ⟨ps, [], ⟨1, 0, 0, [], [⟨(h : Int), ps⟩]⟩⟩ ∧ ps.length = (paramsOf bs h).length
 hlt : ∀ (m h : Nat), H[m]? = some h → 1 ≤ h ∧ h < bs.length
section
variable {bs gs : List SBlock} {H : List Nat} {red : Nat → SEdge → Option Nat} (h : PreOk bs gs H red) (hE : ∀ b ∈ bs, ∀ e ∈ b.term.to, 1 ≤ e.block ∧ e.block < bs.length)
include h
theorem pre_to {k : Nat} {b : SBlock} (hb : bs[k]? = some b) : toAt gs k = b.term.to.map fun e => match red k e with
  | some m => ⟨((bs.length + m : Nat) : Int), e.args⟩
  | none => e := by
 rw [toAt_get (h.old k b hb)]
 rfl
theorem pre_toN {m hd : Nat} (hm : H[m]? = some hd) : ∃ ps, toAt gs (bs.length + m) = [⟨(hd : Int), ps⟩] := by
 obtain ⟨ps, h1, _⟩ := h.new m hd hm
 exact ⟨ps, toAt_get h1⟩
def Into (bs : List SBlock) (red : Nat → SEdge → Option Nat) (k m : Nat) : Prop := ∃ b e, bs[k]? = some b ∧ e ∈ b.term.to ∧ red k e = some m
def Stays (bs : List SBlock) (red : Nat → SEdge → Option Nat) (k v : Nat) : Prop := ∃ b e, bs[k]? = some b ∧ e ∈ b.term.to ∧ red k e = none ∧ e.block.toNat = v
omit h in
theorem stays_edge {k v : Nat} (hs : Stays bs red k v) : Edge bs k v := by
 obtain ⟨b, e, h1, h2, _, h4⟩ := hs
 exact ⟨e, by rw [toAt_get h1]; exact h2, h4⟩
theorem into_edge {k m : Nat} (hs : Into bs red k m) : ∃ hd, H[m]? = some hd ∧ Edge bs k hd := by
 obtain ⟨b, e, h1, h2, h3⟩ := hs
 exact ⟨_, h.red k b e m h1 h2 h3, e, by rw [toAt_get h1]; exact h2, rfl⟩
omit h in
theorem edge_cases {p v : Nat} (he : Edge bs p v) : Stays bs red p v ∨ ∃ b e m, bs[p]? = some b ∧ e ∈ b.term.to ∧ e.block.toNat = v ∧ red p e = some m := by
 obtain ⟨e, he, hev⟩ := he
 unfold toAt at he
 cases hb : bs[p]? with
 | none => rw [hb] at he; cases he
 | some b =>
  rw [hb] at he
  have he : e ∈ b.term.to := he
  cases hr : red p e with
  | none => exact .inl ⟨b, e, hb, he, hr, hev⟩
  | some m => exact .inr ⟨b, e, m, rfl, he, hev, hr⟩
theorem stays_g {p v : Nat} (hs : Stays bs red p v) : Edge gs p v := by
 obtain ⟨b, e, h1, h2, h3, h4⟩ := hs
 exact ⟨e, by rw [pre_to h h1]; exact Yf.2 ⟨e, h2, by rw [h3]⟩, h4⟩
theorem into_g {p m : Nat} (hs : Into bs red p m) : Edge gs p (bs.length + m) := by
 obtain ⟨b, e, h1, h2, h3⟩ := hs
 exact ⟨⟨((bs.length + m : Nat) : Int), e.args⟩, by rw [pre_to h h1]; exact Yf.2 ⟨e, h2, by rw [h3]⟩, by dsimp only; omega⟩
theorem new_g {m hd : Nat} (hm : H[m]? = some hd) : Edge gs (bs.length + m) hd := by
 obtain ⟨ps, h1⟩ := pre_toN h hm
 exact ⟨⟨(hd : Int), ps⟩, by rw [h1]; exact Yg.2 rfl, by dsimp only; omega⟩
include hE
theorem g_edge {p v : Nat} (he : Edge gs p v) : (p < bs.length ∧ v < bs.length ∧ Stays bs red p v) ∨ (∃ m, p < bs.length ∧ v = bs.length + m ∧ m < H.length ∧ Into bs red p m) ∨ ∃ m, p = bs.length + m ∧ H[m]? = some v := by
 obtain ⟨e, he, hev⟩ := he
 have hpl : p < gs.length := Classical.byContradiction fun hn => by
  rw [toAt, Yah (by omega)] at he
  cases he
 have hlen := h.len
 by_cases hp : p < bs.length
 ·obtain ⟨b, hb⟩ := get_of_lt bs p (by omega)
  rw [pre_to h hb] at he
  obtain ⟨x, hx, hxe⟩ := Yf.1 he
  have hxl := hE b (Yd hb) x hx
  cases hr : red p x with
  | none =>
   rw [hr] at hxe
   have hxe : x = e := hxe
   subst hxe
   exact .inl ⟨hp, by omega, b, x, hb, hx, hr, hev⟩
  | some m =>
   rw [hr] at hxe
   have hxe : (⟨((bs.length + m : Nat) : Int), x.args⟩ : SEdge) = e := hxe
   rw [← hxe] at hev
   dsimp only at hev
   have hm := (Yc.1 (h.red p b x m hb hx hr)).1
   exact .inr (.inl ⟨m, hp, by omega, hm, b, x, hb, hx, hr⟩)
 ·obtain ⟨hd, hm⟩ := get_of_lt H (p - bs.length) (by omega)
  obtain ⟨ps, h1⟩ := pre_toN h hm
  rw [show bs.length + (p - bs.length) = p by omega] at h1
  rw [h1] at he
  have he : e = ⟨(hd : Int), ps⟩ := Yg.1 he
  subst he
  dsimp only at hev
  refine .inr (.inr ⟨p - bs.length, by omega, ?_⟩)
  rw [hm]
  congr 1
theorem way_pre {l : List Nat} {v : Nat} (hw : Way bs l v) : ∃ l', Way gs l' v ∧ ∀ y ∈ l', y < bs.length → y ∈ l := by
 induction hw with
 | start => exact ⟨[], .start, fun y hy => by cases hy⟩
 | @step l p k _ he ih =>
  obtain ⟨l', h1, h2⟩ := ih
  rcases edge_cases (red := red) he with hs | ⟨b, e, m, e1, e2, e3, e4⟩
  ·refine ⟨p :: l', .step h1 (stays_g h hs), fun y hy hyl => ?_⟩
   rcases Ye.1 hy with rfl | hy
   ·exact Ya ..
   ·exact Yb _ (h2 y hy hyl)
  ·have hm := h.red p b e m e1 e2 e4
   rw [e3] at hm
   refine ⟨(bs.length + m) :: p :: l', .step (.step h1 (into_g h ⟨b, e, e1, e2, e4⟩)) (new_g h hm), fun y hy hyl => ?_⟩
   rcases Ye.1 hy with rfl | hy
   ·omega
   ·rcases Ye.1 hy with rfl | hy
    ·exact Ya ..
    ·exact Yb _ (h2 y hy hyl)
theorem pre_way (h0 : 0 < bs.length) {l : List Nat} {v : Nat} (hw : Way gs l v) : (v < bs.length → ∃ l0, Way bs l0 v ∧ ∀ y ∈ l0, y ∈ l) ∧
  ∀ m, v = bs.length + m → m < H.length → ∃ k l0, k ∈ l ∧ k < bs.length ∧ Into bs red k m ∧ Way bs l0 k ∧ (∀ y ∈ l0, y ∈ l) ∧ ∃ l1, Way gs l1 k ∧ ∀ y ∈ l1, y ∈ l := by
 induction hw with
 | start => exact ⟨fun _ => ⟨[], .start, fun y hy => by cases hy⟩, fun m hv _ => by omega⟩
 | @step l p v hw he ih =>
  obtain ⟨ih1, ih2⟩ := ih
  rcases g_edge h hE he with ⟨g1, g2, g3⟩ | ⟨m, g1, g2, g3, g4⟩ | ⟨m, g1, g2⟩
  ·obtain ⟨l0, w0, s0⟩ := ih1 g1
   refine ⟨fun _ => ⟨p :: l0, .step w0 (stays_edge g3), fun y hy => ?_⟩, fun m hv _ => by omega⟩
   rcases Ye.1 hy with rfl | hy
   ·exact Ya ..
   ·exact Yb _ (s0 y hy)
  ·obtain ⟨l0, w0, s0⟩ := ih1 g1
   refine ⟨fun _ => by omega, fun m2 hv _ => ?_⟩
   have : m2 = m := by omega
   subst this
   exact ⟨p, l0, Ya .., g1, g4, w0, fun y hy => Yb _ (s0 y hy), l, hw, fun y hy => Yb _ hy⟩
  ·have hml := (Yc.1 g2).1
   obtain ⟨k, l0, i1, i2, i3, i4, i5, _⟩ := ih2 m g1 hml
   obtain ⟨hd, i6, i7⟩ := into_edge h i3
   rw [g2] at i6
   injection i6 with i6
   subst i6
   refine ⟨fun _ => ⟨k :: l0, .step i4 i7, fun y hy => ?_⟩, fun m2 hv _ => by have := (h.hlt m v g2).2; omega⟩
   rcases Ye.1 hy with rfl | hy
   ·exact Yb _ i1
   ·exact Yb _ (i5 y hy)
theorem pre_reach (h0 : 0 < bs.length) {v : Nat} (hv : v < bs.length) : (∃ l, Way gs l v) ↔ ∃ l, Way bs l v :=
 ⟨fun ⟨l, hw⟩ => let ⟨l0, w0, _⟩ := (pre_way h hE h0 hw).1 hv; ⟨l0, w0⟩, fun ⟨l, hw⟩ => let ⟨l', w', _⟩ := way_pre h hE hw; ⟨l', w'⟩⟩
theorem pre_doms (h0 : 0 < bs.length) {a b : Nat} (ha : a < bs.length) (hb : b < bs.length) : Doms gs a b ↔ Doms bs a b := by
 constructor
 ·intro hd l hw
  obtain ⟨l', w', s'⟩ := way_pre h hE hw
  exact (hd l' w').imp id fun hm => s' a hm ha
 ·intro hd l hw
  obtain ⟨l0, w0, s0⟩ := (pre_way h hE h0 hw).1 hb
  exact (hd l0 w0).imp id (s0 a)
theorem new_doms (h0 : 0 < bs.length) {m hd v : Nat} (hm : H[m]? = some hd) (hv : v < bs.length) (hd2 : Doms gs (bs.length + m) v) : Doms bs hd v := fun l hw => by
 obtain ⟨l', w', s'⟩ := way_pre h hE hw
 have key : ∀ {l : List Nat} {v : Nat}, Way gs l v → bs.length + m ∈ l → hd = v ∨ hd ∈ l := fun {l v} hw => by
  induction hw with
  | start => intro hm; cases hm
  | @step l p v hw he ih =>
   intro hmem
   by_cases hp : p = bs.length + m
   ·subst hp
    rcases g_edge h hE he with ⟨g1, _, _⟩ | ⟨_, g1, _, _, _⟩ | ⟨m2, g1, g2⟩
    ·omega
    ·omega
    ·have : m2 = m := by omega
     subst this
     rw [hm] at g2
     injection g2 with g2
     exact .inl g2
   ·rcases Ye.1 hmem with e1 | e1
    ·exact absurd e1.symm hp
    ·rcases ih e1 with e2 | e2
     ·exact .inr (e2 ▸ Ya ..)
     ·exact .inr (Yb _ e2)
 rcases hd2 l' w' with e1 | e1
 ·omega
 ·rcases key w' e1 with e2 | e2
  ·exact .inl e2
  ·exact .inr (s' hd e2 (h.hlt m hd hm).2)
end
def hdN (L : List Loop) : List Nat := L.map fun x => x.1.toNat
structure LoopsOf (f : SFunc) (L : List Loop) : Prop where
 mem : ∀ x ∈ L, x ∈ findF f
 nodup : (L.map (·.1)).Nodup
theorem lo_head {f : SFunc} {L : List Loop} (hf : FuncOk f) (hL : LoopsOf f L) {m : Nat} {x : Loop} (hx : L[m]? = some x) : ∃ h : Nat, x.1 = h ∧ (hdN L)[m]? = some h ∧ 1 ≤ h ∧ h < f.blocks.length ∧ h ∈ orderF f.blocks ∧ (∀ n : Nat, (n : Int) ∈ x.2 ↔ NatLoop f h n) := by
 obtain ⟨⟨h, e1, o1, l1, s1, c1, k, hk, he, hd⟩, nx⟩ := find_ok hf x (hL.mem x (Yd hx))
 refine ⟨h, e1, ?_, ?_, l1, o1, fun n => ⟨fun hn => ?_, c1 n⟩⟩
 ·unfold hdN
  rw [Yh, hx]
  show some x.1.toNat = some h
  rw [e1, Ybl]
 ·obtain ⟨e, he, hev⟩ := he
  unfold toAt at he
  cases hb : f.blocks[k]? with
  | none => rw [hb] at he; cases he
  | some b =>
   rw [hb] at he
   have := hf.edges b (Yd hb) e he
   omega
 ·obtain ⟨n2, e2, h2⟩ := s1 n hn
  have : n = n2 := by omega
  subst this
  exact h2
theorem pre_is {f : SFunc} {L : List Loop} (hf : FuncOk f) (hL : LoopsOf f L) : PreOk f.blocks (preG f L).blocks (hdN L) (redT L) := by
 have hl : (hdN L).length = L.length := Yi ..
 refine ⟨?_, fun k b hb => ?_, fun k b e m hb he hr => ?_, fun m h hm => ?_, fun m h hm => ?_⟩
 ·show (redL L f.blocks.length 0 f.blocks ++ newBs f.blocks (freshF f.blocks) L).length = _
  rw [Yaa, redL_len, newBs_len, hl]
 ·show (redL L f.blocks.length 0 f.blocks ++ newBs f.blocks (freshF f.blocks) L)[k]? = _
  rw [Yaj (by rw [redL_len]; exact (Yc.1 hb).1), redL_get, hb, Ybh]
  rfl
 ·obtain ⟨x, hx, ho⟩ := red_some hr
  unfold hdN
  rw [Yh, hx]
  show some x.1.toNat = _
  rw [(out_iff.1 ho).1]
 ·have hml := (Yc.1 hm).1
  obtain ⟨x, hx⟩ := get_of_lt L m (by omega)
  obtain ⟨h2, e1, e2, _⟩ := lo_head hf hL hx
  rw [hm] at e2
  injection e2 with e2
  subst e2
  refine ⟨newP (frAt f.blocks (freshF f.blocks) (L.take m)) (parN f.blocks x), ?_, ?_⟩
  ·show (redL L f.blocks.length 0 f.blocks ++ newBs f.blocks (freshF f.blocks) L)[f.blocks.length + m]? = _
   rw [Yan (by rw [redL_len]; omega), redL_len, Nat.add_sub_cancel_left, newBs_get _ _ _ _ _ hx]
   unfold preB
   rw [e1]
  ·unfold newP parN
   rw [Yi, List.length_range, e1]
 ·have hml := (Yc.1 hm).1
  obtain ⟨x, hx⟩ := get_of_lt L m (by omega)
  obtain ⟨h2, e1, e2, e3, e4, _⟩ := lo_head hf hL hx
  rw [hm] at e2
  injection e2 with e2
  subst e2
  exact ⟨e3, e4⟩
theorem newP_mem {fr : Int} {n : Nat} {x : Int} : x ∈ newP fr n ↔ fr ≤ x ∧ x < fr + n := by
 unfold newP
 rw [Yf]
 constructor
 ·rintro ⟨i, hi, rfl⟩
  have := Yae.1 hi
  omega
 ·rintro ⟨h1, h2⟩
  exact ⟨(x - fr).toNat, Yae.2 (by omega), by omega⟩
theorem newP_nodup (fr : Int) (n : Nat) : (newP fr n).Nodup := by
 unfold newP
 rw [List.Nodup, Yas]
 exact List.nodup_range.imp fun hne e => hne (by omega)
theorem defs_redL (L : List Loop) (n : Nat) : ∀ (l : List SBlock) (k : Nat) (m : Int), defsL m (redL L n k l) = defsL m l
 | [], k, m => rfl
 | b :: l, k, m => by
  rw [redL, defsL, defsL, defs_redL L n l]
  rfl
theorem insN_redL (L : List Loop) (n : Nat) : ∀ (l : List SBlock) (k : Nat), insN (redL L n k l) = insN l
 | [], k => rfl
 | b :: l, k => by
  rw [redL, insN, insN, insN_redL L n l]
  rfl
theorem insN_newBs (bs : List SBlock) : ∀ (L : List Loop) (fr : Int), insN (newBs bs fr L) = 0
 | [], fr => rfl
 | x :: l, fr => by rw [newBs, insN, insN_newBs bs l]; rfl
theorem keys_new (bs : List SBlock) : ∀ (L : List Loop) (fr k : Int), (keys (defsL k (newBs bs fr L))).Nodup ∧ ∀ x ∈ keys (defsL k (newBs bs fr L)), fr ≤ x ∧ x < frAt bs fr L
 | [], fr, k => ⟨Ybe, fun x hx => by cases hx⟩
 | y :: l, fr, k => by
  obtain ⟨h1, h2⟩ := keys_new bs l (fr + (parN bs y : Nat)) (k + 1)
  have e : keys (defsL k (newBs bs fr (y :: l))) = newP fr (parN bs y) ++ keys (defsL (k + 1) (newBs bs (fr + (parN bs y : Nat)) l)) := by
   rw [newBs, defsL]
   unfold keys
   rw [Yl]
   congr 1
   rw [defsB_eq, Yaf]
   show (dB (preB fr (parN bs y) y.1)).map (fun e => e.1) = _
   unfold dB preB
   rw [Yl, Yaf]
   show (newP fr (parN bs y)).map id ++ [] = _
   rw [List.map_id, Yam]
  rw [e, frAt]
  have h3 := frAt_le bs l (fr + (parN bs y : Nat))
  refine ⟨Yt.2 ⟨newP_nodup _ _, h1, fun a ha b hb e => ?_⟩, fun x hx => ?_⟩
  ·have := newP_mem.1 ha
   have := h2 b hb
   omega
  ·rcases Yk.1 hx with hx | hx
   ·have := newP_mem.1 hx
    omega
   ·have := h2 x hx
    omega
theorem dget_left {u : Int} {p : Int × Int} : ∀ {a : Defs} {b : Defs}, dget a u = some p → dget (a ++ b) u = some p
 | [], b, h => by cases h
 | (k, q) :: a, b, h => by
  rw [Yab, dget]
  rw [dget] at h
  split at h
  ·rename_i e
   rw [if_pos e]
   exact h
  ·rename_i e
   rw [if_neg e]
   exact dget_left h
theorem pre_ok {f : SFunc} {L : List Loop} (h0 : funcF f = 0) (hL : LoopsOf f L) (hl : (preG f L).blocks.length ≤ 128) (hn : frAt f.blocks (freshF f.blocks) L ≤ 4096) : funcF (preG f L) = 0 := by
 have hok := func_ok h0
 have hE := hok.edges
 have fi := func_iff.1 h0
 have h := pre_is hok hL
 obtain ⟨G, hG⟩ : ∃ G, G = (preG f L).blocks := ⟨_, rfl⟩
 rw [← hG] at h hl
 have hlen := h.len
 have hpos := hok.pos
 have hHl : (hdN L).length = L.length := Yi ..
 have hpar : ∀ v : Int, 0 ≤ v → v < f.blocks.length → paramsOf G v = paramsOf f.blocks v := fun v h1 h2 => by
  obtain ⟨b, hb⟩ := get_of_lt f.blocks v.toNat (by omega)
  rw [paramsOf_get (h.old _ b hb), paramsOf_get hb]
  rfl
 obtain ⟨DN, hDN⟩ : ∃ DN, DN = defsL (f.blocks.length : Nat) (newBs f.blocks (freshF f.blocks) L) := ⟨_, rfl⟩
 have hdefs : defsL 0 G = defsL 0 f.blocks ++ DN := by
  rw [hG, hDN]
  show defsL 0 (redL L f.blocks.length 0 f.blocks ++ newBs f.blocks (freshF f.blocks) L) = _
  rw [defsL_append, defs_redL, redL_len, Int.zero_add]
 have hnew := keys_new f.blocks L (freshF f.blocks) (f.blocks.length : Nat)
 rw [← hDN] at hnew
 have hold : ∀ x ∈ keys (defsL 0 f.blocks), x < freshF f.blocks := fun x hx => (fresh_ok hok).2.2 x (by
  have : keys (defsL 0 f.blocks) = valuesL f.blocks := dkeys_defsL ..
  rw [← this]
  exact hx)
 have hkok : KOk [] (defsL 0 G) := by
  rw [hdefs]
  have e : keys (defsL 0 f.blocks ++ DN) = keys (defsL 0 f.blocks) ++ keys DN := Yl
  refine ⟨fun x hx => ?_, ?_, mem_zero_key⟩
  ·rw [e] at hx
   rcases Yk.1 hx with hx | hx
   ·exact fi.kok.wi x hx
   ·have := hnew.2 x hx
    have := (fresh_ok hok).1
    exact wi_iff.2 ⟨by omega, by omega⟩
  ·rw [e]
   exact Yt.2 ⟨fi.kok.nodup, hnew.1, fun a ha b hb e2 => by
    have := hold a ha
    have := hnew.2 b hb
    omega⟩
 have hget : ∀ (i : Nat) (c : SBlock), G[i]? = some c → (∃ b, f.blocks[i]? = some b ∧ c = setTo b (b.term.to.map fun e => match redT L i e with
   | some m => ⟨((f.blocks.length + m : Nat) : Int), e.args⟩
   | none => e)) ∨ ∃ (m hd : Nat) (ps : List Int), i = f.blocks.length + m ∧ (hdN L)[m]? = some hd ∧ c = ⟨ps, [], ⟨1, 0, 0, [], [⟨(hd : Int), ps⟩]⟩⟩ ∧ ps.length = (paramsOf f.blocks hd).length := fun i c hc => by
  have hil := (Yc.1 hc).1
  by_cases hi : i < f.blocks.length
  ·obtain ⟨b, hb⟩ := get_of_lt f.blocks i (by omega)
   have := h.old i b hb
   rw [hc] at this
   injection this with this
   exact .inl ⟨b, hb, this⟩
  ·obtain ⟨hd, hm⟩ := get_of_lt (hdN L) (i - f.blocks.length) (by omega)
   obtain ⟨ps, g1, g2⟩ := h.new _ hd hm
   rw [show f.blocks.length + (i - f.blocks.length) = i by omega, hc] at g1
   injection g1 with g1
   exact .inr ⟨i - f.blocks.length, hd, ps, by omega, hm, g1, g2⟩
 have hnpar : ∀ (m hd : Nat), (hdN L)[m]? = some hd → (paramsOf G ((f.blocks.length + m : Nat) : Int)).length = (paramsOf f.blocks hd).length := fun m hd hm => by
  obtain ⟨ps, g1, g2⟩ := h.new m hd hm
  rw [paramsOf_get (k := ((f.blocks.length + m : Nat) : Int)) (by rw [Ybl]; exact g1)]
  exact g2
 have hed : ∀ (i : Nat) (b : SBlock), f.blocks[i]? = some b → ∀ e ∈ b.term.to, ∀ e' : SEdge, (match redT L i e with
   | some m => (⟨((f.blocks.length + m : Nat) : Int), e.args⟩ : SEdge)
   | none => e) = e' → 1 ≤ e'.block ∧ e'.block < G.length ∧ e'.args.length = (paramsOf G e'.block).length := fun i b hb e he e' he' => by
  obtain ⟨x1, x2, x3⟩ := (endF_ok (fi.block b (Yd hb)).2).edges e he
  cases hr : redT L i e with
  | none =>
   rw [hr] at he'
   have he' : e = e' := he'
   subst he'
   exact ⟨x1, by omega, by rw [hpar _ (by omega) x2]; exact x3⟩
  | some m =>
   rw [hr] at he'
   have he' : (⟨((f.blocks.length + m : Nat) : Int), e.args⟩ : SEdge) = e' := he'
   subst he'
   have hm := h.red i b e m hb he hr
   have hml := (Yc.1 hm).1
   refine ⟨by dsimp only; omega, by dsimp only; omega, ?_⟩
   dsimp only
   rw [hnpar m _ hm, x3, show ((e.block.toNat : Nat) : Int) = e.block by omega]
 have hblk : ∀ c ∈ G, blockOk G c := fun c hc => by
  obtain ⟨i, hi⟩ := Yo hc
  rcases hget i c hi with ⟨b, hb, rfl⟩ | ⟨m, hd, ps, rfl, hm, rfl, hps⟩
  ·have hbm := Yd hb
   obtain ⟨b1, b2⟩ := fi.block b hbm
   refine ⟨b1, ?_⟩
   have he := endF_ok b2
   obtain ⟨to, hto⟩ : ∃ to, to = b.term.to.map fun e => match redT L i e with
    | some m => (⟨((f.blocks.length + m : Nat) : Int), e.args⟩ : SEdge)
    | none => e := ⟨_, rfl⟩
   rw [← hto]
   have htl : to.length = b.term.to.length := by rw [hto, Yi]
   unfold endF at b2 ⊢
   have hsh : shapeF (setTo b to).term = shapeF b.term := by
    unfold shapeF setTo
    simp only [htl]
   rw [hsh, if_neg (by rw [he.shape]; decide)]
   change (if 256 < (b.term.cases.length : Int) then 2 else if b.term.kind = 4 ∧ wi b.term.n 1 6 = false then 4 else if casesF [] b.term.cases ≠ 0 then casesF [] b.term.cases else edgesF G to) = 0
   rw [if_neg (by rw [he.shape]; decide)] at b2
   split at b2
   ·cases b2
   ·rename_i h2
    rw [if_neg h2]
    split at b2
    ·cases b2
    ·rename_i h3
     rw [if_neg h3, if_neg (fun hn => hn he.cases)]
     refine edgesF_iff fun e' he' => ?_
     rw [hto] at he'
     obtain ⟨e, he2, hee⟩ := Yf.1 he'
     exact hed i b hb e he2 e' hee
  ·obtain ⟨q1, q2⟩ := h.hlt m hd hm
   refine ⟨fun i hi => (by cases hi), ?_⟩
   have h2 : edgesF G [⟨(hd : Int), ps⟩] = 0 := edgesF_iff fun x hx => by
    rw [Yg.1 hx]
    exact ⟨by dsimp only; omega, by dsimp only; omega, by dsimp only; rw [hpar _ (by omega) (by omega)]; exact hps⟩
   show endF _ ⟨1, 0, 0, [], [⟨(hd : Int), ps⟩]⟩ = 0
   unfold endF
   rw [if_neg (by simp [shapeF]), if_neg (by simp), if_neg (by simp), if_neg (by simp [casesF])]
   exact h2
 have hEg : ∀ b ∈ G, ∀ e ∈ b.term.to, 1 ≤ e.block ∧ e.block < G.length := fun b hb e he => by
  have := (endF_ok (hblk b hb).2).edges e he
  exact ⟨this.1, this.2.1⟩
 have hgpos : 0 < G.length := by omega
 have hlen128 := hok.len
 have hinsN : insN G = insN f.blocks := by
  rw [hG]
  show insN (redL L f.blocks.length 0 f.blocks ++ newBs f.blocks (freshF f.blocks) L) = _
  rw [insN_append, insN_redL, insN_newBs, Ybj]
 refine func_iff.2 ⟨by rw [← hG]; exact hgpos, by rw [← hG]; exact hl, by rw [← hG, hinsN]; exact fi.ins, ?_, fi.name, by rw [← hG]; exact hkok, by rw [← hG]; exact hblk, ?_⟩
 ·rw [← hG, hpar 0 (Ybm _) (by omega)]
  exact fi.params
 ·rw [← hG]
  refine usesF_iff.2 fun i c hi => ?_
  rw [Ybh]
  have hil := (Yc.1 hi).1
  have hunseen : ∀ {at_ u : Int}, (¬ ∃ l, Way G l i) → (dget (defsL 0 G) u).isSome = true → fineF (defsL 0 G) (domF G) i at_ u = true := fun {at_ u} hn hs => by
   have hsn : (domF G).seen.has i = false := by
    cases hc : (domF G).seen.has i with
    | false => rfl
    | true => exact absurd ((seen_iff hgpos hl hEg (by omega)).1 hc) hn
   unfold fineF
   cases hg : dget (defsL 0 G) u with
   | none => rw [hg] at hs; cases hs
   | some p => dsimp only; rw [hsn]; simp
  rcases hget i c hi with ⟨b, hb, rfl⟩ | ⟨m, hd, ps, rfl, hm, rfl, hps⟩
  ·have hu := usesF_iff.1 fi.uses i b hb
   rw [Ybh] at hu
   have hin : i < f.blocks.length := (Yc.1 hb).1
   have hfine : ∀ n u, fineF (defsL 0 f.blocks) (domF f.blocks) i n u = true → fineF (defsL 0 G) (domF G) i n u = true := fun n u hf => by
    unfold fineF at hf
    cases hg : dget (defsL 0 f.blocks) u with
    | none => rw [hg] at hf; cases hf
    | some p =>
     rw [hg] at hf
     dsimp only at hf
     obtain ⟨j, bj, hbj, hp1, hp2⟩ := defsL_at.1 ((dget_at fi.kok.nodup).1 hg)
     obtain ⟨p1, q⟩ := p
     have hp1 : p1 = (0 : Int) + j := hp1
     rw [Int.zero_add] at hp1
     subst hp1
     have hjl := (Yc.1 hbj).1
     have hgG : dget (defsL 0 G) u = some ((j : Int), q) := by rw [hdefs]; exact dget_left hg
     by_cases hr : ∃ l, Way G l i
     ·have hw := (pre_reach h hE hpos hin).1 hr
      have hseen : (domF f.blocks).seen.has i = true := (seen_iff hok.pos hok.len hE (by omega)).2 hw
      rw [hseen] at hf
      simp only [Bool.not_true, Bool.or_false, Bool.or_eq_true, Bool.and_eq_true, decide_eq_true_eq, Ybl] at hf
      unfold fineF
      rw [hgG]
      dsimp only
      rcases hf with ⟨h1, h2⟩ | ⟨h1, h2⟩
      ·simp [h1, h2]
      ·have hd := (has_iff hok.pos hok.len hE hw hin hjl).1 h2
       have hh : ((domF G).at i).has j = true := (has_iff hgpos hl hEg hr hil (by omega)).2 ((pre_doms h hE hpos hjl hin).2 hd)
       rw [Ybl, hh]
       simp [h1]
     ·exact hunseen hr (by rw [hgG]; rfl)
   refine ⟨usesIns_imp hfine hu.1, ?_⟩
   have h2 := hu.2
   obtain ⟨to, hto⟩ : ∃ to, to = b.term.to.map fun e => match redT L i e with
    | some m => (⟨((f.blocks.length + m : Nat) : Int), e.args⟩ : SEdge)
    | none => e := ⟨_, rfl⟩
   rw [← hto]
   show usedF { b.term with to := to } (fineF _ _ i b.ins.length) = true
   unfold usedF at h2 ⊢
   dsimp only
   split at h2
   ·cases h2
   ·rename_i h1
    rw [if_neg (fun h3 => h1 ⟨h3.1, by
     cases hc : fineF (defsL 0 f.blocks) (domF f.blocks) i b.ins.length b.term.arg with
     | false => rfl
     | true => rw [hfine _ _ hc] at h3; exact absurd h3.2 (by decide)⟩)]
    rw [Yz] at h2 ⊢
    intro e' he'
    rw [hto] at he'
    obtain ⟨e, he2, hee⟩ := Yf.1 he'
    have hargs : e'.args = e.args := by
     cases hr : redT L i e with
     | none => rw [hr] at hee; have hee : e = e' := hee; rw [hee]
     | some m => rw [hr] at hee; have hee : (⟨((f.blocks.length + m : Nat) : Int), e.args⟩ : SEdge) = e' := hee; rw [← hee]
    have := h2 e he2
    rw [hargs]
    rw [Yz] at this ⊢
    exact fun u hu2 => hfine _ u (this u hu2)
  ·refine ⟨rfl, ?_⟩
   show usedF ⟨1, 0, 0, [], [⟨(hd : Int), ps⟩]⟩ _ = true
   unfold usedF
   rw [if_neg (fun h3 => h3.1.1 rfl), Yz]
   intro e' he'
   rw [Yg.1 he', Yz]
   intro u hu2
   have hg : dget (defsL 0 G) u = some (((f.blocks.length + m : Nat) : Int), 0) := by
    refine (dget_at hkok.nodup).2 (defsL_at.2 ⟨f.blocks.length + m, _, hi, (Int.zero_add _).symm, ?_⟩)
    exact Yq _ (Yf.2 ⟨u, hu2, rfl⟩)
   unfold fineF
   rw [hg]
   simp
def Back (f : SFunc) (k v : Nat) : Prop := k ∈ orderF f.blocks ∧ Edge f.blocks k v ∧ Doms f.blocks v k
theorem back_nat {f : SFunc} (hf : FuncOk f) {k v : Nat} (h : Back f k v) : NatLoop f v k := .latch h.1 h.2.1 ((domsF_reach hf h.1).2 h.2.2)
section
variable {f : SFunc} {L : List Loop} (h0 : funcF f = 0) (hL : LoopsOf f L) (hg0 : funcF (preG f L) = 0)
include h0 hL hg0
theorem pre_order {v : Nat} (hv : v < f.blocks.length) : v ∈ orderF (preG f L).blocks ↔ v ∈ orderF f.blocks := by
 have hok := func_ok h0
 rw [order_iff (func_ok hg0), order_iff hok]
 exact pre_reach (pre_is hok hL) hok.edges hok.pos hv
theorem into_out {k m : Nat} (hi : Into f.blocks (redT L) k m) : ∃ x hd, L[m]? = some x ∧ (hdN L)[m]? = some hd ∧ Edge f.blocks k hd ∧ ¬ NatLoop f hd k := by
 obtain ⟨b, e, h1, h2, h3⟩ := hi
 obtain ⟨x, hx, ho⟩ := red_some h3
 obtain ⟨hd, e1, e2, e3, e4, e5, e6⟩ := lo_head (func_ok h0) hL hx
 obtain ⟨o1, o2⟩ := out_iff.1 ho
 exact ⟨x, hd, hx, e2, ⟨e, by rw [toAt_get h1]; exact h2, by omega⟩, fun hn => o2 ((e6 k).2 hn)⟩
theorem pre_back {k v : Nat} : Back (preG f L) k v ↔ Back f k v := by
 have hok := func_ok h0
 have gok := func_ok hg0
 have h := pre_is hok hL
 have hE := hok.edges
 constructor
 ·rintro ⟨h1, h2, h3⟩
  rcases g_edge h hE h2 with ⟨g1, g2, g3⟩ | ⟨m, g1, g2, g3, g4⟩ | ⟨m, g1, g2⟩
  ·exact ⟨(pre_order h0 hL hg0 g1).1 h1, stays_edge g3, (pre_doms h hE hok.pos g2 g1).1 h3⟩
  ·exfalso
   obtain ⟨x, hd, _, i2, i3, i4⟩ := into_out h0 hL hg0 g4
   subst g2
   have hd2 := new_doms h hE hok.pos i2 g1 h3
   exact i4 (back_nat hok ⟨(pre_order h0 hL hg0 g1).1 h1, i3, hd2⟩)
  ·exfalso
   subst g1
   have hml := (Yc.1 g2).1
   obtain ⟨l, hw⟩ := (order_iff gok).1 h1
   obtain ⟨q, l0, i1, i2, i3, i4, i5, _⟩ := (pre_way h hE hok.pos hw).2 m rfl hml
   obtain ⟨x, hd, _, j2, j3, j4⟩ := into_out h0 hL hg0 i3
   rw [g2] at j2
   injection j2 with j2
   subst j2
   have hvl := (h.hlt m v g2).2
   refine j4 (back_nat hok ⟨(order_iff hok).2 ⟨l0, i4⟩, j3, fun l1 w1 => ?_⟩)
   obtain ⟨l2, w2, s2⟩ := way_pre h hE w1
   rcases h3 _ (.step w2 (into_g h i3)) with e1 | e1
   ·omega
   ·rcases Ye.1 e1 with e1 | e1
    ·exact .inl e1
    ·exact .inr (s2 v e1 hvl)
 ·rintro ⟨h1, h2, h3⟩
  have ho := order_ok hok.pos hE
  have hkl := ho.lt k h1
  rcases edge_cases (red := redT L) h2 with hs | ⟨b, e, m, e1, e2, e3, e4⟩
  ·have hvl : v < f.blocks.length := by
    obtain ⟨b, e, a1, a2, a3, a4⟩ := hs
    have := hE b (Yd a1) e a2
    omega
   exact ⟨(pre_order h0 hL hg0 hkl).2 h1, stays_g h hs, (pre_doms h hE hok.pos hvl hkl).2 h3⟩
  ·exfalso
   obtain ⟨x, hd, _, j2, j3, j4⟩ := into_out h0 hL hg0 (k := k) (m := m) ⟨b, e, e1, e2, e4⟩
   have := h.red k b e m e1 e2 e4
   rw [j2, e3] at this
   injection this with this
   subst this
   exact j4 (back_nat hok ⟨h1, h2, h3⟩)
end
def isBk (f : SFunc) (k : Int) (e : SEdge) : Bool := (backsF f).any fun y => decide ((k, e.block) = y)
def fwdL (f : SFunc) (k : Nat) : List Int := ((toAt f.blocks k).filter fun e => !isBk f k e).map (·.block)
def fwdT (f : SFunc) (l : List Nat) : List Int := l.flatMap (fwdL f)
def Fwd (f : SFunc) (k v : Nat) : Prop := Edge f.blocks k v ∧ ¬ Back f k v
def Rank (f : SFunc) : Prop := ∃ r : Nat → Nat, ∀ k ∈ orderF f.blocks, ∀ v, Fwd f k v → r k < r v
section
variable {f : SFunc} (hf : FuncOk f)
include hf
end
def restN (f : SFunc) (D : List Nat) : List Nat := (reachN f).filter fun k => decide (k ∉ D)
structure KInv (f : SFunc) (D Wk : List Nat) (M : List Int) (post : List Int) : Prop where
 mem : ∀ v ∈ D ++ Wk, v ∈ orderF f.blocks
 nodup : (D ++ Wk).Nodup
 push : ∀ v ∈ orderF f.blocks, v ∈ D ++ Wk ↔ (v : Int) ∉ post ++ fwdT f (restN f D)
 len : M.length = f.blocks.length
 cnt : ∀ t : Nat, t < f.blocks.length → M[t]? = some (((post ++ fwdT f (restN f D)).count (t : Int) : Nat) : Int)
 sub : ∀ x ∈ post, ∃ t : Nat, x = t ∧ t ∈ orderF f.blocks ∧ t < f.blocks.length
 rank : ∀ (i v : Nat), D[i]? = some v → ∀ k ∈ orderF f.blocks, Fwd f k v → k ∈ D.take i
section
variable {f : SFunc} (hf : FuncOk f)
include hf
end
noncomputable def redF (f : SFunc) : Bool := by classical exact decide (Rank f)
section
variable {f : SFunc} (hf : FuncOk f)
include hf
structure CInv (f : SFunc) (l : List Int) (M : List Int) : Prop where
 len : M.length = f.blocks.length
 cnt : ∀ t : Nat, t < f.blocks.length → M[t]? = some ((l.count (t : Int) : Nat) : Int)
end
inductive Leads (bs : List SBlock) (a : Nat) : Nat → Prop where
 | refl : Leads bs a a
 | step {p v : Nat} : Leads bs a p → Edge bs p v → Leads bs a v
theorem Leads.trans {bs : List SBlock} {a b c : Nat} (h : Leads bs a b) (k : Leads bs b c) : Leads bs a c := by
 induction k with
 | refl => exact h
 | step _ e ih => exact ih.step e
section
variable {bs : List SBlock} {Q : Nat → Prop} (hQ : ∀ p v, Q p → Edge bs p v → Q v)
include hQ
end
def Le (s t : List Bool) : Prop := s.length = t.length ∧ ∀ k : Nat, s[k]? = some true → t[k]? = some true
theorem Le.refl (s : List Bool) : Le s s := ⟨rfl, fun _ h => h⟩
theorem Le.trans {s t u : List Bool} (h : Le s t) (k : Le t u) : Le s u := ⟨h.1.trans k.1, fun i hi => k.2 i (h.2 i hi)⟩
section
variable {bs : List SBlock} (hE : ∀ b ∈ bs, ∀ e ∈ b.term.to, 1 ≤ e.block ∧ e.block < bs.length)
include hE
end
section
variable {f : SFunc} (hf : FuncOk f)
include hf
end
def outE (x : Loop) (k : Nat) : Nat → List SEdge → List (Nat × Nat)
 | _, [] => []
 | n, e :: l => (if isOut x k e = true then [(k, n)] else []) ++ outE x k (n + 1) l
def outB (x : Loop) : Nat → List SBlock → List (Nat × Nat)
 | _, [] => []
 | k, b :: l => outE x k 0 b.term.to ++ outB x (k + 1) l
def outF (f : SFunc) (x : Loop) : List (Nat × Nat) := outB x 0 f.blocks
theorem outE_mem {x : Loop} {k : Nat} {p : Nat × Nat} : ∀ {l : List SEdge} {n : Nat}, p ∈ outE x k n l ↔ ∃ (i : Nat) (e : SEdge), p = (k, n + i) ∧ l[i]? = some e ∧ isOut x k e = true
 | [], n => by simp [outE]
 | d :: l, n => by
  rw [outE, Yk, outE_mem (l := l)]
  constructor
  ·rintro (h | ⟨i, e, rfl, he, ho⟩)
   ·split at h
    ·rename_i ho
     rw [Yg] at h
     exact ⟨0, d, h, rfl, ho⟩
    ·cases h
   ·exact ⟨i + 1, e, by rw [show n + 1 + i = n + (i + 1) by omega], he, ho⟩
  ·rintro ⟨i, e, rfl, he, ho⟩
   cases i with
   | zero =>
    have he : d = e := by simpa using he
    subst he
    exact .inl (by rw [if_pos ho]; exact Yg.2 rfl)
   | succ i => exact .inr ⟨i, e, by rw [show n + 1 + i = n + (i + 1) by omega], he, ho⟩
theorem outB_mem {x : Loop} {v m : Nat} : ∀ {l : List SBlock} {k : Nat}, (v, m) ∈ outB x k l ↔ ∃ (i : Nat) (b : SBlock) (e : SEdge), v = k + i ∧ l[i]? = some b ∧ b.term.to[m]? = some e ∧ isOut x v e = true
 | [], k => by simp [outB]
 | c :: l, k => by
  rw [outB, Yk, outB_mem (l := l), outE_mem]
  constructor
  ·rintro (⟨i, e, hp, he, ho⟩ | ⟨i, b, e, rfl, hb, he, ho⟩)
   ·injection hp with h1 h2
    subst h1
    rw [Ybh] at h2
    subst h2
    exact ⟨0, c, e, rfl, rfl, he, ho⟩
   ·exact ⟨i + 1, b, e, by omega, hb, he, ho⟩
  ·rintro ⟨i, b, e, rfl, hb, he, ho⟩
   cases i with
   | zero =>
    have hb : c = b := by simpa using hb
    subst hb
    exact .inl ⟨m, e, by rw [Ybh]; rfl, he, ho⟩
   | succ i => exact .inr ⟨i, b, e, by omega, hb, he, ho⟩
theorem outF_mem {f : SFunc} {x : Loop} {v m : Nat} : (v, m) ∈ outF f x ↔ ∃ (b : SBlock) (e : SEdge), f.blocks[v]? = some b ∧ b.term.to[m]? = some e ∧ isOut x v e = true := by
 unfold outF
 rw [outB_mem]
 constructor
 ·rintro ⟨i, b, e, hv, hb, he, ho⟩
  have : v = i := by omega
  subst this
  exact ⟨b, e, hb, he, ho⟩
 ·rintro ⟨b, e, hb, he, ho⟩
  exact ⟨v, b, e, by omega, hb, he, ho⟩
def setB (t : List SEdge) (m : Nat) (N : Int) : List SEdge := match t[m]? with
 | some e => t.set m ⟨N, e.args⟩
 | none => t
def stT (N : Int) (T : List (List SEdge)) (p : Nat × Nat) : List (List SEdge) := match T[p.1]? with
 | some t => T.set p.1 (setB t p.2 N)
 | none => T
def tosF (f : SFunc) (L : List Loop) : List (List SEdge) := (redL L f.blocks.length 0 f.blocks).map fun b => b.term.to
theorem tosF_get {f : SFunc} {L : List Loop} {v : Nat} : (tosF f L)[v]? = f.blocks[v]?.map fun b => b.term.to.map (redE L f.blocks.length v) := by
 unfold tosF
 rw [Yh, redL_get, Option.map_map, Ybh]
 rfl
theorem tosF_len (f : SFunc) (L : List Loop) : (tosF f L).length = f.blocks.length := by rw [tosF, Yi, redL_len]
theorem setB_get {t : List SEdge} {m : Nat} {N : Int} {e : SEdge} (h : t[m]? = some e) : setB t m N = t.set m ⟨N, e.args⟩ := by rw [setB, h]
theorem setB_len {t : List SEdge} {m : Nat} {N : Int} : (setB t m N).length = t.length := by
 unfold setB
 split
 ·rw [Yao]
 ·rfl
theorem stT_get {N : Int} {T : List (List SEdge)} {p : Nat × Nat} {t : List SEdge} (h : T[p.1]? = some t) : stT N T p = T.set p.1 (setB t p.2 N) := by rw [stT, h]
theorem stT_fold {N : Int} : ∀ (ps : List (Nat × Nat)) (T : List (List SEdge)), (ps.foldl (stT N) T).length = T.length ∧ ∀ (v : Nat) (t : List SEdge), T[v]? = some t → ∃ t', (ps.foldl (stT N) T)[v]? = some t' ∧ t'.length = t.length ∧ ∀ (m : Nat) (e : SEdge), t[m]? = some e → t'[m]? = some (if (v, m) ∈ ps then ⟨N, e.args⟩ else e)
 | [], T => ⟨rfl, fun v t h => ⟨t, h, rfl, fun m e he => by rw [if_neg (by simp)]; exact he⟩⟩
 | p :: ps, T => by
  obtain ⟨h1, h2⟩ := stT_fold ps (stT N T p)
  have hl : (stT N T p).length = T.length := by
   unfold stT
   split
   ·rw [Yao]
   ·rfl
  refine ⟨h1.trans hl, fun v t hv => ?_⟩
  by_cases hp : p.1 = v
  ·subst hp
   rw [Yw]
   obtain ⟨t', g1, g2, g3⟩ := h2 p.1 (setB t p.2 N) (by rw [stT_get hv, List.getElem?_set_self (Yc.1 hv).1])
   refine ⟨t', g1, g2.trans setB_len, fun m e he => ?_⟩
   by_cases hm : p.2 = m
   ·subst hm
    rw [if_pos (Ya ..)]
    rw [setB_get he] at g3
    have := g3 p.2 ⟨N, e.args⟩ (List.getElem?_set_self (Yc.1 he).1)
    rw [this]
    split <;> rfl
   ·have he2 : (setB t p.2 N)[m]? = some e := by
     unfold setB
     split
     ·rw [Yak hm]; exact he
     ·exact he
    rw [g3 m e he2]
    congr 1
    have hiff : (p.1, m) ∈ p :: ps ↔ (p.1, m) ∈ ps := by
     rw [Ye]
     exact ⟨fun h => h.resolve_left fun h => hm (by rw [← h]), .inr⟩
    by_cases h : (p.1, m) ∈ ps
    ·rw [if_pos h, if_pos (hiff.2 h)]
    ·rw [if_neg h, if_neg (fun h2 => h (hiff.1 h2))]
  ·rw [Yw]
   obtain ⟨t', g1, g2, g3⟩ := h2 v t (by
    unfold stT
    split
    ·rw [Yak hp]; exact hv
    ·exact hv)
   refine ⟨t', g1, g2, fun m e he => ?_⟩
   rw [g3 m e he]
   congr 1
   have hiff : (v, m) ∈ p :: ps ↔ (v, m) ∈ ps := by
    rw [Ye]
    exact ⟨fun h => h.resolve_left fun h => hp (by rw [← h]), .inr⟩
   by_cases h : (v, m) ∈ ps
   ·rw [if_pos h, if_pos (hiff.2 h)]
   ·rw [if_neg h, if_neg (fun h2 => h (hiff.1 h2))]
theorem redT_snoc {L : List Loop} {x : Loop} {k : Nat} {e : SEdge} : redT (L ++ [x]) k e = (redT L k e).or (if isOut x k e = true then some L.length else none) := by
 unfold redT
 rw [List.findIdx?_append]
 congr 1
 by_cases h : isOut x k e = true
 ·rw [if_pos h]
  simp [List.findIdx?_cons, h]
 ·rw [if_neg h]
  simp [List.findIdx?_cons, h]
theorem tos_step {f : SFunc} {L : List Loop} {x : Loop} (hx : x.1 ∉ L.map (·.1)) : (outF f x).foldl (stT ((f.blocks.length + L.length : Nat) : Int)) (tosF f L) = tosF f (L ++ [x]) := by
 obtain ⟨h1, h2⟩ := stT_fold (N := ((f.blocks.length + L.length : Nat) : Int)) (outF f x) (tosF f L)
 apply List.ext_getElem?
 intro v
 by_cases hv : v < f.blocks.length
 ·obtain ⟨b, hb⟩ := get_of_lt f.blocks v (by omega)
  obtain ⟨t', g1, g2, g3⟩ := h2 v (b.term.to.map (redE L f.blocks.length v)) (by rw [tosF_get, hb]; rfl)
  rw [g1, tosF_get, hb, Option.map_some]
  congr 1
  apply List.ext_getElem?
  intro m
  by_cases hm : m < b.term.to.length
  ·obtain ⟨e, he⟩ := get_of_lt b.term.to m (by omega)
   rw [g3 m (redE L f.blocks.length v e) (by rw [Yh, he]; rfl), Yh, he, Option.map_some]
   congr 1
   have hmem : (v, m) ∈ outF f x ↔ isOut x v e = true := by
    rw [outF_mem]
    constructor
    ·rintro ⟨c, d, hc, hd, ho⟩
     rw [hb] at hc
     injection hc with hc
     subst hc
     rw [he] at hd
     injection hd with hd
     subst hd
     exact ho
    ·intro ho
     exact ⟨b, e, hb, he, ho⟩
   by_cases ho : isOut x v e = true
   ·rw [if_pos (hmem.2 ho)]
    have hn : redT L v e = none := by
     cases hr : redT L v e with
     | none => rfl
     | some i =>
      exfalso
      obtain ⟨y, hy, hyo⟩ := red_some hr
      have a1 := (out_iff.1 hyo).1
      have a2 := (out_iff.1 ho).1
      exact hx (Yf.2 ⟨y, Yd hy, by rw [← a1, a2]⟩)
    unfold redE
    rw [redT_snoc, hn, if_pos ho]
    rfl
   ·rw [if_neg (fun h => ho (hmem.1 h))]
    unfold redE
    rw [redT_snoc, if_neg ho]
    cases redT L v e <;> rfl
  ·rw [Yah (by rw [g2, Yi]; omega), Yah (by rw [Yi]; omega)]
 ·rw [Yah (by rw [h1, tosF_len]; omega), Yah (by rw [tosF_len]; omega)]
def skipB (f : SFunc) (x : Loop) : Bool := match outF f x with
 | [p] => decide ((toAt f.blocks p.1).length = 1)
 | _ => false
def preI (f : SFunc) (i : Nat) : List Loop := ((findF f).take i).filter fun x => !skipB f x
def preL (f : SFunc) : List Loop := (findF f).filter fun x => !skipB f x
def preF (f : SFunc) : SFunc := preG f (preL f)
theorem preI_end (f : SFunc) : preI f (findF f).length = preL f := by rw [preI, List.take_length]; rfl
theorem preI_skip {f : SFunc} {i : Nat} {x : Loop} (h : (findF f)[i]? = some x) (hs : skipB f x = true) : preI f (i + 1) = preI f i := by
 unfold preI
 rw [take_snoc h, Yaw, Yac, hs]
 exact Yam _
theorem preI_new {f : SFunc} {i : Nat} {x : Loop} (h : (findF f)[i]? = some x) (hs : skipB f x = false) : preI f (i + 1) = preI f i ++ [x] := by
 unfold preI
 rw [take_snoc h, Yaw, Yac, hs]
 rfl
theorem preI_len {f : SFunc} {i : Nat} : (preI f i).length ≤ i := Nat.le_trans (Yav ..) (List.length_take_le ..)
theorem find_heads (f : SFunc) : (findF f).map (·.1) = headsF f := by
 unfold findF
 rw [Yaf]
 exact List.map_id _
theorem loopsOf_pre (f : SFunc) : LoopsOf f (preL f) := ⟨fun x hx => (Yv.1 hx).1, by
 have h := heads_nodup f
 rw [← find_heads] at h
 exact h.sublist (List.filter_sublist.map _)⟩
theorem preI_fresh {f : SFunc} {i : Nat} {x : Loop} (h : (findF f)[i]? = some x) : x.1 ∉ (preI f i).map (·.1) := fun hm => by
 obtain ⟨y, hy, e⟩ := Yf.1 hm
 have hy2 := (Yv.1 hy).1
 obtain ⟨j, hj⟩ := Yo hy2
 rw [List.getElem?_take] at hj
 split at hj
 ·rename_i hji
  have hn := heads_nodup f
  rw [← find_heads] at hn
  have a1 : ((findF f).map (·.1))[j]? = some y.1 := by rw [Yh, hj]; rfl
  have a2 : ((findF f).map (·.1))[i]? = some x.1 := by rw [Yh, h]; rfl
  have : j = i := (Yaz (Yc.1 a1).1 hn).1 (a1.trans (by rw [e]; exact a2.symm))
  omega
 ·cases hj
theorem newBs_snoc (bs : List SBlock) : ∀ (L : List Loop) (fr : Int) (x : Loop), newBs bs fr (L ++ [x]) = newBs bs fr L ++ [preB (frAt bs fr L) (parN bs x) x.1]
 | [], fr, x => rfl
 | y :: l, fr, x => by rw [Yab, newBs, newBs, newBs_snoc bs l]; rfl
theorem frAt_snoc (bs : List SBlock) (L : List Loop) (fr : Int) (x : Loop) : frAt bs fr (L ++ [x]) = frAt bs fr L + (parN bs x : Nat) := by rw [frAt_app]; rfl
theorem newP_succ (fr : Int) (n : Nat) : newP fr (n + 1) = newP fr n ++ [fr + (n : Nat)] := by
 unfold newP
 rw [List.range_succ, Yl]
 rfl
theorem newP_len (fr : Int) (n : Nat) : (newP fr n).length = n := by rw [newP, Yi, List.length_range]
theorem frAt_small {bs : List SBlock} (hb : ∀ b ∈ bs, b.params.length ≤ 10000) : ∀ (L : List Loop) (fr : Int), frAt bs fr L ≤ fr + (L.length * 10000 : Nat)
 | [], fr => by show fr ≤ _; omega
 | x :: l, fr => by
  have h1 := frAt_small hb l (fr + (parN bs x : Nat))
  have h2 : parN bs x ≤ 10000 := by
   unfold parN paramsOf
   cases h : bs[x.1.toNat]? with
   | none => exact Ybk _
   | some b => exact hb b (Yd h)
  show frAt bs (fr + (parN bs x : Nat)) l ≤ _
  rw [Yn]
  omega
theorem parN_get {bs : List SBlock} {x : Loop} {b : SBlock} (h : bs[x.1.toNat]? = some b) : parN bs x = b.params.length := by
 unfold parN paramsOf
 rw [h]
 rfl
section
variable {f : SFunc} {L : List Loop} (h0 : funcF f = 0) (hL : LoopsOf f L) (hg0 : funcF (preG f L) = 0)
include h0 hL hg0
theorem nat_down {h v : Nat} (hh : h < f.blocks.length) (hv : NatLoop (preG f L) h v) : (v < f.blocks.length → NatLoop f h v) ∧ ∀ m, v = f.blocks.length + m → ∃ hd, (hdN L)[m]? = some hd ∧ hd ≠ h ∧ NatLoop f h hd := by
 have hok := func_ok h0
 have gok := func_ok hg0
 have hp := pre_is hok hL
 have hE := hok.edges
 have ho := order_ok hok.pos hE
 have back : ∀ {k : Nat}, k ∈ orderF (preG f L).blocks → Edge (preG f L).blocks k h → domsF (preG f L) h k = true → k < f.blocks.length ∧ NatLoop f h k := fun {k} h1 h2 h3 => by
  have hb := (pre_back h0 hL hg0).1 ⟨h1, h2, (domsF_reach gok h1).1 h3⟩
  exact ⟨ho.lt k hb.1, back_nat hok hb⟩
 induction hv with
 | head => exact ⟨fun _ => .head, fun m hm => by omega⟩
 | @latch k h1 h2 h3 =>
  obtain ⟨b1, b2⟩ := back h1 h2 h3
  exact ⟨fun _ => b2, fun m hm => by omega⟩
 | @pred x p hx hne hpo he ih =>
  rcases g_edge hp hE he with ⟨g1, g2, g3⟩ | ⟨m, g1, g2, g3, g4⟩ | ⟨m, g1, g2⟩
  ·exact ⟨fun _ => .pred (ih.1 g2) hne ((pre_order h0 hL hg0 g1).1 hpo) (stays_edge g3), fun m hm => by omega⟩
  ·obtain ⟨hd, i1, i2, i3⟩ := ih.2 m g2
   obtain ⟨hd2, j1, j2⟩ := into_edge hp g4
   rw [i1] at j1
   injection j1 with j1
   subst j1
   exact ⟨fun _ => .pred i3 i2 ((pre_order h0 hL hg0 g1).1 hpo) j2, fun m hm => by omega⟩
  ·have hxl := (hp.hlt m x g2).2
   refine ⟨fun hl => by omega, fun m2 hm => ?_⟩
   have : m2 = m := by omega
   subst this
   exact ⟨x, g2, hne, ih.1 hxl⟩
theorem nat_up {h v : Nat} (hh : h < f.blocks.length) (hv : NatLoop f h v) : NatLoop (preG f L) h v := by
 have hok := func_ok h0
 have gok := func_ok hg0
 have hp := pre_is hok hL
 have ho := order_ok hok.pos hok.edges
 induction hv with
 | head => exact .head
 | @latch k h1 h2 h3 => exact back_nat gok ((pre_back h0 hL hg0).2 ⟨h1, h2, (domsF_reach hok h1).1 h3⟩)
 | @pred x p hx hne hpo he ih =>
  have hpl := ho.lt p hpo
  have hpg := (pre_order h0 hL hg0 hpl).2 hpo
  have hxl := ho.lt x (ho.closed p hpo x he)
  rcases edge_cases (red := redT L) he with hs | ⟨b, e, m, e1, e2, e3, e4⟩
  ·exact .pred ih hne hpg (stays_g hp hs)
  ·have hm := hp.red p b e m e1 e2 e4
   rw [e3] at hm
   have hi := into_g hp (red := redT L) ⟨b, e, e1, e2, e4⟩
   have hmo := (order_ok gok.pos gok.edges).closed p hpg _ hi
   exact .pred (.pred ih hne hmo (new_g hp hm)) (by omega) hpg hi
theorem pre_heads : headsF (preG f L) = headsF f := by
 have hok := func_ok h0
 have gok := func_ok hg0
 have ho := order_ok hok.pos hok.edges
 have hw : ∀ (F : SFunc), FuncOk F → ∀ v : Nat, ((workF F v).isEmpty = false ↔ ∃ k : Nat, Back F k v) := fun F hF v => by
  constructor
  ·intro h
   have hne : workF F v ≠ [] := fun e => by rw [e] at h; cases h
   obtain ⟨x, hx⟩ := Ybg _ hne
   obtain ⟨k, rfl, hk, he, hd⟩ := (back_mem hF).1 hx
   exact ⟨k, hk, he, (domsF_reach hF hk).1 hd⟩
  ·rintro ⟨k, hk, he, hd⟩
   have : (k : Int) ∈ workF F v := (back_mem hF).2 ⟨k, rfl, hk, he, (domsF_reach hF hk).2 hd⟩
   cases h : workF F v with
   | nil => rw [h] at this; cases this
   | cons => rfl
 have hlen : (preG f L).blocks.length = f.blocks.length + L.length := by
  have := (pre_is hok hL).len
  unfold hdN at this
  rwa [Yi] at this
 have hsame : ∀ v : Nat, (!(workF (preG f L) v).isEmpty) = (!(workF f v).isEmpty) := fun v => by
  rw [Bool.eq_iff_iff, Bool.not_eq_true', Bool.not_eq_true', hw _ gok, hw _ hok]
  exact ⟨fun ⟨k, h⟩ => ⟨k, (pre_back h0 hL hg0).1 h⟩, fun ⟨k, h⟩ => ⟨k, (pre_back h0 hL hg0).2 h⟩⟩
 unfold headsF
 rw [hlen, List.range_add, Yl, Yaw, Yaf]
 have h2 : ((List.map ((fun (k : Nat) => (k : Int)) ∘ fun x => f.blocks.length + x) (Ym L.length)).filter fun h => !(workF (preG f L) h).isEmpty) = [] := by
  rw [List.filter_eq_nil_iff]
  intro x hx
  obtain ⟨i, _, rfl⟩ := Yf.1 hx
  show ¬ (!(workF (preG f L) ((f.blocks.length + i : Nat) : Int)).isEmpty) = true
  rw [hsame, Bool.not_eq_true']
  intro he
  obtain ⟨k, hk, hke, _⟩ := (hw _ hok _).1 he
  have := ho.lt _ (ho.closed k hk _ hke)
  omega
 rw [h2, Yam]
 exact List.filter_congr fun x hx => by
  obtain ⟨i, _, rfl⟩ := Yf.1 hx
  exact hsame i
end
theorem outE_sorted {x : Loop} {k : Nat} : ∀ {l : List SEdge} {n : Nat}, (outE x k n l).Nodup
 | [], n => Ybe
 | e :: l, n => by
  rw [outE]
  refine Yt.2 ⟨?_, outE_sorted, fun a ha b hb => ?_⟩
  ·split <;> simp
  ·intro e9
   subst e9
   split at ha
   ·rw [Yg] at ha
    subst ha
    obtain ⟨i, _, hp, _⟩ := outE_mem.1 hb
    injection hp with _ hp
    omega
   ·cases ha
theorem outB_sorted {x : Loop} : ∀ {l : List SBlock} {k : Nat}, (outB x k l).Nodup
 | [], k => Ybe
 | b :: l, k => by
  rw [outB]
  refine Yt.2 ⟨outE_sorted, outB_sorted, fun a ha b hb => ?_⟩
  intro e9
  subst e9
  obtain ⟨v, m⟩ := a
  obtain ⟨i, _, hp, _⟩ := outE_mem.1 ha
  injection hp with hp _
  obtain ⟨j, _, _, hq, _⟩ := outB_mem.1 hb
  omega
theorem one_of {α : Type} {l : List α} {p : α} (hn : l.Nodup) (h : ∀ q, q ∈ l ↔ q = p) : l = [p] := by
 have : l.Perm [p] := (List.perm_ext_iff_of_nodup hn (by simp)).2 fun q => by rw [h, Yg]
 exact List.perm_singleton.1 this
section
variable {f : SFunc} (h0 : funcF f = 0) (hg0 : funcF (preF f) = 0)
include h0 hg0
theorem loop_of {x : Loop} (hx : x ∈ findF (preF f)) : ∃ (h : Nat) (x' : Loop), x.1 = h ∧ x'.1 = h ∧ x' ∈ findF f ∧ 1 ≤ h ∧ h < f.blocks.length ∧ (∀ n : Nat, (n : Int) ∈ x.2 ↔ NatLoop (preF f) h n) ∧ ∀ n : Nat, (n : Int) ∈ x'.2 ↔ NatLoop f h n := by
 have hok := func_ok h0
 have gok := func_ok hg0
 have hall : ∀ F : SFunc, LoopsOf F (findF F) := fun F => ⟨fun _ h => h, by rw [find_heads]; exact heads_nodup F⟩
 obtain ⟨i, hi⟩ := Yo hx
 obtain ⟨h, a1, _, a3, _, _, a6⟩ := lo_head gok (hall _) hi
 have hm : x.1 ∈ headsF f := by
  rw [← pre_heads h0 (loopsOf_pre f) hg0, ← find_heads]
  exact Yf.2 ⟨x, hx, rfl⟩
 rw [← find_heads] at hm
 obtain ⟨x', hx', e⟩ := Yf.1 hm
 obtain ⟨j, hj⟩ := Yo hx'
 obtain ⟨h', b1, _, b3, b4, _, b6⟩ := lo_head hok (hall _) hj
 have : h' = h := by omega
 subst this
 exact ⟨h', x', a1, b1, hx', b3, b4, a6, b6⟩
theorem same_head {x y : Loop} (hx : x ∈ findF f) (hy : y ∈ findF f) (h : x.1 = y.1) : x = y := by
 obtain ⟨i, hi⟩ := Yo hx
 obtain ⟨j, hj⟩ := Yo hy
 by_cases e : i = j
 ·subst e
  rw [hi] at hj
  injection hj
 ·exact absurd h (heads_ne hi hj e)
theorem pre_skip {x : Loop} (hx : x ∈ findF (preF f)) : skipB (preF f) x = true := by
 have hok := func_ok h0
 have gok := func_ok hg0
 have hp := pre_is hok (loopsOf_pre f)
 obtain ⟨h, x', a1, a2, a3, a4, a5, a6, a7⟩ := loop_of h0 hg0 hx
 have hE := hok.edges
 have hH : ∀ (m hd : Nat), (hdN (preL f))[m]? = some hd → ∃ y, (preL f)[m]? = some y ∧ y ∈ findF f ∧ y.1 = hd := fun m hd hm => by
  unfold hdN at hm
  rw [Yh] at hm
  obtain ⟨y, hy, rfl⟩ := Option.map_eq_some_iff.1 hm
  obtain ⟨q, e1, _⟩ := lo_head hok (loopsOf_pre f) hy
  exact ⟨y, hy, (loopsOf_pre f).mem y (Yd hy), by omega⟩
 have hsk : ∀ y ∈ preL f, skipB f y = false := fun y hy => by
  have := (Yv.1 hy).2
  simpa using this
 have hgb : ∀ (v : Nat) (c : SBlock), (preF f).blocks[v]? = some c → (∃ b, f.blocks[v]? = some b ∧ c.term.to = b.term.to.map (redE (preL f) f.blocks.length v)) ∨ ∃ (m hd : Nat) (ps : List Int), v = f.blocks.length + m ∧ (hdN (preL f))[m]? = some hd ∧ c.term.to = [⟨(hd : Int), ps⟩] := fun v c hc => by
  by_cases hv : v < f.blocks.length
  ·obtain ⟨b, hb⟩ := get_of_lt f.blocks v (by omega)
   have := hp.old v b hb
   have e : (preG f (preL f)).blocks[v]? = some c := hc
   rw [this] at e
   injection e with e
   exact .inl ⟨b, hb, by rw [← e]; rfl⟩
  ·have hvl := (Yc.1 hc).1
   have hl : (preF f).blocks.length = f.blocks.length + (hdN (preL f)).length := hp.len
   obtain ⟨hd, hhd⟩ := get_of_lt (hdN (preL f)) (v - f.blocks.length) (by omega)
   obtain ⟨ps, hps, _⟩ := hp.new _ hd hhd
   have e : (preG f (preL f)).blocks[v]? = some c := hc
   rw [show f.blocks.length + (v - f.blocks.length) = v by omega, e] at hps
   injection hps with hps
   exact .inr ⟨v - f.blocks.length, hd, ps, by omega, hhd, by rw [hps]⟩
 have hredE : ∀ (v : Nat) (e : SEdge), (redE (preL f) f.blocks.length v e).block = (h : Int) → redT (preL f) v e = none ∧ redE (preL f) f.blocks.length v e = e ∧ e.block = (h : Int) := fun v e he => by
  unfold redE at he ⊢
  cases hr : redT (preL f) v e with
  | some i =>
   rw [hr] at he
   have he : ((f.blocks.length + i : Nat) : Int) = (h : Int) := he
   omega
  | none =>
   rw [hr] at he
   exact ⟨rfl, rfl, he⟩
 have hout : ∀ v : Nat, (∀ y ∈ x.2, ¬ (v : Int) = y) ↔ ¬ NatLoop (preF f) h v := fun v => by
  rw [← a6]
  exact ⟨fun hn hm => hn _ hm rfl, fun hn y hy e => hn (by rw [e]; exact hy)⟩
 by_cases hs : skipB f x' = true
 ·-- it had one
  have hnl : ∀ y ∈ preL f, y.1 ≠ (h : Int) := fun y hy e => by
   have := same_head h0 hg0 ((loopsOf_pre f).mem y hy) a3 (by rw [e, a2])
   subst this
   rw [hsk _ hy] at hs
   cases hs
  obtain ⟨⟨k0, m0⟩, hp1, hp2⟩ : ∃ p, outF f x' = [p] ∧ (toAt f.blocks p.1).length = 1 := by
   unfold skipB at hs
   split at hs
   ·rename_i p e
    exact ⟨p, e, of_decide_eq_true hs⟩
   ·cases hs
  have hone : outF (preF f) x = [(k0, m0)] := by
   refine one_of outB_sorted ?_
   rintro ⟨v, m⟩
   have hmem : (v, m) ∈ outF f x' ↔ (v, m) = (k0, m0) := by rw [hp1, Yg]
   rw [← hmem, outF_mem, outF_mem]
   constructor
   ·rintro ⟨c, e, hc, he, ho⟩
    obtain ⟨o1, o2⟩ := out_iff.1 ho
    rcases hgb v c hc with ⟨b, hb, hto⟩ | ⟨m2, hd, ps, rfl, hhd, hto⟩
    ·rw [hto, Yh] at he
     obtain ⟨e0, he0, rfl⟩ := Option.map_eq_some_iff.1 he
     obtain ⟨r1, r2, r3⟩ := hredE v e0 (by rw [o1, a1])
     refine ⟨b, e0, hb, he0, out_iff.2 ⟨by rw [r3, a2], fun hv => o2 ?_⟩⟩
     rw [a6]
     exact nat_up h0 (loopsOf_pre f) hg0 a5 ((a7 v).1 hv)
    ·exfalso
     rw [hto] at he
     cases m with
     | succ m => simp at he
     | zero =>
      have he : (⟨(hd : Int), ps⟩ : SEdge) = e := by simpa using he
      subst he
      obtain ⟨y, hy, _, hy2⟩ := hH m2 hd hhd
      exact hnl y (Yd hy) (by rw [hy2]; have : (hd : Int) = x.1 := o1; omega)
   ·rintro ⟨b, e, hb, he, ho⟩
    obtain ⟨o1, o2⟩ := out_iff.1 ho
    have hr : redT (preL f) v e = none := by
     cases hr : redT (preL f) v e with
     | none => rfl
     | some i =>
      exfalso
      obtain ⟨y, hy, hyo⟩ := red_some hr
      have := (out_iff.1 hyo).1
      exact hnl y (Yd hy) (by omega)
    have hvl := (Yc.1 hb).1
    refine ⟨_, e, hp.old v b hb, ?_, out_iff.2 ⟨by rw [o1, a2, a1], fun hv => o2 ?_⟩⟩
    ·show (b.term.to.map _)[m]? = some e
     rw [Yh, he, Option.map_some, hr]
    ·rw [a7]
     exact (nat_down h0 (loopsOf_pre f) hg0 a5 ((a6 v).1 hv)).1 hvl
  obtain ⟨b, e, hb, he, _⟩ := outF_mem.1 (show (k0, m0) ∈ outF f x' by rw [hp1]; exact Yg.2 rfl)
  unfold skipB
  rw [hone]
  refine decide_eq_true ?_
  show (toAt (preF f).blocks k0).length = 1
  have ht : toAt (preF f).blocks k0 = _ := pre_to hp hb
  rw [ht, Yi]
  rw [toAt_get hb] at hp2
  exact hp2
 ·-- it has a new one
  have hxl : x' ∈ preL f := Yv.2 ⟨a3, by simpa using hs⟩
  obtain ⟨m', hm'⟩ := Yo hxl
  have hHm : (hdN (preL f))[m']? = some h := by
   unfold hdN
   rw [Yh, hm']
   show some x'.1.toNat = some h
   rw [a2, Ybl]
  obtain ⟨ps, hps, _⟩ := hp.new m' h hHm
  have hone : outF (preF f) x = [(f.blocks.length + m', 0)] := by
   refine one_of outB_sorted ?_
   rintro ⟨v, m⟩
   show (v, m) ∈ outF (preF f) x ↔ _
   rw [outF_mem]
   constructor
   ·rintro ⟨c, e, hc, he, ho⟩
    obtain ⟨o1, o2⟩ := out_iff.1 ho
    rcases hgb v c hc with ⟨b, hb, hto⟩ | ⟨m2, hd, ps, rfl, hhd, hto⟩
    ·exfalso
     rw [hto, Yh] at he
     obtain ⟨e0, he0, rfl⟩ := Option.map_eq_some_iff.1 he
     obtain ⟨r1, r2, r3⟩ := hredE v e0 (by rw [o1, a1])
     have := red_none r1 x' hxl
     rw [out_iff.2 ⟨by rw [r3, a2], fun hv => o2 (by rw [a6]; exact nat_up h0 (loopsOf_pre f) hg0 a5 ((a7 v).1 hv))⟩] at this
     cases this
    ·rw [hto] at he
     cases m with
     | succ m => simp at he
     | zero =>
      have he : (⟨(hd : Int), ps⟩ : SEdge) = e := by simpa using he
      subst he
      have hdh : hd = h := by have : (hd : Int) = x.1 := o1; omega
      subst hdh
      obtain ⟨y, hy, hy1, hy2⟩ := hH m2 hd hhd
      have hyx := same_head h0 hg0 hy1 a3 (by rw [hy2, a2])
      subst hyx
      have hy9 : ((preL f).map (·.1))[m2]? = some y.1 := by rw [Yh, hy]; rfl
      have hm9 : ((preL f).map (·.1))[m']? = some y.1 := by rw [Yh, hm']; rfl
      have := (Yaz (Yc.1 hy9).1 (loopsOf_pre f).nodup).1 (hy9.trans hm9.symm)
      rw [this]
   ·rintro e
    injection e with e1 e2
    subst e1 e2
    refine ⟨_, ⟨(h : Int), ps⟩, hps, rfl, out_iff.2 ⟨a1.symm, fun hv => ?_⟩⟩
    obtain ⟨hd, i1, i2, _⟩ := (nat_down h0 (loopsOf_pre f) hg0 a5 ((a6 _).1 hv)).2 m' rfl
    rw [hHm] at i1
    injection i1 with i1
    exact i2 i1.symm
  unfold skipB
  rw [hone]
  refine decide_eq_true ?_
  show (toAt (preF f).blocks (f.blocks.length + m')).length = 1
  rw [toAt_get (show (preF f).blocks[f.blocks.length + m']? = some _ from hps)]
  rfl
theorem pre_many : (findF (preF f)).length = (findF f).length := by
 have h1 := congrArg Yad (find_heads (preF f))
 have h2 := congrArg Yad (find_heads f)
 rw [Yi] at h1 h2
 rw [h1, h2]
 exact congrArg Yad (pre_heads h0 (loopsOf_pre f) hg0)
theorem pre_none : preL (preF f) = [] := by
 unfold preL
 rw [List.filter_eq_nil_iff]
 intro x hx
 rw [pre_skip h0 hg0 hx]
 decide
theorem pre_again : preF (preF f) = preF f := by
 have h1 : preF (preF f) = preG (preF f) (preL (preF f)) := rfl
 rw [h1, pre_none h0 hg0]
 unfold preG
 have h2 : ∀ (n : Nat) (l : List SBlock) (k : Nat), redL [] n k l = l := fun n l => by
  induction l with
  | nil => intro k; rfl
  | cons b l ih =>
   intro k
   rw [redL, ih]
   congr 1
   unfold redB
   rw [show (redE [] n k : SEdge → SEdge) = id from funext fun e => rfl, List.map_id]
   rfl
 rw [h2]
 show (⟨(preF f).name, (preF f).blocks ++ []⟩ : SFunc) = preF f
 rw [Yam]
end
def pT (t : Nat) : Nat → List SBlock → List Int
 | _, [] => []
 | n, b :: l => ((b.term.to.filter fun e => decide (e.block.toNat = t)).map fun _ => (n : Int)) ++ pT t (n + 1) l
theorem foldE_pT {k t : Nat} : ∀ {l : List SEdge} {P : List (List Int)}, t < P.length → ((l.foldl (predE k) P)[t]?.getD []) = (P[t]?.getD []) ++ (l.filter fun e => decide (e.block.toNat = t)).map fun _ => (k : Int)
 | [], P, _ => by simp
 | e :: l, P, ht => by
  rw [Yw, foldE_pT (by rw [predE_len]; exact ht), Yac]
  unfold predE
  rw [Yp]
  by_cases h : e.block.toNat = t
  ·rw [if_pos h, if_pos (by omega), if_pos (decide_eq_true h), h, Option.getD_some, Yy]
   rfl
  ·rw [if_neg h, if_neg (by simpa using h)]
theorem predL_pT {t : Nat} : ∀ {l : List SBlock} {k : Nat} {P : List (List Int)}, t < P.length → ((predL k l P)[t]?.getD []) = (P[t]?.getD []) ++ pT t k l
 | [], k, P, _ => (Yam _).symm
 | b :: l, k, P, ht => by rw [predL, predL_pT (by rw [predB, foldl_len]; exact ht), predB, foldE_pT ht, pT, Yy]
theorem preds_pT {bs : List SBlock} {t : Nat} (ht : t < bs.length) : (predsF bs)[t]? = some (pT t 0 bs) := by
 obtain ⟨P, hP⟩ := get_of_lt (predsF bs) t (by rw [predsF_len]; omega)
 have h1 : (predsF bs)[t]?.getD [] = pT t 0 bs := by
  unfold predsF
  rw [predL_pT (by rw [Yai]; exact ht), Yu, if_pos ht]
  rfl
 rw [hP, Option.getD_some] at h1
 rw [hP, h1]
def inL (x : Loop) (p : Int) : Bool := x.2.any fun y => decide (p = y)
theorem pT_out {x : Loop} {h : Nat} (hx : x.1 = h) : ∀ {l : List SBlock} {n : Nat}, (∀ b ∈ l, ∀ e ∈ b.term.to, 1 ≤ e.block) → (pT h n l).filter (fun p => !inL x p) = (outB x n l).map fun p => (p.1 : Int)
 | [], n, _ => rfl
 | b :: l, n, hE => by
  rw [pT, outB, Yaw, Yl, pT_out hx (fun c hc => hE c (Yb _ hc))]
  congr 1
  have hb := hE b (Ya ..)
  have key : ∀ (to : List SEdge) (j : Nat), (∀ e ∈ to, 1 ≤ e.block) → ((to.filter fun e => decide (e.block.toNat = h)).map fun _ => (n : Int)).filter (fun p => !inL x p) = (outE x n j to).map fun p => (p.1 : Int) := fun to => by
   induction to with
   | nil => intro j _; rfl
   | cons e to ih =>
    intro j he
    have h1 := he e (Ya ..)
    rw [outE, Yl, ← ih (j + 1) fun c hc => he c (Yb _ hc), Yac]
    by_cases hh : e.block.toNat = h
    ·rw [if_pos (decide_eq_true hh), Yr, Yac]
     by_cases hi : inL x n = true
     ·rw [if_neg (by rw [hi]; decide), if_neg (by unfold isOut; unfold inL at hi; rw [hi, Bool.not_true, Bool.and_false]; decide)]
      rfl
     ·have hi : inL x n = false := by simpa using hi
      rw [if_pos (by rw [hi]; rfl), if_pos (by unfold isOut; unfold inL at hi; rw [hi, decide_eq_true (show e.block = x.1 by omega)]; rfl)]
      rfl
    ·rw [if_neg (by simpa using hh), if_neg (by unfold isOut; rw [decide_eq_false (show ¬ e.block = x.1 by omega), Bool.false_and]; decide)]
     rfl
  exact key b.term.to 0 hb
theorem entered_law {f : SFunc} (h0 : funcF f = 0) (hg0 : funcF (preF f) = 0) {x : Loop} (hx : x ∈ findF (preF f)) : ∃ (h k0 : Nat) (P : List Int), x.1 = h ∧ (predsF (preF f).blocks)[h]? = some P ∧ P.filter (fun p => !inL x p) = [(k0 : Int)] ∧ (toAt (preF f).blocks k0).length = 1 ∧ ∀ p ∈ P, ∃ k : Nat, p = k ∧ k < (preF f).blocks.length := by
 have gok := func_ok hg0
 have hl : (preF f).blocks.length = f.blocks.length + (hdN (preL f)).length := (pre_is (func_ok h0) (loopsOf_pre f)).len
 obtain ⟨h, x', a1, _, _, _, a5, _⟩ := loop_of h0 hg0 hx
 have hs := pre_skip h0 hg0 hx
 obtain ⟨p, hp1, hp2⟩ : ∃ p, outF (preF f) x = [p] ∧ (toAt (preF f).blocks p.1).length = 1 := by
  unfold skipB at hs
  split at hs
  ·rename_i p e
   exact ⟨p, e, of_decide_eq_true hs⟩
  ·cases hs
 have hP := preds_pT (bs := (preF f).blocks) (t := h) (by omega)
 refine ⟨h, p.1, _, a1, hP, ?_, hp2, fun q hq => ?_⟩
 ·rw [pT_out a1 (fun b hb e he => (gok.edges b hb e he).1)]
  show (outF (preF f) x).map _ = _
  rw [hp1]
  rfl
 ·obtain ⟨k, rfl, he⟩ := (preds_mem (bs := (preF f).blocks) (t := h) (x := q) gok.edges).1 (by rw [hP, Option.getD_some]; exact hq)
  obtain ⟨e, he, _⟩ := he
  unfold toAt at he
  cases hb : (preF f).blocks[k]? with
  | none => rw [hb] at he; cases he
  | some b => exact ⟨k, rfl, (Yc.1 hb).1⟩
def renT (r : Int → Int) (t : STerm) : STerm := { t with to := t.to.map fun e => ⟨r e.block, e.args⟩ }
structure Ren (u v : SUnit) (ρ : Int → Int → Int) (good : Int → Int → Prop) : Prop where
 main : v.main = u.main
 entry : ∀ k, entryOf v k = entryOf u k
 zero : ∀ fn, good fn 0 ∧ ρ fn 0 = 0
 blk : ∀ fn k, good fn k → (blockAt v fn (ρ fn k)).params = (blockAt u fn k).params ∧ (blockAt v fn (ρ fn k)).ins = (blockAt u fn k).ins ∧ (blockAt v fn (ρ fn k)).term = renT (ρ fn) (blockAt u fn k).term ∧ ∀ e ∈ (blockAt u fn k).term.to, good fn e.block
def wst (s : List MFrame) (M : Mach) : Mach := { M with stack := s }
theorem pay_st (n : Int) (M : Mach) (s : List MFrame) : payF n (wst s M) = wst s (payF n M) := by
 unfold payF
 show (if M.left < n then _ else _) = _
 split <;> rfl
theorem alloc_st (a b : Val) (M : Mach) (s : List MFrame) : allocF a b (wst s M) = (wst s (allocF a b M).1, (allocF a b M).2) := by
 unfold allocF
 rw [pay_st]
 by_cases h1 : a.kind ≠ 0
 ·rw [if_pos h1, if_pos h1]
 ·rw [if_neg h1, if_neg h1]
  by_cases h2 : a.n < 0 ∨ 1024 < a.n
  ·rw [if_pos h2, if_pos h2]
  ·rw [if_neg h2, if_neg h2]
   show (if (payF a.n M).short = true then _ else _) = _
   by_cases h3 : (payF a.n M).short = true
   ·rw [if_pos h3, if_pos h3]
   ·rw [if_neg h3, if_neg h3]; rfl
theorem effect_st (i : SIns) (args : List Val) (M : Mach) (s : List MFrame) : effectF i args (wst s M) = (wst s (effectF i args M).1, (effectF i args M).2) := by
 unfold effectF
 rw [alloc_st]
 show (if i.op = 15 then if (argAt args 0).kind ≠ 0 then _ else if (M.out.length : Int) = 1000 then _ else _ else if i.op = 16 then _ else if i.op = 18 then if allK 0 args = false then _ else if _ then _ else _ else if _ then _ else if i.op = 17 then _ else if (argAt args 1).n < 0 ∨ ((arrOf M (argAt args 0)).length : Int) ≤ (argAt args 1).n then _ else if i.op = 19 then _ else _) = _
 by_cases h1 : i.op = 15
 ·rw [if_pos h1, if_pos h1]
  by_cases h2 : (argAt args 0).kind ≠ 0
  ·rw [if_pos h2, if_pos h2]
  ·rw [if_neg h2, if_neg h2]
   by_cases h3 : (M.out.length : Int) = 1000
   ·rw [if_pos h3, if_pos h3]
   ·rw [if_neg h3, if_neg h3]; rfl
 ·rw [if_neg h1, if_neg h1]
  by_cases h2 : i.op = 16
  ·rw [if_pos h2, if_pos h2]
  ·rw [if_neg h2, if_neg h2]
   by_cases h3 : i.op = 18
   ·rw [if_pos h3, if_pos h3]
    by_cases h4 : allK 0 args = false
    ·rw [if_pos h4, if_pos h4]
    ·rw [if_neg h4, if_neg h4]
     by_cases h5 : (argAt args 0).n < 0 ∨ (argAt args 1).n ≤ (argAt args 0).n
     ·rw [if_pos h5, if_pos h5]
     ·rw [if_neg h5, if_neg h5]
   ·rw [if_neg h3, if_neg h3]
    by_cases h4 : (argAt args 0).kind ≠ 3 ∨ i.op ≠ 17 ∧ (argAt args 1).kind ≠ 0
    ·rw [if_pos h4, if_pos h4]
    ·rw [if_neg h4, if_neg h4]
     by_cases h5 : i.op = 17
     ·rw [if_pos h5, if_pos h5]; rfl
     ·rw [if_neg h5, if_neg h5]
      by_cases h6 : (argAt args 1).n < 0 ∨ ((arrOf M (argAt args 0)).length : Int) ≤ (argAt args 1).n
      ·rw [if_pos h6, if_pos h6]
      ·rw [if_neg h6, if_neg h6]
       by_cases h7 : i.op = 19
       ·rw [if_pos h7, if_pos h7]; rfl
       ·rw [if_neg h7, if_neg h7]
        have : ∀ l, setArr (wst s M) (argAt args 0) l = wst s (setArr M (argAt args 0) l) := fun l => by
         unfold setArr
         cases (argAt args 0).arr <;> rfl
        rw [this]; rfl
theorem exec_st (i : SIns) (args : List Val) (M : Mach) (s : List MFrame) : execF i args (wst s M) = (wst s (execF i args M).1, (execF i args M).2) := by
 unfold execF
 rw [effect_st]
 by_cases h1 : i.op = 0
 ·rw [if_pos h1, if_pos h1]
 ·rw [if_neg h1, if_neg h1]
  by_cases h2 : elemJ i.op [1, 2, 3, 4, 5, 6, 7] = true
  ·rw [if_pos h2, if_pos h2]
   by_cases h3 : allK 0 args = false
   ·rw [if_pos h3, if_pos h3]
   ·rw [if_neg h3, if_neg h3]
  ·rw [if_neg h2, if_neg h2]
   by_cases h3 : i.op = 8
   ·rw [if_pos h3, if_pos h3]
   ·rw [if_neg h3, if_neg h3]
    by_cases h4 : i.op = 9
    ·rw [if_pos h4, if_pos h4]
    ·rw [if_neg h4, if_neg h4]
     by_cases h5 : elemJ i.op [10, 11, 12, 21] = true
     ·rw [if_pos h5, if_pos h5]
     ·rw [if_neg h5, if_neg h5]
      by_cases h6 : elemJ i.op [22, 23, 24] = true
      ·rw [if_pos h6, if_pos h6]
      ·rw [if_neg h6, if_neg h6]
       by_cases h7 : i.op = 100
       ·rw [if_pos h7, if_pos h7]
       ·rw [if_neg h7, if_neg h7]
section
variable {u v : SUnit} {ρ : Int → Int → Int} {good : Int → Int → Prop} (h : Ren u v ρ good)
end
structure RangeOk (bs : List SBlock) (many : Nat) : Prop where
 to : ∀ b ∈ bs, ∀ i ∈ b.ins, 0 ≤ i.to ∧ i.to < many
 args : ∀ b ∈ bs, ∀ i ∈ b.ins, ∀ a ∈ i.args, 0 ≤ a ∧ a < many
 arg : ∀ b ∈ bs, b.term.kind ≠ 1 ∧ b.term.kind ≠ 4 → 0 ≤ b.term.arg ∧ b.term.arg < many
 eargs : ∀ b ∈ bs, ∀ e ∈ b.term.to, ∀ a ∈ e.args, 0 ≤ a ∧ a < many
 edge : ∀ b ∈ bs, ∀ e ∈ b.term.to, 1 ≤ e.block ∧ e.block < bs.length
theorem fine_key {f : SFunc} (h : FuncOk f) {k : Nat} {at_ a : Int} (hf : fineF (blocksF f.blocks 0 f.blocks []).2 (domF f.blocks) k at_ a = true) : a ∈ valuesL f.blocks := by
 rw [h.defs.1] at hf
 unfold fineF at hf
 cases hd : dget (defsL 0 f.blocks) a with
 | none => rw [hd] at hf; cases hf
 | some p =>
  have hmem := dget_mem hd
  have : a ∈ dkeys (defsL 0 f.blocks) := Yf.2 ⟨_, hmem, rfl⟩
  rwa [dkeys_defsL] at this
theorem used_all {t : STerm} {use : Int → Bool} (h : usedF t use = true) : (t.kind ≠ 1 ∧ t.kind ≠ 4 → use t.arg = true) ∧ ∀ e ∈ t.to, ∀ a ∈ e.args, use a = true := by
 unfold usedF at h
 split at h
 ·cases h
 ·rename_i hc
  refine ⟨fun hk => ?_, fun e he a ha => ?_⟩
  ·cases hu : use t.arg with
   | true => rfl
   | false => exact absurd ⟨hk, hu⟩ hc
  ·rw [Yz] at h
   have := h e he
   rw [Yz] at this
   exact this a ha
theorem range_ok {f : SFunc} (h : FuncOk f) {many : Nat} (hm : freshF f.blocks ≤ many) : RangeOk f.blocks many := by
 have key : ∀ a ∈ valuesL f.blocks, 0 ≤ a ∧ a < many := fun a ha => by
  have h1 := values_keys h a ha
  have h2 := (fresh_ok h).2.2 a ha
  exact ⟨h1.1, by omega⟩
 have hu := usesF_all h.uses
 refine ⟨fun b hb i hi => key _ (Ybc.2 ⟨b, hb, Ys _ (Yf.2 ⟨i, hi, rfl⟩)⟩), fun b hb i hi a ha => ?_, fun b hb hk => ?_, fun b hb e he a ha => ?_, h.edges⟩
 ·obtain ⟨k, hk⟩ := Yo hb
  obtain ⟨j, hj⟩ := Yo hi
  exact key a (fine_key h (usesIns_all (hu k b hk).1 j i hj a ha))
 ·obtain ⟨k, hkb⟩ := Yo hb
  exact key _ (fine_key h ((used_all (hu k b hkb).2).1 hk))
 ·obtain ⟨k, hk⟩ := Yo hb
  exact key a (fine_key h ((used_all (hu k b hk).2).2 e he a ha))
def mainF (u : SUnit) : SFunc := u.fns[u.main.toNat]?.getD default
def frU (u : SUnit) : Int := freshF (mainF u).blocks
theorem nw_fns {u : SUnit} (h : unitF u = 0) : ∀ f ∈ u.fns, funcF f = 0 := by
 unfold unitF at h
 split at h
 ·cases h
 ·split at h
  ·cases h
  ·split at h
   ·cases h
   ·split at h
    ·rename_i hn; exact absurd h hn
    ·rename_i hn
     exact firstE_ok (Decidable.not_not.1 hn)
theorem nw_all {α : Type} {f : α → Int} : ∀ {l : List α}, (∀ x ∈ l, f x = 0) → firstE f l = 0
 | [], _ => rfl
 | x :: l, h => by
  rw [firstE, if_neg (fun hn => hn (h x (Ya ..)))]
  exact nw_all fun y hy => h y (Yb _ hy)
theorem vget_vput (k : Int) (v : Val) (x : Int) : ∀ m : Vals, vget (vput m k v) x = if k = x then v else vget m x
 | [] => by
  show (if k = x then v else vget [] x) = _
  rfl
 | (j, a) :: m => by
  rw [vput]
  by_cases hj : j = k
  ·subst hj
   rw [if_pos rfl, vget, vget]
   by_cases hx : j = x
   ·rw [if_pos hx, if_pos hx]
   ·rw [if_neg hx, if_neg hx, if_neg hx]
  ·rw [if_neg hj, vget, vget_vput k v x m, vget]
   by_cases hx : j = x
   ·rw [if_pos hx, if_neg (by omega), if_pos hx]
   ·rw [if_neg hx, if_neg hx]
def Agree (q : Int → Prop) (m m' : Vals) : Prop := ∀ x, q x → vget m' x = vget m x
theorem Agree.put {q : Int → Prop} {m m' : Vals} (h : Agree q m m') (k : Int) (v : Val) : Agree q (vput m k v) (vput m' k v) := fun x hx => by
 rw [vget_vput, vget_vput, h x hx]
theorem Agree.puts {q : Int → Prop} : ∀ {ps : List Int} {vs : List Val} {m m' : Vals}, Agree q m m' → Agree q (vputs m ps vs) (vputs m' ps vs)
 | [], vs, m, m', h => by cases vs <;> exact h
 | p :: ps, [], m, m', h => h
 | p :: ps, v :: vs, m, m', h => by
  rw [vputs, vputs]
  exact Agree.puts (h.put p v)
theorem Agree.take {q : Int → Prop} {m m' : Vals} (h : Agree q m m') {l : List Int} (hl : ∀ a ∈ l, q a) : takeF m' l = takeF m l := List.map_congr_left fun a ha => h a (hl a ha)
def inB (u : SUnit) (f : MFrame) : Prop := f.fn = u.main ∧ f.block = 0
open Classical in
noncomputable def shF (u : SUnit) (f : MFrame) : Int := if inB u f then 1 else 0
def okX (u : SUnit) (f : MFrame) (x : Int) : Prop := f.fn = u.main → x ≠ frU u
structure FR (u : SUnit) (f f' : MFrame) : Prop where
 fn : f'.fn = f.fn
 block : f'.block = f.block
 to : f'.to = f.to
 at_ : f'.at_ = f.at_ + shF u f
 vals : Agree (okX u f) f.vals f'.vals
inductive SR (u : SUnit) : List MFrame → List MFrame → Prop where
 | nil : SR u [] []
 | cons {f f' : MFrame} {fs fs' : List MFrame} : FR u f f' → SR u fs fs' → SR u (f :: fs) (f' :: fs')
inductive PR (u : SUnit) : List MFrame → List MFrame → Prop where
 | mk {f : MFrame} {fs fs' : List MFrame} : inB u f → f.at_ = 0 → SR u fs fs' → PR u (f :: fs) (f :: fs')
section
variable {u : SUnit} {w : Int} (hu : unitF u = 0)
include hu
end
def preU (u : SUnit) : SUnit := ⟨u.fns.map preF, u.main⟩
theorem pre_params {f : SFunc} (h0 : funcF f = 0) {v : Int} (h1 : 0 ≤ v) (h : v < f.blocks.length) : paramsOf (preF f).blocks v = paramsOf f.blocks v := by
 obtain ⟨b, hb⟩ := get_of_lt f.blocks v.toNat (by omega)
 have g1 : (preF f).blocks[v.toNat]? = some _ := (pre_is (func_ok h0) (loopsOf_pre f)).old _ b hb
 rw [paramsOf_get g1, paramsOf_get hb]
 rfl
theorem preU_get (u : SUnit) (k : Nat) : (preU u).fns[k]? = (u.fns[k]?).map preF := Yh ..
theorem preU_entry {u : SUnit} (hf : ∀ f ∈ u.fns, funcF f = 0) (hl : ∀ f ∈ u.fns, funcF (preF f) = 0) (k : Int) : entryOf (preU u) k = entryOf u k := by
 unfold entryOf
 rw [preU_get]
 cases h : u.fns[k.toNat]? with
 | none => rfl
 | some f => exact pre_params (hf f (Yd h)) (Ybm _) (by have := (func_ok (hf f (Yd h))).pos; omega)
theorem pre_blocks {f : SFunc} (h0 : funcF f = 0) {i : Nat} {c : SBlock} (hc : (preF f).blocks[i]? = some c) : (∃ b, f.blocks[i]? = some b ∧ c.ins = b.ins) ∨ c.ins = [] := by
 have hp := pre_is (func_ok h0) (loopsOf_pre f)
 by_cases hi : i < f.blocks.length
 ·obtain ⟨b, hb⟩ := get_of_lt f.blocks i (by omega)
  have e : (preF f).blocks[i]? = some _ := hp.old i b hb
  rw [hc] at e
  injection e with e
  exact .inl ⟨b, hb, by rw [e]; rfl⟩
 ·have hl : (preF f).blocks.length = f.blocks.length + (hdN (preL f)).length := hp.len
  have hil := (Yc.1 hc).1
  obtain ⟨hd, hhd⟩ := get_of_lt (hdN (preL f)) (i - f.blocks.length) (by omega)
  obtain ⟨ps, hps, _⟩ := hp.new _ hd hhd
  have e : (preF f).blocks[f.blocks.length + (i - f.blocks.length)]? = some _ := hps
  rw [show f.blocks.length + (i - f.blocks.length) = i by omega, hc] at e
  injection e with e
  exact .inr (by rw [e])
theorem pre_unit {u : SUnit} (h : unitF u = 0) (hl : ∀ f ∈ u.fns, funcF (preF f) = 0) : unitF (preU u) = 0 := by
 have hf := nw_fns h
 have hl1 : (preU u).fns.length = u.fns.length := Yi ..
 have hc : ∀ i, callF (preU u) i = callF u i := fun i => by
  unfold callF
  rw [hl1, preU_entry hf hl]
 have hcalls : callsF u = 0 → callsF (preU u) = 0 := fun hcu => by
  refine nw_all fun g hg => ?_
  obtain ⟨f, hfm, rfl⟩ := Yf.1 hg
  have h1 := firstE_ok hcu f hfm
  refine nw_all fun c hcm => ?_
  obtain ⟨i, hi⟩ := Yo hcm
  rcases pre_blocks (hf f hfm) hi with ⟨b, hb, hbi⟩ | hn
  ·have h2 := firstE_ok h1 b (Yd hb)
   rw [hbi]
   exact nw_all fun x hx => (hc x).trans (firstE_ok h2 x hx)
  ·rw [hn]
   rfl
 have hfn : firstE funcF (preU u).fns = 0 := nw_all fun g hg => by
  obtain ⟨f, hfm, rfl⟩ := Yf.1 hg
  exact hl f hfm
 have hm : (preU u).main = u.main := rfl
 unfold unitF at h ⊢
 rw [hl1, hm, hfn, preU_entry hf hl]
 split at h
 ·cases h
 ·rename_i g1
  rw [if_neg g1]
  split at h
  ·cases h
  ·rename_i g2
   rw [if_neg g2]
   split at h
   ·cases h
   ·rename_i g3
    rw [if_neg g3, if_neg (fun e => e rfl)]
    split at h
    ·rename_i hn; exact absurd h hn
    ·split at h
     ·cases h
     ·rename_i g5
      rw [if_neg g5]
      exact hcalls h
theorem Agree.out {q : Int → Prop} : ∀ {ps : List Int} {vs : List Val} {m m' : Vals}, (∀ p ∈ ps, ¬ q p) → Agree q m m' → Agree q m (vputs m' ps vs)
 | [], vs, m, m', _, h => by cases vs <;> exact h
 | p :: ps, [], m, m', _, h => h
 | p :: ps, v :: vs, m, m', hp, h => by
  rw [vputs]
  refine Agree.out (fun x hx => hp x (Yb _ hx)) fun x hx => ?_
  rw [vget_vput, if_neg (fun e => hp p (Ya ..) (by rw [e]; exact hx))]
  exact h x hx
theorem vputs_other {y : Int} : ∀ {ps : List Int} {vs : List Val} {m : Vals}, y ∉ ps → vget (vputs m ps vs) y = vget m y
 | [], vs, m, _ => by cases vs <;> rfl
 | p :: ps, [], m, _ => rfl
 | p :: ps, v :: vs, m, h => by
  rw [vputs, vputs_other (fun hm => h (Yb _ hm)), vget_vput, if_neg (fun e => h (by rw [e]; exact Ya ..))]
theorem take_puts : ∀ {ps : List Int} {vs : List Val} {m : Vals}, ps.Nodup → ps.length = vs.length → takeF (vputs m ps vs) ps = vs
 | [], [], m, _, _ => rfl
 | [], v :: vs, m, _, h => by cases h
 | p :: ps, [], m, _, h => by cases h
 | p :: ps, v :: vs, m, hn, h => by
  obtain ⟨h1, h2⟩ := Yap.1 hn
  rw [vputs]
  show vget (vputs (vput m p v) ps vs) p :: takeF (vputs (vput m p v) ps vs) ps = v :: vs
  rw [take_puts h2 (by simpa using h), vputs_other h1, vget_vput, if_pos rfl]
def frQ (u : SUnit) (fn : Int) : Int := freshF ((u.fns[fn.toNat]?).getD default).blocks
def okQ (u : SUnit) (f : MFrame) (x : Int) : Prop := x < frQ u f.fn
structure FQ (u : SUnit) (f f' : MFrame) : Prop where
 fn : f'.fn = f.fn
 block : f'.block = f.block
 to : f'.to = f.to
 at_ : f'.at_ = f.at_
 vals : Agree (okQ u f) f.vals f'.vals
inductive SQ (u : SUnit) : List MFrame → List MFrame → Prop where
 | nil : SQ u [] []
 | cons {f f' : MFrame} {fs fs' : List MFrame} : FQ u f f' → SQ u fs fs' → SQ u (f :: fs) (f' :: fs')
inductive PQ (u : SUnit) : List MFrame → List MFrame → Prop where
 | mk {f f' : MFrame} {fs fs' : List MFrame} {e : SEdge} {ps : List Int} : f'.at_ = 0 → blockAt (preU u) f'.fn f'.block = ⟨ps, [], ⟨1, 0, 0, [], [e]⟩⟩ → FQ u f (followF (preU u) f' e) → SQ u fs fs' → PQ u (f :: fs) (f' :: fs')
theorem pend_pre {u : SUnit} {M : Mach} {S S' : List MFrame} (hst : M.stack = S) (h : PQ u S S') (d : Int) : ∃ S'', SQ u M.stack S'' ∧ stepF (preU u) (addL d (wst S' M)) = addL d (wst S'' M) := by
 rw [hst]
 cases h with
 | @mk f f' fs fs' e ps h0 hb hf hs =>
  refine ⟨followF (preU u) f' e :: fs', .cons hf hs, ?_⟩
  unfold stepF
  show (if f'.at_ = ((blockAt (preU u) f'.fn f'.block).ins.length : Int) then termF (preU u) f' (blockAt (preU u) f'.fn f'.block).term fs' (addL d (wst (f' :: fs') M)) else _) = _
  rw [hb, h0, if_pos (show (0 : Int) = ((([] : List SIns).length : Nat) : Int) from rfl)]
  unfold termF
  rw [if_neg (show ¬ (1 : Int) = 4 by decide), if_pos rfl]
  rfl
section
variable {u : SUnit} (hu : unitF u = 0) (hpf : ∀ f ∈ u.fns, funcF (preF f) = 0)
include hu hpf
theorem entered_pre (n : Int) (args : List Val) (to : Int) : entered (preU u) n args to = entered u n args to := by
 unfold entered
 rw [preU_entry (nw_fns hu) hpf]
theorem old_at {fn k : Int} {F : SFunc} {b : SBlock} (hF : u.fns[fn.toNat]? = some F) (hb : F.blocks[k.toNat]? = some b) : ∃ c, blockAt (preU u) fn k = c ∧ c.ins = b.ins ∧ c.term.to = b.term.to.map (redE (preL F) F.blocks.length k.toNat) ∧ c.term.kind = b.term.kind ∧ c.term.arg = b.term.arg ∧ c.term.n = b.term.n ∧ choiceF c.term = choiceF b.term := by
 have h0 := nw_fns hu F (Yd hF)
 have hg : (preF F).blocks[k.toNat]? = some _ := (pre_is (func_ok h0) (loopsOf_pre F)).old k.toNat b hb
 refine ⟨_, rfl, ?_⟩
 have e : blockAt (preU u) fn k = setTo b (b.term.to.map (redE (preL F) F.blocks.length k.toNat)) := by
  unfold blockAt
  rw [preU_get, hF]
  show ((preF F).blocks[k.toNat]?).getD default = _
  rw [hg]
  rfl
 rw [e]
 exact ⟨rfl, rfl, rfl, rfl, rfl, rfl⟩
theorem old_params {fn k : Int} {F : SFunc} {b : SBlock} (hF : u.fns[fn.toNat]? = some F) (hb : F.blocks[k.toNat]? = some b) : (blockAt (preU u) fn k).params = (blockAt u fn k).params := by
 have h0 := nw_fns hu F (Yd hF)
 have hg : (preF F).blocks[k.toNat]? = some _ := (pre_is (func_ok h0) (loopsOf_pre F)).old k.toNat b hb
 unfold blockAt
 rw [preU_get, hF]
 show (((preF F).blocks[k.toNat]?).getD default).params = ((F.blocks[k.toNat]?).getD default).params
 rw [hg, hb]
 rfl
theorem follow_pre {f f' : MFrame} {fs fs' : List MFrame} {F : SFunc} {b : SBlock} {e : SEdge} (hF : u.fns[f.fn.toNat]? = some F) (hb : F.blocks[f.block.toNat]? = some b) (h : FQ u f f') (hfs : SQ u fs fs') (he : e ∈ b.term.to) (ha : ∀ a ∈ e.args, okQ u f a) : SQ u (followF u f e :: fs) (followF (preU u) f' (redE (preL F) F.blocks.length f.block.toNat e) :: fs') ∨ PQ u (followF u f e :: fs) (followF (preU u) f' (redE (preL F) F.blocks.length f.block.toNat e) :: fs') := by
 have h0 := nw_fns hu F (Yd hF)
 have hok := func_ok h0
 have hbm := Yd hb
 have hp := pre_is hok (loopsOf_pre F)
 have hE := hok.edges b hbm e he
 obtain ⟨cb, hcb⟩ := get_of_lt F.blocks e.block.toNat (by omega)
 have hpar : (blockAt (preU u) f'.fn e.block).params = (blockAt u f.fn e.block).params := by rw [h.fn]; exact old_params hu hpf hF hcb
 have htk : takeF f'.vals e.args = takeF f.vals e.args := h.vals.take ha
 cases hr : redT (preL F) f.block.toNat e with
 | none =>
  have e1 : redE (preL F) F.blocks.length f.block.toNat e = e := by unfold redE; rw [hr]
  rw [e1]
  refine .inl (.cons ⟨h.fn, rfl, h.to, rfl, ?_⟩ hfs)
  show Agree (okQ u f) (vputs f.vals (blockAt u f.fn e.block).params (takeF f.vals e.args)) (vputs f'.vals (blockAt (preU u) f'.fn e.block).params (takeF f'.vals e.args))
  rw [hpar, htk]
  exact h.vals.puts
 | some m =>
  have e1 : redE (preL F) F.blocks.length f.block.toNat e = ⟨((F.blocks.length + m : Nat) : Int), e.args⟩ := by unfold redE; rw [hr]
  obtain ⟨x, hx, ho⟩ := red_some hr
  obtain ⟨hd, x1, _, _, _, _, _⟩ := lo_head hok (loopsOf_pre F) hx
  have hxe := (out_iff.1 ho).1
  obtain ⟨ps, hps⟩ : ∃ ps, ps = newP (frAt F.blocks (freshF F.blocks) ((preL F).take m)) (parN F.blocks x) := ⟨_, rfl⟩
  have hnew : blockAt (preU u) f.fn ((F.blocks.length + m : Nat) : Int) = ⟨ps, [], ⟨1, 0, 0, [], [⟨e.block, ps⟩]⟩⟩ := by
   unfold blockAt
   rw [preU_get, hF]
   show ((preF F).blocks[((F.blocks.length + m : Nat) : Int).toNat]?).getD default = _
   have : (preF F).blocks[((F.blocks.length + m : Nat) : Int).toNat]? = some (preB (frAt F.blocks (freshF F.blocks) ((preL F).take m)) (parN F.blocks x) x.1) := by
    rw [Ybl]
    show (redL (preL F) F.blocks.length 0 F.blocks ++ newBs F.blocks (freshF F.blocks) (preL F))[F.blocks.length + m]? = _
    rw [Yan (by rw [redL_len]; omega), redL_len, Nat.add_sub_cancel_left, newBs_get _ _ _ _ _ hx]
   rw [this, hps, hxe]
   rfl
  have hT : TermOk F b.term := ((unit_of hu).u).term F (Yd hF) b hbm
  obtain ⟨_, ⟨cb2, hcb2, hal⟩, _⟩ := hT.edges e he
  have hpl : ps.length = e.args.length := by
   rw [hps, newP_len, hal]
   exact parN_get (by rw [← hxe]; exact hcb2)
  have hnd : ps.Nodup := by rw [hps]; exact newP_nodup ..
  have hbig : ∀ p ∈ ps, ¬ okQ u f p := fun p hpm hq => by
   rw [hps] at hpm
   have h1 := (newP_mem.1 hpm).1
   have h2 := frAt_le F.blocks ((preL F).take m) (freshF F.blocks)
   have hq : p < frQ u f.fn := hq
   unfold frQ at hq
   rw [hF] at hq
   have hq : p < freshF F.blocks := hq
   omega
  rw [e1]
  refine .inr (.mk (e := ⟨e.block, ps⟩) (ps := ps) rfl ?_ ⟨h.fn, rfl, h.to, rfl, ?_⟩ hfs)
  ·show blockAt (preU u) f'.fn ((F.blocks.length + m : Nat) : Int) = _
   rw [h.fn]
   exact hnew
  ·show Agree (okQ u f) (vputs f.vals (blockAt u f.fn e.block).params (takeF f.vals e.args)) (vputs (vputs f'.vals (blockAt (preU u) f'.fn ((F.blocks.length + m : Nat) : Int)).params (takeF f'.vals e.args)) (blockAt (preU u) f'.fn e.block).params (takeF (vputs f'.vals (blockAt (preU u) f'.fn ((F.blocks.length + m : Nat) : Int)).params (takeF f'.vals e.args)) ps))
   rw [hpar, h.fn, hnew, htk]
   dsimp only
   rw [take_puts hnd (by rw [hpl]; exact (Yi ..).symm)]
   exact (h.vals.out hbig).puts
theorem step_pre {M : Mach} {S' : List MFrame} {d : Int} (hM : MOk u M) (hS : SQ u M.stack S') (hs : M.short = false) (hs2 : (stepF u M).short = false) (hl2 : 0 ≤ (stepF u M).left) (hd : 0 ≤ d) :
  ∃ S'', (SQ u (stepF u M).stack S'' ∨ PQ u (stepF u M).stack S'') ∧ stepF (preU u) (addL d (wst S' M)) = addL d (wst S'' (stepF u M)) := by
 have hl := hM.left0
 cases hst : M.stack with
 | nil =>
  rw [hst] at hS
  cases hS
  have e : stepF u M = M := by unfold stepF; rw [hst]
  rw [e]
  exact ⟨[], .inl (by rw [hst]; exact .nil), rfl⟩
 | cons f fs =>
  rw [hst] at hS
  cases hS with
  | @cons _ f' _ fs' hf hfs =>
  obtain ⟨hf0, hb0, ⟨F, b, hF, hb, ha0, ha1⟩, _⟩ := hM.frames f (by rw [hst]; exact Ya ..)
  have hFm := Yd hF
  have hbm := Yd hb
  have hok := func_ok (nw_fns hu F hFm)
  have eb : blockAt u f.fn f.block = b := by
   unfold blockAt
   rw [hF]
   show (F.blocks[f.block.toNat]?).getD default = b
   rw [hb]; rfl
  -- what the function uses is not new
  have hr := range_ok hok (many := (freshF F.blocks).toNat) (by have := (fresh_ok hok).1; omega)
  have hfq : frQ u f.fn = freshF F.blocks := by
   unfold frQ
   rw [hF]
   rfl
  have hfr : ∀ a : Int, 0 ≤ a ∧ a < ((freshF F.blocks).toNat : Nat) → okQ u f a := fun a ⟨h1, h2⟩ => by
   show a < frQ u f.fn
   rw [hfq]
   omega
  obtain ⟨c, hc, c2, c1⟩ := old_at hu hpf hF hb
  have c4 : blockAt (preU u) f.fn f.block = c := hc
  have hstep : stepF u M = if f.at_ = (b.ins.length : Int) then termF u f b.term fs M else insF u { f with at_ := f.at_ + 1 } (b.ins[f.at_.toNat]?.getD default) fs (wst ({ f with at_ := f.at_ + 1 } :: fs) M) := by
   unfold stepF
   rw [hst]
   dsimp only
   rw [eb]
   rfl
  have hstep2 : stepF (preU u) (addL d (wst (f' :: fs') M)) = if f.at_ = (b.ins.length : Int) then termF (preU u) f' c.term fs' (addL d (wst (f' :: fs') M)) else insF (preU u) { f' with at_ := f'.at_ + 1 } (b.ins[f'.at_.toNat]?.getD default) fs' (addL d (wst ({ f' with at_ := f'.at_ + 1 } :: fs') M)) := by
   unfold stepF
   show (if f'.at_ = ((blockAt (preU u) f'.fn f'.block).ins.length : Int) then termF (preU u) f' (blockAt (preU u) f'.fn f'.block).term fs' _ else _) = _
   rw [hf.fn, hf.block, c4, c2, hf.at_]
   rfl
  rw [hstep] at hs2 hl2 ⊢
  rw [hstep2]
  by_cases h1 : f.at_ = (b.ins.length : Int)
  ·rw [if_pos h1] at hs2 hl2 ⊢
   rw [if_pos h1]
   -- the end of a block
   have hT : TermOk F b.term := ((unit_of hu).u).term F hFm b hbm
   have hsr : SQ u (f :: fs) (f' :: fs') := .cons hf hfs
   have go : ∀ k : Nat, k < b.term.to.length → ∃ S'', (SQ u ({ M with stack := followF u f (edgeAt b.term k) :: fs } : Mach).stack S'' ∨ PQ u ({ M with stack := followF u f (edgeAt b.term k) :: fs } : Mach).stack S'') ∧ ({ addL d (wst (f' :: fs') M) with stack := followF (preU u) f' (edgeAt c.term k) :: fs' } : Mach) = addL d (wst S'' { M with stack := followF u f (edgeAt b.term k) :: fs }) := fun k hk => by
    obtain ⟨e, he⟩ := get_of_lt b.term.to k (by omega)
    have e1 : edgeAt b.term k = e := by unfold edgeAt; rw [he]; rfl
    have e2 : edgeAt c.term k = redE (preL F) F.blocks.length f.block.toNat e := by
     unfold edgeAt
     rw [c1.1, Yh, he]
     rfl
    have hem := Yd he
    rw [e1, e2]
    exact ⟨_, follow_pre hu hpf hF hb hf hfs hem (fun a ha => hfr a (hr.eargs b hbm e hem a ha)), rfl⟩
   have harg : b.term.kind ≠ 1 ∧ b.term.kind ≠ 4 → vget f'.vals b.term.arg = vget f.vals b.term.arg := fun hk => hf.vals _ (hfr _ (hr.arg b hbm hk))
   have same : ∀ X : Mach, X.stack = f :: fs → ∃ S'', (SQ u X.stack S'' ∨ PQ u X.stack S'') ∧ addL d (wst (f' :: fs') X) = addL d (wst S'' X) := fun X hX => ⟨_, .inl (by rw [hX]; exact hsr), rfl⟩
   unfold termF
   rw [c1.2.1, c1.2.2.1, c1.2.2.2.1]
   have hcc : choiceF c.term = choiceF b.term := c1.2.2.2.2
   rw [hcc]
   by_cases k4 : b.term.kind = 4
   ·rw [if_pos k4, if_pos k4]; exact same (stopF b.term.n 0 M) hst
   ·rw [if_neg k4, if_neg k4]
    by_cases k1 : b.term.kind = 1
    ·rw [if_pos k1, if_pos k1]; exact go 0 (hT.one k1)
    ·rw [if_neg k1, if_neg k1, harg ⟨k1, k4⟩]
     by_cases k0 : b.term.kind = 0
     ·rw [if_pos k0, if_pos k0]
      cases hfs with
      | nil => exact ⟨[], .inl .nil, rfl⟩
      | @cons g g' gs gs' hg hgs =>
       refine ⟨{ g' with vals := vput g'.vals f'.to (vget f.vals b.term.arg) } :: gs', .inl (.cons ⟨hg.fn, hg.block, hg.to, hg.at_, ?_⟩ hgs), rfl⟩
       show Agree (okQ u g) (vput g.vals f.to _) (vput g'.vals f'.to _)
       rw [hf.to]
       exact hg.vals.put _ _
     ·rw [if_neg k0, if_neg k0]
      by_cases kw : (vget f.vals b.term.arg).kind ≠ 0
      ·rw [if_pos kw, if_pos kw]; exact same (stopF 5 0 M) hst
      ·rw [if_neg kw, if_neg kw]
       have hch := choice_lt hT (vget f.vals b.term.arg).n k0 k1 k4
       exact go _ (by omega)
  ·rw [if_neg h1] at hs2 hl2 ⊢
   rw [if_neg h1]
   obtain ⟨i, hi⟩ := get_of_lt b.ins f.at_.toNat (by omega)
   have him := Yd hi
   rw [hi, Option.getD_some] at hs2 hl2 ⊢
   have hgi : b.ins[f'.at_.toNat]? = some i := by rw [hf.at_]; exact hi
   rw [hgi, Option.getD_some]
   have hargs : takeF f'.vals i.args = takeF f.vals i.args := hf.vals.take fun a ha => hfr a (hr.args b hbm i him a ha)
   have hf1 : FQ u { f with at_ := f.at_ + 1 } { f' with at_ := f'.at_ + 1 } := ⟨hf.fn, hf.block, hf.to, by show f'.at_ + 1 = f.at_ + 1; rw [hf.at_], hf.vals⟩
   have ent : ∀ n to, ∃ S'', (SQ u (enterF u n (takeF f.vals i.args) to (wst ({ f with at_ := f.at_ + 1 } :: fs) M)).stack S'' ∨ PQ u (enterF u n (takeF f.vals i.args) to (wst ({ f with at_ := f.at_ + 1 } :: fs) M)).stack S'') ∧ enterF (preU u) n (takeF f.vals i.args) to (addL d (wst ({ f' with at_ := f'.at_ + 1 } :: fs') M)) = addL d (wst S'' (enterF u n (takeF f.vals i.args) to (wst ({ f with at_ := f.at_ + 1 } :: fs) M))) := fun n to => by
    exact ⟨entered u n (takeF f.vals i.args) to :: { f' with at_ := f'.at_ + 1 } :: fs', .inl (.cons ⟨rfl, rfl, rfl, rfl, fun x _ => rfl⟩ (.cons hf1 hfs)), by unfold enterF; rw [entered_pre hu hpf]; rfl⟩
   unfold insF at hs2 hl2 ⊢
   dsimp only at hs2 hl2 ⊢
   rw [hargs, preU_entry (nw_fns hu) hpf]
   by_cases o13 : i.op = 13
   ·rw [if_pos o13, if_pos o13]; exact ent _ _
   ·rw [if_neg o13] at hs2 hl2 ⊢
    rw [if_neg o13]
    by_cases o14 : i.op = 14
    ·rw [if_pos o14, if_pos o14]
     by_cases hc : (argAt (takeF f.vals i.args) 0).kind = 2 ∧ (entryOf u (argAt (takeF f.vals i.args) 0).n).length = (takeF f.vals i.args).length
     ·rw [if_pos hc, if_pos hc]; exact ent _ _
     ·rw [if_neg hc, if_neg hc]
      exact ⟨_, .inl (.cons hf1 hfs), rfl⟩
    ·rw [if_neg o14] at hs2 hl2 ⊢
     rw [if_neg o14]
     have e1 := exec_st i (takeF f.vals i.args) M ({ f with at_ := f.at_ + 1 } :: fs)
     have e2 := exec_st i (takeF f.vals i.args) M ({ f' with at_ := f'.at_ + 1 } :: fs')
     rw [e1] at hs2 hl2 ⊢
     have hsx : (execF i (takeF f.vals i.args) M).1.short = false := by
      dsimp only at hs2
      split at hs2 <;> exact hs2
     have hlx : 0 ≤ (execF i (takeF f.vals i.args) M).1.left := by
      dsimp only at hl2
      split at hl2 <;> exact hl2
     have e3 := (exec_addL i (takeF f.vals i.args) (wst ({ f' with at_ := f'.at_ + 1 } :: fs') M) d hs (by rw [e2]; exact hsx) (by show 0 ≤ M.left + d; omega)).1 (by rw [e2]; show 0 ≤ (execF i (takeF f.vals i.args) M).1.left + d; omega)
     rw [e3, e2]
     dsimp only
     refine ⟨{ f' with at_ := f'.at_ + 1, vals := vput f'.vals i.to (execF i (takeF f.vals i.args) M).2.1 } :: fs', .inl (.cons ⟨hf1.fn, hf1.block, hf1.to, hf1.at_, hf.vals.put _ _⟩ hfs), ?_⟩
     by_cases hx : (execF i (takeF f.vals i.args) M).2.2 ≠ 0
     ·rw [if_pos hx, if_pos hx]; rfl
     ·rw [if_neg hx, if_neg hx]; rfl
theorem go_pre : ∀ (n : Nat) (M : Mach) (d : Int) (S' : List MFrame), M.short = false → M.over = false → Good u M → (goF u n M).over = true → (goF u n M).short = false → SQ u M.stack S' → M.left ≤ d → ∀ N : Nat, 2 * M.left + 1 ≤ N → ∃ d' S'', goF (preU u) N (addL d (wst S' M)) = addL d' (wst S'' (goF u n M)) ∧ d' ≤ d
 | 0, M, d, S', hs, ho, hg, hov, _, _, _, _, _ => by
  have hov : M.over = true := hov
  rw [ho] at hov
  cases hov
 | n + 1, M, d, S', hs, ho, hg, hov, hsh, hS, hd, N, hN => by
  have hU := (unit_of hu).u
  cases hp : (payF 1 M).short with
  | true =>
   rw [goF_short ho n hp] at hsh
   rw [hp] at hsh
   cases hsh
  | false =>
   obtain ⟨e1, hl1⟩ := payF_ok hp
   obtain ⟨N, rfl⟩ : ∃ j, N = j + 2 := ⟨N - 2, by omega⟩
   rw [goF_step ho n hp, e1] at hov hsh ⊢
   have hg2 := good_step hU hg ho hl1
   have hM1 : MOk u { M with left := M.left - 1 } := by
    have := hg.1
    exact ⟨this.frames, this.heap, this.out, by show 0 ≤ M.left - 1; omega, by have h9 := this.left; show M.left - 1 + (M.stack.length : Int) ≤ 1000001; omega⟩
   have hs1 : ({ M with left := M.left - 1 } : Mach).short = false := hs
   have ho1 : ({ M with left := M.left - 1 } : Mach).over = false := ho
   have hS1 : SQ u ({ M with left := M.left - 1 } : Mach).stack S' := hS
   generalize hM1e : ({ M with left := M.left - 1 } : Mach) = M1 at hov hsh hg2 hM1 hs1 ho1 hS1 ⊢
   have hl : M1.left = M.left - 1 := by rw [← hM1e]
   have hs2 : (stepF u M1).short = false := by
    cases hx : (stepF u M1).short with
    | false => rfl
    | true => rw [goF_over (step_short hs1 hx), hx] at hsh; cases hsh
   have hl0 := hg2.1.left0
   have hl2 := step_left u M1
   have oA : (addL d (wst S' M)).over = false := ho
   have pA : payF 1 (addL d (wst S' M)) = addL d (wst S' M1) := by
    unfold payF
    rw [if_neg (by show ¬ M.left + d < 1; omega), ← hM1e]
    show ({ addL d (wst S' M) with left := M.left + d - 1 } : Mach) = { addL d (wst S' M) with left := M.left - 1 + d }
    rw [show M.left + d - 1 = M.left - 1 + d by omega]
   have sA : (payF 1 (addL d (wst S' M))).short = false := by rw [pA]; exact hs1
   rw [goF_step oA (N + 1) sA, pA]
   obtain ⟨S2, hor, e2⟩ := step_pre (d := d) hu hpf hM1 hS1 hs1 hs2 hl0 (by omega)
   rw [e2]
   have fin : ∀ (d2 : Int) (S3 : List MFrame) (N2 : Nat), SQ u (stepF u M1).stack S3 → (stepF u M1).left ≤ d2 → 2 * (stepF u M1).left + 1 ≤ N2 → d2 ≤ d → ∃ d' S'', goF (preU u) N2 (addL d2 (wst S3 (stepF u M1))) = addL d' (wst S'' (goF u n (stepF u M1))) ∧ d' ≤ d := fun d2 S3 N2 hS3 hd2 hN2 hdd => by
    cases ho2 : (stepF u M1).over with
    | true =>
     rw [goF_over ho2, goF_over (M := addL d2 (wst S3 (stepF u M1))) ho2]
     exact ⟨d2, S3, rfl, hdd⟩
    | false =>
     obtain ⟨d', S'', h1, h2⟩ := go_pre n _ d2 S3 hs2 ho2 hg2 hov hsh hS3 hd2 N2 hN2
     exact ⟨d', S'', h1, Int.le_trans h2 hdd⟩
   rcases hor with h1 | h1
   ·exact fin d S2 (N + 1) h1 (by omega) (by omega) (Ybm _)
   ·cases ho2 : (stepF u M1).over with
    | true =>
     rw [goF_over ho2, goF_over (M := addL d (wst S2 (stepF u M1))) ho2]
     exact ⟨d, S2, rfl, Ybm _⟩
    | false =>
     have oB : (addL d (wst S2 (stepF u M1))).over = false := ho2
     have pB : payF 1 (addL d (wst S2 (stepF u M1))) = addL (d - 1) (wst S2 (stepF u M1)) := by
      unfold payF
      rw [if_neg (by show ¬ (stepF u M1).left + d < 1; omega)]
      show ({ addL d (wst S2 (stepF u M1)) with left := (stepF u M1).left + d - 1 } : Mach) = { addL d (wst S2 (stepF u M1)) with left := (stepF u M1).left + (d - 1) }
      rw [show (stepF u M1).left + d - 1 = (stepF u M1).left + (d - 1) by omega]
     have sB : (payF 1 (addL d (wst S2 (stepF u M1)))).short = false := by rw [pB]; exact hs2
     obtain ⟨S3, h3, e3⟩ := pend_pre rfl h1 (d - 1)
     rw [goF_step oB N sB, pB, e3]
     exact fin (d - 1) S3 N h3 (by omega) (by omega) (by omega)
theorem pre_run {a b : Int} (h : (runF u a).2.2 = 0) (hb : 2 * a + 1 ≤ b) (hb2 : b ≤ 1000000) : (runF (preU u) b).2.2 = 0 ∧ (runF (preU u) b).1 = (runF u a).1 := by
 have hv := pre_unit hu hpf
 obtain ⟨_, h1, h2⟩ := run_ok h
 have hU := (unit_of hu).u
 rw [run_perform hu h1 h2] at h ⊢
 rw [run_perform hv (by omega) hb2]
 rw [perform_eq] at h ⊢
 rw [perform_eq]
 have hsh : (goF u (a.toNat + 1) (startF u a)).short = false := by
  cases hx : (goF u (a.toNat + 1) (startF u a)).short with
  | false => rfl
  | true => rw [hx, if_pos rfl] at h; cases h
 have hg := good_start hU (fuel := a) (by omega) h2
 have hov : (goF u (a.toNat + 1) (startF u a)).over = true := goF_end hU _ _ hg (fun _ => rfl) (by show a + 1 ≤ _; omega)
 have hst : startF (preU u) b = addL (b - a) (wst [entered u u.main [] 0] (startF u a)) := by
  show startF (preU u) b = addL (b - a) (startF u a)
  rw [start_addL, show a + (b - a) = b by omega]
  unfold startF enterF entered
  rw [preU_entry (nw_fns hu) hpf]
  rfl
 obtain ⟨d', S'', h4, h5⟩ := go_pre hu hpf (a.toNat + 1) (startF u a) (b - a) [entered u u.main [] 0] rfl rfl hg hov hsh (.cons ⟨rfl, rfl, rfl, rfl, fun x _ => rfl⟩ .nil) (by show a ≤ b - a; omega) (b.toNat + 1) (by show 2 * a + 1 ≤ _; omega)
 have hsh2 : (addL d' (wst S'' (goF u (a.toNat + 1) (startF u a)))).short = false := hsh
 rw [hst, h4, hsh, hsh2]
 exact ⟨rfl, rfl⟩
end
end Go.SM
end
