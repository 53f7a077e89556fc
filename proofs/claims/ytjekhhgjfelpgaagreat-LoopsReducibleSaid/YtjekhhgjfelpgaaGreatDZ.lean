import Derived.Test.YtjekhhgjfelpgaaGreatSZ
set_option linter.all false
open List renaming mem_cons_self → Ya, mem_cons_of_mem → Yb, mem_cons → Yc, getElem?_eq_some_iff → Yd, mem_singleton → Ye, mem_map → Yf, replicate → Yg, mem_of_getElem? → Yh, mem_append → Yi, mem_filter → Yj, range → Yk, length_cons → Yl, getElem?_set → Ym, mem_append_right → Yn, length_map → Yo, getElem?_map → Yp, mem_append_left → Yq, mem_range → Yr, map_append → Ys, cons_append → Yt, length_set → Yu, any_eq_true → Yv, length_append → Yw, append_assoc → Yx, getElem?_replicate → Yy, getElem?_eq_getElem → Yz, map_cons → Yaa, nodup_append → Yab, nil_append → Yac, foldl_cons → Yad, length_replicate → Yae, nodup_cons → Yaf, length_filter_le → Yag, getElem?_append_left → Yah, getElem?_drop → Yai, pairwise_map → Yaj, mem_flatMap → Yak, getElem?_eq_none → Yal, getElem?_set_ne → Yam, sum_cons → Yan, mem_mergeSort → Yao, map_map → Yap, all_eq_true → Yaq, length → Yar, getElem?_append_right → Yas, getLast?_concat → Yat, dropLast_concat → Yau, filter_cons → Yav, length_range → Yaw, append_nil → Yax, count_cons_self → Yay, getElem?_set_self → Yaz, getElem?_eq_none_iff → Yba, getElem?_of_mem → Ybb, mem_reverse → Ybc, drop_drop → Ybd, flatMap_cons → Ybe, length_eq_zero_iff → Ybf, getElem?_cons_succ → Ybg, count_cons_of_ne → Ybh, count_le_length → Ybi, dropLast_concat_getLast → Ybj, perm_ext_iff_of_nodup → Ybk, idxOf_lt_length_of_mem → Ybl
open Nat renaming le_refl → Ybm, zero_add → Ybn, add_zero → Ybo, zero_le → Ybp, le_trans → Ybq
open Int renaming toNat_natCast → Ybr
section
namespace Go.SM
open Go.VL
def rowsX (l : List (List Int)) : V := .sl 1 none (l.map intsX)
def predE (k : Nat) (P : List (List Int)) (e : SEdge) : List (List Int) := P.set e.block.toNat ((P[e.block.toNat]?.getD []) ++ [(k : Int)])
def predB (k : Nat) (P : List (List Int)) (b : SBlock) : List (List Int) := b.term.to.foldl (predE k) P
def predL : Nat → List SBlock → List (List Int) → List (List Int)
 | _, [], P => P
 | k, b :: l, P => predL (k + 1) l (predB k P b)
def predsF (bs : List SBlock) : List (List Int) := predL 0 bs (Yg bs.length [])
theorem predE_len (k : Nat) (P : List (List Int)) (e : SEdge) : (predE k P e).length = P.length := by simp [predE]
theorem foldl_len {k : Nat} : ∀ (l : List SEdge) (P : List (List Int)), (l.foldl (predE k) P).length = P.length
 | [], P => rfl
 | e :: l, P => by rw [Yad, foldl_len l, predE_len]
theorem predL_len : ∀ (k : Nat) (l : List SBlock) (P : List (List Int)), (predL k l P).length = P.length
 | k, [], P => rfl
 | k, b :: l, P => by rw [predL, predL_len (k + 1) l, predB, foldl_len]
theorem predsF_len (bs : List SBlock) : (predsF bs).length = bs.length := by rw [predsF, predL_len, Yae]
def total (P : List (List Int)) : Nat := (P.map Yar).sum
def edgesN : List SBlock → Nat
 | [] => 0
 | b :: l => b.term.to.length + edgesN l
theorem total_set {P : List (List Int)} {t : Nat} {x : Int} (h : t < P.length) : total (P.set t ((P[t]?.getD []) ++ [x])) = total P + 1 := by
 have h1 : (P.map Yar)[t]? = some (P[t]?.getD []).length := by rw [Yp, Yz h]; rfl
 have := sum_set (y := ((P[t]?.getD []) ++ [x]).length) h1
 unfold total
 rw [List.map_set]
 rw [Yw] at this ⊢
 simp at this ⊢
 omega
theorem total_set2 {P : List (List Int)} {t : Nat} {l : List Int} {x : Int} (h : P[t]? = some l) : total (P.set t (l ++ [x])) = total P + 1 := by
 have := total_set (x := x) (Yd.1 h).1
 rw [h] at this
 exact this
theorem total_edges {k : Nat} : ∀ {l : List SEdge} {P : List (List Int)}, (∀ e ∈ l, 1 ≤ e.block ∧ e.block < P.length) → total (l.foldl (predE k) P) = total P + l.length
 | [], P, _ => rfl
 | e :: l, P, h => by
  have he := h e (Ya ..)
  rw [Yad, total_edges (P := predE k P e) fun x hx => by rw [predE_len]; exact h x (Yb _ hx)]
  unfold predE
  rw [total_set (by omega), Yl]
  omega
theorem total_blocks : ∀ {l : List SBlock} {k : Nat} {P : List (List Int)}, (∀ b ∈ l, ∀ e ∈ b.term.to, 1 ≤ e.block ∧ e.block < P.length) → total (predL k l P) = total P + edgesN l
 | [], k, P, _ => rfl
 | b :: l, k, P, h => by
  rw [predL, total_blocks (k := k + 1) (P := predB k P b) fun c hc e he => by rw [predB, foldl_len]; exact h c (Yb _ hc) e he]
  rw [predB, total_edges (h b (Ya ..)), edgesN]
  omega
theorem total_zero (n : Nat) : total (Yg n []) = 0 := by simp [total]
theorem preds_total {bs : List SBlock} (h : ∀ b ∈ bs, ∀ e ∈ b.term.to, 1 ≤ e.block ∧ e.block < bs.length) : total (predsF bs) = edgesN bs := by
 rw [predsF, total_blocks (by rw [Yae]; exact h), total_zero, Ybn]
theorem total_take {P : List (List Int)} {k : Nat} {l : List Int} (h : P[k]? = some l) : total (P.take (k + 1)) = total (P.take k) + l.length := by
 rw [take_snoc h, total, total, Ys, List.sum_append]
 simp
theorem total_takele : ∀ (P : List (List Int)) (k : Nat), total (P.take k) ≤ total P
 | [], k => by simp
 | l :: P, 0 => by simp [total]
 | l :: P, k + 1 => by
  have := total_takele P k
  simp [total] at this ⊢
  omega
theorem edgesN_take {l : List SBlock} {k : Nat} {b : SBlock} (h : l[k]? = some b) : edgesN (l.take (k + 1)) = edgesN (l.take k) + b.term.to.length := by
 induction l generalizing k with
 | nil => simp at h
 | cons a l ih =>
  cases k with
  | zero => simp at h; subst h; simp [edgesN]
  | succ k => simp at h; have := ih h; simp [edgesN, this]; omega
theorem edgesN_takele : ∀ (l : List SBlock) (k : Nat), edgesN (l.take k) ≤ edgesN l
 | [], k => by simp
 | b :: l, 0 => by simp [edgesN]
 | b :: l, k + 1 => by
  have := edgesN_takele l k
  rw [List.take_succ_cons, edgesN, edgesN]
  omega
theorem edgesN_le : ∀ {l : List SBlock} {n : Nat}, (∀ b ∈ l, b.term.to.length ≤ n) → edgesN l ≤ n * l.length
 | [], n, _ => by simp [edgesN]
 | b :: l, n, h => by
  have := edgesN_le fun c hc => h c (Yb b hc)
  have := h b (Ya ..)
  rw [edgesN, Yl, Nat.mul_add]
  omega
theorem term_edges {f : SFunc} (h : FuncOk f) {b : SBlock} (hb : b ∈ f.blocks) : b.term.to.length ≤ 257 := by
 have he := endF_ok (h.block hb).2
 have hm := he.many
 have hs := he.shape
 unfold shapeF at hs
 repeat' split at hs
 all_goals first | (simp only [Bool.and_eq_true, decide_eq_true_eq] at hs; omega) | cases hs
theorem FuncOk.edges {f : SFunc} (h : FuncOk f) : ∀ b ∈ f.blocks, ∀ e ∈ b.term.to, 1 ≤ e.block ∧ e.block < f.blocks.length := blocks_edges h.blocks
theorem edges_small {f : SFunc} (h : FuncOk f) : edgesN f.blocks ≤ 32896 := by
 have := edgesN_le fun b hb => term_edges h (b := b) hb
 have := h.len
 omega
end Go.SM
end
section
namespace Go.SM
open Go.VL
structure DState where
 seen : List Bool
 stack : List (Nat × Nat)
 out : List Nat
def toAt (bs : List SBlock) (b : Nat) : List SEdge := ((bs[b]?).map (·.term.to)).getD []
def Edge (bs : List SBlock) (p v : Nat) : Prop := ∃ x ∈ toAt bs p, x.block.toNat = v
def dfsStep (bs : List SBlock) (s : DState) : DState :=
 match s.stack with
 | [] => s
 | (b, e) :: st =>
  match (toAt bs b)[e]? with
  | none => ⟨s.seen, st, s.out ++ [b]⟩
  | some x => if s.seen[x.block.toNat]? = some false then ⟨s.seen.set x.block.toNat true, (x.block.toNat, 0) :: (b, e + 1) :: st, s.out⟩ else ⟨s.seen, (b, e + 1) :: st, s.out⟩
def dfsRun (bs : List SBlock) : Nat → DState → DState
 | 0, s => s
 | n + 1, s => if s.stack = [] then s else dfsRun bs n (dfsStep bs s)
def dfsStart (n : Nat) : DState := ⟨(Yg n false).set 0 true, [(0, 0)], []⟩
def postF (bs : List SBlock) : List Nat := (dfsRun bs (edgesN bs + bs.length) (dfsStart bs.length)).out
def orderF (bs : List SBlock) : List Nat := (postF bs).reverse
theorem toAt_get {bs : List SBlock} {k : Nat} {b : SBlock} (h : bs[k]? = some b) : toAt bs k = b.term.to := by rw [toAt, h]; rfl
def cost (bs : List SBlock) (k : Nat) : Nat := (toAt bs k).length + 1
def unseenW (bs : List SBlock) : Nat → List Bool → Nat
 | _, [] => 0
 | k, s :: l => (if s then 0 else cost bs k) + unseenW bs (k + 1) l
def stackW (bs : List SBlock) : List (Nat × Nat) → Nat
 | [] => 0
 | (b, e) :: st => (cost bs b - e) + stackW bs st
def dfsW (bs : List SBlock) (s : DState) : Nat := unseenW bs 0 s.seen + stackW bs s.stack
theorem unseen_set (bs : List SBlock) : ∀ (l : List Bool) (k n : Nat), l[n]? = some false → unseenW bs k (l.set n true) + cost bs (k + n) = unseenW bs k l
 | [], k, n, h => by simp at h
 | s :: l, k, 0, h => by
  simp at h
  subst h
  simp [unseenW]
  omega
 | s :: l, k, n + 1, h => by
  simp at h
  have := unseen_set bs l (k + 1) n h
  simp only [List.set_cons_succ, unseenW]
  rw [show k + (n + 1) = k + 1 + n by omega]
  omega
structure DfsInv0 (bs : List SBlock) (s : DState) : Prop where
 len : s.seen.length = bs.length
 stk : ∀ x ∈ s.stack, x.1 < bs.length ∧ x.2 ≤ (toAt bs x.1).length ∧ s.seen[x.1]? = some true
theorem step_w {bs : List SBlock} {s : DState} (h : DfsInv0 bs s) (hne : s.stack ≠ []) : dfsW bs (dfsStep bs s) + 1 = dfsW bs s := by
 unfold dfsStep
 split
 ·rename_i he; exact absurd he hne
 ·rename_i b e st hs
  have hb := h.stk (b, e) (by rw [hs]; exact Ya ..)
  dsimp only at hb
  split
  ·rename_i hn
   have : e = (toAt bs b).length := by
    have := Yba.1 hn
    omega
   unfold dfsW
   rw [hs]
   simp only [stackW, cost]
   omega
  ·rename_i x hx
   have hlt := (Yd.1 hx).1
   split
   ·rename_i hu
    have := unseen_set bs s.seen 0 _ hu
    unfold dfsW
    rw [hs]
    simp only [stackW]
    rw [Ybn] at this
    have hc : cost bs b = (toAt bs b).length + 1 := rfl
    omega
   ·unfold dfsW
    rw [hs]
    simp only [stackW, cost]
    omega
def StackOk (bs : List SBlock) : List (Nat × Nat) → Prop
 | [] => True
 | [x] => x.1 = 0
 | x :: y :: st => Edge bs y.1 x.1 ∧ StackOk bs (y :: st)
def seenB (s : DState) (v : Nat) : Prop := s.seen[v]? = some true
structure DfsInv (bs : List SBlock) (s : DState) : Prop extends DfsInv0 bs s where
 out : ∀ v ∈ s.out, v < bs.length ∧ seenB s v
 nodup : (s.stack.map (·.1) ++ s.out).Nodup
 cover : ∀ v, seenB s v → v ∈ s.stack.map (·.1) ∨ v ∈ s.out
 closedO : ∀ v ∈ s.out, ∀ x ∈ toAt bs v, seenB s x.block.toNat
 closedS : ∀ y ∈ s.stack, ∀ i x, i < y.2 → (toAt bs y.1)[i]? = some x → seenB s x.block.toNat
 chain : StackOk bs s.stack
 par : ∀ (i v : Nat), s.out[i]? = some v → v ≠ 0 → ∃ p, Edge bs p v ∧ (p ∈ s.stack.map (·.1) ∨ ∃ j, i < j ∧ s.out[j]? = some p)
 root : s.stack = [] → ∃ l, s.out = l ++ [0]
theorem StackOk.tail {bs : List SBlock} {x : Nat × Nat} : ∀ {st : List (Nat × Nat)}, StackOk bs (x :: st) → StackOk bs st
 | [], _ => trivial
 | y :: st, h => h.2
theorem StackOk.head {bs : List SBlock} {x y : Nat × Nat} (he : x.1 = y.1) : ∀ {st : List (Nat × Nat)}, StackOk bs (x :: st) → StackOk bs (y :: st)
 | [], h => by
  have h : x.1 = 0 := h
  show y.1 = 0
  rw [← he]
  exact h
 | z :: st, h => ⟨by rw [← he]; exact h.1, h.2⟩
theorem seen_mono {l : List Bool} {n v : Nat} (h : l[v]? = some true) : (l.set n true)[v]? = some true := by
 rw [Ym]
 split
 ·rename_i e; subst e; rw [if_pos (Yd.1 h).1]
 ·exact h
theorem step_inv {bs : List SBlock} {s : DState} (hE : ∀ b ∈ bs, ∀ e ∈ b.term.to, 1 ≤ e.block ∧ e.block < bs.length) (h : DfsInv bs s) : DfsInv bs (dfsStep bs s) := by
 unfold dfsStep
 split
 ·exact h
 ·rename_i b e st hs
  have hb := h.stk (b, e) (by rw [hs]; exact Ya ..)
  dsimp only at hb
  have hnd := h.nodup
  rw [hs] at hnd
  have hch := h.chain
  rw [hs] at hch
  split
  ·rename_i hn
   have hee : (toAt bs b).length ≤ e := Yba.1 hn
   refine ⟨⟨h.len, fun x hx => h.stk x (by rw [hs]; exact Yb _ hx)⟩, ?_, ?_, ?_, ?_, ?_, hch.tail, ?_, ?_⟩
   ·intro v hv
    rcases Yi.1 hv with hv | hv
    ·exact h.out v hv
    ·rw [Ye.1 hv]; exact ⟨hb.1, hb.2.2⟩
   ·dsimp only
    rw [← Yx]
    rw [Yaa, Yt] at hnd
    have hp : ((b, e).1 :: (st.map (·.1) ++ s.out)).Perm (st.map (·.1) ++ s.out ++ [b]) := (List.perm_append_singleton _ _).symm
    exact hp.nodup_iff.1 hnd
   ·intro v hv
    rcases h.cover v hv with hv | hv
    ·rw [hs] at hv
     rcases Yc.1 hv with rfl | hv
     ·exact .inr (Yn _ (Ye.2 rfl))
     ·exact .inl hv
    ·exact .inr (Yq _ hv)
   ·intro v hv x hx
    rcases Yi.1 hv with hv | hv
    ·exact h.closedO v hv x hx
    ·have hvb := Ye.1 hv
     subst hvb
     obtain ⟨i, hi⟩ := Ybb hx
     exact h.closedS (v, e) (by rw [hs]; exact Ya ..) i x (by have := (Yd.1 hi).1; show i < e; omega) hi
   ·exact fun y hy => h.closedS y (by rw [hs]; exact Yb _ hy)
   ·intro i v hi h0
    dsimp only at hi ⊢
    by_cases hlt : i < s.out.length
    ·rw [Yah hlt] at hi
     obtain ⟨p, hp1, hp2⟩ := h.par i v hi h0
     refine ⟨p, hp1, ?_⟩
     rcases hp2 with hp2 | ⟨j, hj, hj2⟩
     ·rw [hs] at hp2
      rcases Yc.1 hp2 with rfl | hp2
      ·exact .inr ⟨s.out.length, hlt, by rw [Yas (Ybm _)]; simp⟩
      ·exact .inl hp2
     ·exact .inr ⟨j, hj, by rw [Yah (Yd.1 hj2).1]; exact hj2⟩
    ·rw [Yas (by omega)] at hi
     have : i - s.out.length = 0 := by
      have := (Yd.1 hi).1
      simp at this
      omega
     rw [this] at hi
     simp at hi
     subst hi
     cases st with
     | nil => exact absurd hch h0
     | cons y st => exact ⟨y.1, hch.1, .inl (Yf.2 ⟨y, Ya .., rfl⟩)⟩
   ·intro hst
    dsimp only at hst
    subst hst
    have hb0 : b = 0 := hch
    exact ⟨s.out, by rw [hb0]⟩
  ·rename_i x hx
   have hlt := (Yd.1 hx).1
   have hxm := Yh hx
   have hxn : x.block.toNat < bs.length := by
    obtain ⟨bl, hbl⟩ : ∃ bl, bs[b]? = some bl := ⟨_, Yz hb.1⟩
    rw [toAt_get hbl] at hxm
    have := hE bl (Yh hbl) x hxm
    omega
   split
   ·rename_i hu
    have hns : ∀ v, seenB s v → v ≠ x.block.toNat := fun v hv e => by
     subst e
     unfold seenB at hv
     rw [hu] at hv
     cases hv
    have hnew : (s.seen.set x.block.toNat true)[x.block.toNat]? = some true := by rw [Ym, if_pos rfl, if_pos (by rw [h.len]; exact hxn)]
    refine ⟨⟨by rw [Yu]; exact h.len, ?_⟩, ?_, ?_, ?_, ?_, ?_, ?_, ?_, ?_⟩
    ·intro y hy
     rcases Yc.1 hy with rfl | hy
     ·exact ⟨hxn, Ybp _, hnew⟩
     ·rcases Yc.1 hy with rfl | hy
      ·exact ⟨hb.1, hlt, seen_mono hb.2.2⟩
      ·have := h.stk y (by rw [hs]; exact Yb _ hy)
       exact ⟨this.1, this.2.1, seen_mono this.2.2⟩
    ·exact fun v hv => ⟨(h.out v hv).1, seen_mono (h.out v hv).2⟩
    ·dsimp only
     rw [Yaa, Yaa, Yt]
     refine Yaf.2 ⟨fun hm => ?_, hnd⟩
     have hsn : seenB s x.block.toNat := by
      rcases Yi.1 hm with hm | hm
      ·rcases Yc.1 hm with e1 | hm
       ·have e1 : x.block.toNat = b := e1
        rw [e1]; exact hb.2.2
       ·obtain ⟨y, hy, hy2⟩ := Yf.1 hm
        have hy2 : y.1 = x.block.toNat := hy2
        rw [← hy2]
        exact (h.stk y (by rw [hs]; exact Yb _ hy)).2.2
      ·exact (h.out _ hm).2
     exact hns _ hsn rfl
    ·intro v hv
     unfold seenB at hv
     dsimp only at hv ⊢
     by_cases hvx : v = x.block.toNat
     ·subst hvx; exact .inl (Ya ..)
     ·rw [Yam (Ne.symm hvx)] at hv
      rcases h.cover v hv with hc | hc
      ·rw [hs] at hc
       exact .inl (Yb _ hc)
      ·exact .inr hc
    ·exact fun v hv y hy => seen_mono (h.closedO v hv y hy)
    ·intro y hy i z hi hz
     rcases Yc.1 hy with rfl | hy
     ·exact absurd hi (Nat.not_lt_zero _)
     ·rcases Yc.1 hy with rfl | hy
      ·dsimp only at hi hz
       by_cases hie : i = e
       ·subst hie
        rw [hx] at hz
        injection hz with hz
        subst hz
        exact hnew
       ·exact seen_mono (h.closedS (b, e) (by rw [hs]; exact Ya ..) i z (by show i < e; omega) hz)
      ·exact seen_mono (h.closedS y (by rw [hs]; exact Yb _ hy) i z hi hz)
    ·exact ⟨⟨x, hxm, rfl⟩, StackOk.head (x := (b, e)) (y := (b, e + 1)) rfl hch⟩
    ·intro i v hi h0
     obtain ⟨p, hp1, hp2⟩ := h.par i v hi h0
     refine ⟨p, hp1, hp2.imp (fun hp2 => ?_) id⟩
     rw [hs] at hp2
     exact Yb _ hp2
    ·intro hst; cases hst
   ·rename_i hu
    have hsx : seenB s x.block.toNat := by
     unfold seenB
     cases hv : s.seen[x.block.toNat]? with
     | none =>
      have := Yba.1 hv
      rw [h.len] at this
      omega
     | some v =>
      cases v with
      | true => rfl
      | false => exact absurd hv hu
    refine ⟨⟨h.len, ?_⟩, h.out, ?_, ?_, h.closedO, ?_, ?_, ?_, ?_⟩
    ·intro y hy
     rcases Yc.1 hy with rfl | hy
     ·exact ⟨hb.1, hlt, hb.2.2⟩
     ·exact h.stk y (by rw [hs]; exact Yb _ hy)
    ·exact hnd
    ·intro v hv
     rcases h.cover v hv with hc | hc
     ·rw [hs] at hc; exact .inl hc
     ·exact .inr hc
    ·intro y hy i z hi hz
     rcases Yc.1 hy with rfl | hy
     ·dsimp only at hi hz
      by_cases hie : i = e
      ·subst hie
       rw [hx] at hz
       injection hz with hz
       subst hz
       exact hsx
      ·exact h.closedS (b, e) (by rw [hs]; exact Ya ..) i z (by show i < e; omega) hz
     ·exact h.closedS y (by rw [hs]; exact Yb _ hy) i z hi hz
    ·exact StackOk.head (x := (b, e)) (y := (b, e + 1)) rfl hch
    ·intro i v hi h0
     obtain ⟨p, hp1, hp2⟩ := h.par i v hi h0
     refine ⟨p, hp1, hp2.imp (fun hp2 => ?_) id⟩
     rw [hs] at hp2
     exact hp2
    ·intro hst; cases hst
theorem nodup_lt {l : List Nat} {n : Nat} (h : l.Nodup) (hr : ∀ v ∈ l, v < n) : l.length ≤ n := by
 have := h.length_le_of_subset (l₂ := Yk n) fun v hv => Yr.2 (hr v hv)
 simpa using this
theorem dfs_small {bs : List SBlock} {s : DState} (h : DfsInv bs s) : s.stack.length ≤ bs.length ∧ s.out.length ≤ bs.length := by
 have h1 := (Yab.1 h.nodup).1
 have h2 := (Yab.1 h.nodup).2.1
 have := nodup_lt h1 (n := bs.length) fun v hv => by
  obtain ⟨x, hx, rfl⟩ := Yf.1 hv
  exact (h.stk x hx).1
 exact ⟨by simpa using this, nodup_lt h2 fun v hv => (h.out v hv).1⟩
theorem start_inv {bs : List SBlock} (h0 : 0 < bs.length) : DfsInv bs (dfsStart bs.length) := by
 have hs : (dfsStart bs.length).seen[0]? = some true := by
  show ((Yg bs.length false).set 0 true)[0]? = some true
  rw [Ym, if_pos rfl, if_pos (by simpa using h0)]
 refine ⟨⟨by simp [dfsStart], fun x hx => ?_⟩, fun v hv => (by cases hv), by simp [dfsStart], fun v hv => ?_, fun v hv => (by cases hv), fun y hy i x hi => ?_, rfl, fun i v hi => (by simp [dfsStart] at hi), fun h => (by cases h)⟩
 ·have hx := Ye.1 hx
  subst hx
  exact ⟨h0, Ybp _, hs⟩
 ·by_cases hv0 : v = 0
  ·subst hv0; exact .inl (Ya ..)
  ·unfold seenB at hv
   have : ((Yg bs.length false).set 0 true)[v]? = some true := hv
   rw [Yam (Ne.symm hv0), Yy] at this
   split at this <;> cases this
 ·have hy := Ye.1 hy
  subst hy
  exact absurd hi (Nat.not_lt_zero _)
theorem run_inv {bs : List SBlock} (hE : ∀ b ∈ bs, ∀ e ∈ b.term.to, 1 ≤ e.block ∧ e.block < bs.length) : ∀ (n : Nat) (s : DState), DfsInv bs s → dfsW bs s ≤ n → DfsInv bs (dfsRun bs n s) ∧ (dfsRun bs n s).stack = []
 | 0, s, h, hw => by
  refine ⟨h, ?_⟩
  show s.stack = []
  cases hs : s.stack with
  | nil => rfl
  | cons x st =>
   have hb := h.stk x (by rw [hs]; exact Ya ..)
   unfold dfsW at hw
   rw [hs] at hw
   obtain ⟨b, e⟩ := x
   simp only [stackW, cost] at hw
   dsimp only at hb
   omega
 | n + 1, s, h, hw => by
  rw [dfsRun]
  split
  ·rename_i he; exact ⟨h, he⟩
  ·rename_i hne
   have := step_w h.toDfsInv0 hne
   exact run_inv hE n _ (step_inv hE h) (by omega)
theorem unseen_start (bs : List SBlock) : ∀ (l : List SBlock) (k : Nat), (∀ i b, l[i]? = some b → bs[k + i]? = some b) → unseenW bs k (Yg l.length false) = edgesN l + l.length
 | [], k, _ => rfl
 | b :: l, k, h => by
  have h1 := unseen_start bs l (k + 1) fun i b hb => by
   have := h (i + 1) b (by simpa using hb)
   rwa [show k + (i + 1) = k + 1 + i by omega] at this
  have h2 := h 0 b rfl
  rw [Ybo] at h2
  rw [Yl, List.replicate_succ, unseenW, h1, edgesN, cost, toAt_get h2]
  simp
  omega
theorem start_weight {bs : List SBlock} (h0 : 0 < bs.length) : dfsW bs (dfsStart bs.length) = edgesN bs + bs.length := by
 have h1 := unseen_start bs bs 0 fun i b hb => by rw [Ybn]; exact hb
 have h2 := unseen_set bs (Yg bs.length false) 0 0 (by rw [Yy, if_pos h0])
 unfold dfsW dfsStart
 simp only [stackW]
 rw [Ybn] at h2
 omega
structure OrderOk (bs : List SBlock) (l : List Nat) : Prop where
 nodup : l.Nodup
 lt : ∀ v ∈ l, v < bs.length
 zero : l[0]? = some 0
 closed : ∀ v ∈ l, ∀ w, Edge bs v w → w ∈ l
 par : ∀ (j v : Nat), l[j]? = some v → v ≠ 0 → ∃ i p, i < j ∧ l[i]? = some p ∧ Edge bs p v
theorem order_ok {bs : List SBlock} (h0 : 0 < bs.length) (hE : ∀ b ∈ bs, ∀ e ∈ b.term.to, 1 ≤ e.block ∧ e.block < bs.length) : OrderOk bs (orderF bs) := by
 obtain ⟨h, hst⟩ := run_inv hE (edgesN bs + bs.length) _ (start_inv h0) (by rw [start_weight h0]; exact Ybm _)
 have hpo : postF bs = (dfsRun bs (edgesN bs + bs.length) (dfsStart bs.length)).out := rfl
 unfold orderF
 rw [hpo]
 generalize dfsRun bs (edgesN bs + bs.length) (dfsStart bs.length) = s at *
 have hn := h.nodup
 have hcov := h.cover
 rw [hst] at hn hcov
 refine ⟨(List.reverse_perm _).nodup_iff.2 (by simpa using hn), fun v hv => (h.out v (Ybc.1 hv)).1, ?_, ?_, ?_⟩
 ·obtain ⟨l, hl⟩ := h.root hst
  rw [hl]
  simp
 ·rintro v hv w ⟨x, hx, rfl⟩
  have := h.closedO v (Ybc.1 hv) x hx
  rcases hcov _ this with hc | hc
  ·cases hc
  ·exact Ybc.2 hc
 ·intro j v hj h0
  have hjl := (Yd.1 hj).1
  rw [List.length_reverse] at hjl
  rw [List.getElem?_reverse hjl] at hj
  obtain ⟨p, hp, hp2⟩ := h.par _ v hj h0
  rcases hp2 with hp2 | ⟨i, hi, hi2⟩
  ·rw [hst] at hp2; cases hp2
  ·have hil := (Yd.1 hi2).1
   refine ⟨s.out.length - 1 - i, p, by omega, ?_, hp⟩
   rw [List.getElem?_reverse (by omega)]
   rw [show s.out.length - 1 - (s.out.length - 1 - i) = i by omega]
   exact hi2
theorem post_len {bs : List SBlock} (h0 : 0 < bs.length) (hE : ∀ b ∈ bs, ∀ e ∈ b.term.to, 1 ≤ e.block ∧ e.block < bs.length) : (postF bs).length ≤ bs.length := by
 have h := order_ok h0 hE
 have := nodup_lt h.nodup h.lt
 rw [orderF, List.length_reverse] at this
 exact this
theorem predE_mem {k : Nat} {P : List (List Int)} {e : SEdge} {t : Nat} (he : e.block.toNat < P.length) {x : Int} : x ∈ ((predE k P e)[t]?.getD []) ↔ x ∈ (P[t]?.getD []) ∨ (x = k ∧ e.block.toNat = t) := by
 unfold predE
 rw [Ym]
 by_cases h : e.block.toNat = t
 ·subst h
  rw [if_pos rfl, if_pos he]
  simp
 ·rw [if_neg h]
  simp [h]
theorem foldl_mem {k : Nat} {t : Nat} {x : Int} : ∀ {l : List SEdge} {P : List (List Int)}, (∀ e ∈ l, e.block.toNat < P.length) → (x ∈ ((l.foldl (predE k) P)[t]?.getD []) ↔ x ∈ (P[t]?.getD []) ∨ (x = k ∧ ∃ e ∈ l, e.block.toNat = t))
 | [], P, _ => by simp
 | e :: l, P, h => by
  rw [Yad, foldl_mem (P := predE k P e) fun y hy => by rw [predE_len]; exact h y (Yb _ hy), predE_mem (h e (Ya ..))]
  constructor
  ·rintro ((h1 | ⟨h1, h2⟩) | ⟨h1, y, hy, h2⟩)
   ·exact .inl h1
   ·exact .inr ⟨h1, e, Ya .., h2⟩
   ·exact .inr ⟨h1, y, Yb _ hy, h2⟩
  ·rintro (h1 | ⟨h1, y, hy, h2⟩)
   ·exact .inl (.inl h1)
   ·rcases Yc.1 hy with rfl | hy
    ·exact .inl (.inr ⟨h1, h2⟩)
    ·exact .inr ⟨h1, y, hy, h2⟩
theorem predL_mem {t : Nat} {x : Int} : ∀ {l : List SBlock} {k : Nat} {P : List (List Int)}, (∀ b ∈ l, ∀ e ∈ b.term.to, e.block.toNat < P.length) →
  (x ∈ ((predL k l P)[t]?.getD []) ↔ x ∈ (P[t]?.getD []) ∨ ∃ (i : Nat) (b : SBlock), l[i]? = some b ∧ x = ((k + i : Nat) : Int) ∧ ∃ e ∈ b.term.to, e.block.toNat = t)
 | [], k, P, _ => by simp [predL]
 | b :: l, k, P, h => by
  have hb := h b (Ya ..)
  rw [predL, predL_mem (k := k + 1) (P := predB k P b) fun c hc e he => by rw [predB, foldl_len]; exact h c (Yb _ hc) e he]
  rw [predB, foldl_mem hb]
  constructor
  ·rintro ((h1 | ⟨h1, h2⟩) | ⟨i, c, hc, h1, h2⟩)
   ·exact .inl h1
   ·exact .inr ⟨0, b, rfl, h1, h2⟩
   ·exact .inr ⟨i + 1, c, by simpa using hc, by rw [h1]; congr 1; omega, h2⟩
  ·rintro (h1 | ⟨i, c, hc, h1, h2⟩)
   ·exact .inl (.inl h1)
   ·cases i with
    | zero =>
     simp at hc
     subst hc
     exact .inl (.inr ⟨h1, h2⟩)
    | succ i => exact .inr ⟨i, c, by simpa using hc, by rw [h1]; congr 1; omega, h2⟩
theorem preds_mem {bs : List SBlock} (hE : ∀ b ∈ bs, ∀ e ∈ b.term.to, 1 ≤ e.block ∧ e.block < bs.length) {t : Nat} {x : Int} : x ∈ ((predsF bs)[t]?.getD []) ↔ ∃ p : Nat, x = p ∧ Edge bs p t := by
 rw [predsF, predL_mem fun b hb e he => by have := hE b hb e he; rw [Yae]; omega]
 constructor
 ·rintro (h | ⟨i, b, hb, h1, e, he, h2⟩)
  ·rw [Yy] at h
   split at h <;> simp at h
  ·exact ⟨i, by rw [h1]; congr 1; omega, e, by rw [toAt_get hb]; exact he, h2⟩
 ·rintro ⟨p, rfl, e, he, h2⟩
  right
  unfold toAt at he
  cases hb : bs[p]? with
  | none => rw [hb] at he; cases he
  | some b => rw [hb] at he; exact ⟨p, b, hb, by congr 1; omega, e, he, h2⟩
end Go.SM
end
section
namespace Go.SM
open Go.VL
def gI (l : List Int) (i : Int) : Int := l[i.toNat]?.getD 0
def meetF (ov pl : List Int) : Nat → Int → Int → Int
 | 0, a, _ => a
 | n + 1, a, b => if a = b then a else if gI pl a > gI pl b then meetF ov pl n (gI ov a) b else meetF ov pl n a (gI ov b)
def skipP (ov pl : List Int) (p : Int) : Bool := decide (gI pl p < 0) || (decide (p ≠ 0) && decide (gI ov p < 0))
def nextL (ov pl : List Int) (m : Nat) : Int → List Int → Int
 | cur, [] => cur
 | cur, p :: ps => nextL ov pl m (if skipP ov pl p then cur else if cur < 0 then p else meetF ov pl m cur p) ps
def placeF (ord : List Int) (n : Nat) : List Int := (Yk n).map fun k : Nat => idxOf (fun x => decide ((k : Int) = x)) ord
structure TState where
 ov : List Int
 again : Bool
def treeNode (bs : List SBlock) (pl : List Int) (s : TState) (k : Int) : TState :=
 let nx := nextL s.ov pl (2 * bs.length + 1) (-1) ((predsF bs)[k.toNat]?.getD [])
 if nx ≠ gI s.ov k then ⟨s.ov.set k.toNat nx, true⟩ else s
def treePass (bs : List SBlock) (pl : List Int) : List Int → TState → TState
 | [], s => s
 | k :: l, s => treePass bs pl l (treeNode bs pl s k)
def treeIter (bs : List SBlock) (pl : List Int) (ord : List Int) : Nat → TState → TState
 | 0, s => s
 | n + 1, s => if s.again then treeIter bs pl ord n (treePass bs pl (ord.drop 1) ⟨s.ov, false⟩) else s
def ordZ (bs : List SBlock) : List Int := (orderF bs).map fun k : Nat => (k : Int)
def placeZ (bs : List SBlock) : List Int := placeF (ordZ bs) bs.length
def treeF (bs : List SBlock) : List Int := (treeIter bs (placeZ bs) (ordZ bs) (bs.length * bs.length + 2) ⟨Yg bs.length (-1), true⟩).ov
theorem place_len (bs : List SBlock) : (placeZ bs).length = bs.length := by simp [placeZ, placeF]
theorem idx_nat {l : List Nat} {v : Nat} : idxOf (fun x => decide ((v : Int) = x)) (l.map fun k : Nat => (k : Int)) = -1 ∧ v ∉ l ∨ ∃ i, idxOf (fun x => decide ((v : Int) = x)) (l.map fun k : Nat => (k : Int)) = (i : Nat) ∧ l[i]? = some v := by
 rcases idxOf_range (fun x => decide ((v : Int) = x)) (l.map fun k : Nat => (k : Int)) with ⟨h1, h2⟩ | ⟨i, x, h1, h2, h3, _⟩
 ·refine .inl ⟨h1, fun hm => ?_⟩
  rw [List.any_eq_false] at h2
  exact h2 (v : Int) (Yf.2 ⟨v, hm, rfl⟩) (by simp)
 ·refine .inr ⟨i, h1, ?_⟩
  rw [Yp] at h2
  obtain ⟨w, hw, rfl⟩ := Option.map_eq_some_iff.1 h2
  rw [hw]
  have : (v : Int) = (w : Int) := by simpa using h3
  congr 1
  omega
theorem place_get {bs : List SBlock} {v : Nat} (hv : v < bs.length) : gI (placeZ bs) v = -1 ∧ v ∉ orderF bs ∨ ∃ i, gI (placeZ bs) v = (i : Nat) ∧ (orderF bs)[i]? = some v := by
 have : gI (placeZ bs) v = idxOf (fun x => decide ((v : Int) = x)) (ordZ bs) := by
  unfold gI placeZ placeF
  rw [Ybr, Yp, List.getElem?_range hv]
  rfl
 rw [this]
 exact idx_nat
def pos (bs : List SBlock) (v : Nat) : Nat := (gI (placeZ bs) v).toNat
section
variable {bs : List SBlock} (ho : OrderOk bs (orderF bs))
include ho
theorem place_of {v : Nat} (hv : v ∈ orderF bs) : gI (placeZ bs) v = (pos bs v : Nat) ∧ (orderF bs)[pos bs v]? = some v := by
 rcases place_get (ho.lt v hv) with ⟨_, h⟩ | ⟨i, h1, h2⟩
 ·exact absurd hv h
 ·unfold pos
  rw [h1, Ybr]
  exact ⟨rfl, h2⟩
theorem pos_of_get {v i : Nat} (h : (orderF bs)[i]? = some v) : pos bs v = i := by
 have := (place_of ho (Yh h)).2
 exact (List.getElem?_inj (Yd.1 this).1 ho.nodup).1 (this.trans h.symm)
theorem pos_inj {v w : Nat} (hv : v ∈ orderF bs) (hw : w ∈ orderF bs) (h : pos bs v = pos bs w) : v = w := by
 have h1 := (place_of ho hv).2
 have h2 := (place_of ho hw).2
 rw [h, h2] at h1
 injection h1 with h1
 exact h1.symm
theorem pos_zero : pos bs 0 = 0 := pos_of_get ho ho.zero
theorem pos_lt {v : Nat} (hv : v ∈ orderF bs) : pos bs v < bs.length := by
 have := (Yd.1 (place_of ho hv).2).1
 have := nodup_lt ho.nodup ho.lt
 omega
theorem zero_mem : 0 ∈ orderF bs := Yh ho.zero
theorem par_of {v : Nat} (hv : v ∈ orderF bs) (h0 : v ≠ 0) : ∃ p, p ∈ orderF bs ∧ pos bs p < pos bs v ∧ Edge bs p v := by
 obtain ⟨i, p, hi, hp, he⟩ := ho.par _ v (place_of ho hv).2 h0
 exact ⟨p, Yh hp, by rw [pos_of_get ho hp]; exact hi, he⟩
open Classical in
omit ho in
noncomputable def pi (bs : List SBlock) (v : Nat) : Nat := if h : ∃ p, p ∈ orderF bs ∧ pos bs p < pos bs v ∧ Edge bs p v then Classical.choose h else 0
theorem pi_spec {v : Nat} (hv : v ∈ orderF bs) (h0 : v ≠ 0) : pi bs v ∈ orderF bs ∧ pos bs (pi bs v) < pos bs v ∧ Edge bs (pi bs v) v := by
 have h := par_of ho hv h0
 unfold pi
 rw [dif_pos h]
 exact Classical.choose_spec h
end
inductive Anc (ov : List Int) : Nat → Nat → Prop where
 | refl (a : Nat) : Anc ov a a
 | step {a q x : Nat} : ov[a]? = some (q : Int) → Anc ov q x → Anc ov a x
inductive AncP (bs : List SBlock) : Nat → Nat → Prop where
 | refl (a : Nat) : AncP bs a a
 | step {a x : Nat} : a ≠ 0 → AncP bs (pi bs a) x → AncP bs a x
theorem Anc.trans {ov : List Int} {a b c : Nat} (h : Anc ov a b) (k : Anc ov b c) : Anc ov a c := by
 induction h with
 | refl => exact k
 | step h _ ih => exact .step h (ih k)
structure Tree (bs : List SBlock) (ov : List Int) : Prop where
 len : ov.length = bs.length
 root : ov[0]? = some (-1)
 out : ∀ v, v < bs.length → v ∉ orderF bs → ov[v]? = some (-1)
 up : ∀ (v : Nat) (x : Int), v ∈ orderF bs → v ≠ 0 → ov[v]? = some x → 0 ≤ x → ∃ q : Nat, x = q ∧ q ∈ orderF bs ∧ pos bs q < pos bs v ∧ (q = 0 ∨ ∃ y : Int, ov[q]? = some y ∧ 0 ≤ y)
 low : ∀ (v : Nat) (x : Int), ov[v]? = some x → x < 0 → x = -1
def InT (bs : List SBlock) (ov : List Int) (v : Nat) : Prop := v ∈ orderF bs ∧ (v = 0 ∨ ∃ x : Int, ov[v]? = some x ∧ 0 ≤ x)
section
variable {bs : List SBlock} (ho : OrderOk bs (orderF bs)) {ov : List Int}
include ho
theorem Tree.parent (h : Tree bs ov) {v : Nat} (hv : InT bs ov v) (h0 : v ≠ 0) : ∃ q : Nat, ov[v]? = some (q : Int) ∧ InT bs ov q ∧ pos bs q < pos bs v := by
 obtain ⟨hm, hv⟩ := hv
 rcases hv with hv | ⟨x, hx, hx0⟩
 ·exact absurd hv h0
 ·obtain ⟨q, rfl, h1, h2, h3⟩ := h.up v x hm h0 hx hx0
  exact ⟨q, hx, ⟨h1, h3⟩, h2⟩
theorem Tree.anc (h : Tree bs ov) {v x : Nat} (hv : InT bs ov v) (ha : Anc ov v x) : InT bs ov x ∧ pos bs x ≤ pos bs v ∧ (x ≠ v → pos bs x < pos bs v) := by
 induction ha with
 | refl a => exact ⟨hv, Ybm _, fun h => absurd rfl h⟩
 | @step a q x hq _ ih =>
  by_cases h0 : a = 0
  ·subst h0
   rw [h.root] at hq
   injection hq with hq
   omega
  ·obtain ⟨q', hq', hi, hp⟩ := h.parent ho hv h0
   rw [hq] at hq'
   injection hq' with hq'
   have : q = q' := by omega
   subst this
   have := ih hi
   exact ⟨this.1, by omega, fun _ => by omega⟩
theorem Tree.zero (h : Tree bs ov) {x : Nat} (ha : Anc ov 0 x) : x = 0 := by
 cases ha with
 | refl => rfl
 | step hq _ =>
  rw [h.root] at hq
  injection hq with hq
  omega
theorem Tree.cases (h : Tree bs ov) {v q x : Nat} (hq : ov[v]? = some (q : Int)) (ha : Anc ov v x) : x = v ∨ Anc ov q x := by
 cases ha with
 | refl => exact .inl rfl
 | @step _ q' _ hq' k =>
  rw [hq] at hq'
  injection hq' with hq'
  have : q = q' := by omega
  subst this
  exact .inr k
theorem Tree.chain (h : Tree bs ov) {v x y : Nat} (hv : InT bs ov v) (hx : Anc ov v x) (hy : Anc ov v y) (hp : pos bs x ≤ pos bs y) : Anc ov y x := by
 induction hx with
 | refl a =>
  have := h.anc ho hv hy
  have : pos bs y = pos bs a := by omega
  rw [pos_inj ho (h.anc ho hv hy).1.1 hv.1 this]
  exact .refl _
 | @step a q x hq ha ih =>
  by_cases h0 : a = 0
  ·subst h0
   rw [h.root] at hq
   injection hq with hq
   omega
  ·obtain ⟨q', hq', hi, _⟩ := h.parent ho hv h0
   rw [hq] at hq'
   injection hq' with hq'
   have : q = q' := by omega
   subst this
   rcases h.cases ho hq hy with rfl | hy
   ·exact .step hq ha
   ·exact ih hi hy hp
theorem ancP_mem {v x : Nat} (hv : v ∈ orderF bs) (ha : AncP bs v x) : x ∈ orderF bs ∧ pos bs x ≤ pos bs v := by
 induction ha with
 | refl a => exact ⟨hv, Ybm _⟩
 | step h0 _ ih =>
  have hp := pi_spec ho hv h0
  have := ih hp.1
  exact ⟨this.1, by omega⟩
theorem gI_get {l : List Int} {v : Nat} {x : Int} (h : l[v]? = some x) : gI l v = x := by rw [gI, Ybr, h]; rfl
theorem meet_ok (h : Tree bs ov) : ∀ (n : Nat) (a b : Nat), InT bs ov a → InT bs ov b → pos bs a + pos bs b + 1 ≤ n →
  ∃ c : Nat, meetF ov (placeZ bs) n a b = c ∧ InT bs ov c ∧ Anc ov a c ∧ Anc ov b c ∧ ∀ x, Anc ov a x → Anc ov b x → Anc ov c x
 | 0, a, b, _, _, hn => by omega
 | n + 1, a, b, ha, hb, hn => by
  rw [meetF]
  by_cases hab : a = b
  ·subst hab
   rw [if_pos rfl]
   exact ⟨a, rfl, ha, .refl _, .refl _, fun x hx _ => hx⟩
  ·rw [if_neg (by omega)]
   have hpa := (place_of ho ha.1).1
   have hpb := (place_of ho hb.1).1
   rw [hpa, hpb]
   have hne : pos bs a ≠ pos bs b := fun e => hab (pos_inj ho ha.1 hb.1 e)
   by_cases hlt : (pos bs a : Int) > (pos bs b : Int)
   ·rw [if_pos hlt]
    have h0 : a ≠ 0 := fun e => by subst e; rw [pos_zero ho] at hlt; omega
    obtain ⟨q, hq, hi, hp⟩ := h.parent ho ha h0
    rw [gI_get ho hq]
    obtain ⟨c, e, hc, h1, h2, h3⟩ := meet_ok h n q b hi hb (by omega)
    refine ⟨c, e, hc, .step hq h1, h2, fun x hx hy => ?_⟩
    rcases h.cases ho hq hx with rfl | hx
    ·have := (h.anc ho hb hy).2.1
     omega
    ·exact h3 x hx hy
   ·rw [if_neg hlt]
    have h0 : b ≠ 0 := fun e => by subst e; rw [pos_zero ho] at hlt hne; omega
    obtain ⟨q, hq, hi, hp⟩ := h.parent ho hb h0
    rw [gI_get ho hq]
    obtain ⟨c, e, hc, h1, h2, h3⟩ := meet_ok h n a q ha hi (by omega)
    refine ⟨c, e, hc, h1, .step hq h2, fun x hx hy => ?_⟩
    rcases h.cases ho hq hy with rfl | hy
    ·have := (h.anc ho ha hx).2.1
     omega
    ·exact h3 x hx hy
theorem InT.fuel {v : Nat} (h : InT bs ov v) : pos bs v < bs.length := pos_lt ho h.1
theorem skip_iff {p : Nat} (h : Tree bs ov) (hp : p < bs.length) : skipP ov (placeZ bs) p = false ↔ InT bs ov p := by
 unfold skipP
 rw [Bool.or_eq_false_iff, decide_eq_false_iff_not, Bool.and_eq_false_iff, decide_eq_false_iff_not, decide_eq_false_iff_not]
 obtain ⟨x, hx⟩ : ∃ x, ov[p]? = some x := ⟨_, Yz (by rw [h.len]; exact hp)⟩
 rw [gI_get ho hx]
 rcases place_get hp with ⟨h1, h2⟩ | ⟨i, h1, h2⟩
 ·rw [h1]
  constructor
  ·intro h3; omega
  ·intro h3; exact absurd h3.1 h2
 ·rw [h1]
  constructor
  ·rintro ⟨_, h3⟩
   refine ⟨Yh h2, ?_⟩
   rcases h3 with h3 | h3
   ·left; omega
   ·exact .inr ⟨x, hx, by omega⟩
  ·rintro ⟨_, h3⟩
   refine ⟨by omega, ?_⟩
   rcases h3 with h3 | ⟨y, hy, h4⟩
   ·left; omega
   ·rw [hx] at hy
    injection hy with hy
    right; omega
theorem next_ok (h : Tree bs ov) : ∀ (ps : List Int) (cur : Int) (Q : List Nat), (∀ p ∈ ps, ∃ k : Nat, p = k ∧ k < bs.length) →
  (cur = -1 ∧ Q = [] ∨ ∃ c : Nat, cur = c ∧ InT bs ov c ∧ Q ≠ [] ∧ (∀ p ∈ Q, Anc ov p c) ∧ ∀ x, (∀ p ∈ Q, Anc ov p x) → Anc ov c x) →
  ∃ Q' : List Nat, (∀ p : Nat, p ∈ Q' ↔ p ∈ Q ∨ ((p : Int) ∈ ps ∧ InT bs ov p)) ∧ (nextL ov (placeZ bs) (2 * bs.length + 1) cur ps = -1 ∧ Q' = [] ∨ ∃ c : Nat, nextL ov (placeZ bs) (2 * bs.length + 1) cur ps = c ∧ InT bs ov c ∧ Q' ≠ [] ∧ (∀ p ∈ Q', Anc ov p c) ∧ ∀ x, (∀ p ∈ Q', Anc ov p x) → Anc ov c x)
 | [], cur, Q, _, hc => ⟨Q, fun p => by simp, hc⟩
 | p :: ps, cur, Q, hps, hc => by
  obtain ⟨k, rfl, hk⟩ := hps p (Ya ..)
  have hps' := fun q hq => hps q (Yb _ hq)
  rw [nextL]
  cases hs : skipP ov (placeZ bs) (k : Int) with
  | true =>
   rw [if_pos rfl]
   obtain ⟨Q', h1, h2⟩ := next_ok h ps cur Q hps' hc
   refine ⟨Q', fun q => ?_, h2⟩
   rw [h1 q]
   constructor
   ·rintro (h3 | ⟨h3, h4⟩)
    ·exact .inl h3
    ·exact .inr ⟨Yb _ h3, h4⟩
   ·rintro (h3 | ⟨h3, h4⟩)
    ·exact .inl h3
    ·rcases Yc.1 h3 with h3 | h3
     ·have : q = k := by omega
      subst this
      rw [(skip_iff ho h hk).2 h4] at hs
      cases hs
     ·exact .inr ⟨h3, h4⟩
  | false =>
   rw [if_neg (by decide)]
   have hi := (skip_iff ho h hk).1 hs
   have key : ∀ cur' : Int, (∃ c : Nat, cur' = c ∧ InT bs ov c ∧ (∀ p ∈ k :: Q, Anc ov p c) ∧ ∀ x, (∀ p ∈ k :: Q, Anc ov p x) → Anc ov c x) → ∃ Q' : List Nat, (∀ p : Nat, p ∈ Q' ↔ p ∈ Q ∨ ((p : Int) ∈ (k : Int) :: ps ∧ InT bs ov p)) ∧ (nextL ov (placeZ bs) (2 * bs.length + 1) cur' ps = -1 ∧ Q' = [] ∨ ∃ c : Nat, nextL ov (placeZ bs) (2 * bs.length + 1) cur' ps = c ∧ InT bs ov c ∧ Q' ≠ [] ∧ (∀ p ∈ Q', Anc ov p c) ∧ ∀ x, (∀ p ∈ Q', Anc ov p x) → Anc ov c x) := fun cur' ⟨c, e, h1, h2, h3⟩ => by
    obtain ⟨Q', g1, g2⟩ := next_ok h ps cur' (k :: Q) hps' (.inr ⟨c, e, h1, by simp, h2, h3⟩)
    refine ⟨Q', fun q => ?_, g2⟩
    rw [g1 q]
    constructor
    ·rintro (h4 | ⟨h4, h5⟩)
     ·rcases Yc.1 h4 with rfl | h4
      ·exact .inr ⟨Ya .., hi⟩
      ·exact .inl h4
     ·exact .inr ⟨Yb _ h4, h5⟩
    ·rintro (h4 | ⟨h4, h5⟩)
     ·exact .inl (Yb _ h4)
     ·rcases Yc.1 h4 with h4 | h4
      ·have : q = k := by omega
       subst this
       exact .inl (Ya ..)
      ·exact .inr ⟨h4, h5⟩
   rcases hc with ⟨rfl, rfl⟩ | ⟨c, rfl, hci, hQ, h1, h2⟩
   ·rw [if_pos (by decide)]
    refine key _ ⟨k, rfl, hi, fun p hp => ?_, fun x hx => hx k (Ya ..)⟩
    rw [Ye.1 hp]
    exact .refl _
   ·rw [if_neg (by omega)]
    have hf1 := InT.fuel ho hci
    have hf2 := InT.fuel ho hi
    obtain ⟨d, e, hd, g1, g2, g3⟩ := meet_ok ho h (2 * bs.length + 1) c k hci hi (by omega)
    refine key _ ⟨d, e, hd, fun p hp => ?_, fun x hx => ?_⟩
    ·rcases Yc.1 hp with rfl | hp
     ·exact g2
     ·exact (h1 p hp).trans g1
    ·exact g3 x (h2 x fun p hp => hx p (Yb _ hp)) (hx k (Ya ..))
end
end Go.SM
end
section
namespace Go.SM
open Go.VL
structure TInv (bs : List SBlock) (ov : List Int) (i : Nat) : Prop where
 tree : Tree bs ov
 done : ∀ (j v : Nat), j < i → (orderF bs)[j]? = some v → InT bs ov v
 down : ∀ (v w : Nat), InT bs ov v → w ∈ orderF bs → pos bs w < pos bs v → InT bs ov w
 anc : ∀ (v x : Nat), InT bs ov v → Anc ov v x → AncP bs v x
 most : ∀ (v q : Nat), InT bs ov v → v ≠ 0 → ov[v]? = some (q : Int) → ∀ y, (∀ p, Edge bs p v → InT bs ov p → Anc ov p y) → pos bs y ≤ pos bs q
 past : ∀ (v : Nat), v ∈ orderF bs → pos bs v < i → ∀ q x, AncP bs v q → Anc ov v x → pos bs x ≤ pos bs q → Anc ov q x
theorem AncP.ne {bs : List SBlock} {v x : Nat} (h : AncP bs v x) (hx : x ≠ v) : v ≠ 0 ∧ AncP bs (pi bs v) x := by
 cases h with
 | refl => exact absurd rfl hx
 | step h0 k => exact ⟨h0, k⟩
def hW (bs : List SBlock) (x : Int) : Nat := if x < 0 then bs.length else pos bs x.toNat
def treeW (bs : List SBlock) (ov : List Int) : Nat := (ov.map (hW bs)).sum
section
variable {bs : List SBlock} (ho : OrderOk bs (orderF bs)) (hE : ∀ b ∈ bs, ∀ e ∈ b.term.to, 1 ≤ e.block ∧ e.block < bs.length) {ov : List Int}
include ho
theorem edge_mem {p v : Nat} (hp : p ∈ orderF bs) (he : Edge bs p v) : v ∈ orderF bs := ho.closed p hp v he
theorem set_get {k v : Nat} {c : Int} (h : v ≠ k) : (ov.set k c)[v]? = ov[v]? := Yam (Ne.symm h)
theorem anc_before (h : Tree bs ov) {k c v x : Nat} (hv : InT bs ov v) (hp : pos bs v < pos bs k) : Anc (ov.set k (c : Int)) v x ↔ Anc ov v x := by
 constructor
 ·intro ha
  generalize ho' : ov.set k (c : Int) = ov' at ha
  induction ha with
  | refl a => exact .refl _
  | @step a q x hq _ ih =>
   subst ho'
   have hak : a ≠ k := fun e => by subst e; omega
   rw [set_get ho hak] at hq
   by_cases h0 : a = 0
   ·subst h0
    rw [h.root] at hq
    injection hq with hq
    omega
   ·obtain ⟨q', hq', hi, hlt⟩ := h.parent ho hv h0
    have e : (q : Int) = q' := by rw [hq] at hq'; injection hq'
    have : q = q' := by omega
    subst this
    exact .step hq (ih hi (by omega))
 ·intro ha
  induction ha with
  | refl a => exact .refl _
  | @step a q x hq _ ih =>
   have hak : a ≠ k := fun e => by subst e; omega
   by_cases h0 : a = 0
   ·subst h0
    rw [h.root] at hq
    injection hq with hq
    omega
   ·obtain ⟨q', hq', hi, hlt⟩ := h.parent ho hv h0
    have e : (q : Int) = q' := by rw [hq] at hq'; injection hq'
    have : q = q' := by omega
    subst this
    exact .step (by rw [set_get ho hak]; exact hq) (ih hi (by omega))
theorem anc_shrink (h : Tree bs ov) {k c v x : Nat} (hkl : k < ov.length) (hk : InT bs ov k → ∃ q : Nat, ov[k]? = some (q : Int) ∧ Anc ov q c) (hv : InT bs ov v) (ha : Anc (ov.set k (c : Int)) v x) : Anc ov v x := by
 generalize ho' : ov.set k (c : Int) = ov' at ha
 induction ha with
 | refl a => exact .refl _
 | @step a q x hq _ ih =>
  subst ho'
  by_cases hak : a = k
  ·subst hak
   rw [Ym, if_pos rfl, if_pos hkl] at hq
   injection hq with hq
   have : c = q := by omega
   subst this
   obtain ⟨q', hq', hc⟩ := hk hv
   have hkc : Anc ov a c := .step hq' hc
   exact hkc.trans (ih (h.anc ho hv hkc).1)
  ·rw [set_get ho hak] at hq
   by_cases h0 : a = 0
   ·subst h0
    rw [h.root] at hq
    injection hq with hq
    omega
   ·obtain ⟨q', hq', hi, hlt⟩ := h.parent ho hv h0
    have e : (q : Int) = q' := by rw [hq] at hq'; injection hq'
    have : q = q' := by omega
    subst this
    exact .step hq (ih hi)
theorem anc_self (h : Tree bs ov) {k c x : Nat} (hkl : k < ov.length) (hc : InT bs ov c) (hp : pos bs c < pos bs k) : Anc (ov.set k (c : Int)) k x ↔ x = k ∨ Anc ov c x := by
 have hck : (ov.set k (c : Int))[k]? = some (c : Int) := by rw [Ym, if_pos rfl, if_pos hkl]
 constructor
 ·intro ha
  cases ha with
  | refl => exact .inl rfl
  | @step _ q _ hq ha =>
   rw [hck] at hq
   injection hq with hq
   have : c = q := by omega
   subst this
   exact .inr ((anc_before ho h hc hp).1 ha)
 ·rintro (rfl | ha)
  ·exact .refl _
  ·exact .step hck ((anc_before ho h hc hp).2 ha)
theorem inT_set {k c v : Nat} (hkl : k < ov.length) (hkm : k ∈ orderF bs) : InT bs (ov.set k (c : Int)) v ↔ InT bs ov v ∨ v = k := by
 unfold InT
 by_cases hvk : v = k
 ·subst hvk
  have hck : (ov.set v (c : Int))[v]? = some (c : Int) := by rw [Ym, if_pos rfl, if_pos hkl]
  exact ⟨fun _ => .inr rfl, fun _ => ⟨hkm, .inr ⟨c, hck, by omega⟩⟩⟩
 ·rw [set_get ho hvk]
  simp [hvk]
include hE
theorem preds_nat {v : Nat} : ∀ p ∈ ((predsF bs)[v]?.getD []), ∃ k : Nat, p = k ∧ k < bs.length := fun p hp => by
 obtain ⟨k, rfl, he⟩ := (preds_mem hE).1 hp
 refine ⟨k, rfl, ?_⟩
 obtain ⟨x, hx, _⟩ := he
 unfold toAt at hx
 cases hb : bs[k]? with
 | none => rw [hb] at hx; cases hx
 | some b => exact (Yd.1 hb).1
theorem next_of {i k : Nat} (h : TInv bs ov i) (h1 : 1 ≤ i) (hk : (orderF bs)[i]? = some k) :
  ∃ c : Nat, nextL ov (placeZ bs) (2 * bs.length + 1) (-1) ((predsF bs)[k]?.getD []) = c ∧ InT bs ov c ∧ pos bs c < pos bs k ∧ k ≠ 0 ∧ (∀ p, Edge bs p k → InT bs ov p → Anc ov p c) ∧ (∀ x, (∀ p, Edge bs p k → InT bs ov p → Anc ov p x) → Anc ov c x) ∧ InT bs ov (pi bs k) ∧ Anc ov (pi bs k) c := by
 have hkm := Yh hk
 have hpk := pos_of_get ho hk
 have hk0 : k ≠ 0 := fun e => by
  subst e
  rw [pos_zero ho] at hpk
  omega
 obtain ⟨hp1, hp2, hp3⟩ := pi_spec ho hkm hk0
 have hpi : InT bs ov (pi bs k) := h.done _ _ (by omega) (place_of ho hp1).2
 obtain ⟨Q, hQ, hc⟩ := next_ok ho h.tree _ (-1) [] (preds_nat ho hE) (.inl ⟨rfl, rfl⟩)
 have hmem : ∀ p : Nat, p ∈ Q ↔ Edge bs p k ∧ InT bs ov p := fun p => by
  rw [hQ p]
  constructor
  ·rintro (h3 | ⟨h3, h4⟩)
   ·cases h3
   ·obtain ⟨q, hq, he⟩ := (preds_mem hE).1 h3
    have : p = q := by omega
    subst this
    exact ⟨he, h4⟩
  ·rintro ⟨h3, h4⟩
   exact .inr ⟨(preds_mem hE).2 ⟨p, rfl, h3⟩, h4⟩
 have hpQ : pi bs k ∈ Q := (hmem _).2 ⟨hp3, hpi⟩
 rcases hc with ⟨_, rfl⟩ | ⟨c, e, hci, _, h2, h3⟩
 ·cases hpQ
 ·have hpc := h2 _ hpQ
  have := h.tree.anc ho hpi hpc
  exact ⟨c, e, hci, by omega, hk0, fun p hp hi => h2 p ((hmem p).2 ⟨hp, hi⟩), fun x hx => h3 x fun p hp => hx p ((hmem p).1 hp).1 ((hmem p).1 hp).2, hpi, hpc⟩
theorem node_step {i k : Nat} {a : Bool} (h : TInv bs ov i) (h1 : 1 ≤ i) (hk : (orderF bs)[i]? = some k) :
  TInv bs (treeNode bs (placeZ bs) ⟨ov, a⟩ k).ov (i + 1) ∧ (treeNode bs (placeZ bs) ⟨ov, a⟩ k = ⟨ov, a⟩ ∧ gI ov k = nextL ov (placeZ bs) (2 * bs.length + 1) (-1) ((predsF bs)[k]?.getD []) ∨ (treeNode bs (placeZ bs) ⟨ov, a⟩ k).again = true ∧ treeW bs (treeNode bs (placeZ bs) ⟨ov, a⟩ k).ov < treeW bs ov) := by
 obtain ⟨c, ec, hci, hcp, hk0, hA, hB, hpi, hpc⟩ := next_of ho hE h h1 hk
 have hkm := Yh hk
 have hpk := pos_of_get ho hk
 have hkl : k < ov.length := by rw [h.tree.len]; exact ho.lt k hkm
 obtain ⟨x, hx⟩ : ∃ x, ov[k]? = some x := ⟨_, Yz hkl⟩
 have hgx := gI_get ho hx
 have hpik := (pi_spec ho hkm hk0).2.1
 -- what 'past' says of the block itself, once its ancestor is c
 have pastk : ∀ q y, AncP bs k q → (y = k ∨ Anc ov c y) → pos bs y ≤ pos bs q → q ≠ k → Anc ov q y := fun q y hq hy hle hqk => by
  have hq2 := (hq.ne hqk).2
  have hqm := ancP_mem ho (pi_spec ho hkm hk0).1 hq2
  rcases hy with rfl | hy
  ·omega
  ·exact h.past (pi bs k) (pi_spec ho hkm hk0).1 (by omega) q y hq2 (hpc.trans hy) hle
 unfold treeNode
 simp only [Ybr]
 rw [ec, hgx]
 by_cases hcx : (c : Int) = x
 ·-- nothing changes
  rw [if_neg (fun hne => hne hcx)]
  refine ⟨⟨h.tree, fun j v hj hv => ?_, h.down, h.anc, h.most, fun v hv hlt q y hq hy hle => ?_⟩, .inl ⟨rfl, hcx.symm⟩⟩
  ·by_cases hji : j < i
   ·exact h.done j v hji hv
   ·have : j = i := by omega
    subst this
    rw [hk] at hv
    injection hv with hv
    subst hv
    exact ⟨hkm, .inr ⟨x, hx, by omega⟩⟩
  ·by_cases hlt2 : pos bs v < i
   ·exact h.past v hv hlt2 q y hq hy hle
   ·have hvk : v = k := pos_inj ho hv hkm (by omega)
    subst hvk
    by_cases hqk : q = v
    ·subst hqk; exact hy
    ·subst hcx
     exact pastk q y hq (h.tree.cases ho hx hy) hle hqk
 ·rw [if_pos hcx]
  -- how the block's ancestor moves up
  have hup : InT bs ov k → ∃ q : Nat, ov[k]? = some (q : Int) ∧ Anc ov q c ∧ pos bs c < pos bs q := fun hi => by
   obtain ⟨q, hq, hqi, hqp⟩ := h.tree.parent ho hi hk0
   have hle := h.most k q hi hk0 hq c hA
   have hqk : q ≠ k := fun e => by subst e; omega
   have hq2 := ((h.anc k q hi (.step hq (.refl _))).ne hqk).2
   have hac := h.past (pi bs k) (pi_spec ho hkm hk0).1 (by omega) q c hq2 hpc hle
   have hcq : c ≠ q := fun e => by
    subst e
    rw [hx] at hq
    injection hq with hq
    exact hcx hq.symm
   exact ⟨q, hq, hac, (h.tree.anc ho hqi hac).2.2 hcq⟩
  have hup2 : InT bs ov k → ∃ q : Nat, ov[k]? = some (q : Int) ∧ Anc ov q c := fun hi => by
   obtain ⟨q, h1, h2, _⟩ := hup hi
   exact ⟨q, h1, h2⟩
  have hIn := fun v => inT_set ho (c := c) (v := v) hkl hkm
  have hck : (ov.set k (c : Int))[k]? = some (c : Int) := by rw [Ym, if_pos rfl, if_pos hkl]
  have tree' : Tree bs (ov.set k (c : Int)) := by
   refine ⟨by rw [Yu]; exact h.tree.len, by rw [set_get ho (Ne.symm hk0)]; exact h.tree.root, fun v hv hm => ?_, fun v y hm h0 hy hy0 => ?_, fun v y hy hy0 => ?_⟩
   ·rw [set_get ho (fun e => by subst e; exact hm hkm)]; exact h.tree.out v hv hm
   ·have known : ∀ q, InT bs ov q → q = 0 ∨ ∃ y : Int, (ov.set k (c : Int))[q]? = some y ∧ 0 ≤ y := fun q hq => by
     by_cases hqk : q = k
     ·subst hqk; exact .inr ⟨c, hck, by omega⟩
     ·rw [set_get ho hqk]; exact hq.2
    by_cases hvk : v = k
    ·subst hvk
     rw [hck] at hy
     injection hy with hy
     exact ⟨c, hy.symm, hci.1, hcp, known c hci⟩
    ·rw [set_get ho hvk] at hy
     obtain ⟨q, e, hq1, hq2, hq3⟩ := h.tree.up v y hm h0 hy hy0
     exact ⟨q, e, hq1, hq2, known q ⟨hq1, hq3⟩⟩
   ·by_cases hvk : v = k
    ·subst hvk
     rw [hck] at hy
     injection hy with hy
     omega
    ·rw [set_get ho hvk] at hy
     exact h.tree.low v y hy hy0
  have shr : ∀ v y, InT bs ov v → Anc (ov.set k (c : Int)) v y → Anc ov v y := fun v y hv ha => anc_shrink ho h.tree hkl hup2 hv ha
  have selfk := fun y => anc_self ho h.tree (x := y) hkl hci hcp
  refine ⟨⟨tree', fun j v hj hv => ?_, fun v w hv hw hlt => ?_, fun v y hv ha => ?_, fun v q hv h0 hq y hy => ?_, fun v hv hlt q y hq hy hle => ?_⟩, .inr ⟨rfl, ?_⟩⟩
  ·rw [hIn]
   by_cases hji : j < i
   ·exact .inl (h.done j v hji hv)
   ·have : j = i := by omega
    subst this
    rw [hk] at hv
    injection hv with hv
    exact .inr hv.symm
  ·rw [hIn] at hv ⊢
   rcases hv with hv | rfl
   ·exact .inl (h.down v w hv hw hlt)
   ·exact .inl (h.done _ _ (by omega) (place_of ho hw).2)
  ·rw [hIn] at hv
   rcases hv with hv | rfl
   ·exact h.anc v y hv (shr v y hv ha)
   ·rcases (selfk y).1 ha with rfl | ha
    ·exact .refl _
    ·exact .step hk0 (h.anc _ y hpi (hpc.trans ha))
  ·by_cases hvk : v = k
   ·subst hvk
    rw [hck] at hq
    injection hq with hq
    have : c = q := by omega
    subst this
    have hcy : Anc ov c y := hB y fun p hp hi => shr p y hi (hy p hp ((hIn p).2 (.inl hi)))
    exact (h.tree.anc ho hci hcy).2.1
   ·rw [set_get ho hvk] at hq
    rw [hIn] at hv
    exact h.most v q (hv.resolve_right hvk) h0 hq y fun p hp hi => shr p y hi (hy p hp ((hIn p).2 (.inl hi)))
  ·by_cases hlt2 : pos bs v < i
   ·have hvi : InT bs ov v := h.done _ _ hlt2 (place_of ho hv).2
    have hqm := ancP_mem ho hv hq
    have hqi : InT bs ov q := h.done _ _ (by omega) (place_of ho hqm.1).2
    rw [anc_before ho h.tree hvi (by omega)] at hy
    rw [anc_before ho h.tree hqi (by omega)]
    exact h.past v hv hlt2 q y hq hy hle
   ·have hvk : v = k := pos_inj ho hv hkm (by omega)
    subst hvk
    by_cases hqk : q = v
    ·subst hqk; exact hy
    ·have hqm := ancP_mem ho (pi_spec ho hkm hk0).1 (hq.ne hqk).2
     have hqi : InT bs ov q := h.done _ _ (by omega) (place_of ho hqm.1).2
     rw [anc_before ho h.tree hqi (by omega)]
     exact pastk q y hq ((selfk y).1 hy) hle hqk
  ·have hs := sum_set (l := ov.map (hW bs)) (k := k) (x := hW bs x) (y := hW bs (c : Int)) (by rw [Yp, hx]; rfl)
   unfold treeW
   rw [List.map_set]
   have hlt : hW bs (c : Int) < hW bs x := by
    unfold hW
    rw [if_neg (by omega), Ybr]
    split
    ·exact pos_lt ho hci.1
    ·rename_i hx0
     obtain ⟨q, hq, _, hlt⟩ := hup ⟨hkm, .inr ⟨x, hx, by omega⟩⟩
     rw [hx] at hq
     injection hq with hq
     rw [hq, Ybr]
     exact hlt
   omega
theorem pass_step : ∀ (l : List Int) (i : Nat) (s : TState), TInv bs s.ov i → 1 ≤ i → (ordZ bs).drop i = l →
  TInv bs (treePass bs (placeZ bs) l s).ov (i + l.length) ∧ (treePass bs (placeZ bs) l s = s ∧ (∀ k ∈ l, gI s.ov k = nextL s.ov (placeZ bs) (2 * bs.length + 1) (-1) ((predsF bs)[k.toNat]?.getD [])) ∨ (treePass bs (placeZ bs) l s).again = true ∧ treeW bs (treePass bs (placeZ bs) l s).ov < treeW bs s.ov)
 | [], i, s, h, _, _ => ⟨h, .inl ⟨rfl, fun k hk => by cases hk⟩⟩
 | z :: l, i, s, h, h1, hl => by
  have hz : (ordZ bs)[i]? = some z := by
   have : ((ordZ bs).drop i)[0]? = some z := by rw [hl]; rfl
   rwa [Yai, Ybo] at this
  have hz2 := hz
  unfold ordZ at hz
  rw [Yp] at hz
  obtain ⟨k, hk, rfl⟩ := Option.map_eq_some_iff.1 hz
  have hl2 : (ordZ bs).drop (i + 1) = l := by
   have := drop_cons hz2
   rw [hl] at this
   injection this with _ this
   exact this.symm
  obtain ⟨ov, a⟩ := s
  obtain ⟨g1, g2⟩ := node_step ho hE (a := a) h h1 hk
  rw [treePass]
  obtain ⟨p1, p2⟩ := pass_step l (i + 1) (treeNode bs (placeZ bs) ⟨ov, a⟩ k) g1 (by omega) hl2
  refine ⟨by rw [Yl, show i + (l.length + 1) = i + 1 + l.length by omega]; exact p1, ?_⟩
  rcases g2 with ⟨g2, g3⟩ | ⟨g2, g3⟩
  ·rw [g2] at p2 ⊢
   rcases p2 with ⟨p2, p3⟩ | p2
   ·refine .inl ⟨p2, fun q hq => ?_⟩
    rcases Yc.1 hq with rfl | hq
    ·rw [Ybr]; exact g3
    ·exact p3 q hq
   ·exact .inr p2
  ·rcases p2 with ⟨p2, _⟩ | ⟨p2, p3⟩
   ·rw [p2]; exact .inr ⟨g2, g3⟩
   ·exact .inr ⟨p2, by dsimp only at g3 ⊢; omega⟩
omit hE in
theorem TInv.begin {n : Nat} (h : TInv bs ov n) (hn : 1 ≤ n) : TInv bs ov 1 := by
 refine ⟨h.tree, fun j v hj hv => h.done j v (by omega) hv, h.down, h.anc, h.most, fun v hv hlt q x hq hx hle => ?_⟩
 have hv0 : v = 0 := pos_inj ho hv (zero_mem ho) (by rw [pos_zero ho]; omega)
 subst hv0
 cases hq with
 | refl => exact hx
 | step h0 _ => exact absurd rfl h0
omit hE in
theorem tree_start : TInv bs (Yg bs.length (-1)) 1 := by
 have h0 := ho.lt 0 (zero_mem ho)
 have neg : ∀ (v : Nat) (x : Int), (Yg bs.length (-1 : Int))[v]? = some x → x = -1 := fun v x hx => by
  rw [Yy] at hx
  split at hx
  ·injection hx with hx; exact hx.symm
  ·cases hx
 have inz : ∀ v, InT bs (Yg bs.length (-1)) v → v = 0 := fun v hv => by
  rcases hv.2 with h | ⟨x, hx, hx0⟩
  ·exact h
  ·have := neg v x hx; omega
 have tr : Tree bs (Yg bs.length (-1)) := by
  refine ⟨Yae, by rw [Yy, if_pos h0], fun v hv _ => by rw [Yy, if_pos hv], fun v x _ _ hx hx0 => ?_, fun v x hx _ => neg v x hx⟩
  have := neg v x hx
  omega
 refine ⟨tr, fun j v hj hv => ?_, fun v w hv hw hlt => ?_, fun v x hv ha => ?_, fun v q hv hv0 => absurd (inz v hv) hv0, fun v hv hlt q x hq hx hle => ?_⟩
 ·have : j = 0 := by omega
  subst this
  rw [ho.zero] at hv
  injection hv with hv
  subst hv
  exact ⟨zero_mem ho, .inl rfl⟩
 ·have := inz v hv
  subst this
  rw [pos_zero ho] at hlt
  omega
 ·have := inz v hv
  subst this
  rw [tr.zero ho ha]
  exact .refl _
 ·have hv0 : v = 0 := pos_inj ho hv (zero_mem ho) (by rw [pos_zero ho]; omega)
  subst hv0
  cases hq with
  | refl => exact hx
  | step h0 _ => exact absurd rfl h0
omit hE in
theorem treeW_start : treeW bs (Yg bs.length (-1)) = bs.length * bs.length := by
 have key : ∀ n x : Nat, (Yg n x).sum = n * x := fun n x => by
  induction n with
  | zero => simp
  | succ n ih => rw [List.replicate_succ, Yan, ih, Nat.succ_mul]; omega
 unfold treeW
 rw [List.map_replicate, key]
 simp [hW]
theorem tree_round {n : Nat} {s : TState} (h : TInv bs s.ov 1) (ha : s.again = true) (hw : treeW bs s.ov + 1 ≤ n) :
  ∃ n', n = n' + 1 ∧ treeIter bs (placeZ bs) (ordZ bs) n s = treeIter bs (placeZ bs) (ordZ bs) n' (treePass bs (placeZ bs) ((ordZ bs).drop 1) ⟨s.ov, false⟩) ∧ TInv bs (treePass bs (placeZ bs) ((ordZ bs).drop 1) ⟨s.ov, false⟩).ov 1 ∧
   treeW bs (treePass bs (placeZ bs) ((ordZ bs).drop 1) ⟨s.ov, false⟩).ov + (if (treePass bs (placeZ bs) ((ordZ bs).drop 1) ⟨s.ov, false⟩).again then 1 else 0) ≤ n' := by
 obtain ⟨n', rfl⟩ : ∃ n', n = n' + 1 := ⟨n - 1, by omega⟩
 obtain ⟨h1, h2⟩ := pass_step ho hE ((ordZ bs).drop 1) 1 ⟨s.ov, false⟩ h (Ybm _) rfl
 refine ⟨n', rfl, by rw [treeIter, if_pos ha], h1.begin ho (by omega), ?_⟩
 rcases h2 with ⟨h2, _⟩ | ⟨h2, h3⟩
 ·rw [h2]
  dsimp only
  rw [if_neg (by decide)]
  omega
 ·rw [h2, if_pos rfl]
  dsimp only at h3
  omega
structure TreeOk (bs : List SBlock) (ov : List Int) : Prop where
 inv : TInv bs ov 1
 all : ∀ v, v ∈ orderF bs → InT bs ov v
 fix : ∀ v, v ∈ orderF bs → v ≠ 0 → gI ov v = nextL ov (placeZ bs) (2 * bs.length + 1) (-1) ((predsF bs)[v]?.getD [])
theorem iter_ok : ∀ (n : Nat) (s : TState), TInv bs s.ov 1 → treeW bs s.ov + (if s.again then 1 else 0) ≤ n → (s.again = false → TreeOk bs s.ov) → TreeOk bs (treeIter bs (placeZ bs) (ordZ bs) n s).ov
 | 0, s, h, hw, hf => by
  cases ha : s.again with
  | false => exact hf ha
  | true => rw [ha, if_pos rfl] at hw; omega
 | n + 1, s, h, hw, hf => by
  cases ha : s.again with
  | false => rw [treeIter, if_neg (by rw [ha]; decide)]; exact hf ha
  | true =>
   rw [ha, if_pos rfl] at hw
   obtain ⟨n', e, h1, h2, h3⟩ := tree_round ho hE h ha hw
   have : n = n' := by omega
   subst this
   rw [h1]
   refine iter_ok n _ h2 h3 fun ha2 => ?_
   obtain ⟨g1, g2⟩ := pass_step ho hE ((ordZ bs).drop 1) 1 ⟨s.ov, false⟩ h (Ybm _) rfl
   rcases g2 with ⟨g2, g3⟩ | ⟨g2, _⟩
   ·rw [g2] at g1 ⊢
    have hl : 1 + ((ordZ bs).drop 1).length = (orderF bs).length := by
     have := (Yd.1 ho.zero).1
     simp [ordZ]
     omega
    refine ⟨h, fun v hv => g1.done _ _ (by rw [hl]; exact (Yd.1 (place_of ho hv).2).1) (place_of ho hv).2, fun v hv h0 => ?_⟩
    have hvp : 1 ≤ pos bs v := by
     apply Classical.byContradiction
     intro hn
     exact h0 (pos_inj ho hv (zero_mem ho) (by rw [pos_zero ho]; omega))
    have := g3 (v : Int) (by
     have hg : (ordZ bs)[pos bs v]? = some (v : Int) := by
      unfold ordZ
      rw [Yp, (place_of ho hv).2]
      rfl
     have : ((ordZ bs).drop 1)[pos bs v - 1]? = some (v : Int) := by
      rw [Yai, show 1 + (pos bs v - 1) = pos bs v by omega]
      exact hg
     exact Yh this)
    rw [Ybr] at this
    exact this
   ·rw [g2] at ha2; cases ha2
theorem tree_ok : TreeOk bs (treeF bs) := by
 refine iter_ok ho hE _ _ (tree_start ho) ?_ fun h => by cases h
 dsimp only
 rw [treeW_start ho, if_pos rfl]
 omega
end
end Go.SM
end
section
namespace Go.SM
open Go.VL
end Go.SM
end
section
namespace Go.SM
open Go.VL
def graphV (f : SFunc) : V := .agg [intsX (if funcF f = 0 then treeF f.blocks else []), intsX (if funcF f = 0 then placeZ f.blocks else [])]
theorem meet_same (ov pl : List Int) : ∀ (n : Nat) (a : Int), meetF ov pl n a a = a
 | 0, a => rfl
 | n + 1, a => by rw [meetF, if_pos rfl]
section
variable {bs : List SBlock} (ho : OrderOk bs (orderF bs)) {ov : List Int}
include ho
theorem meet_walk (h : Tree bs ov) {n a b : Nat} (ha : InT bs ov a) (hb : InT bs ov b) (hn : pos bs a + pos bs b + 1 ≤ n) (hab : (a : Int) ≠ b) :
  ∃ (n' : Nat) (x y : Int), n = n' + 1 ∧ (placeZ bs)[a]? = some x ∧ (placeZ bs)[b]? = some y ∧
   (x > y → ∃ q : Nat, ov[a]? = some (q : Int) ∧ InT bs ov q ∧ pos bs q + pos bs b + 1 ≤ n' ∧ meetF ov (placeZ bs) n a b = meetF ov (placeZ bs) n' q b) ∧
   (¬ x > y → ∃ q : Nat, ov[b]? = some (q : Int) ∧ InT bs ov q ∧ pos bs a + pos bs q + 1 ≤ n' ∧ meetF ov (placeZ bs) n a b = meetF ov (placeZ bs) n' a q) := by
 obtain ⟨n', rfl⟩ : ∃ n', n = n' + 1 := ⟨n - 1, by omega⟩
 have hpa := (place_of ho ha.1).1
 have hpb := (place_of ho hb.1).1
 obtain ⟨x, hx⟩ : ∃ x, (placeZ bs)[a]? = some x := ⟨_, Yz (by rw [place_len]; exact ho.lt a ha.1)⟩
 obtain ⟨y, hy⟩ : ∃ y, (placeZ bs)[b]? = some y := ⟨_, Yz (by rw [place_len]; exact ho.lt b hb.1)⟩
 have hx2 := gI_get ho hx
 have hy2 := gI_get ho hy
 have hne : pos bs a ≠ pos bs b := fun e => hab (by rw [pos_inj ho ha.1 hb.1 e])
 refine ⟨n', x, y, rfl, hx, hy, fun hlt => ?_, fun hlt => ?_⟩
 ·have h0 : a ≠ 0 := fun e => by subst e; rw [pos_zero ho] at hpa; omega
  obtain ⟨q, hq, hi, hp⟩ := h.parent ho ha h0
  exact ⟨q, hq, hi, by omega, by rw [meetF, if_neg hab, if_pos (by omega), gI_get ho hq]⟩
 ·have h0 : b ≠ 0 := fun e => by subst e; rw [pos_zero ho] at hpb hne; omega
  obtain ⟨q, hq, hi, hp⟩ := h.parent ho hb h0
  exact ⟨q, hq, hi, by omega, by rw [meetF, if_neg hab, if_neg (by omega), gI_get ho hq]⟩
omit ho in
theorem skip_eq {ov pl : List Int} {k : Nat} {x y : Int} (hx : pl[k]? = some x) (hy : ov[k]? = some y) : skipP ov pl k = (decide (x < 0) || (decide ((k : Int) ≠ 0) && decide (y < 0))) := by
 unfold skipP gI
 rw [Ybr, hx, hy]
 rfl
theorem skip_inT (h : Tree bs ov) {k : Nat} (hk : k < bs.length) (hs : skipP ov (placeZ bs) k = false) : InT bs ov k := (skip_iff ho h hk).1 hs
structure Up (bs : List SBlock) (ov : List Int) (a : Nat) (l : List Int) (k : Int) (n : Nat) : Prop where
 len : l.length = n
 at_ : k = -1 ∨ ∃ v : Nat, k = v ∧ InT bs ov v ∧ n + pos bs v ≤ pos bs a
 mem : ∀ y : Nat, Anc ov a y ↔ (y : Int) ∈ l ∨ ∃ v : Nat, k = v ∧ Anc ov v y
 le : n ≤ bs.length
omit ho in
structure Climb (bs : List SBlock) (ov : List Int) (a b : Nat) (v n : Nat) : Prop where
 at_ : Anc ov b v
 bound : n + pos bs v ≤ pos bs b
 none : ∀ y, Anc ov b y → pos bs v < pos bs y → ¬ Anc ov a y
omit ho in
end
end Go.SM
end
section
namespace Go.SM
open Go.VL
def climbB (ov : List Int) : Nat → Int → Int → Bool
 | 0, a, b => decide (b = a)
 | n + 1, a, b => if 0 ≤ b ∧ b ≠ a then climbB ov n a (gI ov b) else decide (b = a)
def domsF (f : SFunc) (a b : Int) : Bool := if gI (placeZ f.blocks) b < 0 then true else climbB (treeF f.blocks) (f.blocks.length + 1) a b
def reachL (f : SFunc) : List Int := (ordZ f.blocks).mergeSort fun x y => decide (x ≤ y)
theorem reach_mem {f : SFunc} {v : Nat} : (v : Int) ∈ reachL f ↔ v ∈ orderF f.blocks := by
 unfold reachL
 rw [Yao, ordZ, Yf]
 constructor
 ·rintro ⟨k, hk, e⟩
  have : k = v := by omega
  rwa [← this]
 ·intro h
  exact ⟨v, h, rfl⟩
theorem reach_len (f : SFunc) : (reachL f).length = (orderF f.blocks).length := by rw [reachL, List.length_mergeSort, ordZ, Yo]
section
variable {bs : List SBlock} (ho : OrderOk bs (orderF bs)) {ov : List Int}
include ho
theorem climb_anc (h : Tree bs ov) {a : Nat} : ∀ (n v : Nat), pos bs v < n → InT bs ov v → (climbB ov n a v = true ↔ Anc ov v a)
 | 0, v, hn, _ => by omega
 | n + 1, v, hn, hv => by
  rw [climbB]
  by_cases he : v = a
  ·subst he
   rw [if_neg (by omega)]
   exact ⟨fun _ => .refl _, fun _ => decide_eq_true rfl⟩
  ·rw [if_pos ⟨by omega, by omega⟩]
   by_cases h0 : v = 0
   ·subst h0
    have hg : gI ov ((0 : Nat) : Int) = -1 := gI_get ho h.root
    rw [hg]
    have hf : climbB ov n a (-1) = false := by
     cases n with
     | zero => rw [climbB]; exact decide_eq_false (by omega)
     | succ n => rw [climbB, if_neg (by omega)]; exact decide_eq_false (by omega)
    rw [hf]
    constructor
    ·intro h; cases h
    ·intro ha; exact absurd (h.zero ho ha).symm he
   ·obtain ⟨q, hq, hi, hp⟩ := h.parent ho hv h0
    rw [gI_get ho hq, climb_anc h n q (by omega) hi]
    constructor
    ·exact fun ha => .step hq ha
    ·intro ha
     rcases h.cases ho hq ha with e | ha
     ·exact absurd e.symm he
     ·exact ha
end
theorem doms_anc {f : SFunc} (ho : OrderOk f.blocks (orderF f.blocks)) (ht : TreeOk f.blocks (treeF f.blocks)) {a b : Nat} (hb : b ∈ orderF f.blocks) : domsF f a b = true ↔ Anc (treeF f.blocks) b a := by
 have hi := ht.all b hb
 have hpl := place_of ho hb
 unfold domsF
 rw [if_neg (by rw [hpl.1]; omega)]
 exact climb_anc ho ht.inv.tree _ b (by have := pos_lt ho hb; omega) hi
end Go.SM
end
section
namespace Go.SM
open Go.VL
section
variable {bs : List SBlock} (ho : OrderOk bs (orderF bs)) {ov : List Int}
include ho
end
theorem idom_anc {f : SFunc} (h : FuncOk f) {k b : Nat} (hk : k ∈ orderF f.blocks) (he : Edge f.blocks k b) : b ≠ 0 ∧ b ∈ orderF f.blocks ∧ ∃ q : Nat, (treeF f.blocks)[b]? = some (q : Int) ∧ InT f.blocks (treeF f.blocks) q ∧ Anc (treeF f.blocks) k q := by
 have ho := order_ok h.pos h.edges
 have ht := tree_ok ho h.edges
 have hb := edge_mem ho hk he
 have hb0 : b ≠ 0 := by
  obtain ⟨e, hem, hb2⟩ := he
  have hkl := ho.lt k hk
  obtain ⟨bl, hbl⟩ := get_of_lt f.blocks k (by omega)
  rw [toAt_get hbl] at hem
  have := h.edges bl (Yh hbl) e hem
  omega
 refine ⟨hb0, hb, ?_⟩
 have hpn : ∀ p ∈ ((predsF f.blocks)[b]?.getD []), ∃ k : Nat, p = k ∧ k < f.blocks.length := preds_nat ho h.edges
 obtain ⟨Q', hQ, hor⟩ := next_ok ho ht.inv.tree ((predsF f.blocks)[b]?.getD []) (-1) [] hpn (.inl ⟨rfl, rfl⟩)
 have hkQ : k ∈ Q' := (hQ k).2 (.inr ⟨(preds_mem h.edges).2 ⟨k, rfl, he⟩, ht.all k hk⟩)
 rcases hor with ⟨_, e⟩ | ⟨c, hc, hi, _, hall, _⟩
 ·rw [e] at hkQ; cases hkQ
 ·refine ⟨c, ?_, hi, hall k hkQ⟩
  have hfix := ht.fix b hb hb0
  rw [hc] at hfix
  obtain ⟨y, hy⟩ := get_of_lt (treeF f.blocks) b (by rw [ht.inv.tree.len]; have := ho.lt b hb; omega)
  rw [gI_get ho hy] at hfix
  rw [hy, hfix]
end Go.SM
end
section
namespace Go.SM
open Go.VL
theorem again_keep {n : Nat} {d d' : Dom} (h : StepW n d d') (ha : d'.again = false) : d' = d := by
 rcases h.2 with h | ⟨h, _⟩
 ·exact h
 ·rw [ha] at h; cases h
theorem edges_fix {n k : Nat} (hk : k < n) : ∀ {l : List SEdge} {d : Dom}, DomOk n d → (∀ e ∈ l, 1 ≤ e.block ∧ e.block < n) → (l.foldl (domEdge k) d).again = false → l.foldl (domEdge k) d = d ∧ ∀ e ∈ l, domEdge k d e = d
 | [], d, _, _, _ => ⟨rfl, fun e he => by cases he⟩
 | e :: l, d, ok, h, ha => by
  have h1 := domEdge_w ok hk (h e (Ya ..)).1 (h e (Ya ..)).2
  have hl := fun x hx => h x (Yb e hx)
  have h2 := edges_w hk h1.1 hl
  rw [Yad] at ha ⊢
  have e2 := again_keep h2 ha
  have e1 : domEdge k d e = d := again_keep h1 (by rw [← e2]; exact ha)
  rw [e1] at ha ⊢
  obtain ⟨g1, g2⟩ := edges_fix hk ok hl ha
  refine ⟨g1, fun x hx => ?_⟩
  rcases Yc.1 hx with rfl | hx
  ·exact e1
  ·exact g2 x hx
theorem block_fix {n k : Nat} {b : SBlock} {d : Dom} (hk : k < n) (ok : DomOk n d) (h : ∀ e ∈ b.term.to, 1 ≤ e.block ∧ e.block < n) (ha : (domBlock d k b).again = false) : domBlock d k b = d ∧ (d.seen.has k = true → ∀ e ∈ b.term.to, domEdge k d e = d) := by
 unfold domBlock at ha ⊢
 split
 ·rename_i hs
  rw [if_pos hs] at ha
  obtain ⟨h1, h2⟩ := edges_fix hk ok h ha
  exact ⟨h1, fun _ => h2⟩
 ·rename_i hs
  exact ⟨rfl, fun h => absurd h hs⟩
theorem pass_fix {n : Nat} : ∀ {l : List SBlock} {k : Nat} {d : Dom}, k + l.length = n → DomOk n d → (∀ b ∈ l, ∀ e ∈ b.term.to, 1 ≤ e.block ∧ e.block < n) → (domPass k l d).again = false →
  ∀ (j : Nat) (b : SBlock), l[j]? = some b → d.seen.has (k + j) = true → ∀ e ∈ b.term.to, domEdge (k + j) d e = d
 | [], k, d, _, _, _, _, j, b, hb => by simp at hb
 | c :: l, k, d, hl, ok, h, ha, j, b, hb => by
  have hl' : k + (l.length + 1) = n := hl
  have h1 := block_w (k := k) (by omega) ok (h c (Ya ..))
  have hr := fun x hx => h x (Yb c hx)
  have h2 := pass_w (l := l) (k := k + 1) (by omega) h1.1 hr
  rw [domPass] at ha
  have e2 := again_keep h2 ha
  have ha1 : (domBlock d k c).again = false := by rw [← e2]; exact ha
  obtain ⟨e1, g⟩ := block_fix (by omega) ok (h c (Ya ..)) ha1
  rw [e1] at ha
  cases j with
  | zero =>
   simp at hb
   subst hb
   exact g
  | succ j =>
   simp at hb
   have := pass_fix (by omega) ok hr ha j b hb
   rwa [show k + 1 + j = k + (j + 1) by omega] at this
structure DomFix (bs : List SBlock) (d : Dom) : Prop where
 ok : DomOk bs.length d
 seen0 : d.seen.has 0 = true
 at0 : d.at 0 = BSet.with noSet 0
 fix : ∀ (k : Nat) (b : SBlock), bs[k]? = some b → d.seen.has k = true → ∀ e ∈ b.term.to, domEdge k d e = d
def DomZ (n : Nat) (d : Dom) : Prop := d.seen.has 0 = true ∧ d.at 0 = BSet.with noSet 0
theorem edge_z {n k : Nat} {d : Dom} {e : SEdge} (ok : DomOk n d) (h1 : 1 ≤ e.block) (h2 : e.block < n) (hz : DomZ n d) : DomZ n (domEdge k d e) := by
 unfold domEdge
 dsimp only
 have hn := ok.le
 split
 ·refine ⟨?_, ?_⟩
  ·rw [has_with _ (by omega) (by omega), hz.1]; rfl
  ·rw [at_set (by rw [ok.len]; omega), if_neg (by omega)]; exact hz.2
 ·exact hz
theorem edges_z {n k : Nat} (hk : k < n) : ∀ {l : List SEdge} {d : Dom}, DomOk n d → (∀ e ∈ l, 1 ≤ e.block ∧ e.block < n) → DomZ n d → DomZ n (l.foldl (domEdge k) d)
 | [], d, _, _, hz => hz
 | e :: l, d, ok, h, hz => by
  have he := h e (Ya ..)
  show DomZ n (l.foldl (domEdge k) (domEdge k d e))
  exact edges_z (l := l) hk (domEdge_w ok hk he.1 he.2).1 (fun x hx => h x (Yb e hx)) (edge_z ok he.1 he.2 hz)
theorem block_z {n k : Nat} {b : SBlock} {d : Dom} (hk : k < n) (ok : DomOk n d) (h : ∀ e ∈ b.term.to, 1 ≤ e.block ∧ e.block < n) (hz : DomZ n d) : DomZ n (domBlock d k b) := by
 unfold domBlock
 split
 ·exact edges_z hk ok h hz
 ·exact hz
theorem pass_z {n : Nat} : ∀ {l : List SBlock} {k : Nat} {d : Dom}, k + l.length = n → DomOk n d → (∀ b ∈ l, ∀ e ∈ b.term.to, 1 ≤ e.block ∧ e.block < n) → DomZ n d → DomZ n (domPass k l d)
 | [], k, d, _, _, _, hz => hz
 | c :: l, k, d, hl, ok, h, hz => by
  have hl' : k + (l.length + 1) = n := hl
  show DomZ n (domPass (k + 1) l (domBlock d k c))
  exact pass_z (l := l) (by omega) (block_w (k := k) (by omega) ok (h c (Ya ..))).1 (fun x hx => h x (Yb c hx)) (block_z (by omega) ok (h c (Ya ..)) hz)
theorem domIter_fix {bs : List SBlock} (h : ∀ b ∈ bs, ∀ e ∈ b.term.to, 1 ≤ e.block ∧ e.block < bs.length) : ∀ (n : Nat) (d : Dom), DomOk bs.length d → DomZ bs.length d → weight bs.length d + (if d.again then 1 else 0) ≤ n → (d.again = false → DomFix bs d) → DomFix bs (domIter bs n d)
 | 0, d, ok, hz, hw, hf => by
  cases ha : d.again with
  | false => exact hf ha
  | true => rw [ha, if_pos rfl] at hw; omega
 | n + 1, d, ok, hz, hw, hf => by
  cases ha : d.again with
  | false => rw [domIter, if_neg (by rw [ha]; decide)]; exact hf ha
  | true =>
   obtain ⟨n', e, h1, h2, h3⟩ := round ok h hw ha
   have : n = n' := by omega
   subst this
   have ok0 : DomOk bs.length { d with again := false } := ⟨ok.len, ok.le, ok.self⟩
   have hz1 : DomZ bs.length (domPass 0 bs { d with again := false }) := pass_z (by omega) ok0 h hz
   rw [h1]
   refine domIter_fix h n _ h2 hz1 h3 fun ha2 => ?_
   have e2 := again_keep (pass_w (l := bs) (k := 0) (by omega) ok0 h) ha2
   have hfx := pass_fix (l := bs) (k := 0) (by omega) ok0 h ha2
   rw [e2] at hz1 ⊢
   exact ⟨ok0, hz1.1, hz1.2, fun k b hb hs => by have := hfx k b hb (by rw [Ybn]; exact hs); rwa [Ybn] at this⟩
theorem dom_fix {bs : List SBlock} (h0 : 0 < bs.length) (hn : bs.length ≤ 128) (h : ∀ b ∈ bs, ∀ e ∈ b.term.to, 1 ≤ e.block ∧ e.block < bs.length) : DomFix bs (domF bs) := by
 refine domIter_fix h _ _ (start_ok h0 hn) ⟨?_, ?_⟩ ?_ fun h => by cases h
 ·show (BSet.with noSet 0).has 0 = true
  rw [has_with _ (by omega) (by omega)]
  simp
 ·unfold domStart Dom.at
  rw [Ym, if_pos rfl, if_pos (by simpa using h0)]
  rfl
 ·have := start_w bs.length
  have ha : (domStart bs.length).again = true := rfl
  rw [ha, if_pos rfl, domFuel]
  omega
inductive Way (bs : List SBlock) : List Nat → Nat → Prop where
 | start : Way bs [] 0
 | step {l : List Nat} {p k : Nat} : Way bs l p → Edge bs p k → Way bs (p :: l) k
theorem dom_way {bs : List SBlock} {d : Dom} (hd : DomFix bs d) (h : ∀ b ∈ bs, ∀ e ∈ b.term.to, 1 ≤ e.block ∧ e.block < bs.length) {l : List Nat} {k : Nat} (hw : Way bs l k) : d.seen.has k = true ∧ k < 128 ∧ ∀ j, j < 128 → (d.at k).has j = true → j = k ∨ j ∈ l := by
 induction hw with
 | start =>
  refine ⟨hd.seen0, by omega, fun j hj hh => ?_⟩
  rw [hd.at0, has_with _ (by omega) hj, has_no, Bool.false_or, decide_eq_true_eq] at hh
  exact .inl hh
 | @step l p k hw he ih =>
  obtain ⟨hs, hp, ih⟩ := ih
  obtain ⟨e, hem, rfl⟩ := he
  obtain ⟨b, hb, hem⟩ : ∃ b, bs[p]? = some b ∧ e ∈ b.term.to := by
   unfold toAt at hem
   cases hb : bs[p]? with
   | none => rw [hb] at hem; cases hem
   | some b => rw [hb] at hem; exact ⟨b, rfl, hem⟩
  have hr := h b (Yh hb) e hem
  have hn := hd.ok.le
  have ht : e.block.toNat < 128 := by omega
  have hfx := hd.fix p b hb hs e hem
  unfold domEdge at hfx
  dsimp only at hfx
  split at hfx
  ·rename_i hc
   -- a change cannot leave all as it was
   exfalso
   have h1 : (d.over.set e.block.toNat (((d.at e.block.toNat).both (d.at p)).with e.block.toNat))[e.block.toNat]? = d.over[e.block.toNat]? := by
    have := congrArg Dom.over hfx
    dsimp only at this
    rw [this]
   have h2 := congrArg Dom.seen hfx
   dsimp only at h2
   rcases hc with hc | hc
   ·rw [Ym, if_pos rfl, if_pos (by rw [hd.ok.len]; omega)] at h1
    have h3 : d.at e.block.toNat = ((d.at e.block.toNat).both (d.at p)).with e.block.toNat := (congrArg (fun o : Option BSet => o.getD noSet) h1).symm
    exact hc h3.symm
   ·rw [← h2, has_with _ ht ht] at hc
    simp at hc
  ·rename_i hc
   rw [not_or] at hc
   obtain ⟨h1, h2⟩ := hc
   have h1 := Classical.not_not.1 h1
   refine ⟨by simpa using h2, ht, fun j hj hh => ?_⟩
   rw [← h1, has_with _ ht hj, has_both, Bool.or_eq_true, Bool.and_eq_true, decide_eq_true_eq] at hh
   rcases hh with hh | hh
   ·rcases ih j hj hh.2 with h3 | h3
    ·exact .inr (by rw [h3]; exact Ya ..)
    ·exact .inr (Yb _ h3)
   ·exact .inl hh
end Go.SM
end
section
namespace Go.SM
open Go.VL
def Doms (bs : List SBlock) (x v : Nat) : Prop := ∀ l, Way bs l v → x = v ∨ x ∈ l
theorem doms_pred {bs : List SBlock} {x p v : Nat} (h : Doms bs x v) (hx : x ≠ v) (he : Edge bs p v) : Doms bs x p := fun l hl => by
 rcases h _ (.step hl he) with e | e
 ·exact absurd e hx
 ·rcases Yc.1 e with e | e
  ·exact .inl e
  ·exact .inr e
section
variable {bs : List SBlock} (ho : OrderOk bs (orderF bs)) (hE : ∀ b ∈ bs, ∀ e ∈ b.term.to, 1 ≤ e.block ∧ e.block < bs.length) {ov : List Int}
include ho
theorem way_down {a q : Nat} (h : AncP bs a q) : a ∈ orderF bs → ∀ l, Way bs l q → ∃ l', Way bs l' a ∧ ∀ y ∈ l', y ∈ l ∨ pos bs q ≤ pos bs y := by
 induction h with
 | refl a => intro _ l hl; exact ⟨l, hl, fun y hy => .inl hy⟩
 | @step a q h0 hp ih =>
  intro ha l hl
  obtain ⟨h1, h2, h3⟩ := pi_spec ho ha h0
  obtain ⟨l', w, hw⟩ := ih h1 l hl
  have hq := ancP_mem ho h1 hp
  refine ⟨pi bs a :: l', .step w h3, fun y hy => ?_⟩
  rcases Yc.1 hy with rfl | hy
  ·exact .inr hq.2
  ·exact hw y hy
theorem doms_up {i a q x : Nat} (h : TInv bs ov i) (ha : InT bs ov a) (h0 : a ≠ 0) (hq : ov[a]? = some (q : Int)) (hx : Anc ov q x) (hd : Doms bs x a) : Doms bs x q := by
 obtain ⟨q', hq', hqi, hqp⟩ := h.tree.parent ho ha h0
 have : q = q' := by rw [hq] at hq'; injection hq' with e; omega
 subst this
 intro l hl
 by_cases hxq : x = q
 ·exact .inl hxq
 ·obtain ⟨hxi, _, hlt⟩ := h.tree.anc ho hqi hx
  have hlt := hlt hxq
  obtain ⟨l', w, hw⟩ := way_down ho (h.anc a q ha (.step hq (.refl _))) ha.1 l hl
  rcases hd l' w with e | e
  ·subst e; omega
  ·rcases hw x e with e | e
   ·exact .inr e
   ·omega
def Sees (bs : List SBlock) (ov : List Int) : Prop := ∀ v x, InT bs ov v → Doms bs x v → Anc ov v x
include hE
theorem node_sees {i k : Nat} {a : Bool} (h : TInv bs ov i) (h1 : 1 ≤ i) (hk : (orderF bs)[i]? = some k) (hs : Sees bs ov) : Sees bs (treeNode bs (placeZ bs) ⟨ov, a⟩ k).ov := by
 obtain ⟨c, ec, hci, hcp, hk0, hA, hB, hpi, hpc⟩ := next_of ho hE h h1 hk
 have hkm := Yh hk
 have hkl : k < ov.length := by rw [h.tree.len]; exact ho.lt k hkm
 unfold treeNode
 simp only [Ybr]
 rw [ec]
 split
 ·have atk : ∀ x, Doms bs x k → Anc (ov.set k (c : Int)) k x := fun x hd => by
   refine (anc_self ho h.tree hkl hci hcp).2 ?_
   by_cases hx : x = k
   ·exact .inl hx
   ·exact .inr (hB x fun p hp hi => hs p x hi (doms_pred hd hx hp))
  have key : ∀ a x, Anc ov a x → InT bs ov a → Doms bs x a → Anc (ov.set k (c : Int)) a x := fun a x ha => by
   induction ha with
   | refl => intro _ _; exact .refl _
   | @step a q x hq hr ih =>
    intro hi hd
    by_cases hak : a = k
    ·subst hak; exact atk x hd
    ·by_cases h0 : a = 0
     ·subst h0
      rw [h.tree.root] at hq
      injection hq with hq
      omega
     ·obtain ⟨q', hq', hqi, _⟩ := h.tree.parent ho hi h0
      have : q = q' := by rw [hq] at hq'; injection hq' with e; omega
      subst this
      exact .step (by rw [set_get ho hak]; exact hq) (ih hqi (doms_up ho h hi h0 hq hr hd))
  intro v x hv hd
  rcases (inT_set ho hkl hkm).1 hv with hv | rfl
  ·exact key v x (hs v x hv hd) hv hd
  ·exact atk x hd
 ·exact hs
theorem pass_sees : ∀ (l : List Int) (i : Nat) (s : TState), TInv bs s.ov i → 1 ≤ i → (ordZ bs).drop i = l → Sees bs s.ov → Sees bs (treePass bs (placeZ bs) l s).ov
 | [], i, s, h, _, _, hs => hs
 | z :: l, i, s, h, h1, hl, hs => by
  have hz : (ordZ bs)[i]? = some z := by
   have : ((ordZ bs).drop i)[0]? = some z := by rw [hl]; rfl
   rwa [Yai, Ybo] at this
  have hz2 := hz
  unfold ordZ at hz
  rw [Yp] at hz
  obtain ⟨k, hk, rfl⟩ := Option.map_eq_some_iff.1 hz
  have hl2 : (ordZ bs).drop (i + 1) = l := by
   have := drop_cons hz2
   rw [hl] at this
   injection this with _ this
   exact this.symm
  obtain ⟨ov, a⟩ := s
  rw [treePass]
  exact pass_sees l (i + 1) _ (node_step ho hE (a := a) h h1 hk).1 (by omega) hl2 (node_sees ho hE h h1 hk hs)
theorem iter_sees : ∀ (n : Nat) (s : TState), TInv bs s.ov 1 → Sees bs s.ov → Sees bs (treeIter bs (placeZ bs) (ordZ bs) n s).ov
 | 0, s, h, hs => hs
 | n + 1, s, h, hs => by
  rw [treeIter]
  split
  ·exact iter_sees n _ ((pass_step ho hE ((ordZ bs).drop 1) 1 ⟨s.ov, false⟩ h (Ybm _) rfl).1.begin ho (by omega)) (pass_sees ho hE _ 1 ⟨s.ov, false⟩ h (Ybm _) rfl hs)
  ·exact hs
theorem tree_sees : Sees bs (treeF bs) := by
 refine iter_sees ho hE _ _ (tree_start ho) fun v x hv hd => ?_
 have neg : ∀ (v : Nat) (x : Int), (Yg bs.length (-1 : Int))[v]? = some x → x = -1 := fun v x hx => by
  rw [Yy] at hx
  split at hx
  ·injection hx with hx; exact hx.symm
  ·cases hx
 have hv0 : v = 0 := by
  rcases hv.2 with h | ⟨x, hx, hx0⟩
  ·exact h
  ·have := neg v x hx; omega
 subst hv0
 rcases hd _ .start with e | e
 ·subst e; exact .refl _
 ·cases e
end
theorem way_order {f : SFunc} (hf : FuncOk f) {l : List Nat} {v : Nat} (hw : Way f.blocks l v) : v ∈ orderF f.blocks := by
 have ho := order_ok hf.pos hf.edges
 induction hw with
 | start => exact zero_mem ho
 | step hw he ih => exact edge_mem ho ih he
theorem order_way {f : SFunc} (hf : FuncOk f) : ∀ (n v : Nat), pos f.blocks v < n → v ∈ orderF f.blocks → ∃ l, Way f.blocks l v
 | 0, v, hn, _ => by omega
 | n + 1, v, hn, hv => by
  have ho := order_ok hf.pos hf.edges
  by_cases h0 : v = 0
  ·subst h0; exact ⟨[], .start⟩
  ·obtain ⟨p, hp, hlt, he⟩ := par_of ho hv h0
   obtain ⟨l, hl⟩ := order_way hf n p (by omega) hp
   exact ⟨p :: l, .step hl he⟩
theorem order_iff {f : SFunc} (hf : FuncOk f) {v : Nat} : v ∈ orderF f.blocks ↔ ∃ l, Way f.blocks l v := ⟨fun h => order_way hf _ v (Nat.lt_succ_self _) h, fun ⟨l, h⟩ => way_order hf h⟩
theorem anc_doms {f : SFunc} (hf : FuncOk f) {v x : Nat} (ha : Anc (treeF f.blocks) v x) : Doms f.blocks x v := fun l hw => by
 have ho := order_ok hf.pos hf.edges
 have ht := tree_ok ho hf.edges
 induction hw with
 | start => exact .inl (ht.inv.tree.zero ho ha)
 | @step l p k hw he ih =>
  obtain ⟨_, _, q, hq, _, hpq⟩ := idom_anc hf (way_order hf hw) he
  rcases ht.inv.tree.cases ho hq ha with e | h1
  ·exact .inl e
  ·rcases ih (hpq.trans h1) with e | e
   ·exact .inr (e ▸ Ya ..)
   ·exact .inr (Yb _ e)
theorem doms_iff {f : SFunc} (hf : FuncOk f) {v x : Nat} (hv : v ∈ orderF f.blocks) : Anc (treeF f.blocks) v x ↔ Doms f.blocks x v := by
 have ho := order_ok hf.pos hf.edges
 have ht := tree_ok ho hf.edges
 exact ⟨anc_doms hf, tree_sees ho hf.edges v x (ht.all v hv)⟩
end Go.SM
end
section
namespace Go.SM
open Go.VL
structure DomMost (bs : List SBlock) (d : Dom) : Prop where
 most : ∀ k j : Nat, k < bs.length → j < bs.length → Doms bs j k → (d.at k).has j = true
 seen : ∀ k : Nat, k < 128 → d.seen.has k = true → ∃ l, Way bs l k
theorem most_start {bs : List SBlock} (h0 : 0 < bs.length) (hn : bs.length ≤ 128) : DomMost bs (domStart bs.length) := by
 refine ⟨fun k j hk hj hd => ?_, fun k hk hs => ?_⟩
 ·unfold domStart Dom.at
  dsimp only
  rw [Ym]
  split
  ·rename_i e
   subst e
   rw [if_pos (by simpa using h0)]
   rcases hd [] .start with e | e
   ·subst e
    show (BSet.with noSet 0).has 0 = true
    rw [has_with _ (by omega) (by omega)]
    simp
   ·cases e
  ·rw [Yy, if_pos hk]
   show (allSet bs.length).has j = true
   rw [has_all _ hn j (by omega)]
   exact decide_eq_true hj
 ·have hs : (BSet.with noSet 0).has k = true := hs
  rw [has_with _ (by omega) hk, has_no, Bool.false_or, decide_eq_true_eq] at hs
  subst hs
  exact ⟨[], .start⟩
theorem most_edge {bs : List SBlock} (hn : bs.length ≤ 128) {d : Dom} (ok : DomOk bs.length d) {k : Nat} {e : SEdge} (hk : k < bs.length) (he : e ∈ toAt bs k) (h1 : 1 ≤ e.block) (h2 : e.block < bs.length) (hs : d.seen.has k = true) (h : DomMost bs d) : DomMost bs (domEdge k d e) := by
 unfold domEdge
 dsimp only
 have hte : Edge bs k e.block.toNat := ⟨e, he, rfl⟩
 split
 ·refine ⟨fun v j hv hj hd => ?_, fun v hv hsv => ?_⟩
  ·rw [at_set (by rw [ok.len]; omega)]
   split
   ·rename_i e1
    subst e1
    rw [has_with _ (by omega) (by omega), has_both]
    by_cases hjt : j = e.block.toNat
    ·rw [decide_eq_true hjt, Bool.or_true]
    ·rw [h.most _ j hv hj hd, h.most k j hk hj (doms_pred hd hjt hte)]
     rfl
   ·exact h.most v j hv hj hd
  ·have hsv : (d.seen.with e.block.toNat).has v = true := hsv
   rw [has_with _ (by omega) hv, Bool.or_eq_true, decide_eq_true_eq] at hsv
   rcases hsv with hsv | rfl
   ·exact h.seen v hv hsv
   ·obtain ⟨l, hl⟩ := h.seen k (by omega) hs
    exact ⟨_, .step hl hte⟩
 ·exact h
theorem seen_edge {n k : Nat} {d : Dom} {e : SEdge} (hn : n ≤ 128) (hk : k < n) (h1 : 1 ≤ e.block) (h2 : e.block < n) (hs : d.seen.has k = true) : (domEdge k d e).seen.has k = true := by
 unfold domEdge
 dsimp only
 split
 ·rw [has_with _ (by omega) (by omega), hs]; rfl
 ·exact hs
theorem most_edges {bs : List SBlock} (hn : bs.length ≤ 128) {k : Nat} (hk : k < bs.length) : ∀ {l : List SEdge} {d : Dom}, DomOk bs.length d → (∀ e ∈ l, e ∈ toAt bs k) → (∀ e ∈ l, 1 ≤ e.block ∧ e.block < bs.length) → d.seen.has k = true → DomMost bs d → DomMost bs (l.foldl (domEdge k) d)
 | [], d, _, _, _, _, h => h
 | e :: l, d, ok, hl, hb, hs, h => by
  have he := hb e (Ya ..)
  show DomMost bs (l.foldl (domEdge k) (domEdge k d e))
  exact most_edges hn hk (l := l) (domEdge_w ok hk he.1 he.2).1 (fun x hx => hl x (Yb _ hx)) (fun x hx => hb x (Yb _ hx)) (seen_edge hn hk he.1 he.2 hs) (most_edge hn ok hk (hl e (Ya ..)) he.1 he.2 hs h)
theorem most_block {bs : List SBlock} (hn : bs.length ≤ 128) {k : Nat} {b : SBlock} {d : Dom} (hb : bs[k]? = some b) (ok : DomOk bs.length d) (hE : ∀ e ∈ b.term.to, 1 ≤ e.block ∧ e.block < bs.length) (h : DomMost bs d) : DomMost bs (domBlock d k b) := by
 unfold domBlock
 split
 ·rename_i hs
  exact most_edges hn (Yd.1 hb).1 ok (fun e he => by rw [toAt_get hb]; exact he) hE hs h
 ·exact h
theorem most_pass {bs : List SBlock} (hn : bs.length ≤ 128) (hE : ∀ b ∈ bs, ∀ e ∈ b.term.to, 1 ≤ e.block ∧ e.block < bs.length) : ∀ {l : List SBlock} {k : Nat} {d : Dom}, bs.drop k = l → DomOk bs.length d → DomMost bs d → DomMost bs (domPass k l d)
 | [], k, d, _, _, h => h
 | c :: l, k, d, hl, ok, h => by
  have hb : bs[k]? = some c := by
   have h9 : (bs.drop k)[0]? = some c := by rw [hl]; rfl
   rwa [Yai, Ybo] at h9
  have hl2 : bs.drop (k + 1) = l := by
   have h9 : (bs.drop k).drop 1 = l := by rw [hl]; rfl
   rwa [Ybd] at h9
  have hk := (Yd.1 hb).1
  have hc := hE c (Yh hb)
  show DomMost bs (domPass (k + 1) l (domBlock d k c))
  exact most_pass hn hE hl2 (block_w hk ok hc).1 (most_block hn hb ok hc h)
theorem most_iter {bs : List SBlock} (hn : bs.length ≤ 128) (hE : ∀ b ∈ bs, ∀ e ∈ b.term.to, 1 ≤ e.block ∧ e.block < bs.length) : ∀ (n : Nat) (d : Dom), DomOk bs.length d → DomMost bs d → DomMost bs (domIter bs n d)
 | 0, d, _, h => h
 | n + 1, d, ok, h => by
  rw [domIter]
  split
  ·have ok0 : DomOk bs.length { d with again := false } := ⟨ok.len, ok.le, ok.self⟩
   exact most_iter hn hE n _ (pass_w (l := bs) (k := 0) (by omega) ok0 hE).1 (most_pass hn hE rfl ok0 ⟨h.most, h.seen⟩)
  ·exact h
theorem dom_most {bs : List SBlock} (h0 : 0 < bs.length) (hn : bs.length ≤ 128) (hE : ∀ b ∈ bs, ∀ e ∈ b.term.to, 1 ≤ e.block ∧ e.block < bs.length) : DomMost bs (domF bs) := most_iter hn hE _ _ (start_ok h0 hn) (most_start h0 hn)
theorem has_iff {bs : List SBlock} (h0 : 0 < bs.length) (hn : bs.length ≤ 128) (hE : ∀ b ∈ bs, ∀ e ∈ b.term.to, 1 ≤ e.block ∧ e.block < bs.length) {k j : Nat} (hk : ∃ l, Way bs l k) (hkl : k < bs.length) (hj : j < bs.length) : ((domF bs).at k).has j = true ↔ Doms bs j k :=
 ⟨fun h l hw => (dom_way (dom_fix h0 hn hE) hE hw).2.2 j (by omega) h, (dom_most h0 hn hE).most k j hkl hj⟩
theorem seen_iff {bs : List SBlock} (h0 : 0 < bs.length) (hn : bs.length ≤ 128) (hE : ∀ b ∈ bs, ∀ e ∈ b.term.to, 1 ≤ e.block ∧ e.block < bs.length) {k : Nat} (hk : k < 128) : (domF bs).seen.has k = true ↔ ∃ l, Way bs l k :=
 ⟨(dom_most h0 hn hE).seen k hk, fun ⟨l, hw⟩ => (dom_way (dom_fix h0 hn hE) hE hw).1⟩
end Go.SM
end
section
namespace Go.SM
open Go.VL
abbrev keys (d : Defs) : List Int := d.map (·.1)
structure KOk (d new : Defs) : Prop where
 wi : ∀ x ∈ keys new, wi x 0 4095 = true
 nodup : (keys new).Nodup
 fresh : ∀ x ∈ keys new, x ∉ keys d
theorem kok_nil (d : Defs) : KOk d [] := ⟨by simp, by simp, by simp⟩
theorem kok_append {d a b : Defs} : KOk d (a ++ b) ↔ KOk d a ∧ KOk (d ++ a) b := by
 constructor
 ·rintro ⟨h1, h2, h3⟩
  simp only [keys, Ys] at h1 h2 h3
  obtain ⟨n1, n2, n3⟩ := Yab.1 h2
  refine ⟨⟨fun x hx => h1 x (Yq _ hx), n1, fun x hx => h3 x (Yq _ hx)⟩, ⟨fun x hx => h1 x (Yn _ hx), n2, fun x hx => ?_⟩⟩
  simp only [keys, Ys, Yi, not_or]
  exact ⟨h3 x (Yn _ hx), fun hm => n3 x hm x hx rfl⟩
 ·rintro ⟨⟨a1, a2, a3⟩, ⟨b1, b2, b3⟩⟩
  simp only [keys, Ys] at b3
  refine ⟨fun x hx => ?_, ?_, fun x hx => ?_⟩ <;> simp only [keys, Ys] at *
  ·rcases Yi.1 hx with h | h
   ·exact a1 x h
   ·exact b1 x h
  ·exact Yab.2 ⟨a2, b2, fun x hx y hy e => by subst e; exact b3 x hy (Yn _ hx)⟩
  ·rcases Yi.1 hx with h | h
   ·exact a3 x h
   ·exact fun hm => b3 x h (Yq _ hm)
theorem kok_one {d : Defs} {v : Int} {p : Int × Int} : KOk d [(v, p)] ↔ wi v 0 4095 = true ∧ v ∉ keys d := by
 constructor
 ·rintro ⟨h1, _, h3⟩
  exact ⟨h1 v (by simp), h3 v (by simp)⟩
 ·rintro ⟨h1, h2⟩
  exact ⟨fun x hx => by simp at hx; subst hx; exact h1, by simp, fun x hx => by simp at hx; subst hx; exact h2⟩
theorem dget_out {v : Int} : ∀ {d : Defs}, dget d v = none ↔ v ∉ keys d
 | [] => by simp [dget]
 | (k, p) :: d => by
  rw [dget]
  split
  ·rename_i e
   subst e
   simp
  ·rename_i e
   rw [dget_out]
   simp only [keys, Yaa, Yc, not_or]
   exact ⟨fun h => ⟨fun e2 => e e2.symm, h⟩, fun h => h.2⟩
theorem define_iff {v : Int} {p : Int × Int} {d : Defs} : (defineF v p d).1 = 0 ↔ KOk d [(v, p)] := by
 rw [kok_one]
 unfold defineF
 cases hw : wi v 0 4095 with
 | false => simp
 | true =>
  rw [if_neg (by decide)]
  cases hd : dget d v with
  | none =>
   rw [if_neg (by decide)]
   exact ⟨fun _ => ⟨rfl, dget_out.1 hd⟩, fun _ => rfl⟩
  | some x =>
   rw [if_pos (show (some x).isSome = true from rfl)]
   have : ¬ v ∉ keys d := fun h => by rw [dget_out.2 h] at hd; cases hd
   exact ⟨fun h => absurd (show (7 : Int) = 0 from h) (by decide), fun h => absurd h.2 this⟩
theorem define_eq {v : Int} {p : Int × Int} {d : Defs} (h : (defineF v p d).1 = 0) : (defineF v p d).2 = d ++ [(v, p)] := by
 have h2 := h
 rw [define_iff, kok_one] at h2
 unfold defineF
 rw [if_neg (by rw [h2.1]; decide), dget_out.2 h2.2, if_neg (by decide)]
theorem params_iff {k : Int} : ∀ {ps : List Int} {d : Defs}, ((paramsF k ps d).1 = 0 ↔ KOk d (defsP k ps)) ∧ ((paramsF k ps d).1 = 0 → (paramsF k ps d).2 = d ++ defsP k ps)
 | [], d => ⟨⟨fun _ => kok_nil d, fun _ => rfl⟩, fun _ => by simp [paramsF, defsP]⟩
 | p :: ps, d => by
  have hc : defsP k (p :: ps) = [(p, (k, 0))] ++ defsP k ps := rfl
  rw [hc, kok_append, paramsF]
  by_cases h : (defineF p (k, 0) d).1 = 0
  ·rw [if_neg (fun h2 => h2 h)]
   have he := define_eq h
   obtain ⟨h1, h2⟩ := params_iff (k := k) (ps := ps) (d := (defineF p (k, 0) d).2)
   rw [he] at h1 h2
   rw [he]
   exact ⟨⟨fun h3 => ⟨define_iff.1 h, h1.1 h3⟩, fun h3 => h1.2 h3.2⟩, fun h3 => by rw [h2 h3, Yx]⟩
  ·rw [if_pos h]
   exact ⟨⟨fun h3 => absurd h3 h, fun h3 => absurd (define_iff.2 h3.1) h⟩, fun h3 => absurd h3 h⟩
theorem inss_iff {k : Int} : ∀ {is : List SIns} {n : Int} {d : Defs}, ((inssF k n is d).1 = 0 ↔ KOk d (defsI k n is) ∧ ∀ i ∈ is, formF i = 0) ∧ ((inssF k n is d).1 = 0 → (inssF k n is d).2 = d ++ defsI k n is)
 | [], n, d => ⟨⟨fun _ => ⟨kok_nil d, fun i hi => by cases hi⟩, fun _ => rfl⟩, fun _ => by simp [inssF, defsI]⟩
 | i :: is, n, d => by
  have hc : defsI k n (i :: is) = [(i.to, (k, n + 1))] ++ defsI k (n + 1) is := rfl
  rw [hc, kok_append, inssF]
  by_cases h : (defineF i.to (k, n + 1) d).1 = 0
  ·rw [if_neg (fun h2 => h2 h)]
   have he := define_eq h
   by_cases hf : formF i = 0
   ·rw [if_neg (fun h2 => h2 hf)]
    obtain ⟨h1, h2⟩ := inss_iff (k := k) (is := is) (n := n + 1) (d := (defineF i.to (k, n + 1) d).2)
    rw [he] at h1 h2
    rw [he]
    refine ⟨⟨fun h3 => ?_, fun h3 => ?_⟩, fun h3 => by rw [h2 h3, Yx]⟩
    ·have h4 := h1.1 h3
     refine ⟨⟨define_iff.1 h, h4.1⟩, fun j hj => ?_⟩
     rcases Yc.1 hj with rfl | hj
     ·exact hf
     ·exact h4.2 j hj
    ·exact h1.2 ⟨h3.1.2, fun j hj => h3.2 j (Yb _ hj)⟩
   ·rw [if_pos hf]
    exact ⟨⟨fun h3 => absurd h3 hf, fun h3 => absurd (h3.2 i (Ya ..)) hf⟩, fun h3 => absurd h3 hf⟩
  ·rw [if_pos h]
   exact ⟨⟨fun h3 => absurd h3 h, fun h3 => absurd (define_iff.2 h3.1.1) h⟩, fun h3 => absurd h3 h⟩
theorem block_iff {bs : List SBlock} {k : Int} {b : SBlock} {d : Defs} : ((blockF bs k b d).1 = 0 ↔ KOk d (defsB k b) ∧ blockOk bs b) ∧ ((blockF bs k b d).1 = 0 → (blockF bs k b d).2 = d ++ defsB k b) := by
 unfold blockF defsB blockOk
 rw [kok_append]
 obtain ⟨p1, p2⟩ := params_iff (k := k) (ps := b.params) (d := d)
 by_cases hp : (paramsF k b.params d).1 = 0
 ·rw [if_neg (fun h => h hp)]
  rw [p2 hp]
  obtain ⟨i1, i2⟩ := inss_iff (k := k) (is := b.ins) (n := 0) (d := d ++ defsP k b.params)
  by_cases hi : (inssF k 0 b.ins (d ++ defsP k b.params)).1 = 0
  ·rw [if_neg (fun h => h hi)]
   dsimp only
   rw [i2 hi]
   exact ⟨⟨fun h => ⟨⟨p1.1 hp, (i1.1 hi).1⟩, (i1.1 hi).2, h⟩, fun h => h.2.2⟩, fun h => Yx ..⟩
  ·rw [if_pos hi]
   exact ⟨⟨fun h => absurd h hi, fun h => absurd (i1.2 ⟨h.1.2, h.2.1⟩) hi⟩, fun h => absurd h hi⟩
 ·rw [if_pos hp]
  exact ⟨⟨fun h => absurd h hp, fun h => absurd (p1.2 h.1.1) hp⟩, fun h => absurd h hp⟩
theorem blocks_iff {bs : List SBlock} : ∀ {l : List SBlock} {k : Int} {d : Defs}, ((blocksF bs k l d).1 = 0 ↔ KOk d (defsL k l) ∧ ∀ b ∈ l, blockOk bs b) ∧ ((blocksF bs k l d).1 = 0 → (blocksF bs k l d).2 = d ++ defsL k l)
 | [], k, d => ⟨⟨fun _ => ⟨kok_nil d, fun i hi => by cases hi⟩, fun _ => rfl⟩, fun _ => by simp [blocksF, defsL]⟩
 | b :: l, k, d => by
  rw [defsL, kok_append, blocksF]
  obtain ⟨b1, b2⟩ := block_iff (bs := bs) (k := k) (b := b) (d := d)
  by_cases h : (blockF bs k b d).1 = 0
  ·rw [if_neg (fun h2 => h2 h), b2 h]
   obtain ⟨h1, h2⟩ := blocks_iff (bs := bs) (l := l) (k := k + 1) (d := d ++ defsB k b)
   refine ⟨⟨fun h3 => ?_, fun h3 => ?_⟩, fun h3 => by rw [h2 h3, Yx]⟩
   ·have h4 := h1.1 h3
    refine ⟨⟨(b1.1 h).1, h4.1⟩, fun j hj => ?_⟩
    rcases Yc.1 hj with rfl | hj
    ·exact (b1.1 h).2
    ·exact h4.2 j hj
   ·exact h1.2 ⟨h3.1.2, fun j hj => h3.2 j (Yb _ hj)⟩
  ·rw [if_pos h]
   exact ⟨⟨fun h3 => absurd h3 h, fun h3 => absurd (b1.2 ⟨h3.1.1, h3.2 b (Ya ..)⟩) h⟩, fun h3 => absurd h3 h⟩
theorem dget_at {v : Int} {p : Int × Int} : ∀ {d : Defs}, (keys d).Nodup → (dget d v = some p ↔ (v, p) ∈ d)
 | [], _ => by simp [dget]
 | (k, q) :: d, h => by
  obtain ⟨h1, h2⟩ := Yaf.1 (show (k :: keys d).Nodup from h)
  rw [dget]
  split
  ·rename_i e
   subst e
   constructor
   ·intro e; injection e with e; subst e; exact Ya ..
   ·intro hm
    rcases Yc.1 hm with e | hm
    ·injection e with _ e; rw [e]
    ·exact absurd (Yf.2 ⟨_, hm, rfl⟩) h1
  ·rename_i e
   rw [dget_at h2]
   constructor
   ·intro hm; exact Yb _ hm
   ·intro hm
    rcases Yc.1 hm with e2 | hm
    ·injection e2 with e2 _; exact absurd e2.symm e
    ·exact hm
def dI : Int → List SIns → List (Int × Int)
 | _, [] => []
 | n, i :: is => (i.to, n + 1) :: dI (n + 1) is
def dB (b : SBlock) : List (Int × Int) := b.params.map (fun p => (p, 0)) ++ dI 0 b.ins
theorem defsI_eq (k : Int) : ∀ (is : List SIns) (n : Int), defsI k n is = (dI n is).map fun e => (e.1, (k, e.2))
 | [], n => rfl
 | i :: is, n => by rw [defsI, dI, Yaa, defsI_eq k is]
theorem defsB_eq (k : Int) (b : SBlock) : defsB k b = (dB b).map fun e => (e.1, (k, e.2)) := by
 unfold defsB dB defsP
 rw [Ys, Yap, defsI_eq]
 rfl
theorem defsL_at {x : Int × Int × Int} : ∀ {l : List SBlock} {k : Int}, x ∈ defsL k l ↔ ∃ (j : Nat) (b : SBlock), l[j]? = some b ∧ x.2.1 = k + j ∧ (x.1, x.2.2) ∈ dB b
 | [], k => by simp [defsL]
 | c :: l, k => by
  rw [defsL, Yi, defsL_at (l := l), defsB_eq, Yf]
  constructor
  ·rintro (⟨e, he, rfl⟩ | ⟨j, b, hb, h1, h2⟩)
   ·exact ⟨0, c, rfl, by simp, he⟩
   ·exact ⟨j + 1, b, by simpa using hb, by rw [h1]; simp; omega, h2⟩
  ·rintro ⟨j, b, hb, h1, h2⟩
   cases j with
   | zero =>
    have hb : c = b := by simpa using hb
    subst hb
    refine .inl ⟨_, h2, ?_⟩
    obtain ⟨a, b, e⟩ := x
    have h1 : b = k + (0 : Nat) := h1
    rw [show b = k by rw [h1]; simp]
   | succ j => exact .inr ⟨j, b, by simpa using hb, by rw [h1]; simp; omega, h2⟩
theorem keysI_len : ∀ (is : List SIns) (n : Int), (dI n is).length = is.length
 | [], n => rfl
 | i :: is, n => by rw [dI, Yl, keysI_len is, Yl]
def insN : List SBlock → Nat
 | [] => 0
 | b :: l => b.ins.length + insN l
theorem keysL : ∀ (l : List SBlock) (k : Int), keys (defsL k l) = l.flatMap fun b => (dB b).map (·.1)
 | [], k => rfl
 | b :: l, k => by
  rw [defsL, keys, Ys, Ybe]
  have h := keysL l (k + 1)
  rw [keys] at h
  rw [h, defsB_eq, Yap]
  rfl
theorem insN_le : ∀ (l : List SBlock), insN l ≤ (l.flatMap fun b => (dB b).map (·.1)).length
 | [] => Ybm _
 | b :: l => by
  have h := insN_le l
  rw [insN, Ybe, Yw, Yo, dB, Yw, keysI_len]
  omega
theorem nodup_wi {l : List Int} (h : l.Nodup) (hw : ∀ x ∈ l, wi x 0 4095 = true) : l.length ≤ 4096 := by
 have h1 := nodup_lt (l := l.map Int.toNat) (n := 4096) ?_ fun v hv => by
  obtain ⟨x, hx, rfl⟩ := Yf.1 hv
  have := wi_iff.1 (hw x hx)
  omega
 ·rwa [Yo] at h1
 ·rw [List.Nodup, Yaj]
  refine List.Pairwise.imp_of_mem (fun {a c} ha hc hne e => hne ?_) h
  have h1 := wi_iff.1 (hw a ha)
  have h2 := wi_iff.1 (hw c hc)
  omega
theorem count_eq : ∀ (l : List SBlock) (n : Int), 0 ≤ n → n + insN l ≤ 9223372036854775807 → countIns n l = n + insN l
 | [], n, _, _ => by simp [countIns, insN]
 | b :: l, n, h0, h => by
  rw [insN] at h
  rw [countIns, insN]
  have e : IntKind.i64.wrap (n + b.ins.length) = n + b.ins.length := by rw [IntKind.wrap_i64]; omega
  rw [e, count_eq l _ (by omega) (by omega)]
  omega
structure FuncIs (f : SFunc) : Prop where
 pos : 0 < f.blocks.length
 len : f.blocks.length ≤ 128
 ins : insN f.blocks ≤ 1024
 params : (paramsOf f.blocks 0).length ≤ 6
 name : wi f.name (-1) 1048575 = true
 kok : KOk [] (defsL 0 f.blocks)
 block : ∀ b ∈ f.blocks, blockOk f.blocks b
 uses : usesF (defsL 0 f.blocks) (domF f.blocks) 0 f.blocks = 0
theorem func_iff {f : SFunc} : funcF f = 0 ↔ FuncIs f := by
 constructor
 ·intro h
  have hok := func_ok h
  obtain ⟨h1, h2⟩ := blocks_iff (bs := f.blocks) (l := f.blocks) (k := 0) (d := [])
  have h3 := h1.1 hok.blocks
  have h4 := h2 hok.blocks
  have hu := hok.uses
  rw [h4, Yac] at hu
  have hl := nodup_wi h3.1.nodup h3.1.wi
  rw [keysL] at hl
  have hi := insN_le f.blocks
  have hc := hok.ins
  rw [count_eq _ _ (by omega) (by omega)] at hc
  exact ⟨hok.pos, hok.len, by omega, hok.params, wi_iff.2 hok.name, h3.1, h3.2, hu⟩
 ·intro h
  obtain ⟨h1, h2⟩ := blocks_iff (bs := f.blocks) (l := f.blocks) (k := 0) (d := [])
  have h3 := h1.2 ⟨h.kok, h.block⟩
  have h4 := h2 h3
  have a1 := h.pos
  have a2 := h.len
  have a3 := h.ins
  have a4 := h.params
  unfold funcF
  rw [if_neg (by omega), if_neg (by rw [count_eq _ _ (by omega) (by omega)]; omega), if_neg (by rw [h.name]; decide), if_neg (fun hn => hn h3), h4, Yac]
  exact h.uses
end Go.SM
end
section
namespace Go.SM
open Go.VL
def atF (f : SFunc) : List Int := placeF (reachL f) f.blocks.length
def reachN (f : SFunc) : List Nat := (Yk f.blocks.length).filter fun v => decide (v ∈ orderF f.blocks)
theorem sorted_eq : ∀ {a b : List Int}, a.Pairwise (· < ·) → b.Pairwise (· < ·) → (∀ x, x ∈ a ↔ x ∈ b) → a = b
 | [], [], _, _, _ => rfl
 | [], y :: b, _, _, h => by have := (h y).2 (Ya ..); cases this
 | x :: a, [], _, _, h => by have := (h x).1 (Ya ..); cases this
 | x :: a, y :: b, ha, hb, h => by
  obtain ⟨a1, a2⟩ := List.pairwise_cons.1 ha
  obtain ⟨b1, b2⟩ := List.pairwise_cons.1 hb
  have hxy : x = y := by
   rcases Yc.1 ((h x).1 (Ya ..)) with e | e
   ·exact e
   ·rcases Yc.1 ((h y).2 (Ya ..)) with e2 | e2
    ·exact e2.symm
    ·have := b1 x e
     have := a1 y e2
     omega
  subst hxy
  rw [sorted_eq a2 b2 fun z => ?_]
  constructor
  ·intro hz
   rcases Yc.1 ((h z).1 (Yb _ hz)) with e | e
   ·have := a1 z hz; omega
   ·exact e
  ·intro hz
   rcases Yc.1 ((h z).2 (Yb _ hz)) with e | e
   ·have := b1 z hz; omega
   ·exact e
section
variable {f : SFunc} (ho : OrderOk f.blocks (orderF f.blocks))
include ho
theorem reachN_mem {v : Nat} : v ∈ reachN f ↔ v ∈ orderF f.blocks := by
 unfold reachN
 rw [Yj, Yr, decide_eq_true_eq]
 exact ⟨fun h => h.2, fun h => ⟨ho.lt v h, h⟩⟩
omit ho in
theorem reachN_sorted : (reachN f).Pairwise (· < ·) := List.Pairwise.filter _ List.pairwise_lt_range
theorem reach_eq : reachL f = (reachN f).map fun k : Nat => (k : Int) := by
 refine sorted_eq ?_ ?_ fun x => ?_
 ·have h1 := List.pairwise_mergeSort (le := fun (x y : Int) => decide (x ≤ y)) (fun a b c h1 h2 => by simp at h1 h2 ⊢; omega) (fun a b => by simp; omega) (ordZ f.blocks)
  have h2 : (reachL f).Nodup := (List.mergeSort_perm _ _).nodup_iff.2 (by
   unfold ordZ
   rw [List.Nodup, Yaj]
   exact ho.nodup.imp fun hne e => hne (by omega))
  refine (List.pairwise_and_iff.2 ⟨h1, h2⟩).imp fun ⟨h3, h4⟩ => ?_
  have := of_decide_eq_true h3
  omega
 ·rw [Yaj]
  exact reachN_sorted.imp fun h => by omega
 ·rw [Yf]
  constructor
  ·intro hx
   have hx2 := hx
   rw [reachL, Yao, ordZ, Yf] at hx2
   obtain ⟨v, hv, rfl⟩ := hx2
   exact ⟨v, (reachN_mem ho).2 hv, rfl⟩
  ·rintro ⟨v, hv, rfl⟩
   exact reach_mem.2 ((reachN_mem ho).1 hv)
end
theorem edgesF_iff {bs : List SBlock} : ∀ {l : List SEdge}, (∀ e ∈ l, 1 ≤ e.block ∧ e.block < bs.length ∧ e.args.length = (paramsOf bs e.block).length) → edgesF bs l = 0
 | [], _ => rfl
 | e :: l, h => by
  have h1 := h e (Ya ..)
  rw [edgesF, if_neg (by rw [wi_iff.2 ⟨h1.1, by omega⟩]; decide), if_neg (fun hn => hn h1.2.2)]
  exact edgesF_iff fun x hx => h x (Yb _ hx)
theorem usesF_iff {d : Defs} {o : Dom} : ∀ {l : List SBlock} {k : Nat}, usesF d o k l = 0 ↔ ∀ (j : Nat) (b : SBlock), l[j]? = some b → usesIns d o (k + j) 0 b.ins = true ∧ usedF b.term (fineF d o (k + j) b.ins.length) = true
 | [], k => by simp [usesF]
 | c :: l, k => by
  rw [usesF]
  constructor
  ·intro h j b hb
   split at h
   ·cases h
   ·rename_i h1
    split at h
    ·cases h
    ·rename_i h2
     cases j with
     | zero =>
      have hb : c = b := by simpa using hb
      subst hb
      exact ⟨by simpa using h1, by simpa using h2⟩
     | succ j =>
      have := usesF_iff.1 h j b (by simpa using hb)
      rwa [show k + 1 + j = k + (j + 1) by omega] at this
  ·intro h
   have h0 := h 0 c rfl
   rw [Ybo] at h0
   rw [if_neg (by rw [h0.1]; decide), if_neg (by rw [h0.2]; decide)]
   exact usesF_iff.2 fun j b hb => by
    have := h (j + 1) b (by simpa using hb)
    rwa [show k + (j + 1) = k + 1 + j by omega] at this
theorem usesIns_imp {d d' : Defs} {o o' : Dom} {k k' : Nat} (h : ∀ n u, fineF d o k n u = true → fineF d' o' k' n u = true) : ∀ {is : List SIns} {n : Int}, usesIns d o k n is = true → usesIns d' o' k' n is = true
 | [], n, _ => rfl
 | i :: is, n, hu => by
  rw [usesIns, Bool.and_eq_true, Yaq] at hu ⊢
  exact ⟨fun u hu2 => h n u (hu.1 u hu2), usesIns_imp h hu.2⟩
theorem mem_zero_key {d : Defs} : (∀ x ∈ keys d, x ∉ keys ([] : Defs)) := fun x _ h => by cases h
end Go.SM
end
section
namespace Go.SM
open Go.VL
def jumpB (e : SEdge) : SBlock := ⟨[], [], ⟨1, 0, 0, [], [e]⟩⟩
abbrev Cut := List (Nat × SEdge)
def setTo (b : SBlock) (to : List SEdge) : SBlock := { b with term := { b.term with to := to } }
structure SplitOk (bs gs : List SBlock) (E : Cut) : Prop where
 len : gs.length = bs.length + E.length
 old : ∀ k b, bs[k]? = some b → ∃ to : List SEdge, gs[k]? = some (setTo b to) ∧ to.length = b.term.to.length ∧ ∀ (j : Nat) (e : SEdge), b.term.to[j]? = some e → to[j]? = some e ∨ ∃ m, E[m]? = some (k, e) ∧ to[j]? = some ⟨((bs.length + m : Nat) : Int), []⟩
 new : ∀ m k e, E[m]? = some (k, e) → gs[bs.length + m]? = some (jumpB e) ∧ ∃ b, bs[k]? = some b ∧ e ∈ b.term.to
section
variable {bs gs : List SBlock} {E : Cut} (h : SplitOk bs gs E) (hE : ∀ b ∈ bs, ∀ e ∈ b.term.to, 1 ≤ e.block ∧ e.block < bs.length)
include h hE
end
end Go.SM
end
section
namespace Go.SM
open Go.VL
theorem defsL_append : ∀ (a b : List SBlock) (k : Int), defsL k (a ++ b) = defsL k a ++ defsL (k + a.length) b
 | [], b, k => by simp [defsL]
 | x :: a, b, k => by
  rw [Yt, defsL, defsL, defsL_append a b, Yx, Yl, show k + 1 + (a.length : Int) = k + ((a.length + 1 : Nat) : Int) by omega]
theorem insN_append : ∀ a b : List SBlock, insN (a ++ b) = insN a + insN b
 | [], b => by rw [Yac, insN, Ybn]
 | x :: a, b => by rw [Yt, insN, insN, insN_append a b]; omega
theorem domsF_reach {f : SFunc} (hf : FuncOk f) {a b : Nat} (hb : b ∈ orderF f.blocks) : domsF f a b = true ↔ Doms f.blocks a b := by
 have ho := order_ok hf.pos hf.edges
 rw [doms_anc ho (tree_ok ho hf.edges) hb]
 exact doms_iff hf hb
end Go.SM
end
section
namespace Go.SM
open Go.VL
def overZ (f : SFunc) (a b : Int) : Bool := climbB (treeF f.blocks) (f.blocks.length + 1) a b
def backsF (f : SFunc) : List (Int × Int) := (reachL f).flatMap fun k => ((toAt f.blocks k.toNat).filter fun e => overZ f e.block k).map fun e => (k, e.block)
def workF (f : SFunc) (h : Int) : List Int := ((backsF f).filter fun x => x.2 == h).map (·.1)
def inR (f : SFunc) (k : Int) : Bool := (reachL f).any fun x => decide (k = x)
def loopStep (f : SFunc) (s : List Int × List Int) : List Int × List Int :=
 match s.1.getLast? with
 | none => s
 | some k => if (inR f k && !(s.2.any fun x => decide (k = x))) = true then (s.1.dropLast ++ ((predsF f.blocks)[k.toNat]?.getD []), s.2 ++ [k]) else (s.1.dropLast, s.2)
def loopRun (f : SFunc) : Nat → List Int × List Int → List Int × List Int
 | 0, s => s
 | n + 1, s => if s.1 = [] then s else loopRun f n (loopStep f s)
def loopC (f : SFunc) (all : List Int) : Nat := ((Yk f.blocks.length).map fun (k : Nat) => if ((k : Int) ∈ all) then 0 else ((predsF f.blocks)[k]?.getD []).length).sum
def loopW (f : SFunc) (s : List Int × List Int) : Nat := s.1.length + loopC f s.2
def bodyF (f : SFunc) (h : Int) : List Int := (loopRun f (loopW f (workF f h, [h])) (workF f h, [h])).2
def headsF (f : SFunc) : List Int := ((Yk f.blocks.length).map fun (k : Nat) => (k : Int)).filter fun h => !(workF f h).isEmpty
def sortL (l : List Int) : List Int := l.mergeSort fun x y => decide (x ≤ y)
def findF (f : SFunc) : List (Int × List Int) := (headsF f).map fun h => (h, sortL (bodyF f h))
theorem loopC_add {f : SFunc} {all : List Int} {v : Nat} (hv : v < f.blocks.length) (hn : (v : Int) ∉ all) : loopC f (all ++ [(v : Int)]) + ((predsF f.blocks)[v]?.getD []).length = loopC f all := by
 unfold loopC
 have key : ∀ l : List Nat, l.Nodup → (l.map fun (k : Nat) => if ((k : Int) ∈ all ++ [(v : Int)]) then 0 else ((predsF f.blocks)[k]?.getD []).length).sum + (if v ∈ l then ((predsF f.blocks)[v]?.getD []).length else 0) = (l.map fun (k : Nat) => if ((k : Int) ∈ all) then 0 else ((predsF f.blocks)[k]?.getD []).length).sum := by
  intro l
  induction l with
  | nil => intro _; rfl
  | cons a l ih =>
   intro hnd
   obtain ⟨h1, h2⟩ := Yaf.1 hnd
   have ih := ih h2
   rw [Yaa, Yaa, Yan, Yan]
   by_cases hav : a = v
   ·subst hav
    rw [if_neg h1] at ih
    rw [if_pos (Yn _ (Ye.2 rfl)), if_neg hn, if_pos (Ya ..)]
    omega
   ·have hm : ((a : Int) ∈ all ++ [(v : Int)]) ↔ (a : Int) ∈ all := by
     rw [Yi, Ye]
     constructor
     ·rintro (h | h)
      ·exact h
      ·omega
     ·exact .inl
    have hvl : v ∈ a :: l ↔ v ∈ l := by
     rw [Yc]
     constructor
     ·rintro (h | h)
      ·exact absurd h.symm hav
      ·exact h
     ·exact .inr
    simp only [hm, hvl]
    omega
 have h := key (Yk f.blocks.length) List.nodup_range
 rw [if_pos (Yr.2 hv)] at h
 exact h
theorem inR_iff {f : SFunc} {k : Int} : inR f k = true ↔ ∃ v : Nat, k = v ∧ v ∈ orderF f.blocks := by
 unfold inR
 rw [Yv]
 constructor
 ·rintro ⟨x, hx, e⟩
  rw [of_decide_eq_true e]
  have hx2 := hx
  rw [reachL, Yao, ordZ, Yf] at hx2
  obtain ⟨v, hv, rfl⟩ := hx2
  exact ⟨v, rfl, hv⟩
 ·rintro ⟨v, rfl, hv⟩
  exact ⟨_, reach_mem.2 hv, decide_eq_true rfl⟩
theorem loopstep_w {f : SFunc} (ho : OrderOk f.blocks (orderF f.blocks)) {s : List Int × List Int} (hs : s.1 ≠ []) : loopW f (loopStep f s) + 1 = loopW f s := by
 obtain ⟨w, all⟩ := s
 obtain ⟨w0, k, rfl⟩ : ∃ w0 k, w = w0 ++ [k] := ⟨w.dropLast, w.getLast hs, (Ybj hs).symm⟩
 unfold loopStep loopW
 dsimp only
 rw [Yat]
 dsimp only
 rw [Yau, Yw, List.length_singleton]
 split
 ·rename_i h
  rw [Bool.and_eq_true, inR_iff] at h
  obtain ⟨⟨v, rfl, hv⟩, hn⟩ := h
  have hnm : (v : Int) ∉ all := fun hm => by
   have : (all.any fun x => decide ((v : Int) = x)) = true := Yv.2 ⟨_, hm, decide_eq_true rfl⟩
   rw [this] at hn
   cases hn
  have := loopC_add (f := f) (ho.lt v hv) hnm
  dsimp only
  rw [Ybr, Yw]
  omega
 ·dsimp only
  omega
inductive NatLoop (f : SFunc) (h : Nat) : Nat → Prop where
 | head : NatLoop f h h
 | latch {k : Nat} : k ∈ orderF f.blocks → Edge f.blocks k h → domsF f h k = true → NatLoop f h k
 | pred {x p : Nat} : NatLoop f h x → x ≠ h → p ∈ orderF f.blocks → Edge f.blocks p x → NatLoop f h p
structure LoopInv (f : SFunc) (h : Nat) (s : List Int × List Int) : Prop where
 sound : ∀ v ∈ s.2, ∃ n : Nat, v = n ∧ NatLoop f h n
 work : ∀ v ∈ s.1, ∃ n : Nat, v = n ∧ n < f.blocks.length ∧ (n ∈ orderF f.blocks → NatLoop f h n)
 head : (h : Int) ∈ s.2
 nodup : s.2.Nodup
 latch : ∀ k : Nat, k ∈ orderF f.blocks → Edge f.blocks k h → domsF f h k = true → (k : Int) ∈ s.2 ∨ (k : Int) ∈ s.1
 closed : ∀ x p : Nat, (x : Int) ∈ s.2 → x ≠ h → p ∈ orderF f.blocks → Edge f.blocks p x → (p : Int) ∈ s.2 ∨ (p : Int) ∈ s.1
theorem back_mem {f : SFunc} (hf : FuncOk f) {k : Int} {h : Nat} : k ∈ workF f h ↔ ∃ v : Nat, k = v ∧ v ∈ orderF f.blocks ∧ Edge f.blocks v h ∧ domsF f h v = true := by
 have ho := order_ok hf.pos hf.edges
 have hdz : ∀ {v : Nat}, v ∈ orderF f.blocks → ∀ a : Int, domsF f a v = overZ f a v := fun {v} hv a => by
  unfold domsF overZ
  rw [if_neg (by rw [(place_of ho hv).1]; omega)]
 unfold workF backsF
 rw [Yf]
 constructor
 ·rintro ⟨⟨a, b⟩, hx, rfl⟩
  obtain ⟨hx1, hx2⟩ := Yj.1 hx
  obtain ⟨y, hy, hx3⟩ := Yak.1 hx1
  obtain ⟨e, he, heq⟩ := Yf.1 hx3
  obtain ⟨he1, he2⟩ := Yj.1 he
  injection heq with e1 e2
  subst e1
  rw [reachL, Yao, ordZ, Yf] at hy
  obtain ⟨v, hv, rfl⟩ := hy
  have hbh : b = (h : Int) := by simpa using hx2
  rw [Ybr] at he1
  refine ⟨v, rfl, hv, ⟨e, he1, by omega⟩, ?_⟩
  rw [hdz hv, ← hbh, ← e2]
  exact he2
 ·rintro ⟨v, rfl, hv, ⟨e, he1, he2⟩, hd⟩
  have hvl := ho.lt v hv
  obtain ⟨bl, hbl⟩ := get_of_lt f.blocks v (by omega)
  have hem := he1
  rw [toAt_get hbl] at hem
  have hb1 := (hf.edges bl (Yh hbl) e hem).1
  have hbe : e.block = (h : Int) := by omega
  refine ⟨((v : Int), e.block), Yj.2 ⟨Yak.2 ⟨(v : Int), reach_mem.2 hv, Yf.2 ⟨e, Yj.2 ⟨by rw [Ybr]; exact he1, ?_⟩, rfl⟩⟩, by rw [hbe]; simp⟩, rfl⟩
  rw [hbe, ← hdz hv]
  exact hd
theorem loop_start {f : SFunc} (hf : FuncOk f) {h : Nat} (hh : h < f.blocks.length) : LoopInv f h (workF f h, [(h : Int)]) := by
 have ho := order_ok hf.pos hf.edges
 refine ⟨fun v hv => ?_, fun v hv => ?_, Ye.2 rfl, by simp, fun k hk he hd => .inr ((back_mem hf).2 ⟨k, rfl, hk, he, hd⟩), fun x p hx hne => ?_⟩
 ·rw [Ye.1 hv]; exact ⟨h, rfl, .head⟩
 ·obtain ⟨k, rfl, hk, he, hd⟩ := (back_mem hf).1 hv
  exact ⟨k, rfl, ho.lt k hk, fun _ => .latch hk he hd⟩
 ·have : x = h := by have := Ye.1 hx; omega
  exact absurd this hne
theorem loop_step {f : SFunc} (hf : FuncOk f) {h : Nat} {s : List Int × List Int} (inv : LoopInv f h s) (hs : s.1 ≠ []) : LoopInv f h (loopStep f s) := by
 have ho := order_ok hf.pos hf.edges
 obtain ⟨w, all⟩ := s
 obtain ⟨w0, k, rfl⟩ : ∃ w0 k, w = w0 ++ [k] := ⟨w.dropLast, w.getLast hs, (Ybj hs).symm⟩
 obtain ⟨i1, i2, i3, i4, i5, i6⟩ := inv
 dsimp only at i1 i2 i3 i4 i5 i6
 unfold loopStep
 dsimp only
 rw [Yat]
 dsimp only
 rw [Yau]
 obtain ⟨n, rfl, hn, hnl⟩ := i2 k (Yn _ (Ye.2 rfl))
 have split : ∀ {v : Int}, v ∈ w0 ++ [(n : Int)] → v = n ∨ v ∈ w0 := fun {v} hv => (Yi.1 hv).elim .inr fun h => .inl (Ye.1 h)
 split
 ·rename_i hc
  rw [Bool.and_eq_true, inR_iff] at hc
  obtain ⟨⟨v, hv, hvo⟩, hnot⟩ := hc
  have hvn : n = v := by omega
  subst hvn
  have hnm : (n : Int) ∉ all := fun hm => by
   have : (all.any fun x => decide ((n : Int) = x)) = true := Yv.2 ⟨_, hm, decide_eq_true rfl⟩
   rw [this] at hnot
   cases hnot
  have hnh : n ≠ h := fun e => hnm (by rw [e]; exact i3)
  rw [Ybr]
  have hpm : ∀ y : Int, y ∈ ((predsF f.blocks)[n]?.getD []) ↔ ∃ p : Nat, y = p ∧ Edge f.blocks p n := fun y => preds_mem hf.edges
  refine ⟨fun v hv => ?_, fun v hv => ?_, Yq _ i3, ?_, fun k hk he hd => ?_, fun x p hx hne hp he => ?_⟩
  ·rcases Yi.1 hv with hv | hv
   ·exact i1 v hv
   ·rw [Ye.1 hv]; exact ⟨n, rfl, hnl hvo⟩
  ·rcases Yi.1 hv with hv | hv
   ·exact i2 v (Yq _ hv)
   ·obtain ⟨p, rfl, he⟩ := (hpm v).1 hv
    refine ⟨p, rfl, ?_, fun hp => .pred (hnl hvo) hnh hp he⟩
    obtain ⟨x, hx, _⟩ := he
    refine Classical.byContradiction fun hge => ?_
    unfold toAt at hx
    rw [Yal (by omega)] at hx
    cases hx
  ·refine Yab.2 ⟨i4, by simp, fun a ha b hb => ?_⟩
   rw [Ye.1 hb]
   exact fun e => hnm (e ▸ ha)
  ·rcases i5 k hk he hd with h1 | h1
   ·exact .inl (Yq _ h1)
   ·rcases split h1 with h1 | h1
    ·exact .inl (Yn _ (Ye.2 h1))
    ·exact .inr (Yq _ h1)
  ·rcases Yi.1 hx with hx | hx
   ·rcases i6 x p hx hne hp he with h1 | h1
    ·exact .inl (Yq _ h1)
    ·rcases split h1 with h1 | h1
     ·exact .inl (Yn _ (Ye.2 h1))
     ·exact .inr (Yq _ h1)
   ·have hxn : x = n := by have := Ye.1 hx; omega
    subst hxn
    exact .inr (Yn _ ((hpm p).2 ⟨p, rfl, he⟩))
 ·rename_i hc
  have hor : (n : Int) ∈ all ∨ n ∉ orderF f.blocks := by
   by_cases hm : (n : Int) ∈ all
   ·exact .inl hm
   ·refine .inr fun ho' => hc ?_
    rw [Bool.and_eq_true, inR_iff, Bool.not_eq_true', ← Bool.not_eq_true, Yv]
    exact ⟨⟨n, rfl, ho'⟩, fun ⟨x, hx, e⟩ => hm (by rw [of_decide_eq_true e]; exact hx)⟩
  refine ⟨i1, fun v hv => i2 v (Yq _ hv), i3, i4, fun k hk he hd => ?_, fun x p hx hne hp he => ?_⟩
  ·rcases i5 k hk he hd with h1 | h1
   ·exact .inl h1
   ·rcases split h1 with h1 | h1
    ·have hkn : k = n := by omega
     subst hkn
     exact .inl (hor.resolve_right fun h => h hk)
    ·exact .inr h1
  ·rcases i6 x p hx hne hp he with h1 | h1
   ·exact .inl h1
   ·rcases split h1 with h1 | h1
    ·have hpn : p = n := by omega
     subst hpn
     exact .inl (hor.resolve_right fun h => h hp)
    ·exact .inr h1
theorem looprun_inv {f : SFunc} (hf : FuncOk f) {h : Nat} : ∀ (n : Nat) (s : List Int × List Int), LoopInv f h s → loopW f s ≤ n → LoopInv f h (loopRun f n s) ∧ (loopRun f n s).1 = []
 | 0, s, inv, hw => by
  have : s.1.length = 0 := by unfold loopW at hw; omega
  exact ⟨inv, Ybf.1 this⟩
 | n + 1, s, inv, hw => by
  rw [loopRun]
  by_cases h0 : s.1 = []
  ·rw [if_pos h0]
   exact ⟨inv, h0⟩
  ·rw [if_neg h0]
   have := loopstep_w (order_ok hf.pos hf.edges) h0
   exact looprun_inv hf n _ (loop_step hf inv h0) (by omega)
theorem body_mem {f : SFunc} (hf : FuncOk f) {h : Nat} (hh : h < f.blocks.length) : (bodyF f h).Nodup ∧ (∀ v ∈ bodyF f h, ∃ n : Nat, v = n ∧ NatLoop f h n) ∧ ∀ n : Nat, NatLoop f h n → (n : Int) ∈ bodyF f h := by
 obtain ⟨inv, h0⟩ := looprun_inv hf _ _ (loop_start hf hh) (Ybm _)
 change (loopRun f (loopW f (workF f h, [(h : Int)])) (workF f h, [(h : Int)])).1 = [] at h0
 have hb : bodyF f h = (loopRun f (loopW f (workF f h, [(h : Int)])) (workF f h, [(h : Int)])).2 := rfl
 rw [hb]
 refine ⟨inv.nodup, inv.sound, fun n hn => ?_⟩
 induction hn with
 | head => exact inv.head
 | latch hk he hd => exact (inv.latch _ hk he hd).resolve_right fun h1 => by rw [h0] at h1; cases h1
 | pred hx hne hp he ih => exact (inv.closed _ _ ih hne hp he).resolve_right fun h1 => by rw [h0] at h1; cases h1
theorem work_head {f : SFunc} (hf : FuncOk f) {h : Nat} (hw : workF f h ≠ []) : h ∈ orderF f.blocks ∧ ∃ k : Nat, k ∈ orderF f.blocks ∧ Edge f.blocks k h ∧ domsF f h k = true := by
 obtain ⟨x, hx⟩ := List.exists_mem_of_ne_nil _ hw
 obtain ⟨k, rfl, hk, he, hd⟩ := (back_mem hf).1 hx
 exact ⟨edge_mem (order_ok hf.pos hf.edges) hk he, k, hk, he, hd⟩
theorem nat_anc {f : SFunc} (hf : FuncOk f) {h n : Nat} (hh : h ∈ orderF f.blocks) (hn : NatLoop f h n) : n ∈ orderF f.blocks ∧ Anc (treeF f.blocks) n h := by
 have ho := order_ok hf.pos hf.edges
 have ht := tree_ok ho hf.edges
 induction hn with
 | head => exact ⟨hh, .refl _⟩
 | latch hk he hd => exact ⟨hk, (doms_anc ho ht hk).1 hd⟩
 | pred hx hne hp he ih =>
  obtain ⟨hb0, hxo, q, hq, hi, ha⟩ := idom_anc hf hp he
  refine ⟨hp, ?_⟩
  rcases ht.inv.tree.cases ho hq ih.2 with e | h1
  ·exact absurd e.symm hne
  ·exact ha.trans h1
theorem heads_mem {f : SFunc} {h : Int} : h ∈ headsF f ↔ ∃ k : Nat, h = k ∧ k < f.blocks.length ∧ workF f k ≠ [] := by
 unfold headsF
 rw [Yj, Yf]
 constructor
 ·rintro ⟨⟨k, hk, rfl⟩, hw⟩
  exact ⟨k, rfl, Yr.1 hk, fun e => by rw [e] at hw; simp at hw⟩
 ·rintro ⟨k, rfl, hk, hw⟩
  exact ⟨⟨k, Yr.2 hk, rfl⟩, by cases hw2 : workF f k with
   | nil => exact absurd hw2 hw
   | cons a l => rfl⟩
theorem heads_nodup (f : SFunc) : (headsF f).Nodup := by
 unfold headsF
 refine List.Pairwise.filter _ ?_
 rw [Yaj]
 exact List.nodup_range.imp fun hne e => hne (by omega)
theorem sort_mem {l : List Int} {x : Int} : x ∈ sortL l ↔ x ∈ l := Yao
theorem sort_nodup {l : List Int} (h : l.Nodup) : (sortL l).Nodup := (List.mergeSort_perm l _).nodup_iff.2 h
structure LoopOk (f : SFunc) (x : Int × List Int) : Prop where
 head : ∃ h : Nat, x.1 = h ∧ h ∈ orderF f.blocks ∧ h < f.blocks.length ∧ (∀ v ∈ x.2, ∃ n : Nat, v = n ∧ NatLoop f h n) ∧ (∀ n : Nat, NatLoop f h n → (n : Int) ∈ x.2) ∧ ∃ k : Nat, k ∈ orderF f.blocks ∧ Edge f.blocks k h ∧ domsF f h k = true
 nodup : x.2.Nodup
theorem find_ok {f : SFunc} (hf : FuncOk f) : ∀ x ∈ findF f, LoopOk f x := fun x hx => by
 obtain ⟨h, hh, rfl⟩ := Yf.1 hx
 obtain ⟨k, rfl, hk, hw⟩ := heads_mem.1 hh
 obtain ⟨b1, b2, b3⟩ := body_mem hf hk
 obtain ⟨ho, hl⟩ := work_head hf hw
 exact ⟨⟨k, rfl, ho, hk, fun v hv => b2 v (sort_mem.1 hv), fun n hn => sort_mem.2 (b3 n hn), hl⟩, sort_nodup b1⟩
theorem flat_le {α β : Type} {g : α → List β} {c : Nat} : ∀ {l : List α}, (∀ x ∈ l, (g x).length ≤ c) → (l.flatMap g).length ≤ l.length * c
 | [], _ => by simp
 | x :: l, h => by
  rw [Ybe, Yw, Yl, Nat.succ_mul]
  have h1 := h x (Ya ..)
  have h2 := flat_le fun y hy => h y (Yb _ hy)
  omega
theorem toAt_le {f : SFunc} (hf : FuncOk f) (k : Nat) : (toAt f.blocks k).length ≤ 257 := by
 cases hb : f.blocks[k]? with
 | none => rw [toAt, hb]; exact Ybp _
 | some b => rw [toAt_get hb]; exact term_edges hf (Yh hb)
theorem backs_small {f : SFunc} (hf : FuncOk f) : (backsF f).length ≤ 32896 := by
 have ho := order_ok hf.pos hf.edges
 have h1 := nodup_lt ho.nodup ho.lt
 have h2 := reach_len f
 have h3 := hf.len
 have h4 : (backsF f).length ≤ (reachL f).length * 257 := flat_le fun k _ => by
  rw [Yo]
  exact Ybq (Yag ..) (toAt_le hf _)
 have h5 : (reachL f).length * 257 ≤ 128 * 257 := Nat.mul_le_mul_right _ (by omega)
 omega
theorem work_le (f : SFunc) (h : Int) : (workF f h).length ≤ (backsF f).length := by
 unfold workF
 rw [Yo]
 exact Yag ..
theorem work_cons {e : Int × Int} {l : List (Int × Int)} {h : Int} : ((e :: l).filter fun x => x.2 == h).map (·.1) = (if e.2 = h then [e.1] else []) ++ (l.filter fun x => x.2 == h).map (·.1) := by
 rw [Yav]
 by_cases h1 : e.2 = h
 ·rw [if_pos h1, if_pos (by rw [h1]; simp)]
  rfl
 ·rw [if_neg h1, if_neg (by simpa using h1)]
  rfl
theorem range_total (P : List (List Int)) : ((Yk P.length).map fun k => (P[k]?.getD []).length).sum = total P := by
 have h : (Yk P.length).map (fun k => (P[k]?.getD []).length) = P.map Yar := by
  apply List.ext_getElem
  ·simp
  ·intro i h1 h2
   have h3 : i < P.length := by simpa using h2
   simp [Yz h3]
 rw [h]
 rfl
theorem loopC_small {f : SFunc} (hf : FuncOk f) (all : List Int) : loopC f all ≤ 32896 := by
 have h1 := edges_small hf
 have h2 := preds_total hf.edges
 have h3 := range_total (predsF f.blocks)
 rw [predsF_len] at h3
 have h4 : loopC f all ≤ ((Yk f.blocks.length).map fun k => ((predsF f.blocks)[k]?.getD []).length).sum := by
  unfold loopC
  generalize Yk f.blocks.length = l
  induction l with
  | nil => exact Ybm _
  | cons a l ih =>
   rw [Yaa, Yaa, Yan, Yan]
   split <;> omega
 omega
def hdr (f : SFunc) (k : Nat) : List (Int × List Int) := ((((Yk f.blocks.length).map fun (k : Nat) => (k : Int)).drop k).filter fun h => !(workF f h).isEmpty).map fun h => (h, sortL (bodyF f h))
theorem hdr_end {f : SFunc} : hdr f f.blocks.length = [] := by
 unfold hdr
 rw [List.drop_of_length_le (by simp)]
 rfl
theorem hdr_step {f : SFunc} {k : Nat} (hk : k < f.blocks.length) : hdr f k = (if workF f k = [] then [] else [((k : Int), sortL (bodyF f k))]) ++ hdr f (k + 1) := by
 have hx : ((Yk f.blocks.length).map fun (k : Nat) => (k : Int))[k]? = some (k : Int) := by simp [hk]
 unfold hdr
 rw [drop_cons hx, Yav]
 by_cases h : workF f k = []
 ·rw [if_pos h, if_neg (by rw [h]; simp)]
  rfl
 ·rw [if_neg h, if_pos (by cases hw : workF f k with
   | nil => exact absurd hw h
   | cons a l => rfl)]
  rfl
def bodyR (f : SFunc) (s : List Int × List Int) : List Int := (loopRun f (loopW f s) s).2
theorem body_eq (f : SFunc) (h : Int) : bodyR f (workF f h, [h]) = bodyF f h := rfl
theorem bodyR_end {f : SFunc} (sa : List Int) : bodyR f ([], sa) = sa := by
 unfold bodyR
 cases loopW f ([], sa) with
 | zero => rfl
 | succ n => rw [loopRun, if_pos rfl]
theorem lstep {f : SFunc} (hf : FuncOk f) {h : Nat} {s s' : List Int × List Int} (inv : LoopInv f h s) (hs : s.1 ≠ []) (e : loopStep f s = s') : LoopInv f h s' ∧ loopW f s' + 1 = loopW f s ∧ bodyR f s' = bodyR f s := by
 subst e
 have hw := loopstep_w (order_ok hf.pos hf.edges) hs
 refine ⟨loop_step hf inv hs, hw, ?_⟩
 unfold bodyR
 rw [← hw, loopRun, if_neg hs]
theorem lstep_T {f : SFunc} {w : List Int} {n : Nat} {all : List Int} (h1 : inR f n = true) (h2 : (all.any fun x => decide ((n : Int) = x)) = false) : loopStep f (w ++ [(n : Int)], all) = (w ++ ((predsF f.blocks)[n]?.getD []), all ++ [(n : Int)]) := by
 unfold loopStep
 dsimp only
 rw [Yat]
 dsimp only
 rw [h1, h2, Yau, Ybr]
 rfl
theorem lstep_F {f : SFunc} {w : List Int} {n : Nat} {all : List Int} (h : inR f n = false ∨ (all.any fun x => decide ((n : Int) = x)) = true) : loopStep f (w ++ [(n : Int)], all) = (w, all) := by
 unfold loopStep
 dsimp only
 rw [Yat]
 dsimp only
 rw [Yau, if_neg]
 rintro h2
 rw [Bool.and_eq_true] at h2
 rcases h with h | h
 ·rw [h2.1] at h; cases h
 ·rw [h] at h2; exact absurd h2.2 (by decide)
theorem has_inR (f : SFunc) (k : Int) : (reachL f).contains k = inR f k := by
 unfold inR
 rw [Bool.eq_iff_iff, List.contains_iff_mem, Yv]
 constructor
 ·intro h; exact ⟨_, h, decide_eq_true rfl⟩
 ·rintro ⟨x, hx, e⟩; rw [of_decide_eq_true e]; exact hx
theorem reach_sorted (f : SFunc) : (reachL f).Pairwise (· ≤ ·) := by
 have h := List.pairwise_mergeSort (le := fun (x y : Int) => decide (x ≤ y)) (fun a b c h1 h2 => by simp at h1 h2 ⊢; omega) (fun a b => by simp; omega) (ordZ f.blocks)
 exact h.imp fun h => of_decide_eq_true h
theorem reach_ne {f : SFunc} (hf : FuncOk f) : reachL f ≠ [] := by
 have h := reach_mem.2 (zero_mem (order_ok hf.pos hf.edges))
 exact List.ne_nil_of_mem h
theorem all_len {f : SFunc} (hf : FuncOk f) {h : Nat} (hh : h ∈ orderF f.blocks) {s : List Int × List Int} (inv : LoopInv f h s) : s.2.length ≤ 128 := by
 have ho := order_ok hf.pos hf.edges
 have h3 := hf.len
 have h1 := nodup_lt (l := s.2.map Int.toNat) (n := f.blocks.length) ?_ fun v hv => by
  obtain ⟨x, hx, rfl⟩ := Yf.1 hv
  obtain ⟨n, rfl, hn⟩ := inv.sound x hx
  rw [Ybr]
  exact ho.lt n (nat_anc hf hh hn).1
 ·rw [Yo] at h1; omega
 ·rw [List.Nodup, Yaj]
  refine List.Pairwise.imp_of_mem (fun {a c} ha hc hne e => hne ?_) inv.nodup
  obtain ⟨n, rfl, _⟩ := inv.sound a ha
  obtain ⟨m, rfl, _⟩ := inv.sound c hc
  omega
theorem find_len (f : SFunc) : (findF f).length ≤ f.blocks.length := by
 unfold findF headsF
 rw [Yo]
 refine Ybq (Yag ..) ?_
 simp
end Go.SM
end
section
namespace Go.SM
open Go.VL
theorem way_mem {bs : List SBlock} {l : List Nat} {v : Nat} (hw : Way bs l v) : ∀ y ∈ l, ∃ l', Way bs l' y ∧ l'.length < l.length ∧ ∀ z ∈ l', z ∈ l := by
 induction hw with
 | start => exact fun y hy => by cases hy
 | @step l p k hw he ih =>
  intro y hy
  rcases Yc.1 hy with rfl | hy
  ·exact ⟨l, hw, by simp, fun z hz => Yb _ hz⟩
  ·obtain ⟨l', h1, h2, h3⟩ := ih y hy
   exact ⟨l', h1, by simp; omega, fun z hz => Yb _ (h3 z hz)⟩
theorem way_first {bs : List SBlock} {v : Nat} : ∀ (n : Nat) (l : List Nat), l.length ≤ n → Way bs l v → ∃ l', Way bs l' v ∧ v ∉ l'
 | 0, l, hn, hw => ⟨l, hw, fun h => by rw [Ybf.1 (by omega : l.length = 0)] at h; cases h⟩
 | n + 1, l, hn, hw => by
  by_cases h : v ∈ l
  ·obtain ⟨l', h1, h2, _⟩ := way_mem hw v h
   exact way_first n l' (by omega) h1
  ·exact ⟨l, hw, h⟩
section
variable {bs gs : List SBlock} {E : Cut} (h : SplitOk bs gs E) (hE : ∀ b ∈ bs, ∀ e ∈ b.term.to, 1 ≤ e.block ∧ e.block < bs.length)
include h hE
end
end Go.SM
end
section
namespace Go.SM
open Go.VL
def setsF (o : List Bool) (l : List Int) : List Bool := l.foldl (fun s a => s.set a.toNat true) o
def backI : List SIns → List Bool → List Bool
 | [], s => s
 | i :: l, s => backI l (setsF (s.set i.to.toNat false) i.args)
def backF (b : SBlock) (s : List Bool) : List Bool := backI b.ins.reverse s
def edgeV1 (ps : List Int) : Nat → List Bool → List Bool → List Bool
 | _, [], o => o
 | v, is :: l, o => edgeV1 ps (v + 1) l (if (is && !(ps.any fun x => decide ((v : Int) = x))) = true then o.set v true else o)
abbrev Sets := List (Option (List Bool))
def setAt (s : Sets) (k : Nat) : List Bool := (s[k]?.getD none).getD []
def edgesV (bs : List SBlock) (first : Sets) : List SEdge → List Bool → List Bool
 | [], o => o
 | e :: l, o => edgesV bs first l (edgeV1 (paramsOf bs e.block) 0 (setAt first e.block.toNat) o)
def argsV : List SEdge → List Bool → List Bool
 | [], o => o
 | e :: l, o => argsV l (setsF o e.args)
def termV1 (t : STerm) (o : List Bool) : List Bool := if t.kind ≠ 1 ∧ t.kind ≠ 4 then o.set t.arg.toNat true else o
def lastF (bs : List SBlock) (many : Nat) (t : STerm) (first : Sets) : List Bool := argsV t.to (termV1 t (edgesV bs first t.to (Yg many false)))
structure LState where
 behind : Sets
 first : Sets
 again : Bool
def Mem1 (s : List Bool) (v : Nat) : Prop := s[v]? = some true
def TermUse (t : STerm) (v : Nat) : Prop := (t.kind ≠ 1 ∧ t.kind ≠ 4) ∧ t.arg.toNat = v ∨ ∃ e ∈ t.to, ∃ a ∈ e.args, a.toNat = v
def Exp (l : List SIns) (v : Nat) : Prop := ∃ (j : Nat) (i : SIns), l[j]? = some i ∧ (∃ a ∈ i.args, a.toNat = v) ∧ ∀ (j' : Nat) (x : SIns), j' < j → l[j']? = some x → x.to.toNat ≠ v
theorem Exp.append {l : List SIns} {v : Nat} (h : Exp l v) (m : List SIns) : Exp (l ++ m) v := by
 obtain ⟨j, i, h1, h2, h3⟩ := h
 have hj := (Yd.1 h1).1
 exact ⟨j, i, by rw [Yah hj]; exact h1, h2, fun j' x hlt hx => h3 j' x hlt (by rwa [Yah (by omega)] at hx)⟩
inductive LiveIn (bs : List SBlock) (v : Nat) : Nat → Prop where
 | use {k : Nat} {b : SBlock} : bs[k]? = some b → Exp b.ins v → LiveIn bs v k
 | term {k : Nat} {b : SBlock} : bs[k]? = some b → (∀ x ∈ b.ins, x.to.toNat ≠ v) → TermUse b.term v → LiveIn bs v k
 | pass {k : Nat} {b : SBlock} {e : SEdge} : bs[k]? = some b → (∀ x ∈ b.ins, x.to.toNat ≠ v) → e ∈ b.term.to → (v : Int) ∉ paramsOf bs e.block → LiveIn bs v e.block.toNat → LiveIn bs v k
end Go.SM
end
section
namespace Go.SM
open Go.VL
def Sub1 (s t : List Bool) : Prop := ∀ v, Mem1 s v → Mem1 t v
structure LiveOk (bs : List SBlock) (many : Nat) (s : LState) : Prop where
 blen : s.behind.length = bs.length
 flen : s.first.length = bs.length
 emp : ∀ (k : Nat), s.behind[k]? = some none → s.first[k]? = some none
 full : ∀ (k : Nat) (l : List Bool), s.behind[k]? = some (some l) → l.length = many ∧ ∃ b, bs[k]? = some b ∧ s.first[k]? = some (some (backF b l)) ∧ Sub1 l (lastF bs many b.term s.first)
 live : ∀ (k v : Nat), Mem1 (setAt s.first k) v → LiveIn bs v k
end Go.SM
end
section
namespace Go.SM
open Go.VL
def valuesL (bs : List SBlock) : List Int := bs.flatMap fun b => b.params ++ b.ins.map (·.to)
def freshF (bs : List SBlock) : Int := (valuesL bs).foldl (fun n v => max n (v + 1)) 0
theorem fold_fresh : ∀ (l : List Int) (n : Int), n ≤ l.foldl (fun n v => max n (v + 1)) n ∧ ∀ v ∈ l, v < l.foldl (fun n v => max n (v + 1)) n
 | [], n => ⟨Int.le_refl _, fun v hv => by cases hv⟩
 | a :: l, n => by
  obtain ⟨h1, h2⟩ := fold_fresh l (max n (a + 1))
  rw [Yad]
  refine ⟨by omega, fun v hv => ?_⟩
  rcases Yc.1 hv with rfl | hv
  ·omega
  ·exact h2 v hv
theorem fold_le {m : Int} : ∀ (l : List Int) (n : Int), n ≤ m → (∀ v ∈ l, v < m) → l.foldl (fun n v => max n (v + 1)) n ≤ m
 | [], n, hn, _ => hn
 | a :: l, n, hn, h => by
  have := h a (Ya ..)
  exact fold_le l _ (by show max n (a + 1) ≤ m; omega) fun v hv => h v (Yb _ hv)
theorem values_keys {f : SFunc} (h : FuncOk f) : ∀ v ∈ valuesL f.blocks, 0 ≤ v ∧ v ≤ 4095 := fun v hv => h.keys.range v (by rw [dkeys_defsL]; exact hv)
theorem fresh_ok {f : SFunc} (h : FuncOk f) : 0 ≤ freshF f.blocks ∧ freshF f.blocks ≤ 4096 ∧ ∀ v ∈ valuesL f.blocks, v < freshF f.blocks := by
 obtain ⟨h1, h2⟩ := fold_fresh (valuesL f.blocks) 0
 exact ⟨h1, fold_le _ 0 (by decide) fun v hv => by have := values_keys h v hv; omega, h2⟩
def listF : Nat → List Bool → List Int
 | _, [] => []
 | v, b :: l => if b = true then (v : Int) :: listF (v + 1) l else listF (v + 1) l
theorem list_len : ∀ (l : List Bool) (w : Nat), (listF w l).length ≤ l.length
 | [], w => Ybm _
 | b :: l, w => by
  rw [listF]
  have := list_len l (w + 1)
  split <;> simp <;> omega
end Go.SM
end
section
namespace Go.SM
open Go.VL
abbrev Loop := Int × List Int
def isOut (x : Loop) (k : Nat) (e : SEdge) : Bool := decide (e.block = x.1) && !(x.2.any fun y => decide ((k : Int) = y))
def redT (L : List Loop) (k : Nat) (e : SEdge) : Option Nat := L.findIdx? fun x => isOut x k e
def redE (L : List Loop) (n k : Nat) (e : SEdge) : SEdge := match redT L k e with
 | some m => ⟨((n + m : Nat) : Int), e.args⟩
 | none => e
def redB (L : List Loop) (n k : Nat) (b : SBlock) : SBlock := setTo b (b.term.to.map (redE L n k))
def redL (L : List Loop) (n : Nat) : Nat → List SBlock → List SBlock
 | _, [] => []
 | k, b :: l => redB L n k b :: redL L n (k + 1) l
def newP (fr : Int) (n : Nat) : List Int := (Yk n).map fun i : Nat => fr + i
def parN (bs : List SBlock) (x : Loop) : Nat := (paramsOf bs x.1).length
def preB (fr : Int) (n : Nat) (h : Int) : SBlock := ⟨newP fr n, [], ⟨1, 0, 0, [], [⟨h, newP fr n⟩]⟩⟩
def newBs (bs : List SBlock) : Int → List Loop → List SBlock
 | _, [] => []
 | fr, x :: l => preB fr (parN bs x) x.1 :: newBs bs (fr + (parN bs x : Nat)) l
def frAt (bs : List SBlock) : Int → List Loop → Int
 | fr, [] => fr
 | fr, x :: l => frAt bs (fr + (parN bs x : Nat)) l
def preG (f : SFunc) (L : List Loop) : SFunc := ⟨f.name, redL L f.blocks.length 0 f.blocks ++ newBs f.blocks (freshF f.blocks) L⟩
theorem redL_len (L : List Loop) (n : Nat) : ∀ (l : List SBlock) (k : Nat), (redL L n k l).length = l.length
 | [], k => rfl
 | b :: l, k => by rw [redL, Yl, Yl, redL_len L n l]
theorem redL_get (L : List Loop) (n : Nat) : ∀ (l : List SBlock) (k i : Nat), (redL L n k l)[i]? = (l[i]?).map (redB L n (k + i))
 | [], k, i => by simp [redL]
 | b :: l, k, 0 => rfl
 | b :: l, k, i + 1 => by
  rw [redL, Ybg, Ybg, redL_get L n l, show k + 1 + i = k + (i + 1) by omega]
theorem newBs_len (bs : List SBlock) : ∀ (L : List Loop) (fr : Int), (newBs bs fr L).length = L.length
 | [], fr => rfl
 | x :: l, fr => by rw [newBs, Yl, Yl, newBs_len bs l]
theorem newBs_get (bs : List SBlock) : ∀ (L : List Loop) (fr : Int) (m : Nat) (x : Loop), L[m]? = some x → (newBs bs fr L)[m]? = some (preB (frAt bs fr (L.take m)) (parN bs x) x.1)
 | [], fr, m, x, h => by simp at h
 | y :: l, fr, 0, x, h => by
  have h : y = x := by simpa using h
  subst h
  rfl
 | y :: l, fr, m + 1, x, h => by
  have h : l[m]? = some x := by simpa using h
  rw [newBs, Ybg, List.take_succ_cons, frAt]
  exact newBs_get bs l _ m x h
theorem frAt_app (bs : List SBlock) : ∀ (L M : List Loop) (fr : Int), frAt bs fr (L ++ M) = frAt bs (frAt bs fr L) M
 | [], M, fr => rfl
 | x :: l, M, fr => by rw [Yt, frAt, frAt, frAt_app bs l]
theorem frAt_le (bs : List SBlock) : ∀ (L : List Loop) (fr : Int), fr ≤ frAt bs fr L
 | [], fr => Int.le_refl _
 | x :: l, fr => by
  have := frAt_le bs l (fr + (parN bs x : Nat))
  rw [frAt]
  omega
theorem red_some {L : List Loop} {k m : Nat} {e : SEdge} (h : redT L k e = some m) : ∃ x, L[m]? = some x ∧ isOut x k e = true := by
 unfold redT at h
 rw [List.findIdx?_eq_some_iff_getElem] at h
 obtain ⟨h1, h2, _⟩ := h
 exact ⟨L[m], Yz h1, h2⟩
theorem out_iff {x : Loop} {k : Nat} {e : SEdge} : isOut x k e = true ↔ e.block = x.1 ∧ (k : Int) ∉ x.2 := by
 unfold isOut
 rw [Bool.and_eq_true, decide_eq_true_eq, Bool.not_eq_true', ← Bool.not_eq_true, Yv]
 constructor
 ·rintro ⟨h1, h2⟩
  exact ⟨h1, fun hm => h2 ⟨_, hm, decide_eq_true rfl⟩⟩
 ·rintro ⟨h1, h2⟩
  refine ⟨h1, fun ⟨y, hy, e⟩ => h2 ?_⟩
  have := of_decide_eq_true e
  rw [this]
  exact hy
structure PreOk (bs gs : List SBlock) (H : List Nat) (red : Nat → SEdge → Option Nat) : Prop where
 len : gs.length = bs.length + H.length
 old : ∀ (k : Nat) (b : SBlock), bs[k]? = some b → gs[k]? = some (setTo b (b.term.to.map fun e => match red k e with
  | some m => ⟨((bs.length + m : Nat) : Int), e.args⟩
  | none => e))
 red : ∀ (k : Nat) (b : SBlock) (e : SEdge) (m : Nat), bs[k]? = some b → e ∈ b.term.to → red k e = some m → H[m]? = some e.block.toNat
 new : ∀ (m h : Nat), H[m]? = some h → ∃ ps : List Int, gs[bs.length + m]? = some ⟨ps, [], ⟨1, 0, 0, [], [⟨(h : Int), ps⟩]⟩⟩ ∧ ps.length = (paramsOf bs h).length
 hlt : ∀ (m h : Nat), H[m]? = some h → 1 ≤ h ∧ h < bs.length
section
variable {bs gs : List SBlock} {H : List Nat} {red : Nat → SEdge → Option Nat} (h : PreOk bs gs H red) (hE : ∀ b ∈ bs, ∀ e ∈ b.term.to, 1 ≤ e.block ∧ e.block < bs.length)
include h
theorem pre_to {k : Nat} {b : SBlock} (hb : bs[k]? = some b) : toAt gs k = b.term.to.map fun e => match red k e with
  | some m => ⟨((bs.length + m : Nat) : Int), e.args⟩
  | none => e := by
 rw [toAt_get (h.old k b hb)]
 rfl
theorem pre_toN {m hd : Nat} (hm : H[m]? = some hd) : ∃ ps, toAt gs (bs.length + m) = [⟨(hd : Int), ps⟩] := by
 obtain ⟨ps, h1, _⟩ := h.new m hd hm
 exact ⟨ps, toAt_get h1⟩
def Into (bs : List SBlock) (red : Nat → SEdge → Option Nat) (k m : Nat) : Prop := ∃ b e, bs[k]? = some b ∧ e ∈ b.term.to ∧ red k e = some m
def Stays (bs : List SBlock) (red : Nat → SEdge → Option Nat) (k v : Nat) : Prop := ∃ b e, bs[k]? = some b ∧ e ∈ b.term.to ∧ red k e = none ∧ e.block.toNat = v
omit h in
theorem stays_edge {k v : Nat} (hs : Stays bs red k v) : Edge bs k v := by
 obtain ⟨b, e, h1, h2, _, h4⟩ := hs
 exact ⟨e, by rw [toAt_get h1]; exact h2, h4⟩
theorem into_edge {k m : Nat} (hs : Into bs red k m) : ∃ hd, H[m]? = some hd ∧ Edge bs k hd := by
 obtain ⟨b, e, h1, h2, h3⟩ := hs
 exact ⟨_, h.red k b e m h1 h2 h3, e, by rw [toAt_get h1]; exact h2, rfl⟩
omit h in
theorem edge_cases {p v : Nat} (he : Edge bs p v) : Stays bs red p v ∨ ∃ b e m, bs[p]? = some b ∧ e ∈ b.term.to ∧ e.block.toNat = v ∧ red p e = some m := by
 obtain ⟨e, he, hev⟩ := he
 unfold toAt at he
 cases hb : bs[p]? with
 | none => rw [hb] at he; cases he
 | some b =>
  rw [hb] at he
  have he : e ∈ b.term.to := he
  cases hr : red p e with
  | none => exact .inl ⟨b, e, hb, he, hr, hev⟩
  | some m => exact .inr ⟨b, e, m, rfl, he, hev, hr⟩
theorem stays_g {p v : Nat} (hs : Stays bs red p v) : Edge gs p v := by
 obtain ⟨b, e, h1, h2, h3, h4⟩ := hs
 exact ⟨e, by rw [pre_to h h1]; exact Yf.2 ⟨e, h2, by rw [h3]⟩, h4⟩
theorem into_g {p m : Nat} (hs : Into bs red p m) : Edge gs p (bs.length + m) := by
 obtain ⟨b, e, h1, h2, h3⟩ := hs
 exact ⟨⟨((bs.length + m : Nat) : Int), e.args⟩, by rw [pre_to h h1]; exact Yf.2 ⟨e, h2, by rw [h3]⟩, by dsimp only; omega⟩
theorem new_g {m hd : Nat} (hm : H[m]? = some hd) : Edge gs (bs.length + m) hd := by
 obtain ⟨ps, h1⟩ := pre_toN h hm
 exact ⟨⟨(hd : Int), ps⟩, by rw [h1]; exact Ye.2 rfl, by dsimp only; omega⟩
include hE
theorem g_edge {p v : Nat} (he : Edge gs p v) : (p < bs.length ∧ v < bs.length ∧ Stays bs red p v) ∨ (∃ m, p < bs.length ∧ v = bs.length + m ∧ m < H.length ∧ Into bs red p m) ∨ ∃ m, p = bs.length + m ∧ H[m]? = some v := by
 obtain ⟨e, he, hev⟩ := he
 have hpl : p < gs.length := Classical.byContradiction fun hn => by
  rw [toAt, Yal (by omega)] at he
  cases he
 have hlen := h.len
 by_cases hp : p < bs.length
 ·obtain ⟨b, hb⟩ := get_of_lt bs p (by omega)
  rw [pre_to h hb] at he
  obtain ⟨x, hx, hxe⟩ := Yf.1 he
  have hxl := hE b (Yh hb) x hx
  cases hr : red p x with
  | none =>
   rw [hr] at hxe
   have hxe : x = e := hxe
   subst hxe
   exact .inl ⟨hp, by omega, b, x, hb, hx, hr, hev⟩
  | some m =>
   rw [hr] at hxe
   have hxe : (⟨((bs.length + m : Nat) : Int), x.args⟩ : SEdge) = e := hxe
   rw [← hxe] at hev
   dsimp only at hev
   have hm := (Yd.1 (h.red p b x m hb hx hr)).1
   exact .inr (.inl ⟨m, hp, by omega, hm, b, x, hb, hx, hr⟩)
 ·obtain ⟨hd, hm⟩ := get_of_lt H (p - bs.length) (by omega)
  obtain ⟨ps, h1⟩ := pre_toN h hm
  rw [show bs.length + (p - bs.length) = p by omega] at h1
  rw [h1] at he
  have he : e = ⟨(hd : Int), ps⟩ := Ye.1 he
  subst he
  dsimp only at hev
  refine .inr (.inr ⟨p - bs.length, by omega, ?_⟩)
  rw [hm]
  congr 1
theorem way_pre {l : List Nat} {v : Nat} (hw : Way bs l v) : ∃ l', Way gs l' v ∧ ∀ y ∈ l', y < bs.length → y ∈ l := by
 induction hw with
 | start => exact ⟨[], .start, fun y hy => by cases hy⟩
 | @step l p k _ he ih =>
  obtain ⟨l', h1, h2⟩ := ih
  rcases edge_cases (red := red) he with hs | ⟨b, e, m, e1, e2, e3, e4⟩
  ·refine ⟨p :: l', .step h1 (stays_g h hs), fun y hy hyl => ?_⟩
   rcases Yc.1 hy with rfl | hy
   ·exact Ya ..
   ·exact Yb _ (h2 y hy hyl)
  ·have hm := h.red p b e m e1 e2 e4
   rw [e3] at hm
   refine ⟨(bs.length + m) :: p :: l', .step (.step h1 (into_g h ⟨b, e, e1, e2, e4⟩)) (new_g h hm), fun y hy hyl => ?_⟩
   rcases Yc.1 hy with rfl | hy
   ·omega
   ·rcases Yc.1 hy with rfl | hy
    ·exact Ya ..
    ·exact Yb _ (h2 y hy hyl)
theorem pre_way (h0 : 0 < bs.length) {l : List Nat} {v : Nat} (hw : Way gs l v) : (v < bs.length → ∃ l0, Way bs l0 v ∧ ∀ y ∈ l0, y ∈ l) ∧
  ∀ m, v = bs.length + m → m < H.length → ∃ k l0, k ∈ l ∧ k < bs.length ∧ Into bs red k m ∧ Way bs l0 k ∧ (∀ y ∈ l0, y ∈ l) ∧ ∃ l1, Way gs l1 k ∧ ∀ y ∈ l1, y ∈ l := by
 induction hw with
 | start => exact ⟨fun _ => ⟨[], .start, fun y hy => by cases hy⟩, fun m hv _ => by omega⟩
 | @step l p v hw he ih =>
  obtain ⟨ih1, ih2⟩ := ih
  rcases g_edge h hE he with ⟨g1, g2, g3⟩ | ⟨m, g1, g2, g3, g4⟩ | ⟨m, g1, g2⟩
  ·obtain ⟨l0, w0, s0⟩ := ih1 g1
   refine ⟨fun _ => ⟨p :: l0, .step w0 (stays_edge g3), fun y hy => ?_⟩, fun m hv _ => by omega⟩
   rcases Yc.1 hy with rfl | hy
   ·exact Ya ..
   ·exact Yb _ (s0 y hy)
  ·obtain ⟨l0, w0, s0⟩ := ih1 g1
   refine ⟨fun _ => by omega, fun m2 hv _ => ?_⟩
   have : m2 = m := by omega
   subst this
   exact ⟨p, l0, Ya .., g1, g4, w0, fun y hy => Yb _ (s0 y hy), l, hw, fun y hy => Yb _ hy⟩
  ·have hml := (Yd.1 g2).1
   obtain ⟨k, l0, i1, i2, i3, i4, i5, _⟩ := ih2 m g1 hml
   obtain ⟨hd, i6, i7⟩ := into_edge h i3
   rw [g2] at i6
   injection i6 with i6
   subst i6
   refine ⟨fun _ => ⟨k :: l0, .step i4 i7, fun y hy => ?_⟩, fun m2 hv _ => by have := (h.hlt m v g2).2; omega⟩
   rcases Yc.1 hy with rfl | hy
   ·exact Yb _ i1
   ·exact Yb _ (i5 y hy)
theorem pre_reach (h0 : 0 < bs.length) {v : Nat} (hv : v < bs.length) : (∃ l, Way gs l v) ↔ ∃ l, Way bs l v :=
 ⟨fun ⟨l, hw⟩ => let ⟨l0, w0, _⟩ := (pre_way h hE h0 hw).1 hv; ⟨l0, w0⟩, fun ⟨l, hw⟩ => let ⟨l', w', _⟩ := way_pre h hE hw; ⟨l', w'⟩⟩
theorem pre_doms (h0 : 0 < bs.length) {a b : Nat} (ha : a < bs.length) (hb : b < bs.length) : Doms gs a b ↔ Doms bs a b := by
 constructor
 ·intro hd l hw
  obtain ⟨l', w', s'⟩ := way_pre h hE hw
  exact (hd l' w').imp id fun hm => s' a hm ha
 ·intro hd l hw
  obtain ⟨l0, w0, s0⟩ := (pre_way h hE h0 hw).1 hb
  exact (hd l0 w0).imp id (s0 a)
theorem new_doms (h0 : 0 < bs.length) {m hd v : Nat} (hm : H[m]? = some hd) (hv : v < bs.length) (hd2 : Doms gs (bs.length + m) v) : Doms bs hd v := fun l hw => by
 obtain ⟨l', w', s'⟩ := way_pre h hE hw
 have key : ∀ {l : List Nat} {v : Nat}, Way gs l v → bs.length + m ∈ l → hd = v ∨ hd ∈ l := fun {l v} hw => by
  induction hw with
  | start => intro hm; cases hm
  | @step l p v hw he ih =>
   intro hmem
   by_cases hp : p = bs.length + m
   ·subst hp
    rcases g_edge h hE he with ⟨g1, _, _⟩ | ⟨_, g1, _, _, _⟩ | ⟨m2, g1, g2⟩
    ·omega
    ·omega
    ·have : m2 = m := by omega
     subst this
     rw [hm] at g2
     injection g2 with g2
     exact .inl g2
   ·rcases Yc.1 hmem with e1 | e1
    ·exact absurd e1.symm hp
    ·rcases ih e1 with e2 | e2
     ·exact .inr (e2 ▸ Ya ..)
     ·exact .inr (Yb _ e2)
 rcases hd2 l' w' with e1 | e1
 ·omega
 ·rcases key w' e1 with e2 | e2
  ·exact .inl e2
  ·exact .inr (s' hd e2 (h.hlt m hd hm).2)
end
end Go.SM
end
section
namespace Go.SM
open Go.VL
def hdN (L : List Loop) : List Nat := L.map fun x => x.1.toNat
structure LoopsOf (f : SFunc) (L : List Loop) : Prop where
 mem : ∀ x ∈ L, x ∈ findF f
 nodup : (L.map (·.1)).Nodup
theorem lo_head {f : SFunc} {L : List Loop} (hf : FuncOk f) (hL : LoopsOf f L) {m : Nat} {x : Loop} (hx : L[m]? = some x) : ∃ h : Nat, x.1 = h ∧ (hdN L)[m]? = some h ∧ 1 ≤ h ∧ h < f.blocks.length ∧ h ∈ orderF f.blocks ∧ (∀ n : Nat, (n : Int) ∈ x.2 ↔ NatLoop f h n) := by
 obtain ⟨⟨h, e1, o1, l1, s1, c1, k, hk, he, hd⟩, nx⟩ := find_ok hf x (hL.mem x (Yh hx))
 refine ⟨h, e1, ?_, ?_, l1, o1, fun n => ⟨fun hn => ?_, c1 n⟩⟩
 ·unfold hdN
  rw [Yp, hx]
  show some x.1.toNat = some h
  rw [e1, Ybr]
 ·obtain ⟨e, he, hev⟩ := he
  unfold toAt at he
  cases hb : f.blocks[k]? with
  | none => rw [hb] at he; cases he
  | some b =>
   rw [hb] at he
   have := hf.edges b (Yh hb) e he
   omega
 ·obtain ⟨n2, e2, h2⟩ := s1 n hn
  have : n = n2 := by omega
  subst this
  exact h2
theorem pre_is {f : SFunc} {L : List Loop} (hf : FuncOk f) (hL : LoopsOf f L) : PreOk f.blocks (preG f L).blocks (hdN L) (redT L) := by
 have hl : (hdN L).length = L.length := Yo ..
 refine ⟨?_, fun k b hb => ?_, fun k b e m hb he hr => ?_, fun m h hm => ?_, fun m h hm => ?_⟩
 ·show (redL L f.blocks.length 0 f.blocks ++ newBs f.blocks (freshF f.blocks) L).length = _
  rw [Yw, redL_len, newBs_len, hl]
 ·show (redL L f.blocks.length 0 f.blocks ++ newBs f.blocks (freshF f.blocks) L)[k]? = _
  rw [Yah (by rw [redL_len]; exact (Yd.1 hb).1), redL_get, hb, Ybn]
  rfl
 ·obtain ⟨x, hx, ho⟩ := red_some hr
  unfold hdN
  rw [Yp, hx]
  show some x.1.toNat = _
  rw [(out_iff.1 ho).1]
 ·have hml := (Yd.1 hm).1
  obtain ⟨x, hx⟩ := get_of_lt L m (by omega)
  obtain ⟨h2, e1, e2, _⟩ := lo_head hf hL hx
  rw [hm] at e2
  injection e2 with e2
  subst e2
  refine ⟨newP (frAt f.blocks (freshF f.blocks) (L.take m)) (parN f.blocks x), ?_, ?_⟩
  ·show (redL L f.blocks.length 0 f.blocks ++ newBs f.blocks (freshF f.blocks) L)[f.blocks.length + m]? = _
   rw [Yas (by rw [redL_len]; omega), redL_len, Nat.add_sub_cancel_left, newBs_get _ _ _ _ _ hx]
   unfold preB
   rw [e1]
  ·unfold newP parN
   rw [Yo, Yaw, e1]
 ·have hml := (Yd.1 hm).1
  obtain ⟨x, hx⟩ := get_of_lt L m (by omega)
  obtain ⟨h2, e1, e2, e3, e4, _⟩ := lo_head hf hL hx
  rw [hm] at e2
  injection e2 with e2
  subst e2
  exact ⟨e3, e4⟩
theorem newP_mem {fr : Int} {n : Nat} {x : Int} : x ∈ newP fr n ↔ fr ≤ x ∧ x < fr + n := by
 unfold newP
 rw [Yf]
 constructor
 ·rintro ⟨i, hi, rfl⟩
  have := Yr.1 hi
  omega
 ·rintro ⟨h1, h2⟩
  exact ⟨(x - fr).toNat, Yr.2 (by omega), by omega⟩
theorem newP_nodup (fr : Int) (n : Nat) : (newP fr n).Nodup := by
 unfold newP
 rw [List.Nodup, Yaj]
 exact List.nodup_range.imp fun hne e => hne (by omega)
theorem defs_redL (L : List Loop) (n : Nat) : ∀ (l : List SBlock) (k : Nat) (m : Int), defsL m (redL L n k l) = defsL m l
 | [], k, m => rfl
 | b :: l, k, m => by
  rw [redL, defsL, defsL, defs_redL L n l]
  rfl
theorem insN_redL (L : List Loop) (n : Nat) : ∀ (l : List SBlock) (k : Nat), insN (redL L n k l) = insN l
 | [], k => rfl
 | b :: l, k => by
  rw [redL, insN, insN, insN_redL L n l]
  rfl
theorem insN_newBs (bs : List SBlock) : ∀ (L : List Loop) (fr : Int), insN (newBs bs fr L) = 0
 | [], fr => rfl
 | x :: l, fr => by rw [newBs, insN, insN_newBs bs l]; rfl
theorem keys_new (bs : List SBlock) : ∀ (L : List Loop) (fr k : Int), (keys (defsL k (newBs bs fr L))).Nodup ∧ ∀ x ∈ keys (defsL k (newBs bs fr L)), fr ≤ x ∧ x < frAt bs fr L
 | [], fr, k => ⟨List.nodup_nil, fun x hx => by cases hx⟩
 | y :: l, fr, k => by
  obtain ⟨h1, h2⟩ := keys_new bs l (fr + (parN bs y : Nat)) (k + 1)
  have e : keys (defsL k (newBs bs fr (y :: l))) = newP fr (parN bs y) ++ keys (defsL (k + 1) (newBs bs (fr + (parN bs y : Nat)) l)) := by
   rw [newBs, defsL]
   unfold keys
   rw [Ys]
   congr 1
   rw [defsB_eq, Yap]
   show (dB (preB fr (parN bs y) y.1)).map (fun e => e.1) = _
   unfold dB preB
   rw [Ys, Yap]
   show (newP fr (parN bs y)).map id ++ [] = _
   rw [List.map_id, Yax]
  rw [e, frAt]
  have h3 := frAt_le bs l (fr + (parN bs y : Nat))
  refine ⟨Yab.2 ⟨newP_nodup _ _, h1, fun a ha b hb e => ?_⟩, fun x hx => ?_⟩
  ·have := newP_mem.1 ha
   have := h2 b hb
   omega
  ·rcases Yi.1 hx with hx | hx
   ·have := newP_mem.1 hx
    omega
   ·have := h2 x hx
    omega
theorem dget_left {u : Int} {p : Int × Int} : ∀ {a : Defs} {b : Defs}, dget a u = some p → dget (a ++ b) u = some p
 | [], b, h => by cases h
 | (k, q) :: a, b, h => by
  rw [Yt, dget]
  rw [dget] at h
  split at h
  ·rename_i e
   rw [if_pos e]
   exact h
  ·rename_i e
   rw [if_neg e]
   exact dget_left h
theorem pre_ok {f : SFunc} {L : List Loop} (h0 : funcF f = 0) (hL : LoopsOf f L) (hl : (preG f L).blocks.length ≤ 128) (hn : frAt f.blocks (freshF f.blocks) L ≤ 4096) : funcF (preG f L) = 0 := by
 have hok := func_ok h0
 have hE := hok.edges
 have fi := func_iff.1 h0
 have h := pre_is hok hL
 obtain ⟨G, hG⟩ : ∃ G, G = (preG f L).blocks := ⟨_, rfl⟩
 rw [← hG] at h hl
 have hlen := h.len
 have hpos := hok.pos
 have hHl : (hdN L).length = L.length := Yo ..
 have hpar : ∀ v : Int, 0 ≤ v → v < f.blocks.length → paramsOf G v = paramsOf f.blocks v := fun v h1 h2 => by
  obtain ⟨b, hb⟩ := get_of_lt f.blocks v.toNat (by omega)
  rw [paramsOf_get (h.old _ b hb), paramsOf_get hb]
  rfl
 obtain ⟨DN, hDN⟩ : ∃ DN, DN = defsL (f.blocks.length : Nat) (newBs f.blocks (freshF f.blocks) L) := ⟨_, rfl⟩
 have hdefs : defsL 0 G = defsL 0 f.blocks ++ DN := by
  rw [hG, hDN]
  show defsL 0 (redL L f.blocks.length 0 f.blocks ++ newBs f.blocks (freshF f.blocks) L) = _
  rw [defsL_append, defs_redL, redL_len, Int.zero_add]
 have hnew := keys_new f.blocks L (freshF f.blocks) (f.blocks.length : Nat)
 rw [← hDN] at hnew
 have hold : ∀ x ∈ keys (defsL 0 f.blocks), x < freshF f.blocks := fun x hx => (fresh_ok hok).2.2 x (by
  have : keys (defsL 0 f.blocks) = valuesL f.blocks := dkeys_defsL ..
  rw [← this]
  exact hx)
 have hkok : KOk [] (defsL 0 G) := by
  rw [hdefs]
  have e : keys (defsL 0 f.blocks ++ DN) = keys (defsL 0 f.blocks) ++ keys DN := Ys
  refine ⟨fun x hx => ?_, ?_, mem_zero_key⟩
  ·rw [e] at hx
   rcases Yi.1 hx with hx | hx
   ·exact fi.kok.wi x hx
   ·have := hnew.2 x hx
    have := (fresh_ok hok).1
    exact wi_iff.2 ⟨by omega, by omega⟩
  ·rw [e]
   exact Yab.2 ⟨fi.kok.nodup, hnew.1, fun a ha b hb e2 => by
    have := hold a ha
    have := hnew.2 b hb
    omega⟩
 have hget : ∀ (i : Nat) (c : SBlock), G[i]? = some c → (∃ b, f.blocks[i]? = some b ∧ c = setTo b (b.term.to.map fun e => match redT L i e with
   | some m => ⟨((f.blocks.length + m : Nat) : Int), e.args⟩
   | none => e)) ∨ ∃ (m hd : Nat) (ps : List Int), i = f.blocks.length + m ∧ (hdN L)[m]? = some hd ∧ c = ⟨ps, [], ⟨1, 0, 0, [], [⟨(hd : Int), ps⟩]⟩⟩ ∧ ps.length = (paramsOf f.blocks hd).length := fun i c hc => by
  have hil := (Yd.1 hc).1
  by_cases hi : i < f.blocks.length
  ·obtain ⟨b, hb⟩ := get_of_lt f.blocks i (by omega)
   have := h.old i b hb
   rw [hc] at this
   injection this with this
   exact .inl ⟨b, hb, this⟩
  ·obtain ⟨hd, hm⟩ := get_of_lt (hdN L) (i - f.blocks.length) (by omega)
   obtain ⟨ps, g1, g2⟩ := h.new _ hd hm
   rw [show f.blocks.length + (i - f.blocks.length) = i by omega, hc] at g1
   injection g1 with g1
   exact .inr ⟨i - f.blocks.length, hd, ps, by omega, hm, g1, g2⟩
 have hnpar : ∀ (m hd : Nat), (hdN L)[m]? = some hd → (paramsOf G ((f.blocks.length + m : Nat) : Int)).length = (paramsOf f.blocks hd).length := fun m hd hm => by
  obtain ⟨ps, g1, g2⟩ := h.new m hd hm
  rw [paramsOf_get (k := ((f.blocks.length + m : Nat) : Int)) (by rw [Ybr]; exact g1)]
  exact g2
 have hed : ∀ (i : Nat) (b : SBlock), f.blocks[i]? = some b → ∀ e ∈ b.term.to, ∀ e' : SEdge, (match redT L i e with
   | some m => (⟨((f.blocks.length + m : Nat) : Int), e.args⟩ : SEdge)
   | none => e) = e' → 1 ≤ e'.block ∧ e'.block < G.length ∧ e'.args.length = (paramsOf G e'.block).length := fun i b hb e he e' he' => by
  obtain ⟨x1, x2, x3⟩ := (endF_ok (fi.block b (Yh hb)).2).edges e he
  cases hr : redT L i e with
  | none =>
   rw [hr] at he'
   have he' : e = e' := he'
   subst he'
   exact ⟨x1, by omega, by rw [hpar _ (by omega) x2]; exact x3⟩
  | some m =>
   rw [hr] at he'
   have he' : (⟨((f.blocks.length + m : Nat) : Int), e.args⟩ : SEdge) = e' := he'
   subst he'
   have hm := h.red i b e m hb he hr
   have hml := (Yd.1 hm).1
   refine ⟨by dsimp only; omega, by dsimp only; omega, ?_⟩
   dsimp only
   rw [hnpar m _ hm, x3, show ((e.block.toNat : Nat) : Int) = e.block by omega]
 have hblk : ∀ c ∈ G, blockOk G c := fun c hc => by
  obtain ⟨i, hi⟩ := Ybb hc
  rcases hget i c hi with ⟨b, hb, rfl⟩ | ⟨m, hd, ps, rfl, hm, rfl, hps⟩
  ·have hbm := Yh hb
   obtain ⟨b1, b2⟩ := fi.block b hbm
   refine ⟨b1, ?_⟩
   have he := endF_ok b2
   obtain ⟨to, hto⟩ : ∃ to, to = b.term.to.map fun e => match redT L i e with
    | some m => (⟨((f.blocks.length + m : Nat) : Int), e.args⟩ : SEdge)
    | none => e := ⟨_, rfl⟩
   rw [← hto]
   have htl : to.length = b.term.to.length := by rw [hto, Yo]
   unfold endF at b2 ⊢
   have hsh : shapeF (setTo b to).term = shapeF b.term := by
    unfold shapeF setTo
    simp only [htl]
   rw [hsh, if_neg (by rw [he.shape]; decide)]
   change (if 256 < (b.term.cases.length : Int) then 2 else if b.term.kind = 4 ∧ wi b.term.n 1 6 = false then 4 else if casesF [] b.term.cases ≠ 0 then casesF [] b.term.cases else edgesF G to) = 0
   rw [if_neg (by rw [he.shape]; decide)] at b2
   split at b2
   ·cases b2
   ·rename_i h2
    rw [if_neg h2]
    split at b2
    ·cases b2
    ·rename_i h3
     rw [if_neg h3, if_neg (fun hn => hn he.cases)]
     refine edgesF_iff fun e' he' => ?_
     rw [hto] at he'
     obtain ⟨e, he2, hee⟩ := Yf.1 he'
     exact hed i b hb e he2 e' hee
  ·obtain ⟨q1, q2⟩ := h.hlt m hd hm
   refine ⟨fun i hi => (by cases hi), ?_⟩
   have h2 : edgesF G [⟨(hd : Int), ps⟩] = 0 := edgesF_iff fun x hx => by
    rw [Ye.1 hx]
    exact ⟨by dsimp only; omega, by dsimp only; omega, by dsimp only; rw [hpar _ (by omega) (by omega)]; exact hps⟩
   show endF _ ⟨1, 0, 0, [], [⟨(hd : Int), ps⟩]⟩ = 0
   unfold endF
   rw [if_neg (by simp [shapeF]), if_neg (by simp), if_neg (by simp), if_neg (by simp [casesF])]
   exact h2
 have hEg : ∀ b ∈ G, ∀ e ∈ b.term.to, 1 ≤ e.block ∧ e.block < G.length := fun b hb e he => by
  have := (endF_ok (hblk b hb).2).edges e he
  exact ⟨this.1, this.2.1⟩
 have hgpos : 0 < G.length := by omega
 have hlen128 := hok.len
 have hinsN : insN G = insN f.blocks := by
  rw [hG]
  show insN (redL L f.blocks.length 0 f.blocks ++ newBs f.blocks (freshF f.blocks) L) = _
  rw [insN_append, insN_redL, insN_newBs, Ybo]
 refine func_iff.2 ⟨by rw [← hG]; exact hgpos, by rw [← hG]; exact hl, by rw [← hG, hinsN]; exact fi.ins, ?_, fi.name, by rw [← hG]; exact hkok, by rw [← hG]; exact hblk, ?_⟩
 ·rw [← hG, hpar 0 (Int.le_refl _) (by omega)]
  exact fi.params
 ·rw [← hG]
  refine usesF_iff.2 fun i c hi => ?_
  rw [Ybn]
  have hil := (Yd.1 hi).1
  have hunseen : ∀ {at_ u : Int}, (¬ ∃ l, Way G l i) → (dget (defsL 0 G) u).isSome = true → fineF (defsL 0 G) (domF G) i at_ u = true := fun {at_ u} hn hs => by
   have hsn : (domF G).seen.has i = false := by
    cases hc : (domF G).seen.has i with
    | false => rfl
    | true => exact absurd ((seen_iff hgpos hl hEg (by omega)).1 hc) hn
   unfold fineF
   cases hg : dget (defsL 0 G) u with
   | none => rw [hg] at hs; cases hs
   | some p => dsimp only; rw [hsn]; simp
  rcases hget i c hi with ⟨b, hb, rfl⟩ | ⟨m, hd, ps, rfl, hm, rfl, hps⟩
  ·have hu := usesF_iff.1 fi.uses i b hb
   rw [Ybn] at hu
   have hin : i < f.blocks.length := (Yd.1 hb).1
   have hfine : ∀ n u, fineF (defsL 0 f.blocks) (domF f.blocks) i n u = true → fineF (defsL 0 G) (domF G) i n u = true := fun n u hf => by
    unfold fineF at hf
    cases hg : dget (defsL 0 f.blocks) u with
    | none => rw [hg] at hf; cases hf
    | some p =>
     rw [hg] at hf
     dsimp only at hf
     obtain ⟨j, bj, hbj, hp1, hp2⟩ := defsL_at.1 ((dget_at fi.kok.nodup).1 hg)
     obtain ⟨p1, q⟩ := p
     have hp1 : p1 = (0 : Int) + j := hp1
     rw [Int.zero_add] at hp1
     subst hp1
     have hjl := (Yd.1 hbj).1
     have hgG : dget (defsL 0 G) u = some ((j : Int), q) := by rw [hdefs]; exact dget_left hg
     by_cases hr : ∃ l, Way G l i
     ·have hw := (pre_reach h hE hpos hin).1 hr
      have hseen : (domF f.blocks).seen.has i = true := (seen_iff hok.pos hok.len hE (by omega)).2 hw
      rw [hseen] at hf
      simp only [Bool.not_true, Bool.or_false, Bool.or_eq_true, Bool.and_eq_true, decide_eq_true_eq, Ybr] at hf
      unfold fineF
      rw [hgG]
      dsimp only
      rcases hf with ⟨h1, h2⟩ | ⟨h1, h2⟩
      ·simp [h1, h2]
      ·have hd := (has_iff hok.pos hok.len hE hw hin hjl).1 h2
       have hh : ((domF G).at i).has j = true := (has_iff hgpos hl hEg hr hil (by omega)).2 ((pre_doms h hE hpos hjl hin).2 hd)
       rw [Ybr, hh]
       simp [h1]
     ·exact hunseen hr (by rw [hgG]; rfl)
   refine ⟨usesIns_imp hfine hu.1, ?_⟩
   have h2 := hu.2
   obtain ⟨to, hto⟩ : ∃ to, to = b.term.to.map fun e => match redT L i e with
    | some m => (⟨((f.blocks.length + m : Nat) : Int), e.args⟩ : SEdge)
    | none => e := ⟨_, rfl⟩
   rw [← hto]
   show usedF { b.term with to := to } (fineF _ _ i b.ins.length) = true
   unfold usedF at h2 ⊢
   dsimp only
   split at h2
   ·cases h2
   ·rename_i h1
    rw [if_neg (fun h3 => h1 ⟨h3.1, by
     cases hc : fineF (defsL 0 f.blocks) (domF f.blocks) i b.ins.length b.term.arg with
     | false => rfl
     | true => rw [hfine _ _ hc] at h3; exact absurd h3.2 (by decide)⟩)]
    rw [Yaq] at h2 ⊢
    intro e' he'
    rw [hto] at he'
    obtain ⟨e, he2, hee⟩ := Yf.1 he'
    have hargs : e'.args = e.args := by
     cases hr : redT L i e with
     | none => rw [hr] at hee; have hee : e = e' := hee; rw [hee]
     | some m => rw [hr] at hee; have hee : (⟨((f.blocks.length + m : Nat) : Int), e.args⟩ : SEdge) = e' := hee; rw [← hee]
    have := h2 e he2
    rw [hargs]
    rw [Yaq] at this ⊢
    exact fun u hu2 => hfine _ u (this u hu2)
  ·refine ⟨rfl, ?_⟩
   show usedF ⟨1, 0, 0, [], [⟨(hd : Int), ps⟩]⟩ _ = true
   unfold usedF
   rw [if_neg (fun h3 => h3.1.1 rfl), Yaq]
   intro e' he'
   rw [Ye.1 he', Yaq]
   intro u hu2
   have hg : dget (defsL 0 G) u = some (((f.blocks.length + m : Nat) : Int), 0) := by
    refine (dget_at hkok.nodup).2 (defsL_at.2 ⟨f.blocks.length + m, _, hi, (Int.zero_add _).symm, ?_⟩)
    exact Yq _ (Yf.2 ⟨u, hu2, rfl⟩)
   unfold fineF
   rw [hg]
   simp
def Back (f : SFunc) (k v : Nat) : Prop := k ∈ orderF f.blocks ∧ Edge f.blocks k v ∧ Doms f.blocks v k
theorem back_nat {f : SFunc} (hf : FuncOk f) {k v : Nat} (h : Back f k v) : NatLoop f v k := .latch h.1 h.2.1 ((domsF_reach hf h.1).2 h.2.2)
section
variable {f : SFunc} {L : List Loop} (h0 : funcF f = 0) (hL : LoopsOf f L) (hg0 : funcF (preG f L) = 0)
include h0 hL hg0
theorem pre_order {v : Nat} (hv : v < f.blocks.length) : v ∈ orderF (preG f L).blocks ↔ v ∈ orderF f.blocks := by
 have hok := func_ok h0
 rw [order_iff (func_ok hg0), order_iff hok]
 exact pre_reach (pre_is hok hL) hok.edges hok.pos hv
theorem into_out {k m : Nat} (hi : Into f.blocks (redT L) k m) : ∃ x hd, L[m]? = some x ∧ (hdN L)[m]? = some hd ∧ Edge f.blocks k hd ∧ ¬ NatLoop f hd k := by
 obtain ⟨b, e, h1, h2, h3⟩ := hi
 obtain ⟨x, hx, ho⟩ := red_some h3
 obtain ⟨hd, e1, e2, e3, e4, e5, e6⟩ := lo_head (func_ok h0) hL hx
 obtain ⟨o1, o2⟩ := out_iff.1 ho
 exact ⟨x, hd, hx, e2, ⟨e, by rw [toAt_get h1]; exact h2, by omega⟩, fun hn => o2 ((e6 k).2 hn)⟩
theorem pre_back {k v : Nat} : Back (preG f L) k v ↔ Back f k v := by
 have hok := func_ok h0
 have gok := func_ok hg0
 have h := pre_is hok hL
 have hE := hok.edges
 constructor
 ·rintro ⟨h1, h2, h3⟩
  rcases g_edge h hE h2 with ⟨g1, g2, g3⟩ | ⟨m, g1, g2, g3, g4⟩ | ⟨m, g1, g2⟩
  ·exact ⟨(pre_order h0 hL hg0 g1).1 h1, stays_edge g3, (pre_doms h hE hok.pos g2 g1).1 h3⟩
  ·exfalso
   obtain ⟨x, hd, _, i2, i3, i4⟩ := into_out h0 hL hg0 g4
   subst g2
   have hd2 := new_doms h hE hok.pos i2 g1 h3
   exact i4 (back_nat hok ⟨(pre_order h0 hL hg0 g1).1 h1, i3, hd2⟩)
  ·exfalso
   subst g1
   have hml := (Yd.1 g2).1
   obtain ⟨l, hw⟩ := (order_iff gok).1 h1
   obtain ⟨q, l0, i1, i2, i3, i4, i5, _⟩ := (pre_way h hE hok.pos hw).2 m rfl hml
   obtain ⟨x, hd, _, j2, j3, j4⟩ := into_out h0 hL hg0 i3
   rw [g2] at j2
   injection j2 with j2
   subst j2
   have hvl := (h.hlt m v g2).2
   refine j4 (back_nat hok ⟨(order_iff hok).2 ⟨l0, i4⟩, j3, fun l1 w1 => ?_⟩)
   obtain ⟨l2, w2, s2⟩ := way_pre h hE w1
   rcases h3 _ (.step w2 (into_g h i3)) with e1 | e1
   ·omega
   ·rcases Yc.1 e1 with e1 | e1
    ·exact .inl e1
    ·exact .inr (s2 v e1 hvl)
 ·rintro ⟨h1, h2, h3⟩
  have ho := order_ok hok.pos hE
  have hkl := ho.lt k h1
  rcases edge_cases (red := redT L) h2 with hs | ⟨b, e, m, e1, e2, e3, e4⟩
  ·have hvl : v < f.blocks.length := by
    obtain ⟨b, e, a1, a2, a3, a4⟩ := hs
    have := hE b (Yh a1) e a2
    omega
   exact ⟨(pre_order h0 hL hg0 hkl).2 h1, stays_g h hs, (pre_doms h hE hok.pos hvl hkl).2 h3⟩
  ·exfalso
   obtain ⟨x, hd, _, j2, j3, j4⟩ := into_out h0 hL hg0 (k := k) (m := m) ⟨b, e, e1, e2, e4⟩
   have := h.red k b e m e1 e2 e4
   rw [j2, e3] at this
   injection this with this
   subst this
   exact j4 (back_nat hok ⟨h1, h2, h3⟩)
end
end Go.SM
end
section
namespace Go.SM
open Go.VL
def isBk (f : SFunc) (k : Int) (e : SEdge) : Bool := (backsF f).any fun y => decide ((k, e.block) = y)
def fwdL (f : SFunc) (k : Nat) : List Int := ((toAt f.blocks k).filter fun e => !isBk f k e).map (·.block)
def fwdT (f : SFunc) (l : List Nat) : List Int := l.flatMap (fwdL f)
def Fwd (f : SFunc) (k v : Nat) : Prop := Edge f.blocks k v ∧ ¬ Back f k v
def Rank (f : SFunc) : Prop := ∃ r : Nat → Nat, ∀ k ∈ orderF f.blocks, ∀ v, Fwd f k v → r k < r v
section
variable {f : SFunc} (hf : FuncOk f)
include hf
theorem bk_mem {k : Nat} {v : Nat} : ((k : Int), (v : Int)) ∈ backsF f ↔ Back f k v := by
 have h := back_mem hf (k := (k : Int)) (h := v)
 have h1 : (k : Int) ∈ workF f v ↔ ((k : Int), (v : Int)) ∈ backsF f := by
  unfold workF
  rw [Yf]
  constructor
  ·rintro ⟨⟨a, b⟩, hx, e⟩
   rw [Yj] at hx
   have h2 : b = (v : Int) := by simpa using hx.2
   have e : a = (k : Int) := e
   rw [← e, ← h2]
   exact hx.1
  ·intro hx
   exact ⟨_, Yj.2 ⟨hx, by simp⟩, rfl⟩
 rw [← h1, h]
 constructor
 ·rintro ⟨w, e, a1, a2, a3⟩
  have : w = k := by omega
  subst this
  exact ⟨a1, a2, (domsF_reach hf a1).1 a3⟩
 ·rintro ⟨a1, a2, a3⟩
  exact ⟨k, rfl, a1, a2, (domsF_reach hf a1).2 a3⟩
theorem fwd_mem {k : Nat} {x : Int} : x ∈ fwdL f k ↔ ∃ v : Nat, x = v ∧ v < f.blocks.length ∧ 1 ≤ v ∧ Fwd f k v := by
 unfold fwdL
 rw [Yf]
 constructor
 ·rintro ⟨e, he, rfl⟩
  obtain ⟨h1, h2⟩ := Yj.1 he
  have hr : 1 ≤ e.block ∧ e.block < f.blocks.length := by
   unfold toAt at h1
   cases hb : f.blocks[k]? with
   | none => rw [hb] at h1; cases h1
   | some b =>
    rw [hb] at h1
    exact hf.edges b (Yh hb) e h1
  refine ⟨e.block.toNat, by omega, by omega, by omega, ⟨e, h1, rfl⟩, fun hb => ?_⟩
  have hm := (bk_mem hf).2 hb
  rw [show ((e.block.toNat : Nat) : Int) = e.block by omega] at hm
  have : isBk f k e = true := Yv.2 ⟨_, hm, decide_eq_true rfl⟩
  rw [this] at h2
  cases h2
 ·rintro ⟨v, rfl, hv, h1, ⟨e, he, hev⟩, hb⟩
  have hev2 : e.block = (v : Int) := by omega
  refine ⟨e, Yj.2 ⟨he, ?_⟩, hev2⟩
  cases hc : isBk f k e with
  | false => rfl
  | true =>
   exfalso
   obtain ⟨y, hy, e2⟩ := Yv.1 hc
   have e2 := of_decide_eq_true e2
   rw [← e2, hev2] at hy
   exact hb ((bk_mem hf).1 hy)
theorem fwd_into {v : Nat} (hv : v ∈ orderF f.blocks) (h0 : v ≠ 0) : ∃ k ∈ orderF f.blocks, Fwd f k v := by
 obtain ⟨l, hw⟩ := (order_iff hf).1 hv
 obtain ⟨l2, w2, n2⟩ := way_first l.length l (Ybm _) hw
 cases w2 with
 | start => exact absurd rfl h0
 | @step l3 p _ w3 he =>
  rw [Yc, not_or] at n2
  refine ⟨p, (order_iff hf).2 ⟨l3, w3⟩, he, fun hb => ?_⟩
  rcases hb.2.2 l3 w3 with e | e
  ·exact n2.1 e
  ·exact n2.2 e
end
theorem sub_lenN : ∀ {a b : List Nat}, a.Nodup → (∀ x ∈ a, x ∈ b) → a.length ≤ b.length
 | [], b, _, _ => Ybp _
 | x :: a, b, hn, hs => by
  obtain ⟨h1, h2⟩ := Yaf.1 hn
  have hx := hs x (Ya ..)
  have h3 := List.length_erase_of_mem hx
  have h4 : a.length ≤ (b.erase x).length := sub_lenN h2 fun y hy => (List.mem_erase_of_ne (fun e : y = x => h1 (e ▸ hy))).2 (hs y (Yb _ hy))
  have h5 := List.length_pos_of_mem hx
  rw [Yl]
  omega
def restN (f : SFunc) (D : List Nat) : List Nat := (reachN f).filter fun k => decide (k ∉ D)
structure KInv (f : SFunc) (D Wk : List Nat) (M : List Int) (post : List Int) : Prop where
 mem : ∀ v ∈ D ++ Wk, v ∈ orderF f.blocks
 nodup : (D ++ Wk).Nodup
 push : ∀ v ∈ orderF f.blocks, v ∈ D ++ Wk ↔ (v : Int) ∉ post ++ fwdT f (restN f D)
 len : M.length = f.blocks.length
 cnt : ∀ t : Nat, t < f.blocks.length → M[t]? = some (((post ++ fwdT f (restN f D)).count (t : Int) : Nat) : Int)
 sub : ∀ x ∈ post, ∃ t : Nat, x = t ∧ t ∈ orderF f.blocks ∧ t < f.blocks.length
 rank : ∀ (i v : Nat), D[i]? = some v → ∀ k ∈ orderF f.blocks, Fwd f k v → k ∈ D.take i
section
variable {f : SFunc} (hf : FuncOk f)
include hf
theorem rest_mem {D : List Nat} {k : Nat} : k ∈ restN f D ↔ k ∈ orderF f.blocks ∧ k ∉ D := by
 unfold restN
 rw [Yj, reachN_mem (order_ok hf.pos hf.edges), decide_eq_true_eq]
theorem reachN_nodup : (reachN f).Nodup := (reachN_sorted (f := f)).imp fun h => Nat.ne_of_lt h
theorem kinv_start {M : List Int} (hl : M.length = f.blocks.length) (hc : ∀ t : Nat, t < f.blocks.length → M[t]? = some (((fwdT f (reachN f)).count (t : Int) : Nat) : Int)) : KInv f [] [0] M [] := by
 have ho := order_ok hf.pos hf.edges
 have hr : restN f [] = reachN f := by
  unfold restN
  exact List.filter_eq_self.2 fun k _ => decide_eq_true (fun h => by cases h)
 have h0 := zero_mem ho
 refine ⟨fun v hv => by rw [Ye.1 hv]; exact h0, by simp, (fun v hv => ?_), hl, (fun t ht => by rw [hr]; exact hc t ht), (fun x hx => by cases hx), (fun i v h => by simp at h)⟩
 rw [hr, Yac, Yac, Ye]
 constructor
 ·rintro rfl hm
  obtain ⟨k, _, hk⟩ := Yak.1 hm
  obtain ⟨w, e, _, h1, _⟩ := (fwd_mem hf).1 hk
  omega
 ·intro hm
  by_cases hv0 : v = 0
  ·exact hv0
  ·exfalso
   obtain ⟨k, hk, hkv⟩ := fwd_into hf hv hv0
   refine hm (Yak.2 ⟨k, (reachN_mem ho).2 hk, (fwd_mem hf).2 ⟨v, rfl, ho.lt v hv, by omega, hkv⟩⟩)
theorem rest_perm {D : List Nat} {k : Nat} (hk : k ∈ orderF f.blocks) (hD : k ∉ D) : (restN f D).Perm (k :: restN f (D ++ [k])) := by
 have hn : (restN f D).Nodup := (reachN_nodup hf).filter _
 have hn2 : (k :: restN f (D ++ [k])).Nodup := Yaf.2 ⟨fun h => ((rest_mem hf).1 h).2 (Yn _ (Ye.2 rfl)), (reachN_nodup hf).filter _⟩
 refine (Ybk hn hn2).2 fun v => ?_
 rw [rest_mem hf, Yc, rest_mem hf, Yi, Ye]
 constructor
 ·rintro ⟨h1, h2⟩
  by_cases hv : v = k
  ·exact .inl hv
  ·exact .inr ⟨h1, fun h => h.elim h2 hv⟩
 ·rintro (rfl | ⟨h1, h2⟩)
  ·exact ⟨hk, hD⟩
  ·exact ⟨h1, fun h => h2 (.inl h)⟩
theorem kinv_pop {D w : List Nat} {k : Nat} {M : List Int} (h : KInv f D (w ++ [k]) M []) : KInv f (D ++ [k]) w M (fwdL f k) := by
 have ho := order_ok hf.pos hf.edges
 obtain ⟨h1, h2, h3, h4, h5, _, h7⟩ := h
 have hpm : (D ++ (w ++ [k])).Perm ((D ++ [k]) ++ w) := by
  rw [Yx]
  exact List.perm_append_comm.append_left D
 have hk := h1 k (Yn _ (Yn _ (Ye.2 rfl)))
 have hkD : k ∉ D := fun hm => by
  have := (Yab.1 h2).2.2 k hm k (Yn _ (Ye.2 rfl))
  exact this rfl
 have hR := rest_perm hf hk hkD
 have hT : (fwdT f (restN f D)).Perm (fwdL f k ++ fwdT f (restN f (D ++ [k]))) := by
  have := hR.flatMap_right (fwdL f)
  exact this
 refine ⟨fun v hv => h1 v (hpm.mem_iff.2 hv), hpm.nodup_iff.1 h2, fun v hv => ?_, h4, fun t ht => ?_, fun x hx => ?_, fun i v hi q hq hqv => ?_⟩
 ·rw [← hpm.mem_iff, h3 v hv, Yac, hT.mem_iff]
 ·rw [h5 t ht, Yac, hT.count_eq]
 ·obtain ⟨v, e, hv, _, hkv⟩ := (fwd_mem hf).1 hx
  exact ⟨v, e, ho.closed k hk v hkv.1, hv⟩
 ·by_cases hil : i < D.length
  ·rw [Yah hil] at hi
   rw [List.take_append_of_le_length (by omega)]
   exact h7 i v hi q hq hqv
  ·have hi2 := (Yd.1 hi).1
   rw [Yw, List.length_singleton] at hi2
   have : i = D.length := by omega
   subst this
   rw [Yas (Ybm _), Nat.sub_self] at hi
   have hi : k = v := by simpa using hi
   subst hi
   rw [List.take_left' rfl]
   apply Classical.byContradiction
   intro hqD
   have hnot := (h3 k hk).1 (Yn _ (Yn _ (Ye.2 rfl)))
   refine hnot (Yn _ (Yak.2 ⟨q, (rest_mem hf).2 ⟨hq, hqD⟩, (fwd_mem hf).2 ⟨k, rfl, ho.lt k hk, ?_, hqv⟩⟩))
   obtain ⟨e, he, hev⟩ := hqv.1
   unfold toAt at he
   cases hb : f.blocks[q]? with
   | none => rw [hb] at he; cases he
   | some b =>
    rw [hb] at he
    have := hf.edges b (Yh hb) e he
    omega
theorem kinv_sub {D Wk : List Nat} {M post : List Int} {x : Int} (h : KInv f D Wk M (x :: post)) : ∃ (t : Nat) (c : Nat), x = t ∧ t < f.blocks.length ∧ M[t]? = some (((c + 1 : Nat) : Int)) ∧ c ≤ (fwdT f (restN f D)).length + post.length ∧ (if c = 0 then KInv f D (Wk ++ [t]) (M.set t ((c : Nat) : Int)) post else KInv f D Wk (M.set t ((c : Nat) : Int)) post) := by
 obtain ⟨h1, h2, h3, h4, h5, h6, h7⟩ := h
 obtain ⟨t, rfl, ht, htl⟩ := h6 x (Ya ..)
 have hc := h5 t htl
 rw [Yt, Yay] at hc
 obtain ⟨c, hcc⟩ : ∃ c, c = (post ++ fwdT f (restN f D)).count (t : Int) := ⟨_, rfl⟩
 rw [← hcc] at hc
 have hcnt : ∀ s : Nat, s < f.blocks.length → (M.set t ((c : Nat) : Int))[s]? = some (((post ++ fwdT f (restN f D)).count (s : Int) : Nat) : Int) := fun s hs => by
  rw [Ym]
  by_cases e : t = s
  ·subst e
   rw [if_pos rfl, if_pos (by omega), hcc]
  ·rw [if_neg e, h5 s hs, Yt, Ybh (by omega)]
 have hsub : ∀ x ∈ post, ∃ t : Nat, x = t ∧ t ∈ orderF f.blocks ∧ t < f.blocks.length := fun x hx => h6 x (Yb _ hx)
 have htn : t ∉ D ++ Wk := fun hm => (h3 t ht).1 hm (Ya ..)
 refine ⟨t, c, rfl, htl, hc, by rw [hcc]; have := Ybi (a := (t : Int)) (l := post ++ fwdT f (restN f D)); rw [Yw] at this; omega, ?_⟩
 split
 ·rename_i h0
  rw [h0] at hcc
  have hz : (t : Int) ∉ post ++ fwdT f (restN f D) := List.count_eq_zero.1 hcc.symm
  refine ⟨fun v hv => ?_, ?_, fun v hv => ?_, by rw [Yu]; exact h4, hcnt, hsub, h7⟩
  ·rw [← Yx] at hv
   rcases Yi.1 hv with hv | hv
   ·exact h1 v hv
   ·rw [Ye.1 hv]; exact ht
  ·rw [← Yx]
   exact Yab.2 ⟨h2, by simp, fun a ha b hb e => by rw [Ye.1 hb] at e; exact htn (e ▸ ha)⟩
  ·rw [← Yx, Yi, Ye, h3 v hv, Yt, Yc, not_or]
   constructor
   ·rintro (⟨_, h8⟩ | rfl)
    ·exact h8
    ·exact hz
   ·intro h8
    by_cases e : v = t
    ·exact .inr e
    ·exact .inl ⟨by omega, h8⟩
 ·rename_i h0
  have hz : (t : Int) ∈ post ++ fwdT f (restN f D) := List.count_pos_iff.1 (by omega)
  refine ⟨h1, h2, fun v hv => ?_, by rw [Yu]; exact h4, hcnt, hsub, h7⟩
  rw [h3 v hv, Yt, Yc, not_or]
  constructor
  ·rintro ⟨_, h8⟩
   exact h8
  ·intro h8
   refine ⟨fun e => ?_, h8⟩
   have : v = t := by omega
   subst this
   exact h8 hz
theorem kinv_end {D : List Nat} {M : List Int} (h : KInv f D [] M []) : D.length = (reachN f).length ↔ Rank f := by
 have ho := order_ok hf.pos hf.edges
 obtain ⟨h1, h2, h3, _, _, _, h7⟩ := h
 rw [Yax] at h1 h2
 have hsub : ∀ v ∈ D, v ∈ reachN f := fun v hv => (reachN_mem ho).2 (h1 v hv)
 constructor
 ·intro hl
  have hall : ∀ v ∈ orderF f.blocks, v ∈ D := by
   intro v hv
   apply Classical.byContradiction
   intro hvD
   have := sub_lenN (Yaf.2 ⟨hvD, h2⟩) (b := reachN f) (fun x hx => by
    rcases Yc.1 hx with rfl | hx
    ·exact (reachN_mem ho).2 hv
    ·exact hsub x hx)
   rw [Yl] at this
   omega
  refine ⟨fun v => D.idxOf v, fun k hk v hkv => ?_⟩
  have hv : v ∈ D := hall v (ho.closed k hk v hkv.1)
  have hvl := Ybl hv
  have hk2 := h7 (D.idxOf v) v (by rw [Yz hvl, List.getElem_idxOf hvl]) k hk hkv
  have hk3 := Ybl hk2
  have hpre : D.idxOf k = (D.take (D.idxOf v)).idxOf k := by
   conv => lhs; rw [← List.take_append_drop (D.idxOf v) D]
   rw [List.idxOf_append, if_pos hk2]
  show D.idxOf k < D.idxOf v
  rw [hpre]
  rw [List.length_take] at hk3
  omega
 ·rintro ⟨r, hr⟩
  have key : ∀ (n v : Nat), r v < n → v ∈ orderF f.blocks → v ∈ D := fun n => by
   induction n with
   | zero => intro v h _; omega
   | succ n ih =>
    intro v hn hv
    apply Classical.byContradiction
    intro hvD
    have hm : (v : Int) ∈ [] ++ fwdT f (restN f D) := Classical.byContradiction fun hm => hvD (by have := (h3 v hv).2 hm; rwa [Yax] at this)
    rw [Yac] at hm
    obtain ⟨k, hk, hkv⟩ := Yak.1 hm
    obtain ⟨hk1, hk2⟩ := (rest_mem hf).1 hk
    obtain ⟨w, e, _, _, hw⟩ := (fwd_mem hf).1 hkv
    have : w = v := by omega
    subst this
    exact hk2 (ih k (by have := hr k hk1 w hw; omega) hk1)
  have hall : ∀ v ∈ orderF f.blocks, v ∈ D := fun v hv => key _ v (Nat.lt_succ_self _) hv
  have hp : D.Perm (reachN f) := (Ybk h2 (reachN_nodup hf)).2 fun v => ⟨hsub v, fun hv => hall v ((reachN_mem ho).1 hv)⟩
  exact hp.length_eq
end
theorem rank_pre {f : SFunc} {L : List Loop} (h0 : funcF f = 0) (hL : LoopsOf f L) (hg0 : funcF (preG f L) = 0) : Rank (preG f L) ↔ Rank f := by
 have hok := func_ok h0
 have gok := func_ok hg0
 have h := pre_is hok hL
 have hE := hok.edges
 have ho := order_ok hok.pos hE
 constructor
 ·rintro ⟨r, hr⟩
  refine ⟨r, fun k hk v hkv => ?_⟩
  have hkl := ho.lt k hk
  have hkg := (pre_order h0 hL hg0 hkl).2 hk
  rcases edge_cases (red := redT L) hkv.1 with hs | ⟨b, e, m, e1, e2, e3, e4⟩
  ·exact hr k hkg v ⟨stays_g h hs, fun hb => hkv.2 ((pre_back h0 hL hg0).1 hb)⟩
  ·have hm := h.red k b e m e1 e2 e4
   rw [e3] at hm
   have hi := into_g h (red := redT L) ⟨b, e, e1, e2, e4⟩
   have hn := new_g h hm
   have a1 := hr k hkg _ ⟨hi, fun hb => by
    have := (pre_back h0 hL hg0).1 hb
    have := ho.closed k hk _ this.2.1
    have := ho.lt _ this
    omega⟩
   have hmo : f.blocks.length + m ∈ orderF (preG f L).blocks := (order_ok gok.pos gok.edges).closed k hkg _ hi
   have a2 := hr _ hmo v ⟨hn, fun hb => by
    have := (pre_back h0 hL hg0).1 hb
    have := ho.lt _ this.1
    omega⟩
   omega
 ·rintro ⟨r, hr⟩
  refine ⟨fun v => if v < f.blocks.length then 2 * r v + 1 else 2 * r ((hdN L)[v - f.blocks.length]?.getD 0), fun k hk v hkv => ?_⟩
  dsimp only
  rcases g_edge h hE hkv.1 with ⟨g1, g2, g3⟩ | ⟨m, g1, g2, g3, g4⟩ | ⟨m, g1, g2⟩
  ·rw [if_pos g1, if_pos g2]
   have hk2 := (pre_order h0 hL hg0 g1).1 hk
   have := hr k hk2 v ⟨stays_edge g3, fun hb => hkv.2 ((pre_back h0 hL hg0).2 hb)⟩
   omega
  ·rw [if_pos g1, if_neg (by omega)]
   have hk2 := (pre_order h0 hL hg0 g1).1 hk
   obtain ⟨x, hd, _, j2, j3, j4⟩ := into_out h0 hL hg0 g4
   rw [show v - f.blocks.length = m by omega, j2, Option.getD_some]
   have := hr k hk2 hd ⟨j3, fun hb => j4 (back_nat hok hb)⟩
   omega
  ·have hvl := (h.hlt m v g2).2
   rw [if_neg (by omega), if_pos hvl, show k - f.blocks.length = m by omega, g2, Option.getD_some]
   omega
end Go.SM
end
section
namespace Go.SM
open Go.VL
noncomputable def redF (f : SFunc) : Bool := by classical exact decide (Rank f)
theorem redF_iff {f : SFunc} : redF f = true ↔ Rank f := by
 classical
 unfold redF
 exact decide_eq_true_iff
theorem redF_eq {f : SFunc} {n m : Nat} (h : n = m ↔ Rank f) : decide ((n : Int) = (m : Int)) = redF f := by
 rw [Bool.eq_iff_iff, redF_iff, decide_eq_true_eq, ← h]
 omega
section
variable {f : SFunc} (hf : FuncOk f)
include hf
theorem fwdL_le {k : Nat} : (fwdL f k).length ≤ 257 := by
 unfold fwdL
 rw [Yo]
 exact Ybq (Yag ..) (toAt_le hf _)
theorem fwdT_le {l : List Nat} (h : l.length ≤ 128) : (fwdT f l).length ≤ 32896 := by
 have h4 : (fwdT f l).length ≤ l.length * 257 := flat_le fun k _ => fwdL_le hf
 have h5 : l.length * 257 ≤ 128 * 257 := Nat.mul_le_mul_right _ h
 omega
theorem reachN_len : (reachN f).length ≤ 128 := by
 have h1 : (reachN f).length ≤ (Yk f.blocks.length).length := Yag ..
 rw [Yaw] at h1
 exact Ybq h1 hf.len
theorem rest_le {D : List Nat} : (restN f D).length ≤ 128 := Ybq (Yag ..) (reachN_len hf)
structure CInv (f : SFunc) (l : List Int) (M : List Int) : Prop where
 len : M.length = f.blocks.length
 cnt : ∀ t : Nat, t < f.blocks.length → M[t]? = some ((l.count (t : Int) : Nat) : Int)
theorem cinv_start : CInv f [] (Yg f.blocks.length 0) := ⟨Yae, fun t ht => by rw [Yy, if_pos ht]; rfl⟩
theorem cinv_step {l M : List Int} {t : Nat} (h : CInv f l M) (ht : t < f.blocks.length) (hl : l.length ≤ 40000) : ∃ c : Int, M[t]? = some c ∧ (-1000000 ≤ c ∧ c ≤ 1000000) ∧ CInv f (l ++ [(t : Int)]) (M.set t (c + 1)) := by
 refine ⟨_, h.cnt t ht, ?_, by rw [Yu]; exact h.len, fun s hs => ?_⟩
 ·have := Ybi (a := (t : Int)) (l := l)
  omega
 ·rw [Ym, List.count_append]
  by_cases e : t = s
  ·subst e
   rw [if_pos rfl, if_pos (by rw [h.len]; exact hs), List.count_singleton_self]
   rfl
  ·rw [if_neg e, h.cnt s hs, List.count_singleton, if_neg (by simp; omega)]
   rfl
theorem fwd_nat {k : Nat} {x : Int} (h : x ∈ fwdL f k) : ∃ t : Nat, x = t ∧ t < f.blocks.length := by
 obtain ⟨v, e, hv, _⟩ := (fwd_mem hf).1 h
 exact ⟨v, e, hv⟩
theorem kdone_len {D Wk : List Nat} {M post : List Int} (h : KInv f D Wk M post) : D.length + Wk.length ≤ f.blocks.length := by
 have ho := order_ok hf.pos hf.edges
 have h1 := sub_lenN h.nodup (b := Yk f.blocks.length) fun x hx => Yr.2 (ho.lt x (h.mem x hx))
 rw [Yw, Yaw] at h1
 exact h1
end
theorem fwdT_snoc {f : SFunc} {l : List Nat} {k : Nat} : fwdT f (l ++ [k]) = fwdT f l ++ fwdL f k := by
 unfold fwdT
 rw [List.flatMap_append, List.flatMap_singleton]
end Go.SM
end
section
namespace Go.SM
open Go.VL
def edgesR (k : Nat) (to : List SEdge) (s : List Bool) : List Bool := to.foldl (fun s e => if s[k]?.getD false = true then s.set e.block.toNat true else s) s
def blocksR : Nat → List SBlock → List Bool → List Bool
 | _, [], s => s
 | k, b :: l, s => blocksR (k + 1) l (edgesR k b.term.to s)
def roundsR (bs : List SBlock) : Nat → List Bool → List Bool
 | 0, s => s
 | n + 1, s => roundsR bs n (blocksR 0 bs s)
def reachF (bs : List SBlock) : List Bool := roundsR bs bs.length ((Yg bs.length false).set 0 true)
def leadsF (bs : List SBlock) (a : Nat) : List Bool := roundsR bs bs.length ((Yg bs.length false).set a true)
inductive Leads (bs : List SBlock) (a : Nat) : Nat → Prop where
 | refl : Leads bs a a
 | step {p v : Nat} : Leads bs a p → Edge bs p v → Leads bs a v
theorem Leads.trans {bs : List SBlock} {a b c : Nat} (h : Leads bs a b) (k : Leads bs b c) : Leads bs a c := by
 induction k with
 | refl => exact h
 | step _ e ih => exact ih.step e
theorem leads_way {bs : List SBlock} {l : List Nat} {a v : Nat} (hw : Way bs l a) (h : Leads bs a v) : ∃ l, Way bs l v := by
 induction h with
 | refl => exact ⟨l, hw⟩
 | step _ e ih => exact ih.elim fun l h => ⟨_, .step h e⟩
theorem way_leads {bs : List SBlock} {l : List Nat} {v : Nat} (hw : Way bs l v) : Leads bs 0 v := by
 induction hw with
 | start => exact .refl
 | step _ e ih => exact ih.step e
def SOk (bs : List SBlock) (Q : Nat → Prop) (s : List Bool) : Prop := s.length = bs.length ∧ ∀ k, s[k]? = some true → Q k
section
variable {bs : List SBlock} {Q : Nat → Prop} (hQ : ∀ p v, Q p → Edge bs p v → Q v)
include hQ
theorem edgesR_ok {k : Nat} {b : SBlock} (hb : bs[k]? = some b) : ∀ (to : List SEdge) (s : List Bool), (∀ e ∈ to, e ∈ b.term.to) → SOk bs Q s → SOk bs Q (edgesR k to s)
 | [], s, _, h => h
 | e :: to, s, ht, h => by
  refine edgesR_ok hb to _ (fun x hx => ht x (Yb _ hx)) ?_
  show SOk bs Q (if s[k]?.getD false = true then s.set e.block.toNat true else s)
  split
  ·rename_i hk
   refine ⟨by rw [Yu]; exact h.1, fun j hj => ?_⟩
   rw [Ym] at hj
   by_cases hej : e.block.toNat = j
   ·have hsk : s[k]? = some true := by cases hg : s[k]? with
     | none => rw [hg] at hk; cases hk
     | some x => rw [hg] at hk; rw [show x = true from hk]
    exact hQ k j (h.2 k hsk) ⟨e, by rw [toAt_get hb]; exact ht e (Ya ..), hej⟩
   ·rw [if_neg hej] at hj
    exact h.2 j hj
  ·exact h
theorem blocksR_ok : ∀ (l : List SBlock) (k : Nat) (s : List Bool), bs.drop k = l → SOk bs Q s → SOk bs Q (blocksR k l s)
 | [], k, s, _, h => h
 | b :: l, k, s, hd, h => by
  have hb : bs[k]? = some b := by
   have h9 : (bs.drop k)[0]? = some b := by rw [hd]; rfl
   rwa [Yai, Ybo] at h9
  have hd2 : bs.drop (k + 1) = l := by
   have h9 : (bs.drop k).drop 1 = l := by rw [hd]; rfl
   rwa [Ybd] at h9
  exact blocksR_ok l (k + 1) _ hd2 (edgesR_ok hQ hb _ s (fun e he => he) h)
theorem roundsR_ok : ∀ (n : Nat) (s : List Bool), SOk bs Q s → SOk bs Q (roundsR bs n s)
 | 0, s, h => h
 | n + 1, s, h => roundsR_ok n _ (blocksR_ok hQ bs 0 s rfl h)
end
def Le (s t : List Bool) : Prop := s.length = t.length ∧ ∀ k : Nat, s[k]? = some true → t[k]? = some true
theorem Le.refl (s : List Bool) : Le s s := ⟨rfl, fun _ h => h⟩
theorem Le.trans {s t u : List Bool} (h : Le s t) (k : Le t u) : Le s u := ⟨h.1.trans k.1, fun i hi => k.2 i (h.2 i hi)⟩
theorem le_set (s : List Bool) (j : Nat) : Le s (s.set j true) := ⟨(Yu ..).symm, fun k hk => by
 rw [Ym]
 split
 ·rw [if_pos (by rename_i e; rw [e]; exact (Yd.1 hk).1)]
 ·exact hk⟩
theorem edgesR_le {k : Nat} : ∀ (to : List SEdge) (s : List Bool), Le s (edgesR k to s)
 | [], s => .refl s
 | e :: to, s => by
  show Le s (edgesR k to (if s[k]?.getD false = true then s.set e.block.toNat true else s))
  refine Le.trans ?_ (edgesR_le to _)
  split
  ·exact le_set ..
  ·exact .refl s
theorem edgesR_hit {k : Nat} : ∀ (to : List SEdge) (s : List Bool), s[k]? = some true → ∀ e ∈ to, e.block.toNat < s.length → (edgesR k to s)[e.block.toNat]? = some true
 | x :: to, s, hk, e, he, hl => by
  have hk2 : (s.set x.block.toNat true)[k]? = some true := (le_set s _).2 k hk
  show (edgesR k to (if s[k]?.getD false = true then s.set x.block.toNat true else s))[e.block.toNat]? = some true
  rw [if_pos (by rw [hk]; rfl)]
  rcases Yc.1 he with rfl | he
  ·exact (edgesR_le to _).2 _ (Yaz hl)
  ·exact edgesR_hit to _ hk2 e he (by rw [Yu]; exact hl)
theorem blocksR_le : ∀ (l : List SBlock) (k : Nat) (s : List Bool), Le s (blocksR k l s)
 | [], k, s => .refl s
 | b :: l, k, s => (edgesR_le b.term.to s).trans (blocksR_le l (k + 1) _)
theorem blocksR_hit {bs : List SBlock} : ∀ (l : List SBlock) (k : Nat) (s : List Bool), bs.drop k = l → ∀ j, k ≤ j → s[j]? = some true → ∀ b, bs[j]? = some b → ∀ e ∈ b.term.to, e.block.toNat < s.length → (blocksR k l s)[e.block.toNat]? = some true
 | [], k, s, hd, j, hj, _, b, hb, _, _, _ => by
  have := (Yd.1 hb).1
  have h9 := congrArg Yar hd
  rw [List.length_drop] at h9
  simp at h9
  omega
 | c :: l, k, s, hd, j, hj, hs, b, hb, e, he, hl => by
  have hd2 : bs.drop (k + 1) = l := by
   have h9 : (bs.drop k).drop 1 = l := by rw [hd]; rfl
   rwa [Ybd] at h9
  show (blocksR (k + 1) l (edgesR k c.term.to s))[e.block.toNat]? = some true
  by_cases h : j = k
  ·subst h
   have hc : bs[j]? = some c := by
    have h9 : (bs.drop j)[0]? = some c := by rw [hd]; rfl
    rwa [Yai, Ybo] at h9
   rw [hb] at hc
   injection hc with hc
   subst hc
   exact (blocksR_le l _ _).2 _ (edgesR_hit _ _ hs e he hl)
  ·exact blocksR_hit l (k + 1) _ hd2 j (by omega) ((edgesR_le _ s).2 j hs) b hb e he (by rw [← (edgesR_le c.term.to s).1]; exact hl)
theorem roundsR_le {bs : List SBlock} : ∀ (n : Nat) (s : List Bool), Le s (roundsR bs n s)
 | 0, s => .refl s
 | n + 1, s => (blocksR_le bs 0 s).trans (roundsR_le n _)
theorem le_count : ∀ {s t : List Bool}, Le s t → s.count true ≤ t.count true ∧ (s = t ∨ s.count true < t.count true)
 | [], t, h => by
  have : t = [] := Ybf.1 h.1.symm
  subst this
  exact ⟨Ybm _, .inl rfl⟩
 | x :: s, [], h => by cases h.1
 | x :: s, y :: t, h => by
  have h1 : Le s t := ⟨by have := h.1; simpa using this, fun k hk => h.2 (k + 1) hk⟩
  obtain ⟨a, b⟩ := le_count h1
  have h0 := h.2 0
  cases x with
  | true =>
   have : y = true := by have := h0 rfl; simpa using this
   subst this
   rw [Yay, Yay]
   exact ⟨by omega, b.elim (fun e => .inl (by rw [e])) fun e => .inr (by omega)⟩
  | false =>
   rw [Ybh (by decide)]
   cases y with
   | true =>
    rw [Yay]
    exact ⟨by omega, .inr (by omega)⟩
   | false =>
    rw [Ybh (by decide)]
    exact ⟨a, b.elim (fun e => .inl (by rw [e])) .inr⟩
theorem rounds_same {bs : List SBlock} : ∀ (n : Nat) {s : List Bool}, blocksR 0 bs s = s → roundsR bs n s = s
 | 0, s, _ => rfl
 | n + 1, s, h => by rw [roundsR, h]; exact rounds_same n h
theorem rounds_fix {bs : List SBlock} : ∀ (n : Nat) (s : List Bool), blocksR 0 bs (roundsR bs n s) = roundsR bs n s ∨ s.count true + n ≤ (roundsR bs n s).count true
 | 0, s => .inr (Ybm _)
 | n + 1, s => by
  rcases (le_count (blocksR_le bs 0 s)).2 with e | e
  ·left
   rw [roundsR, ← e, rounds_same n e.symm]
   exact e.symm
  ·rcases rounds_fix n (blocksR 0 bs s) with h | h
   ·exact .inl h
   ·right
    rw [roundsR]
    omega
section
variable {bs : List SBlock} (hE : ∀ b ∈ bs, ∀ e ∈ b.term.to, 1 ≤ e.block ∧ e.block < bs.length)
include hE
theorem rounds_iff {a : Nat} (ha : a < bs.length) {v : Nat} : (roundsR bs bs.length ((Yg bs.length false).set a true))[v]? = some true ↔ Leads bs a v := by
 have hs0 : ((Yg bs.length false).set a true)[a]? = some true := Yaz (by rw [Yae]; exact ha)
 have hl0 : ((Yg bs.length false).set a true).length = bs.length := by rw [Yu, Yae]
 constructor
 ·intro h
  refine (roundsR_ok (Q := Leads bs a) (fun p v h e => h.step e) _ _ ⟨hl0, fun k hk => ?_⟩).2 v h
  rw [Ym, Yy] at hk
  by_cases h0 : a = k
  ·subst h0; exact .refl
  ·rw [if_neg h0] at hk
   split at hk
   ·cases hk
   ·cases hk
 ·intro h
  have hle := roundsR_le (bs := bs) bs.length ((Yg bs.length false).set a true)
  have hfix : blocksR 0 bs (roundsR bs bs.length ((Yg bs.length false).set a true)) = roundsR bs bs.length ((Yg bs.length false).set a true) := by
   rcases rounds_fix bs.length ((Yg bs.length false).set a true) with h | h
   ·exact h
   ·exfalso
    have h1 : 0 < ((Yg bs.length false).set a true).count true := List.count_pos_iff.2 (Yh hs0)
    have h2 := Ybi (a := true) (l := roundsR bs bs.length ((Yg bs.length false).set a true))
    rw [← hle.1, hl0] at h2
    omega
  induction h with
  | refl => exact hle.2 a hs0
  | @step p v _ he ih =>
   obtain ⟨e, he, rfl⟩ := he
   unfold toAt at he
   cases hb : bs[p]? with
   | none => rw [hb] at he; cases he
   | some b =>
    rw [hb] at he
    have hr := hE b (Yh hb) e he
    have := blocksR_hit bs 0 _ rfl p (Ybp _) ih b hb e he (by rw [← hle.1, hl0]; omega)
    rw [hfix] at this
    exact this
end
def prR (k : Int) : Nat → List SBlock → List Int
 | _, [] => []
 | n, b :: l => ((b.term.to.filter fun e => decide (e.block = k)).map fun _ => (n : Int)) ++ prR k (n + 1) l
theorem prR_mem {k : Int} : ∀ {l : List SBlock} {n : Nat} {p : Int}, p ∈ prR k n l ↔ ∃ (i : Nat) (b : SBlock), p = (n + i : Nat) ∧ l[i]? = some b ∧ ∃ e ∈ b.term.to, e.block = k
 | [], n, p => by simp [prR]
 | b :: l, n, p => by
  rw [prR, Yi, prR_mem (l := l)]
  constructor
  ·rintro (h | ⟨i, c, rfl, hc, h⟩)
   ·obtain ⟨e, he, rfl⟩ := Yf.1 h
    obtain ⟨h1, h2⟩ := Yj.1 he
    exact ⟨0, b, rfl, rfl, e, h1, of_decide_eq_true h2⟩
   ·exact ⟨i + 1, c, by omega, hc, h⟩
  ·rintro ⟨i, c, rfl, hc, e, he, hk⟩
   cases i with
   | zero =>
    have hc : b = c := by simpa using hc
    subst hc
    exact .inl (Yf.2 ⟨e, Yj.2 ⟨he, decide_eq_true hk⟩, rfl⟩)
   | succ i => exact .inr ⟨i, c, by omega, hc, e, he, hk⟩
def cycK (f : SFunc) (k : Nat) (l : List Int) : Bool := l.any fun p => (reachF f.blocks)[p.toNat]?.getD false && (leadsF f.blocks k)[p.toNat]?.getD false
def cycF (f : SFunc) : Bool := (Yk f.blocks.length).any fun k => cycK f k (prR k 0 f.blocks)
theorem getD_true {l : List Bool} {k : Nat} : l[k]?.getD false = true ↔ l[k]? = some true := by
 cases h : l[k]? with
 | none => simp
 | some x => cases x <;> simp
section
variable {f : SFunc} (hf : FuncOk f)
include hf
theorem cyc_iff : cycF f = true ↔ ∃ k p, p ∈ orderF f.blocks ∧ Edge f.blocks p k ∧ Leads f.blocks k p := by
 have ho := order_ok hf.pos hf.edges
 unfold cycF
 rw [Yv]
 constructor
 ·rintro ⟨k, hk, h⟩
  rw [Yr] at hk
  unfold cycK at h
  rw [Yv] at h
  obtain ⟨p, hp, h⟩ := h
  rw [Bool.and_eq_true, getD_true, getD_true] at h
  obtain ⟨i, b, rfl, hb, e, he, hek⟩ := prR_mem.1 hp
  rw [Ybr, Ybn] at h
  obtain ⟨h1, h2⟩ := h
  have h1 := (rounds_iff hf.edges hf.pos).1 h1
  have h2 := (rounds_iff hf.edges hk).1 h2
  exact ⟨k, i, (order_iff hf).2 (leads_way .start h1), ⟨e, by rw [toAt_get hb]; exact he, by omega⟩, h2⟩
 ·rintro ⟨k, p, hp, ⟨e, he, hek⟩, hl⟩
  have hp2 := (order_iff hf).1 hp
  obtain ⟨l, hw⟩ := hp2
  have hpl := ho.lt p hp
  obtain ⟨b, hb⟩ := get_of_lt f.blocks p (by omega)
  rw [toAt_get hb] at he
  have hr := hf.edges b (Yh hb) e he
  refine ⟨k, Yr.2 (by omega), ?_⟩
  unfold cycK
  rw [Yv]
  refine ⟨(p : Int), prR_mem.2 ⟨p, b, by omega, hb, e, he, by omega⟩, ?_⟩
  rw [Bool.and_eq_true, getD_true, getD_true, Ybr]
  exact ⟨(rounds_iff hf.edges hf.pos).2 (way_leads hw), (rounds_iff hf.edges (by omega)).2 hl⟩
theorem no_back (hno : findF f = []) {k v : Nat} : ¬ Back f k v := fun hb => by
 have ho := order_ok hf.pos hf.edges
 have hv := ho.lt v (ho.closed k hb.1 v hb.2.1)
 have h1 : headsF f = [] := List.map_eq_nil_iff.1 hno
 unfold headsF at h1
 rw [List.filter_eq_nil_iff] at h1
 have h2 := h1 (v : Int) (Yf.2 ⟨v, Yr.2 hv, rfl⟩)
 have h3 : (k : Int) ∈ workF f v := Yf.2 ⟨((k : Int), (v : Int)), Yj.2 ⟨(bk_mem hf).2 hb, by simp⟩, rfl⟩
 cases hw : workF f v with
 | nil => rw [hw] at h3; cases h3
 | cons x l => rw [hw] at h2; exact h2 rfl
theorem cyc_law (hno : findF f = []) : redF f = !cycF f := by
 have ho := order_ok hf.pos hf.edges
 rw [Bool.eq_iff_iff, redF_iff, Bool.not_eq_true', Bool.eq_false_iff, ne_eq, cyc_iff hf]
 constructor
 ·rintro ⟨r, hr⟩ ⟨k, p, hp, he, hl⟩
  have hk := ho.closed p hp k he
  have key : ∀ v, Leads f.blocks k v → v ∈ orderF f.blocks ∧ r k ≤ r v := by
   intro v h
   induction h with
   | refl => exact ⟨hk, Ybm _⟩
   | @step q w _ e ih =>
    have := hr q ih.1 w ⟨e, no_back hf hno⟩
    exact ⟨ho.closed q ih.1 w e, by omega⟩
  have h1 := hr p hp k ⟨he, no_back hf hno⟩
  have h2 := (key p hl).2
  omega
 ·intro hc
  classical
  refine ⟨fun v => ((Yk f.blocks.length).filter fun u => decide (Leads f.blocks u v)).length, fun k hk v hkv => ?_⟩
  have hv := ho.lt v (ho.closed k hk v hkv.1)
  have hnot : ¬ Leads f.blocks v k := fun h => hc ⟨v, k, hk, hkv.1, h⟩
  have hn : (v :: (Yk f.blocks.length).filter fun u => decide (Leads f.blocks u k)).Nodup :=
   Yaf.2 ⟨fun h => hnot (of_decide_eq_true (Yj.1 h).2), List.nodup_range.filter _⟩
  have := sub_lenN hn (b := (Yk f.blocks.length).filter fun u => decide (Leads f.blocks u v)) fun x hx => by
   rcases Yc.1 hx with rfl | hx
   ·exact Yj.2 ⟨Yr.2 hv, decide_eq_true .refl⟩
   ·obtain ⟨a, b⟩ := Yj.1 hx
    exact Yj.2 ⟨a, decide_eq_true ((of_decide_eq_true b : Leads f.blocks x k).step hkv.1)⟩
  rw [Yl] at this
  exact this
end
end Go.SM
end
section
namespace Go.SM
open Go.VL
def outE (x : Loop) (k : Nat) : Nat → List SEdge → List (Nat × Nat)
 | _, [] => []
 | n, e :: l => (if isOut x k e = true then [(k, n)] else []) ++ outE x k (n + 1) l
def outB (x : Loop) : Nat → List SBlock → List (Nat × Nat)
 | _, [] => []
 | k, b :: l => outE x k 0 b.term.to ++ outB x (k + 1) l
def outF (f : SFunc) (x : Loop) : List (Nat × Nat) := outB x 0 f.blocks
theorem outE_mem {x : Loop} {k : Nat} {p : Nat × Nat} : ∀ {l : List SEdge} {n : Nat}, p ∈ outE x k n l ↔ ∃ (i : Nat) (e : SEdge), p = (k, n + i) ∧ l[i]? = some e ∧ isOut x k e = true
 | [], n => by simp [outE]
 | d :: l, n => by
  rw [outE, Yi, outE_mem (l := l)]
  constructor
  ·rintro (h | ⟨i, e, rfl, he, ho⟩)
   ·split at h
    ·rename_i ho
     rw [Ye] at h
     exact ⟨0, d, h, rfl, ho⟩
    ·cases h
   ·exact ⟨i + 1, e, by rw [show n + 1 + i = n + (i + 1) by omega], he, ho⟩
  ·rintro ⟨i, e, rfl, he, ho⟩
   cases i with
   | zero =>
    have he : d = e := by simpa using he
    subst he
    exact .inl (by rw [if_pos ho]; exact Ye.2 rfl)
   | succ i => exact .inr ⟨i, e, by rw [show n + 1 + i = n + (i + 1) by omega], he, ho⟩
theorem outB_mem {x : Loop} {v m : Nat} : ∀ {l : List SBlock} {k : Nat}, (v, m) ∈ outB x k l ↔ ∃ (i : Nat) (b : SBlock) (e : SEdge), v = k + i ∧ l[i]? = some b ∧ b.term.to[m]? = some e ∧ isOut x v e = true
 | [], k => by simp [outB]
 | c :: l, k => by
  rw [outB, Yi, outB_mem (l := l), outE_mem]
  constructor
  ·rintro (⟨i, e, hp, he, ho⟩ | ⟨i, b, e, rfl, hb, he, ho⟩)
   ·injection hp with h1 h2
    subst h1
    rw [Ybn] at h2
    subst h2
    exact ⟨0, c, e, rfl, rfl, he, ho⟩
   ·exact ⟨i + 1, b, e, by omega, hb, he, ho⟩
  ·rintro ⟨i, b, e, rfl, hb, he, ho⟩
   cases i with
   | zero =>
    have hb : c = b := by simpa using hb
    subst hb
    exact .inl ⟨m, e, by rw [Ybn]; rfl, he, ho⟩
   | succ i => exact .inr ⟨i, b, e, by omega, hb, he, ho⟩
theorem outF_mem {f : SFunc} {x : Loop} {v m : Nat} : (v, m) ∈ outF f x ↔ ∃ (b : SBlock) (e : SEdge), f.blocks[v]? = some b ∧ b.term.to[m]? = some e ∧ isOut x v e = true := by
 unfold outF
 rw [outB_mem]
 constructor
 ·rintro ⟨i, b, e, hv, hb, he, ho⟩
  have : v = i := by omega
  subst this
  exact ⟨b, e, hb, he, ho⟩
 ·rintro ⟨b, e, hb, he, ho⟩
  exact ⟨v, b, e, by omega, hb, he, ho⟩
def setB (t : List SEdge) (m : Nat) (N : Int) : List SEdge := match t[m]? with
 | some e => t.set m ⟨N, e.args⟩
 | none => t
def stT (N : Int) (T : List (List SEdge)) (p : Nat × Nat) : List (List SEdge) := match T[p.1]? with
 | some t => T.set p.1 (setB t p.2 N)
 | none => T
def tosF (f : SFunc) (L : List Loop) : List (List SEdge) := (redL L f.blocks.length 0 f.blocks).map fun b => b.term.to
theorem tosF_get {f : SFunc} {L : List Loop} {v : Nat} : (tosF f L)[v]? = f.blocks[v]?.map fun b => b.term.to.map (redE L f.blocks.length v) := by
 unfold tosF
 rw [Yp, redL_get, Option.map_map, Ybn]
 rfl
theorem tosF_len (f : SFunc) (L : List Loop) : (tosF f L).length = f.blocks.length := by rw [tosF, Yo, redL_len]
theorem setB_get {t : List SEdge} {m : Nat} {N : Int} {e : SEdge} (h : t[m]? = some e) : setB t m N = t.set m ⟨N, e.args⟩ := by rw [setB, h]
theorem setB_len {t : List SEdge} {m : Nat} {N : Int} : (setB t m N).length = t.length := by
 unfold setB
 split
 ·rw [Yu]
 ·rfl
theorem stT_get {N : Int} {T : List (List SEdge)} {p : Nat × Nat} {t : List SEdge} (h : T[p.1]? = some t) : stT N T p = T.set p.1 (setB t p.2 N) := by rw [stT, h]
theorem stT_fold {N : Int} : ∀ (ps : List (Nat × Nat)) (T : List (List SEdge)), (ps.foldl (stT N) T).length = T.length ∧ ∀ (v : Nat) (t : List SEdge), T[v]? = some t → ∃ t', (ps.foldl (stT N) T)[v]? = some t' ∧ t'.length = t.length ∧ ∀ (m : Nat) (e : SEdge), t[m]? = some e → t'[m]? = some (if (v, m) ∈ ps then ⟨N, e.args⟩ else e)
 | [], T => ⟨rfl, fun v t h => ⟨t, h, rfl, fun m e he => by rw [if_neg (by simp)]; exact he⟩⟩
 | p :: ps, T => by
  obtain ⟨h1, h2⟩ := stT_fold ps (stT N T p)
  have hl : (stT N T p).length = T.length := by
   unfold stT
   split
   ·rw [Yu]
   ·rfl
  refine ⟨h1.trans hl, fun v t hv => ?_⟩
  by_cases hp : p.1 = v
  ·subst hp
   rw [Yad]
   obtain ⟨t', g1, g2, g3⟩ := h2 p.1 (setB t p.2 N) (by rw [stT_get hv, Yaz (Yd.1 hv).1])
   refine ⟨t', g1, g2.trans setB_len, fun m e he => ?_⟩
   by_cases hm : p.2 = m
   ·subst hm
    rw [if_pos (Ya ..)]
    rw [setB_get he] at g3
    have := g3 p.2 ⟨N, e.args⟩ (Yaz (Yd.1 he).1)
    rw [this]
    split <;> rfl
   ·have he2 : (setB t p.2 N)[m]? = some e := by
     unfold setB
     split
     ·rw [Yam hm]; exact he
     ·exact he
    rw [g3 m e he2]
    congr 1
    have hiff : (p.1, m) ∈ p :: ps ↔ (p.1, m) ∈ ps := by
     rw [Yc]
     exact ⟨fun h => h.resolve_left fun h => hm (by rw [← h]), .inr⟩
    by_cases h : (p.1, m) ∈ ps
    ·rw [if_pos h, if_pos (hiff.2 h)]
    ·rw [if_neg h, if_neg (fun h2 => h (hiff.1 h2))]
  ·rw [Yad]
   obtain ⟨t', g1, g2, g3⟩ := h2 v t (by
    unfold stT
    split
    ·rw [Yam hp]; exact hv
    ·exact hv)
   refine ⟨t', g1, g2, fun m e he => ?_⟩
   rw [g3 m e he]
   congr 1
   have hiff : (v, m) ∈ p :: ps ↔ (v, m) ∈ ps := by
    rw [Yc]
    exact ⟨fun h => h.resolve_left fun h => hp (by rw [← h]), .inr⟩
   by_cases h : (v, m) ∈ ps
   ·rw [if_pos h, if_pos (hiff.2 h)]
   ·rw [if_neg h, if_neg (fun h2 => h (hiff.1 h2))]
theorem redT_snoc {L : List Loop} {x : Loop} {k : Nat} {e : SEdge} : redT (L ++ [x]) k e = (redT L k e).or (if isOut x k e = true then some L.length else none) := by
 unfold redT
 rw [List.findIdx?_append]
 congr 1
 by_cases h : isOut x k e = true
 ·rw [if_pos h]
  simp [List.findIdx?_cons, h]
 ·rw [if_neg h]
  simp [List.findIdx?_cons, h]
theorem tos_step {f : SFunc} {L : List Loop} {x : Loop} (hx : x.1 ∉ L.map (·.1)) : (outF f x).foldl (stT ((f.blocks.length + L.length : Nat) : Int)) (tosF f L) = tosF f (L ++ [x]) := by
 obtain ⟨h1, h2⟩ := stT_fold (N := ((f.blocks.length + L.length : Nat) : Int)) (outF f x) (tosF f L)
 apply List.ext_getElem?
 intro v
 by_cases hv : v < f.blocks.length
 ·obtain ⟨b, hb⟩ := get_of_lt f.blocks v (by omega)
  obtain ⟨t', g1, g2, g3⟩ := h2 v (b.term.to.map (redE L f.blocks.length v)) (by rw [tosF_get, hb]; rfl)
  rw [g1, tosF_get, hb, Option.map_some]
  congr 1
  apply List.ext_getElem?
  intro m
  by_cases hm : m < b.term.to.length
  ·obtain ⟨e, he⟩ := get_of_lt b.term.to m (by omega)
   rw [g3 m (redE L f.blocks.length v e) (by rw [Yp, he]; rfl), Yp, he, Option.map_some]
   congr 1
   have hmem : (v, m) ∈ outF f x ↔ isOut x v e = true := by
    rw [outF_mem]
    constructor
    ·rintro ⟨c, d, hc, hd, ho⟩
     rw [hb] at hc
     injection hc with hc
     subst hc
     rw [he] at hd
     injection hd with hd
     subst hd
     exact ho
    ·intro ho
     exact ⟨b, e, hb, he, ho⟩
   by_cases ho : isOut x v e = true
   ·rw [if_pos (hmem.2 ho)]
    have hn : redT L v e = none := by
     cases hr : redT L v e with
     | none => rfl
     | some i =>
      exfalso
      obtain ⟨y, hy, hyo⟩ := red_some hr
      have a1 := (out_iff.1 hyo).1
      have a2 := (out_iff.1 ho).1
      exact hx (Yf.2 ⟨y, Yh hy, by rw [← a1, a2]⟩)
    unfold redE
    rw [redT_snoc, hn, if_pos ho]
    rfl
   ·rw [if_neg (fun h => ho (hmem.1 h))]
    unfold redE
    rw [redT_snoc, if_neg ho]
    cases redT L v e <;> rfl
  ·rw [Yal (by rw [g2, Yo]; omega), Yal (by rw [Yo]; omega)]
 ·rw [Yal (by rw [h1, tosF_len]; omega), Yal (by rw [tosF_len]; omega)]
def skipB (f : SFunc) (x : Loop) : Bool := match outF f x with
 | [p] => decide ((toAt f.blocks p.1).length = 1)
 | _ => false
def preI (f : SFunc) (i : Nat) : List Loop := ((findF f).take i).filter fun x => !skipB f x
def preL (f : SFunc) : List Loop := (findF f).filter fun x => !skipB f x
def preF (f : SFunc) : SFunc := preG f (preL f)
theorem preI_end (f : SFunc) : preI f (findF f).length = preL f := by rw [preI, List.take_length]; rfl
theorem preI_skip {f : SFunc} {i : Nat} {x : Loop} (h : (findF f)[i]? = some x) (hs : skipB f x = true) : preI f (i + 1) = preI f i := by
 unfold preI
 rw [take_snoc h, List.filter_append, Yav, hs]
 exact Yax _
theorem preI_new {f : SFunc} {i : Nat} {x : Loop} (h : (findF f)[i]? = some x) (hs : skipB f x = false) : preI f (i + 1) = preI f i ++ [x] := by
 unfold preI
 rw [take_snoc h, List.filter_append, Yav, hs]
 rfl
theorem preI_len {f : SFunc} {i : Nat} : (preI f i).length ≤ i := Ybq (Yag ..) (List.length_take_le ..)
theorem find_heads (f : SFunc) : (findF f).map (·.1) = headsF f := by
 unfold findF
 rw [Yap]
 exact List.map_id _
theorem loopsOf_pre (f : SFunc) : LoopsOf f (preL f) := ⟨fun x hx => (Yj.1 hx).1, by
 have h := heads_nodup f
 rw [← find_heads] at h
 exact h.sublist (List.filter_sublist.map _)⟩
theorem preI_fresh {f : SFunc} {i : Nat} {x : Loop} (h : (findF f)[i]? = some x) : x.1 ∉ (preI f i).map (·.1) := fun hm => by
 obtain ⟨y, hy, e⟩ := Yf.1 hm
 have hy2 := (Yj.1 hy).1
 obtain ⟨j, hj⟩ := Ybb hy2
 rw [List.getElem?_take] at hj
 split at hj
 ·rename_i hji
  have hn := heads_nodup f
  rw [← find_heads] at hn
  have a1 : ((findF f).map (·.1))[j]? = some y.1 := by rw [Yp, hj]; rfl
  have a2 : ((findF f).map (·.1))[i]? = some x.1 := by rw [Yp, h]; rfl
  have : j = i := (List.getElem?_inj (Yd.1 a1).1 hn).1 (a1.trans (by rw [e]; exact a2.symm))
  omega
 ·cases hj
theorem newBs_snoc (bs : List SBlock) : ∀ (L : List Loop) (fr : Int) (x : Loop), newBs bs fr (L ++ [x]) = newBs bs fr L ++ [preB (frAt bs fr L) (parN bs x) x.1]
 | [], fr, x => rfl
 | y :: l, fr, x => by rw [Yt, newBs, newBs, newBs_snoc bs l]; rfl
theorem frAt_snoc (bs : List SBlock) (L : List Loop) (fr : Int) (x : Loop) : frAt bs fr (L ++ [x]) = frAt bs fr L + (parN bs x : Nat) := by rw [frAt_app]; rfl
theorem newP_succ (fr : Int) (n : Nat) : newP fr (n + 1) = newP fr n ++ [fr + (n : Nat)] := by
 unfold newP
 rw [List.range_succ, Ys]
 rfl
theorem newP_len (fr : Int) (n : Nat) : (newP fr n).length = n := by rw [newP, Yo, Yaw]
theorem frAt_small {bs : List SBlock} (hb : ∀ b ∈ bs, b.params.length ≤ 10000) : ∀ (L : List Loop) (fr : Int), frAt bs fr L ≤ fr + (L.length * 10000 : Nat)
 | [], fr => by show fr ≤ _; omega
 | x :: l, fr => by
  have h1 := frAt_small hb l (fr + (parN bs x : Nat))
  have h2 : parN bs x ≤ 10000 := by
   unfold parN paramsOf
   cases h : bs[x.1.toNat]? with
   | none => exact Ybp _
   | some b => exact hb b (Yh h)
  show frAt bs (fr + (parN bs x : Nat)) l ≤ _
  rw [Yl]
  omega
theorem parN_get {bs : List SBlock} {x : Loop} {b : SBlock} (h : bs[x.1.toNat]? = some b) : parN bs x = b.params.length := by
 unfold parN paramsOf
 rw [h]
 rfl
end Go.SM
end
section
namespace Go.SM
open Go.VL
end Go.SM
end
section
namespace Go.SM
open Go.VL
end Go.SM
end
section
namespace Go.SM
open Go.VL
def renT (r : Int → Int) (t : STerm) : STerm := { t with to := t.to.map fun e => ⟨r e.block, e.args⟩ }
structure Ren (u v : SUnit) (ρ : Int → Int → Int) (good : Int → Int → Prop) : Prop where
 main : v.main = u.main
 entry : ∀ k, entryOf v k = entryOf u k
 zero : ∀ fn, good fn 0 ∧ ρ fn 0 = 0
 blk : ∀ fn k, good fn k → (blockAt v fn (ρ fn k)).params = (blockAt u fn k).params ∧ (blockAt v fn (ρ fn k)).ins = (blockAt u fn k).ins ∧ (blockAt v fn (ρ fn k)).term = renT (ρ fn) (blockAt u fn k).term ∧ ∀ e ∈ (blockAt u fn k).term.to, good fn e.block
section
variable {u v : SUnit} {ρ : Int → Int → Int} {good : Int → Int → Prop} (h : Ren u v ρ good)
end
end Go.SM
end
section
namespace Go.SM
open Go.VL
structure RangeOk (bs : List SBlock) (many : Nat) : Prop where
 to : ∀ b ∈ bs, ∀ i ∈ b.ins, 0 ≤ i.to ∧ i.to < many
 args : ∀ b ∈ bs, ∀ i ∈ b.ins, ∀ a ∈ i.args, 0 ≤ a ∧ a < many
 arg : ∀ b ∈ bs, b.term.kind ≠ 1 ∧ b.term.kind ≠ 4 → 0 ≤ b.term.arg ∧ b.term.arg < many
 eargs : ∀ b ∈ bs, ∀ e ∈ b.term.to, ∀ a ∈ e.args, 0 ≤ a ∧ a < many
 edge : ∀ b ∈ bs, ∀ e ∈ b.term.to, 1 ≤ e.block ∧ e.block < bs.length
end Go.SM
end
section
namespace Go.SM
open Go.VL
def mainF (u : SUnit) : SFunc := u.fns[u.main.toNat]?.getD default
def frU (u : SUnit) : Int := freshF (mainF u).blocks
theorem vget_vput (k : Int) (v : Val) (x : Int) : ∀ m : Vals, vget (vput m k v) x = if k = x then v else vget m x
 | [] => by
  show (if k = x then v else vget [] x) = _
  rfl
 | (j, a) :: m => by
  rw [vput]
  by_cases hj : j = k
  ·subst hj
   rw [if_pos rfl, vget, vget]
   by_cases hx : j = x
   ·rw [if_pos hx, if_pos hx]
   ·rw [if_neg hx, if_neg hx, if_neg hx]
  ·rw [if_neg hj, vget, vget_vput k v x m, vget]
   by_cases hx : j = x
   ·rw [if_pos hx, if_neg (by omega), if_pos hx]
   ·rw [if_neg hx, if_neg hx]
def Agree (q : Int → Prop) (m m' : Vals) : Prop := ∀ x, q x → vget m' x = vget m x
theorem Agree.put {q : Int → Prop} {m m' : Vals} (h : Agree q m m') (k : Int) (v : Val) : Agree q (vput m k v) (vput m' k v) := fun x hx => by
 rw [vget_vput, vget_vput, h x hx]
theorem Agree.take {q : Int → Prop} {m m' : Vals} (h : Agree q m m') {l : List Int} (hl : ∀ a ∈ l, q a) : takeF m' l = takeF m l := List.map_congr_left fun a ha => h a (hl a ha)
def inB (u : SUnit) (f : MFrame) : Prop := f.fn = u.main ∧ f.block = 0
open Classical in
noncomputable def shF (u : SUnit) (f : MFrame) : Int := if inB u f then 1 else 0
def okX (u : SUnit) (f : MFrame) (x : Int) : Prop := f.fn = u.main → x ≠ frU u
structure FR (u : SUnit) (f f' : MFrame) : Prop where
 fn : f'.fn = f.fn
 block : f'.block = f.block
 to : f'.to = f.to
 at_ : f'.at_ = f.at_ + shF u f
 vals : Agree (okX u f) f.vals f'.vals
inductive SR (u : SUnit) : List MFrame → List MFrame → Prop where
 | nil : SR u [] []
 | cons {f f' : MFrame} {fs fs' : List MFrame} : FR u f f' → SR u fs fs' → SR u (f :: fs) (f' :: fs')
inductive PR (u : SUnit) : List MFrame → List MFrame → Prop where
 | mk {f : MFrame} {fs fs' : List MFrame} : inB u f → f.at_ = 0 → SR u fs fs' → PR u (f :: fs) (f :: fs')
section
variable {u : SUnit} {w : Int} (hu : unitF u = 0)
include hu
end
end Go.SM
end
