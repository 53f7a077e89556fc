import Derived.Test.YtjekhhgjfelpgaaGreatX12
set_option linter.all false
open List renaming length_append → Ya, append_nil → Yb, length_map → Yc, map_set → Yd, append_assoc → Ye, perm_append_comm → Yf, getElem?_eq_none → Yg, mem_singleton → Yh, getElem?_append_right → Yi, take_append_of_le_length → Yj
open Nat renaming le_refl → Yk, mul_one → Yl
namespace Go.Proofs.YtjekhhgjfelpgaaGreat.X13
open Go.VL Go.SM Go.Proofs.YtjekhhgjfelpgaaGreat X1 X2 X3 X4 X5 X6 X7 X8 X9 X10 X12
def stk0 (st : List (Nat × Nat)) : List V := st.reverse.flatMap fun p => [V.int p.1, V.int p.2]
def stkL (st : List (Nat × Nat)) (rest : List V) : List V := stk0 st ++ rest
theorem stk0_cons (b e : Nat) (tl : List (Nat × Nat)) : stk0 ((b, e) :: tl) = stk0 tl ++ [V.int b, V.int e] := by simp [stk0]
theorem stk0_len : ∀ st : List (Nat × Nat), (stk0 st).length = st.length * 2
  | [] => rfl
  | (b, e) :: st => by simp only [stk0_cons, Ya, stk0_len st, List.length_cons, List.length_nil]; omega
theorem flat_false (n : Nat) : (List.replicate n (V.raw (.bool false))).flatMap V.leaves = List.replicate n (V.bool false) := by
  induction n with
  | zero => rfl
  | succ n ih => rw [List.replicate_succ, List.flatMap_cons, ih]; rfl
theorem stkL_cons (b e : Nat) (tl : List (Nat × Nat)) (rest : List V) : stkL ((b, e) :: tl) rest = stk0 tl ++ ([V.int b, V.int e] ++ rest) := by rw [stkL, stk0_cons, Ye]
theorem stk_get0 (b e : Nat) (tl : List (Nat × Nat)) (rest : List V) : (stkL ((b, e) :: tl) rest)[tl.length * 2]? = some (V.int b) := by
  rw [stkL_cons, Yi (by rw [stk0_len]; exact Yk _), stk0_len, Nat.sub_self]
  rfl
theorem stk_get1 (b e : Nat) (tl : List (Nat × Nat)) (rest : List V) : (stkL ((b, e) :: tl) rest)[tl.length * 2 + 1]? = some (V.int e) := by
  rw [stkL_cons, Yi (by rw [stk0_len]; omega), stk0_len, show tl.length * 2 + 1 - tl.length * 2 = 1 by omega]
  rfl
theorem stk_ble (b e : Nat) (tl : List (Nat × Nat)) (rest : List V) : Nat.ble (tl.length * 2 + 1 + 1) (stkL ((b, e) :: tl) rest).length = true := Nat.ble_eq_true_of_le (by rw [stkL_cons, Ya, stk0_len]; simp; omega)
theorem stk_set (b e : Nat) (tl : List (Nat × Nat)) (rest : List V) : (stkL ((b, e) :: tl) rest).set (tl.length * 2 + 1) (V.int ((e : Int) + 1)) = stkL ((b, e + 1) :: tl) rest := by
  rw [stkL_cons, stkL_cons, List.set_append_right _ _ (by rw [stk0_len]; omega), stk0_len, show tl.length * 2 + 1 - tl.length * 2 = 1 by omega]
  rfl
theorem stk_pop (b e : Nat) (tl : List (Nat × Nat)) (rest : List V) : stkL ((b, e) :: tl) rest = stkL tl ([V.int b, V.int e] ++ rest) := by rw [stkL_cons, stkL]
theorem stk_push (n : Int) (k : Nat) (hk : n = k) (st : List (Nat × Nat)) (rest rest' : List V) : (stkL st rest).take (st.length * 2) ++ ([V.int n, V.int 0] ++ rest') = stkL ((k, 0) :: st) rest' := by
  subst hk
  rw [stkL_cons, stkL, Yj (by rw [stk0_len]; exact Yk _), List.take_of_length_le (by rw [stk0_len]; exact Yk _)]
  rfl
theorem stkL_len (st : List (Nat × Nat)) (rest : List V) : (stkL st rest).length = st.length * 2 + rest.length := by rw [stkL, Ya, stk0_len]
theorem bools_set (l : List Bool) (k : Nat) (b : Bool) : (l.map V.bool).set k (V.bool b) ++ [] = (l.set k b).map V.bool := by rw [Yb, Yd]
theorem get_bool {l : List Bool} {k : Nat} {b : Bool} (h : l[k]? = some b) : (l.map V.bool)[k]? = some (V.bool b) := by simp [h]
theorem perm_clo {m o r : Own} {O : Store} : (m :: o :: r :: O).Perm (O ++ [m, o, r]) := Yf (l₁ := [m, o, r])
theorem drop_clo {m o r : Own} {O : Store} : Drops (O ++ [m, o, r]) (m :: o :: r :: O) := Drops.of_perm (Yf (l₂ := [m, o, r]))
def natsX (l : List Nat) : List V := (l.map fun (k : Nat) => (k : Int)).map V.int
theorem natsX_len (l : List Nat) : (natsX l).length = l.length := by simp [natsX]
theorem natsX_app (l : List Nat) (k : Nat) : natsX (l ++ [k]) = natsX l ++ [V.int k] := by simp [natsX]
def ordS (g : Nat) : Option (Nat × Nat × List V) → List Nat → Store
  | none, l => [.cells g 41 [.raw (.slice none 0 0)]]
  | some (gs, cap, rest), l => [.cells g 41 [.raw (.slice (some ⟨gs, 0, none⟩) l.length cap)], .cells gs 3 (natsX l ++ rest)]
def ordOk : Option (Nat × Nat × List V) → List Nat → Prop
  | none, l => l = []
  | some (gs, cap, rest), l => (natsX l ++ rest).length = cap ∧ l.length ≤ cap ∧ cap ≤ maxLen
theorem ordOk_some {x : Option (Nat × Nat × List V)} {l : List Nat} (h : ordOk x l) (hl : l ≠ []) : ∃ y, x = some y := by
  cases x with
  | none => exact absurd h hl
  | some y => exact ⟨y, rfl⟩
theorem rev_step {l c : List Int} {i : Nat} {x y : Int} (hc : c.length = l.length) (hget : ∀ t, t < l.length → c[t]? = if t < i ∨ l.length - i ≤ t then l[l.length - 1 - t]? else l[t]?) (hi : i < l.length - 1 - i) (hx : c[i]? = some x) (hy : c[l.length - 1 - i]? = some y) :
    ∀ t, t < l.length → ((c.set i y).set (l.length - 1 - i) x)[t]? = if t < i + 1 ∨ l.length - (i + 1) ≤ t then l[l.length - 1 - t]? else l[t]? := fun t ht => by
  rw [hget i (by omega), if_neg (by omega)] at hx
  rw [hget _ (by omega), if_neg (by omega)] at hy
  rw [List.getElem?_set]
  split
  · rename_i e
    subst e
    rw [if_pos (by rw [List.length_set, hc]; omega), if_pos (by omega), ← hx]
    congr 1
    omega
  · rw [List.getElem?_set]
    split
    · rename_i e
      subst e
      rw [if_pos (by omega), if_pos (by omega), ← hy]
    · rw [hget t ht]
      by_cases h : t < i ∨ l.length - i ≤ t
      · rw [if_pos h, if_pos (by omega)]
      · rw [if_neg h, if_neg (by omega)]
theorem rev_done {l c : List Int} {i : Nat} (hc : c.length = l.length) (hget : ∀ t, t < l.length → c[t]? = if t < i ∨ l.length - i ≤ t then l[l.length - 1 - t]? else l[t]?) (hi : l.length - 1 - i ≤ i) : c = l.reverse := by
  apply List.ext_getElem?
  intro t
  by_cases ht : t < l.length
  · rw [hget t ht, List.getElem?_reverse ht]
    split
    · rfl
    · congr 1
      omega
  · rw [Yg (by omega), Yg (by rw [List.length_reverse]; omega)]
theorem flat_ints (l : List Int) : (l.map V.int).flatMap V.leaves = l.map V.int := by
  induction l with
  | nil => rfl
  | cons a l ih => rw [List.map_cons, List.flatMap_cons, ih]; rfl
theorem flat_fits (l : List Int) : ∀ x ∈ l.map V.int, x.fits 1 = true ∧ ((∃ ls, x = .agg ls) ∨ x.leaf = true) := fun x hx => by
  obtain ⟨n, _, rfl⟩ := List.mem_map.1 hx
  exact ⟨rfl, .inr rfl⟩
set_option maxRecDepth 100000 in
theorem leave0_c (g : Nat) (k : Nat) : VCalls Tryz.prog 73 [.int k, .ptr g 0] (ordS g none []) fun r S' => ∃ x, S' = ordS g (some x) [k] ∧ ordOk (some x) [k] := by
 refine VCalls_drops ?_
 refine V_start (nt := 7) Tryz.func73 rfl rfl rfl ?_
 refine Zd (Zc (Zu 0 VT.ty41 rfl rfl rfl (Zc (Zl rfl ?_))))
 refine Zc (Zk3 [.tmp 4] VT.sl41 rfl rfl rfl rfl rfl ?_)
 refine Zc (V_appendRowL VT.sl41 (by decide) rfl rfl (by simp) (by simp) (by intro y hy; rw [Yh.1 hy]; rfl) (fun g6 cap6 rest6 hc6 hm6 hl6 => ?_))
 refine Zc (Zy 1 VT.ty41 rfl rfl rfl rfl rfl (Za ?_))
 refine Zn3 rfl ?_
 refine ⟨_, (Drops.pick 1 rfl rfl (Drops.pick 0 rfl rfl (Drops.nil _))), (g6, cap6, rest6), rfl, ?_, hc6, hm6⟩
 exact hl6.trans (Yl _)
set_option maxRecDepth 100000 in
theorem leave1_c (g gs cap : Nat) (rest : List V) (l : List Nat) (k : Nat) (hl : l.length ≤ 1000000) (hok : ordOk (some (gs, cap, rest)) l) : VCalls Tryz.prog 73 [.int k, .ptr g 0] (ordS g (some (gs, cap, rest)) l) fun r S' => ∃ x, S' = ordS g (some x) (l ++ [k]) ∧ ordOk (some x) (l ++ [k]) := by
 refine VCalls_drops ?_
 obtain ⟨hll, hlc, hcm⟩ := hok
 have htk : (natsX l ++ rest).take (l.length * 1) = natsX l := by rw [Yl, Yj (by rw [natsX_len]; exact Yk _), List.take_of_length_le (by rw [natsX_len]; exact Yk _)]
 refine V_start (nt := 7) Tryz.func73 rfl rfl rfl ?_
 refine Zd (Zc (Zu 0 VT.ty41 rfl rfl rfl (Zc (Zl rfl ?_))))
 refine Zc (Zk3 [.tmp 4] VT.sl41 rfl rfl rfl rfl rfl ?_)
 refine Zc (V_appendRaw 1 VT.sl41 (by decide) rfl rfl rfl (by rw [hll, Yl]) hlc hcm (by simp; omega) (by intro y hy; rw [Yh.1 hy]; rfl) (fun g6 cap6 rest6 hc6 hm6 hl6 => ?_))
 refine Zc (Zy 0 VT.ty41 rfl rfl rfl rfl rfl (Za ?_))
 refine Zn3 rfl ?_
 rw [htk] at hl6
 refine ⟨_, (Drops.keep (Drops.keep (Zt2 _))), (g6, cap6, rest6), ?_, ?_, ?_, hm6⟩
 · rw [htk, ordS, natsX_app, Ye, Ya]; rfl
 · rw [natsX_app, Ye]; exact hl6.trans (Yl _)
 · rw [Ya]; exact hc6
theorem leave_c (g : Nat) (x : Option (Nat × Nat × List V)) (l : List Nat) (k : Nat) (h : ordOk x l) (hl : l.length ≤ 128) : VCalls Tryz.prog 73 [.int k, .ptr g 0] (ordS g x l) fun r S' => ∃ x, S' = ordS g x (l ++ [k]) ∧ ordOk x (l ++ [k]) := by
  cases x with
  | none =>
    have h : l = [] := h
    subst h
    exact (leave0_c g k).mono fun r S' ⟨x, h1, h2⟩ => ⟨some x, h1, h2⟩
  | some x => exact (leave1_c g x.1 x.2.1 x.2.2 l k (Nat.le_trans hl (by omega)) h).mono fun r S' ⟨x, h1, h2⟩ => ⟨some x, h1, h2⟩
set_option maxRecDepth 100000 in
set_option maxHeartbeats 8000000 in
theorem search_c (name : Int) (bs : List SBlock) (h0 : 0 < bs.length) (h128 : bs.length ≤ 128) (hE : ∀ b ∈ bs, ∀ e ∈ b.term.to, 1 ≤ e.block ∧ e.block < bs.length) {c : FuncId} {caps : List V} (hen : Enters Tryz.prog c) {ι : Type} (O : ι → List Nat → Store) (Ok : ι → List Nat → Prop) (tok0 : ι) (hok0 : Ok tok0 []) (hc : ∀ tok l k, Ok tok l → l.length ≤ 128 → VCalls Tryz.prog c (.int (k : Nat) :: caps) (O tok l) fun r S' => ∃ tok', S' = O tok' (l ++ [k]) ∧ Ok tok' (l ++ [k])) : VCalls Tryz.prog 72 [.agg [.int name, blocksX bs], .clo (.func c) caps] (O tok0 []) fun r S' => ∃ tok', S' = O tok' (postF bs) ∧ Ok tok' (postF bs) := by
 refine VCalls_drops ?_
 refine V_start (nt := 81) Tryz.func72 rfl rfl rfl ?_
 refine Zb (Zd ?_)
 refine Zc (Zc2 rfl rfl (fun g2 => ?_))
 refine Za (Zi (Zb (Zd (Zc (Zj VT.fa34_1 rfl (Zc (Zu 0 VT.ty32 rfl rfl rfl ?_)))))))
 refine Zc (Zd2 (n := bs.length) Tryz.underlying32 rfl (by simp) (fun hl11 => ?_))
 refine Zc (V_makeRow (.raw (.bool false)) (fun m => rfl) rfl VT.sl56 rfl rfl (by omega) (by omega) (fun g12 => ?_))
 refine Zc (Zk rfl (Za (Zi ?_)))
 rw [flat_false, Int.toNat_natCast]
 refine Zb (Zd (Zc (Zl rfl ?_)))
 refine Zc (Zr2 VT.sl56 rfl rfl (by omega) (by omega) ?_)
 refine Zc (Zh3 0 0 VT.ty4 rfl (by simp) rfl rfl rfl (Yb _).symm (by simp; omega) ?_)
 refine Za (Zi (Zb (Zd ?_)))
 refine Zc (Zf2 [] [] VT.st167 rfl rfl rfl rfl ?_)
 refine Zc (V_litRow [.tmp 15] VT.sl168 rfl rfl rfl rfl rfl (fun g16 => ?_))
 refine Zc (Zk rfl (Za (Zi (Zs ?_))))
 refine Zi2 (ι := Nat × DState × Nat × Nat × List V × ι) (fun (m, s, gs, cap, rest, tok) => m) (fun (m, s, gs, cap, rest, tok) => [(1, some (.clo (.func c) caps)), (2, some (.ptr g2 0)), (4, some (.raw (.slice (some ⟨g12, 0, none⟩) bs.length bs.length))), (5, some (.raw (.slice (some ⟨gs, 0, none⟩) s.stack.length cap)))]) (fun (m, s, gs, cap, rest, tok) => .cells gs 167 (stkL s.stack rest) :: .cells g12 4 (s.seen.map V.bool) :: .cells g2 34 [.int name, blocksX bs] :: O tok s.out) (fun (m, s, gs, cap, rest, tok) => (dfsRun bs m s).out = postF bs ∧ DfsInv bs s ∧ dfsW bs s ≤ m ∧ (stkL s.stack rest).length = cap * 2 ∧ s.stack.length ≤ cap ∧ cap ≤ maxLen ∧ Ok tok s.out) (edgesN bs + bs.length, dfsStart bs.length, g16, 1, [], tok0) ⟨rfl, start_inv h0, by rw [start_weight h0]; exact Yk _, rfl, Yk _, by simp only [maxLen]; omega, hok0⟩ ⟨rfl, rfl, rfl, rfl, trivial⟩ (Drops.keep (Drops.keepE (congrArg (Own.cells g12 4) (by rw [Yb]; simp [dfsStart, Yd])) (Drops.keep (Zt2 _)))) ?_
 rintro ⟨m, ⟨seen, stack, out⟩, gs, cap, rest, tok⟩ hA
 obtain ⟨hgo, hI, hw, hll, hlc, hcm, hok⟩ := hA
 dsimp only at hgo hI hw hll hlc hcm hok
 have hsl := (dfs_small hI).1
 have hol := Nat.le_trans (dfs_small hI).2 h128
 refine Zb (Zb (Zd (Zc (Zl rfl ?_))))
 refine Zc (Zu2 (V_len_raw Tryz.underlying168 rfl ⟨rfl, rfl⟩) ((V.le.refl _ : V.le _ (.int (stack.length : Int)))) ?_)
 refine Zc (Zj1 rfl rfl rfl (Za (Zi ?_)))
 refine Zn1 rfl (fun h19 => ?_) (fun h19 => ?_)
 ·
  obtain ⟨p, tl, rfl⟩ := List.exists_cons_of_ne_nil (l := stack) (fun e => by subst e; simp at h19)
  obtain ⟨b, e⟩ := p
  have hp := hI.stk (b, e) (List.mem_cons_self ..)
  dsimp only at hp
  obtain ⟨bl, hbl⟩ := get_of_lt bs b (by omega)
  have hto := toAt_get hbl
  rw [hto] at hp
  have hne : (DState.mk seen ((b, e) :: tl) out).stack ≠ [] := by simp
  have hw1 := step_w hI.toDfsInv0 hne
  obtain ⟨m, rfl⟩ : ∃ j, m = j + 1 := ⟨m - 1, by omega⟩
  rw [dfsRun, if_neg hne] at hgo
  have hI2 := step_inv hE hI
  have hse : dfsStep bs ⟨seen, (b, e) :: tl, out⟩ = _ := dfsStep.eq_def bs ⟨seen, (b, e) :: tl, out⟩
  dsimp only at hse
  rw [hto] at hse
  simp only [List.length_cons] at hlc hsl
  refine Zi1 (Zi (Zs (Zb (Zd (Zc (Zl rfl (Zc (Zl rfl ?_))))))))
  refine Zc (Zu2 (V_len_raw Tryz.underlying168 rfl ⟨rfl, rfl⟩) ((V.le.refl _ : V.le _ (.int ((tl.length + 1 : Nat) : Int)))) ?_)
  refine Zc (Zu2 (Zk2 rfl rfl (by omega) ⟨rfl, rfl⟩) ((V.le.of_eq (congrArg V.int (show ((tl.length + 1 : Nat) : Int) - 1 = (tl.length : Int) by omega)) : V.le _ (.int (tl.length : Int)))) ?_)
  refine Zc (Zu2 (Zr2 VT.sl168 rfl rfl (by omega) (by show (tl.length : Int) < ((tl.length + 1 : Nat) : Int); omega) ⟨rfl, rfl⟩) ((V.le.of_eq (congrArg (V.ptr gs) (by simp)) : V.le _ (.ptr gs (tl.length * 2)))) ?_)
  refine Zc (Zk rfl (Za (Zi (Zb ?_))))
  refine VW_drawR (G := Unit) [([], [2], []), ([0], [25], []), ([], [6], []), ([2], [27], []), ([3, 2], [28], []), ([4, 3, 2], [29], []), (dn 6, [26, 30], []), (dn 7, [31], []), (dn 8, [32], []), (dn 9, [33], []), (dn 10, [34], [])] [] (constSt _) [7] [7, 25, 26, 27, 28, 29, 30, 31, 32, 33, 34] rfl VT.mix ?_
  refine ZA (fun γ => Zf (fun _ h2 => Ze (Zn rfl (Zj VT.fa34_1 h2 z0)))) ?_
  refine ZA (fun γ => Zw 0 0 rfl (fun _ h25 => Ze (Zn rfl (Zu 2 VT.ty32 h25 rfl rfl z0)))) ?_
  refine ZA (fun γ => Zf (fun _ h6 => Ze (Zn rfl (Zl h6 z0)))) ?_
  refine ZA (fun γ => Zw 2 0 rfl (fun _ h27 => Ze (Zn rfl (Zv1 h27 z0)))) ?_
  refine ZA (fun γ => Zw 3 0 rfl (fun _ h28 => Ze (Zn rfl (Zj VT.fa167_0 h28 z0)))) ?_
  refine ZA (fun γ => Zw 4 0 rfl (fun _ h29 => Ze (Zn rfl (Zu 0 VT.ty3 h29 rfl (stk_get0 b e tl rest) z0)))) ?_
  refine Zp (Zb3 _) (Zq (fun γ => Zw 1 4 rfl (fun _ h26 => Zw 5 0 rfl (fun _ h30 => Ze (Zn rfl (Zz (el := blockV bl) VT.sl32 h26 h30 (by omega) (get_mapS _ hbl) (fun a31 => ⟨⟨_, rfl⟩, rfl⟩))))))) ?_
  refine Zp (Zb3 _) (Zq (fun γ => Zw 6 0 rfl (fun _ h31 => Ze (Zc3 h31 (fun a_31 e31 => Zn rfl (Zs2 VT.fa50_2 e31 ⟨⟨_, rfl⟩, rfl⟩)))))) ?_
  refine Zp (Zb3 _) (Zq (fun γ => Zw 7 0 rfl (fun _ h32 => Ze (Zc3 h32 (fun a_32 e32 => Zn rfl (Zw1 VT.fa47_4 e32 rfl ⟨⟨_, rfl⟩, rfl⟩)))))) ?_
  refine ZA (fun γ => Zw 8 0 rfl (fun _ h33 => Ze (Zc3 h33 (fun a_33 e33 => Zn rfl (Zz1 VT.ty45 e33 rfl z0))))) ?_
  refine ZA (fun γ => Zw 9 0 rfl (fun _ h34 => Ze (Zn rfl (Zk h34 z0)))) ?_
  refine DrawP_nil (fun γ => Zw 10 0 rfl (fun r7 h7 => Ze ?_))
  have e7 : r7 = some _ := h7
  subst e7
  clear h7
  refine Zi (Zb (Zb (Zd (Zc (Zl rfl (Zc (Zv1 rfl (Zc (Zj VT.fa167_1 rfl ?_)))))))))
  refine Zc (Zu 0 VT.ty3 rfl rfl (stk_get1 b e tl rest) ?_)
  refine Zc (Zl rfl ?_)
  refine Zc (Zd2 (n := bl.term.to.length) Tryz.underlying45 rfl (by simp) (fun hl40 => ?_))
  refine Zc (Zj1 rfl rfl rfl (Za (Zi ?_)))
  refine Zl1 rfl (fun h41 => ?_) (fun h41 => ?_)
  ·
   have hnone : bl.term.to[e]? = none := Yg (by omega)
   rw [hnone] at hse
   dsimp only at hse
   rw [hse] at hgo hI2 hw1
   have hll2 := hll
   rw [stk_pop] at hll2
   have hle2 : tl.length ≤ cap := by omega
   have hcm2 := hcm
   refine Zb (Zd (Zc (Zl rfl (Zc (Zl rfl (Zc (Zv1 rfl (Zc (Zj VT.fa167_0 rfl ?_)))))))))
   refine Zc (Zu 0 VT.ty3 rfl rfl (stk_get0 b e tl rest) ?_)
   refine Zc (V_callCloG [.tmp 46] (O tok out) [_, _, _] rfl rfl rfl hen perm_clo (hc tok out b hok hol) ?_)
   rintro r Sa ⟨tok2, rfl, hok2⟩
   refine ⟨_, drop_clo, ?_⟩
   refine Za (Zi (Zb (Zd (Zc (Zl rfl (Zc (Zl rfl ?_)))))))
   refine Zc (Zu2 (V_len_raw Tryz.underlying168 rfl ⟨rfl, rfl⟩) ((V.le.refl _ : V.le _ (.int ((tl.length + 1 : Nat) : Int)))) ?_)
   refine Zc (Zu2 (Zk2 rfl rfl (by omega) ⟨rfl, rfl⟩) ((V.le.of_eq (congrArg V.int (show ((tl.length + 1 : Nat) : Int) - 1 = (tl.length : Int) by omega)) : V.le _ (.int (tl.length : Int)))) ?_)
   refine Zc (V_slice_rawTo VT.sl168 rfl rfl (by omega) (by omega) ?_)
   refine Zc (Zk rfl (Za (Zi (Zt (Ze1 (Zc1 (Zi ?_)))))))
   exact ⟨(m, ⟨seen, tl, out ++ [b]⟩, gs, cap, [V.int b, V.int e] ++ rest, tok2), (by (try simp only []); omega), ⟨hgo, hI2, by omega, hll2, hle2, hcm2, hok2⟩, ⟨rfl, rfl, rfl, rfl, trivial⟩, (Drops.keepE (by first | rfl | exact congrArg (Own.cells gs 167) (stk_pop b e tl rest) | exact congrArg (Own.cells g80 167) hpush) (Drops.keepE (by first | rfl | exact congrArg (Own.cells g12 4) (bools_set _ _ _)) (Drops.keep (Zt2 _))))⟩
  ·
   obtain ⟨x, hx⟩ := get_of_lt bl.term.to e (by omega)
   obtain ⟨hx1, hx2⟩ := hE bl (List.mem_of_getElem? hbl) x (List.mem_of_getElem? hx)
   rw [hx] at hse
   dsimp only at hse
   obtain ⟨sb, hsb⟩ : ∃ v, seen[x.block.toNat]? = some v := ⟨_, List.getElem?_eq_getElem (by rw [hI.len]; omega)⟩
   refine Zi1 (Zi (Zb (Zd (Zc (Zl rfl (Zc (Zl rfl (Zc (Zv1 rfl (Zc (Zj VT.fa167_1 rfl ?_)))))))))))
   refine Zc (Zu 0 VT.ty3 rfl rfl (stk_get1 b e tl rest) ?_)
   refine Zc (Zz (el := edgeV x) VT.sl45 rfl rfl (by omega) (get_mapS _ hx) (fun a58 => ?_))
   refine Zc (Zw1 VT.fa79_0 rfl rfl (Zc (Zz1 VT.ty3 rfl rfl (Zc (Zk rfl (Za (Zi (Zb (Zd (Zc (Zl rfl (Zc (Zv1 rfl (Zc (Zj VT.fa167_1 rfl ?_)))))))))))))))
   refine Zc (Zu 0 VT.ty3 rfl rfl (stk_get1 b e tl rest) ?_)
   refine Zc (Zh2 rfl rfl (by omega) ?_)
   refine Zc (Zv1 rfl (Zc (Zj VT.fa167_1 rfl ?_)))
   refine Zc (Zy 0 VT.ty3 rfl rfl rfl rfl (stk_ble b e tl rest) ?_)
   refine Za (Zi ?_)
   rw [stk_set b e tl rest]
   refine Zb (Zd (Zc (Zl rfl (Zc (Zl rfl ?_)))))
   refine Zc (Zr2 VT.sl56 rfl rfl (by omega) (by omega) ?_)
   refine Zc (Zf3 1 x.block.toNat VT.ty4 rfl (by simp) rfl (Yb _).symm (get_bool hsb) ?_)
   refine Zc (Zl2 rfl (Za (Zi ?_)))
   refine Zo1 rfl (fun h72 => ?_) (fun h72 => ?_)
   ·
    subst h72
    rw [if_pos hsb] at hse
    rw [hse] at hgo hI2 hw1
    refine Zb (Zd (Zc (Zl rfl (Zc (Zl rfl ?_)))))
    refine Zc (Zr2 VT.sl56 rfl rfl (by omega) (by omega) ?_)
    refine Zc (Zh3 1 x.block.toNat VT.ty4 rfl (by simp) rfl rfl rfl (Yb _).symm (by rw [Yc, hI.len]; omega) ?_)
    refine Za (Zi (Zd (Zc (Zl rfl (Zc (Zl rfl ?_))))))
    refine Zc (Zf2 [0] [.tmp 77] VT.st167 rfl rfl rfl rfl ?_)
    refine Zc (Zk3 [.tmp 78] VT.sl168 rfl rfl rfl rfl rfl ?_)
    refine Zc (V_appendRaw 0 VT.sl168 (by decide) rfl rfl rfl (by rw [stkL_len] at hll ⊢; exact hll) hlc hcm (by simp; omega) (by intro y hy; rw [Yh.1 hy]; rfl) (fun g80 cap80 rest80 hc80 hm80 hl80 => ?_))
    have hpush := stk_push x.block x.block.toNat (by omega) ((b, e + 1) :: tl) rest rest80
    have hll2 : (stkL ((x.block.toNat, 0) :: (b, e + 1) :: tl) rest80).length = cap80 * 2 := (congrArg List.length hpush).symm.trans hl80
    have hle2 : tl.length + 1 + 1 ≤ cap80 := hc80
    have hcm2 := hm80
    have hok2 := hok
    refine Zc (Zk rfl (Za (Zb1 (Zi ?_))))
    exact ⟨(m, ⟨seen.set x.block.toNat true, (x.block.toNat, 0) :: (b, e + 1) :: tl, out⟩, g80, cap80, rest80, tok), (by (try simp only []); omega), ⟨hgo, hI2, by omega, hll2, hle2, hcm2, hok2⟩, ⟨rfl, rfl, rfl, rfl, trivial⟩, (Drops.keepE (by first | rfl | exact congrArg (Own.cells gs 167) (stk_pop b e tl rest) | exact congrArg (Own.cells g80 167) hpush) (Drops.keepE (by first | rfl | exact congrArg (Own.cells g12 4) (bools_set _ _ _)) (Drops.keep (Zt2 _))))⟩
   ·
    have hok2 := hok
    subst h72
    rw [if_neg (by rw [hsb]; decide)] at hse
    rw [hse] at hgo hI2 hw1
    have hll2 : (stkL ((b, e + 1) :: tl) rest).length = cap * 2 := by rw [stkL_len] at hll ⊢; exact hll
    have hle2 : tl.length + 1 ≤ cap := hlc
    have hcm2 := hcm
    refine Zi1 (Zb1 (Zi ?_))
    exact ⟨(m, ⟨seen, (b, e + 1) :: tl, out⟩, gs, cap, rest, tok), (by (try simp only []); omega), ⟨hgo, hI2, by omega, hll2, hle2, hcm2, hok2⟩, ⟨rfl, rfl, rfl, rfl, trivial⟩, (Drops.keepE (by first | rfl | exact congrArg (Own.cells gs 167) (stk_pop b e tl rest) | exact congrArg (Own.cells g80 167) hpush) (Drops.keepE (by first | rfl | exact congrArg (Own.cells g12 4) (bools_set _ _ _)) (Drops.keep (Zt2 _))))⟩
 ·
  have hse : stack = [] := List.length_eq_zero_iff.1 (by omega)
  subst hse
  have hpo : postF bs = out := by rw [← hgo]; cases m <;> simp [dfsRun]
  refine Zt (Ze1 (Ze1 (Zc1 ?_)))
  refine Zn3 rfl ?_
  exact ⟨_, Drops.drop (Drops.drop (Drops.drop (Zt2 _))), tok, by rw [hpo], by rw [hpo]; exact hok⟩
set_option maxRecDepth 100000 in
set_option maxHeartbeats 4000000 in
theorem Reverse_c (gs cap : Nat) (l : List Int) (rest : List V) (hl : l.length ≤ 1000000) : VCalls Tryz.prog 74 [.raw (.slice (some ⟨gs, 0, none⟩) l.length cap)] [.cells gs 3 (l.map V.int ++ rest)] fun r S' => S' = [.cells gs 3 (l.reverse.map V.int ++ rest)] := by
 refine VCalls_drops ?_
 refine V_start (nt := 28) Tryz.func74 rfl rfl rfl ?_
 refine Zb (Zd (Zc (Zl rfl ?_)))
 refine Zc (V_len_raw Tryz.underlying41 rfl ?_)
 refine Zc (Zk2 rfl rfl (by omega) ?_)
 refine Zc (Zk rfl (Zc (Zk rfl (Za (Zi (Zs ?_))))))
 refine Zi2 (ι := Nat × List Int) (fun (i, c) => l.length - i) (fun (i, c) => [(0, some (.raw (.slice (some ⟨gs, 0, none⟩) l.length cap))), (2, some (.int i)), (3, some (.int ((l.length : Int) - 1 - i)))]) (fun (i, c) => [.cells gs 3 (c.map V.int ++ rest)]) (fun (i, c) => c.length = l.length ∧ 2 * i ≤ l.length + 1 ∧ ∀ t, t < l.length → c[t]? = if t < i ∨ l.length - i ≤ t then l[l.length - 1 - t]? else l[t]?) (0, l) ⟨rfl, by omega, fun t ht => by rw [if_neg (by omega)]⟩ ⟨rfl, rfl, (congrArg (fun n : Int => some (V.int n)) (by omega)), trivial⟩ (Drops.keep (Zt2 _)) ?_
 rintro ⟨i, c⟩ hA
 change c.length = l.length ∧ 2 * i ≤ l.length + 1 ∧ ∀ t, t < l.length → c[t]? = if t < i ∨ l.length - i ≤ t then l[l.length - 1 - t]? else l[t]? at hA
 obtain ⟨hc, hi, hget⟩ := hA
 refine Zb (Zb (Zd (Zc (Zl rfl (Zc (Zl rfl (Zc (Zj1 rfl rfl rfl (Za (Zi ?_))))))))))
 refine Zn1 rfl (fun h9 => ?_) (fun h9 => ?_)
 ·
  obtain ⟨x, hx⟩ := get_of_lt c i (by omega)
  obtain ⟨y, hy⟩ := get_of_lt c (l.length - 1 - i) (by omega)
  have hjj : ((l.length : Int) - 1 - i).toNat = l.length - 1 - i := by omega
  refine Zi1 (Zi (Zb (Zs ?_)))
  refine VW_drawR (G := Unit) [([], [0], []), ([], [2], []), ([], [0], []), ([], [3], []), ([], [0], []), ([], [3], []), ([5, 4], [18, 19], []), ([6, 5, 4], [20], []), ([], [0], []), ([], [2], []), ([9, 8], [22, 23], []), ([10, 9, 8], [24], []), ([11, 10, 9, 8, 7, 6, 5, 4, 1, 0], [14, 15], []), ([12, 11, 10, 9, 8, 7, 6, 5, 4, 1, 0], [26, 21], []), (dn 14, [16, 17], []), (dn 15, [27, 25], [])] [13, 15] (twoSt _ (fun _ => [.cells gs 3 ((c.map V.int).set i (V.int y) ++ rest)]) (fun _ _ => [.cells gs 3 (((c.map V.int).set i (V.int y)).set (l.length - 1 - i) (V.int x) ++ rest)])) [] [14, 15, 16, 17, 18, 19, 20, 21, 22, 23, 24, 25, 26, 27] rfl VT.mix ?_
  refine Zp (Zm _) (Zo rfl rfl ⟨(fun γ => Zf (fun _ h0 => Ze (Zn rfl (Zl h0 z0)))), trivial⟩) ?_
  refine Zp (Zm _) (Zo rfl rfl ⟨(fun γ => Zf (fun _ h2 => Ze (Zn rfl (Zl h2 z0)))), trivial⟩) ?_
  refine Zp (Zm _) (Zm2 rfl (fun _ => (fun γ => Zf (fun _ h0 => Ze (Zn rfl (Zl h0 z0)))))) ?_
  refine Zp (Zm _) (Zm2 rfl (fun _ => (fun γ => Zf (fun _ h3 => Ze (Zn rfl (Zl h3 z0)))))) ?_
  refine Zp (Zm _) (Zo rfl rfl ⟨(fun γ => Zf (fun _ h0 => Ze (Zn rfl (Zl h0 z0)))), trivial⟩) ?_
  refine Zp (Zm _) (Zo rfl rfl ⟨(fun γ => Zf (fun _ h3 => Ze (Zn rfl (Zl h3 z0)))), trivial⟩) ?_
  refine Zp (Zm _) (Zo rfl rfl ⟨(fun γ => Zw 4 1 rfl (fun _ h18 => Zw 5 0 rfl (fun _ h19 => Ze (Zn rfl (Zu2 (Zr2 VT.sl41 h18 h19 (by omega) (by omega) z0) ((V.le.of_eq (congrArg (V.ptr gs) (by omega)) : V.le _ (.ptr gs (l.length - 1 - i)))) z0))))), trivial⟩) ?_
  refine Zp (Zm _) (Zo rfl rfl ⟨(fun γ => Zw 6 0 rfl (fun _ h20 => Ze (Zn rfl (Zf3 0 (l.length - 1 - i) VT.ty3 h20 rfl rfl rfl (get_int hy) z0)))), trivial⟩) ?_
  refine Zp (Zm _) (Zo rfl rfl ⟨(fun γ => Zf (fun _ h0 => Ze (Zn rfl (Zl h0 z0)))), trivial⟩) ?_
  refine Zp (Zm _) (Zo rfl rfl ⟨(fun γ => Zf (fun _ h2 => Ze (Zn rfl (Zl h2 z0)))), trivial⟩) ?_
  refine Zp (Zm _) (Zo rfl rfl ⟨(fun γ => Zw 8 1 rfl (fun _ h22 => Zw 9 0 rfl (fun _ h23 => Ze (Zn rfl (Zu2 (Zr2 VT.sl41 h22 h23 (by omega) (by omega) z0) ((V.le.of_eq (congrArg (V.ptr gs) (by omega)) : V.le _ (.ptr gs i))) z0))))), trivial⟩) ?_
  refine Zp (Zm _) (Zo rfl rfl ⟨(fun γ => Zw 10 0 rfl (fun _ h24 => Ze (Zn rfl (Zf3 0 i VT.ty3 h24 rfl rfl rfl (get_int hx) z0)))), trivial⟩) ?_
  refine Zp (Zm _) (Zo rfl rfl ⟨(fun γ => Zw 0 11 rfl (fun _ h14 => Zw 1 10 rfl (fun _ h15 => Ze (Zn rfl (Zu2 (Zr2 VT.sl41 h14 h15 (by omega) (by omega) z0) ((V.le.of_eq (congrArg (V.ptr gs) (by omega)) : V.le _ (.ptr gs i))) z0))))), trivial⟩) ?_
  refine Zp Za3 (Zo2 0 rfl (fun γ => Zw 12 0 rfl (fun _ h26 => Zw 7 5 rfl (fun _ h21 => Ze (Zn rfl (Zh3 0 i VT.ty3 h26 rfl h21 rfl rfl rfl (by rw [Yc]; omega) ⟨default, trivial, rfl⟩)))))) ?_
  refine Zp (Zm _) (Zo rfl rfl ⟨(fun γ => Zw 2 11 rfl (fun _ h16 => Zw 3 10 rfl (fun _ h17 => Ze (Zn rfl (Zu2 (Zr2 VT.sl41 h16 h17 (by omega) (by omega) z0) ((V.le.of_eq (congrArg (V.ptr gs) (by omega)) : V.le _ (.ptr gs (l.length - 1 - i)))) z0))))), trivial⟩) ?_
  refine Zp Za3 (Zo2 1 rfl (fun γ => Zw 14 0 rfl (fun _ h27 => Zw 11 3 rfl (fun _ h25 => Ze (Zn rfl (Zh3 0 (l.length - 1 - i) VT.ty3 h27 rfl h25 rfl rfl rfl (by rw [List.length_set, Yc]; omega) ⟨default, trivial, rfl⟩)))))) ?_
  refine DrawP_nil (fun γ => Ze ?_)
  refine Zb1 (Zi (Zd (Zc (Zl rfl ?_))))
  refine Zc (Zh2 rfl rfl (by omega) ?_)
  refine Zc (Zl rfl ?_)
  refine Zc (Zk2 rfl rfl (by omega) ?_)
  refine Zc (Zk rfl (Zc (Zk rfl (Za (Zi ?_)))))
  exact ⟨(i + 1, (c.set i y).set (l.length - 1 - i) x), (by (try simp only []); omega), ⟨by simp [hc], by omega, rev_step hc hget (by omega) hx hy⟩, ⟨rfl, rfl, (congrArg (fun n : Int => some (V.int n)) (by omega)), trivial⟩, (Drops.keepE (congrArg (Own.cells gs 3) (by rw [Yd, Yd])) (Zt2 _))⟩
 ·
  have hrv := rev_done hc hget (by omega)
  subst hrv
  refine Zt (Ze1 (Ze1 (Zc1 ?_)))
  refine Zn3 rfl ?_
  exact ⟨_, Zt2 _, rfl⟩
set_option maxRecDepth 100000 in
set_option maxHeartbeats 4000000 in
theorem Order_c (f : SFunc) : VPure Tryz.prog 54 [funcV f] (.tup [intsX ((if funcF f = 0 then orderF f.blocks else []).map fun k : Nat => (k : Int)), .int (funcF f)]) := by
 refine V_start (nt := 17) Tryz.func54 rfl rfl rfl ?_
 refine Zb (Zd ?_)
 refine Zc (Zc2 rfl rfl (fun g1 => ?_))
 refine Zc (Zk rfl (Zc (Zk rfl (Za (Zi (Zb (Zb (Zd (Zc (Zv 0 VT.ty34 rfl rfl rfl ?_))))))))))
 refine Zc (Zx1 [.tmp 6] rfl rfl VT.en23 (CheckFunc_c f) ?_)
 refine Zc (Zk rfl (Za (Zi (Zb (Zd (Zc (Zl rfl (Zc (Zj1 rfl rfl rfl (Za (Zi ?_)))))))))))
 refine Zm1 rfl (fun h9 => ?_) (fun h9 => ?_)
 ·
  refine Zb (Zd (Zc (Zl rfl ?_)))
  refine Zc (Zu2 (Zk rfl ⟨rfl, rfl⟩) ((V.le.nil 1 : V.le _ (intsX []))) ?_)
  refine Zc (Zk rfl (Za (Zi (Zf1 ?_))))
  refine Zd1 (Zh1 rfl rfl (.cons (.tmp rfl) (.cons (.tmp rfl) (.nil))) ?_)
  rw [if_neg h9]
  rfl
 ·
  have hok := func_ok h9
  have hne : postF f.blocks ≠ [] := fun e => by have := (order_ok hok.pos hok.edges).zero; rw [orderF, e] at this; cases this
  have hpl := post_len hok.pos hok.edges
  have h128 := hok.len
  refine Zi1 (Zi (Zb (Zd ?_)))
  refine Zc (Zb2 VT.zr41 _ rfl rfl (fun g5 => ?_))
  refine Za (Zi ?_)
  refine VW_perm (S' := .cells g1 34 [.int f.name, blocksX f.blocks] :: ordS g5 none []) (List.Perm.swap _ _ _) ?_
  refine Zb (Zd (Zc (Zv 0 VT.ty34 rfl rfl rfl ?_)))
  refine Zc (V_makeFunc [.tmp 5] rfl rfl ?_)
  refine Zc (V_callG [.tmp 11, .tmp 12] (ordS g5 none []) [_] rfl rfl VT.en72 (Yf (l₁ := [_])) (search_c f.name f.blocks hok.pos hok.len hok.edges VT.en73 (fun x l => ordS g5 x l) ordOk none rfl (fun x l k h hl => leave_c g5 x l k h hl)) ?_)
  rintro r Sa ⟨x, rfl, hx⟩
  obtain ⟨⟨gs, cap, rest⟩, rfl⟩ := ordOk_some hx hne
  obtain ⟨hll, hlc, hcm⟩ := hx
  refine ⟨_, Zt2 _, ?_⟩
  refine Za (Zi (Zb (Zd ?_)))
  refine Zc (Zu2 (Zu 0 VT.ty41 rfl rfl rfl ⟨rfl, rfl⟩) ((V.le.of_eq (by rw [Yc]) : V.le _ (.raw (.slice (some ⟨gs, 0, none⟩) ((postF f.blocks).map fun k : Nat => (k : Int)).length cap)))) ?_)
  refine Zc (Zm3 [.tmp 14] [_] _ rfl rfl VT.en74 (Zv2 (i := 1) rfl) (Reverse_c gs cap ((postF f.blocks).map fun k : Nat => (k : Int)) rest (by rw [Yc]; omega)) ?_)
  rintro r Sa rfl
  refine Za (Zi (Zb (Zd (Zc (Zu 1 VT.ty41 rfl rfl rfl (Zc (Zk rfl (Zc (Zk rfl (Za (Zi ?_)))))))))))
  refine VW_freeze 0 (q := 2) (rest := rest) (((postF f.blocks).map fun k : Nat => (k : Int)).reverse.map V.int) rfl rfl (by rw [flat_ints]) (by simp) hlc hcm (flat_fits _) ?_
  refine Zf1 ?_
  refine Zh1 rfl rfl (.cons (.tmp rfl) (.cons (.tmp rfl) (.nil))) ?_
  rw [if_pos h9, h9, orderF, List.map_reverse (f := fun k : Nat => (k : Int))]
  rfl
end Go.Proofs.YtjekhhgjfelpgaaGreat.X13
