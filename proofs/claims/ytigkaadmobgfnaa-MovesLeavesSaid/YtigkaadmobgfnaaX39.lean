import Derived.Test.YtigkaadmobgfnaaVT
import Derived.Test.YtigkaadmobgfnaaS2
import Derived.Test.YtigkaadmobgfnaaVO
import Derived.Test.YtigkaadmobgfnaaDZ
import Derived.Test.YtigkaadmobgfnaaX1
import Derived.Test.YtigkaadmobgfnaaX2
import Derived.Test.YtigkaadmobgfnaaX3
import Derived.Test.YtigkaadmobgfnaaX4
import Derived.Test.YtigkaadmobgfnaaX5
import Derived.Test.YtigkaadmobgfnaaX6
import Derived.Test.YtigkaadmobgfnaaX7
import Derived.Test.YtigkaadmobgfnaaX8
import Derived.Test.YtigkaadmobgfnaaX9
import Derived.Test.YtigkaadmobgfnaaX10
import Derived.Test.YtigkaadmobgfnaaX12
import Derived.Test.YtigkaadmobgfnaaX15
import Derived.Test.YtigkaadmobgfnaaX17
import Derived.Test.YtigkaadmobgfnaaX25
import Derived.Test.YtigkaadmobgfnaaX26
import Derived.Test.YtigkaadmobgfnaaX30
import Derived.Test.YtigkaadmobgfnaaX36
import Derived.Test.YtigkaadmobgfnaaX38
open List renaming length_map → Ya, mem_of_getElem? → Yb, length_append → Yc, flatMap_cons → Yd, append_assoc → Ye, map_set → Yf, getElem?_set_self → Yg, length_set → Yh, map_map → Yi, getElem?_eq_some_iff → Yj, mem_or_eq_of_mem_set → Yk, perm_append_comm → Yl
open Nat renaming ble_eq_true_of_le → Ym
set_option linter.unusedVariables false
set_option linter.unusedSimpArgs false
namespace Go.Proofs.Ytigkaadmobgfnaa.X39
open Go.VL Go.SM Go.Proofs.Ytigkaadmobgfnaa Go.Proofs.Ytigkaadmobgfnaa.X1 Go.Proofs.Ytigkaadmobgfnaa.X2 Go.Proofs.Ytigkaadmobgfnaa.X3 Go.Proofs.Ytigkaadmobgfnaa.X4 Go.Proofs.Ytigkaadmobgfnaa.X5 Go.Proofs.Ytigkaadmobgfnaa.X6 Go.Proofs.Ytigkaadmobgfnaa.X7 Go.Proofs.Ytigkaadmobgfnaa.X8 Go.Proofs.Ytigkaadmobgfnaa.X9 Go.Proofs.Ytigkaadmobgfnaa.X10 Go.Proofs.Ytigkaadmobgfnaa.X12 Go.Proofs.Ytigkaadmobgfnaa.X15 Go.Proofs.Ytigkaadmobgfnaa.X17 Go.Proofs.Ytigkaadmobgfnaa.X25 Go.Proofs.Ytigkaadmobgfnaa.X26 Go.Proofs.Ytigkaadmobgfnaa.X30 Go.Proofs.Ytigkaadmobgfnaa.X36 Go.Proofs.Ytigkaadmobgfnaa.X38
theorem take_outL {α : Type} : ∀ {l : List α} {i : Nat} {x : α}, l[i]? = some x → l.Perm (x :: l.eraseIdx i)
  | [], i, x, h => by simp at h
  | a :: l, 0, x, h => by
    have h : a = x := by simpa using h
    subst h
    exact .refl _
  | a :: l, i + 1, x, h => by
    have h : l[i]? = some x := by simpa using h
    exact ((take_outL h).cons a).trans (.swap _ _ _)
theorem flat_setj {sz : Nat} : ∀ {xs : List V} {k j : Nat} {x x' v : V} {rest : List V}, (∀ x ∈ xs, x.leaves.length = sz) → xs[k]? = some x → j < sz → x.leaves.set j v = x'.leaves → (xs.flatMap V.leaves ++ rest).set (k * sz + j) v = (xs.set k x').flatMap V.leaves ++ rest
  | [], k, j, x, x', v, rest, _, h, _, _ => by simp at h
  | a :: xs, 0, j, x, x', v, rest, hl, h, hj, he => by
    have h : a = x := by simpa using h
    subst h
    have ha := hl a (List.mem_cons_self ..)
    rw [Nat.zero_mul, Nat.zero_add, List.set_cons_zero, Yd, Yd, Ye, Ye, List.set_append_left _ _ (by omega), he]
  | a :: xs, k + 1, j, x, x', v, rest, hl, h, hj, he => by
    have h : xs[k]? = some x := by simpa using h
    have ha := hl a (List.mem_cons_self ..)
    have ih := flat_setj (rest := rest) (fun y hy => hl y (List.mem_cons_of_mem _ hy)) h hj he
    rw [List.set_cons_succ, Yd, Yd, Ye, Ye, List.set_append_right _ _ (by rw [Nat.succ_mul]; omega), ha, show (k + 1) * sz + j - sz = k * sz + j by rw [Nat.succ_mul]; omega, ih]
theorem flat_getj {sz : Nat} {xs : List V} {k j : Nat} {x : V} {rest : List V} (hl : ∀ x ∈ xs, x.leaves.length = sz) (h : xs[k]? = some x) (hj : j < sz) : (xs.flatMap V.leaves ++ rest)[k * sz + j]? = x.leaves[j]? := by
  have h1 := flat_drop (rest := rest) hl h
  rw [← h1, List.getElem?_take_of_lt hj, List.getElem?_drop]
theorem lb_get {B : List LB} {m : Nat} {s : LB} (h : B[m]? = some s) : (B.map lbV)[m]? = some (lbV s) := by simp [h]
theorem lb_leaf {B : List LB} {m : Nat} {s : LB} (h : B[m]? = some s) (rest : List V) : ((B.map lbV).flatMap V.leaves ++ rest)[m * 7 + 2 + 4]? = some (xLeaf s.o) := (flat_getj (j := 6) (lb_7 B) (lb_get h) (by decide)).trans rfl
theorem lb_ins {B : List LB} {m : Nat} {s : LB} (h : B[m]? = some s) (rest : List V) : ((B.map lbV).flatMap V.leaves ++ rest)[m * 7 + 1]? = some (.sl 4 (some s.t) (s.b.ins.map insV)) := (flat_getj (j := 1) (lb_7 B) (lb_get h) (by decide)).trans rfl
theorem lb_len (B : List LB) (rest : List V) : ((B.map lbV).flatMap V.leaves ++ rest).length = B.length * 7 + rest.length := by
  rw [Yc, flat_len (lb_7 B), Ya]
theorem lb_set {B : List LB} {m j : Nat} {s s' : LB} {v : V} (rest : List V) (h : B[m]? = some s) (hj : j < 7) (he : (lbV s).leaves.set j v = (lbV s').leaves) : ((B.map lbV).flatMap V.leaves ++ rest).set (m * 7 + j) v = ((B.set m s').map lbV).flatMap V.leaves ++ rest := by
  rw [flat_setj (lb_7 B) (lb_get h) hj he, Yf]
theorem lb_term {B : List LB} {m : Nat} {s : LB} {vs : List V} {x' : V} (rest : List V) (h : B[m]? = some s) (hv : vs.length = 5) (he : (lbV s).leaves.take 2 ++ vs = x'.leaves) : ((B.map lbV).flatMap V.leaves ++ rest).take (m * 7 + 2) ++ vs ++ ((B.map lbV).flatMap V.leaves ++ rest).drop (m * 7 + 2 + 5) = ((B.map lbV).set m x').flatMap V.leaves ++ rest := by
  have h7 : x'.leaves.length = 7 := by
    rw [← he, Yc, hv, List.length_take]
    rfl
  have h1 := flat_set (rest := rest) (v := x') (lb_7 B) (by rw [Ya]; exact (Yj.1 h).1) h7
  have h2 := flat_drop (rest := rest) (lb_7 B) (lb_get h)
  rw [← h1, ← he, ← h2]
  have e : ∀ (L : List V), L.take (m * 7 + 2) = L.take (m * 7) ++ ((L.drop (m * 7)).take 7).take 2 := fun L => by
    rw [List.take_take, List.take_add]
    rfl
  rw [e, Ye]
  simp only [Ye]
theorem lown_pull {B : List LB} {m : Nat} {s : LB} (h : B[m]? = some s) : (lOwn B).Perm (.buf s.t 42 4 s.b.ins.length :: (xOwn 40 s.o ++ lOwn (B.eraseIdx m))) := (take_outL h).flatMap_right _
theorem lown_put {B : List LB} {m : Nat} {s : LB} (h : m < B.length) : (lOwn (B.set m s)).Perm (.buf s.t 42 4 s.b.ins.length :: (xOwn 40 s.o ++ lOwn (B.eraseIdx m))) := by
  have h2 := lown_pull (Yg (a := s) h)
  rw [erase_set] at h2
  exact h2
theorem lown_row {B : List LB} {m : Nat} {s : LB} {q : XRow} (h : B[m]? = some s) (ho : s.o = some q) : (lOwn B).Perm (.cells q.g 40 (q.xs.flatMap V.leaves ++ q.rest) :: (.buf s.t 42 4 s.b.ins.length :: lOwn (B.eraseIdx m))) := by
  have h2 := lown_pull h
  rw [ho] at h2
  exact h2.trans (.swap _ _ _)
theorem lown_rowp {B : List LB} {m : Nat} {s : LB} {q : XRow} (h : m < B.length) (ho : s.o = some q) : (lOwn (B.set m s)).Perm (.cells q.g 40 (q.xs.flatMap V.leaves ++ q.rest) :: (.buf s.t 42 4 s.b.ins.length :: lOwn (B.eraseIdx m))) := by
  have h2 := lown_row (Yg (a := s) h) ho
  rw [erase_set] at h2
  exact h2
theorem lown_same {B : List LB} {m : Nat} {s s' : LB} (h : B[m]? = some s) (he : lbOwn s' = lbOwn s) : (lOwn (B.set m s')).Perm (lOwn B) := by
  refine (lown_put (Yj.1 h).1).trans (.trans ?_ (lown_pull h).symm)
  have h2 : (.buf s'.t 42 4 s'.b.ins.length :: xOwn 40 s'.o : Store) = .buf s.t 42 4 s.b.ins.length :: xOwn 40 s.o := he
  show ((.buf s'.t 42 4 s'.b.ins.length :: xOwn 40 s'.o) ++ lOwn (B.eraseIdx m) : Store).Perm ((.buf s.t 42 4 s.b.ins.length :: xOwn 40 s.o) ++ lOwn (B.eraseIdx m))
  rw [h2]
theorem put_back {L : Store} {x : Own} {Y Y2 : Store} (h : Y2.Perm (x :: Y)) : (x :: (L ++ Y)).Perm (L ++ Y2) := (pullL L h).symm
theorem swap_back {L : Store} {x y : Own} {Y Y2 Y3 : Store} (h : Y.Perm (y :: Y2)) (h2 : Y3.Perm (x :: Y2)) : Drops (x :: (L ++ Y)) (L ++ Y3) :=
  Drops.trans (.keep (.of_perm (pullL L h))) (Drops.trans (.keep (.drop (.refl _))) (.of_perm (put_back h2)))
structure LInv (G : List SBlock) (B : List LB) (c : Nat) : Prop where
  len : B.length = G.length
  ok : ∀ s ∈ B, LOk s
  ins : ∀ s ∈ B, s.b.ins.length ≤ 10000 + c * 20000
  tos : ∀ (m : Nat) (b : SBlock) (s : LB), G[m]? = some b → B[m]? = some s → s.b.term.to.length = b.term.to.length
set_option maxRecDepth 100000 in
theorem linv_mono {G : List SBlock} {B : List LB} {c c' : Nat} (h : LInv G B c) (hc : c ≤ c') : LInv G B c' := ⟨h.len, h.ok, fun s hs => by have := h.ins s hs; omega, h.tos⟩
set_option maxRecDepth 100000 in
theorem linv_set {G : List SBlock} {B : List LB} {c c' m : Nat} {s s' : LB} (h : LInv G B c) (hm : B[m]? = some s) (hc : c ≤ c') (ho : LOk s') (hi : s'.b.ins.length ≤ 10000 + c' * 20000) (ht : s'.b.term.to.length = s.b.term.to.length) : LInv G (B.set m s') c' := by
  refine ⟨by rw [Yh]; exact h.len, fun x hx => ?_, fun x hx => ?_, fun k b x hb hx => ?_⟩
  · rcases Yk hx with hx | rfl
    · exact h.ok x hx
    · exact ho
  · rcases Yk hx with hx | rfl
    · have := h.ins x hx; omega
    · exact hi
  · rw [List.getElem?_set] at hx
    split at hx
    · rename_i e
      subst e
      split at hx
      · injection hx with hx
        subst hx
        rw [ht]
        exact h.tos m b s hb hm
      · cases hx
    · exact h.tos k b x hb hx
theorem linv_zero {G : List SBlock} {B : List LB} (h : lBs B = G) (ho : ∀ s ∈ B, LOk s) (hi : ∀ b ∈ G, b.ins.length ≤ 10000) : LInv G B (0 * 257) := by
  subst h
  refine ⟨(Ya _).symm, ho, fun s hs => ?_, fun m b s hb hs => ?_⟩
  · have := hi s.b (List.mem_map.2 ⟨s, hs, rfl⟩)
    omega
  · rw [List.getElem?_map, hs] at hb
    injection hb with hb
    rw [← hb]
theorem lbs_set {B : List LB} {m : Nat} {s s' : LB} {f : SBlock → SBlock} (hm : B[m]? = some s) (hf : s'.b = f s.b) : lBs (B.set m s') = updB (lBs B) m f := by
  unfold updB lBs
  rw [Yf, List.getElem?_map, hm, hf]
  rfl
def jmpB (b : SBlock) (k : Nat) (s : LB) (B : List LB) : List LB := if b.term.kind = 3 ∧ b.term.to.length = 1 then B.set k ⟨jmpT s.b, s.o, s.t⟩ else B
theorem jmpB_inv {G : List SBlock} {B : List LB} {b : SBlock} {k c : Nat} {s : LB} (h : LInv G B c) (hs : B[k]? = some s) : LInv G (jmpB b k s B) c ∧ lBs (jmpB b k s B) = if b.term.kind = 3 ∧ b.term.to.length = 1 then updB (lBs B) k jmpT else lBs B := by
  unfold jmpB
  have hm := Yb hs
  split
  · exact ⟨linv_set h hs (Nat.le_refl _) (h.ok s hm) (h.ins s hm) rfl, lbs_set hs rfl⟩
  · exact ⟨h, rfl⟩
theorem le_jmp (o : Option XRow) : V.le (.agg [.int 1, .int 0, .int 0, V.nilSl, .raw (.slice (xA o) (xl o).length (xcap o))]) (.agg [.int 1, .int 0, .int 0, intsX [], xLeaf o]) := by
  rw [← xLeaf_raw]
  exact V.le.agg ⟨V.le.refl _, rfl, V.le.refl _, rfl, V.le.refl _, rfl, V.le.nil 1, rfl, V.le.refl _, xLeaf_leaf o, trivial⟩
theorem lbv_same {B : List LB} {m : Nat} {s s' : LB} (h : B[m]? = some s) (he : lbV s' = lbV s) : (B.set m s').map lbV = B.map lbV := by
  rw [Yf, he]
  refine List.ext_getElem? fun i => ?_
  rw [List.getElem?_set]
  split
  · rename_i e
    subst e
    rw [if_pos (Yj.1 (lb_get h)).1, lb_get h]
  · rfl
theorem clr_row {q : XRow} {es : List SEdge} {n : Nat} {x : SEdge} (hq : q.xs = es.map edgeV) (hx : es[n]? = some x) : ((q.xs.flatMap V.leaves ++ q.rest).set (n * 2 + 1) V.nilSl).set (n * 2 + 1) (intsX []) = ((es.set n ⟨x.block, []⟩).map edgeV).flatMap V.leaves ++ q.rest := by
  rw [List.set_set, hq, flat_setj (x' := edgeV ⟨x.block, []⟩) (edges_2 rfl) (get_mapS edgeV hx) (by decide) rfl, Yf]
theorem q_len {q : XRow} {es : List SEdge} (hq : q.xs = es.map edgeV) : (q.xs.flatMap V.leaves ++ q.rest).length = es.length * 2 + q.rest.length := by
  rw [Yc, hq, flat_len (edges_2 rfl), Ya]
theorem strip_lb {nt : Nat} {Q : Exit → Fr → Store → Prop} {F : Fr} {c : Code} (g : Nat) (rest : List V) (R : Store) : ∀ (L : List LB) (pre : List V), VW Try.prog nt c Q F (.cells g 38 (pre ++ ((L.map fun s => cpV s.b s.o).flatMap V.leaves ++ rest)) :: R) → VW Try.prog nt c Q F (.cells g 38 (pre ++ ((L.map lbV).flatMap V.leaves ++ rest)) :: R)
  | [], pre, h => h
  | s :: L, pre, h => by
    have e : ∀ (a : List V) (l : List V), pre ++ (a ++ l ++ rest) = (pre ++ a) ++ (l ++ rest) := fun a l => by simp
    have h2 := strip_lb g rest R L (pre ++ (cpV s.b s.o).leaves) (by rw [List.map_cons, Yd, e] at h; exact h)
    rw [List.map_cons, Yd]
    refine VW_cellAt 0 (pre.length + 1) (v := .sl 4 (some s.t) (s.b.ins.map insV)) (v' := inssX s.b.ins) rfl (by rw [List.getElem?_append_right (by omega), Nat.add_sub_cancel_left]; rfl) V.le.strip rfl ?_
    show VW Try.prog nt c Q F (.cells g 38 ((pre ++ ((lbV s).leaves ++ (L.map lbV).flatMap V.leaves ++ rest)).set (pre.length + 1) (inssX s.b.ins)) :: R)
    have e2 : (pre ++ ((lbV s).leaves ++ (L.map lbV).flatMap V.leaves ++ rest)).set (pre.length + 1) (inssX s.b.ins) = (pre ++ (cpV s.b s.o).leaves) ++ ((L.map lbV).flatMap V.leaves ++ rest) := by
      rw [List.set_append_right _ _ (by omega), Nat.add_sub_cancel_left, ← e]
      rfl
    rw [e2]
    exact h2
theorem lown_drops : ∀ B : List LB, Drops (lOwn B) (eOwn (B.map (·.o)))
  | [] => .refl _
  | s :: B => by
    show Drops (.buf s.t 42 4 s.b.ins.length :: (xOwn 40 s.o ++ lOwn B)) (xOwn 40 s.o ++ eOwn (B.map (·.o)))
    exact .drop (drops_append _ (lown_drops B))
def lvX (f : SFunc) : V := if 128 < ((splitF f).blocks.length : Int) then .tup [.agg VT.zs31, .int 2] else .tup [funcV (lvF f), .int 0]
theorem drops_appendR {A B : Store} (C : Store) (h : Drops A B) : Drops (A ++ C) (B ++ C) := Drops.trans (.of_perm Yl) (Drops.trans (drops_append C h) (.of_perm Yl))
open Go.VL renaming VOps_nil → Za, VW_seq → Zb, VW_region → Zd, Needs_nil → Ze, Then_n → Zi, V_fieldAddr → Zj, V_assign → Zk, V_move → Zl, eqRes → Zm, vopT → Zn, goodS → Zo, VW_block → Zs, VW_exit → Zt, V_load → Zu, V_load_agg → Zv, V_store_agg → Zx, V_store → Zy, V_indexAddr → Zz, InBlock_n → Zb1, InBlock_hit → Zc1, Then_r → Zd1, Then_e → Ze1, VW_ret → Zf1, VRet_many → Zh1, VW_skip → Zi1, V_bin → Zj1, VW_condEq → Zl1, VW_condNe → Zm1, VW_condP → Zn1, VW_condF → Zq1, V_pickT → Zs1, V_pickF → Zt1, V_nilCheck → Zv1, V_callP → Zx1, V_load_ep_agg → Za2, V_alloc → Zb2, V_box → Zc2, V_lenN → Zd2, V_build → Zf2, V_extract → Zg2, V_add → Zh2, VW_loopF → Zi2, VOps_split → Zj2, goodA → Zm2, goodU1 → Zn2, goodU → Zo2, evs_cons → Zp2, evs_nil → Zq2, V_indexAddr_row → Zr2, Drops.refl → Zt2, VOp_as → Zu2, oneRes → Zw2, oneE → Zx2, anyRes → Za3, V_appendN → Zi3
set_option maxRecDepth 100000 in
set_option maxHeartbeats 16000000 in
theorem leave_c {f : SFunc} (h0 : funcF f = 0) : VPure Try.prog 16 [funcV f] (lvX f) := by
 have hr := lvX.eq_def f
 refine V_start (nt := 132) Try.func16 rfl rfl rfl ?_
 refine Zb (Zd ?_)
 refine Zc (Zc2 rfl rfl (fun g1 => ?_))
 refine Zc (Zb2 VT.zr31 _ rfl rfl (fun g2 => ?_))
 refine Zc (Zk rfl (Za (Zi (Zb (Zd (Zc (Zv 1 VT.ty31 rfl rfl rfl ?_)))))))
 by_cases hl : 128 < ((splitF f).blocks.length : Int)
 ·
  rw [if_pos hl] at hr
  refine Zc (Zx1 [.tmp 16] rfl rfl VT.en25 (Split_big h0 hl) ?_)
  refine Zc (Zl rfl (Zc (Zg2 rfl rfl (Zc (Zg2 rfl rfl ?_)))))
  refine Zc (Zb2 VT.zr31 _ rfl rfl (fun g4 => ?_))
  refine Zc (Zx 0 VT.ty31 rfl rfl rfl rfl rfl (Zc (Zk rfl (Za (Zi (Zb (Zb (Zd (Zc (Zl rfl (Zc (Zj1 rfl rfl rfl (Za (Zi ?_))))))))))))))
  refine Zm1 rfl (fun h21 => ?_) (fun h21 => ?_)
  ·
   refine Zb (Zd ?_)
   refine Zc (Zf2 [] [] VT.st31 rfl rfl rfl rfl ?_)
   refine Zc (Zl rfl (Zc (Zx 1 VT.ty31 rfl rfl rfl rfl rfl (Zc (Zk rfl (Za (Zi (Zf1 ?_))))))))
   refine Zd1 (Zh1 rfl rfl (.cons (.agg (i := 1) VT.ty31 rfl rfl rfl) (.cons (.tmp rfl) (.nil))) ?_)
   rw [hr]
   rfl
  · exact absurd h21 (by decide)
 ·
  rw [if_neg hl] at hr
  have g0 := split_ok h0 (by omega)
  have gok := func_ok g0
  have hpos := gok.pos
  have hcb := (cp_ok g0).block
  have hfi := func_iff.1 g0
  have h128 := gok.len
  refine Zc (Zx1 [.tmp 16] rfl rfl VT.en25 (Split_0 h0 hl) ?_)
  refine Zc (Zl rfl (Zc (Zg2 rfl rfl (Zc (Zg2 rfl rfl ?_)))))
  refine Zc (Zb2 VT.zr31 _ rfl rfl (fun g4 => ?_))
  refine Zc (Zx 0 VT.ty31 rfl rfl rfl rfl rfl (Zc (Zk rfl (Za (Zi (Zb (Zb (Zd (Zc (Zl rfl (Zc (Zj1 rfl rfl rfl (Za (Zi ?_))))))))))))))
  refine Zm1 rfl (fun h21 => ?_) (fun h21 => ?_)
  · exact absurd rfl h21
  ·
   refine Zi1 (Zi (Zb (Zd (Zc (Zv 2 VT.ty31 rfl rfl rfl ?_)))))
   refine Zc (Zx1 [.tmp 24] rfl rfl VT.en26 (Fresh_c h0) ?_)
   refine Zc (Zk rfl (Za (Zi (Zb (Zd (Zc (Zv 0 VT.ty31 rfl rfl rfl ?_)))))))
   refine Zc (V_callB [.tmp 26] [_, _, _] _ rfl rfl VT.en27 (.refl _) (CopyL_c (cp_ok g0)) ?_)
   rintro r0 Sa ⟨B0, out, hB0, hLo, hxu, huo, rfl, rfl⟩
   refine Zc (Zb2 VT.zr31 _ rfl rfl (fun g7 => ?_))
   refine Zc (Zx 0 VT.ty31 rfl rfl rfl rfl rfl (Za (Zi ?_)))
   have hBl : B0.length = (splitF f).blocks.length := by rw [← hB0]; exact (Ya _).symm
   obtain ⟨r, rfl⟩ : ∃ r, out = some r := by cases out with
   | none =>
    have h9 := congrArg List.length hxu
    rw [Ya] at h9
    change 0 = _ at h9
    omega
   | some r => exact ⟨r, rfl⟩
   obtain ⟨og, ocap, oxs, orest⟩ := r
   have hxu : oxs = B0.map lbV := hxu
   subst hxu
   refine VW_perm (S' := .cells og 38 (((B0).map lbV).flatMap V.leaves ++ orest) :: .cells g7 31 [.int (splitF f).name, .raw (.slice (some ⟨og, 0, none⟩) (splitF f).blocks.length ocap)] :: .cells g4 31 [.int (splitF f).name, blocksX (splitF f).blocks] :: .cells g2 31 VT.zs31 :: .cells g1 31 [.int f.name, blocksX f.blocks] :: (lOwn B0)) (by rw [← hBl, ← Ya (f := lbV)]; exact List.perm_middle (l₁ := [_, _, _, _])) ?_
   refine Zb (Zb (Zd (Zc (Zj VT.fa31_1 rfl (Zc (Zu 2 VT.ty29 rfl rfl rfl ?_))))))
   refine Zc (Zd2 (n := (splitF f).blocks.length) Try.underlying29 rfl (by simp) (fun hl30 => ?_))
   refine Zc (Zl rfl (Za (Zi (Zs ?_))))
   refine Zi2 (ι := Nat × List LB) (fun (k, B) => (splitF f).blocks.length - k) (fun (k, B) => [(2, some (.ptr g2 0)), (4, some (.ptr g4 0)), (6, some (.int (freshF f.blocks))), (7, some (.ptr g7 0)), (29, some (blocksX (splitF f).blocks)), (30, some (.int (splitF f).blocks.length)), (31, some (.int k))]) (fun (k, B) => .cells og 38 (((B).map lbV).flatMap V.leaves ++ orest) :: .cells g7 31 [.int (splitF f).name, .raw (.slice (some ⟨og, 0, none⟩) (splitF f).blocks.length ocap)] :: .cells g4 31 [.int (splitF f).name, blocksX (splitF f).blocks] :: .cells g2 31 VT.zs31 :: (lOwn B)) (fun (k, B) => k ≤ (splitF f).blocks.length ∧ LInv (splitF f).blocks B (k * 257) ∧ lvBs (splitF f).blocks (freshF f.blocks) k ((splitF f).blocks.drop k) (lBs B) = lvBs (splitF f).blocks (freshF f.blocks) 0 (splitF f).blocks (splitF f).blocks) (0, B0) ⟨Nat.zero_le _, linv_zero hB0 hLo (fun b hb => (hcb b hb).2.1), by rw [hB0]; rfl⟩ ⟨rfl, rfl, rfl, rfl, rfl, rfl, rfl, trivial⟩ (Drops.keep (Drops.keep (Drops.keep (Drops.keep (Drops.drop (Zt2 _)))))) ?_
   rintro ⟨k, B⟩ hA
   change k ≤ (splitF f).blocks.length ∧ LInv (splitF f).blocks B (k * 257) ∧ lvBs (splitF f).blocks (freshF f.blocks) k ((splitF f).blocks.drop k) (lBs B) = lvBs (splitF f).blocks (freshF f.blocks) 0 (splitF f).blocks (splitF f).blocks at hA
   obtain ⟨hk, hI, hq0⟩ := hA
   have hIl := hI.len
   refine Zb (Zd (Zc (Zj1 rfl rfl rfl (Za (Zi (Zb ?_))))))
   refine Zn1 rfl (fun h32 => ?_) (fun h32 => ?_)
   ·
    obtain ⟨b, hb⟩ := get_of_lt (splitF f).blocks k (by omega)
    have hbm := Yb hb
    obtain ⟨s, hs⟩ := get_of_lt B k (by omega)
    have hte := term_edges gok hbm
    rw [drop_cons hb, lvBs] at hq0
    obtain ⟨hI1, hp1⟩ := jmpB_inv (b := b) hI hs
    have hsm := Yb hs
    refine Zi1 (Zi (Zb (Zs (Zb (Zd (Zc (Zl rfl ?_)))))))
    refine Zc (Zz (el := blockV b) VT.sl29 rfl rfl (by omega) (get_mapS _ hb) (fun a34 => ?_))
    refine Zc (Za2 VT.ty38 rfl rfl ?_)
    refine Zc (Zb2 VT.zr38 _ rfl rfl (fun g9 => ?_))
    refine Zc (Zk rfl (Zc (Zx 0 VT.ty38 rfl rfl rfl rfl rfl (Za (Zi ?_)))))
    refine VW_cutF [(2, some (.ptr g2 0)), (4, some (.ptr g4 0)), (6, some (.int (freshF f.blocks))), (7, some (.ptr g7 0)), (29, some (blocksX (splitF f).blocks)), (30, some (.int (splitF f).blocks.length)), (31, some (.int k)), (8, some (.int k)), (9, some (.ptr g9 0))] (.cells g9 38 (blockV b).leaves :: .cells og 38 (((jmpB b k s B).map lbV).flatMap V.leaves ++ orest) :: .cells g7 31 [.int (splitF f).name, .raw (.slice (some ⟨og, 0, none⟩) (splitF f).blocks.length ocap)] :: .cells g4 31 [.int (splitF f).name, blocksX (splitF f).blocks] :: .cells g2 31 VT.zs31 :: (lOwn (jmpB b k s B))) ?_ ?_
    ·
     refine Zb (Zd (Zc (Zj VT.fa38_2 rfl (Zc (Zj VT.fa36_0 rfl (Zc (Zu 0 VT.ty3 rfl rfl rfl (Zc (Zj1 rfl rfl rfl (Zc (Zl rfl ?_)))))))))))
     refine Zj2 (q := 40) rfl (fun hq40 => ?_) (fun hq40 => ?_)
     ·
      have hx40 : b.term.kind = 3 := by simpa using hq40
      refine Zc (Zj VT.fa38_2 rfl ?_) (Zy1 hq40)
      refine Zc (Zj VT.fa36_4 rfl ?_) (Zy1 hq40)
      refine Zc (Zu 0 VT.ty34 rfl rfl rfl ?_) (Zy1 hq40)
      refine Zc (Zd2 (n := b.term.to.length) Try.underlying34 rfl (by simp) (fun hl44 => ?_)) (Zy1 hq40)
      refine Zc (Zj1 rfl rfl rfl ?_) (Zy1 hq40)
      refine Zc (Zs1 rfl hq40 rfl ?_)
      refine Za (Zi ?_)
      refine Zl1 rfl (fun h46 => ?_) (fun h46 => ?_)
      ·
       have hB1 : jmpB b k s B = B.set k ⟨jmpT s.b, s.o, s.t⟩ := if_pos ⟨hx40, by omega⟩
       refine VW_drawR (G := Unit) [([], [7], []), ([0], [47], []), ([], [8], []), ([], [7], []), ([3], [50], []), ([], [8], []), ([5, 4, 3], [51, 52], []), ([6, 5, 4, 3], [53], []), ([7, 6, 5, 4, 3], [54], []), ([8, 7, 6, 5, 4, 3], [55], []), ([9, 8, 7, 6, 5, 4, 3], [56], []), (dn 11, [48, 49], []), (dn 12, [58], []), (dn 13, [59, 57], [])] [13] (setSt _ 1 (fun _ => .cells og 38 (((B.map lbV).flatMap V.leaves ++ orest).take (k * 7 + 2) ++ [.int 1, .int 0, .int 0, intsX [], xLeaf s.o] ++ ((B.map lbV).flatMap V.leaves ++ orest).drop (k * 7 + 2 + 5)))) [] [47, 48, 49, 50, 51, 52, 53, 54, 55, 56, 57, 58, 59] rfl VT.mix ?_
       refine Zp (Zm _) (Zo rfl rfl ⟨(fun γ => Zf (fun _ h7 => Ze (Zn rfl (Zj VT.fa31_1 h7 ⟨rfl, rfl⟩)))), trivial⟩) ?_
       refine Zp (Zm _) (Zo rfl rfl ⟨(fun γ => Zw 0 0 rfl (fun _ h47 => Ze (Zn rfl (Zu 2 VT.ty29 h47 rfl rfl ⟨rfl, rfl⟩)))), trivial⟩) ?_
       refine Zp (Zm _) (Zo rfl rfl ⟨(fun γ => Zf (fun _ h8 => Ze (Zn rfl (Zl h8 ⟨rfl, rfl⟩)))), trivial⟩) ?_
       refine Zp (Zm _) (Zo rfl rfl ⟨(fun γ => Zf (fun _ h7 => Ze (Zn rfl (Zj VT.fa31_1 h7 ⟨rfl, rfl⟩)))), trivial⟩) ?_
       refine Zp (Zm _) (Zo rfl rfl ⟨(fun γ => Zw 3 0 rfl (fun _ h50 => Ze (Zn rfl (Zu 2 VT.ty29 h50 rfl rfl ⟨rfl, rfl⟩)))), trivial⟩) ?_
       refine Zp (Zm _) (Zo rfl rfl ⟨(fun γ => Zf (fun _ h8 => Ze (Zn rfl (Zl h8 ⟨rfl, rfl⟩)))), trivial⟩) ?_
       refine Zp (Zm _) (Zo rfl rfl ⟨(fun γ => Zw 4 1 rfl (fun _ h51 => Zw 5 0 rfl (fun _ h52 => Ze (Zn rfl (Zu2 (Zr2 VT.sl29 h51 h52 (by omega) (by omega) ⟨rfl, rfl⟩) ((V.le.of_eq (congrArg (V.ptr og) (by omega)) : V.le _ (.ptr og (k * 7)))) ⟨rfl, rfl⟩))))), trivial⟩) ?_
       refine Zp (Zm _) (Zo rfl rfl ⟨(fun γ => Zw 6 0 rfl (fun _ h53 => Ze (Zn rfl (Zj VT.fa38_2 h53 ⟨rfl, rfl⟩)))), trivial⟩) ?_
       refine Zp (Zm _) (Zo rfl rfl ⟨(fun γ => Zw 7 0 rfl (fun _ h54 => Ze (Zn rfl (Zj VT.fa36_4 h54 ⟨rfl, rfl⟩)))), trivial⟩) ?_
       refine Zp (Zm _) (Zo rfl rfl ⟨(fun γ => Zw 8 0 rfl (fun _ h55 => Ze (Zn rfl (Zu2 (Zu 1 VT.ty34 h55 rfl (lb_leaf hs _) ⟨rfl, rfl⟩) ((V.le.of_eq (xLeaf_raw s.o) : V.le _ (.raw (.slice (xA s.o) (xl s.o).length (xcap s.o))))) ⟨rfl, rfl⟩)))), trivial⟩) ?_
       refine Zp (Zm _) (Zo rfl rfl ⟨(fun γ => Zw 9 0 rfl (fun _ h56 => Ze (Zn rfl (Zu2 (Zf2 [0, 4] [.const (.int .i64 (1)), .tmp 56] VT.st36 rfl rfl (Zp2 rfl (Zp2 h56 Zq2)) rfl ⟨rfl, rfl⟩) ((le_jmp s.o : V.le _ (.agg [.int 1, .int 0, .int 0, intsX [], xLeaf s.o]))) ⟨rfl, rfl⟩)))), trivial⟩) ?_
       refine Zp (Zm _) (Zo rfl rfl ⟨(fun γ => Zw 1 9 rfl (fun _ h48 => Zw 2 8 rfl (fun _ h49 => Ze (Zn rfl (Zu2 (Zr2 VT.sl29 h48 h49 (by omega) (by omega) ⟨rfl, rfl⟩) ((V.le.of_eq (congrArg (V.ptr og) (by omega)) : V.le _ (.ptr og (k * 7)))) ⟨rfl, rfl⟩))))), trivial⟩) ?_
       refine Zp (Zm _) (Zo rfl rfl ⟨(fun γ => Zw 11 0 rfl (fun _ h58 => Ze (Zn rfl (Zj VT.fa38_2 h58 ⟨rfl, rfl⟩)))), trivial⟩) ?_
       refine Zp Za3 (Zn2 rfl (fun γ => Zw 12 0 rfl (fun _ h59 => Zw 10 2 rfl (fun _ h57 => Ze (Zn rfl (Zx 1 VT.ty36 h59 h57 rfl rfl (Ym (by rw [lb_len]; omega)) ⟨default, trivial, rfl⟩)))))) ?_
       refine DrawP_nil (fun γ => Ze ?_)
       refine Zi ?_
       exact ⟨⟨rfl, rfl, rfl, rfl, rfl, rfl, rfl, rfl, rfl, trivial⟩, (.of_perm (by show (Own.cells g9 38 (blockV b).leaves :: Own.cells og 38 (((B.map lbV).flatMap V.leaves ++ orest).take (k * 7 + 2) ++ [.int 1, .int 0, .int 0, intsX [], xLeaf s.o] ++ ((B.map lbV).flatMap V.leaves ++ orest).drop (k * 7 + 2 + 5)) :: Own.cells g7 31 [.int (splitF f).name, .raw (.slice (some ⟨og, 0, none⟩) (splitF f).blocks.length ocap)] :: Own.cells g4 31 [.int (splitF f).name, blocksX (splitF f).blocks] :: Own.cells g2 31 VT.zs31 :: (lOwn B) : Store).Perm _; rw [hB1, lb_term (vs := [.int 1, .int 0, .int 0, intsX [], xLeaf s.o]) (x' := lbV ⟨jmpT s.b, s.o, s.t⟩) orest hs rfl rfl, ← Yf]; exact .cons _ (.cons _ (.cons _ (.cons _ (.cons _ (lown_same (s' := ⟨jmpT s.b, s.o, s.t⟩) hs rfl).symm))))))⟩
      ·
       have hB1 : jmpB b k s B = B := if_neg (fun h => h46 (by omega))
       refine VW_perm (S' := .cells g9 38 (blockV b).leaves :: .cells og 38 (((jmpB b k s B).map lbV).flatMap V.leaves ++ orest) :: .cells g7 31 [.int (splitF f).name, .raw (.slice (some ⟨og, 0, none⟩) (splitF f).blocks.length ocap)] :: .cells g4 31 [.int (splitF f).name, blocksX (splitF f).blocks] :: .cells g2 31 VT.zs31 :: (lOwn (jmpB b k s B))) (by rw [hB1]; exact .refl _) ?_
       refine Zi1 (Zi ?_)
       exact ⟨⟨rfl, rfl, rfl, rfl, rfl, rfl, rfl, rfl, rfl, trivial⟩, (Drops.keep (Drops.keep (Drops.keep (Drops.keep (Drops.keep (Zt2 _))))))⟩
     ·
      have hx40 : ¬ b.term.kind = 3 := by simpa using hq40
      refine Zk1 hq40 ?_
      refine Zk1 hq40 ?_
      refine Zk1 hq40 ?_
      refine Zk1 hq40 ?_
      refine Zk1 hq40 ?_
      refine Zc (Zt1 rfl hq40 rfl ?_)
      refine Za (Zi ?_)
      refine Zq1 rfl rfl ?_
      have hB1 : jmpB b k s B = B := if_neg (fun h => hx40 h.1)
      refine VW_perm (S' := .cells g9 38 (blockV b).leaves :: .cells og 38 (((jmpB b k s B).map lbV).flatMap V.leaves ++ orest) :: .cells g7 31 [.int (splitF f).name, .raw (.slice (some ⟨og, 0, none⟩) (splitF f).blocks.length ocap)] :: .cells g4 31 [.int (splitF f).name, blocksX (splitF f).blocks] :: .cells g2 31 VT.zs31 :: (lOwn (jmpB b k s B))) (by rw [hB1]; exact .refl _) ?_
      refine Zi1 (Zi ?_)
      exact ⟨⟨rfl, rfl, rfl, rfl, rfl, rfl, rfl, rfl, rfl, trivial⟩, (Drops.keep (Drops.keep (Drops.keep (Drops.keep (Drops.keep (Zt2 _))))))⟩
    ·
     refine Zb (Zd (Zc (Zj VT.fa38_2 rfl (Zc (Zj VT.fa36_4 rfl (Zc (Zu 0 VT.ty34 rfl rfl rfl ?_)))))))
     refine Zc (Zd2 (n := b.term.to.length) Try.underlying34 rfl (by simp) (fun hl63 => ?_))
     refine Zc (Zl rfl (Za (Zi (Zs ?_))))
     refine Zi2 (ι := Nat × List LB) (fun (n, B2) => b.term.to.length - n) (fun (n, B2) => [(2, some (.ptr g2 0)), (4, some (.ptr g4 0)), (6, some (.int (freshF f.blocks))), (7, some (.ptr g7 0)), (29, some (blocksX (splitF f).blocks)), (30, some (.int (splitF f).blocks.length)), (31, some (.int k)), (8, some (.int k)), (9, some (.ptr g9 0)), (62, some (edgesX b.term.to)), (63, some (.int b.term.to.length)), (64, some (.int n))]) (fun (n, B2) => .cells g9 38 (blockV b).leaves :: .cells og 38 (((B2).map lbV).flatMap V.leaves ++ orest) :: .cells g7 31 [.int (splitF f).name, .raw (.slice (some ⟨og, 0, none⟩) (splitF f).blocks.length ocap)] :: .cells g4 31 [.int (splitF f).name, blocksX (splitF f).blocks] :: .cells g2 31 VT.zs31 :: (lOwn B2)) (fun (n, B2) => n ≤ b.term.to.length ∧ LInv (splitF f).blocks B2 (k * 257 + n) ∧ lvEs (splitF f).blocks (freshF f.blocks) k b n (b.term.to.drop n) (lBs B2) = lvB (splitF f).blocks (freshF f.blocks) k b (lBs B)) (0, jmpB b k s B) ⟨Nat.zero_le _, hI1, by rw [hp1]; rfl⟩ ⟨rfl, rfl, rfl, rfl, rfl, rfl, rfl, rfl, rfl, rfl, rfl, rfl, trivial⟩ (Drops.keep (Drops.keep (Drops.keep (Drops.keep (Drops.keep (Zt2 _)))))) ?_
     rintro ⟨n, B2⟩ hB
     change n ≤ b.term.to.length ∧ LInv (splitF f).blocks B2 (k * 257 + n) ∧ lvEs (splitF f).blocks (freshF f.blocks) k b n (b.term.to.drop n) (lBs B2) = lvB (splitF f).blocks (freshF f.blocks) k b (lBs B) at hB
     obtain ⟨hn, hI2, hq2⟩ := hB
     have hI2l := hI2.len
     refine Zb (Zd (Zc (Zj1 rfl rfl rfl (Za (Zi (Zb ?_))))))
     refine Zn1 rfl (fun h65 => ?_) (fun h65 => ?_)
     ·
      obtain ⟨e, he⟩ := get_of_lt b.term.to n (by omega)
      have hem := Yb he
      obtain ⟨hE1, hE2, hE3⟩ := (endF_ok (hfi.block b hbm).2).edges e hem
      obtain ⟨c, hc⟩ := get_of_lt (splitF f).blocks e.block.toNat (by omega)
      rw [paramsOf_get hc] at hE3
      have hcp := (hcb c (Yb hc)).1
      have hCl := copies_len (splitF f).blocks e (freshF f.blocks)
      rw [paramsOf_get hc] at hCl
      rw [drop_cons he, lvEs] at hq2
      refine Zi1 (Zi (Zb (Zs (Zb (Zd (Zc (Zl rfl ?_)))))))
      refine Zc (Zz (el := edgeV e) VT.sl34 rfl rfl (by omega) (get_mapS _ he) (fun a67 => ?_))
      refine Zc (Za2 VT.ty40 rfl rfl ?_)
      refine Zc (Zb2 VT.zr40 _ rfl rfl (fun g11 => ?_))
      refine Zc (Zk rfl (Zc (Zx 0 VT.ty40 rfl rfl rfl rfl rfl (Za (Zi (Zb (Zd (Zc (Zv 4 VT.ty31 rfl rfl rfl (Zc (Zv 0 VT.ty40 rfl rfl rfl (Zc (Zl rfl ?_)))))))))))))
      refine Zc (V_callBuf [.tmp 69, .tmp 70, .tmp 71] rfl rfl VT.en28 (copies_c (f := splitF f) (freshF f.blocks) hc (by omega) hE3 hcp) (fun t72 => ?_))
      refine Zc (Zk rfl (Za (Zi (Zb (Zb (Zd (Zc (Zj VT.fa38_2 rfl (Zc (Zj VT.fa36_4 rfl (Zc (Zu 2 VT.ty34 rfl rfl rfl ?_))))))))))))
      refine Zc (Zd2 (n := b.term.to.length) Try.underlying34 rfl (by simp) (fun hl76 => ?_))
      refine Zc (Zj1 rfl rfl rfl (Za (Zi ?_)))
      refine Zl1 rfl (fun h77 => ?_) (fun h77 => ?_)
      ·
       obtain ⟨s, hs⟩ := get_of_lt B2 k (by omega)
       have hsm := Yb hs
       have hsi := hI2.ins s hsm
       refine VW_perm (S' := .buf s.t 42 4 s.b.ins.length :: .buf t72 42 4 ((copiesF (splitF f).blocks e (freshF f.blocks)).map insV).length :: .cells g11 40 [.int e.block, intsX e.args] :: .cells g9 38 (blockV b).leaves :: .cells og 38 (((B2).map lbV).flatMap V.leaves ++ orest) :: .cells g7 31 [.int (splitF f).name, .raw (.slice (some ⟨og, 0, none⟩) (splitF f).blocks.length ocap)] :: .cells g4 31 [.int (splitF f).name, blocksX (splitF f).blocks] :: .cells g2 31 VT.zs31 :: (xOwn 40 s.o ++ lOwn (B2.eraseIdx k))) (pullL [.buf t72 42 4 ((copiesF (splitF f).blocks e (freshF f.blocks)).map insV).length, .cells g11 40 [.int e.block, intsX e.args], .cells g9 38 (blockV b).leaves, .cells og 38 (((B2).map lbV).flatMap V.leaves ++ orest), .cells g7 31 [.int (splitF f).name, .raw (.slice (some ⟨og, 0, none⟩) (splitF f).blocks.length ocap)], .cells g4 31 [.int (splitF f).name, blocksX (splitF f).blocks], .cells g2 31 VT.zs31] (lown_pull hs)) ?_
       refine VW_drawR (G := Tok) [([], [7], []), ([0], [78], []), ([], [8], []), ([], [7], []), ([3], [81], []), ([], [8], []), ([5, 4, 3], [82, 83], []), ([6, 5, 4, 3], [84], []), ([7, 6, 5, 4, 3], [85], []), ([], [12], []), ([9, 8, 7, 6, 5, 4, 3], [86, 87], [0]), (dn 11, [79, 80], []), (dn 12, [89], []), (dn 13, [90, 88], [])] [10, 13] (twoSt _ (fun x => .buf x 42 4 (s.b.ins.map insV ++ (copiesF (splitF f).blocks e (freshF f.blocks)).map insV).length :: .buf t72 42 4 ((copiesF (splitF f).blocks e (freshF f.blocks)).map insV).length :: .cells g11 40 [.int e.block, intsX e.args] :: .cells g9 38 (blockV b).leaves :: .cells og 38 (((B2).map lbV).flatMap V.leaves ++ orest) :: .cells g7 31 [.int (splitF f).name, .raw (.slice (some ⟨og, 0, none⟩) (splitF f).blocks.length ocap)] :: .cells g4 31 [.int (splitF f).name, blocksX (splitF f).blocks] :: .cells g2 31 VT.zs31 :: (xOwn 40 s.o ++ lOwn (B2.eraseIdx k))) (fun x _ => .buf x 42 4 (s.b.ins.map insV ++ (copiesF (splitF f).blocks e (freshF f.blocks)).map insV).length :: .buf t72 42 4 ((copiesF (splitF f).blocks e (freshF f.blocks)).map insV).length :: .cells g11 40 [.int e.block, intsX e.args] :: .cells g9 38 (blockV b).leaves :: .cells og 38 (((B2.map lbV).flatMap V.leaves ++ orest).set (k * 7 + 1) (.sl 4 (some x) (s.b.ins.map insV ++ (copiesF (splitF f).blocks e (freshF f.blocks)).map insV))) :: .cells g7 31 [.int (splitF f).name, .raw (.slice (some ⟨og, 0, none⟩) (splitF f).blocks.length ocap)] :: .cells g4 31 [.int (splitF f).name, blocksX (splitF f).blocks] :: .cells g2 31 VT.zs31 :: (xOwn 40 s.o ++ lOwn (B2.eraseIdx k)))) [] [78, 79, 80, 81, 82, 83, 84, 85, 86, 87, 88, 89, 90] rfl VT.mix ?_
       refine Zp (Zm _) (Zm2 rfl (fun _ => (fun γ => Zf (fun _ h7 => Ze (Zn rfl (Zj VT.fa31_1 h7 ⟨rfl, rfl⟩)))))) ?_
       refine Zp (Zm _) (Zo rfl rfl ⟨(fun γ => Zw 0 0 rfl (fun _ h78 => Ze (Zn rfl (Zu 5 VT.ty29 h78 rfl rfl ⟨rfl, rfl⟩)))), (fun γ => Zw 0 0 rfl (fun _ h78 => Ze (Zn rfl (Zu 5 VT.ty29 h78 rfl rfl ⟨rfl, rfl⟩)))), trivial⟩) ?_
       refine Zp (Zm _) (Zm2 rfl (fun _ => (fun γ => Zf (fun _ h8 => Ze (Zn rfl (Zl h8 ⟨rfl, rfl⟩)))))) ?_
       refine Zp (Zm _) (Zo rfl rfl ⟨(fun γ => Zf (fun _ h7 => Ze (Zn rfl (Zj VT.fa31_1 h7 ⟨rfl, rfl⟩)))), trivial⟩) ?_
       refine Zp (Zm _) (Zo rfl rfl ⟨(fun γ => Zw 3 0 rfl (fun _ h81 => Ze (Zn rfl (Zu 5 VT.ty29 h81 rfl rfl ⟨rfl, rfl⟩)))), trivial⟩) ?_
       refine Zp (Zm _) (Zo rfl rfl ⟨(fun γ => Zf (fun _ h8 => Ze (Zn rfl (Zl h8 ⟨rfl, rfl⟩)))), trivial⟩) ?_
       refine Zp (Zm _) (Zo rfl rfl ⟨(fun γ => Zw 4 1 rfl (fun _ h82 => Zw 5 0 rfl (fun _ h83 => Ze (Zn rfl (Zu2 (Zr2 VT.sl29 h82 h83 (by omega) (by omega) ⟨rfl, rfl⟩) ((V.le.of_eq (congrArg (V.ptr og) (by omega)) : V.le _ (.ptr og (k * 7)))) ⟨rfl, rfl⟩))))), trivial⟩) ?_
       refine Zp (Zm _) (Zo rfl rfl ⟨(fun γ => Zw 6 0 rfl (fun _ h84 => Ze (Zn rfl (Zj VT.fa38_1 h84 ⟨rfl, rfl⟩)))), trivial⟩) ?_
       refine Zp (Zm _) (Zo rfl rfl ⟨(fun γ => Zw 7 0 rfl (fun _ h85 => Ze (Zn rfl (Zu 4 VT.ty33 h85 rfl (lb_ins hs _) ⟨rfl, rfl⟩)))), trivial⟩) ?_
       refine Zp (Zm _) (Zo rfl rfl ⟨(fun γ => Zf (fun _ h12 => Ze (Zn rfl (Zl h12 ⟨rfl, rfl⟩)))), trivial⟩) ?_
       refine Zp (Zw2 (fun x => .sl 4 (some x) (s.b.ins.map insV ++ (copiesF (splitF f).blocks e (freshF f.blocks)).map insV))) (Zo2 0 rfl (fun γ => Zw 8 1 rfl (fun _ h86 => Zw 9 0 rfl (fun _ h87 => Ze (Zn rfl (Zi3 0 _ VT.sl33 h86 h87 rfl (by rw [Ya]) (by rw [Ya, Ya]; omega) (fun t88 => ⟨t88, ⟨t88, rfl, rfl⟩, rfl⟩))))))) ?_
       refine Zp (Zm _) (Zo rfl rfl ⟨(fun γ => Zw 1 9 rfl (fun _ h79 => Zw 2 8 rfl (fun _ h80 => Ze (Zn rfl (Zu2 (Zr2 VT.sl29 h79 h80 (by omega) (by omega) ⟨rfl, rfl⟩) ((V.le.of_eq (congrArg (V.ptr og) (by omega)) : V.le _ (.ptr og (k * 7)))) ⟨rfl, rfl⟩))))), trivial⟩) ?_
       refine Zp (Zm _) (Zo rfl rfl ⟨(fun γ => Zw 11 0 rfl (fun _ h89 => Ze (Zn rfl (Zj VT.fa38_1 h89 ⟨rfl, rfl⟩)))), trivial⟩) ?_
       refine Zp Za3 (Zo2 1 rfl (fun γ => Zw 12 0 rfl (fun _ h90 => Zw 10 2 rfl (fun _ h88 => Ze (Zx2 h88 (fun e88 => Zn rfl (Zy 4 VT.ty33 h90 e88 rfl rfl (Ym (by rw [lb_len]; omega)) ⟨default, trivial, rfl⟩))))))) ?_
       refine DrawP_nil (fun γ => Ze ?_)
       refine Zi ?_
       have hei : ((s.b.ins.map insV ++ (copiesF (splitF f).blocks e (freshF f.blocks)).map insV)).length = (addE (copiesF (splitF f).blocks e (freshF f.blocks)) s.b).ins.length := by rw [Yc, Ya, Ya]; exact (Yc ..).symm
       obtain ⟨B3, hB3⟩ : ∃ B3, B3 = B2.set k ⟨addE (copiesF (splitF f).blocks e (freshF f.blocks)) s.b, s.o, γ 0⟩ := ⟨_, rfl⟩
       refine VW_drops (S' := .cells g11 40 [.int e.block, intsX e.args] :: .cells g9 38 (blockV b).leaves :: .cells og 38 (((B3).map lbV).flatMap V.leaves ++ orest) :: .cells g7 31 [.int (splitF f).name, .raw (.slice (some ⟨og, 0, none⟩) (splitF f).blocks.length ocap)] :: .cells g4 31 [.int (splitF f).name, blocksX (splitF f).blocks] :: .cells g2 31 VT.zs31 :: (lOwn B3)) (Drops.trans (.keep (.drop (.refl _))) (.of_perm ?_)) ?_
       · rw [hB3, lb_set (s' := ⟨addE (copiesF (splitF f).blocks e (freshF f.blocks)) s.b, s.o, γ 0⟩) orest hs (by decide) (by show _ = [_, V.sl 4 (some (γ 0)) ((s.b.ins ++ (copiesF (splitF f).blocks e (freshF f.blocks))).map insV), _, _, _, _, _]; rw [List.map_append]; rfl), hei]; exact put_back (L := [_, _, _, _, _, _]) (lown_put (s := ⟨addE (copiesF (splitF f).blocks e (freshF f.blocks)) s.b, s.o, γ 0⟩) (by omega))
       have hI3 : LInv (splitF f).blocks B3 (k * 257 + n + 1) := by rw [hB3]; exact linv_set hI2 hs (by omega) (hI2.ok s hsm) (by show (s.b.ins ++ (copiesF (splitF f).blocks e (freshF f.blocks))).length ≤ _; rw [Yc]; omega) rfl
       have hp3 : updB (lBs B3) k (clrE n) = lvE (splitF f).blocks (freshF f.blocks) k b n e (lBs B2) := by unfold lvE; rw [if_pos (by omega), hB3, lbs_set (f := addE (copiesF (splitF f).blocks e (freshF f.blocks))) hs rfl]
       obtain ⟨s3, hs3⟩ := get_of_lt B3 k (by have := hI3.len; omega)
       obtain ⟨hx3, hk3⟩ := hI3.ok s3 (Yb hs3)
       have ht3 := hI3.tos k b s3 hb hs3
       obtain ⟨x3, he3⟩ := get_of_lt s3.b.term.to n (by omega)
       obtain ⟨q, hq, hql⟩ := row_some hx3 he3
       have hqx : q.xs = s3.b.term.to.map edgeV := by rw [hq] at hx3; exact hx3
       have h3l := hI3.len
       refine VW_perm (S' := .cells q.g 40 (q.xs.flatMap V.leaves ++ q.rest) :: .cells g11 40 [.int e.block, intsX e.args] :: .cells g9 38 (blockV b).leaves :: .cells og 38 (((B3).map lbV).flatMap V.leaves ++ orest) :: .cells g7 31 [.int (splitF f).name, .raw (.slice (some ⟨og, 0, none⟩) (splitF f).blocks.length ocap)] :: .cells g4 31 [.int (splitF f).name, blocksX (splitF f).blocks] :: .cells g2 31 VT.zs31 :: (.buf s3.t 42 4 s3.b.ins.length :: lOwn (B3.eraseIdx k))) (pullL [.cells g11 40 [.int e.block, intsX e.args], .cells g9 38 (blockV b).leaves, .cells og 38 (((B3).map lbV).flatMap V.leaves ++ orest), .cells g7 31 [.int (splitF f).name, .raw (.slice (some ⟨og, 0, none⟩) (splitF f).blocks.length ocap)], .cells g4 31 [.int (splitF f).name, blocksX (splitF f).blocks], .cells g2 31 VT.zs31] (lown_row hs3 hq)) ?_
       refine Zd (Zc (Zj VT.fa31_1 rfl (Zc (Zu 4 VT.ty29 rfl rfl rfl (Zc (Zl rfl ?_))))))
       refine Zc (Zu2 (Zr2 VT.sl29 rfl rfl (by omega) (by omega) ⟨rfl, rfl⟩) ((V.le.of_eq (congrArg (V.ptr og) (by omega)) : V.le _ (.ptr og (k * 7)))) ?_)
       refine Zc (Zj VT.fa38_2 rfl (Zc (Zj VT.fa36_4 rfl ?_)))
       refine Zc (Zu2 (Zu 3 VT.ty34 rfl rfl (lb_leaf hs3 _) ⟨rfl, rfl⟩) ((V.le.of_eq (by rw [hq]; rfl) : V.le _ (.raw (.slice (some ⟨q.g, 0, none⟩) q.xs.length q.cap)))) ?_)
       refine Zc (Zl rfl ?_)
       refine Zc (Zu2 (Zr2 VT.sl34 rfl rfl (by omega) (by omega) ⟨rfl, rfl⟩) ((V.le.of_eq (congrArg (V.ptr q.g) (by omega)) : V.le _ (.ptr q.g (n * 2)))) ?_)
       refine Zc (Zj VT.fa40_1 rfl ?_)
       refine Zc (Zy 0 VT.ty32 rfl rfl rfl rfl (Ym (by rw [q_len hqx]; omega)) ?_)
       refine Za (Zb1 (Zi ?_))
       have hsl3 : (clrE n s3.b).term.to = s3.b.term.to.set n ⟨x3.block, []⟩ := by show s3.b.term.to.set n _ = _; rw [he3]; rfl
       have hstl : (clrE n s3.b).term.to.length = s3.b.term.to.length := by rw [hsl3, Yh]
       have hxl3 : (xl s3.o).length = (clrE n s3.b).term.to.length := by rw [hx3, Ya, hstl]
       have hI4 : LInv (splitF f).blocks (B3.set k ⟨clrE n s3.b, setE s3.o (clrE n s3.b).term.to, s3.t⟩) (k * 257 + (n + 1)) := linv_set hI3 hs3 (by omega) ⟨xl_set hxl3, xOk_set hx3 hstl.symm hk3⟩ (hI3.ins s3 (Yb hs3)) hstl
       have hp4 : lBs (B3.set k ⟨clrE n s3.b, setE s3.o (clrE n s3.b).term.to, s3.t⟩) = lvE (splitF f).blocks (freshF f.blocks) k b n e (lBs B2) := (lbs_set hs3 rfl).trans hp3
       have hlv : (B3.set k ⟨clrE n s3.b, setE s3.o (clrE n s3.b).term.to, s3.t⟩).map lbV = B3.map lbV := lbv_same hs3 (by unfold lbV; dsimp only; rw [xLeaf_set hxl3]; rfl)
       refine VW_cellAt 0 (n * 2 + 1) (v' := intsX []) rfl (Yg (by rw [q_len hqx]; omega)) (V.le.nil 1) rfl ?_
       refine VW_perm (S' := .cells g11 40 [.int e.block, intsX e.args] :: .cells g9 38 (blockV b).leaves :: .cells og 38 (((B3.set k ⟨clrE n s3.b, setE s3.o (clrE n s3.b).term.to, s3.t⟩).map lbV).flatMap V.leaves ++ orest) :: .cells g7 31 [.int (splitF f).name, .raw (.slice (some ⟨og, 0, none⟩) (splitF f).blocks.length ocap)] :: .cells g4 31 [.int (splitF f).name, blocksX (splitF f).blocks] :: .cells g2 31 VT.zs31 :: (lOwn (B3.set k ⟨clrE n s3.b, setE s3.o (clrE n s3.b).term.to, s3.t⟩))) ?_ ?_
       · show (.cells q.g 40 (((q.xs.flatMap V.leaves ++ q.rest).set (n * 2 + 1) V.nilSl).set (n * 2 + 1) (intsX [])) :: Own.cells g11 40 [.int e.block, intsX e.args] :: Own.cells g9 38 (blockV b).leaves :: Own.cells og 38 (((B3).map lbV).flatMap V.leaves ++ orest) :: Own.cells g7 31 [.int (splitF f).name, .raw (.slice (some ⟨og, 0, none⟩) (splitF f).blocks.length ocap)] :: Own.cells g4 31 [.int (splitF f).name, blocksX (splitF f).blocks] :: Own.cells g2 31 VT.zs31 :: (.buf s3.t 42 4 s3.b.ins.length :: lOwn (B3.eraseIdx k)) : Store).Perm _; rw [hlv, clr_row hqx he3, ← hsl3]; exact put_back (L := [_, _, _, _, _, _]) (lown_rowp (q := ⟨q.g, q.cap, (clrE n s3.b).term.to.map edgeV, q.rest⟩) (by omega) (by rw [hq]; rfl))
       refine Zd ?_
       refine Zc (Zh2 rfl rfl (by omega) ?_)
       refine Zc (Zl rfl (Za (Zi ?_)))
       exact ⟨(n + 1, B3.set k ⟨clrE n s3.b, setE s3.o (clrE n s3.b).term.to, s3.t⟩), (by (try simp only []); omega), ⟨by omega, hI4, by rw [hp4]; exact hq2⟩, ⟨rfl, rfl, rfl, rfl, rfl, rfl, rfl, rfl, rfl, rfl, rfl, rfl, trivial⟩, (Drops.drop (Drops.keep (Drops.keep (Drops.keep (Drops.keep (Drops.keep (Zt2 _)))))))⟩
      ·
       obtain ⟨s, hs⟩ := get_of_lt B2 e.block.toNat (by omega)
       have hsm := Yb hs
       have hsi := hI2.ins s hsm
       refine Zb (Zd (Zc (Zj VT.fa31_1 rfl (Zc (Zu 4 VT.ty29 rfl rfl rfl (Zc (Zj VT.fa40_0 rfl (Zc (Zu 1 VT.ty3 rfl rfl rfl ?_)))))))))
       refine Zc (Zu2 (Zr2 VT.sl29 rfl rfl (by omega) (by omega) ⟨rfl, rfl⟩) ((V.le.of_eq (congrArg (V.ptr og) (by omega)) : V.le _ (.ptr og (e.block.toNat * 7)))) ?_)
       refine Zc (Zk rfl (Za (Zi (Zd (Zc (Zl rfl (Zc (Zl rfl (Zc (Zl rfl (Zc (Zv1 rfl (Zc (Zj VT.fa38_1 rfl ?_))))))))))))))
       refine Zc (Zu 3 VT.ty33 rfl rfl (lb_ins hs _) ?_)
       refine Zc (Zi3 0 _ VT.sl33 rfl rfl rfl rfl (by rw [Ya, Ya]; omega) (fun t102 => ?_))
       refine Zc (Zv1 rfl (Zc (Zj VT.fa38_1 rfl ?_)))
       refine Zc (Zy 3 VT.ty33 rfl rfl rfl rfl (Ym (by rw [lb_len]; omega)) ?_)
       refine Za (Zi ?_)
       have hei : (((copiesF (splitF f).blocks e (freshF f.blocks)).map insV ++ s.b.ins.map insV)).length = (addH (copiesF (splitF f).blocks e (freshF f.blocks)) s.b).ins.length := by rw [Yc, Ya, Ya]; exact (Yc ..).symm
       obtain ⟨B3, hB3⟩ : ∃ B3, B3 = B2.set e.block.toNat ⟨addH (copiesF (splitF f).blocks e (freshF f.blocks)) s.b, s.o, t102⟩ := ⟨_, rfl⟩
       refine VW_drops (S' := .cells g11 40 [.int e.block, intsX e.args] :: .cells g9 38 (blockV b).leaves :: .cells og 38 (((B3).map lbV).flatMap V.leaves ++ orest) :: .cells g7 31 [.int (splitF f).name, .raw (.slice (some ⟨og, 0, none⟩) (splitF f).blocks.length ocap)] :: .cells g4 31 [.int (splitF f).name, blocksX (splitF f).blocks] :: .cells g2 31 VT.zs31 :: (lOwn B3)) ?_ ?_
       · show Drops (Own.buf t102 42 4 ((copiesF (splitF f).blocks e (freshF f.blocks)).map insV ++ s.b.ins.map insV).length :: Own.cells g11 40 [.int e.block, intsX e.args] :: Own.cells g9 38 (blockV b).leaves :: Own.cells og 38 (((B2.map lbV).flatMap V.leaves ++ orest).set (e.block.toNat * 7 + 1) (.sl 4 (some t102) ((copiesF (splitF f).blocks e (freshF f.blocks)).map insV ++ s.b.ins.map insV))) :: Own.cells g7 31 [.int (splitF f).name, .raw (.slice (some ⟨og, 0, none⟩) (splitF f).blocks.length ocap)] :: Own.cells g4 31 [.int (splitF f).name, blocksX (splitF f).blocks] :: Own.cells g2 31 VT.zs31 :: (lOwn B2)) _; rw [hB3, lb_set (s' := ⟨addH (copiesF (splitF f).blocks e (freshF f.blocks)) s.b, s.o, t102⟩) orest hs (by decide) (by show _ = [_, V.sl 4 (some t102) (((copiesF (splitF f).blocks e (freshF f.blocks)) ++ s.b.ins).map insV), _, _, _, _, _]; rw [List.map_append]; rfl), hei]; exact swap_back (L := [_, _, _, _, _, _]) (lown_pull hs) (lown_put (s := ⟨addH (copiesF (splitF f).blocks e (freshF f.blocks)) s.b, s.o, t102⟩) (by omega))
       have hI3 : LInv (splitF f).blocks B3 (k * 257 + n + 1) := by rw [hB3]; exact linv_set hI2 hs (by omega) (hI2.ok s hsm) (by show ((copiesF (splitF f).blocks e (freshF f.blocks)) ++ s.b.ins).length ≤ _; rw [Yc]; omega) rfl
       have hp3 : updB (lBs B3) k (clrE n) = lvE (splitF f).blocks (freshF f.blocks) k b n e (lBs B2) := by unfold lvE; rw [if_neg (by omega), hB3, lbs_set (f := addH (copiesF (splitF f).blocks e (freshF f.blocks))) hs rfl]
       obtain ⟨s3, hs3⟩ := get_of_lt B3 k (by have := hI3.len; omega)
       obtain ⟨hx3, hk3⟩ := hI3.ok s3 (Yb hs3)
       have ht3 := hI3.tos k b s3 hb hs3
       obtain ⟨x3, he3⟩ := get_of_lt s3.b.term.to n (by omega)
       obtain ⟨q, hq, hql⟩ := row_some hx3 he3
       have hqx : q.xs = s3.b.term.to.map edgeV := by rw [hq] at hx3; exact hx3
       have h3l := hI3.len
       refine VW_perm (S' := .cells q.g 40 (q.xs.flatMap V.leaves ++ q.rest) :: .cells g11 40 [.int e.block, intsX e.args] :: .cells g9 38 (blockV b).leaves :: .cells og 38 (((B3).map lbV).flatMap V.leaves ++ orest) :: .cells g7 31 [.int (splitF f).name, .raw (.slice (some ⟨og, 0, none⟩) (splitF f).blocks.length ocap)] :: .cells g4 31 [.int (splitF f).name, blocksX (splitF f).blocks] :: .cells g2 31 VT.zs31 :: (.buf s3.t 42 4 s3.b.ins.length :: lOwn (B3.eraseIdx k))) (pullL [.cells g11 40 [.int e.block, intsX e.args], .cells g9 38 (blockV b).leaves, .cells og 38 (((B3).map lbV).flatMap V.leaves ++ orest), .cells g7 31 [.int (splitF f).name, .raw (.slice (some ⟨og, 0, none⟩) (splitF f).blocks.length ocap)], .cells g4 31 [.int (splitF f).name, blocksX (splitF f).blocks], .cells g2 31 VT.zs31] (lown_row hs3 hq)) ?_
       refine Zd (Zc (Zj VT.fa31_1 rfl (Zc (Zu 4 VT.ty29 rfl rfl rfl (Zc (Zl rfl ?_))))))
       refine Zc (Zu2 (Zr2 VT.sl29 rfl rfl (by omega) (by omega) ⟨rfl, rfl⟩) ((V.le.of_eq (congrArg (V.ptr og) (by omega)) : V.le _ (.ptr og (k * 7)))) ?_)
       refine Zc (Zj VT.fa38_2 rfl (Zc (Zj VT.fa36_4 rfl ?_)))
       refine Zc (Zu2 (Zu 3 VT.ty34 rfl rfl (lb_leaf hs3 _) ⟨rfl, rfl⟩) ((V.le.of_eq (by rw [hq]; rfl) : V.le _ (.raw (.slice (some ⟨q.g, 0, none⟩) q.xs.length q.cap)))) ?_)
       refine Zc (Zl rfl ?_)
       refine Zc (Zu2 (Zr2 VT.sl34 rfl rfl (by omega) (by omega) ⟨rfl, rfl⟩) ((V.le.of_eq (congrArg (V.ptr q.g) (by omega)) : V.le _ (.ptr q.g (n * 2)))) ?_)
       refine Zc (Zj VT.fa40_1 rfl ?_)
       refine Zc (Zy 0 VT.ty32 rfl rfl rfl rfl (Ym (by rw [q_len hqx]; omega)) ?_)
       refine Za (Zb1 (Zi ?_))
       have hsl3 : (clrE n s3.b).term.to = s3.b.term.to.set n ⟨x3.block, []⟩ := by show s3.b.term.to.set n _ = _; rw [he3]; rfl
       have hstl : (clrE n s3.b).term.to.length = s3.b.term.to.length := by rw [hsl3, Yh]
       have hxl3 : (xl s3.o).length = (clrE n s3.b).term.to.length := by rw [hx3, Ya, hstl]
       have hI4 : LInv (splitF f).blocks (B3.set k ⟨clrE n s3.b, setE s3.o (clrE n s3.b).term.to, s3.t⟩) (k * 257 + (n + 1)) := linv_set hI3 hs3 (by omega) ⟨xl_set hxl3, xOk_set hx3 hstl.symm hk3⟩ (hI3.ins s3 (Yb hs3)) hstl
       have hp4 : lBs (B3.set k ⟨clrE n s3.b, setE s3.o (clrE n s3.b).term.to, s3.t⟩) = lvE (splitF f).blocks (freshF f.blocks) k b n e (lBs B2) := (lbs_set hs3 rfl).trans hp3
       have hlv : (B3.set k ⟨clrE n s3.b, setE s3.o (clrE n s3.b).term.to, s3.t⟩).map lbV = B3.map lbV := lbv_same hs3 (by unfold lbV; dsimp only; rw [xLeaf_set hxl3]; rfl)
       refine VW_cellAt 0 (n * 2 + 1) (v' := intsX []) rfl (Yg (by rw [q_len hqx]; omega)) (V.le.nil 1) rfl ?_
       refine VW_perm (S' := .cells g11 40 [.int e.block, intsX e.args] :: .cells g9 38 (blockV b).leaves :: .cells og 38 (((B3.set k ⟨clrE n s3.b, setE s3.o (clrE n s3.b).term.to, s3.t⟩).map lbV).flatMap V.leaves ++ orest) :: .cells g7 31 [.int (splitF f).name, .raw (.slice (some ⟨og, 0, none⟩) (splitF f).blocks.length ocap)] :: .cells g4 31 [.int (splitF f).name, blocksX (splitF f).blocks] :: .cells g2 31 VT.zs31 :: (lOwn (B3.set k ⟨clrE n s3.b, setE s3.o (clrE n s3.b).term.to, s3.t⟩))) ?_ ?_
       · show (.cells q.g 40 (((q.xs.flatMap V.leaves ++ q.rest).set (n * 2 + 1) V.nilSl).set (n * 2 + 1) (intsX [])) :: Own.cells g11 40 [.int e.block, intsX e.args] :: Own.cells g9 38 (blockV b).leaves :: Own.cells og 38 (((B3).map lbV).flatMap V.leaves ++ orest) :: Own.cells g7 31 [.int (splitF f).name, .raw (.slice (some ⟨og, 0, none⟩) (splitF f).blocks.length ocap)] :: Own.cells g4 31 [.int (splitF f).name, blocksX (splitF f).blocks] :: Own.cells g2 31 VT.zs31 :: (.buf s3.t 42 4 s3.b.ins.length :: lOwn (B3.eraseIdx k)) : Store).Perm _; rw [hlv, clr_row hqx he3, ← hsl3]; exact put_back (L := [_, _, _, _, _, _]) (lown_rowp (q := ⟨q.g, q.cap, (clrE n s3.b).term.to.map edgeV, q.rest⟩) (by omega) (by rw [hq]; rfl))
       refine Zd ?_
       refine Zc (Zh2 rfl rfl (by omega) ?_)
       refine Zc (Zl rfl (Za (Zi ?_)))
       exact ⟨(n + 1, B3.set k ⟨clrE n s3.b, setE s3.o (clrE n s3.b).term.to, s3.t⟩), (by (try simp only []); omega), ⟨by omega, hI4, by rw [hp4]; exact hq2⟩, ⟨rfl, rfl, rfl, rfl, rfl, rfl, rfl, rfl, rfl, rfl, rfl, rfl, trivial⟩, (Drops.drop (Drops.keep (Drops.keep (Drops.keep (Drops.keep (Drops.keep (Zt2 _)))))))⟩
     ·
      have hne : n = b.term.to.length := by omega
      subst hne
      rw [List.drop_length, lvEs] at hq2
      refine Zt (Ze1 (Ze1 (Zc1 (Zb1 (Zi (Zd ?_))))))
      refine Zc (Zh2 rfl rfl (by omega) ?_)
      refine Zc (Zl rfl (Za (Zi ?_)))
      exact ⟨(k + 1, B2), (by (try simp only []); omega), ⟨by omega, linv_mono hI2 (by omega), by rw [hq2]; exact hq0⟩, ⟨rfl, rfl, rfl, rfl, rfl, rfl, rfl, trivial⟩, (Drops.drop (Drops.keep (Drops.keep (Drops.keep (Drops.keep (Zt2 _))))))⟩
   ·
    have hke : k = (splitF f).blocks.length := by omega
    subst hke
    rw [List.drop_length, lvBs] at hq0
    refine Zt (Ze1 (Ze1 (Zc1 (Zi (Zb (Zb (Zd (Zc (Zj VT.fa31_1 rfl (Zc (Zu 1 VT.ty29 rfl rfl rfl ?_)))))))))))
    refine Zc (V_len_raw Try.underlying29 rfl ?_)
    refine Zc (Zl rfl (Za (Zi (Zs ?_))))
    refine Zi2 (ι := Nat × List LB) (fun (m, B5) => (splitF f).blocks.length - m) (fun (m, B5) => [(2, some (.ptr g2 0)), (7, some (.ptr g7 0)), (119, some (.int (splitF f).blocks.length)), (120, some (.int m))]) (fun (m, B5) => .cells og 38 (((B5).map lbV).flatMap V.leaves ++ orest) :: .cells g7 31 [.int (splitF f).name, .raw (.slice (some ⟨og, 0, none⟩) (splitF f).blocks.length ocap)] :: .cells g2 31 VT.zs31 :: (lOwn B5)) (fun (m, B5) => m ≤ (splitF f).blocks.length ∧ B5.length = (splitF f).blocks.length ∧ (∀ s ∈ B5, LOk s) ∧ lBs B5 = clrP m 0 (lvBs (splitF f).blocks (freshF f.blocks) 0 (splitF f).blocks (splitF f).blocks)) (0, B) ⟨Nat.zero_le _, hI.len, hI.ok, by rw [clrP_zero]; exact hq0⟩ ⟨rfl, rfl, rfl, rfl, trivial⟩ (Drops.keep (Drops.keep (Drops.drop (Drops.keep (Zt2 _))))) ?_
    rintro ⟨m, B5⟩ hC
    change m ≤ (splitF f).blocks.length ∧ B5.length = (splitF f).blocks.length ∧ (∀ s ∈ B5, LOk s) ∧ lBs B5 = clrP m 0 (lvBs (splitF f).blocks (freshF f.blocks) 0 (splitF f).blocks (splitF f).blocks) at hC
    obtain ⟨hm, h5l, h5o, hp5⟩ := hC
    refine Zb (Zd (Zc (Zj1 rfl rfl rfl (Za (Zi (Zb ?_))))))
    refine Zn1 rfl (fun h121 => ?_) (fun h121 => ?_)
    ·
     obtain ⟨s, hs⟩ := get_of_lt B5 m (by omega)
     have hsm := Yb hs
     refine Zi1 (Zi (Zb (Zs (Zb (Zd (Zc (Zl rfl (Zc (Zk rfl (Za (Zi (Zb (Zd (Zc (Zl rfl (Zc (Zj1 rfl rfl rfl (Za (Zi ?_)))))))))))))))))))
     refine Zn1 rfl (fun h124 => ?_) (fun h124 => ?_)
     ·
      have hC2 : m + 1 ≤ (splitF f).blocks.length ∧ (B5.set m ⟨noPar s.b, s.o, s.t⟩).length = (splitF f).blocks.length ∧ (∀ s2 ∈ B5.set m ⟨noPar s.b, s.o, s.t⟩, LOk s2) ∧ lBs (B5.set m ⟨noPar s.b, s.o, s.t⟩) = clrP (m + 1) 0 (lvBs (splitF f).blocks (freshF f.blocks) 0 (splitF f).blocks (splitF f).blocks) := ⟨by omega, by rw [Yh]; exact h5l, (fun s2 h2 => by rcases Yk h2 with h2 | rfl; exact h5o s2 h2; exact h5o s hsm), by rw [lbs_set (f := noPar) hs rfl, hp5]; exact (clrP_step (by omega)).resolve_right (fun hn => by rw [List.getElem?_eq_none_iff, lvBs_len] at hn; omega)⟩
      refine Zd (Zc (Zj VT.fa31_1 rfl (Zc (Zu 1 VT.ty29 rfl rfl rfl (Zc (Zl rfl ?_))))))
      refine Zc (Zu2 (Zr2 VT.sl29 rfl rfl (by omega) (by omega) ⟨rfl, rfl⟩) ((V.le.of_eq (congrArg (V.ptr og) (by omega)) : V.le _ (.ptr og (m * 7)))) ?_)
      refine Zc (Zj VT.fa38_0 rfl ?_)
      refine Zc (Zy 0 VT.ty32 rfl rfl rfl rfl (Ym (by rw [lb_len]; omega)) ?_)
      refine Za (Zb1 (Zi ?_))
      refine VW_cellAt 0 (m * 7 + 0) (v' := intsX []) rfl (Yg (by rw [lb_len]; omega)) (V.le.nil 1) rfl ?_
      refine VW_perm (S' := .cells og 38 (((B5.set m ⟨noPar s.b, s.o, s.t⟩).map lbV).flatMap V.leaves ++ orest) :: .cells g7 31 [.int (splitF f).name, .raw (.slice (some ⟨og, 0, none⟩) (splitF f).blocks.length ocap)] :: .cells g2 31 VT.zs31 :: (lOwn (B5.set m ⟨noPar s.b, s.o, s.t⟩))) ?_ ?_
      · show (.cells og 38 ((((B5.map lbV).flatMap V.leaves ++ orest).set (m * 7 + 0) V.nilSl).set (m * 7 + 0) (intsX [])) :: Own.cells g7 31 [.int (splitF f).name, .raw (.slice (some ⟨og, 0, none⟩) (splitF f).blocks.length ocap)] :: Own.cells g2 31 VT.zs31 :: (lOwn B5) : Store).Perm _; rw [List.set_set, lb_set (s' := ⟨noPar s.b, s.o, s.t⟩) orest hs (by decide) rfl]; exact .cons _ (.cons _ (.cons _ (lown_same (s' := ⟨noPar s.b, s.o, s.t⟩) hs rfl).symm))
      refine Zd ?_
      refine Zc (Zh2 rfl rfl (by omega) ?_)
      refine Zc (Zl rfl (Za (Zi ?_)))
      exact ⟨(m + 1, B5.set m ⟨noPar s.b, s.o, s.t⟩), (by (try simp only []); omega), hC2, ⟨rfl, rfl, rfl, rfl, trivial⟩, (Drops.keep (Drops.keep (Drops.keep (Zt2 _))))⟩
     ·
      have hm0 : m = 0 := by omega
      have hC2 : m + 1 ≤ (splitF f).blocks.length ∧ B5.length = (splitF f).blocks.length ∧ (∀ s2 ∈ B5, LOk s2) ∧ lBs B5 = clrP (m + 1) 0 (lvBs (splitF f).blocks (freshF f.blocks) 0 (splitF f).blocks (splitF f).blocks) := ⟨by omega, h5l, h5o, by rw [hp5, hm0, clrP_zero, clrP_one]⟩
      refine Zi1 (Zb1 (Zi (Zd ?_)))
      refine Zc (Zh2 rfl rfl (by omega) ?_)
      refine Zc (Zl rfl (Za (Zi ?_)))
      exact ⟨(m + 1, B5), (by (try simp only []); omega), hC2, ⟨rfl, rfl, rfl, rfl, trivial⟩, (Drops.keep (Drops.keep (Drops.keep (Zt2 _))))⟩
    ·
     have hme : m = (splitF f).blocks.length := by omega
     subst hme
     refine Zt (Ze1 (Ze1 (Zc1 (Zi ?_))))
     have hLv : (lvF f).blocks = lBs B5 := hp5.symm
     obtain ⟨c1, c2, c3⟩ := huo
     rw [Ya, hBl] at c1
     refine strip_lb og orest _ B5 [] ?_
     refine VW_drops (S' := .cells og 38 ([] ++ (((B5.map fun s => (s.b, s.o)).map fun x => cpV x.1 x.2).flatMap V.leaves ++ orest)) :: (eOwn ((B5.map fun s => (s.b, s.o)).map (·.2)) ++ [.cells g7 31 [.int (splitF f).name, .raw (.slice (some ⟨og, 0, none⟩) (splitF f).blocks.length ocap)], .cells g2 31 VT.zs31])) ?_ ?_
     · rw [Yi, Yi]; exact .keep (Drops.trans (.of_perm (Yl (l₁ := [_, _]))) (drops_appendR _ (lown_drops B5)))
     refine freeze_blocks og orest (B5.map fun s => (s.b, s.o)) [] [.cells g7 31 [.int (splitF f).name, .raw (.slice (some ⟨og, 0, none⟩) (splitF f).blocks.length ocap)], .cells g2 31 VT.zs31] (fun x hx => by obtain ⟨s, hs, rfl⟩ := List.mem_map.1 hx; exact h5o s hs) ?_
     rw [show (B5.map fun s => (s.b, s.o)).map (fun x => blockV x.1) = (lvF f).blocks.map blockV by rw [hLv, Yi, Yi]; rfl]
     refine VW_freezeC 0 0 1 (sz := 7) (rest := orest) ((lvF f).blocks.map blockV) rfl rfl rfl rfl (by rw [Ya, hLv, Ya]; exact h5l) c1 c2 (fits_bs _) ?_
     show VW Try.prog _ _ _ _ [.cells g7 31 [.int (lvF f).name, blocksX (lvF f).blocks], .cells g2 31 VT.zs31]
     refine Zb (Zd (Zc (Zv 0 VT.ty31 rfl rfl rfl (Zc (Zx 1 VT.ty31 rfl rfl rfl rfl rfl (Zc (Zk rfl (Za (Zi (Zf1 ?_))))))))))
     refine Zh1 rfl rfl (.cons (.agg (i := 1) VT.ty31 rfl rfl rfl) (.cons (.tmp rfl) (.nil))) ?_
     rw [hr]
     rfl
end Go.Proofs.Ytigkaadmobgfnaa.X39
