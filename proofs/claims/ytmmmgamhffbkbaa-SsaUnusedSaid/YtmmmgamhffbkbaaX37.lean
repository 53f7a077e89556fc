import Derived.Test.YtmmmgamhffbkbaaVT
import Derived.Test.YtmmmgamhffbkbaaS2
import Derived.Test.YtmmmgamhffbkbaaVO
import Derived.Test.YtmmmgamhffbkbaaDZ
import Derived.Test.YtmmmgamhffbkbaaX1
import Derived.Test.YtmmmgamhffbkbaaX2
import Derived.Test.YtmmmgamhffbkbaaX3
import Derived.Test.YtmmmgamhffbkbaaX4
import Derived.Test.YtmmmgamhffbkbaaX5
import Derived.Test.YtmmmgamhffbkbaaX6
import Derived.Test.YtmmmgamhffbkbaaX7
import Derived.Test.YtmmmgamhffbkbaaX8
import Derived.Test.YtmmmgamhffbkbaaX9
import Derived.Test.YtmmmgamhffbkbaaX10
import Derived.Test.YtmmmgamhffbkbaaXW
import Derived.Test.YtmmmgamhffbkbaaX25
import Derived.Test.YtmmmgamhffbkbaaX26
import Derived.Test.YtmmmgamhffbkbaaX34
import Derived.Test.YtmmmgamhffbkbaaX35
import Derived.Test.YtmmmgamhffbkbaaX36
set_option linter.unusedVariables false
set_option linter.unusedSimpArgs false
namespace Go.Proofs.Ytmmmgamhffbkbaa.X37
open Go.VL Go.SM Go.Proofs.Ytmmmgamhffbkbaa Go.Proofs.Ytmmmgamhffbkbaa.X1 Go.Proofs.Ytmmmgamhffbkbaa.X2 Go.Proofs.Ytmmmgamhffbkbaa.X3 Go.Proofs.Ytmmmgamhffbkbaa.X4 Go.Proofs.Ytmmmgamhffbkbaa.X5 Go.Proofs.Ytmmmgamhffbkbaa.X6 Go.Proofs.Ytmmmgamhffbkbaa.X7 Go.Proofs.Ytmmmgamhffbkbaa.X8 Go.Proofs.Ytmmmgamhffbkbaa.X9 Go.Proofs.Ytmmmgamhffbkbaa.X10 Go.Proofs.Ytmmmgamhffbkbaa.XW Go.Proofs.Ytmmmgamhffbkbaa.X25 Go.Proofs.Ytmmmgamhffbkbaa.X26 Go.Proofs.Ytmmmgamhffbkbaa.X34 Go.Proofs.Ytmmmgamhffbkbaa.X35 Go.Proofs.Ytmmmgamhffbkbaa.X36
theorem take_out {α : Type} : ∀ {l : List α} {i : Nat} {x : α}, l[i]? = some x → l.Perm (x :: l.eraseIdx i)
  | [], i, x, h => by simp at h
  | a :: l, 0, x, h => by
    have h : a = x := by simpa using h
    subst h
    exact .refl _
  | a :: l, i + 1, x, h => by
    have h : l[i]? = some x := by simpa using h
    exact ((take_out h).cons a).trans (.swap _ _ _)
theorem bown_pull {Os : List XRow} {m : Nat} {o : XRow} (h : Os[m]? = some o) : (bOwn Os).Perm (xOwn 44 (some o) ++ bOwn (Os.eraseIdx m)) := (take_out h).flatMap_right _
theorem bown_put {Os : List XRow} {m : Nat} {o : XRow} (h : m < Os.length) : (bOwn (Os.set m o)).Perm (xOwn 44 (some o) ++ bOwn (Os.eraseIdx m)) := by
  have h1 : (Os.set m o)[m]? = some o := List.getElem?_set_self h
  have h2 := bown_pull h1
  rw [erase_set] at h2
  exact h2
theorem blk_ins {bs : List SBlock} {b : SBlock} (hb : bs[0]? = some b) (rest : List V) : ((bs.map blockV).flatMap V.leaves ++ rest)[0 + 1]? = some (inssX b.ins) := by
  cases bs with
  | nil => cases hb
  | cons c l =>
    injection hb with hb
    subst hb
    rfl
theorem row_new {bs : List SBlock} {b : SBlock} {fr w : Int} (hb : bs[0]? = some b) (rest : List V) : ((bs.map blockV).flatMap V.leaves ++ rest).set (0 + 1) (inssX (newB fr w b).ins) = ((newL fr w bs).map blockV).flatMap V.leaves ++ rest := by
  cases bs with
  | nil => cases hb
  | cons c l =>
    injection hb with hb
    subst hb
    rfl
theorem row_put {bs : List SBlock} {b : SBlock} {fr w : Int} {v : V} (hb : bs[0]? = some b) (rest : List V) : (((bs.map blockV).flatMap V.leaves ++ rest).set (0 + 1) v).set 1 (inssX (newB fr w b).ins) = ((newL fr w bs).map blockV).flatMap V.leaves ++ rest := by
  rw [List.set_set]
  exact row_new hb rest
theorem zset_cx {fs : List SFunc} {Os : List XRow} {m : Nat} {f g : SFunc} {o p : XRow} (hf : fs[m]? = some f) (ho : Os[m]? = some o) (h : cxV g p = cxV f o) : cxL (fs.set m g) (Os.set m p) = cxL fs Os := by
  unfold cxL
  apply List.ext_getElem?
  intro i
  rw [List.getElem?_zipWith, List.getElem?_zipWith, List.getElem?_set, List.getElem?_set]
  by_cases e : m = i
  · subst e
    rw [if_pos rfl, if_pos rfl, if_pos (List.getElem?_eq_some_iff.1 hf).1, if_pos (List.getElem?_eq_some_iff.1 ho).1, hf, ho]
    exact congrArg some h
  · rw [if_neg e, if_neg e]
theorem brows_set {fs : List SFunc} {Os : List XRow} {m : Nat} {g : SFunc} {p : XRow} (h : BRows fs Os) (hp : BRow g p) : BRows (fs.set m g) (Os.set m p) := by
  obtain ⟨h1, h2⟩ := h
  refine ⟨by rw [List.length_set, List.length_set, h1], fun k f o hf ho => ?_⟩
  rw [List.getElem?_set] at hf ho
  by_cases e : m = k
  · rw [if_pos e] at hf ho
    split at hf
    · split at ho
      · injection hf with hf
        injection ho with ho
        subst hf ho
        exact hp
      · cases ho
    · cases hf
  · rw [if_neg e] at hf ho
    exact h2 k f o hf ho
theorem zip_cx (fs : List SFunc) (Os : List XRow) : cxL fs Os = (fs.zip Os).map fun x => cxV x.1 x.2 := by
  unfold cxL
  rw [List.zip, List.map_zipWith]
theorem zip_b {fs : List SFunc} {Os : List XRow} (h : BRows fs Os) : ∀ x ∈ fs.zip Os, BRow x.1 x.2 := fun x hx => by
  obtain ⟨v, hv⟩ := List.getElem?_of_mem hx
  obtain ⟨f, o⟩ := x
  obtain ⟨h1, h2⟩ := List.getElem?_zip_eq_some.1 hv
  exact h.2 v f o h1 h2
theorem zip_own {fs : List SFunc} {Os : List XRow} (h : Os.length = fs.length) : ((fs.zip Os).flatMap fun x => xOwn 44 (some x.2)) = bOwn Os := by
  have h1 : (fs.zip Os).map (·.2) = Os := List.map_snd_zip (Nat.le_of_eq h)
  show _ = Os.flatMap _
  rw [← h1, List.flatMap_map]
  rw [h1]
theorem zip_fun {fs : List SFunc} {Os : List XRow} (h : Os.length = fs.length) : (fs.zip Os).map (fun x => funcV x.1) = fs.map funcV := by
  have h1 : (fs.zip Os).map (·.1) = fs := List.map_fst_zip (Nat.le_of_eq h.symm)
  rw [show fs.map funcV = ((fs.zip Os).map (·.1)).map funcV by rw [h1], List.map_map]
  rfl
theorem cx_conv {m : Mem} {f : SFunc} {o : XRow} (hc : ∀ u, Rep m (xLeaf (some o)) u → Rep m (blocksX f.blocks) u) : ∀ u, Rep m (cxV f o) u → Rep m (funcV f) u := fun u hu => by
  obtain ⟨_, cs, e, r⟩ := hu
  exact ⟨rfl, cs, e, repL_setv (j := 1) r rfl hc⟩
theorem freeze_funs {nt : Nat} {Q : Exit → Fr → Store → Prop} {F : Fr} {c : Code} (g : Nat) (mv : V) (R : Store) : ∀ (L : List (SFunc × XRow)) (pre : List V), (∀ x ∈ L, BRow x.1 x.2) → VW Try.prog nt c Q F (.cells g 24 [.sl 2 none (pre ++ L.map fun x => funcV x.1), mv] :: R) → VW Try.prog nt c Q F (.cells g 24 [.sl 2 none (pre ++ L.map fun x => cxV x.1 x.2), mv] :: ((L.flatMap fun x => xOwn 44 (some x.2)) ++ R))
  | [], pre, _, h => h
  | (f, o) :: L, pre, ho, h => by
    obtain ⟨hx, q2, q3, q4⟩ := ho _ (List.mem_cons_self ..)
    have h2 := freeze_funs g mv R L (pre ++ [funcV f]) (fun x hx => ho x (List.mem_cons_of_mem _ hx)) (by rw [List.append_assoc]; exact h)
    rw [List.append_assoc] at h2
    have h2 : VW Try.prog nt c Q F (.cells g 24 [.sl 2 none (pre ++ funcV f :: L.map fun x => cxV x.1 x.2), mv] :: ((L.flatMap fun x => xOwn 44 (some x.2)) ++ R)) := h2
    have hx : o.xs = f.blocks.map blockV := hx
    refine VW_freezeS 1 0 0 (sz := 7) (rest := o.rest) (ys' := pre ++ funcV f :: L.map fun x => cxV x.1 x.2) (f.blocks.map blockV) rfl rfl rfl (by rw [hx]) (by rw [hx]) q2 q3 (fits_bs _) (by simp) (fun m hm p y y' h3 h4 => ?_) h2
    rcases mid_one h3 h4 with ⟨rfl, rfl⟩ | rfl
    · refine cx_conv fun u hu => ?_
      have hu : u = .slice (some ⟨o.g, 0, none⟩) o.xs.length o.cap := hu
      rw [hu]
      exact hm
    · exact fun u hu => hu
theorem rows_len7 (bs : List SBlock) (rest : List V) : ((bs.map blockV).flatMap V.leaves ++ rest).length = bs.length * 7 + rest.length := by
  rw [List.length_append, flat_len (blocks_7 _), List.length_map]
theorem perm_end {r b8 b5 b2 : Own} {Z W : Store} (h : W.Perm (r :: Z)) : (r :: b8 :: b5 :: b2 :: Z).Perm (b8 :: (W ++ [b5, b2])) := by
  have h1 : (r :: b8 :: b5 :: b2 :: Z).Perm (b8 :: r :: b5 :: b2 :: Z) := .swap _ _ _
  refine h1.trans (.cons _ ?_)
  have h2 : (r :: b5 :: b2 :: Z).Perm ((r :: Z) ++ [b5, b2]) := .cons _ (List.perm_append_comm (l₁ := [b5, b2]))
  exact h2.trans (h.symm.append_right _)
open Go.VL renaming VOps_nil → Za, VW_seq → Zb, VW_region → Zd, Needs_nil → Ze, Then_n → Zi, V_fieldAddr → Zj, V_assign → Zk, V_move → Zl, eqRes → Zm, vopT → Zn, goodS → Zo, V_load → Zu, V_load_agg → Zv, V_store_agg → Zx, V_store → Zy, V_indexAddr → Zz, Then_r → Zd1, VW_ret → Zf1, VRet_one → Zg1, VW_skip → Zi1, V_bin → Zj1, VW_condNe → Zm1, VW_condF → Zq1, V_pickT → Zs1, V_pickF → Zt1, V_nilCheck → Zv1, V_fieldAddr_ep → Zw1, V_callP → Zx1, V_load_ep → Zz1, V_load_ep_agg → Za2, V_alloc → Zb2, V_box → Zc2, V_build → Zf2, V_extract → Zg2, VOps_split → Zj2, V_not → Zl2, goodA → Zm2, goodU → Zo2, evs_cons → Zp2, evs_nil → Zq2, V_indexAddr_row → Zr2, VOp_as → Zu2, oneRes → Zw2, oneE → Zx2, anyRes → Za3, epRes → Zb3, epE → Zc3, V_appendN → Zi3, V_call → Zm3
set_option maxRecDepth 100000 in
set_option maxHeartbeats 16000000 in
theorem ssaUnused_c (u : SUnit) (n : Int) : VPure Try.prog 5 [unitV u, .int n] (.bool true) := by
 refine V_start (nt := 86) Try.func5 rfl rfl rfl ?_
 refine Zb (Zd ?_)
 refine Zc (Zc2 rfl rfl (fun g2 => ?_))
 refine Zc (Zk rfl (Za (Zi (Zb (Zb (Zd ?_))))))
 refine Zc (Zx1 [] rfl rfl VT.en6 (works_c) ?_)
 refine Zc (Zl2 rfl (Za (Zi ?_)))
 refine Zq1 rfl (rfl) ?_
 refine Zi1 (Zi (Zb (Zd (Zc (Zv 0 VT.ty24 rfl rfl rfl ?_)))))
 refine Zc (Zx1 [.tmp 16, .const (.int .i64 (2000))] rfl rfl VT.en7 (Run_c u 2000) ?_)
 refine Zc (Zl rfl (Zc (Zg2 rfl rfl (Zc (Zg2 rfl rfl (Zc (Zg2 rfl rfl ?_)))))))
 refine Zc (Zb2 VT.zr28 _ rfl rfl (fun g5 => ?_))
 refine Zc (Zx 0 VT.ty28 rfl rfl rfl rfl rfl (Zc (Zk rfl (Zc (Zk rfl (Za (Zi (Zb (Zb (Zd (Zc (Zl rfl (Zc (Zj1 rfl rfl rfl (Za (Zi ?_))))))))))))))))
 refine Zm1 rfl (fun h22 => ?_) (fun h22 => ?_)
 ·
  refine Zb (Zd (Zc (Zk rfl (Za (Zi (Zf1 ?_))))))
  refine Zd1 (Zg1 rfl (.tmp rfl) ?_)
  first | rfl | exact congrArg V.bool (sameOut_iff.2 rfl)
 ·
  have hx0 : (runF u 2000).2.2 = 0 := h22
  have hU := run_unit hx0
  have hfs := nw_fns hU
  have hul := fns_le hU
  have hcp : ∀ f ∈ u.fns, CpOk f ∧ 0 < f.blocks.length := fun f hf => ⟨cp_ok (hfs f hf), (func_ok (hfs f hf)).pos⟩
  have hmain := main_at hU
  have hmm := List.mem_of_getElem? hmain
  have h0 := hfs _ hmm
  have hok := func_ok h0
  have hpos := hok.pos
  have hmn := ((unit_of hU).u).main
  have hcb := (cp_ok h0).block
  obtain ⟨w, hw1, hw⟩ : ∃ k : Nat, withinF n 1000 = k ∧ k < 1000 := within_ok (n := n) (m := 1000) (by decide)
  have hww : isWordF (w : Int) = true := by unfold isWordF; exact wi_iff.2 ⟨by omega, by omega⟩
  refine Zi1 (Zi (Zb (Zd (Zc (Zv 1 VT.ty24 rfl rfl rfl ?_)))))
  refine Zc (V_callB [.tmp 23] [_, _] _ rfl rfl VT.en8 (.refl _) (CopyUnitX_c hcp hul) ?_)
  rintro r0 Sa ⟨Os, hOs, rfl, rfl⟩
  refine Zc (Zb2 VT.zr24 _ rfl rfl (fun g8 => ?_))
  refine Zc (Zx 0 VT.ty24 rfl rfl rfl rfl rfl (Za (Zi ?_)))
  have hOl := hOs.1
  obtain ⟨o, ho⟩ := get_of_lt Os u.main.toNat (by omega)
  have hbr := hOs.2 _ _ _ hmain ho
  obtain ⟨b, hb⟩ := get_of_lt (mainF u).blocks 0 (by omega)
  have hbi := (hcb b (List.mem_of_getElem? hb)).2.1
  obtain ⟨og, ocap, oxs, orest⟩ := o
  obtain ⟨hox, hok7⟩ := hbr
  have hox : oxs = (mainF u).blocks.map blockV := hox
  subst hox
  refine VW_perm (S' := .cells og 44 (((mainF u).blocks.map blockV).flatMap V.leaves ++ orest) :: .cells g8 24 [.sl 2 none (cxL u.fns Os), .int u.main] :: .cells g5 28 (resultV (runF u 2000).1).leaves :: .cells g2 24 [funcsX u.fns, .int u.main] :: (bOwn (Os.eraseIdx u.main.toNat))) (pullL [.cells g8 24 [.sl 2 none (cxL u.fns Os), .int u.main], .cells g5 28 (resultV (runF u 2000).1).leaves, .cells g2 24 [funcsX u.fns, .int u.main]] (bown_pull ho)) ?_
  refine Zb (Zd (Zc (Zj VT.fa24_0 rfl (Zc (Zu 1 VT.ty22 rfl rfl rfl (Zc (Zj VT.fa24_1 rfl (Zc (Zu 1 VT.ty3 rfl rfl rfl ?_)))))))))
  refine Zc (Zz (el := cxV (mainF u) ⟨og, ocap, (mainF u).blocks.map blockV, orest⟩) VT.sl22 rfl rfl (by omega) (cxL_get hmain ho) (fun a29 => ?_))
  refine Zc (Zw1 VT.fa37_1 rfl rfl ?_)
  refine Zc (Zz1 VT.ty35 rfl (xLeaf_leaf _) ?_)
  refine Zc (Zu2 (Zr2 VT.sl35 rfl rfl (by decide) (by rw [List.length_map]; omega) ⟨rfl, rfl⟩) ((V.le.of_eq rfl : V.le _ (.ptr og 0))) ?_)
  refine Zc (Zk rfl (Za (Zi (Zb ?_))))
  refine VW_drawR (G := Tok) [([], [9], []), ([], [2], []), ([1], [34], []), ([], [2], []), ([3], [36], []), ([4, 3, 2, 1], [35, 37], []), ([5, 4, 3, 2, 1], [38], []), ([6, 5, 4, 3, 2, 1], [39], []), ([], [1], []), ([8, 7, 6, 5, 4, 3, 2, 1], [41], []), ([9, 8, 7, 6, 5, 4, 3, 2, 1], [40, 42], []), ([10, 9, 8, 7, 6, 5, 4, 3, 2, 1], [43], [0]), ([], [9], []), ([12], [45], []), ([13, 12], [46], []), ([14, 13, 12], [47], []), ([15, 14, 13, 12, 11, 10, 9, 8, 7, 6, 5, 4, 3, 2, 1], [44, 48], [1]), (dn 17, [33], []), (dn 18, [50], []), (dn 19, [51, 49], [])] [11, 16, 19] (fourSt _ (fun x => .buf x 46 4 1 :: .cells og 44 (((mainF u).blocks.map blockV).flatMap V.leaves ++ orest) :: .cells g8 24 [.sl 2 none (cxL u.fns Os), .int u.main] :: .cells g5 28 (resultV (runF u 2000).1).leaves :: .cells g2 24 [funcsX u.fns, .int u.main] :: (bOwn (Os.eraseIdx u.main.toNat))) (fun x y => .buf y 46 4 ([insV (newI (frU u) w)] ++ b.ins.map insV).length :: .cells og 44 (((mainF u).blocks.map blockV).flatMap V.leaves ++ orest) :: .cells g8 24 [.sl 2 none (cxL u.fns Os), .int u.main] :: .cells g5 28 (resultV (runF u 2000).1).leaves :: .cells g2 24 [funcsX u.fns, .int u.main] :: (bOwn (Os.eraseIdx u.main.toNat))) (fun x y _ => .buf y 46 4 ([insV (newI (frU u) w)] ++ b.ins.map insV).length :: .cells og 44 ((((mainF u).blocks.map blockV).flatMap V.leaves ++ orest).set (0 + 1) (.sl 4 (some y) ([insV (newI (frU u) w)] ++ b.ins.map insV))) :: .cells g8 24 [.sl 2 none (cxL u.fns Os), .int u.main] :: .cells g5 28 (resultV (runF u 2000).1).leaves :: .cells g2 24 [funcsX u.fns, .int u.main] :: (bOwn (Os.eraseIdx u.main.toNat)))) [] [33, 34, 35, 36, 37, 38, 39, 40, 41, 42, 43, 44, 45, 46, 47, 48, 49, 50, 51] rfl VT.mix ?_
  refine Zp (Zm _) (Zm2 rfl (fun _ => (fun γ => Zf (fun _ h9 => Ze (Zn rfl (Zl h9 ⟨rfl, rfl⟩)))))) ?_
  refine Zp (Zm _) (Zo rfl rfl ⟨(fun γ => Zf (fun _ h2 => Ze (Zn rfl (Zj VT.fa24_0 h2 ⟨rfl, rfl⟩)))), trivial⟩) ?_
  refine Zp (Zm _) (Zo rfl rfl ⟨(fun γ => Zw 1 0 rfl (fun _ h34 => Ze (Zn rfl (Zu 3 VT.ty22 h34 rfl rfl ⟨rfl, rfl⟩)))), trivial⟩) ?_
  refine Zp (Zm _) (Zo rfl rfl ⟨(fun γ => Zf (fun _ h2 => Ze (Zn rfl (Zj VT.fa24_1 h2 ⟨rfl, rfl⟩)))), trivial⟩) ?_
  refine Zp (Zm _) (Zo rfl rfl ⟨(fun γ => Zw 3 0 rfl (fun _ h36 => Ze (Zn rfl (Zu 3 VT.ty3 h36 rfl rfl ⟨rfl, rfl⟩)))), trivial⟩) ?_
  refine Zp (Zb3 _) (Zo rfl rfl ⟨(fun γ => Zw 2 2 rfl (fun _ h35 => Zw 4 0 rfl (fun _ h37 => Ze (Zn rfl (Zz (el := funcV (mainF u)) VT.sl22 h35 h37 (by omega) (get_mapS _ hmain) (fun a38 => ⟨⟨_, rfl⟩, rfl⟩)))))), trivial⟩) ?_
  refine Zp (Zm _) (Zo rfl rfl ⟨(fun γ => Zw 5 0 rfl (fun _ h38 => Ze (Zc3 h38 (fun a_38 e38 => Zn rfl (Za2 VT.ty37 e38 rfl ⟨rfl, rfl⟩))))), trivial⟩) ?_
  refine Zp (Zm _) (Zo rfl rfl ⟨(fun γ => Zw 6 0 rfl (fun _ h39 => Ze (Zn rfl (Zx1 [.tmp 39] rfl (Zp2 h39 Zq2) VT.en12 (Fresh_c h0) ⟨rfl, rfl⟩)))), trivial⟩) ?_
  refine Zp (Zm _) (Zo rfl rfl ⟨(fun γ => Zf (fun _ h1 => Ze (Zn rfl (Zl h1 ⟨rfl, rfl⟩)))), trivial⟩) ?_
  refine Zp (Zm _) (Zo rfl rfl ⟨(fun γ => Zw 8 0 rfl (fun _ h41 => Ze (Zn rfl (Zu2 (Zx1 [.tmp 41, .const (.int .i64 (1000))] rfl (Zp2 h41 (Zp2 rfl Zq2)) VT.en10 (within_c n 1000 (by decide) (by decide)) ⟨rfl, rfl⟩) ((V.le.of_eq (congrArg V.int hw1) : V.le _ (.int (w : Int)))) ⟨rfl, rfl⟩)))), trivial⟩) ?_
  refine Zp (Zm _) (Zo rfl rfl ⟨(fun γ => Zw 7 2 rfl (fun _ h40 => Zw 9 0 rfl (fun _ h42 => Ze (Zn rfl (Zu2 (Zf2 [0, 1, 2] [.tmp 40, .const (.int .i64 (0)), .tmp 42] VT.st46 rfl rfl (Zp2 h40 (Zp2 rfl (Zp2 h42 Zq2))) rfl ⟨rfl, rfl⟩) ((by exact V.le.agg ⟨V.le.refl _, rfl, V.le.refl _, rfl, V.le.refl _, rfl, V.le.nil 1, rfl, trivial⟩ : V.le _ (insV (newI (frU u) (w : Int))))) ⟨rfl, rfl⟩))))), trivial⟩) ?_
  refine Zp (Zw2 (fun x => .sl 4 (some x) [insV (newI (frU u) w)])) (Zo2 0 rfl (fun γ => Zw 10 0 rfl (fun _ h43 => Ze (Zn rfl (V_litTok [.tmp 43] VT.sl39 rfl rfl rfl (Zp2 h43 Zq2) rfl (fun t44 => ⟨t44, ⟨t44, rfl, rfl⟩, rfl⟩)))))) ?_
  refine Zp (Zm _) (Zm2 rfl (fun _ => (fun γ => Zf (fun _ h9 => Ze (Zn rfl (Zl h9 ⟨rfl, rfl⟩)))))) ?_
  refine Zp (Zm _) (Zm2 rfl (fun _ => (fun γ => Zw 12 0 rfl (fun _ h45 => Ze (Zn rfl (Zv1 h45 ⟨rfl, rfl⟩)))))) ?_
  refine Zp (Zm _) (Zm2 rfl (fun _ => (fun γ => Zw 13 0 rfl (fun _ h46 => Ze (Zn rfl (Zj VT.fa44_1 h46 ⟨rfl, rfl⟩)))))) ?_
  refine Zp (Zm _) (Zo rfl rfl ⟨(fun γ => Zw 14 0 rfl (fun _ h47 => Ze (Zn rfl (Zu 0 VT.ty39 h47 rfl (blk_ins hb _) ⟨rfl, rfl⟩)))), (fun γ => Zw 14 0 rfl (fun _ h47 => Ze (Zn rfl (Zu 1 VT.ty39 h47 rfl (blk_ins hb _) ⟨rfl, rfl⟩)))), trivial⟩) ?_
  refine Zp (Zw2 (fun y => .sl 4 (some y) ([insV (newI (frU u) w)] ++ b.ins.map insV))) (Zo2 1 rfl (fun γ => Zw 11 4 rfl (fun _ h44 => Zw 15 0 rfl (fun _ h48 => Ze (Zx2 h44 (fun e44 => Zn rfl (Zi3 0 _ VT.sl39 e44 h48 rfl rfl (by rw [List.length_singleton, List.length_map]; omega) (fun t49 => ⟨t49, ⟨t49, rfl, rfl⟩, rfl⟩)))))))) ?_
  refine Zp (Zm _) (Zo rfl rfl ⟨(fun γ => Zw 0 16 rfl (fun _ h33 => Ze (Zn rfl (Zv1 h33 ⟨rfl, rfl⟩)))), trivial⟩) ?_
  refine Zp (Zm _) (Zo rfl rfl ⟨(fun γ => Zw 17 0 rfl (fun _ h50 => Ze (Zn rfl (Zj VT.fa44_1 h50 ⟨rfl, rfl⟩)))), trivial⟩) ?_
  refine Zp Za3 (Zo2 2 rfl (fun γ => Zw 18 0 rfl (fun _ h51 => Zw 16 2 rfl (fun _ h49 => Ze (Zx2 h49 (fun e49 => Zn rfl (Zy 1 VT.ty39 h51 e49 rfl rfl (Nat.ble_eq_true_of_le (by rw [rows_len7]; omega)) ⟨default, trivial, rfl⟩))))))) ?_
  refine DrawP_nil (fun γ => Ze ?_)
  refine Zi ?_
  refine VW_drops (S' := .cells og 44 ((((mainF u).blocks.map blockV).flatMap V.leaves ++ orest).set (0 + 1) (.sl 4 (some (γ 1)) ([insV (newI (frU u) w)] ++ b.ins.map insV))) :: .cells g8 24 [.sl 2 none (cxL u.fns Os), .int u.main] :: .cells g5 28 (resultV (runF u 2000).1).leaves :: .cells g2 24 [funcsX u.fns, .int u.main] :: (bOwn (Os.eraseIdx u.main.toNat))) (.drop (.refl _)) ?_
  refine VW_cellAt 0 1 (v' := inssX (newB (frU u) w b).ins) rfl (List.getElem?_set_self (by rw [rows_len7]; omega)) V.le.strip rfl ?_
  refine VW_perm (S' := .cells og 44 (((newL (frU u) w (mainF u).blocks).map blockV).flatMap V.leaves ++ orest) :: .cells g8 24 [.sl 2 none (cxL u.fns Os), .int u.main] :: .cells g5 28 (resultV (runF u 2000).1).leaves :: .cells g2 24 [funcsX u.fns, .int u.main] :: (bOwn (Os.eraseIdx u.main.toNat))) (by show ((.cells og 44 (((((mainF u).blocks.map blockV).flatMap V.leaves ++ orest).set (0 + 1) (.sl 4 (some (γ 1)) ([insV (newI (frU u) w)] ++ b.ins.map insV))).set 1 (inssX (newB (frU u) w b).ins)) : Own) :: Own.cells g8 24 [.sl 2 none (cxL u.fns Os), .int u.main] :: Own.cells g5 28 (resultV (runF u 2000).1).leaves :: Own.cells g2 24 [funcsX u.fns, .int u.main] :: (bOwn (Os.eraseIdx u.main.toNat))).Perm _; rw [row_put hb]) ?_
  have hbr2 : BRow (newF (frU u) w (mainF u)) (⟨og, ocap, (newL (frU u) w (mainF u).blocks).map blockV, orest⟩ : XRow) := ⟨rfl, by obtain ⟨q1, q2, q3⟩ := hok7; exact ⟨by show ((newL (frU u) w (mainF u).blocks).map blockV).length ≤ ocap; rw [List.length_map, newL_len]; rw [List.length_map] at q1; exact q1, q2, by show (((newL (frU u) w (mainF u).blocks).map blockV).flatMap V.leaves ++ orest).length = ocap * 7; rw [rows_len7, newL_len]; rw [rows_len7] at q3; exact q3⟩⟩
  have hbs2 := brows_set (m := u.main.toNat) hOs hbr2
  have hzl : (Os.set u.main.toNat (⟨og, ocap, (newL (frU u) w (mainF u).blocks).map blockV, orest⟩ : XRow)).length = (newU w u).fns.length := hbs2.1
  have hcx : cxL (newU w u).fns (Os.set u.main.toNat (⟨og, ocap, (newL (frU u) w (mainF u).blocks).map blockV, orest⟩ : XRow)) = cxL u.fns Os := zset_cx hmain ho (by show V.agg [_, V.raw (.slice _ ((newL (frU u) w (mainF u).blocks).map blockV).length _)] = V.agg [_, V.raw (.slice _ ((mainF u).blocks.map blockV).length _)]; rw [List.length_map, List.length_map, newL_len]; rfl)
  refine VW_perm (S' := .cells g8 24 [.sl 2 none ([] ++ ((newU w u).fns.zip (Os.set u.main.toNat (⟨og, ocap, (newL (frU u) w (mainF u).blocks).map blockV, orest⟩ : XRow))).map fun x => cxV x.1 x.2), .int u.main] :: ((((newU w u).fns.zip (Os.set u.main.toNat (⟨og, ocap, (newL (frU u) w (mainF u).blocks).map blockV, orest⟩ : XRow))).flatMap fun x => xOwn 44 (some x.2)) ++ [.cells g5 28 (resultV (runF u 2000).1).leaves, .cells g2 24 [funcsX u.fns, .int u.main]])) (by rw [← zip_cx, hcx, zip_own hzl]; exact perm_end (bown_put (by omega))) ?_
  refine freeze_funs g8 (.int u.main) [.cells g5 28 (resultV (runF u 2000).1).leaves, .cells g2 24 [funcsX u.fns, .int u.main]] ((newU w u).fns.zip (Os.set u.main.toNat (⟨og, ocap, (newL (frU u) w (mainF u).blocks).map blockV, orest⟩ : XRow))) [] (zip_b hbs2) ?_
  rw [zip_fun hzl]
  show VW Try.prog _ _ _ _ [.cells g8 24 [funcsX (newU w u).fns, .int u.main], .cells g5 28 (resultV (runF u 2000).1).leaves, .cells g2 24 [funcsX u.fns, .int u.main]]
  refine Zb (Zb (Zd (Zc (Zv 0 VT.ty24 rfl rfl rfl ?_))))
  refine Zc (Zx1 [.tmp 52] rfl rfl VT.en13 (Check_c (newU w u)) ?_)
  refine Zc (Zj1 rfl rfl rfl (Za (Zi ?_)))
  refine Zm1 rfl (fun h54 => ?_) (fun h54 => ?_)
  ·
   refine Zb (Zd (Zc (Zj VT.fa24_0 rfl (Zc (Zu 2 VT.ty22 rfl rfl rfl (Zc (Zj VT.fa24_1 rfl (Zc (Zu 2 VT.ty3 rfl rfl rfl ?_)))))))))
   refine Zc (Zz (el := funcV (mainF u)) VT.sl22 rfl rfl (by omega) (get_mapS _ hmain) (fun a59 => ?_))
   refine Zc (Za2 VT.ty37 rfl rfl ?_)
   refine Zc (Zx1 [.tmp 60] rfl rfl VT.en12 (Fresh_c h0) ?_)
   refine Zc (Zj1 rfl rfl rfl (Zc (Zl rfl ?_)))
   refine Zj2 (q := 63) rfl (fun hq63 => ?_) (fun hq63 => ?_)
   ·
    refine Zk0 hq63 ?_
    refine Zk0 hq63 ?_
    refine Zk0 hq63 ?_
    refine Zc (Zs1 rfl hq63 rfl ?_)
    refine Zc (Zk rfl (Za (Zi (Zf1 ?_))))
    refine Zd1 (Zg1 rfl (.tmp rfl) ?_)
    first | rfl | exact congrArg V.bool (sameOut_iff.2 rfl)
   ·
    have hx63 := of_decide_eq_false hq63
    refine Zc (Zv 2 VT.ty24 rfl rfl rfl ?_) (Zy0 hq63)
    refine Zc (Zm3 [.tmp 64] [] _ rfl rfl VT.en14 (.refl _) (simpleB_c hU) ?_) (Zy0 hq63)
    rintro _ _ ⟨rfl, sb, rfl, hsb⟩
    refine Zc (Zl2 rfl ?_) (Zy0 hq63)
    refine Zc (Zt1 rfl hq63 rfl ?_)
    refine Zc (Zk rfl (Za (Zi (Zf1 ?_))))
    refine Zd1 (Zg1 rfl (.tmp rfl) ?_)
    have hfr : frU u ≤ 4095 := by show freshF (mainF u).blocks ≤ 4095; omega
    cases sb with
   | false => rfl
   | true => exact absurd (nw_unit hU hww hfr (by have h9 := hsb rfl _ hmm; omega)) h54
  ·
   obtain ⟨hr1, hr2, hr3⟩ := new_run (w := (w : Int)) hU h54 hx0
   refine Zi1 (Zi (Zb (Zd (Zc (Zv 0 VT.ty24 rfl rfl rfl ?_)))))
   refine Zc (Zu2 (Zx1 [.tmp 69, .const (.int .i64 (4001))] rfl rfl VT.en7 (Run_c (newU w u) 4001) ⟨rfl, rfl⟩) ((V.le.of_eq (by rw [hr1, hr2]) : V.le _ (.tup [resultV (runF u 2000).1, .int (runF (newU w u) 4001).2.1, .int 0]))) ?_)
   refine Zc (Zl rfl (Zc (Zg2 rfl rfl (Zc (Zg2 rfl rfl (Zc (Zg2 rfl rfl ?_)))))))
   refine Zc (Zb2 VT.zr28 _ rfl rfl (fun g10 => ?_))
   refine Zc (Zx 0 VT.ty28 rfl rfl rfl rfl rfl (Zc (Zk rfl (Zc (Zk rfl (Za (Zi (Zb (Zd (Zc (Zl rfl (Zc (Zj1 rfl rfl rfl (Zc (Zl rfl ?_)))))))))))))))
   refine Zj2 (q := 76) rfl (fun hq76 => ?_) (fun hq76 => ?_)
   ·
    refine Zc (Zl rfl ?_) (Zy1 hq76)
    refine Zc (Zl rfl ?_) (Zy1 hq76)
    refine Zc (Zj1 rfl rfl rfl ?_) (Zy1 hq76)
    refine Zc (Zs1 rfl hq76 rfl ?_)
    refine Zc (Zl rfl ?_)
    refine Zj2 (q := 81) rfl (fun hq81 => ?_) (fun hq81 => ?_)
    ·
     refine Zc (Zv 2 VT.ty28 rfl rfl rfl ?_) (Zy1 hq81)
     refine Zc (Zv 0 VT.ty28 rfl rfl rfl ?_) (Zy1 hq81)
     refine Zc (Zx1 [.tmp 82, .tmp 83] rfl rfl VT.en11 (SameResult_c (runF u 2000).1 (runF u 2000).1) ?_) (Zy1 hq81)
     refine Zc (Zs1 rfl hq81 rfl ?_)
     refine Zc (Zk rfl (Za (Zi (Zf1 ?_))))
     refine Zg1 rfl (.tmp rfl) ?_
     first | rfl | exact congrArg V.bool (sameOut_iff.2 rfl)
    · exact absurd hr3 (of_decide_eq_false hq81)
   · exact absurd hq76 (by decide)
end Go.Proofs.Ytmmmgamhffbkbaa.X37
