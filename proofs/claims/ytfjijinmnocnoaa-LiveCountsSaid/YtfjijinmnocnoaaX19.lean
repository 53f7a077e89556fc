/- Walks, printed by walk.py. -/
import Derived.Test.YtfjijinmnocnoaaVT
import Derived.Test.YtfjijinmnocnoaaS2
import Derived.Test.YtfjijinmnocnoaaVI
import Derived.Test.YtfjijinmnocnoaaL8
import Derived.Test.YtfjijinmnocnoaaX1
import Derived.Test.YtfjijinmnocnoaaX2
import Derived.Test.YtfjijinmnocnoaaX3
import Derived.Test.YtfjijinmnocnoaaX4
import Derived.Test.YtfjijinmnocnoaaX5
import Derived.Test.YtfjijinmnocnoaaX6
import Derived.Test.YtfjijinmnocnoaaX7
import Derived.Test.YtfjijinmnocnoaaX8
import Derived.Test.YtfjijinmnocnoaaX9
import Derived.Test.YtfjijinmnocnoaaX10
import Derived.Test.YtfjijinmnocnoaaX16
import Derived.Test.YtfjijinmnocnoaaXW
import Derived.Test.YtfjijinmnocnoaaX18
set_option linter.unusedVariables false
set_option linter.unusedSimpArgs false
namespace Go.Proofs.Ytfjijinmnocnoaa.X19
open Go.VL Go.SM Go.Proofs.Ytfjijinmnocnoaa Go.Proofs.Ytfjijinmnocnoaa.X1 Go.Proofs.Ytfjijinmnocnoaa.X2 Go.Proofs.Ytfjijinmnocnoaa.X3 Go.Proofs.Ytfjijinmnocnoaa.X4 Go.Proofs.Ytfjijinmnocnoaa.X5 Go.Proofs.Ytfjijinmnocnoaa.X6 Go.Proofs.Ytfjijinmnocnoaa.X7 Go.Proofs.Ytfjijinmnocnoaa.X8 Go.Proofs.Ytfjijinmnocnoaa.X9 Go.Proofs.Ytfjijinmnocnoaa.X10 Go.Proofs.Ytfjijinmnocnoaa.X16 Go.Proofs.Ytfjijinmnocnoaa.XW Go.Proofs.Ytfjijinmnocnoaa.X18

def pressX (f : SFunc) : V := if funcF f = 0 then .tup [.int ((overB f (manyF f) pressG 0 f.blocks.length) : Nat), .int 0] else .tup [.int 0, .int (funcF f)]
theorem perm_p {m L bh b1 : Own} : [m, L, bh, b1].Perm ((L :: bh :: [m]) ++ [b1]) := (perm_erase (i := 1) (S := [m, L, bh, b1]) rfl).trans (.cons _ ((perm_erase (i := 1) (S := [m, bh, b1]) rfl).trans (.cons _ (.refl _))))
theorem drop_p {m L bh b1 : Own} : Drops ((L :: bh :: [m]) ++ [b1]) [m, L, bh, b1] := Drops.of_perm perm_p.symm
theorem perm_q {x L bh a b c : Own} : [x, L, bh, a, b, c].Perm ((L :: bh :: [x, a, b]) ++ [c]) := (perm_erase (i := 1) (S := [x, L, bh, a, b, c]) rfl).trans (.cons _ ((perm_erase (i := 1) (S := [x, bh, a, b, c]) rfl).trans (.cons _ (.refl _))))
theorem drop_q {x L bh a b c : Own} : Drops ((L :: bh :: [x, a, b]) ++ [c]) [x, L, bh, a, b, c] := Drops.of_perm perm_q.symm

def inter (f : SFunc) (v w : Int) : Bool × Int :=
  if funcF f = 0 then (if definedF f.blocks v = false then (false, 12) else if definedF f.blocks w = false then (false, 12) else if v = w then (false, 1) else ((overB f (manyF f) (bothG v.toNat w.toNat) false f.blocks.length), 0)) else (false, funcF f)
def interX (f : SFunc) (v w : Int) : V := .tup [.bool (inter f v w).1, .int (inter f v w).2]

def lapsI (v w : Int) (x y : Rg) : Bool := ((x.v : Int) == v) && ((y.v : Int) == w) && ((x.k : Int) == (y.k : Int)) && decide ((x.a : Int) ≤ (y.b : Int)) && decide ((y.a : Int) ≤ (x.b : Int))
theorem inter_law {f : SFunc} (h0 : funcF f = 0) (hs : AllSeen f) {v w : Int} (h2 : (inter f v w).2 = 0) : (inter f v w).1 = (rangesZ f (manyF f)).any fun x => (rangesZ f (manyF f)).any (lapsI v w x) := by
  have hok := func_ok h0
  unfold inter at h2 ⊢
  rw [if_pos h0] at h2 ⊢
  split at h2
  · cases h2
  · rename_i hd1
    rw [if_neg hd1]
    split at h2
    · cases h2
    · rename_i hd2
      rw [if_neg hd2]
      split at h2
      · cases h2
      · rename_i hne
        rw [if_neg hne]
        have hv := (defined_ok hok (by simpa using hd1)).1
        have hw := (defined_ok hok (by simpa using hd2)).1
        dsimp only
        rw [both_laps hok hs]
        congr 1
        funext x
        congr 1
        funext y
        have e : ∀ (a : Nat) (c : Int), 0 ≤ c → decide (a = c.toNat) = ((a : Int) == c) := fun a c hc => by
          rw [Bool.eq_iff_iff, decide_eq_true_eq, beq_iff_eq]
          omega
        unfold laps lapsI
        rw [e _ _ hv, e _ _ hw]
        congr 1
        · congr 1
          · congr 1
            rw [Bool.eq_iff_iff, decide_eq_true_eq, beq_iff_eq]
            omega
          · rw [Bool.eq_iff_iff, decide_eq_true_eq, decide_eq_true_eq]
            omega
        · rw [Bool.eq_iff_iff, decide_eq_true_eq, decide_eq_true_eq]
          omega
theorem hold_t {x y : Rg} (h1 : ((y.k : Int) == (x.k : Int)) = true) (h2 : decide ((y.a : Int) ≤ (x.a : Int)) = true) (h3 : (x.a : Int) ≤ (y.b : Int)) : holdsR x.k x.a y = true := by
  rw [beq_iff_eq] at h1
  rw [decide_eq_true_eq] at h2
  unfold holdsR
  simp only [Bool.and_eq_true, decide_eq_true_eq]
  omega
theorem hold_f1 {x y : Rg} (h1 : ((y.k : Int) == (x.k : Int)) = false) : holdsR x.k x.a y = false := by
  rw [← Bool.not_eq_true, beq_iff_eq] at h1
  unfold holdsR
  rw [← Bool.not_eq_true]
  simp only [Bool.and_eq_true, decide_eq_true_eq]
  omega
theorem hold_f2 {x y : Rg} (h1 : decide ((y.a : Int) ≤ (x.a : Int)) = false) : holdsR x.k x.a y = false := by
  rw [decide_eq_false_iff_not] at h1
  unfold holdsR
  rw [← Bool.not_eq_true]
  simp only [Bool.and_eq_true, decide_eq_true_eq]
  omega
theorem hold_f3 {x y : Rg} (h1 : ¬ (x.a : Int) ≤ (y.b : Int)) : holdsR x.k x.a y = false := by
  unfold holdsR
  rw [← Bool.not_eq_true]
  simp only [Bool.and_eq_true, decide_eq_true_eq]
  omega
theorem count_step {R : List Rg} {q : Rg → Bool} {j cnt t : Nat} {y : Rg} (hy : R[j]? = some y) (hc : cnt + (R.drop j).countP q = t) : cnt + (if q y = true then 1 else 0) + (R.drop (j + 1)).countP q = t := by
  rw [drop_cons hy, List.countP_cons] at hc
  omega
theorem high_step {R : List Rg} {i m t : Nat} {x : Rg} (hx : R[i]? = some x) (h : highF R (R.drop i) m = t) : highF R (R.drop (i + 1)) (max m (R.countP (holdsR x.k x.a))) = t := by
  rw [drop_cons hx] at h
  exact h

open Go.VL renaming VOps_nil → Za, VW_seq → Zb, VW_region → Zd, Needs_nil → Ze, VOps_skipU → Zh, Then_n → Zi, V_fieldAddr → Zj, V_assign → Zk, V_move → Zl, eqRes → Zm, vopT → Zn, goodS → Zo, VW_block → Zs, VW_exit → Zt, V_load → Zu, V_load_agg → Zv, V_store_agg → Zx, V_store → Zy, V_indexAddr → Zz, InBlock_r → Za1, InBlock_n → Zb1, InBlock_hit → Zc1, Then_r → Zd1, Then_e → Ze1, VW_ret → Zf1, VRet_one → Zg1, VRet_many → Zh1, VW_skip → Zi1, V_bin → Zj1, VW_condEq → Zl1, VW_condNe → Zm1, VW_condP → Zn1, VW_condN → Zo1, VW_condT → Zp1, VW_condF → Zq1, VW_cond → Zr1, V_pickT → Zs1, V_pickF → Zt1, V_callP → Zx1, V_load_ep → Zz1, V_load_ep_agg → Za2, V_alloc → Zb2, V_box → Zc2, V_lenN → Zd2, V_extract → Zg2, V_add → Zh2, VW_loopF → Zi2, VOps_split → Zj2, V_sub → Zk2, V_not → Zl2, goodU1 → Zn2, evs_cons → Zp2, evs_nil → Zq2, V_indexAddr_row → Zr2, Drops.refl → Zt2, VOp_as → Zu2, perm_erase → Zv2, anyRes → Za3, V_load_elem1 → Zf3, V_store_elem1 → Zh3, V_callKs → Zl3, V_call → Zm3, VRet_end → Zn3
set_option maxRecDepth 100000 in
theorem press1_c (live : List Bool) (hl : live.length ≤ 1000000) (gr cap : Nat) (rest : List V) (gm m p : Nat) : VCalls Try.prog 19 [.int p, .raw (.slice (some ⟨gr, 0, none⟩) live.length cap), .ptr gm 0] [.cells gr 4 (live.map V.bool ++ rest), .cells gm 3 [.int m]] fun r S' => S' = [.cells gr 4 (live.map V.bool ++ rest), .cells gm 3 [.int (pressG m p live : Nat)]] := by
 refine VCalls_drops ?_
 refine V_start (nt := 10) Try.func19 rfl rfl rfl ?_
 refine VW_drawR (G := Unit) [([], [2], []), ([], [1], []), ([1], [6], []), ([2, 1], [7], []), (dn 4, [5, 8], []), (dn 5, [2, 9], [])] [5] (setSt _ 1 (fun _ => .cells gm 3 [.int (pressG m p live : Nat)])) [] [5, 6, 7, 8, 9] rfl VT.mix ?_
 refine Zp (Zm _) (Zo rfl rfl ⟨(fun γ => Zf (fun _ h2 => Ze (Zn rfl (Zu 1 VT.ty3 h2 rfl rfl ⟨rfl, rfl⟩)))), trivial⟩) ?_
 refine Zp (Zm _) (Zo rfl rfl ⟨(fun γ => Zf (fun _ h1 => Ze (Zn rfl (Zl h1 ⟨rfl, rfl⟩)))), trivial⟩) ?_
 refine Zp (Zm _) (Zo rfl rfl ⟨(fun γ => Zw 1 0 rfl (fun _ h6 => Ze (Zn rfl (Zl3 [.tmp 6] [_] _ rfl (Zp2 h6 Zq2) VT.en17 (.refl _) (listR_c live hl gr cap rest) ⟨rfl, rfl⟩)))), trivial⟩) ?_
 refine Zp (Zm _) (Zo rfl rfl ⟨(fun γ => Zw 2 0 rfl (fun _ h7 => Ze (Zn rfl (Zd2 (n := (listF 0 live).length) Try.underlying31 h7 (by simp) (fun hl8 => ⟨rfl, rfl⟩))))), trivial⟩) ?_
 refine Zp (Zm _) (Zo rfl rfl ⟨(fun γ => Zw 0 3 rfl (fun _ h5 => Zw 3 0 rfl (fun _ h8 => Ze (Zn rfl (Zu2 (V_max2 h5 h8 ⟨rfl, rfl⟩) ((V.le.of_eq (congrArg V.int (by unfold pressG; omega)) : V.le _ (.int (pressG m p live : Nat)))) ⟨rfl, rfl⟩))))), trivial⟩) ?_
 refine Zp Za3 (Zn2 rfl (fun γ => Zf (fun _ h2 => Zw 4 0 rfl (fun _ h9 => Ze (Zn rfl (Zy 1 VT.ty3 h2 h9 rfl rfl rfl ⟨default, trivial, rfl⟩)))))) ?_
 refine DrawP_nil (fun γ => Ze ?_)
 refine Zn3 rfl ?_
 exact ⟨_, Zt2 _, rfl⟩


set_option maxRecDepth 100000 in
set_option maxHeartbeats 8000000 in
theorem Pressure_c (f : SFunc) : VPure Try.prog 8 [funcV f] (pressX f) := by
 have hr := pressX.eq_def f
 refine V_start (nt := 30) Try.func8 rfl rfl rfl ?_
 refine Zb (Zd ?_)
 refine Zc (Zc2 rfl rfl (fun g1 => ?_))
 refine Zc (Zk rfl (Zc (Zk rfl (Za (Zi (Zb (Zd (Zc (Zv 0 VT.ty24 rfl rfl rfl ?_)))))))))
 by_cases h0 : funcF f = 0
 ·
  rw [if_pos h0] at hr
  have hok := func_ok h0
  obtain ⟨hmi, hm1, hm2, rok⟩ := many_ok hok
  have hbp := hok.pos
  have h128 := hok.len
  have lok := live_ok f.blocks (manyF f)
  have hblen : (liveZ f).behind.length = f.blocks.length := lok.blen
  refine Zc (Zm3 [.tmp 10] [] _ rfl rfl VT.en14 (.refl _) (build_o h0) ?_)
  rintro r Sa ⟨gl, gb, rfl, rfl⟩
  refine Zc (Zl rfl (Zc (Zg2 rfl rfl (Zc (Zg2 rfl rfl (Zc (Zg2 rfl rfl (Zc (Zk rfl (Zc (Zk rfl (Zc (Zk rfl (Za (Zi (Zb (Zb (Zd (Zc (Zl rfl ?_))))))))))))))))))))
  refine Zc (Zj1 rfl rfl rfl (Za (Zi ?_)))
  refine Zm1 rfl (fun h16 => ?_) (fun h16 => ?_)
  · exact absurd rfl h16
  ·
   refine Zi1 (Zi (Zb (Zd ?_)))
   refine Zc (Zb2 VT.zr3 _ rfl rfl (fun g7 => ?_))
   refine Zc (Zy 0 VT.ty3 rfl rfl rfl rfl rfl (Za (Zi (Zb (Zb (Zd (Zc (Zj VT.fa24_1 rfl (Zc (Zu 3 VT.ty22 rfl rfl rfl ?_))))))))))
   refine Zc (Zd2 (n := f.blocks.length) Try.underlying22 rfl (by simp) (fun hl20 => ?_))
   refine Zc (Zl rfl (Za (Zi (Zs ?_))))
   refine Zi2 (ι := Nat × Nat) (fun (k, m) => f.blocks.length - k) (fun (k, m) => [(1, some (.ptr g1 0)), (4, some (.ptr gl 0)), (7, some (.ptr g7 0)), (20, some (.int f.blocks.length)), (21, some (.int k))]) (fun (k, m) => [.cells g7 3 [.int m], .cells gl 64 (lifeL f.name f.blocks (manyF f) (.raw (.slice (some ⟨gb, 0, none⟩) f.blocks.length f.blocks.length))), .cells gb 45 ((liveZ f).behind.map lsV), .cells g1 24 [.int f.name, blocksX f.blocks]]) (fun (k, m) => k ≤ f.blocks.length ∧ m = (overB f (manyF f) pressG 0 k)) (0, 0) ⟨Nat.zero_le _, rfl⟩ ⟨rfl, rfl, rfl, rfl, rfl, trivial⟩ (Drops.keep (Drops.keep (Drops.keep (Drops.keep (Zt2 _))))) ?_
   rintro ⟨k, m⟩ hA
   change k ≤ f.blocks.length ∧ m = (overB f (manyF f) pressG 0 k) at hA
   obtain ⟨hk, hq⟩ := hA
   refine Zb (Zd (Zc (Zj1 rfl rfl rfl (Za (Zi (Zb ?_))))))
   refine Zn1 rfl (fun h22 => ?_) (fun h22 => ?_)
   ·
    obtain ⟨b, hb⟩ := get_of_lt f.blocks k h22
    obtain ⟨s, hs, hsb, hsl⟩ := behind_get (f := f) (k := k) (by omega)
    refine Zi1 (Zi (Zb (Zs (Zb (Zd (Zc (Zl rfl (Zc (Zk rfl (Za (Zi (Zd (Zc (Zl rfl (Zc (Zl rfl ?_))))))))))))))))
    refine Zc (V_makeFunc [.tmp 7] rfl rfl ?_)
    refine Zc (V_callG [.tmp 24, .tmp 25, .tmp 26] (.cells gl 64 (lifeL f.name f.blocks (manyF f) (.raw (.slice (some ⟨gb, 0, none⟩) f.blocks.length f.blocks.length))) :: .cells gb 45 ((liveZ f).behind.map lsV) :: (fun m : Nat => [.cells g7 3 [.int m]]) m) [_] rfl rfl VT.en15 perm_p (backC_c rok hb hblen hs hsl hm1 hm2 gl gb f.name VT.en19 (fun m : Nat => [.cells g7 3 [.int m]]) (fun p (m : Nat) => seenV b s pressG (visitN b s pressG b.ins.length (overB f (manyF f) pressG 0 k)) p m) m (by rw [hq]; rfl) (fun x p gr cap rest hp h1 => by have h9 := press1_c (liveAt b s p) (by rw [liveAt_len]; omega) gr cap rest g7 x p; rw [liveAt_len] at h9; exact h9.mono fun r Sx e1 => ⟨_, e1, seenV_step h1⟩)) ?_)
    rintro r Sa ⟨m2, rfl, hsn⟩
    refine ⟨_, drop_p, ?_⟩
    have hq2 : m2 = (overB f (manyF f) pressG 0 (k + 1)) := by rw [overB_succ pressG 0 hb hsb]; exact hsn
    refine Za (Zb1 (Zi (Zd ?_)))
    refine Zc (Zh2 rfl rfl (by omega) ?_)
    refine Zc (Zl rfl (Za (Zi ?_)))
    exact ⟨(k + 1, m2), (by (try simp only []); omega), ⟨by omega, hq2⟩, ⟨rfl, rfl, rfl, rfl, rfl, trivial⟩, (Drops.keep (Drops.keep (Drops.keep (Drops.keep (Zt2 _)))))⟩
   ·
    have hke : k = f.blocks.length := by omega
    subst hke
    refine Zt (Ze1 (Ze1 (Zc1 (Zi (Zb (Zd (Zc (Zu 0 VT.ty3 rfl rfl rfl (Zc (Zk rfl (Zc (Zk rfl (Za (Zi (Zf1 ?_)))))))))))))))
    refine Zh1 rfl rfl (.cons (.tmp rfl) (.cons (.tmp rfl) (.nil))) ?_
    rw [hr, hq]
 ·
  rw [if_neg h0] at hr
  refine Zc (Zx1 [.tmp 10] rfl rfl VT.en14 (build_e h0) ?_)
  refine Zc (Zl rfl (Zc (Zg2 rfl rfl (Zc (Zg2 rfl rfl (Zc (Zg2 rfl rfl (Zc (Zk rfl (Zc (Zk rfl (Zc (Zk rfl (Za (Zi (Zb (Zb (Zd (Zc (Zl rfl ?_))))))))))))))))))))
  refine Zc (Zj1 rfl rfl rfl (Za (Zi ?_)))
  refine Zm1 rfl (fun h16 => ?_) (fun h16 => ?_)
  ·
   refine Zb (Zd (Zc (Zl rfl (Zc (Zk rfl (Zc (Zk rfl (Za (Zi (Zf1 ?_))))))))))
   refine Zd1 (Zh1 rfl rfl (.cons (.tmp rfl) (.cons (.tmp rfl) (.nil))) ?_)
   rw [hr]
  · exact absurd h16 h0


set_option maxRecDepth 100000 in
theorem def11_c (i : SIns) (v : Int) (g : Nat) : VKeep Try.prog 39 [insV i, .ptr g 0] [.cells g 3 [.int v]] (.bool (i.to == v)) := by
 refine VKeep.drops ?_
 refine V_start (nt := 8) Try.func39 rfl rfl rfl ?_
 refine Zb (Zd ?_)
 refine Zc (Zc2 rfl rfl (fun g2 => ?_))
 refine Zc (Zk rfl (Za (Zi (Zb (Zd (Zc (Zj VT.fa39_0 rfl (Zc (Zu 0 VT.ty3 rfl rfl rfl (Zc (Zu 1 VT.ty3 rfl rfl rfl (Zc (Zj1 rfl rfl rfl (Zc (Zk rfl (Za (Zi (Zf1 ?_))))))))))))))))))
 refine Zg1 rfl (.tmp rfl) ?_
 exact ⟨rfl, (Drops.drop (Drops.keep (Zt2 _)))⟩


set_option maxRecDepth 100000 in
theorem insCIdx_c {l : List SIns} {tok : Option Tok} {p : SIns → Bool} {c : FuncId} {caps : List V} {o : Own} (hen : Enters Try.prog c) (hp : ∀ x ∈ l, VKeep Try.prog c (insV x :: caps) [o] (.bool (p x))) : VKeep Try.prog 50 [.sl 4 tok (l.map insV), .clo (.func c) caps] [o] (.int (idxOf p l)) := by
 refine V_start (nt := 19) Try.func50 rfl rfl rfl ?_
 refine Zb (Zd (Zc (Zk rfl (Za (Zi (Zb (Zb (Zd (Zc (Zl rfl ?_))))))))))
 refine Zc (Zd2 (n := l.length) Try.underlying32 rfl (by simp) (fun hl7 => ?_))
 refine Zc (Zl rfl (Za (Zi (Zs ?_))))
 refine Zi2 (ι := Nat) (fun k => l.length - k) (fun k => [(0, some (.sl 4 tok (l.map insV))), (1, some (.clo (.func c) caps)), (7, some (.int l.length)), (8, some (.int k))]) (fun k => [o]) (fun k => k ≤ l.length ∧ (l.take k).any p = false) 0 ⟨Nat.zero_le _, rfl⟩ ⟨rfl, rfl, rfl, rfl, trivial⟩ (Zt2 _) ?_
 rintro k hA
 change k ≤ l.length ∧ (l.take k).any p = false at hA
 obtain ⟨hk, hany⟩ := hA
 refine Zb (Zd (Zc (Zj1 rfl rfl rfl (Za (Zi (Zb ?_))))))
 refine Zn1 rfl (fun h9 => ?_) (fun h9 => ?_)
 ·
  obtain ⟨x, hr⟩ := get_of_lt l k h9
  refine Zi1 (Zi (Zb (Zs (Zb (Zd (Zc (Zl rfl (Zc (Zk rfl (Za (Zi (Zb (Zd (Zc (Zl rfl (Zc (Zl rfl (Zc (Zl rfl ?_)))))))))))))))))))
  refine Zc (Zz (el := insV x) VT.sl32 rfl rfl (by omega) (get_mapS _ hr) (fun a14 => ?_))
  refine Zc (Za2 VT.ty39 rfl rfl ?_)
  refine Zc (V_callClo [.tmp 15] [_] _ rfl rfl rfl hen (Zv2 (i := 0) rfl) (hp x (List.mem_of_getElem? hr)) ?_)
  rintro r Sa ⟨rfl, rfl⟩
  refine Za (Zi ?_)
  refine Zr1 rfl (fun h16 => ?_) (fun h16 => ?_)
  ·
   refine Zb (Zd (Zc (Zl rfl (Zc (Zk rfl (Za (Zi (Zf1 ?_))))))))
   refine Za1 (Zd1 (Zd1 (Za1 (Zd1 (Zg1 rfl (.tmp rfl) ?_)))))
   rw [idxOf_at p hr hany h16]
   exact ⟨rfl, rfl⟩
  ·
   refine Zi1 (Zb1 (Zi (Zd ?_)))
   refine Zc (Zh2 rfl rfl (by omega) ?_)
   refine Zc (Zl rfl (Za (Zi ?_)))
   exact ⟨k + 1, (by (try simp only []); omega), ⟨by omega, any_snoc hr hany h16⟩, ⟨rfl, rfl, rfl, rfl, trivial⟩, (Drops.keep (Zt2 _))⟩
 ·
  have hke : k = l.length := by omega
  subst hke
  rw [List.take_length] at hany
  refine Zt (Ze1 (Ze1 (Zc1 (Zi (Zb (Zd (Zc (Zk rfl (Za (Zi (Zf1 ?_)))))))))))
  refine Zg1 rfl (.tmp rfl) ?_
  rw [idxOf_none p hany]
  exact ⟨rfl, rfl⟩


set_option maxRecDepth 100000 in
theorem insCAny_c {l : List SIns} {tok : Option Tok} {p : SIns → Bool} {c : FuncId} {caps : List V} {o : Own} (hen : Enters Try.prog c) (hp : ∀ x ∈ l, VKeep Try.prog c (insV x :: caps) [o] (.bool (p x))) : VKeep Try.prog 38 [.sl 4 tok (l.map insV), .clo (.func c) caps] [o] (.bool (l.any p)) := by
 refine V_start (nt := 9) Try.func38 rfl rfl rfl ?_
 refine Zb (Zd (Zc (Zk rfl (Za (Zi (Zb (Zd (Zc (Zl rfl (Zc (Zl rfl ?_)))))))))))
 refine Zc (Zm3 [.tmp 5, .tmp 6] [_] _ rfl rfl VT.en50 (Zv2 (i := 0) rfl) (insCIdx_c hen hp) ?_)
 rintro r Sa ⟨rfl, rfl⟩
 refine Zc (Zj1 rfl rfl rfl (Zc (Zk rfl (Za (Zi (Zf1 ?_))))))
 refine Zg1 rfl (.tmp rfl) ?_
 rw [idxOf_ge]
 exact ⟨rfl, rfl⟩


set_option maxRecDepth 100000 in
theorem blCIdx_c {l : List SBlock} {tok : Option Tok} {p : SBlock → Bool} {c : FuncId} {caps : List V} {o : Own} (hen : Enters Try.prog c) (hp : ∀ x ∈ l, VKeep Try.prog c (blockV x :: caps) [o] (.bool (p x))) : VKeep Try.prog 48 [.sl 7 tok (l.map blockV), .clo (.func c) caps] [o] (.int (idxOf p l)) := by
 refine V_start (nt := 19) Try.func48 rfl rfl rfl ?_
 refine Zb (Zd (Zc (Zk rfl (Za (Zi (Zb (Zb (Zd (Zc (Zl rfl ?_))))))))))
 refine Zc (Zd2 (n := l.length) Try.underlying22 rfl (by simp) (fun hl7 => ?_))
 refine Zc (Zl rfl (Za (Zi (Zs ?_))))
 refine Zi2 (ι := Nat) (fun k => l.length - k) (fun k => [(0, some (.sl 7 tok (l.map blockV))), (1, some (.clo (.func c) caps)), (7, some (.int l.length)), (8, some (.int k))]) (fun k => [o]) (fun k => k ≤ l.length ∧ (l.take k).any p = false) 0 ⟨Nat.zero_le _, rfl⟩ ⟨rfl, rfl, rfl, rfl, trivial⟩ (Zt2 _) ?_
 rintro k hA
 change k ≤ l.length ∧ (l.take k).any p = false at hA
 obtain ⟨hk, hany⟩ := hA
 refine Zb (Zd (Zc (Zj1 rfl rfl rfl (Za (Zi (Zb ?_))))))
 refine Zn1 rfl (fun h9 => ?_) (fun h9 => ?_)
 ·
  obtain ⟨x, hr⟩ := get_of_lt l k h9
  refine Zi1 (Zi (Zb (Zs (Zb (Zd (Zc (Zl rfl (Zc (Zk rfl (Za (Zi (Zb (Zd (Zc (Zl rfl (Zc (Zl rfl (Zc (Zl rfl ?_)))))))))))))))))))
  refine Zc (Zz (el := blockV x) VT.sl22 rfl rfl (by omega) (get_mapS _ hr) (fun a14 => ?_))
  refine Zc (Za2 VT.ty37 rfl rfl ?_)
  refine Zc (V_callClo [.tmp 15] [_] _ rfl rfl rfl hen (Zv2 (i := 0) rfl) (hp x (List.mem_of_getElem? hr)) ?_)
  rintro r Sa ⟨rfl, rfl⟩
  refine Za (Zi ?_)
  refine Zr1 rfl (fun h16 => ?_) (fun h16 => ?_)
  ·
   refine Zb (Zd (Zc (Zl rfl (Zc (Zk rfl (Za (Zi (Zf1 ?_))))))))
   refine Za1 (Zd1 (Zd1 (Za1 (Zd1 (Zg1 rfl (.tmp rfl) ?_)))))
   rw [idxOf_at p hr hany h16]
   exact ⟨rfl, rfl⟩
  ·
   refine Zi1 (Zb1 (Zi (Zd ?_)))
   refine Zc (Zh2 rfl rfl (by omega) ?_)
   refine Zc (Zl rfl (Za (Zi ?_)))
   exact ⟨k + 1, (by (try simp only []); omega), ⟨by omega, any_snoc hr hany h16⟩, ⟨rfl, rfl, rfl, rfl, trivial⟩, (Drops.keep (Zt2 _))⟩
 ·
  have hke : k = l.length := by omega
  subst hke
  rw [List.take_length] at hany
  refine Zt (Ze1 (Ze1 (Zc1 (Zi (Zb (Zd (Zc (Zk rfl (Za (Zi (Zf1 ?_)))))))))))
  refine Zg1 rfl (.tmp rfl) ?_
  rw [idxOf_none p hany]
  exact ⟨rfl, rfl⟩


set_option maxRecDepth 100000 in
theorem blCAny_c {l : List SBlock} {tok : Option Tok} {p : SBlock → Bool} {c : FuncId} {caps : List V} {o : Own} (hen : Enters Try.prog c) (hp : ∀ x ∈ l, VKeep Try.prog c (blockV x :: caps) [o] (.bool (p x))) : VKeep Try.prog 35 [.sl 7 tok (l.map blockV), .clo (.func c) caps] [o] (.bool (l.any p)) := by
 refine V_start (nt := 9) Try.func35 rfl rfl rfl ?_
 refine Zb (Zd (Zc (Zk rfl (Za (Zi (Zb (Zd (Zc (Zl rfl (Zc (Zl rfl ?_)))))))))))
 refine Zc (Zm3 [.tmp 5, .tmp 6] [_] _ rfl rfl VT.en48 (Zv2 (i := 0) rfl) (blCIdx_c hen hp) ?_)
 rintro r Sa ⟨rfl, rfl⟩
 refine Zc (Zj1 rfl rfl rfl (Zc (Zk rfl (Za (Zi (Zf1 ?_))))))
 refine Zg1 rfl (.tmp rfl) ?_
 rw [idxOf_ge]
 exact ⟨rfl, rfl⟩


set_option maxRecDepth 100000 in
theorem def1_c (b : SBlock) (v : Int) (g : Nat) : VKeep Try.prog 36 [blockV b, .ptr g 0] [.cells g 3 [.int v]] (.bool ((b.params.any fun x => decide (v = x)) || b.ins.any fun i => i.to == v)) := by
 refine VKeep.drops ?_
 refine V_start (nt := 14) Try.func36 rfl rfl rfl ?_
 refine Zb (Zd ?_)
 refine Zc (Zc2 rfl rfl (fun g2 => ?_))
 refine Zc (Zk rfl (Za (Zi (Zb (Zd (Zc (Zj VT.fa37_0 rfl (Zc (Zu 0 VT.ty31 rfl rfl rfl (Zc (Zu 1 VT.ty3 rfl rfl rfl ?_)))))))))))
 refine Zc (Zx1 [.tmp 5, .tmp 6] rfl rfl VT.en37 (intContains_c b.params none v) ?_)
 refine Zc (Zl rfl ?_)
 refine Zj2 (q := 8) rfl (fun hq8 => ?_) (fun hq8 => ?_)
 ·
  refine Zk0 hq8 ?_
  refine Zk0 hq8 ?_
  refine Zk0 hq8 ?_
  refine Zk0 hq8 ?_
  refine Zc (Zs1 rfl hq8 rfl ?_)
  refine Zc (Zk rfl (Za (Zi (Zf1 ?_))))
  refine Zg1 rfl (.tmp rfl) ?_
  exact ⟨by rw [hq8]; first | rfl | simp, (Drops.drop (Drops.keep (Zt2 _)))⟩
 ·
  refine Zc (Zj VT.fa37_1 rfl ?_) (Zy0 hq8)
  refine Zc (Zu 0 VT.ty32 rfl rfl rfl ?_) (Zy0 hq8)
  refine Zc (V_makeFunc [.tmp 1] rfl rfl ?_) (Zy0 hq8)
  refine Zc (Zl3 [.tmp 10, .tmp 11] [_] _ rfl rfl VT.en38 ((Zv2 (i := 1) rfl).trans (.cons _ (.refl _))) (insCAny_c (o := .cells g 3 [.int v]) VT.en39 (fun i _ => def11_c i v g)) ?_) (Zy0 hq8)
  refine Zc (Zt1 rfl hq8 rfl ?_)
  refine Zc (Zk rfl (Za (Zi (Zf1 ?_))))
  refine Zg1 rfl (.tmp rfl) ?_
  exact ⟨by rw [hq8]; first | rfl | simp, (Drops.drop (Drops.keep (Zt2 _)))⟩


set_option maxRecDepth 100000 in
theorem defined_c (f : SFunc) (v : Int) : VPure Try.prog 21 [funcV f, .int v] (.bool (definedF f.blocks v)) := by
 refine V_start (nt := 9) Try.func21 rfl rfl rfl ?_
 refine Zb (Zd ?_)
 refine Zc (Zc2 rfl rfl (fun g2 => ?_))
 refine Zc (Zc2 rfl rfl (fun g3 => ?_))
 refine Zc (Zk rfl (Za (Zi (Zb (Zd (Zc (Zj VT.fa24_1 rfl (Zc (Zu 1 VT.ty22 rfl rfl rfl ?_)))))))))
 refine Zc (V_makeFunc [.tmp 3] rfl rfl ?_)
 refine Zc (Zl3 [.tmp 6, .tmp 7] [_] _ rfl rfl VT.en35 (.refl _) (blCAny_c (o := .cells g3 3 [.int v]) VT.en36 (fun b _ => def1_c b v g3)) ?_)
 refine Zc (Zk rfl (Za (Zi (Zf1 ?_))))
 refine Zg1 rfl (.tmp rfl) ?_
 rfl


set_option maxRecDepth 100000 in
theorem inter1_c (live : List Bool) (gr cap : Nat) (rest : List V) (gx gv gw v w p : Nat) (x : Bool) (hv : v < live.length) (hw : w < live.length) : VCalls Try.prog 22 [.int p, .raw (.slice (some ⟨gr, 0, none⟩) live.length cap), .ptr gx 0, .ptr gv 0, .ptr gw 0] (.cells gr 4 (live.map V.bool ++ rest) :: [.cells gx 4 [.bool x], .cells gv 3 [.int v], .cells gw 3 [.int w]]) fun r S' => S' = .cells gr 4 (live.map V.bool ++ rest) :: [.cells gx 4 [.bool (bothG v w x p live)], .cells gv 3 [.int v], .cells gw 3 [.int w]] := by
 refine VCalls_drops ?_
 obtain ⟨bv, hbv⟩ := get_of_lt live v (by omega)
 obtain ⟨bw, hbw⟩ := get_of_lt live w (by omega)
 refine V_start (nt := 20) Try.func22 rfl rfl rfl ?_
 refine Zd (Zc (Zu 1 VT.ty4 rfl rfl rfl (Zc (Zl rfl ?_))))
 refine Zj2 (q := 8) rfl (fun hq8 => ?_) (fun hq8 => ?_)
 ·
  refine Zk0 hq8 ?_
  refine Zk0 hq8 ?_
  refine Zk0 hq8 ?_
  refine Zk0 hq8 ?_
  refine Zk0 hq8 ?_
  refine Zh (.inr ⟨_, _, 13, rfl, rfl, rfl⟩) rfl ?_
  refine Zh (.inr ⟨_, _, 13, rfl, rfl, rfl⟩) rfl ?_
  refine Zh (.inr ⟨_, _, 13, rfl, rfl, rfl⟩) rfl ?_
  refine Zh (.inr ⟨_, _, 13, rfl, rfl, rfl⟩) rfl ?_
  refine Zk0 hq8 ?_
  refine Zc (Zs1 rfl hq8 rfl ?_)
  refine Zc (Zy 1 VT.ty4 rfl rfl rfl rfl rfl (Za ?_))
  refine Zn3 rfl ?_
  exact ⟨_, Zt2 _, congrArg (fun y : Bool => [Own.cells gr 4 (live.map V.bool ++ rest), Own.cells gx 4 [.bool y], Own.cells gv 3 [.int v], Own.cells gw 3 [.int w]]) (by rw [bothG, hbv, hbw]; first | (rw [hq8, hq13]; simp; done) | (rw [hq8]; simp; done))⟩
 ·
  refine Zc (Zl rfl ?_) (Zy0 hq8)
  refine Zc (Zu 2 VT.ty3 rfl rfl rfl ?_) (Zy0 hq8)
  refine Zc (Zr2 VT.sl45 rfl rfl (by omega) (by omega) ?_) (Zy0 hq8)
  refine Zc (Zf3 0 v VT.ty4 rfl (by simp) rfl rfl (get_bool hbv) ?_) (Zy0 hq8)
  refine Zc (Zl rfl ?_) (Zy0 hq8)
  refine Zj2 (q := 13) rfl (fun hq13 => ?_) (fun hq13 => ?_)
  ·
   refine Zc (Zl rfl ?_) (Zy1 hq13)
   refine Zc (Zu 3 VT.ty3 rfl rfl rfl ?_) (Zy1 hq13)
   refine Zc (Zr2 VT.sl45 rfl rfl (by omega) (by omega) ?_) (Zy1 hq13)
   refine Zc (Zf3 0 w VT.ty4 rfl (by simp) rfl rfl (get_bool hbw) ?_) (Zy1 hq13)
   refine Zc (Zs1 rfl hq13 rfl ?_) (Zy0 hq8)
   refine Zc (Zt1 rfl hq8 rfl ?_)
   refine Zc (Zy 1 VT.ty4 rfl rfl rfl rfl rfl (Za ?_))
   refine Zn3 rfl ?_
   exact ⟨_, Zt2 _, congrArg (fun y : Bool => [Own.cells gr 4 (live.map V.bool ++ rest), Own.cells gx 4 [.bool y], Own.cells gv 3 [.int v], Own.cells gw 3 [.int w]]) (by rw [bothG, hbv, hbw]; first | (rw [hq8, hq13]; simp; done) | (rw [hq8]; simp; done))⟩
  ·
   refine Zk1 hq13 ?_
   refine Zk1 hq13 ?_
   refine Zk1 hq13 ?_
   refine Zk1 hq13 ?_
   refine Zc (Zt1 rfl hq13 rfl ?_) (Zy0 hq8)
   refine Zc (Zt1 rfl hq8 rfl ?_)
   refine Zc (Zy 1 VT.ty4 rfl rfl rfl rfl rfl (Za ?_))
   refine Zn3 rfl ?_
   exact ⟨_, Zt2 _, congrArg (fun y : Bool => [Own.cells gr 4 (live.map V.bool ++ rest), Own.cells gx 4 [.bool y], Own.cells gv 3 [.int v], Own.cells gw 3 [.int w]]) (by rw [bothG, hbv, hbw]; first | (rw [hq8, hq13]; simp; done) | (rw [hq8]; simp; done))⟩


set_option maxRecDepth 100000 in
set_option maxHeartbeats 16000000 in
theorem Interfere_c (f : SFunc) (v w : Int) : VPure Try.prog 10 [funcV f, .int v, .int w] (interX f v w) := by
 have hr := inter.eq_def f v w
 refine V_start (nt := 50) Try.func10 rfl rfl rfl ?_
 refine Zb (Zd ?_)
 refine Zc (Zc2 rfl rfl (fun g3 => ?_))
 refine Zc (Zc2 rfl rfl (fun g4 => ?_))
 refine Zc (Zc2 rfl rfl (fun g5 => ?_))
 refine Zc (Zk rfl (Zc (Zk rfl (Za (Zi (Zb (Zd (Zc (Zv 2 VT.ty24 rfl rfl rfl ?_)))))))))
 by_cases h0 : funcF f = 0
 ·
  rw [if_pos h0] at hr
  have hok := func_ok h0
  obtain ⟨hmi, hm1, hm2, rok⟩ := many_ok hok
  have hbp := hok.pos
  have h128 := hok.len
  have lok := live_ok f.blocks (manyF f)
  have hblen : (liveZ f).behind.length = f.blocks.length := lok.blen
  refine Zc (Zm3 [.tmp 14] [] _ rfl rfl VT.en14 (.refl _) (build_o h0) ?_)
  rintro r Sa ⟨gl, gb, rfl, rfl⟩
  refine Zc (Zl rfl (Zc (Zg2 rfl rfl (Zc (Zg2 rfl rfl (Zc (Zg2 rfl rfl (Zc (Zk rfl (Zc (Zk rfl (Zc (Zk rfl (Za (Zi (Zb (Zs (Zb (Zd (Zc (Zl rfl ?_)))))))))))))))))))))
  refine Zc (Zj1 rfl rfl rfl (Zc (Zk rfl (Za (Zi ?_)))))
  refine Zm1 rfl (fun h19 => ?_) (fun h19 => ?_)
  · exact absurd rfl h19
  ·
   refine Zb (Zd (Zc (Zv 4 VT.ty24 rfl rfl rfl (Zc (Zu 3 VT.ty3 rfl rfl rfl ?_)))))
   refine Zc (Zx1 [.tmp 24, .tmp 25] rfl rfl VT.en21 (defined_c f v) ?_)
   refine Zc (Zl2 rfl (Zc (Zl rfl ?_)))
   refine Zj2 (q := 28) rfl (fun hq28 => ?_) (fun hq28 => ?_)
   ·
    have hd1 : definedF f.blocks v = false := by simpa using hq28
    rw [if_pos hd1] at hr
    refine Zk0 hq28 ?_
    refine Zk0 hq28 ?_
    refine Zk0 hq28 ?_
    refine Zk0 hq28 ?_
    refine Zc (Zs1 rfl hq28 rfl ?_)
    refine Zc (Zk rfl (Za (Zi ?_)))
    refine Zp1 rfl rfl ?_
    refine Zb (Zd (Zc (Zk rfl (Zc (Zk rfl (Za (Zi (Zf1 ?_))))))))
    refine Za1 (Zd1 (Zh1 rfl rfl (.cons (.tmp rfl) (.cons (.tmp rfl) (.nil))) ?_))
    rw [interX, hr]
   ·
    have hd1 : definedF f.blocks v = true := by simpa using hq28
    rw [if_neg (by rw [hd1]; decide)] at hr
    refine Zc (Zv 4 VT.ty24 rfl rfl rfl ?_) (Zy0 hq28)
    refine Zc (Zu 2 VT.ty3 rfl rfl rfl ?_) (Zy0 hq28)
    refine Zc (Zx1 [.tmp 29, .tmp 30] rfl rfl VT.en21 (defined_c f w) ?_) (Zy0 hq28)
    refine Zc (Zl2 rfl ?_) (Zy0 hq28)
    refine Zc (Zt1 rfl hq28 rfl ?_)
    refine Zc (Zk rfl (Za (Zi ?_)))
    refine Zo1 rfl (fun h23 => ?_) (fun h23 => ?_)
    ·
     rw [if_pos h23] at hr
     refine Zb (Zd (Zc (Zk rfl (Zc (Zk rfl (Za (Zi (Zf1 ?_))))))))
     refine Za1 (Zd1 (Zh1 rfl rfl (.cons (.tmp rfl) (.cons (.tmp rfl) (.nil))) ?_))
     rw [interX, hr]
    ·
     rw [if_neg (by rw [h23]; decide)] at hr
     refine Zb (Zd (Zc (Zu 3 VT.ty3 rfl rfl rfl (Zc (Zu 2 VT.ty3 rfl rfl rfl (Zc (Zj1 rfl rfl rfl (Zc (Zk rfl (Za (Zi ?_)))))))))))
     refine Zl1 rfl (fun h34 => ?_) (fun h34 => ?_)
     ·
      rw [if_pos h34] at hr
      refine Zb (Zd (Zc (Zk rfl (Zc (Zk rfl (Za (Zi (Zf1 ?_))))))))
      refine Za1 (Zd1 (Zh1 rfl rfl (.cons (.tmp rfl) (.cons (.tmp rfl) (.nil))) ?_))
      rw [interX, hr]
     ·
      rw [if_neg h34] at hr
      obtain ⟨v0, v1⟩ := defined_ok hok hd1
      obtain ⟨w0, w1⟩ := defined_ok hok h23
      obtain ⟨vn, rfl⟩ : ∃ n : Nat, v = n := ⟨v.toNat, by omega⟩
      obtain ⟨wn, rfl⟩ : ∃ n : Nat, w = n := ⟨w.toNat, by omega⟩
      rw [Int.toNat_natCast, Int.toNat_natCast] at hr
      have hvm : vn < manyF f := by omega
      have hwm : wn < manyF f := by omega
      refine Zi1 (Zb1 (Zi (Zb (Zd ?_))))
      refine Zc (Zb2 VT.zr4 _ rfl rfl (fun g11 => ?_))
      refine Zc (Zy 0 VT.ty4 rfl rfl rfl rfl rfl (Za (Zi (Zb (Zb (Zd (Zc (Zj VT.fa24_1 rfl (Zc (Zu 5 VT.ty22 rfl rfl rfl ?_))))))))))
      refine Zc (Zd2 (n := f.blocks.length) Try.underlying22 rfl (by simp) (fun hl40 => ?_))
      refine Zc (Zl rfl (Za (Zi (Zs ?_))))
      refine Zi2 (ι := Nat × Bool) (fun (k, x) => f.blocks.length - k) (fun (k, x) => [(3, some (.ptr g3 0)), (4, some (.ptr g4 0)), (5, some (.ptr g5 0)), (8, some (.ptr gl 0)), (11, some (.ptr g11 0)), (40, some (.int f.blocks.length)), (41, some (.int k))]) (fun (k, x) => [.cells g11 4 [.bool x], .cells gl 64 (lifeL f.name f.blocks (manyF f) (.raw (.slice (some ⟨gb, 0, none⟩) f.blocks.length f.blocks.length))), .cells gb 45 ((liveZ f).behind.map lsV), .cells g4 3 [.int (vn : Nat)], .cells g5 3 [.int (wn : Nat)], .cells g3 24 [.int f.name, blocksX f.blocks]]) (fun (k, x) => k ≤ f.blocks.length ∧ x = (overB f (manyF f) (bothG vn wn) false k)) (0, false) ⟨Nat.zero_le _, rfl⟩ ⟨rfl, rfl, rfl, rfl, rfl, rfl, rfl, trivial⟩ (Drops.pick 0 rfl rfl (Drops.pick 0 rfl rfl (Drops.pick 0 rfl rfl (Drops.pick 1 rfl rfl (Drops.pick 0 rfl rfl (Drops.pick 0 rfl rfl (Drops.nil _))))))) ?_
      rintro ⟨k, x⟩ hA
      change k ≤ f.blocks.length ∧ x = (overB f (manyF f) (bothG vn wn) false k) at hA
      obtain ⟨hk, hq⟩ := hA
      refine Zb (Zd (Zc (Zj1 rfl rfl rfl (Za (Zi (Zb ?_))))))
      refine Zn1 rfl (fun h42 => ?_) (fun h42 => ?_)
      ·
       obtain ⟨b, hb⟩ := get_of_lt f.blocks k h42
       obtain ⟨s, hs, hsb, hsl⟩ := behind_get (f := f) (k := k) (by omega)
       refine Zi1 (Zi (Zb (Zs (Zb (Zd (Zc (Zl rfl (Zc (Zk rfl (Za (Zi (Zd (Zc (Zl rfl (Zc (Zl rfl ?_))))))))))))))))
       refine Zc (V_makeFunc [.tmp 11, .tmp 4, .tmp 5] rfl rfl ?_)
       refine Zc (V_callG [.tmp 44, .tmp 45, .tmp 46] (.cells gl 64 (lifeL f.name f.blocks (manyF f) (.raw (.slice (some ⟨gb, 0, none⟩) f.blocks.length f.blocks.length))) :: .cells gb 45 ((liveZ f).behind.map lsV) :: (fun x : Bool => [.cells g11 4 [.bool x], .cells g4 3 [.int (vn : Nat)], .cells g5 3 [.int (wn : Nat)]]) x) [_] rfl rfl VT.en15 perm_q (backC_c rok hb hblen hs hsl hm1 hm2 gl gb f.name VT.en22 (fun x : Bool => [.cells g11 4 [.bool x], .cells g4 3 [.int (vn : Nat)], .cells g5 3 [.int (wn : Nat)]]) (fun p (x : Bool) => seenV b s (bothG vn wn) (visitN b s (bothG vn wn) b.ins.length (overB f (manyF f) (bothG vn wn) false k)) p x) x (by rw [hq]; rfl) (fun x p gr cap rest hp h1 => by have h9 := inter1_c (liveAt b s p) gr cap rest g11 g4 g5 vn wn p x (by rw [liveAt_len, hsl]; exact hvm) (by rw [liveAt_len, hsl]; exact hwm); rw [liveAt_len] at h9; exact h9.mono fun r Sx e1 => ⟨_, e1, seenV_step h1⟩)) ?_)
       rintro r Sa ⟨x2, rfl, hsn⟩
       refine ⟨_, drop_q, ?_⟩
       have hq2 : x2 = (overB f (manyF f) (bothG vn wn) false (k + 1)) := by rw [overB_succ (bothG vn wn) false hb hsb]; exact hsn
       refine Za (Zb1 (Zi (Zd ?_)))
       refine Zc (Zh2 rfl rfl (by omega) ?_)
       refine Zc (Zl rfl (Za (Zi ?_)))
       exact ⟨(k + 1, x2), (by (try simp only []); omega), ⟨by omega, hq2⟩, ⟨rfl, rfl, rfl, rfl, rfl, rfl, rfl, trivial⟩, (Drops.keep (Drops.keep (Drops.keep (Drops.keep (Drops.keep (Drops.keep (Zt2 _)))))))⟩
      ·
       have hke : k = f.blocks.length := by omega
       subst hke
       rw [← hq] at hr
       refine Zt (Ze1 (Ze1 (Zc1 (Zi (Zb (Zd (Zc (Zu 0 VT.ty4 rfl rfl rfl (Zc (Zk rfl (Zc (Zk rfl (Za (Zi (Zf1 ?_)))))))))))))))
       refine Zh1 rfl rfl (.cons (.tmp rfl) (.cons (.tmp rfl) (.nil))) ?_
       rw [interX, hr]
 ·
  rw [if_neg h0] at hr
  refine Zc (Zx1 [.tmp 14] rfl rfl VT.en14 (build_e h0) ?_)
  refine Zc (Zl rfl (Zc (Zg2 rfl rfl (Zc (Zg2 rfl rfl (Zc (Zg2 rfl rfl (Zc (Zk rfl (Zc (Zk rfl (Zc (Zk rfl (Za (Zi (Zb (Zs (Zb (Zd (Zc (Zl rfl ?_)))))))))))))))))))))
  refine Zc (Zj1 rfl rfl rfl (Zc (Zk rfl (Za (Zi ?_)))))
  refine Zm1 rfl (fun h19 => ?_) (fun h19 => ?_)
  ·
   refine Zb (Zd (Zc (Zl rfl (Zc (Zk rfl (Zc (Zk rfl (Za (Zi (Zf1 ?_))))))))))
   refine Za1 (Zd1 (Zh1 rfl rfl (.cons (.tmp rfl) (.cons (.tmp rfl) (.nil))) ?_))
   rw [interX, hr]
  · exact absurd h19 h0


set_option maxRecDepth 100000 in
theorem rWithin_c (n a b : Int) : VPure Try.prog 20 [.int n, .int a, .int b] (.bool (decide (n ≥ a) && decide (n ≤ b))) := by
 refine V_start (nt := 15) Try.func20 rfl rfl rfl ?_
 refine Zb (Zd (Zc (Zk rfl (Za (Zi (Zb (Zd (Zc (Zl rfl (Zc (Zl rfl (Zc (Zj1 rfl rfl rfl (Zc (Zl rfl ?_)))))))))))))))
 refine Zj2 (q := 10) rfl (fun hq10 => ?_) (fun hq10 => ?_)
 ·
  refine Zc (Zl rfl ?_) (Zy1 hq10)
  refine Zc (Zl rfl ?_) (Zy1 hq10)
  refine Zc (Zj1 rfl rfl rfl ?_) (Zy1 hq10)
  refine Zc (Zs1 rfl hq10 rfl ?_)
  refine Zc (Zk rfl (Za (Zi (Zf1 ?_))))
  refine Zg1 rfl (.tmp rfl) ?_
  rw [hq10]; first | done | rfl
 ·
  refine Zk1 hq10 ?_
  refine Zk1 hq10 ?_
  refine Zk1 hq10 ?_
  refine Zc (Zt1 rfl hq10 rfl ?_)
  refine Zc (Zk rfl (Za (Zi (Zf1 ?_))))
  refine Zg1 rfl (.tmp rfl) ?_
  rw [hq10]; first | done | rfl


set_option maxRecDepth 100000 in
set_option maxHeartbeats 8000000 in
theorem Reach_c {f : SFunc} (h : funcF f = 0) : VPure Try.prog 9 [funcV f, .int (-1)] (.sl 1 none ((reachF f.blocks).map V.bool)) := by
 have hok := func_ok h
 have hbp := hok.pos
 have h128 := hok.len
 refine V_start (nt := 73) Try.func9 rfl rfl rfl ?_
 refine Zb (Zd ?_)
 refine Zc (Zc2 rfl rfl (fun g2 => ?_))
 refine Zc (Zk rfl (Za (Zi (Zb (Zd (Zc (Zj VT.fa24_1 rfl (Zc (Zu 0 VT.ty22 rfl rfl rfl ?_)))))))))
 refine Zc (Zd2 (n := f.blocks.length) Try.underlying22 rfl (by simp) (fun hl12 => ?_))
 refine Zc (V_makeRow (.raw (.bool false)) (fun m => rfl) rfl VT.sl45 rfl rfl (by omega) (by omega) (fun g13 => ?_))
 refine Zc (Zk rfl (Za (Zi ?_)))
 rw [flat_false, Int.toNat_natCast]
 refine Zb (Zb (Zd (Zc (Zl rfl (Zc (Zj1 rfl rfl rfl (Zc (Zl rfl ?_))))))))
 refine Zj2 (q := 16) rfl (fun hq16 => ?_) (fun hq16 => ?_)
 · exact absurd hq16 (by decide)
 ·
  refine Zc (Zj VT.fa24_1 rfl ?_) (Zy0 hq16)
  refine Zc (Zu 1 VT.ty22 rfl rfl rfl ?_) (Zy0 hq16)
  refine Zc (Zd2 (n := f.blocks.length) Try.underlying22 rfl (by simp) (fun hl19 => ?_)) (Zy0 hq16)
  refine Zc (Zj1 rfl rfl rfl ?_) (Zy0 hq16)
  refine Zc (Zt1 rfl hq16 rfl ?_)
  refine Za (Zi ?_)
  refine Zl1 rfl (fun h21 => ?_) (fun h21 => ?_)
  · omega
  ·
   refine Zi1 (Zi (Zb (Zd (Zc (Zl rfl ?_)))))
   refine Zc (Zr2 VT.sl45 rfl rfl (by omega) (by omega) ?_)
   refine Zc (Zh3 0 0 VT.ty4 rfl (by simp) rfl rfl rfl (List.append_nil _).symm (by simp; omega) ?_)
   refine Za (Zi (Zb (Zb (Zd (Zc (Zj VT.fa24_1 rfl (Zc (Zu 1 VT.ty22 rfl rfl rfl ?_))))))))
   refine Zc (Zd2 (n := f.blocks.length) Try.underlying22 rfl (by simp) (fun hl27 => ?_))
   refine Zc (Zl rfl (Za (Zi (Zs ?_))))
   refine Zi2 (ι := Nat × List Bool) (fun (r, s) => f.blocks.length - r) (fun (r, s) => [(1, some (.int (-1))), (2, some (.ptr g2 0)), (5, some (.raw (.slice (some ⟨g13, 0, none⟩) f.blocks.length f.blocks.length))), (27, some (.int f.blocks.length)), (28, some (.int r))]) (fun (r, s) => [.cells g13 4 (s.map V.bool), .cells g2 24 [.int f.name, blocksX f.blocks]]) (fun (r, s) => r ≤ f.blocks.length ∧ s.length = f.blocks.length ∧ roundsR f.blocks (f.blocks.length - r) s = reachF f.blocks) (0, (List.replicate f.blocks.length false).set 0 true) ⟨Nat.zero_le _, by rw [List.length_set, List.length_replicate], rfl⟩ ⟨rfl, rfl, rfl, rfl, rfl, trivial⟩ (Drops.keepE (congrArg (Own.cells g13 4) (by rw [List.append_nil, List.map_set, List.map_replicate])) (Drops.keep (Zt2 _))) ?_
   rintro ⟨r, s⟩ hA
   change r ≤ f.blocks.length ∧ s.length = f.blocks.length ∧ roundsR f.blocks (f.blocks.length - r) s = reachF f.blocks at hA
   obtain ⟨hr, hsl, hq⟩ := hA
   refine Zb (Zd (Zc (Zj1 rfl rfl rfl (Za (Zi (Zb ?_))))))
   refine Zn1 rfl (fun h29 => ?_) (fun h29 => ?_)
   ·
    obtain ⟨n, hn⟩ : ∃ n, f.blocks.length - r = n + 1 := ⟨f.blocks.length - r - 1, by omega⟩
    rw [hn, roundsR, show n = f.blocks.length - (r + 1) by omega] at hq
    refine Zi1 (Zi (Zb (Zs (Zb (Zd (Zc (Zj VT.fa24_1 rfl (Zc (Zu 1 VT.ty22 rfl rfl rfl ?_)))))))))
    refine Zc (Zd2 (n := f.blocks.length) Try.underlying22 rfl (by simp) (fun hl32 => ?_))
    refine Zc (Zl rfl (Za (Zi (Zs ?_))))
    refine Zi2 (ι := Nat × List Bool) (fun (k, s1) => f.blocks.length - k) (fun (k, s1) => [(1, some (.int (-1))), (2, some (.ptr g2 0)), (5, some (.raw (.slice (some ⟨g13, 0, none⟩) f.blocks.length f.blocks.length))), (27, some (.int f.blocks.length)), (28, some (.int r)), (31, some (blocksX f.blocks)), (32, some (.int f.blocks.length)), (33, some (.int k))]) (fun (k, s1) => [.cells g13 4 (s1.map V.bool), .cells g2 24 [.int f.name, blocksX f.blocks]]) (fun (k, s1) => k ≤ f.blocks.length ∧ s1.length = f.blocks.length ∧ blocksR k (f.blocks.drop k) s1 = blocksR 0 f.blocks s) (0, s) ⟨Nat.zero_le _, hsl, rfl⟩ ⟨rfl, rfl, rfl, rfl, rfl, rfl, rfl, rfl, trivial⟩ (Drops.keep (Drops.keep (Zt2 _))) ?_
    rintro ⟨k, s1⟩ hB
    change k ≤ f.blocks.length ∧ s1.length = f.blocks.length ∧ blocksR k (f.blocks.drop k) s1 = blocksR 0 f.blocks s at hB
    obtain ⟨hk, hsl1, hq1⟩ := hB
    refine Zb (Zd (Zc (Zj1 rfl rfl rfl (Za (Zi (Zb ?_))))))
    refine Zn1 rfl (fun h34 => ?_) (fun h34 => ?_)
    ·
     obtain ⟨b, hb⟩ := get_of_lt f.blocks k h34
     rw [drop_cons hb, blocksR] at hq1
     refine Zi1 (Zi (Zb (Zs (Zb (Zd (Zc (Zl rfl ?_)))))))
     refine Zc (Zz (el := blockV b) VT.sl22 rfl rfl (by omega) (get_mapS _ hb) (fun a36 => ?_))
     refine Zc (Za2 VT.ty37 rfl rfl ?_)
     refine Zc (Zb2 VT.zr37 _ rfl rfl (fun g7 => ?_))
     refine Zc (Zk rfl (Zc (Zx 0 VT.ty37 rfl rfl rfl rfl rfl (Za (Zi (Zb (Zd (Zc (Zj VT.fa37_2 rfl (Zc (Zj VT.fa35_4 rfl (Zc (Zu 0 VT.ty33 rfl rfl rfl ?_)))))))))))))
     refine Zc (Zd2 (n := b.term.to.length) Try.underlying33 rfl (by simp) (fun hl41 => ?_))
     refine Zc (Zl rfl (Za (Zi (Zs ?_))))
     refine Zi2 (ι := Nat × List Bool) (fun (j, s2) => b.term.to.length - j) (fun (j, s2) => [(1, some (.int (-1))), (2, some (.ptr g2 0)), (5, some (.raw (.slice (some ⟨g13, 0, none⟩) f.blocks.length f.blocks.length))), (6, some (.int k)), (27, some (.int f.blocks.length)), (28, some (.int r)), (31, some (blocksX f.blocks)), (32, some (.int f.blocks.length)), (33, some (.int k)), (40, some (edgesX b.term.to)), (41, some (.int b.term.to.length)), (42, some (.int j))]) (fun (j, s2) => [.cells g13 4 (s2.map V.bool), .cells g2 24 [.int f.name, blocksX f.blocks]]) (fun (j, s2) => j ≤ b.term.to.length ∧ s2.length = f.blocks.length ∧ edgesR k (b.term.to.drop j) s2 = edgesR k b.term.to s1) (0, s1) ⟨Nat.zero_le _, hsl1, rfl⟩ ⟨rfl, rfl, rfl, rfl, rfl, rfl, rfl, rfl, rfl, rfl, rfl, rfl, trivial⟩ (Drops.drop (Drops.keep (Drops.keep (Zt2 _)))) ?_
     rintro ⟨j, s2⟩ hC
     change j ≤ b.term.to.length ∧ s2.length = f.blocks.length ∧ edgesR k (b.term.to.drop j) s2 = edgesR k b.term.to s1 at hC
     obtain ⟨hj, hsl2, hq2⟩ := hC
     refine Zb (Zd (Zc (Zj1 rfl rfl rfl (Za (Zi (Zb ?_))))))
     refine Zn1 rfl (fun h43 => ?_) (fun h43 => ?_)
     ·
      obtain ⟨e, he⟩ := get_of_lt b.term.to j h43
      obtain ⟨he1, he2⟩ := hok.edges b (List.mem_of_getElem? hb) e (List.mem_of_getElem? he)
      obtain ⟨sk, hsk⟩ := get_of_lt s2 k (by omega)
      rw [drop_cons he] at hq2
      change edgesR k (b.term.to.drop (j + 1)) (if s2[k]?.getD false = true then s2.set e.block.toNat true else s2) = _ at hq2
      rw [hsk] at hq2
      refine Zi1 (Zi (Zb (Zs (Zb (Zd ?_)))))
      refine Zc (Zz (el := edgeV e) VT.sl33 rfl rfl (by omega) (get_mapS _ he) (fun a44 => ?_))
      refine Zc (Za2 VT.ty70 rfl rfl ?_)
      refine Zc (Zb2 VT.zr70 _ rfl rfl (fun g9 => ?_))
      refine Zc (Zx 0 VT.ty70 rfl rfl rfl rfl rfl (Za (Zi (Zb (Zd (Zc (Zl rfl (Zc (Zl rfl ?_)))))))))
      refine Zc (Zr2 VT.sl45 rfl rfl (by omega) (by omega) ?_)
      refine Zc (Zf3 1 k VT.ty4 rfl (by simp) rfl (List.append_nil _).symm (get_bool hsk) ?_)
      refine Zc (Zl rfl ?_)
      refine Zj2 (q := 50) rfl (fun hq50 => ?_) (fun hq50 => ?_)
      ·
       rw [if_pos (show (some sk).getD false = true from hq50)] at hq2
       refine Zc (Zj VT.fa70_0 rfl ?_) (Zy1 hq50)
       refine Zc (Zu 0 VT.ty3 rfl rfl rfl ?_) (Zy1 hq50)
       refine Zc (Zl rfl ?_) (Zy1 hq50)
       refine Zc (Zj1 rfl rfl rfl ?_) (Zy1 hq50)
       refine Zc (Zs1 rfl hq50 rfl ?_)
       refine Zc (Zl rfl ?_)
       refine Zj2 (q := 56) rfl (fun hq56 => ?_) (fun hq56 => ?_)
       ·
        refine Zc (Zj VT.fa70_0 rfl ?_) (Zy1 hq56)
        refine Zc (Zu 0 VT.ty3 rfl rfl rfl ?_) (Zy1 hq56)
        refine Zc (Zj VT.fa24_1 rfl ?_) (Zy1 hq56)
        refine Zc (Zu 2 VT.ty22 rfl rfl rfl ?_) (Zy1 hq56)
        refine Zc (Zd2 (n := f.blocks.length) Try.underlying22 rfl (by simp) (fun hl61 => ?_)) (Zy1 hq56)
        refine Zc (Zk2 rfl rfl (by omega) ?_) (Zy1 hq56)
        refine Zc (Zx1 [.tmp 58, .const (.int .i64 (0)), .tmp 62] rfl rfl VT.en20 (rWithin_c e.block 0 ((f.blocks.length : Int) - 1)) ?_) (Zy1 hq56)
        refine Zc (Zs1 rfl hq56 rfl ?_)
        refine Za (Zi ?_)
        refine Zr1 rfl (fun h64 => ?_) (fun h64 => ?_)
        ·
         have hsl3 : (s2.set e.block.toNat true).length = f.blocks.length := by rw [List.length_set]; exact hsl2
         have hq3 := hq2
         refine Zd (Zc (Zl rfl (Zc (Zj VT.fa70_0 rfl (Zc (Zu 0 VT.ty3 rfl rfl rfl ?_))))))
         refine Zc (Zr2 VT.sl45 rfl rfl (by omega) (by omega) ?_)
         refine Zc (Zh3 1 e.block.toNat VT.ty4 rfl (by simp) rfl rfl rfl (List.append_nil _).symm (by rw [List.length_map]; omega) ?_)
         refine Za (Zb1 (Zi (Zd ?_)))
         refine Zc (Zh2 rfl rfl (by omega) ?_)
         refine Zc (Zl rfl (Za (Zi ?_)))
         exact ⟨(j + 1, s2.set e.block.toNat true), (by (try simp only []); omega), ⟨by omega, hsl3, hq3⟩, ⟨rfl, rfl, rfl, rfl, rfl, rfl, rfl, rfl, rfl, rfl, rfl, rfl, trivial⟩, (Drops.drop (Drops.keepE (by first | rfl | exact congrArg (Own.cells g13 4) (bools_set _ _ _)) (Drops.keep (Zt2 _))))⟩
        · have h9 : (decide (e.block ≥ 0) && decide (e.block ≤ (f.blocks.length : Int) - 1)) = true := (by rw [Bool.and_eq_true, decide_eq_true_eq, decide_eq_true_eq]; omega); rw [h9] at h64; cases h64
       · exact absurd hq56 (by simp; omega)
      ·
       rw [if_neg (show ¬ (some sk).getD false = true from by rw [hq50]; decide)] at hq2
       refine Zk1 hq50 ?_
       refine Zk1 hq50 ?_
       refine Zk1 hq50 ?_
       refine Zk1 hq50 ?_
       refine Zc (Zt1 rfl hq50 rfl ?_)
       refine Zc (Zl rfl ?_)
       refine Zk1 rfl ?_
       refine Zk1 rfl ?_
       refine Zk1 rfl ?_
       refine Zk1 rfl ?_
       refine Zk1 rfl ?_
       refine Zk1 rfl ?_
       refine Zk1 rfl ?_
       refine Zc (Zt1 rfl rfl rfl (Za (Zi ?_)))
       refine Zq1 rfl rfl ?_
       have hsl3 := hsl2
       have hq3 := hq2
       refine Zi1 (Zb1 (Zi (Zd ?_)))
       refine Zc (Zh2 rfl rfl (by omega) ?_)
       refine Zc (Zl rfl (Za (Zi ?_)))
       exact ⟨(j + 1, s2), (by (try simp only []); omega), ⟨by omega, hsl3, hq3⟩, ⟨rfl, rfl, rfl, rfl, rfl, rfl, rfl, rfl, rfl, rfl, rfl, rfl, trivial⟩, (Drops.drop (Drops.keepE (by first | rfl | exact congrArg (Own.cells g13 4) (bools_set _ _ _)) (Drops.keep (Zt2 _))))⟩
     ·
      have hje : j = b.term.to.length := by omega
      subst hje
      rw [List.drop_length] at hq2
      change s2 = _ at hq2
      rw [← hq2] at hq1
      refine Zt (Ze1 (Ze1 (Zc1 (Zb1 (Zi (Zd ?_))))))
      refine Zc (Zh2 rfl rfl (by omega) ?_)
      refine Zc (Zl rfl (Za (Zi ?_)))
      exact ⟨(k + 1, s2), (by (try simp only []); omega), ⟨by omega, hsl2, hq1⟩, ⟨rfl, rfl, rfl, rfl, rfl, rfl, rfl, rfl, trivial⟩, (Drops.keep (Drops.keep (Zt2 _)))⟩
    ·
     have hke : k = f.blocks.length := by omega
     subst hke
     rw [List.drop_length, blocksR] at hq1
     rw [← hq1] at hq
     refine Zt (Ze1 (Ze1 (Zc1 (Zb1 (Zi (Zd ?_))))))
     refine Zc (Zh2 rfl rfl (by omega) ?_)
     refine Zc (Zl rfl (Za (Zi ?_)))
     exact ⟨(r + 1, s1), (by (try simp only []); omega), ⟨by omega, hsl1, hq⟩, ⟨rfl, rfl, rfl, rfl, rfl, trivial⟩, (Drops.keep (Drops.keep (Zt2 _)))⟩
   ·
    rw [show f.blocks.length - r = 0 by omega, roundsR] at hq
    refine Zt (Ze1 (Ze1 (Zc1 (Zi ?_))))
    refine VW_freeze 0 (q := 5) (rest := []) (s.map V.bool) rfl rfl (by rw [flat_bools, List.append_nil]) (by simp [hsl]) (Nat.le_refl _) (by simp only [maxLen]; omega) (fits_boolsR _) ?_
    refine Zb (Zd (Zc (Zl rfl (Zc (Zk rfl (Za (Zi (Zf1 ?_))))))))
    refine Zg1 rfl (.tmp rfl) ?_
    rw [← hq]


set_option maxRecDepth 100000 in
set_option maxHeartbeats 16000000 in
theorem liveCounts_c (f : SFunc) (v w : Int) : VPure Try.prog 4 [funcV f, .int v, .int w] (.bool true) := by
 have hL := Ranges_c f
 have hP := Pressure_c f
 have hI := Interfere_c f v w
 unfold rangesX at hL
 unfold pressX at hP
 unfold interX at hI
 refine V_start (nt := 167) Try.func4 rfl rfl rfl ?_
 refine Zb (Zd ?_)
 refine Zc (Zc2 rfl rfl (fun g3 => ?_))
 refine Zc (Zk rfl (Za (Zi (Zb (Zb (Zd ?_))))))
 refine Zc (Zx1 [] rfl rfl VT.en5 (works_c) ?_)
 refine Zc (Zl2 rfl (Za (Zi ?_)))
 refine Zq1 rfl (rfl) ?_
 refine Zi1 (Zi (Zb (Zd (Zc (Zv 0 VT.ty24 rfl rfl rfl ?_)))))
 by_cases h0 : funcF f = 0
 ·
  rw [if_pos h0] at hL hP
  have hok := func_ok h0
  refine Zc (Zx1 [.tmp 29] rfl rfl VT.en6 (hL) ?_)
  refine Zc (Zl rfl (Zc (Zg2 rfl rfl (Zc (Zg2 rfl rfl (Zc (Zk rfl (Zc (Zk rfl (Za (Zi (Zb (Zd (Zc (Zv 0 VT.ty24 rfl rfl rfl ?_)))))))))))))))
  refine Zc (Zx1 [.tmp 34] rfl rfl VT.en8 (hP) ?_)
  refine Zc (Zl rfl (Zc (Zg2 rfl rfl (Zc (Zg2 rfl rfl (Zc (Zk rfl (Zc (Zk rfl (Za (Zi (Zb (Zb (Zd (Zc (Zl rfl (Zc (Zj1 rfl rfl rfl (Zc (Zl rfl ?_))))))))))))))))))))
  refine Zj2 (q := 40) rfl (fun hq40 => ?_) (fun hq40 => ?_)
  · exact absurd hq40 (by decide)
  ·
   refine Zc (Zl rfl ?_) (Zy0 hq40)
   refine Zc (Zj1 rfl rfl rfl ?_) (Zy0 hq40)
   refine Zc (Zt1 rfl hq40 rfl ?_)
   refine Zc (Zl rfl ?_)
   refine Zj2 (q := 44) rfl (fun hq44 => ?_) (fun hq44 => ?_)
   · exact absurd hq44 (by decide)
   ·
    refine Zc (Zl rfl ?_) (Zy0 hq44)
    refine Zc (Zd2 (n := (rangesZ f (manyF f)).length) Try.underlying26 rfl (by simp) (fun hl46 => ?_)) (Zy0 hq44)
    refine Zc (Zj1 rfl rfl rfl ?_) (Zy0 hq44)
    refine Zc (Zt1 rfl hq44 rfl ?_)
    refine Za (Zi ?_)
    refine Zn1 rfl (fun h48 => ?_) (fun h48 => ?_)
    ·
     refine Zb (Zd (Zc (Zl rfl (Zc (Zl rfl (Zc (Zj1 rfl rfl rfl (Zc (Zk rfl (Za (Zi (Zf1 ?_))))))))))))
     refine Zd1 (Zg1 rfl (.tmp rfl) ?_)
     first | rfl | (refine congrArg V.bool ?_; simp; done) | (refine congrArg V.bool ?_; rw [inter_law h0 hs (by simpa using hq161), ← hbo]; simp)
    ·
     refine Zi1 (Zi (Zb (Zb (Zd (Zc (Zv 0 VT.ty24 rfl rfl rfl ?_))))))
     refine Zc (Zx1 [.tmp 52, .const (.int .i64 (-1))] rfl rfl VT.en9 (Reach_c h0) ?_)
     refine Zc (Zd2 (n := (reachF f.blocks).length) Try.underlying45 rfl (by simp) (fun hl54 => ?_))
     refine Zc (Zl rfl (Za (Zi (Zs ?_))))
     refine Zi2 (ι := Nat) (fun j => (reachF f.blocks).length - j) (fun j => [(1, some (.int v)), (2, some (.int w)), (7, some (rgsX (rangesZ f (manyF f)))), (9, some (.int (overB f (manyF f) pressG 0 f.blocks.length : Nat))), (3, some (.ptr g3 0)), (53, some (.sl 1 none ((reachF f.blocks).map V.bool))), (54, some (.int (reachF f.blocks).length)), (55, some (.int j))]) (fun j => [.cells g3 24 [.int f.name, blocksX f.blocks]]) (fun j => j ≤ (reachF f.blocks).length ∧ ∀ i, i < j → (reachF f.blocks)[i]? = some true) 0 ⟨Nat.zero_le _, fun i hi => by omega⟩ ⟨rfl, rfl, rfl, rfl, rfl, rfl, rfl, rfl, trivial⟩ (Drops.keep (Zt2 _)) ?_
     rintro j hA
     change j ≤ (reachF f.blocks).length ∧ ∀ i, i < j → (reachF f.blocks)[i]? = some true at hA
     obtain ⟨hj, hall⟩ := hA
     refine Zb (Zd (Zc (Zj1 rfl rfl rfl (Za (Zi (Zb ?_))))))
     refine Zn1 rfl (fun h56 => ?_) (fun h56 => ?_)
     ·
      obtain ⟨b, hb⟩ := get_of_lt (reachF f.blocks) j h56
      refine Zi1 (Zi (Zb (Zs (Zb (Zd ?_)))))
      refine Zc (Zz (el := V.bool b) VT.sl45 rfl rfl (by omega) (get_bool hb) (fun a57 => ?_))
      refine Zc (Zz1 VT.ty4 rfl rfl (Zc (Zk rfl (Za (Zi (Zb (Zd (Zc (Zl rfl (Zc (Zl2 rfl (Za (Zi ?_)))))))))))))
      refine Zo1 rfl (fun h60 => ?_) (fun h60 => ?_)
      ·
       refine Zb (Zd (Zc (Zk rfl (Za (Zi (Zf1 ?_))))))
       refine Za1 (Zd1 (Zd1 (Za1 (Zd1 (Zg1 rfl (.tmp rfl) ?_)))))
       first | rfl | (refine congrArg V.bool ?_; simp; done) | (refine congrArg V.bool ?_; rw [inter_law h0 hs (by simpa using hq161), ← hbo]; simp)
      ·
       have hall2 : ∀ i, i < j + 1 → (reachF f.blocks)[i]? = some true := fun i hi => by
        by_cases hij : i = j
        · rw [hij, hb, h60]
        · exact hall i (by omega)
       refine Zi1 (Zb1 (Zi (Zd ?_)))
       refine Zc (Zh2 rfl rfl (by omega) ?_)
       refine Zc (Zl rfl (Za (Zi ?_)))
       exact ⟨j + 1, (by (try simp only []); omega), ⟨by omega, hall2⟩, ⟨rfl, rfl, rfl, rfl, rfl, rfl, rfl, rfl, trivial⟩, (Drops.keep (Zt2 _))⟩
     ·
      have hs : AllSeen f := allSeen_ok hok (fun k hk => hall k (by have h9 := (reach_ok f.blocks).1; omega))
      have hhp := high_press hok (many := manyF f) hs
      refine Zt (Ze1 (Ze1 (Zc1 (Zi (Zb (Zd (Zc (Zk rfl (Za (Zi (Zb (Zb (Zd (Zc (Zl rfl ?_)))))))))))))))
      refine Zc (Zd2 (n := (rangesZ f (manyF f)).length) Try.underlying26 rfl (by simp) (fun hl63 => ?_))
      refine Zc (Zl rfl (Za (Zi (Zs ?_))))
      refine Zi2 (ι := Nat × Nat) (fun (i, high) => (rangesZ f (manyF f)).length - i) (fun (i, high) => [(1, some (.int v)), (2, some (.int w)), (7, some (rgsX (rangesZ f (manyF f)))), (9, some (.int (overB f (manyF f) pressG 0 f.blocks.length : Nat))), (3, some (.ptr g3 0)), (13, some (.int high)), (62, some (rgsX (rangesZ f (manyF f)))), (63, some (.int (rangesZ f (manyF f)).length)), (64, some (.int i))]) (fun (i, high) => [.cells g3 24 [.int f.name, blocksX f.blocks]]) (fun (i, high) => i ≤ (rangesZ f (manyF f)).length ∧ highF (rangesZ f (manyF f)) ((rangesZ f (manyF f)).drop i) high = highF (rangesZ f (manyF f)) (rangesZ f (manyF f)) 0) (0, 0) ⟨Nat.zero_le _, rfl⟩ ⟨rfl, rfl, rfl, rfl, rfl, rfl, rfl, rfl, rfl, trivial⟩ (Drops.keep (Zt2 _)) ?_
      rintro ⟨i, high⟩ hA
      change i ≤ (rangesZ f (manyF f)).length ∧ highF (rangesZ f (manyF f)) ((rangesZ f (manyF f)).drop i) high = highF (rangesZ f (manyF f)) (rangesZ f (manyF f)) 0 at hA
      obtain ⟨hi, hH⟩ := hA
      refine Zb (Zd (Zc (Zj1 rfl rfl rfl (Za (Zi (Zb ?_))))))
      refine Zn1 rfl (fun h65 => ?_) (fun h65 => ?_)
      ·
       obtain ⟨x, hx⟩ := get_of_lt (rangesZ f (manyF f)) i h65
       refine Zi1 (Zi (Zb (Zs (Zb (Zd ?_)))))
       refine Zc (Zz (el := rgV x) VT.sl26 rfl rfl (by omega) (get_mapS rgV hx) (fun a66 => ?_))
       refine Zc (Za2 VT.ty41 rfl rfl ?_)
       refine Zc (Zb2 VT.zr41 _ rfl rfl (fun g15 => ?_))
       refine Zc (Zx 0 VT.ty41 rfl rfl rfl rfl rfl (Za (Zi (Zb (Zd (Zc (Zk rfl (Za (Zi (Zb (Zb (Zd (Zc (Zl rfl ?_))))))))))))))
       refine Zc (Zd2 (n := (rangesZ f (manyF f)).length) Try.underlying26 rfl (by simp) (fun hl69 => ?_))
       refine Zc (Zl rfl (Za (Zi (Zs ?_))))
       refine Zi2 (ι := Nat × Nat) (fun (j, cnt) => (rangesZ f (manyF f)).length - j) (fun (j, cnt) => [(1, some (.int v)), (2, some (.int w)), (7, some (rgsX (rangesZ f (manyF f)))), (9, some (.int (overB f (manyF f) pressG 0 f.blocks.length : Nat))), (3, some (.ptr g3 0)), (13, some (.int high)), (15, some (.ptr g15 0)), (16, some (.int cnt)), (62, some (rgsX (rangesZ f (manyF f)))), (63, some (.int (rangesZ f (manyF f)).length)), (64, some (.int i)), (68, some (rgsX (rangesZ f (manyF f)))), (69, some (.int (rangesZ f (manyF f)).length)), (70, some (.int j))]) (fun (j, cnt) => [.cells g15 41 [.int x.v, .int x.k, .int x.a, .int x.b], .cells g3 24 [.int f.name, blocksX f.blocks]]) (fun (j, cnt) => j ≤ (rangesZ f (manyF f)).length ∧ cnt + ((rangesZ f (manyF f)).drop j).countP (holdsR x.k x.a) = (rangesZ f (manyF f)).countP (holdsR x.k x.a)) (0, 0) ⟨Nat.zero_le _, Nat.zero_add _⟩ ⟨rfl, rfl, rfl, rfl, rfl, rfl, rfl, rfl, rfl, rfl, rfl, rfl, rfl, rfl, trivial⟩ (Drops.keep (Drops.keep (Zt2 _))) ?_
       rintro ⟨j, cnt⟩ hB
       change j ≤ (rangesZ f (manyF f)).length ∧ cnt + ((rangesZ f (manyF f)).drop j).countP (holdsR x.k x.a) = (rangesZ f (manyF f)).countP (holdsR x.k x.a) at hB
       obtain ⟨hj, hc⟩ := hB
       refine Zb (Zd (Zc (Zj1 rfl rfl rfl (Za (Zi (Zb ?_))))))
       refine Zn1 rfl (fun h71 => ?_) (fun h71 => ?_)
       ·
        obtain ⟨y, hy⟩ := get_of_lt (rangesZ f (manyF f)) j h71
        have hc2 := count_step hy hc
        refine Zi1 (Zi (Zb (Zs (Zb (Zd ?_)))))
        refine Zc (Zz (el := rgV y) VT.sl26 rfl rfl (by omega) (get_mapS rgV hy) (fun a72 => ?_))
        refine Zc (Za2 VT.ty41 rfl rfl ?_)
        refine Zc (Zb2 VT.zr41 _ rfl rfl (fun g18 => ?_))
        refine Zc (Zx 0 VT.ty41 rfl rfl rfl rfl rfl (Za (Zi (Zb (Zd (Zc (Zj VT.fa41_1 rfl (Zc (Zu 0 VT.ty3 rfl rfl rfl (Zc (Zj VT.fa41_1 rfl (Zc (Zu 1 VT.ty3 rfl rfl rfl (Zc (Zj1 rfl rfl rfl (Zc (Zl rfl ?_)))))))))))))))))
        refine Zj2 (q := 79) rfl (fun hq79 => ?_) (fun hq79 => ?_)
        ·
         refine Zc (Zj VT.fa41_2 rfl ?_) (Zy1 hq79)
         refine Zc (Zu 0 VT.ty3 rfl rfl rfl ?_) (Zy1 hq79)
         refine Zc (Zj VT.fa41_2 rfl ?_) (Zy1 hq79)
         refine Zc (Zu 1 VT.ty3 rfl rfl rfl ?_) (Zy1 hq79)
         refine Zc (Zj1 rfl rfl rfl ?_) (Zy1 hq79)
         refine Zc (Zs1 rfl hq79 rfl ?_)
         refine Zc (Zl rfl ?_)
         refine Zj2 (q := 86) rfl (fun hq86 => ?_) (fun hq86 => ?_)
         ·
          refine Zc (Zj VT.fa41_2 rfl ?_) (Zy1 hq86)
          refine Zc (Zu 1 VT.ty3 rfl rfl rfl ?_) (Zy1 hq86)
          refine Zc (Zj VT.fa41_3 rfl ?_) (Zy1 hq86)
          refine Zc (Zu 0 VT.ty3 rfl rfl rfl ?_) (Zy1 hq86)
          refine Zc (Zj1 rfl rfl rfl ?_) (Zy1 hq86)
          refine Zc (Zs1 rfl hq86 rfl ?_)
          refine Za (Zi ?_)
          refine Zn1 rfl (fun h92 => ?_) (fun h92 => ?_)
          ·
           rw [if_pos (hold_t hq79 hq86 h92)] at hc2
           refine Zd (Zc (Zl rfl ?_))
           refine Zc (Zh2 rfl rfl (by have h9 : cnt ≤ (rangesZ f (manyF f)).length := (by have h8 := List.countP_le_length (p := holdsR x.k x.a) (l := (rangesZ f (manyF f))); omega); omega) ?_)
           refine Zc (Zk rfl (Za (Zb1 (Zi (Zd ?_)))))
           refine Zc (Zh2 rfl rfl (by omega) ?_)
           refine Zc (Zl rfl (Za (Zi ?_)))
           exact ⟨(j + 1, cnt + 1), (by (try simp only []); omega), ⟨by omega, hc2⟩, ⟨rfl, rfl, rfl, rfl, rfl, rfl, rfl, (congrArg (fun n : Int => some (V.int n)) (by omega)), rfl, rfl, rfl, rfl, rfl, rfl, trivial⟩, (Drops.drop (Drops.keep (Drops.keep (Zt2 _))))⟩
          ·
           rw [if_neg (by rw [hold_f3 h92]; decide), Nat.add_zero] at hc2
           refine Zi1 (Zb1 (Zi (Zd ?_)))
           refine Zc (Zh2 rfl rfl (by omega) ?_)
           refine Zc (Zl rfl (Za (Zi ?_)))
           exact ⟨(j + 1, cnt), (by (try simp only []); omega), ⟨by omega, hc2⟩, ⟨rfl, rfl, rfl, rfl, rfl, rfl, rfl, (congrArg (fun n : Int => some (V.int n)) (by omega)), rfl, rfl, rfl, rfl, rfl, rfl, trivial⟩, (Drops.drop (Drops.keep (Drops.keep (Zt2 _))))⟩
         ·
          refine Zk1 hq86 ?_
          refine Zk1 hq86 ?_
          refine Zk1 hq86 ?_
          refine Zk1 hq86 ?_
          refine Zk1 hq86 ?_
          refine Zc (Zt1 rfl hq86 rfl ?_)
          refine Za (Zi ?_)
          refine Zq1 rfl rfl ?_
          rw [if_neg (by first | (rw [hold_f1 hq79]; decide) | (rw [hold_f2 hq86]; decide)), Nat.add_zero] at hc2
          refine Zi1 (Zb1 (Zi (Zd ?_)))
          refine Zc (Zh2 rfl rfl (by omega) ?_)
          refine Zc (Zl rfl (Za (Zi ?_)))
          exact ⟨(j + 1, cnt), (by (try simp only []); omega), ⟨by omega, hc2⟩, ⟨rfl, rfl, rfl, rfl, rfl, rfl, rfl, (congrArg (fun n : Int => some (V.int n)) (by omega)), rfl, rfl, rfl, rfl, rfl, rfl, trivial⟩, (Drops.drop (Drops.keep (Drops.keep (Zt2 _))))⟩
        ·
         refine Zk1 hq79 ?_
         refine Zk1 hq79 ?_
         refine Zk1 hq79 ?_
         refine Zk1 hq79 ?_
         refine Zk1 hq79 ?_
         refine Zc (Zt1 rfl hq79 rfl ?_)
         refine Zc (Zl rfl ?_)
         refine Zk1 rfl ?_
         refine Zk1 rfl ?_
         refine Zk1 rfl ?_
         refine Zk1 rfl ?_
         refine Zk1 rfl ?_
         refine Zc (Zt1 rfl rfl rfl (Za (Zi ?_)))
         refine Zq1 rfl rfl ?_
         rw [if_neg (by first | (rw [hold_f1 hq79]; decide) | (rw [hold_f2 hq86]; decide)), Nat.add_zero] at hc2
         refine Zi1 (Zb1 (Zi (Zd ?_)))
         refine Zc (Zh2 rfl rfl (by omega) ?_)
         refine Zc (Zl rfl (Za (Zi ?_)))
         exact ⟨(j + 1, cnt), (by (try simp only []); omega), ⟨by omega, hc2⟩, ⟨rfl, rfl, rfl, rfl, rfl, rfl, rfl, (congrArg (fun n : Int => some (V.int n)) (by omega)), rfl, rfl, rfl, rfl, rfl, rfl, trivial⟩, (Drops.drop (Drops.keep (Drops.keep (Zt2 _))))⟩
       ·
        have hje : j = (rangesZ f (manyF f)).length := by omega
        rw [hje, List.drop_length, List.countP_nil, Nat.add_zero] at hc
        refine Zt (Ze1 (Ze1 (Zc1 (Zi (Zd (Zc (Zl rfl (Zc (Zl rfl ?_)))))))))
        refine Zc (Zu2 (V_max2 rfl rfl ⟨rfl, rfl⟩) ((V.le.of_eq (congrArg V.int (by omega)) : V.le _ (.int (max high cnt : Nat)))) ?_)
        refine Zc (Zk rfl (Za (Zb1 (Zi (Zd ?_)))))
        refine Zc (Zh2 rfl rfl (by omega) ?_)
        refine Zc (Zl rfl (Za (Zi ?_)))
        exact ⟨(i + 1, max high cnt), (by (try simp only []); omega), ⟨by omega, by rw [hc]; exact high_step hx hH⟩, ⟨rfl, rfl, rfl, rfl, rfl, rfl, rfl, rfl, rfl, trivial⟩, (Drops.drop (Drops.keep (Zt2 _)))⟩
      ·
       have hie : i = (rangesZ f (manyF f)).length := by omega
       rw [hie, List.drop_length] at hH
       change high = _ at hH
       rw [hhp] at hH
       refine Zt (Ze1 (Ze1 (Zc1 (Zi (Zb (Zd (Zc (Zv 0 VT.ty24 rfl rfl rfl (Zc (Zl rfl (Zc (Zl rfl ?_))))))))))))
       refine Zc (Zx1 [.tmp 101, .tmp 102, .tmp 103] rfl rfl VT.en10 (hI) ?_)
       refine Zc (Zl rfl (Zc (Zg2 rfl rfl (Zc (Zg2 rfl rfl (Zc (Zk rfl (Zc (Zk rfl (Za (Zi (Zb (Zd (Zc (Zk rfl (Za (Zi (Zb (Zb (Zd (Zc (Zl rfl ?_))))))))))))))))))))))
       refine Zc (Zd2 (n := (rangesZ f (manyF f)).length) Try.underlying26 rfl (by simp) (fun hl108 => ?_))
       refine Zc (Zl rfl (Za (Zi (Zs ?_))))
       refine Zi2 (ι := Nat × Bool) (fun (i, bo) => (rangesZ f (manyF f)).length - i) (fun (i, bo) => [(1, some (.int v)), (2, some (.int w)), (7, some (rgsX (rangesZ f (manyF f)))), (9, some (.int (overB f (manyF f) pressG 0 f.blocks.length : Nat))), (13, some (.int high)), (19, some (.bool (inter f v w).1)), (20, some (.int (inter f v w).2)), (21, some (.bool bo)), (107, some (rgsX (rangesZ f (manyF f)))), (108, some (.int (rangesZ f (manyF f)).length)), (109, some (.int i))]) (fun (i, bo) => []) (fun (i, bo) => i ≤ (rangesZ f (manyF f)).length ∧ bo = ((rangesZ f (manyF f)).take i).any fun x => (rangesZ f (manyF f)).any (lapsI v w x)) (0, false) ⟨Nat.zero_le _, rfl⟩ ⟨rfl, rfl, rfl, rfl, rfl, rfl, rfl, rfl, rfl, rfl, rfl, trivial⟩ (Drops.nil _) ?_
       rintro ⟨i, bo⟩ hA
       change i ≤ (rangesZ f (manyF f)).length ∧ bo = ((rangesZ f (manyF f)).take i).any fun x => (rangesZ f (manyF f)).any (lapsI v w x) at hA
       obtain ⟨hi, hb1⟩ := hA
       refine Zb (Zd (Zc (Zj1 rfl rfl rfl (Za (Zi (Zb ?_))))))
       refine Zn1 rfl (fun h110 => ?_) (fun h110 => ?_)
       ·
        obtain ⟨x, hx⟩ := get_of_lt (rangesZ f (manyF f)) i h110
        refine Zi1 (Zi (Zb (Zs (Zb (Zd ?_)))))
        refine Zc (Zz (el := rgV x) VT.sl26 rfl rfl (by omega) (get_mapS rgV hx) (fun a111 => ?_))
        refine Zc (Za2 VT.ty41 rfl rfl ?_)
        refine Zc (Zb2 VT.zr41 _ rfl rfl (fun g23 => ?_))
        refine Zc (Zx 0 VT.ty41 rfl rfl rfl rfl rfl (Za (Zi (Zb (Zd (Zc (Zl rfl ?_)))))))
        refine Zc (Zd2 (n := (rangesZ f (manyF f)).length) Try.underlying26 rfl (by simp) (fun hl114 => ?_))
        refine Zc (Zl rfl (Za (Zi (Zs ?_))))
        refine Zi2 (ι := Nat × Bool) (fun (j, bo2) => (rangesZ f (manyF f)).length - j) (fun (j, bo2) => [(1, some (.int v)), (2, some (.int w)), (7, some (rgsX (rangesZ f (manyF f)))), (9, some (.int (overB f (manyF f) pressG 0 f.blocks.length : Nat))), (13, some (.int high)), (19, some (.bool (inter f v w).1)), (20, some (.int (inter f v w).2)), (21, some (.bool bo2)), (23, some (.ptr g23 0)), (107, some (rgsX (rangesZ f (manyF f)))), (108, some (.int (rangesZ f (manyF f)).length)), (109, some (.int i)), (113, some (rgsX (rangesZ f (manyF f)))), (114, some (.int (rangesZ f (manyF f)).length)), (115, some (.int j))]) (fun (j, bo2) => [.cells g23 41 [.int x.v, .int x.k, .int x.a, .int x.b]]) (fun (j, bo2) => j ≤ (rangesZ f (manyF f)).length ∧ bo2 = (bo || ((rangesZ f (manyF f)).take j).any (lapsI v w x))) (0, bo) ⟨Nat.zero_le _, by simp⟩ ⟨rfl, rfl, rfl, rfl, rfl, rfl, rfl, rfl, rfl, rfl, rfl, rfl, rfl, rfl, rfl, trivial⟩ (Drops.keep (Zt2 _)) ?_
        rintro ⟨j, bo2⟩ hB
        change j ≤ (rangesZ f (manyF f)).length ∧ bo2 = (bo || ((rangesZ f (manyF f)).take j).any (lapsI v w x)) at hB
        obtain ⟨hj, hb2⟩ := hB
        refine Zb (Zd (Zc (Zj1 rfl rfl rfl (Za (Zi (Zb ?_))))))
        refine Zn1 rfl (fun h116 => ?_) (fun h116 => ?_)
        ·
         obtain ⟨y, hy⟩ := get_of_lt (rangesZ f (manyF f)) j h116
         refine Zi1 (Zi (Zb (Zs (Zb (Zd ?_)))))
         refine Zc (Zz (el := rgV y) VT.sl26 rfl rfl (by omega) (get_mapS rgV hy) (fun a117 => ?_))
         refine Zc (Za2 VT.ty41 rfl rfl ?_)
         refine Zc (Zb2 VT.zr41 _ rfl rfl (fun g25 => ?_))
         refine Zc (Zx 0 VT.ty41 rfl rfl rfl rfl rfl (Za (Zi (Zd (Zc (Zl rfl (Zc (Zl rfl ?_))))))))
         refine Zj2 (q := 120) rfl (fun hq120 => ?_) (fun hq120 => ?_)
         ·
          refine Zk0 hq120 ?_
          refine Zk0 hq120 ?_
          refine Zk0 hq120 ?_
          refine Zk0 hq120 ?_
          refine Zk0 hq120 ?_
          refine Zh (.inr ⟨_, _, 125, rfl, rfl, rfl⟩) rfl ?_
          refine Zh (.inr ⟨_, _, 125, rfl, rfl, rfl⟩) rfl ?_
          refine Zh (.inr ⟨_, _, 125, rfl, rfl, rfl⟩) rfl ?_
          refine Zh (.inr ⟨_, _, 125, rfl, rfl, rfl⟩) rfl ?_
          refine Zk0 hq120 ?_
          refine Zk0 hq120 ?_
          refine Zh (.inr ⟨_, _, 131, rfl, rfl, rfl⟩) rfl ?_
          refine Zh (.inr ⟨_, _, 131, rfl, rfl, rfl⟩) rfl ?_
          refine Zh (.inr ⟨_, _, 131, rfl, rfl, rfl⟩) rfl ?_
          refine Zh (.inr ⟨_, _, 131, rfl, rfl, rfl⟩) rfl ?_
          refine Zh (.inr ⟨_, _, 131, rfl, rfl, rfl⟩) rfl ?_
          refine Zk0 hq120 ?_
          refine Zk0 hq120 ?_
          refine Zh (.inr ⟨_, _, 138, rfl, rfl, rfl⟩) rfl ?_
          refine Zh (.inr ⟨_, _, 138, rfl, rfl, rfl⟩) rfl ?_
          refine Zh (.inr ⟨_, _, 138, rfl, rfl, rfl⟩) rfl ?_
          refine Zh (.inr ⟨_, _, 138, rfl, rfl, rfl⟩) rfl ?_
          refine Zh (.inr ⟨_, _, 138, rfl, rfl, rfl⟩) rfl ?_
          refine Zk0 hq120 ?_
          refine Zk0 hq120 ?_
          refine Zh (.inr ⟨_, _, 145, rfl, rfl, rfl⟩) rfl ?_
          refine Zh (.inr ⟨_, _, 145, rfl, rfl, rfl⟩) rfl ?_
          refine Zh (.inr ⟨_, _, 145, rfl, rfl, rfl⟩) rfl ?_
          refine Zh (.inr ⟨_, _, 145, rfl, rfl, rfl⟩) rfl ?_
          refine Zh (.inr ⟨_, _, 145, rfl, rfl, rfl⟩) rfl ?_
          refine Zk0 hq120 ?_
          refine Zc (Zs1 rfl hq120 rfl ?_)
          refine Zc (Zk rfl (Za (Zb1 (Zi (Zd ?_)))))
          refine Zc (Zh2 rfl rfl (by omega) ?_)
          refine Zc (Zl rfl (Za (Zi ?_)))
          exact ⟨(j + 1, (bo || ((rangesZ f (manyF f)).take (j + 1)).any (lapsI v w x))), (by (try simp only []); omega), ⟨by omega, rfl⟩, ⟨rfl, rfl, rfl, rfl, rfl, rfl, rfl, (congrArg (fun b : Bool => some (V.bool b)) (by rw [any_rg hy, ← Bool.or_assoc, ← hb2, lapsI]; first | (rw [hq120, hq125, hq131, hq138, hq145]; simp; done) | (rw [hq120, hq125, hq131, hq138]; simp; done) | (rw [hq120, hq125, hq131]; simp; done) | (rw [hq120, hq125]; simp; done) | (rw [hq120]; simp; done))), rfl, rfl, rfl, rfl, rfl, rfl, rfl, trivial⟩, (Drops.drop (Drops.keep (Zt2 _)))⟩
         ·
          refine Zc (Zj VT.fa41_0 rfl ?_) (Zy0 hq120)
          refine Zc (Zu 1 VT.ty3 rfl rfl rfl ?_) (Zy0 hq120)
          refine Zc (Zl rfl ?_) (Zy0 hq120)
          refine Zc (Zj1 rfl rfl rfl ?_) (Zy0 hq120)
          refine Zc (Zl rfl ?_) (Zy0 hq120)
          refine Zj2 (q := 125) rfl (fun hq125 => ?_) (fun hq125 => ?_)
          ·
           refine Zc (Zj VT.fa41_0 rfl ?_) (Zy1 hq125)
           refine Zc (Zu 0 VT.ty3 rfl rfl rfl ?_) (Zy1 hq125)
           refine Zc (Zl rfl ?_) (Zy1 hq125)
           refine Zc (Zj1 rfl rfl rfl ?_) (Zy1 hq125)
           refine Zc (Zs1 rfl hq125 rfl ?_) (Zy0 hq120)
           refine Zc (Zl rfl ?_) (Zy0 hq120)
           refine Zj2 (q := 131) rfl (fun hq131 => ?_) (fun hq131 => ?_)
           ·
            refine Zc (Zj VT.fa41_1 rfl ?_) (Zy1 hq131)
            refine Zc (Zu 1 VT.ty3 rfl rfl rfl ?_) (Zy1 hq131)
            refine Zc (Zj VT.fa41_1 rfl ?_) (Zy1 hq131)
            refine Zc (Zu 0 VT.ty3 rfl rfl rfl ?_) (Zy1 hq131)
            refine Zc (Zj1 rfl rfl rfl ?_) (Zy1 hq131)
            refine Zc (Zs1 rfl hq131 rfl ?_) (Zy0 hq120)
            refine Zc (Zl rfl ?_) (Zy0 hq120)
            refine Zj2 (q := 138) rfl (fun hq138 => ?_) (fun hq138 => ?_)
            ·
             refine Zc (Zj VT.fa41_2 rfl ?_) (Zy1 hq138)
             refine Zc (Zu 1 VT.ty3 rfl rfl rfl ?_) (Zy1 hq138)
             refine Zc (Zj VT.fa41_3 rfl ?_) (Zy1 hq138)
             refine Zc (Zu 0 VT.ty3 rfl rfl rfl ?_) (Zy1 hq138)
             refine Zc (Zj1 rfl rfl rfl ?_) (Zy1 hq138)
             refine Zc (Zs1 rfl hq138 rfl ?_) (Zy0 hq120)
             refine Zc (Zl rfl ?_) (Zy0 hq120)
             refine Zj2 (q := 145) rfl (fun hq145 => ?_) (fun hq145 => ?_)
             ·
              refine Zc (Zj VT.fa41_2 rfl ?_) (Zy1 hq145)
              refine Zc (Zu 0 VT.ty3 rfl rfl rfl ?_) (Zy1 hq145)
              refine Zc (Zj VT.fa41_3 rfl ?_) (Zy1 hq145)
              refine Zc (Zu 1 VT.ty3 rfl rfl rfl ?_) (Zy1 hq145)
              refine Zc (Zj1 rfl rfl rfl ?_) (Zy1 hq145)
              refine Zc (Zs1 rfl hq145 rfl ?_) (Zy0 hq120)
              refine Zc (Zt1 rfl hq120 rfl ?_)
              refine Zc (Zk rfl (Za (Zb1 (Zi (Zd ?_)))))
              refine Zc (Zh2 rfl rfl (by omega) ?_)
              refine Zc (Zl rfl (Za (Zi ?_)))
              exact ⟨(j + 1, (bo || ((rangesZ f (manyF f)).take (j + 1)).any (lapsI v w x))), (by (try simp only []); omega), ⟨by omega, rfl⟩, ⟨rfl, rfl, rfl, rfl, rfl, rfl, rfl, (congrArg (fun b : Bool => some (V.bool b)) (by rw [any_rg hy, ← Bool.or_assoc, ← hb2, lapsI]; first | (rw [hq120, hq125, hq131, hq138, hq145]; simp; done) | (rw [hq120, hq125, hq131, hq138]; simp; done) | (rw [hq120, hq125, hq131]; simp; done) | (rw [hq120, hq125]; simp; done) | (rw [hq120]; simp; done))), rfl, rfl, rfl, rfl, rfl, rfl, rfl, trivial⟩, (Drops.drop (Drops.keep (Zt2 _)))⟩
             ·
              refine Zk1 hq145 ?_
              refine Zk1 hq145 ?_
              refine Zk1 hq145 ?_
              refine Zk1 hq145 ?_
              refine Zk1 hq145 ?_
              refine Zc (Zt1 rfl hq145 rfl ?_) (Zy0 hq120)
              refine Zc (Zt1 rfl hq120 rfl ?_)
              refine Zc (Zk rfl (Za (Zb1 (Zi (Zd ?_)))))
              refine Zc (Zh2 rfl rfl (by omega) ?_)
              refine Zc (Zl rfl (Za (Zi ?_)))
              exact ⟨(j + 1, (bo || ((rangesZ f (manyF f)).take (j + 1)).any (lapsI v w x))), (by (try simp only []); omega), ⟨by omega, rfl⟩, ⟨rfl, rfl, rfl, rfl, rfl, rfl, rfl, (congrArg (fun b : Bool => some (V.bool b)) (by rw [any_rg hy, ← Bool.or_assoc, ← hb2, lapsI]; first | (rw [hq120, hq125, hq131, hq138, hq145]; simp; done) | (rw [hq120, hq125, hq131, hq138]; simp; done) | (rw [hq120, hq125, hq131]; simp; done) | (rw [hq120, hq125]; simp; done) | (rw [hq120]; simp; done))), rfl, rfl, rfl, rfl, rfl, rfl, rfl, trivial⟩, (Drops.drop (Drops.keep (Zt2 _)))⟩
            ·
             refine Zk1 hq138 ?_
             refine Zk1 hq138 ?_
             refine Zk1 hq138 ?_
             refine Zk1 hq138 ?_
             refine Zk1 hq138 ?_
             refine Zc (Zt1 rfl hq138 rfl ?_) (Zy0 hq120)
             refine Zc (Zl rfl ?_) (Zy0 hq120)
             refine Zk1 rfl ?_
             refine Zk1 rfl ?_
             refine Zk1 rfl ?_
             refine Zk1 rfl ?_
             refine Zk1 rfl ?_
             refine Zc (Zt1 rfl rfl rfl ?_) (Zy0 hq120)
             refine Zc (Zt1 rfl hq120 rfl ?_)
             refine Zc (Zk rfl (Za (Zb1 (Zi (Zd ?_)))))
             refine Zc (Zh2 rfl rfl (by omega) ?_)
             refine Zc (Zl rfl (Za (Zi ?_)))
             exact ⟨(j + 1, (bo || ((rangesZ f (manyF f)).take (j + 1)).any (lapsI v w x))), (by (try simp only []); omega), ⟨by omega, rfl⟩, ⟨rfl, rfl, rfl, rfl, rfl, rfl, rfl, (congrArg (fun b : Bool => some (V.bool b)) (by rw [any_rg hy, ← Bool.or_assoc, ← hb2, lapsI]; first | (rw [hq120, hq125, hq131, hq138, hq145]; simp; done) | (rw [hq120, hq125, hq131, hq138]; simp; done) | (rw [hq120, hq125, hq131]; simp; done) | (rw [hq120, hq125]; simp; done) | (rw [hq120]; simp; done))), rfl, rfl, rfl, rfl, rfl, rfl, rfl, trivial⟩, (Drops.drop (Drops.keep (Zt2 _)))⟩
           ·
            refine Zk1 hq131 ?_
            refine Zk1 hq131 ?_
            refine Zk1 hq131 ?_
            refine Zk1 hq131 ?_
            refine Zk1 hq131 ?_
            refine Zc (Zt1 rfl hq131 rfl ?_) (Zy0 hq120)
            refine Zc (Zl rfl ?_) (Zy0 hq120)
            refine Zk1 rfl ?_
            refine Zk1 rfl ?_
            refine Zk1 rfl ?_
            refine Zk1 rfl ?_
            refine Zk1 rfl ?_
            refine Zc (Zt1 rfl rfl rfl ?_) (Zy0 hq120)
            refine Zc (Zl rfl ?_) (Zy0 hq120)
            refine Zk1 rfl ?_
            refine Zk1 rfl ?_
            refine Zk1 rfl ?_
            refine Zk1 rfl ?_
            refine Zk1 rfl ?_
            refine Zc (Zt1 rfl rfl rfl ?_) (Zy0 hq120)
            refine Zc (Zt1 rfl hq120 rfl ?_)
            refine Zc (Zk rfl (Za (Zb1 (Zi (Zd ?_)))))
            refine Zc (Zh2 rfl rfl (by omega) ?_)
            refine Zc (Zl rfl (Za (Zi ?_)))
            exact ⟨(j + 1, (bo || ((rangesZ f (manyF f)).take (j + 1)).any (lapsI v w x))), (by (try simp only []); omega), ⟨by omega, rfl⟩, ⟨rfl, rfl, rfl, rfl, rfl, rfl, rfl, (congrArg (fun b : Bool => some (V.bool b)) (by rw [any_rg hy, ← Bool.or_assoc, ← hb2, lapsI]; first | (rw [hq120, hq125, hq131, hq138, hq145]; simp; done) | (rw [hq120, hq125, hq131, hq138]; simp; done) | (rw [hq120, hq125, hq131]; simp; done) | (rw [hq120, hq125]; simp; done) | (rw [hq120]; simp; done))), rfl, rfl, rfl, rfl, rfl, rfl, rfl, trivial⟩, (Drops.drop (Drops.keep (Zt2 _)))⟩
          ·
           refine Zk1 hq125 ?_
           refine Zk1 hq125 ?_
           refine Zk1 hq125 ?_
           refine Zk1 hq125 ?_
           refine Zc (Zt1 rfl hq125 rfl ?_) (Zy0 hq120)
           refine Zc (Zl rfl ?_) (Zy0 hq120)
           refine Zk1 rfl ?_
           refine Zk1 rfl ?_
           refine Zk1 rfl ?_
           refine Zk1 rfl ?_
           refine Zk1 rfl ?_
           refine Zc (Zt1 rfl rfl rfl ?_) (Zy0 hq120)
           refine Zc (Zl rfl ?_) (Zy0 hq120)
           refine Zk1 rfl ?_
           refine Zk1 rfl ?_
           refine Zk1 rfl ?_
           refine Zk1 rfl ?_
           refine Zk1 rfl ?_
           refine Zc (Zt1 rfl rfl rfl ?_) (Zy0 hq120)
           refine Zc (Zl rfl ?_) (Zy0 hq120)
           refine Zk1 rfl ?_
           refine Zk1 rfl ?_
           refine Zk1 rfl ?_
           refine Zk1 rfl ?_
           refine Zk1 rfl ?_
           refine Zc (Zt1 rfl rfl rfl ?_) (Zy0 hq120)
           refine Zc (Zt1 rfl hq120 rfl ?_)
           refine Zc (Zk rfl (Za (Zb1 (Zi (Zd ?_)))))
           refine Zc (Zh2 rfl rfl (by omega) ?_)
           refine Zc (Zl rfl (Za (Zi ?_)))
           exact ⟨(j + 1, (bo || ((rangesZ f (manyF f)).take (j + 1)).any (lapsI v w x))), (by (try simp only []); omega), ⟨by omega, rfl⟩, ⟨rfl, rfl, rfl, rfl, rfl, rfl, rfl, (congrArg (fun b : Bool => some (V.bool b)) (by rw [any_rg hy, ← Bool.or_assoc, ← hb2, lapsI]; first | (rw [hq120, hq125, hq131, hq138, hq145]; simp; done) | (rw [hq120, hq125, hq131, hq138]; simp; done) | (rw [hq120, hq125, hq131]; simp; done) | (rw [hq120, hq125]; simp; done) | (rw [hq120]; simp; done))), rfl, rfl, rfl, rfl, rfl, rfl, rfl, trivial⟩, (Drops.drop (Drops.keep (Zt2 _)))⟩
        ·
         have hje : j = (rangesZ f (manyF f)).length := by omega
         refine Zt (Ze1 (Ze1 (Zc1 (Zb1 (Zi (Zd ?_))))))
         refine Zc (Zh2 rfl rfl (by omega) ?_)
         refine Zc (Zl rfl (Za (Zi ?_)))
         exact ⟨(i + 1, ((rangesZ f (manyF f)).take (i + 1)).any fun x => (rangesZ f (manyF f)).any (lapsI v w x)), (by (try simp only []); omega), ⟨by omega, rfl⟩, ⟨rfl, rfl, rfl, rfl, rfl, rfl, rfl, (congrArg (fun b : Bool => some (V.bool b)) (by rw [any_rg hx, ← hb1, hb2, hje, List.take_length])), rfl, rfl, rfl, trivial⟩, (Drops.nil _)⟩
       ·
        have hie : i = (rangesZ f (manyF f)).length := by omega
        have hbo : bo = (rangesZ f (manyF f)).any fun x => (rangesZ f (manyF f)).any (lapsI v w x) := by rw [hb1, hie, List.take_length]
        refine Zt (Ze1 (Ze1 (Zc1 (Zi (Zb (Zd (Zc (Zl rfl (Zc (Zl rfl (Zc (Zj1 rfl rfl rfl (Zc (Zl rfl ?_))))))))))))))
        refine Zj2 (q := 158) rfl (fun hq158 => ?_) (fun hq158 => ?_)
        ·
         refine Zc (Zl rfl ?_) (Zy1 hq158)
         refine Zc (Zj1 rfl rfl rfl ?_) (Zy1 hq158)
         refine Zc (Zl rfl ?_) (Zy1 hq158)
         refine Zj2 (q := 161) rfl (fun hq161 => ?_) (fun hq161 => ?_)
         ·
          refine Zk0 hq161 ?_
          refine Zk0 hq161 ?_
          refine Zk0 hq161 ?_
          refine Zc (Zs1 rfl hq161 rfl ?_) (Zy1 hq158)
          refine Zc (Zs1 rfl hq158 rfl ?_)
          refine Zc (Zk rfl (Za (Zi (Zf1 ?_))))
          refine Zg1 rfl (.tmp rfl) ?_
          first | rfl | (refine congrArg V.bool ?_; simp; done) | (refine congrArg V.bool ?_; rw [inter_law h0 hs (by simpa using hq161), ← hbo]; simp)
         ·
          refine Zc (Zl rfl ?_) (Zy0 hq161)
          refine Zc (Zl rfl ?_) (Zy0 hq161)
          refine Zc (V_booleq Try.underlying4 rfl rfl ?_) (Zy0 hq161)
          refine Zc (Zt1 rfl hq161 rfl ?_) (Zy1 hq158)
          refine Zc (Zs1 rfl hq158 rfl ?_)
          refine Zc (Zk rfl (Za (Zi (Zf1 ?_))))
          refine Zg1 rfl (.tmp rfl) ?_
          first | rfl | (refine congrArg V.bool ?_; simp; done) | (refine congrArg V.bool ?_; rw [inter_law h0 hs (by simpa using hq161), ← hbo]; simp)
        · exact absurd hq158 (by rw [hH]; simp)
 ·
  rw [if_neg h0] at hL hP
  refine Zc (Zx1 [.tmp 29] rfl rfl VT.en6 (hL) ?_)
  refine Zc (Zl rfl (Zc (Zg2 rfl rfl (Zc (Zg2 rfl rfl (Zc (Zk rfl (Zc (Zk rfl (Za (Zi (Zb (Zd (Zc (Zv 0 VT.ty24 rfl rfl rfl ?_)))))))))))))))
  refine Zc (Zx1 [.tmp 34] rfl rfl VT.en8 (hP) ?_)
  refine Zc (Zl rfl (Zc (Zg2 rfl rfl (Zc (Zg2 rfl rfl (Zc (Zk rfl (Zc (Zk rfl (Za (Zi (Zb (Zb (Zd (Zc (Zl rfl (Zc (Zj1 rfl rfl rfl (Zc (Zl rfl ?_))))))))))))))))))))
  refine Zj2 (q := 40) rfl (fun hq40 => ?_) (fun hq40 => ?_)
  ·
   refine Zk0 hq40 ?_
   refine Zk0 hq40 ?_
   refine Zc (Zs1 rfl hq40 rfl ?_)
   refine Zc (Zl rfl ?_)
   refine Zk0 rfl ?_
   refine Zk0 rfl ?_
   refine Zk0 rfl ?_
   refine Zc (Zs1 rfl rfl rfl (Za (Zi ?_)))
   refine Zp1 rfl rfl ?_
   refine Zb (Zd (Zc (Zl rfl (Zc (Zl rfl (Zc (Zj1 rfl rfl rfl (Zc (Zk rfl (Za (Zi (Zf1 ?_))))))))))))
   refine Zd1 (Zg1 rfl (.tmp rfl) ?_)
   first | rfl | (refine congrArg V.bool ?_; simp; done) | (refine congrArg V.bool ?_; rw [inter_law h0 hs (by simpa using hq161), ← hbo]; simp)
  · exact absurd hq40 (by simpa using h0)


end Go.Proofs.Ytfjijinmnocnoaa.X19
