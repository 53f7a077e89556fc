import Derived.Test.YtjekhhgjfelpgaaGreatVX
import Derived.Test.YtjekhhgjfelpgaaGreatVM
import Derived.Test.YtjekhhgjfelpgaaGreatX22
set_option linter.all false
open List renaming append_nil → Ya, length_append → Yb, perm_append_comm → Yc, append_assoc → Yd, length_map → Ye, replicate → Yf, length_set → Yg, length_singleton → Yh, getElem?_eq_some_iff → Yi, mem_append_right → Yj
open Nat renaming zero_le → Yk
namespace Go.Proofs.YtjekhhgjfelpgaaGreat.X76
open Go.VL Go.SM Go.Proofs.YtjekhhgjfelpgaaGreat XS X1 X2 X3 X4 X5 X6 X7 X8 X9 X10 X12 X13 X14 X20 X22
theorem perm_g3 {m o r : Own} {O : Store} : (m :: o :: r :: O).Perm (O ++ [m, o, r]) := Yc (l₁ := [m, o, r])
theorem drop_g3 {m o r : Own} {O : Store} : Drops (O ++ [m, o, r]) (m :: o :: r :: O) := Drops.of_perm (Yc (l₂ := [m, o, r]))
def fwdX (f : SFunc) (k : Nat) (l : List SEdge) : List Int := (l.filter fun e => !isBk f k e).map (·.block)
theorem fwdX_T {f : SFunc} {k : Nat} {e : SEdge} {l : List SEdge} (h : isBk f k e = false) : fwdX f k (e :: l) = e.block :: fwdX f k l := by
  unfold fwdX
  rw [List.filter_cons, h]
  rfl
theorem fwdX_F {f : SFunc} {k : Nat} {e : SEdge} {l : List SEdge} (h : isBk f k e = true) : fwdX f k (e :: l) = fwdX f k l := by
  unfold fwdX
  rw [List.filter_cons, h]
  rfl
theorem fwdX_all {f : SFunc} {k : Nat} {b : SBlock} (hb : f.blocks[k]? = some b) : fwdX f k b.term.to = fwdL f k := by
  unfold fwdX fwdL
  rw [toAt_get hb]
abbrev CMo (g8 gm : Nat) (M : List Int) : Own := .cells g8 41 [.raw (.slice (some ⟨gm, 0, none⟩) M.length M.length)]
abbrev RMo (gm : Nat) (M : List Int) : Own := .cells gm 3 (M.map V.int)
abbrev CWo (g12 gw : Nat) (ws : List Nat) (cap : Nat) : Own := .cells g12 41 [.raw (.slice (some ⟨gw, 0, none⟩) ws.length cap)]
abbrev RWo (gw : Nat) (ws : List Nat) (rest : List V) : Own := .cells gw 3 (natsX ws ++ rest)
theorem nats_take {ws : List Nat} {rest : List V} : (natsX ws ++ rest).take (ws.length * 1) = natsX ws := by rw [Nat.mul_one, List.take_append_of_le_length (by rw [natsX_len]; exact Nat.le_refl _), List.take_of_length_le (by rw [natsX_len]; exact Nat.le_refl _)]
theorem map_set0 {M : List Int} {t : Nat} {c : Int} : (M.map V.int).set t (V.int c) ++ [] = (M.set t c).map V.int := by rw [Ya, List.map_set]
theorem down_1 {g8 gm g12 g18 cap18 : Nat} {rest18 rest : List V} {M : List Int} {t c : Nat} {ws : List Nat} (h : c = 0) : [Own.cells g8 41 [.raw (.slice (some ⟨gm, 0, none⟩) M.length M.length)], .cells gm 3 ((M.map V.int).set t (V.int c) ++ []), .cells g12 41 [.raw (.slice (some ⟨g18, 0, none⟩) (ws.length + [V.int t].length) cap18)], .cells g18 3 ((natsX ws ++ rest).take (ws.length * 1) ++ ([V.int t].flatMap V.leaves ++ rest18))] = [CMo g8 gm (M.set t (c : Int)), RMo gm (M.set t (c : Int)), CWo g12 g18 (if c = 0 then ws ++ [t] else ws) cap18, RWo g18 (if c = 0 then ws ++ [t] else ws) rest18] := by
  rw [if_pos h, map_set0, nats_take, CMo, RMo, CWo, RWo, Yg, natsX_app, Yd, Yb]
  rfl
theorem down_2 {cap18 : Nat} {rest18 rest : List V} {t c : Nat} {ws : List Nat} (h : c = 0) (hl : ((natsX ws ++ rest).take (ws.length * 1) ++ ([V.int (t : Int)].flatMap V.leaves ++ rest18)).length = cap18 * 1) : (if c = 0 then ws ++ [t] else ws).length + rest18.length = cap18 := by
  rw [if_pos h]
  rw [nats_take, Yb, Yb, natsX_len, Nat.mul_one] at hl
  have h9 : ([V.int (t : Int)].flatMap V.leaves).length = 1 := rfl
  rw [h9] at hl
  rw [Yb, Yh]
  omega
theorem down_3 {g8 gm g12 cap gw : Nat} {rest : List V} {M : List Int} {t c : Nat} {ws : List Nat} (h : ¬ c = 0) : [Own.cells g8 41 [.raw (.slice (some ⟨gm, 0, none⟩) M.length M.length)], .cells gm 3 ((M.map V.int).set t (V.int c) ++ []), .cells g12 41 [.raw (.slice (some ⟨gw, 0, none⟩) ws.length cap)], .cells gw 3 (natsX ws ++ rest)] = [CMo g8 gm (M.set t (c : Int)), RMo gm (M.set t (c : Int)), CWo g12 gw (if c = 0 then ws ++ [t] else ws) cap, RWo gw (if c = 0 then ws ++ [t] else ws) rest] := by
  rw [if_neg h, map_set0, CMo, RMo, CWo, RWo, Yg]
theorem down_4 {cap : Nat} {rest : List V} {t c : Nat} {ws : List Nat} (h : ¬ c = 0) (hl : ws.length + rest.length = cap) : (if c = 0 then ws ++ [t] else ws).length + rest.length = cap := by rw [if_neg h]; exact hl
theorem perm_r4 {a b c d : Own} : [a, b, c, d].Perm ([d, c, a, b] ++ []) := by
  have h1 : [a, b, c, d].Perm ([c, d] ++ [a, b]) := Yc (l₁ := [a, b])
  exact h1.trans (List.Perm.swap _ _ _)
theorem drop_r4 {a b c d : Own} : Drops ([d, c, a, b] ++ []) [a, b, c, d] := Drops.of_perm (perm_r4 (a := a) (b := b) (c := c) (d := d)).symm
theorem perm_r6 {x y a b c d : Own} : [x, y, a, b, c, d].Perm ([d, c, a, b, x, y] ++ []) := by
  have h1 : [x, y, a, b, c, d].Perm ([a, b, c, d] ++ [x, y]) := Yc (l₁ := [x, y])
  exact h1.trans ((perm_r4 (a := a) (b := b) (c := c) (d := d)).append_right [x, y])
theorem drop_r6 {x y a b c d : Own} : Drops ([d, c, a, b, x, y] ++ []) [x, y, a, b, c, d] := Drops.of_perm (perm_r6 (x := x) (y := y) (a := a) (b := b) (c := c) (d := d)).symm
theorem pop_eq {g12 g cap k : Nat} {ws w : List Nat} {rest : List V} {Z : Store} (h : ws = w ++ [k]) : (Own.cells g12 41 [.raw (.slice (some ⟨g, 0, none⟩) (((ws.length : Nat) : Int) - 1).toNat cap)] :: RWo g ws rest :: Z) = (CWo g12 g w cap :: RWo g w (.int (k : Int) :: rest) :: Z) := by
  subst h
  have e : (((w ++ [k]).length : Int) - 1).toNat = w.length := by simp
  rw [e]
  unfold RWo
  rw [natsX_app, Yd]
  rfl
noncomputable def redX (f : SFunc) : V := if funcF f = 0 then .tup [.bool (redF f), .int 0] else .tup [.bool false, .int (funcF f)]
structure RSt where
  ws : List Nat
  M : List Int
  g : Nat
  cap : Nat
  rest : List V
structure RInv (f : SFunc) (D : List Nat) (post : List Int) (s : RSt) : Prop where
  inv : KInv f D s.ws s.M post
  len : s.ws.length + s.rest.length = s.cap
  max : s.cap ≤ maxLen
  pl : post.length ≤ 257
abbrev rOut (g8 gm g12 : Nat) (s : RSt) : Store := [CMo g8 gm s.M, RMo gm s.M, CWo g12 s.g s.ws s.cap, RWo s.g s.ws s.rest]
set_option maxRecDepth 100000 in
theorem edgeIndex_c (l : List (Int × Int)) (tok : Option Tok) (v : (Int × Int)) : VPure Tryz.prog 60 [.sl 2 tok (l.map pairV), .agg [.int v.1, .int v.2]] (.int (idxOf (fun x => decide (v = x)) l)) := by
 refine V_start (nt := 19) Tryz.func60 rfl rfl rfl ?_
 refine Zb (Zd ?_)
 refine Zc (Zc2 rfl rfl (fun g3 => ?_))
 refine Zc (Zk rfl (Za (Zi (Zb (Zb (Zd (Zc (Zl rfl ?_))))))))
 refine Zc (Zd2 (n := l.length) Tryz.underlying80 rfl (by simp) (fun hl7 => ?_))
 refine Zc (Zl rfl (Za (Zi (Zs ?_))))
 refine Zi2 (ι := Nat) (fun k => l.length - k) (fun k => [(0, some (.sl 2 tok (l.map pairV))), (1, some (.agg [.int v.1, .int v.2])), (7, some (.int l.length)), (8, some (.int k)), (3, some (.ptr g3 0))]) (fun k => [.cells g3 86 (V.agg [.int v.1, .int v.2]).leaves]) (fun k => k ≤ l.length ∧ (l.take k).any (fun x => decide (v = x)) = false) 0 ⟨Yk _, rfl⟩ ⟨rfl, rfl, rfl, rfl, rfl, trivial⟩ (Drops.keep (Zt2 _)) ?_
 rintro k hA
 change k ≤ l.length ∧ (l.take k).any (fun x => decide (v = x)) = false at hA
 obtain ⟨hk, hany⟩ := hA
 refine Zb (Zd (Zc (Zj1 rfl rfl rfl (Za (Zi (Zb ?_))))))
 refine Zn1 rfl (fun h9 => ?_) (fun h9 => ?_)
 ·
  obtain ⟨x, hr⟩ := get_of_lt l k h9
  refine Zi1 (Zi (Zb (Zs (Zb (Zd (Zc (Zl rfl (Zc (Zk rfl (Za (Zi (Zb ?_))))))))))))
  refine VW_drawR (G := Unit) [([], [3], []), ([], [0], []), ([], [5], []), ([2, 1], [12, 13], []), ([3, 2, 1], [14], []), (dn 5, [11, 15], [])] [] (constSt _) [16] [11, 12, 13, 14, 15, 16] rfl VT.mix ?_
  refine ZA (fun γ => Zf (fun _ h3 => Ze (Zn rfl (Zv 0 VT.ty86 h3 rfl rfl z0)))) ?_
  refine ZA (fun γ => Zf (fun _ h0 => Ze (Zn rfl (Zl h0 z0)))) ?_
  refine ZA (fun γ => Zf (fun _ h5 => Ze (Zn rfl (Zl h5 z0)))) ?_
  refine Zp (Zb3 _) (Zq (fun γ => Zw 1 1 rfl (fun _ h12 => Zw 2 0 rfl (fun _ h13 => Ze (Zn rfl (Zz (el := pairV x) VT.sl80 h12 h13 (by omega) (get_mapS pairV hr) (fun a14 => ⟨⟨_, rfl⟩, rfl⟩))))))) ?_
  refine ZA (fun γ => Zw 3 0 rfl (fun _ h14 => Ze (Zc3 h14 (fun a_14 e14 => Zn rfl (Za2 VT.ty86 e14 rfl z0))))) ?_
  refine ZA (fun γ => Zw 0 4 rfl (fun _ h11 => Zw 4 0 rfl (fun _ h15 => Ze (Zn rfl (V_eqTwo ⟨Tryz.underlying86, by decide, by decide, rfl, rfl, Tryz.underlying3, Tryz.underlying3, by kernel_rfl⟩ (by kernel_rfl) h11 h15 z0))))) ?_
  refine DrawP_nil (fun γ => Zw 5 0 rfl (fun r16 h16 => Ze ?_))
  have e16 : r16 = some _ := h16
  subst e16
  clear h16
  refine Zi ?_
  refine Zl1 rfl (fun h16 => ?_) (fun h16 => ?_)
  ·
   refine Zb (Zd (Zc (Zl rfl (Zc (Zk rfl (Za (Zi (Zf1 ?_))))))))
   refine Za1 (Zd1 (Zd1 (Za1 (Zd1 (Zg1 rfl (.tmp rfl) ?_)))))
   rw [idxOf_at (fun x => decide (v = x)) hr hany (decide_eq_true h16)]
  ·
   refine Zi1 (Zb1 (Zi (Zd ?_)))
   refine Zc (Zh2 rfl rfl (by omega) ?_)
   refine Zc (Zl rfl (Za (Zi ?_)))
   exact ⟨k + 1, (by (try simp only []); omega), ⟨by omega, any_snoc hr hany (decide_eq_false h16)⟩, ⟨rfl, rfl, rfl, rfl, rfl, trivial⟩, (Drops.keep (Zt2 _))⟩
 ·
  have hke : k = l.length := by omega
  subst hke
  rw [List.take_length] at hany
  refine Zt (Ze1 (Ze1 (Zc1 (Zi (Zb (Zd (Zc (Zk rfl (Za (Zi (Zf1 ?_)))))))))))
  refine Zg1 rfl (.tmp rfl) ?_
  rw [idxOf_none (fun x => decide (v = x)) hany]
set_option maxRecDepth 100000 in
theorem edgeContains_c (l : List (Int × Int)) (tok : Option Tok) (v : (Int × Int)) : VPure Tryz.prog 41 [.sl 2 tok (l.map pairV), .agg [.int v.1, .int v.2]] (.bool (l.any fun x => decide (v = x))) := by
 refine V_start (nt := 9) Tryz.func41 rfl rfl rfl ?_
 refine Zb (Zd ?_)
 refine Zc (Zc2 rfl rfl (fun g3 => ?_))
 refine Zc (Zk rfl (Za (Zi (Zb (Zd (Zc (Zl rfl (Zc (Zv 0 VT.ty86 rfl rfl rfl ?_)))))))))
 refine Zc (Zx1 [.tmp 5, .tmp 6] rfl rfl VT.en60 (edgeIndex_c l tok v) ?_)
 refine Zc (Zj1 rfl rfl rfl (Zc (Zk rfl (Za (Zi (Zf1 ?_))))))
 refine Zg1 rfl (.tmp rfl) ?_
 rw [idxOf_ge]
set_option maxRecDepth 100000 in
set_option maxHeartbeats 4000000 in
theorem forward_c {f : SFunc} (h0 : funcF f = 0) {k : Nat} {b : SBlock} (hb : f.blocks[k]? = some b) (g1 g4 : Nat) {c : FuncId} {caps : List V} (hen : Go.VL.Enters Tryz.prog c) {ι : Type} (O : ι → Store) (I : List Int → ι → Prop) (s0 : ι) (hI : I (fwdL f k) s0) (hc : ∀ x l s, I (x :: l) s → VCalls Tryz.prog c (.int x :: caps) (O s) fun r S' => ∃ s', S' = O s' ∧ I l s') : VCalls Tryz.prog 40 [.int k, .clo (.func c) caps, .ptr g1 0, .ptr g4 0] (.cells g1 34 [.int f.name, blocksX f.blocks] :: .cells g4 80 [pairsX (backsF f)] :: O s0) fun r S' => ∃ s', S' = .cells g1 34 [.int f.name, blocksX f.blocks] :: .cells g4 80 [pairsX (backsF f)] :: O s' ∧ I [] s' := by
 refine VCalls_drops ?_
 have hkl := (Yi.1 hb).1
 rw [← fwdX_all hb] at hI
 refine V_start (nt := 32) Tryz.func40 rfl rfl rfl ?_
 refine Zb (Zd (Zc (Zj VT.fa34_1 rfl (Zc (Zu 0 VT.ty32 rfl rfl rfl (Zc (Zl rfl ?_)))))))
 refine Zc (Zz (el := blockV b) VT.sl32 rfl rfl (by omega) (get_mapS _ hb) (fun a11 => ?_))
 refine Zc (Zs2 VT.fa50_2 rfl (Zc (Zw1 VT.fa47_4 rfl rfl (Zc (Zz1 VT.ty45 rfl rfl ?_)))))
 refine Zc (Zd2 (n := b.term.to.length) Tryz.underlying45 rfl (by simp) (fun hl15 => ?_))
 refine Zc (Zl rfl (Za (Zi (Zs ?_))))
 refine Zi2 (ι := Nat × ι) (fun (j, s) => b.term.to.length - j) (fun (j, s) => [(0, some (.int k)), (1, some (.clo (.func c) caps)), (2, some (.ptr g1 0)), (3, some (.ptr g4 0)), (14, some (edgesX b.term.to)), (15, some (.int b.term.to.length)), (16, some (.int j))]) (fun (j, s) => .cells g1 34 [.int f.name, blocksX f.blocks] :: .cells g4 80 [pairsX (backsF f)] :: O s) (fun (j, s) => j ≤ b.term.to.length ∧ I (fwdX f k (b.term.to.drop j)) s) (0, s0) ⟨Yk _, hI⟩ ⟨rfl, rfl, rfl, rfl, rfl, rfl, rfl, trivial⟩ (Drops.keep (Drops.keep (Zt2 _))) ?_
 rintro ⟨j, s⟩ hA
 obtain ⟨hj, hq⟩ := hA
 try dsimp only at hj hq
 refine Zb (Zd (Zc (Zj1 rfl rfl rfl (Za (Zi (Zb ?_))))))
 refine Zn1 rfl (fun h17 => ?_) (fun h17 => ?_)
 ·
  obtain ⟨e, he⟩ := get_of_lt b.term.to j h17
  rw [drop_cons he] at hq
  refine Zi1 (Zi (Zb (Zs (Zb (Zd ?_)))))
  refine Zc (Zz (el := edgeV e) VT.sl45 rfl rfl (by omega) (get_mapS _ he) (fun a18 => ?_))
  refine Zc (Za2 VT.ty79 rfl rfl ?_)
  refine Zc (Zb2 VT.zr79 _ rfl rfl (fun g7 => ?_))
  refine Zc (Zx 0 VT.ty79 rfl rfl rfl rfl rfl (Za (Zi (Zb (Zd (Zc (Zu 2 VT.ty80 rfl rfl rfl (Zc (Zl rfl (Zc (Zj VT.fa79_0 rfl (Zc (Zu 0 VT.ty3 rfl rfl rfl ?_)))))))))))))
  refine Zc (Zf2 [0, 1] [.tmp 21, .tmp 23] VT.st86 rfl rfl rfl rfl ?_)
  refine Zc (Zx1 [.tmp 20, .tmp 24] rfl rfl VT.en41 (edgeContains_c (backsF f) none ((k : Int), e.block)) ?_)
  refine Zc (Zl2 rfl (Za (Zi ?_)))
  refine Zo1 rfl (fun h26 => ?_) (fun h26 => ?_)
  ·
   rw [fwdX_T h26] at hq
   refine Zd (Zc (Zl rfl (Zc (Zj VT.fa79_0 rfl (Zc (Zu 0 VT.ty3 rfl rfl rfl ?_))))))
   refine Zc (V_callCloG [.tmp 29] (O s) [_, _, _] rfl rfl rfl hen perm_g3 (hc e.block _ s hq) ?_)
   rintro r Sa ⟨s2, rfl, hq2⟩
   refine ⟨_, drop_g3, ?_⟩
   refine Za (Zb1 (Zi (Zd ?_)))
   refine Zc (Zh2 rfl rfl (by omega) ?_)
   refine Zc (Zl rfl (Za (Zi ?_)))
   exact ⟨(j + 1, s2), (by (try simp only []); omega), ⟨by omega, hq2⟩, ⟨rfl, rfl, rfl, rfl, rfl, rfl, rfl, trivial⟩, (Drops.drop (Drops.keep (Drops.keep (Zt2 _))))⟩
  ·
   rw [fwdX_F h26] at hq
   have hq2 := hq
   refine Zi1 (Zb1 (Zi (Zd ?_)))
   refine Zc (Zh2 rfl rfl (by omega) ?_)
   refine Zc (Zl rfl (Za (Zi ?_)))
   exact ⟨(j + 1, s), (by (try simp only []); omega), ⟨by omega, hq2⟩, ⟨rfl, rfl, rfl, rfl, rfl, rfl, rfl, trivial⟩, (Drops.drop (Drops.keep (Drops.keep (Zt2 _))))⟩
 ·
  have hje : j = b.term.to.length := by omega
  subst hje
  rw [List.drop_length] at hq
  refine Zt (Ze1 (Ze1 (Zc1 ?_)))
  refine Zn3 rfl ?_
  exact ⟨_, Zt2 _, s, rfl, hq⟩
set_option maxRecDepth 100000 in
theorem up_c (g8 gm : Nat) (M : List Int) (t : Nat) (c : Int) (ht : M[t]? = some c) (hc : -1000000 ≤ c ∧ c ≤ 1000000) : VCalls Tryz.prog 42 [.int t, .ptr g8 0] [.cells g8 41 [.raw (.slice (some ⟨gm, 0, none⟩) M.length M.length)], .cells gm 3 (M.map V.int)] fun r S' => S' = [.cells g8 41 [.raw (.slice (some ⟨gm, 0, none⟩) (M.set t (c + 1)).length (M.set t (c + 1)).length)], .cells gm 3 ((M.set t (c + 1)).map V.int)] := by
 refine VCalls_drops ?_
 have htl := (Yi.1 ht).1
 refine V_start (nt := 9) Tryz.func42 rfl rfl rfl ?_
 refine Zd (Zc (Zu 0 VT.ty41 rfl rfl rfl (Zc (Zl rfl ?_))))
 refine Zc (Zr2 VT.sl41 rfl rfl (by omega) (by omega) ?_)
 refine Zc (Zf3 1 t VT.ty3 rfl (by simp) rfl (Ya _).symm (get_int ht) ?_)
 refine Zc (Zh2 rfl rfl (by omega) ?_)
 refine Zc (Zr2 VT.sl41 rfl rfl (by omega) (by omega) ?_)
 refine Zc (Zh3 1 t VT.ty3 rfl (by simp) rfl rfl rfl (Ya _).symm (by rw [Ye]; exact htl) ?_)
 refine Za ?_
 refine Zn3 rfl ?_
 refine ⟨_, Zt2 _, ?_⟩
 rw [Yg, List.map_set, Ya]
 rfl
set_option maxRecDepth 100000 in
set_option maxHeartbeats 2000000 in
theorem down_c (g8 gm g12 : Nat) (M : List Int) (t c : Nat) (ht : M[t]? = some ((c + 1 : Nat) : Int)) (hc : c ≤ 1000000) (ws : List Nat) (gw cap : Nat) (rest : List V) (hl : ws.length + rest.length = cap) (hw : ws.length ≤ 1000000) (hm : cap ≤ maxLen) : VCalls Tryz.prog 43 [.int t, .ptr g8 0, .ptr g12 0] [CMo g8 gm M, RMo gm M, CWo g12 gw ws cap, RWo gw ws rest] fun r S' => ∃ gw' cap' rest', S' = [CMo g8 gm (M.set t (c : Int)), RMo gm (M.set t (c : Int)), CWo g12 gw' (if c = 0 then ws ++ [t] else ws) cap', RWo gw' (if c = 0 then ws ++ [t] else ws) rest'] ∧ (if c = 0 then ws ++ [t] else ws).length + rest'.length = cap' ∧ cap' ≤ maxLen := by
 refine VCalls_drops ?_
 have htl := (Yi.1 ht).1
 have hcc : ((c + 1 : Nat) : Int) - 1 = (c : Int) := by omega
 have hnl := natsX_len ws
 have hg : (M.set t (c : Int))[t]? = some (c : Int) := by rw [List.getElem?_set_self htl]
 refine V_start (nt := 19) Tryz.func43 rfl rfl rfl ?_
 refine Zb (Zd (Zc (Zu 0 VT.ty41 rfl rfl rfl (Zc (Zl rfl ?_)))))
 refine Zc (Zr2 VT.sl41 rfl rfl (by omega) (by omega) ?_)
 refine Zc (Zf3 1 t VT.ty3 rfl (by simp) rfl (Ya _).symm (get_int ht) ?_)
 refine Zc (Zu2 (Zk2 rfl rfl (by omega) ⟨rfl, rfl⟩) ((V.le.of_eq (congrArg V.int hcc))) ?_)
 refine Zc (Zr2 VT.sl41 rfl rfl (by omega) (by omega) ?_)
 refine Zc (Zh3 1 t VT.ty3 rfl (by simp) rfl rfl rfl (Ya _).symm (by rw [Ye]; exact htl) ?_)
 refine Za (Zi (Zb (Zd (Zc (Zu 0 VT.ty41 rfl rfl rfl (Zc (Zl rfl ?_)))))))
 refine Zc (Zr2 VT.sl41 rfl rfl (by omega) (by omega) ?_)
 refine Zc (Zf3 1 t VT.ty3 rfl (by simp) rfl (by rw [Ya, ← List.map_set]; exact (Ya _).symm) (get_int hg) ?_)
 refine Zc (Zj1 rfl rfl rfl (Za (Zi ?_)))
 refine Zl1 rfl (fun h14 => ?_) (fun h14 => ?_)
 ·
  have hz : c = 0 := by omega
  refine Zd (Zc (Zu 2 VT.ty41 rfl rfl rfl (Zc (Zl rfl ?_))))
  refine Zc (Zk3 [.tmp 16] VT.sl41 rfl rfl rfl rfl rfl ?_)
  refine Zc (V_appendRaw 3 VT.sl41 (by decide) rfl rfl rfl (by rw [Yb, hnl]; omega) (by omega) hm (by simp; omega) (by intro y hy; rw [List.mem_singleton.1 hy]; rfl) (fun g18 cap18 rest18 hc18 hm18 hl18 => ?_))
  refine Zc (Zy 2 VT.ty41 rfl rfl rfl rfl rfl (Za ?_))
  refine Zn3 rfl ?_
  first | exact ⟨_, Zt2 _, gw, cap, rest, down_3 hz, down_4 hz hl, hm⟩ | exact ⟨_, Zt2 _, g18, cap18, rest18, down_1 hz, down_2 hz hl18, hm18⟩
 ·
  have hz : ¬ c = 0 := by omega
  refine Zi1 ?_
  refine Zn3 rfl ?_
  first | exact ⟨_, Zt2 _, gw, cap, rest, down_3 hz, down_4 hz hl, hm⟩ | exact ⟨_, Zt2 _, g18, cap18, rest18, down_1 hz, down_2 hz hl18, hm18⟩
theorem downs_c {f : SFunc} (hf : FuncOk f) (D : List Nat) (g8 gm g12 : Nat) (x : Int) (l : List Int) (s : RSt) (h : RInv f D (x :: l) s) : VCalls Tryz.prog 43 [.int x, .ptr g8 0, .ptr g12 0] (rOut g8 gm g12 s) fun r S' => ∃ s', S' = rOut g8 gm g12 s' ∧ RInv f D l s' := by
  obtain ⟨t, c, rfl, ht, hc, hcl, hk⟩ := kinv_sub hf h.inv
  have h1 := fwdT_le hf (rest_le hf (D := D))
  have h2 := h.pl
  have h3 := kdone_len hf h.inv
  have h4 := hf.len
  rw [List.length_cons] at h2
  refine (down_c g8 gm g12 s.M t c hc (by omega) s.ws s.g s.cap s.rest h.len (by omega) h.max).mono ?_
  rintro r Sa ⟨g', cap', rest', rfl, a1, a2⟩
  refine ⟨⟨if c = 0 then s.ws ++ [t] else s.ws, s.M.set t (c : Int), g', cap', rest'⟩, rfl, ?_, a1, a2, by omega⟩
  show KInv f D (if c = 0 then s.ws ++ [t] else s.ws) (s.M.set t (c : Int)) l
  split
  · rename_i hz
    rw [if_pos hz] at hk
    exact hk
  · rename_i hz
    rw [if_neg hz] at hk
    exact hk
theorem ups_c {f : SFunc} (hf : FuncOk f) (p : List Int) (hp : p.length ≤ 33000) (k : Nat) (g8 gm : Nat) (x : Int) (l M : List Int) (h : ∃ d, d ++ (x :: l) = fwdL f k ∧ CInv f (p ++ d) M) : VCalls Tryz.prog 42 [.int x, .ptr g8 0] [CMo g8 gm M, RMo gm M] fun r S' => ∃ M', S' = [CMo g8 gm M', RMo gm M'] ∧ ∃ d, d ++ l = fwdL f k ∧ CInv f (p ++ d) M' := by
  obtain ⟨d, hd, hI⟩ := h
  obtain ⟨t, rfl, ht⟩ := fwd_nat hf (k := k) (by rw [← hd]; exact Yj _ (List.mem_cons_self ..))
  have hl : (p ++ d).length ≤ 40000 := by
    have h1 := fwdL_le hf (k := k)
    rw [← hd, Yb] at h1
    rw [Yb]
    omega
  obtain ⟨c, hc, hb, hI2⟩ := cinv_step hf hI ht hl
  refine (up_c g8 gm M t c hc hb).mono ?_
  rintro r Sa rfl
  exact ⟨_, rfl, d ++ [(t : Int)], by rw [Yd]; exact hd, by rw [← Yd]; exact hI2⟩
set_option maxRecDepth 100000 in
set_option maxHeartbeats 8000000 in
theorem Reducible_c (f : SFunc) : VPure Tryz.prog 15 [funcV f] (redX f) := by
 have hB := backs_c f
 rw [backsX] at hB
 have hr := redX.eq_def f
 refine V_start (nt := 69) Tryz.func15 rfl rfl rfl ?_
 refine Zb (Zd ?_)
 refine Zc (Zc2 rfl rfl (fun g1 => ?_))
 refine Zc (Zk rfl (Zc (Zk rfl (Za (Zi (Zb (Zd (Zc (Zv 0 VT.ty34 rfl rfl rfl ?_)))))))))
 by_cases h0 : funcF f = 0
 ·
  rw [if_pos h0] at hB hr
  have hok := func_ok h0
  have h128 := hok.len
  have ho := order_ok hok.pos hok.edges
  have hre := reach_eq ho
  have hrn := reachN_len hok
  have hrl : (reachL f).length = (reachN f).length := by rw [hre, Ye]
  refine Zc (Zx1 [.tmp 16] rfl rfl VT.en29 (hB) ?_)
  refine Zc (Zl rfl (Zc (Zg2 rfl rfl (Zc (Zg2 rfl rfl ?_)))))
  refine Zc (Zb2 VT.zr80 _ rfl rfl (fun g4 => ?_))
  refine Zc (Zy 0 VT.ty80 rfl rfl rfl rfl rfl (Zc (Zk rfl (Za (Zi (Zb (Zb (Zd (Zc (Zl rfl (Zc (Zj1 rfl rfl rfl (Za (Zi ?_))))))))))))))
  refine Zm1 rfl (fun h21 => ?_) (fun h21 => ?_)
  · exact absurd rfl h21
  ·
   refine Zi1 (Zi (Zb (Zd (Zc (Zv 1 VT.ty34 rfl rfl rfl ?_)))))
   refine Zc (Zx1 [.tmp 24] rfl rfl VT.en30 (Reachable_c h0) ?_)
   refine Zc (Zl rfl (Zc (Zg2 rfl rfl (Zc (Zg2 rfl rfl (Zc (Zk rfl (Zc (Zk rfl (Za (Zi (Zb (Zd (Zc (Zj VT.fa34_1 rfl (Zc (Zu 1 VT.ty32 rfl rfl rfl ?_)))))))))))))))))
   refine Zc (Zd2 (n := f.blocks.length) Tryz.underlying32 rfl (by simp) (fun hl30 => ?_))
   refine Zc (V_makeRow (.int 0) (fun m => rfl) rfl VT.sl41 rfl rfl (by omega) (by omega) (fun g31 => ?_))
   refine Zc (Zb2 VT.zr41 _ rfl rfl (fun g8 => ?_))
   refine Zc (Zy 0 VT.ty41 rfl rfl rfl rfl rfl (Za (Zi (Zb (Zd ?_)))))
   refine Zc (V_makeFunc [.tmp 1, .tmp 4] rfl rfl ?_)
   refine Zc (Zk rfl (Za (Zi (Zb (Zb (Zd (Zc (Zl rfl ?_))))))))
   refine Zc (Zd2 (n := (reachL f).length) Tryz.underlying41 rfl (by simp) (fun hl34 => ?_))
   refine Zc (Zl rfl (Za (Zi ?_)))
   refine VW_perm (S' := [CMo g8 g31 (Yf f.blocks.length 0), RMo g31 (Yf f.blocks.length 0), .cells g4 80 [pairsX (backsF f)], .cells g1 34 [.int f.name, blocksX f.blocks]]) (.of_eq (by rw [CMo, RMo, List.length_replicate, ← flat_ints2 (Yf f.blocks.length 0), List.map_replicate]; rfl)) ?_
   refine Zs ?_
   refine Zi2 (ι := Nat × List Int) (fun (i, M) => (reachL f).length - i) (fun (i, M) => [(1, some (.ptr g1 0)), (6, some (intsX (reachL f))), (8, some (.ptr g8 0)), (9, some (.clo (.func 40) [.ptr g1 0, .ptr g4 0])), (33, some (intsX (reachL f))), (34, some (.int (reachL f).length)), (35, some (.int i))]) (fun (i, M) => [CMo g8 g31 M, RMo g31 M, .cells g4 80 [pairsX (backsF f)], .cells g1 34 [.int f.name, blocksX f.blocks]]) (fun (i, M) => i ≤ (reachL f).length ∧ CInv f (fwdT f ((reachN f).take i)) M) (0, Yf f.blocks.length 0) ⟨Yk _, cinv_start hok⟩ ⟨rfl, rfl, rfl, rfl, rfl, rfl, rfl, trivial⟩ (Drops.keep (Drops.keep (Drops.keep (Drops.keep (Zt2 _))))) ?_
   rintro ⟨i, M⟩ hA
   change i ≤ (reachL f).length ∧ CInv f (fwdT f ((reachN f).take i)) M at hA
   obtain ⟨hi, hI⟩ := hA
   refine Zb (Zd (Zc (Zj1 rfl rfl rfl (Za (Zi (Zb ?_))))))
   refine Zn1 rfl (fun h36 => ?_) (fun h36 => ?_)
   ·
    obtain ⟨k, hk⟩ := get_of_lt (reachN f) i (by omega)
    have hki : (reachL f)[i]? = some (k : Int) := by rw [hre, List.getElem?_map, hk]; rfl
    have hko := (reachN_mem ho).1 (List.mem_of_getElem? hk)
    obtain ⟨b, hb⟩ := get_of_lt f.blocks k (by have := ho.lt k hko; omega)
    have hpl : (fwdT f ((reachN f).take i)).length ≤ 33000 := Nat.le_trans (fwdT_le hok (Nat.le_trans (List.length_take_le ..) (by omega))) (by omega)
    refine Zi1 (Zi (Zb (Zs (Zb (Zd ?_)))))
    refine Zc (Zz (el := V.int (k : Int)) VT.sl41 rfl rfl (by omega) (get_int hki) (fun a37 => ?_))
    refine Zc (Zz1 VT.ty3 rfl rfl (Zc (Zk rfl (Za (Zi (Zd (Zc (Zl rfl (Zc (Zl rfl ?_))))))))))
    refine Zc (V_makeFunc [.tmp 8] rfl rfl ?_)
    refine Zc (V_callCloG [.tmp 40, .tmp 41] [.cells g1 34 [.int f.name, blocksX f.blocks], .cells g4 80 [pairsX (backsF f)], CMo g8 g31 M, RMo g31 M] [] rfl rfl rfl VT.en40 perm_r4 (forward_c h0 hb g1 g4 VT.en42 (fun M => [CMo g8 g31 M, RMo g31 M]) (fun l M => ∃ d, d ++ l = fwdL f k ∧ CInv f (fwdT f ((reachN f).take i) ++ d) M) M ⟨[], rfl, by rw [Ya]; exact hI⟩ (fun x l M h => ups_c hok _ hpl k g8 g31 x l M h)) ?_)
    rintro r Sa ⟨M2, rfl, d, hd, hI2⟩
    refine ⟨_, drop_r4, ?_⟩
    rw [Ya] at hd
    subst hd
    rw [← fwdT_snoc, ← take_snoc hk] at hI2
    refine Za (Zb1 (Zi (Zd ?_)))
    refine Zc (Zh2 rfl rfl (by omega) ?_)
    refine Zc (Zl rfl (Za (Zi ?_)))
    exact ⟨(i + 1, M2), (by (try simp only []); omega), ⟨by omega, hI2⟩, ⟨rfl, rfl, rfl, rfl, rfl, rfl, rfl, trivial⟩, (Drops.keep (Drops.keep (Drops.keep (Drops.keep (Zt2 _)))))⟩
   ·
    have hie : i = (reachN f).length := by omega
    subst hie
    rw [List.take_length] at hI
    refine Zt (Ze1 (Ze1 (Zc1 (Zi (Zb (Zd ?_))))))
    refine Zc (V_litRow [.const (.int .i64 (0))] VT.sl41 rfl rfl rfl rfl rfl (fun g44 => ?_))
    refine Zc (Zb2 VT.zr41 _ rfl rfl (fun g12 => ?_))
    refine Zc (Zy 0 VT.ty41 rfl rfl rfl rfl rfl (Za (Zi (Zb (Zd (Zc (Zk rfl (Za (Zi ?_)))))))))
    refine VW_perm (S' := CWo g12 g44 [0] 1 :: RWo g44 [0] [] :: _) (.refl _) ?_
    refine Zb (Zs ?_)
    refine Zi2 (ι := List Nat × RSt) (fun (D, s) => f.blocks.length - D.length) (fun (D, s) => [(1, some (.ptr g1 0)), (6, some (intsX (reachL f))), (8, some (.ptr g8 0)), (9, some (.clo (.func 40) [.ptr g1 0, .ptr g4 0])), (12, some (.ptr g12 0)), (13, some (.int D.length))]) (fun (D, s) => [CWo g12 s.g s.ws s.cap, RWo s.g s.ws s.rest, CMo g8 g31 s.M, RMo g31 s.M, .cells g4 80 [pairsX (backsF f)], .cells g1 34 [.int f.name, blocksX f.blocks]]) (fun (D, s) => RInv f D [] s) ([], ⟨[0], M, g44, 1, []⟩) ⟨kinv_start hok hI.len hI.cnt, rfl, (by simp only [maxLen]; omega), Yk _⟩ ⟨rfl, rfl, rfl, rfl, rfl, rfl, trivial⟩ (Drops.keep (Drops.keep (Drops.keep (Drops.keep (Drops.keep (Drops.keep (Zt2 _))))))) ?_
    rintro ⟨D, s⟩ hA
    change RInv f D [] s at hA
    have hdl := kdone_len hok hA.inv
    have hsl := hA.len
    have hsm := hA.max
    refine Zb (Zb (Zd (Zc (Zu 0 VT.ty41 rfl rfl rfl ?_))))
    refine Zc (V_len_raw Tryz.underlying41 rfl ?_)
    refine Zc (Zj1 rfl rfl rfl (Za (Zi ?_)))
    refine Zn1 rfl (fun h47 => ?_) (fun h47 => ?_)
    ·
     have hne : s.ws ≠ [] := fun e => by rw [e] at h47; simp at h47
     obtain ⟨w, k, hwk⟩ : ∃ w k, s.ws = w ++ [k] := ⟨s.ws.dropLast, s.ws.getLast hne, (List.dropLast_concat_getLast hne).symm⟩
     have hlw : s.ws.length = w.length + 1 := by rw [hwk]; simp
     have hgx : (natsX s.ws)[w.length]? = some (V.int (k : Int)) := by rw [hwk, natsX_app, List.getElem?_append_right (by rw [natsX_len]; exact Nat.le_refl _), natsX_len, Nat.sub_self]; rfl
     have hinv := hA.inv
     rw [hwk] at hinv
     have hkm := hinv.mem k (Yj _ (Yj _ (List.mem_singleton.2 rfl)))
     obtain ⟨b, hb⟩ := get_of_lt f.blocks k (by have := ho.lt k hkm; omega)
     have hpop := kinv_pop hok hinv
     refine Zi1 (Zi (Zs (Zb (Zd (Zc (Zu 0 VT.ty41 rfl rfl rfl (Zc (Zu 0 VT.ty41 rfl rfl rfl ?_))))))))
     refine Zc (V_len_raw Tryz.underlying41 rfl ?_)
     refine Zc (Zk2 rfl rfl (by omega) ?_)
     refine Zc (Zr2 VT.sl41 rfl rfl (by omega) (by omega) ?_)
     refine Zc (Zf3 1 w.length VT.ty3 rfl (by simp; omega) rfl rfl hgx ?_)
     refine Zc (Zk rfl (Za (Zi (Zb (Zd (Zc (Zu 0 VT.ty41 rfl rfl rfl (Zc (Zu 0 VT.ty41 rfl rfl rfl ?_)))))))))
     refine Zc (V_len_raw Tryz.underlying41 rfl ?_)
     refine Zc (Zk2 rfl rfl (by omega) ?_)
     refine Zc (V_slice_rawTo VT.sl41 rfl rfl (by omega) (by omega) ?_)
     refine Zc (Zy 0 VT.ty41 rfl rfl rfl rfl rfl (Za (Zi (Zb (Zd (Zc (Zl rfl ?_)))))))
     refine Zc (Zh2 rfl rfl (by omega) ?_)
     refine Zc (Zk rfl (Za (Zi ?_)))
     refine VW_perm (S' := CWo g12 s.g w s.cap :: RWo s.g w (.int (k : Int) :: s.rest) :: _) (.of_eq (pop_eq hwk)) ?_
     refine Zd (Zc (Zl rfl (Zc (Zl rfl ?_))))
     refine Zc (V_makeFunc [.tmp 8, .tmp 12] rfl rfl ?_)
     refine Zc (V_callCloG [.tmp 62, .tmp 63] [.cells g1 34 [.int f.name, blocksX f.blocks], .cells g4 80 [pairsX (backsF f)], CMo g8 g31 s.M, RMo g31 s.M, CWo g12 s.g w s.cap, RWo s.g w (.int (k : Int) :: s.rest)] [] rfl rfl rfl VT.en40 perm_r6 (forward_c h0 hb g1 g4 VT.en43 (rOut g8 g31 g12) (RInv f (D ++ [k])) ⟨w, s.M, s.g, s.cap, .int (k : Int) :: s.rest⟩ ⟨hpop, (by show w.length + (s.rest.length + 1) = s.cap; omega), hsm, fwdL_le hok⟩ (fun x l s h => downs_c hok (D ++ [k]) g8 g31 g12 x l s h)) ?_)
     rintro r Sa ⟨s2, rfl, hA2⟩
     refine ⟨_, drop_r6, ?_⟩
     refine Za (Zb1 (Zi ?_))
     exact ⟨(D ++ [k], s2), (by show f.blocks.length - (D ++ [k]).length < f.blocks.length - D.length; rw [Yb, Yh]; omega), hA2, ⟨rfl, rfl, rfl, rfl, rfl, (congrArg (fun n : Int => some (V.int n)) (show (D.length : Int) + 1 = ((D ++ [k]).length : Int) by rw [Yb, Yh]; omega)), trivial⟩, (Drops.keep (Drops.keep (Drops.keep (Drops.keep (Drops.keep (Drops.keep (Zt2 _)))))))⟩
    ·
     have hws : s.ws = [] := List.length_eq_zero_iff.1 (by omega)
     have hinv := hA.inv
     rw [hws] at hinv
     have hfin := redF_eq (kinv_end hok hinv)
     refine Zt (Ze1 (Ze1 (Zc1 (Zi (Zb (Zd (Zc (Zl rfl (Zc (Zl rfl ?_))))))))))
     refine Zc (Ze2 Tryz.underlying41 rfl (fun hl67 => ?_))
     refine Zc (Zj1 rfl rfl rfl (Zc (Zk rfl (Zc (Zk rfl (Za (Zi (Zf1 ?_))))))))
     refine Zh1 rfl rfl (.cons (.tmp rfl) (.cons (.tmp rfl) (.nil))) ?_
     rw [hr]
     rw [← hfin, Ye, hrl]
     rfl
 ·
  rw [if_neg h0] at hB hr
  refine Zc (Zx1 [.tmp 16] rfl rfl VT.en29 (hB) ?_)
  refine Zc (Zl rfl (Zc (Zg2 rfl rfl (Zc (Zg2 rfl rfl ?_)))))
  refine Zc (Zb2 VT.zr80 _ rfl rfl (fun g4 => ?_))
  refine Zc (Zy 0 VT.ty80 rfl rfl rfl rfl rfl (Zc (Zk rfl (Za (Zi (Zb (Zb (Zd (Zc (Zl rfl (Zc (Zj1 rfl rfl rfl (Za (Zi ?_))))))))))))))
  refine Zm1 rfl (fun h21 => ?_) (fun h21 => ?_)
  ·
   refine Zb (Zd (Zc (Zl rfl (Zc (Zk rfl (Zc (Zk rfl (Za (Zi (Zf1 ?_))))))))))
   refine Zd1 (Zh1 rfl rfl (.cons (.tmp rfl) (.cons (.tmp rfl) (.nil))) ?_)
   rw [hr]
  · exact absurd h21 h0
end Go.Proofs.YtjekhhgjfelpgaaGreat.X76
