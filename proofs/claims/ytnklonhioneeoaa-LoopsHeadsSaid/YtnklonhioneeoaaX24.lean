import Derived.Test.YtnklonhioneeoaaVT
import Derived.Test.YtnklonhioneeoaaS2
import Derived.Test.YtnklonhioneeoaaVK
import Derived.Test.YtnklonhioneeoaaPL
import Derived.Test.YtnklonhioneeoaaXS
import Derived.Test.YtnklonhioneeoaaX1
import Derived.Test.YtnklonhioneeoaaX2
import Derived.Test.YtnklonhioneeoaaX3
import Derived.Test.YtnklonhioneeoaaX4
import Derived.Test.YtnklonhioneeoaaX5
import Derived.Test.YtnklonhioneeoaaX6
import Derived.Test.YtnklonhioneeoaaX7
import Derived.Test.YtnklonhioneeoaaX8
import Derived.Test.YtnklonhioneeoaaX9
import Derived.Test.YtnklonhioneeoaaX10
import Derived.Test.YtnklonhioneeoaaX12
import Derived.Test.YtnklonhioneeoaaX13
import Derived.Test.YtnklonhioneeoaaX14
import Derived.Test.YtnklonhioneeoaaX20
import Derived.Test.YtnklonhioneeoaaX22
import Derived.Test.YtnklonhioneeoaaX23
set_option linter.unusedVariables false
set_option linter.unusedSimpArgs false
namespace Go.Proofs.Ytnklonhioneeoaa.X24
open Go.VL Go.SM Go.Proofs.Ytnklonhioneeoaa Go.Proofs.Ytnklonhioneeoaa.XS Go.Proofs.Ytnklonhioneeoaa.X1 Go.Proofs.Ytnklonhioneeoaa.X2 Go.Proofs.Ytnklonhioneeoaa.X3 Go.Proofs.Ytnklonhioneeoaa.X4 Go.Proofs.Ytnklonhioneeoaa.X5 Go.Proofs.Ytnklonhioneeoaa.X6 Go.Proofs.Ytnklonhioneeoaa.X7 Go.Proofs.Ytnklonhioneeoaa.X8 Go.Proofs.Ytnklonhioneeoaa.X9 Go.Proofs.Ytnklonhioneeoaa.X10 Go.Proofs.Ytnklonhioneeoaa.X12 Go.Proofs.Ytnklonhioneeoaa.X13 Go.Proofs.Ytnklonhioneeoaa.X14 Go.Proofs.Ytnklonhioneeoaa.X20 Go.Proofs.Ytnklonhioneeoaa.X22 Go.Proofs.Ytnklonhioneeoaa.X23
theorem Find_c0 {f : SFunc} (h0 : funcF f = 0) : VCalls Try.prog 7 [funcV f] [] fun r S' => S' = [] ∧ ∃ L3, LInv (findF f) L3 ∧ r = .tup [.sl 3 none (L3.map lpV), .int 0] := (Find_c f).mono fun r S' ⟨h1, h2⟩ => ⟨h1, h2.elim (fun h => h.2) fun h => absurd h0 h.1⟩
theorem FindE_c {f : SFunc} (h0 : funcF f ≠ 0) : VPure Try.prog 7 [funcV f] (.tup [.sl 3 none [], .int (funcF f)]) := (Find_c f).mono fun r S' ⟨h1, h2⟩ => h2.elim (fun h => absurd h.1 h0) fun h => h.2
theorem linv_get {L0 : List (Int × List Int)} {L3 : List (Int × List Int × Int)} (h : LInv L0 L3) {i : Nat} {x : Int × List Int × Int} (hx : L3[i]? = some x) : L0[i]? = some (x.1, x.2.1) := by
  rw [← h.1, List.getElem?_map, hx]
  rfl
theorem dep_cells {d l : List Int} {j n : Nat} {y : Int} (hl : l[j]? = some (n : Int)) (hy : (addD d (l.take j))[n]? = some y) : ((addD d (l.take j)).map V.int).set n (.int (y + 1)) ++ [] = (addD d (l.take (j + 1))).map V.int := by
  rw [List.append_nil, addD_take hl, Int.toNat_natCast, hy, List.map_set]
  rfl
theorem take_get {L : List (Int × List Int × Int)} {i j : Nat} {y : Int × List Int × Int} (h : (L.take i)[j]? = some y) : L[j]? = some y := by
  rw [List.getElem?_take] at h
  split at h
  · exact h
  · cases h
def predE' (n : Nat) (b : Int) (to : List SEdge) : List Int := (to.filter fun e => e.block == b).map fun _ => (n : Int)
def predsR (b : Int) : Nat → List SBlock → List Int
  | _, [] => []
  | n, x :: l => predE' n b x.term.to ++ predsR b (n + 1) l
theorem predsR_mem {b : Nat} {bs : List SBlock} (hE : ∀ x ∈ bs, ∀ e ∈ x.term.to, 1 ≤ e.block) : ∀ (l : List SBlock) (n : Nat), bs.drop n = l → ∀ y : Int, y ∈ predsR b n l ↔ ∃ p : Nat, y = p ∧ n ≤ p ∧ Go.SM.Edge bs p b
  | [], n, hd, y => by
    rw [predsR]
    constructor
    · intro h; cases h
    · rintro ⟨p, _, hp, x, hx, _⟩
      have h2 := List.drop_eq_nil_iff.1 hd
      unfold toAt at hx
      rw [List.getElem?_eq_none (by omega)] at hx
      cases hx
  | x :: l, n, hd, y => by
    have hx : bs[n]? = some x := by
      have h9 : (bs.drop n)[0]? = some x := by rw [hd]; rfl
      rwa [List.getElem?_drop, Nat.add_zero] at h9
    have hd2 : bs.drop (n + 1) = l := by
      have h9 : (bs.drop n).drop 1 = l := by rw [hd]; rfl
      rwa [List.drop_drop] at h9
    rw [predsR, List.mem_append, predsR_mem hE l (n + 1) hd2, predE', List.mem_map]
    constructor
    · rintro (⟨e, he, rfl⟩ | ⟨p, rfl, hp, hed⟩)
      · obtain ⟨he1, he2⟩ := List.mem_filter.1 he
        exact ⟨n, rfl, Nat.le_refl _, e, by rw [toAt_get hx]; exact he1, by rw [eq_of_beq he2]; rfl⟩
      · exact ⟨p, rfl, by omega, hed⟩
    · rintro ⟨p, rfl, hp, hed⟩
      by_cases hpn : p = n
      · subst hpn
        obtain ⟨e, he, hb⟩ := hed
        rw [toAt_get hx] at he
        have := hE x (List.mem_of_getElem? hx) e he
        exact .inl ⟨e, List.mem_filter.2 ⟨he, by rw [beq_iff_eq]; omega⟩, rfl⟩
      · exact .inr ⟨p, rfl, by omega, hed⟩
theorem any_int {q : Int → Bool} {l : List Int} {m : Nat} {r : Int} (h : l[m]? = some r) : (l.take (m + 1)).any q = ((l.take m).any q || q r) := by rw [take_snoc h, List.any_append]; simp
theorem predE_cons (n : Nat) (b : Int) (e : SEdge) (l : List SEdge) : predE' n b (e :: l) = (if e.block = b then [(n : Int)] else []) ++ predE' n b l := by
  unfold predE'
  rw [List.filter_cons]
  by_cases h : e.block = b
  · rw [if_pos h, if_pos (by rw [h]; simp)]
    rfl
  · rw [if_neg h, if_neg (by simpa using h)]
    rfl
open Go.VL renaming VOps_nil → Za, VW_seq → Zb, VW_region → Zd, Then_n → Zi, V_fieldAddr → Zj, V_assign → Zk, V_move → Zl, VW_block → Zs, VW_exit → Zt, V_load → Zu, V_load_agg → Zv, V_store_agg → Zx, V_indexAddr → Zz, InBlock_n → Zb1, InBlock_hit → Zc1, Then_r → Zd1, Then_e → Ze1, VW_ret → Zf1, VRet_one → Zg1, VRet_many → Zh1, VW_skip → Zi1, V_bin → Zj1, VW_condEq → Zl1, VW_condNe → Zm1, VW_condP → Zn1, VW_condN → Zo1, VW_condT → Zp1, VW_condF → Zq1, VW_cond → Zr1, V_pickT → Zs1, V_pickF → Zt1, V_callP → Zx1, V_load_ep → Zz1, V_load_ep_agg → Za2, V_alloc → Zb2, V_box → Zc2, V_lenN → Zd2, V_extract → Zg2, V_add → Zh2, VW_loopF → Zi2, VOps_split → Zj2, V_sub → Zk2, V_not → Zl2, V_indexAddr_row → Zr2, Drops.refl → Zt2, VOp_as → Zu2, V_load_elem1 → Zf3, V_store_elem1 → Zh3, V_appendN → Zi3, V_lit → Zk3, V_call → Zm3
set_option maxRecDepth 100000 in
set_option maxHeartbeats 4000000 in
theorem rPreds_c {f : SFunc} (h : funcF f = 0) (b : Int) : VPure Try.prog 11 [funcV f, .int b] (intsX (predsR b 0 f.blocks)) := by
 have hok := func_ok h
 have hes := edges_small hok
 refine V_start (nt := 37) Try.func11 rfl rfl rfl ?_
 refine Zb (Zd ?_)
 refine Zc (Zc2 rfl rfl (fun g2 => ?_))
 refine Zc (Zk rfl (Za (Zi (Zb (Zd (Zc (V_assign_nil 3 1 (Za (Zi (Zb (Zb (Zd (Zc (Zj VT.fa24_1 rfl (Zc (Zu 1 VT.ty22 rfl rfl rfl ?_))))))))))))))))
 refine Zc (Zd2 (n := f.blocks.length) Try.underlying22 rfl (by simp) (fun hl12 => ?_))
 refine Zc (Zl rfl (Za (Zi (Zs ?_))))
 refine Zi2 (ι := Nat × Tok × List Int) (fun (k, tok, out) => f.blocks.length - k) (fun (k, tok, out) => [(1, some (.int b)), (2, some (.ptr g2 0)), (5, some (.sl 1 (some tok) (out.map V.int))), (11, some (blocksX f.blocks)), (12, some (.int f.blocks.length)), (13, some (.int k))]) (fun (k, tok, out) => [.buf tok 3 1 out.length, .cells g2 24 [.int f.name, blocksX f.blocks]]) (fun (k, tok, out) => k ≤ f.blocks.length ∧ out ++ predsR b k (f.blocks.drop k) = predsR b 0 f.blocks ∧ out.length + edgesN (f.blocks.drop k) ≤ 32896) (0, .nil, []) ⟨Nat.zero_le _, rfl, by rw [List.drop_zero, List.length_nil]; omega⟩ ⟨rfl, rfl, rfl, rfl, rfl, rfl, trivial⟩ (Drops.buf (by simp) (Drops.keep (Zt2 _))) ?_
 rintro ⟨k, tok, out⟩ hA
 change k ≤ f.blocks.length ∧ out ++ predsR b k (f.blocks.drop k) = predsR b 0 f.blocks ∧ out.length + edgesN (f.blocks.drop k) ≤ 32896 at hA
 obtain ⟨hk, hq, hol⟩ := hA
 refine Zb (Zd (Zc (Zj1 rfl rfl rfl (Za (Zi (Zb ?_))))))
 refine Zn1 rfl (fun h14 => ?_) (fun h14 => ?_)
 ·
  obtain ⟨x, hx⟩ := get_of_lt f.blocks k h14
  rw [drop_cons hx, predsR, ← List.append_assoc] at hq
  rw [drop_cons hx, edgesN] at hol
  refine Zi1 (Zi (Zb (Zs (Zb (Zd (Zc (Zl rfl ?_)))))))
  refine Zc (Zz (el := blockV x) VT.sl22 rfl rfl (by omega) (get_mapS _ hx) (fun a16 => ?_))
  refine Zc (Za2 VT.ty72 rfl rfl ?_)
  refine Zc (Zb2 VT.zr72 _ rfl rfl (fun g7 => ?_))
  refine Zc (Zk rfl (Zc (Zx 0 VT.ty72 rfl rfl rfl rfl rfl (Za (Zi (Zb (Zd (Zc (Zj VT.fa72_2 rfl (Zc (Zj VT.fa70_4 rfl (Zc (Zu 0 VT.ty68 rfl rfl rfl ?_)))))))))))))
  refine Zc (Zd2 (n := x.term.to.length) Try.underlying68 rfl (by simp) (fun hl21 => ?_))
  refine Zc (Zl rfl (Za (Zi (Zs ?_))))
  refine Zi2 (ι := Nat × Tok × List Int) (fun (j, tok2, out2) => x.term.to.length - j) (fun (j, tok2, out2) => [(1, some (.int b)), (2, some (.ptr g2 0)), (5, some (.sl 1 (some tok2) (out2.map V.int))), (6, some (.int k)), (11, some (blocksX f.blocks)), (12, some (.int f.blocks.length)), (13, some (.int k)), (20, some (edgesX x.term.to)), (21, some (.int x.term.to.length)), (22, some (.int j))]) (fun (j, tok2, out2) => [.buf tok2 3 1 out2.length, .cells g2 24 [.int f.name, blocksX f.blocks]]) (fun (j, tok2, out2) => j ≤ x.term.to.length ∧ out2 ++ predE' k b (x.term.to.drop j) = out ++ predE' k b x.term.to ∧ out2.length + (x.term.to.length - j) + edgesN (f.blocks.drop (k + 1)) ≤ 32896) (0, tok, out) ⟨Nat.zero_le _, rfl, by omega⟩ ⟨rfl, rfl, rfl, rfl, rfl, rfl, rfl, rfl, rfl, rfl, trivial⟩ (Drops.drop (Drops.buf (by simp) (Drops.keep (Zt2 _)))) ?_
  rintro ⟨j, tok2, out2⟩ hB
  change j ≤ x.term.to.length ∧ out2 ++ predE' k b (x.term.to.drop j) = out ++ predE' k b x.term.to ∧ out2.length + (x.term.to.length - j) + edgesN (f.blocks.drop (k + 1)) ≤ 32896 at hB
  obtain ⟨hj, hq2, hol2⟩ := hB
  refine Zb (Zd (Zc (Zj1 rfl rfl rfl (Za (Zi (Zb ?_))))))
  refine Zn1 rfl (fun h23 => ?_) (fun h23 => ?_)
  ·
   obtain ⟨e, he⟩ := get_of_lt x.term.to j h23
   rw [drop_cons he, predE_cons, ← List.append_assoc] at hq2
   refine Zi1 (Zi (Zb (Zs (Zb (Zd ?_)))))
   refine Zc (Zz (el := edgeV e) VT.sl68 rfl rfl (by omega) (get_mapS _ he) (fun a24 => ?_))
   refine Zc (Za2 VT.ty74 rfl rfl ?_)
   refine Zc (Zb2 VT.zr74 _ rfl rfl (fun g9 => ?_))
   refine Zc (Zx 0 VT.ty74 rfl rfl rfl rfl rfl (Za (Zi (Zb (Zd (Zc (Zj VT.fa74_0 rfl (Zc (Zu 0 VT.ty3 rfl rfl rfl (Zc (Zl rfl (Zc (Zj1 rfl rfl rfl (Za (Zi ?_)))))))))))))))
   refine Zl1 rfl (fun h29 => ?_) (fun h29 => ?_)
   ·
    rw [if_pos h29] at hq2
    have hq3 := hq2
    have hol3 : (out2 ++ [(k : Int)]).length + (x.term.to.length - (j + 1)) + edgesN (f.blocks.drop (k + 1)) ≤ 32896 := by rw [List.length_append, List.length_singleton]; omega
    refine Zd (Zc (Zl rfl (Zc (Zl rfl ?_))))
    refine Zc (Zk3 [.tmp 31] VT.sl30 rfl rfl rfl rfl rfl ?_)
    refine Zc (Zi3 1 _ VT.sl30 rfl rfl rfl (by simp) (by simp; omega) (fun t33 => ?_))
    refine Zc (Zk rfl (Za (Zb1 (Zi (Zd ?_)))))
    refine Zc (Zh2 rfl rfl (by omega) ?_)
    refine Zc (Zl rfl (Za (Zi ?_)))
    exact ⟨(j + 1, t33, out2 ++ [(k : Int)]), (by (try simp only []); omega), ⟨by omega, hq3, hol3⟩, ⟨rfl, rfl, (by first | rfl | (rw [List.map_append]; rfl)), rfl, rfl, rfl, rfl, rfl, rfl, rfl, trivial⟩, (Drops.drop (Drops.buf (by simp) (Drops.keep (Zt2 _))))⟩
   ·
    rw [if_neg h29, List.append_nil] at hq2
    have hq3 := hq2
    have hol3 : out2.length + (x.term.to.length - (j + 1)) + edgesN (f.blocks.drop (k + 1)) ≤ 32896 := by omega
    refine Zi1 (Zb1 (Zi (Zd ?_)))
    refine Zc (Zh2 rfl rfl (by omega) ?_)
    refine Zc (Zl rfl (Za (Zi ?_)))
    exact ⟨(j + 1, tok2, out2), (by (try simp only []); omega), ⟨by omega, hq3, hol3⟩, ⟨rfl, rfl, (by first | rfl | (rw [List.map_append]; rfl)), rfl, rfl, rfl, rfl, rfl, rfl, rfl, trivial⟩, (Drops.drop (Drops.buf (by simp) (Drops.keep (Zt2 _))))⟩
  ·
   have hje : j = x.term.to.length := by omega
   subst hje
   rw [List.drop_length, show predE' k b [] = [] from rfl, List.append_nil] at hq2
   rw [← hq2] at hq
   have hol : out2.length + edgesN (f.blocks.drop (k + 1)) ≤ 32896 := by omega
   refine Zt (Ze1 (Ze1 (Zc1 (Zb1 (Zi (Zd ?_))))))
   refine Zc (Zh2 rfl rfl (by omega) ?_)
   refine Zc (Zl rfl (Za (Zi ?_)))
   exact ⟨(k + 1, tok2, out2), (by (try simp only []); omega), ⟨by omega, hq, hol⟩, ⟨rfl, rfl, rfl, rfl, rfl, rfl, trivial⟩, (Drops.buf (by simp) (Drops.keep (Zt2 _)))⟩
 ·
  have hke : k = f.blocks.length := by omega
  subst hke
  rw [List.drop_length, predsR, List.append_nil] at hq
  refine Zt (Ze1 (Ze1 (Zc1 (Zi (Zb (Zd (Zc (Zl rfl (Zc (Zk rfl (Za (Zi (Zf1 ?_)))))))))))))
  refine Zg1 rfl (.strip rfl) ?_
  rw [hq]
  rfl
set_option maxRecDepth 100000 in
set_option maxHeartbeats 8000000 in
theorem Depths_c (f : SFunc) : VPure Try.prog 9 [funcV f] (.tup [intsX (if funcF f = 0 then depthsF f else []), .int (funcF f)]) := by
 refine V_start (nt := 45) Try.func9 rfl rfl rfl ?_
 refine Zb (Zd ?_)
 refine Zc (Zc2 rfl rfl (fun g1 => ?_))
 refine Zc (Zk rfl (Zc (Zk rfl (Za (Zi (Zb (Zd (Zc (Zv 0 VT.ty24 rfl rfl rfl ?_)))))))))
 by_cases h0 : funcF f = 0
 ·
  have hok := func_ok h0
  have h128 := hok.len
  have hfl := find_len f
  rw [if_pos h0, h0]
  refine Zc (Zm3 [.tmp 12] [] _ rfl rfl VT.en7 (.refl _) (Find_c0 h0) ?_)
  rintro _ _ ⟨rfl, L3, hI, rfl⟩
  refine Zc (Zl rfl (Zc (Zg2 rfl rfl (Zc (Zg2 rfl rfl (Zc (Zk rfl (Zc (Zk rfl (Za (Zi (Zb (Zb (Zd (Zc (Zl rfl (Zc (Zj1 rfl rfl rfl (Za (Zi ?_))))))))))))))))))))
  refine Zm1 rfl (fun h17 => ?_) (fun h17 => ?_)
  · exact absurd rfl h17
  ·
   refine Zi1 (Zi (Zb (Zd (Zc (Zj VT.fa24_1 rfl (Zc (Zu 0 VT.ty22 rfl rfl rfl ?_)))))))
   refine Zc (Zd2 (n := f.blocks.length) Try.underlying22 rfl (by simp) (fun hl21 => ?_))
   refine Zc (V_makeRow (.raw (.int .i64 0)) (fun m => rfl) rfl VT.sl30 rfl rfl (by omega) (by omega) (fun g22 => ?_))
   refine Zc (Zk rfl (Za (Zi ?_)))
   rw [Int.toNat_natCast, flat_zero]
   have hln := linv_len hI
   refine Zb (Zb (Zd (Zc (Zl rfl ?_))))
   refine Zc (Zd2 (n := L3.length) Try.underlying26 rfl (by simp) (fun hl24 => ?_))
   refine Zc (Zl rfl (Za (Zi (Zs ?_))))
   refine Zi2 (ι := Nat) (fun i => L3.length - i) (fun i => [(1, some (.ptr g1 0)), (4, some (.sl 3 none (L3.map lpV))), (6, some (.raw (.slice (some ⟨g22, 0, none⟩) f.blocks.length f.blocks.length))), (23, some (.sl 3 none (L3.map lpV))), (24, some (.int L3.length)), (25, some (.int i))]) (fun i => [.cells g22 3 ((depI f i).map V.int), .cells g1 24 [.int f.name, blocksX f.blocks]]) (fun i => i ≤ L3.length) 0 (Nat.zero_le _) ⟨rfl, rfl, rfl, rfl, rfl, rfl, trivial⟩ (Drops.keepE (congrArg (Own.cells g22 3) (by rw [depI_zero, List.map_replicate])) (Drops.keep (Zt2 _))) ?_
   rintro i hi
   change i ≤ L3.length at hi
   refine Zb (Zd (Zc (Zj1 rfl rfl rfl (Za (Zi (Zb ?_))))))
   refine Zn1 rfl (fun h26 => ?_) (fun h26 => ?_)
   ·
    obtain ⟨x, hx⟩ := get_of_lt L3 i h26
    have hf2 := linv_get hI hx
    obtain ⟨hb1, hb2⟩ := loop_small hok (find_ok hok _ (List.mem_of_getElem? hf2))
    have hb1 : x.2.1.length ≤ 128 := hb1
    refine Zi1 (Zi (Zb (Zs (Zb (Zd ?_)))))
    refine Zc (Zz (el := lpV x) VT.sl26 rfl rfl (by omega) (get_mapS lpV hx) (fun a27 => ?_))
    refine Zc (Za2 VT.ty32 rfl rfl ?_)
    refine Zc (Zb2 VT.zr32 _ rfl rfl (fun g8 => ?_))
    refine Zc (Zx 0 VT.ty32 rfl rfl rfl rfl rfl (Za (Zi (Zb (Zd (Zc (Zj VT.fa32_1 rfl (Zc (Zu 0 VT.ty30 rfl rfl rfl ?_)))))))))
    refine Zc (Zd2 (n := x.2.1.length) Try.underlying30 rfl (by simp) (fun hl31 => ?_))
    refine Zc (Zl rfl (Za (Zi (Zs ?_))))
    refine Zi2 (ι := Nat) (fun j => x.2.1.length - j) (fun j => [(1, some (.ptr g1 0)), (4, some (.sl 3 none (L3.map lpV))), (6, some (.raw (.slice (some ⟨g22, 0, none⟩) f.blocks.length f.blocks.length))), (23, some (.sl 3 none (L3.map lpV))), (24, some (.int L3.length)), (25, some (.int i)), (30, some (intsX x.2.1)), (31, some (.int x.2.1.length)), (32, some (.int j))]) (fun j => [.cells g22 3 ((addD (depI f i) (x.2.1.take j)).map V.int), .cells g1 24 [.int f.name, blocksX f.blocks]]) (fun j => j ≤ x.2.1.length) 0 (Nat.zero_le _) ⟨rfl, rfl, rfl, rfl, rfl, rfl, rfl, rfl, rfl, trivial⟩ (Drops.drop (Drops.keepE (congrArg (Own.cells g22 3) (by rw [List.take_zero]; rfl)) (Drops.keep (Zt2 _)))) ?_
    rintro j hj
    change j ≤ x.2.1.length at hj
    refine Zb (Zd (Zc (Zj1 rfl rfl rfl (Za (Zi (Zb ?_))))))
    refine Zn1 rfl (fun h33 => ?_) (fun h33 => ?_)
    ·
     obtain ⟨k0, hk⟩ := get_of_lt x.2.1 j h33
     obtain ⟨n, rfl, hn⟩ := hb2 k0 (List.mem_of_getElem? hk)
     have hdl : (addD (depI f i) (x.2.1.take j)).length = f.blocks.length := by rw [addD_len, depI_len]
     obtain ⟨y, hy⟩ := get_of_lt (addD (depI f i) (x.2.1.take j)) n (by omega)
     have hyb := depJ_db hok hf2 hj y (List.mem_of_getElem? hy)
     refine Zi1 (Zi (Zb (Zs (Zb (Zd ?_)))))
     refine Zc (Zz (el := V.int (n : Int)) VT.sl30 rfl rfl (by omega) (get_int hk) (fun a34 => ?_))
     refine Zc (Zz1 VT.ty3 rfl rfl (Zc (Zk rfl (Za (Zi (Zd (Zc (Zl rfl (Zc (Zl rfl ?_))))))))))
     refine Zc (Zr2 VT.sl30 rfl rfl (by omega) (by omega) ?_)
     refine Zc (Zf3 0 n VT.ty3 rfl (by simp) rfl (List.append_nil _).symm (get_int hy) ?_)
     refine Zc (Zh2 rfl rfl (by omega) ?_)
     refine Zc (Zr2 VT.sl30 rfl rfl (by omega) (by omega) ?_)
     refine Zc (Zh3 0 n VT.ty3 rfl (by simp) rfl rfl rfl (List.append_nil _).symm (by rw [List.length_map]; omega) ?_)
     refine Za (Zb1 (Zi (Zd ?_)))
     refine Zc (Zh2 rfl rfl (by omega) ?_)
     refine Zc (Zl rfl (Za (Zi ?_)))
     exact ⟨(j + 1), (by (try simp only []); omega), (by omega), ⟨rfl, rfl, rfl, rfl, rfl, rfl, rfl, rfl, rfl, trivial⟩, (Drops.keepE (congrArg (Own.cells g22 3) (dep_cells hk hy)) (Drops.keep (Zt2 _)))⟩
    ·
     have hje : j = x.2.1.length := by omega
     subst hje
     rw [List.take_length]
     refine Zt (Ze1 (Ze1 (Zc1 (Zb1 (Zi (Zd ?_))))))
     refine Zc (Zh2 rfl rfl (by omega) ?_)
     refine Zc (Zl rfl (Za (Zi ?_)))
     exact ⟨(i + 1), (by (try simp only []); omega), (by omega), ⟨rfl, rfl, rfl, rfl, rfl, rfl, trivial⟩, (Drops.keepE (congrArg (Own.cells g22 3) (by rw [depI_step hf2])) (Drops.keep (Zt2 _)))⟩
   ·
    have hie : i = (findF f).length := by omega
    subst hie
    rw [depI_end]
    refine Zt (Ze1 (Ze1 (Zc1 (Zi (Zb (Zd (Zc (Zl rfl (Zc (Zk rfl (Zc (Zk rfl (Za (Zi ?_))))))))))))))
    refine VW_freeze 0 (q := 2) (rest := []) ((depthsF f).map V.int) rfl rfl (by rw [flat_ints2, List.append_nil]) (by rw [List.length_map, (depths_len hok).1]) (Nat.le_refl _) (by simp only [maxLen]; omega) (fits_ints _) ?_
    refine Zf1 ?_
    refine Zh1 rfl rfl (.cons (.tmp rfl) (.cons (.tmp rfl) (.nil))) ?_
    rfl
 ·
  rw [if_neg h0]
  refine Zc (Zx1 [.tmp 12] rfl rfl VT.en7 (FindE_c h0) ?_)
  refine Zc (Zl rfl (Zc (Zg2 rfl rfl (Zc (Zg2 rfl rfl (Zc (Zk rfl (Zc (Zk rfl (Za (Zi (Zb (Zb (Zd (Zc (Zl rfl (Zc (Zj1 rfl rfl rfl (Za (Zi ?_))))))))))))))))))))
  refine Zm1 rfl (fun h17 => ?_) (fun h17 => ?_)
  ·
   refine Zb (Zd (Zc (Zl rfl ?_)))
   refine Zc (Zu2 (Zk rfl ⟨rfl, rfl⟩) ((V.le.nil 1 : V.le _ (intsX []))) ?_)
   refine Zc (Zk rfl (Za (Zi (Zf1 ?_))))
   refine Zd1 (Zh1 rfl rfl (.cons (.tmp rfl) (.cons (.tmp rfl) (.nil))) ?_)
   rfl
  · exact absurd h17 h0
set_option maxRecDepth 100000 in
set_option maxHeartbeats 8000000 in
theorem loopsNest_c (f : SFunc) : VPure Try.prog 3 [funcV f] (.bool true) := by
 refine V_start (nt := 78) Try.func3 rfl rfl rfl ?_
 refine Zb (Zd ?_)
 refine Zc (Zc2 rfl rfl (fun g1 => ?_))
 refine Zc (Zk rfl (Za (Zi (Zb (Zb (Zd ?_))))))
 refine Zc (Zx1 [] rfl rfl VT.en6 (works_c) ?_)
 refine Zc (Zl2 rfl (Za (Zi ?_)))
 refine Zq1 rfl (rfl) ?_
 refine Zi1 (Zi (Zb (Zd (Zc (Zv 0 VT.ty24 rfl rfl rfl ?_)))))
 by_cases h0 : funcF f = 0
 ·
  have hok := func_ok h0
  have h128 := hok.len
  have hfl := find_len f
  refine Zc (Zm3 [.tmp 15] [] _ rfl rfl VT.en7 (.refl _) (Find_c0 h0) ?_)
  rintro _ _ ⟨rfl, L3, hI, rfl⟩
  refine Zc (Zl rfl (Zc (Zg2 rfl rfl (Zc (Zg2 rfl rfl (Zc (Zk rfl (Zc (Zk rfl (Za (Zi (Zb (Zb (Zd (Zc (Zl rfl (Zc (Zj1 rfl rfl rfl (Za (Zi ?_))))))))))))))))))))
  refine Zm1 rfl (fun h20 => ?_) (fun h20 => ?_)
  · exact absurd rfl h20
  ·
   refine Zi1 (Zi (Zb (Zb (Zd (Zc (Zl rfl ?_))))))
   refine Zc (Zd2 (n := L3.length) Try.underlying26 rfl (by simp) (fun hl25 => ?_))
   refine Zc (Zl rfl (Za (Zi ?_)))
   have hln := linv_len hI
   refine Zs ?_
   refine Zi2 (ι := Nat) (fun i => L3.length - i) (fun i => [(3, some (.sl 3 none (L3.map lpV))), (24, some (.sl 3 none (L3.map lpV))), (25, some (.int L3.length)), (26, some (.int i))]) (fun i => []) (fun i => i ≤ L3.length) 0 (Nat.zero_le _) ⟨rfl, rfl, rfl, rfl, trivial⟩ (Drops.nil _) ?_
   rintro i hi
   change i ≤ L3.length at hi
   refine Zb (Zd (Zc (Zj1 rfl rfl rfl (Za (Zi (Zb ?_))))))
   refine Zn1 rfl (fun h27 => ?_) (fun h27 => ?_)
   ·
    obtain ⟨x, hx⟩ := get_of_lt L3 i h27
    have hf1 := linv_get hI hx
    have hok1 := find_ok hok _ (List.mem_of_getElem? hf1)
    have hb1 : x.2.1.length ≤ 128 := (loop_small hok hok1).1
    refine Zi1 (Zi (Zb (Zs (Zb (Zd (Zc (Zl rfl ?_)))))))
    refine Zc (Zz (el := lpV x) VT.sl26 rfl rfl (by omega) (get_mapS lpV hx) (fun a29 => ?_))
    refine Zc (Za2 VT.ty32 rfl rfl ?_)
    refine Zc (Zb2 VT.zr32 _ rfl rfl (fun g6 => ?_))
    refine Zc (Zk rfl (Zc (Zx 0 VT.ty32 rfl rfl rfl rfl rfl (Za (Zi (Zb (Zd (Zc (Zl rfl (Zc (Zl rfl ?_)))))))))))
    refine Zc (Zu2 (V_sliceTo VT.sl26 rfl rfl (by omega) (by simp; omega) ⟨rfl, rfl⟩) (V.le.of_eq (v' := .sl 3 none ((L3.take i).map lpV)) (by rw [List.map_take]; rfl)) ?_)
    refine Zc (Zd2 (n := (L3.take i).length) Try.underlying26 rfl (by simp) (fun hl34 => ?_))
    refine Zc (Zl rfl (Za (Zi (Zs ?_))))
    refine Zi2 (ι := Nat) (fun j => (L3.take i).length - j) (fun j => [(3, some (.sl 3 none (L3.map lpV))), (24, some (.sl 3 none (L3.map lpV))), (25, some (.int L3.length)), (26, some (.int i)), (5, some (.int i)), (6, some (.ptr g6 0)), (33, some (.sl 3 none ((L3.take i).map lpV))), (34, some (.int (L3.take i).length)), (35, some (.int j))]) (fun j => [.cells g6 32 [.int x.1, intsX x.2.1, .int x.2.2]]) (fun j => j ≤ (L3.take i).length) 0 (Nat.zero_le _) ⟨rfl, rfl, rfl, rfl, rfl, rfl, rfl, rfl, rfl, trivial⟩ (Drops.keep (Zt2 _)) ?_
    rintro j hj
    change j ≤ (L3.take i).length at hj
    refine Zb (Zd (Zc (Zj1 rfl rfl rfl (Za (Zi (Zb ?_))))))
    refine Zn1 rfl (fun h36 => ?_) (fun h36 => ?_)
    ·
     obtain ⟨y, hy0⟩ := get_of_lt (L3.take i) j h36
     have hy := take_get hy0
     have hji : j ≠ i := fun e => by have h9 := (List.getElem?_eq_some_iff.1 hy0).1; rw [List.length_take] at h9; omega
     have hf2 := linv_get hI hy
     have hok2 := find_ok hok _ (List.mem_of_getElem? hf2)
     have hb2 : y.2.1.length ≤ 128 := (loop_small hok hok2).1
     have hlaw := shared_law hok hok1 hok2
     have hne : x.1 ≠ y.1 := heads_ne hf1 hf2 (Ne.symm hji)
     refine Zi1 (Zi (Zb (Zs (Zb (Zd ?_)))))
     refine Zc (Zz (el := lpV y) VT.sl26 rfl rfl (by omega) (get_mapS lpV hy0) (fun a37 => ?_))
     refine Zc (Za2 VT.ty32 rfl rfl ?_)
     refine Zc (Zb2 VT.zr32 _ rfl rfl (fun g8 => ?_))
     refine Zc (Zx 0 VT.ty32 rfl rfl rfl rfl rfl (Za (Zi (Zb (Zd (Zc (Zk rfl (Za (Zi (Zb (Zb (Zd (Zc (Zj VT.fa32_1 rfl (Zc (Zu 1 VT.ty30 rfl rfl rfl ?_))))))))))))))))
     refine Zc (Zd2 (n := x.2.1.length) Try.underlying30 rfl (by simp) (fun hl41 => ?_))
     refine Zc (Zl rfl (Za (Zi (Zs ?_))))
     refine Zi2 (ι := Nat) (fun m => x.2.1.length - m) (fun m => [(3, some (.sl 3 none (L3.map lpV))), (24, some (.sl 3 none (L3.map lpV))), (25, some (.int L3.length)), (26, some (.int i)), (5, some (.int i)), (6, some (.ptr g6 0)), (8, some (.ptr g8 0)), (9, some (.int ((x.2.1.take m).countP (fun k => y.2.1.any fun z => decide (z = k)) : Nat))), (33, some (.sl 3 none ((L3.take i).map lpV))), (34, some (.int (L3.take i).length)), (35, some (.int j)), (40, some (intsX x.2.1)), (41, some (.int x.2.1.length)), (42, some (.int m))]) (fun m => [.cells g8 32 [.int y.1, intsX y.2.1, .int y.2.2], .cells g6 32 [.int x.1, intsX x.2.1, .int x.2.2]]) (fun m => m ≤ x.2.1.length) 0 (Nat.zero_le _) ⟨rfl, rfl, rfl, rfl, rfl, rfl, rfl, rfl, rfl, rfl, rfl, rfl, rfl, rfl, trivial⟩ (Drops.keep (Drops.keep (Zt2 _))) ?_
     rintro m hm
     change m ≤ x.2.1.length at hm
     refine Zb (Zd (Zc (Zj1 rfl rfl rfl (Za (Zi (Zb ?_))))))
     refine Zn1 rfl (fun h43 => ?_) (fun h43 => ?_)
     ·
      obtain ⟨kv, hkv⟩ := get_of_lt x.2.1 m h43
      have hst := shared_take (y := y.2.1) hkv
      have hcl : (x.2.1.take m).countP (fun k => y.2.1.any fun z => decide (z = k)) ≤ 128 := Nat.le_trans List.countP_le_length (by rw [List.length_take]; omega)
      refine Zi1 (Zi (Zb (Zs (Zb (Zd ?_)))))
      refine Zc (Zz (el := V.int kv) VT.sl30 rfl rfl (by omega) (get_int hkv) (fun a44 => ?_))
      refine Zc (Zz1 VT.ty3 rfl rfl (Zc (Zk rfl (Za (Zi (Zb (Zd (Zc (Zj VT.fa32_1 rfl (Zc (Zu 0 VT.ty30 rfl rfl rfl (Zc (Zl rfl ?_)))))))))))))
      refine Zc (Zx1 [.tmp 47, .tmp 48] rfl rfl VT.en8 (HasInt_c y.2.1 none kv) ?_)
      refine Za (Zi ?_)
      refine Zr1 rfl (fun h49 => ?_) (fun h49 => ?_)
      ·
       rw [if_pos h49] at hst
       refine Zd (Zc (Zl rfl ?_))
       refine Zc (Zh2 rfl rfl (by omega) ?_)
       refine Zc (Zk rfl (Za (Zb1 (Zi (Zd ?_)))))
       refine Zc (Zh2 rfl rfl (by omega) ?_)
       refine Zc (Zl rfl (Za (Zi ?_)))
       exact ⟨(m + 1), (by (try simp only []); omega), (by omega), ⟨rfl, rfl, rfl, rfl, rfl, rfl, rfl, (congrArg (fun n : Int => some (V.int n)) (by rw [hst]; omega)), rfl, rfl, rfl, rfl, rfl, rfl, trivial⟩, (Drops.keep (Drops.keep (Zt2 _)))⟩
      ·
       rw [if_neg (by rw [h49]; decide)] at hst
       refine Zi1 (Zb1 (Zi (Zd ?_)))
       refine Zc (Zh2 rfl rfl (by omega) ?_)
       refine Zc (Zl rfl (Za (Zi ?_)))
       exact ⟨(m + 1), (by (try simp only []); omega), (by omega), ⟨rfl, rfl, rfl, rfl, rfl, rfl, rfl, (congrArg (fun n : Int => some (V.int n)) (by rw [hst]; omega)), rfl, rfl, rfl, rfl, rfl, rfl, trivial⟩, (Drops.keep (Drops.keep (Zt2 _)))⟩
     ·
      have hme : m = x.2.1.length := by omega
      subst hme
      rw [List.take_length]
      have hlaw : ¬ (sharedF x.2.1 y.2.1 > 0 ∧ sharedF x.2.1 y.2.1 < x.2.1.length ∧ sharedF x.2.1 y.2.1 < y.2.1.length) := hlaw
      refine Zt (Ze1 (Ze1 (Zc1 (Zi (Zb (Zd (Zc (Zl rfl (Zc (Zj1 rfl rfl rfl (Zc (Zl rfl ?_))))))))))))
      refine Zj2 (q := 55) rfl (fun hq55 => ?_) (fun hq55 => ?_)
      ·
       refine Zc (Zl rfl ?_) (Zy1 hq55)
       refine Zc (Zj VT.fa32_1 rfl ?_) (Zy1 hq55)
       refine Zc (Zu 1 VT.ty30 rfl rfl rfl ?_) (Zy1 hq55)
       refine Zc (Zd2 (n := x.2.1.length) Try.underlying30 rfl (by simp) (fun hl59 => ?_)) (Zy1 hq55)
       refine Zc (Zj1 rfl rfl rfl ?_) (Zy1 hq55)
       refine Zc (Zs1 rfl hq55 rfl ?_)
       refine Zc (Zl rfl ?_)
       refine Zj2 (q := 62) rfl (fun hq62 => ?_) (fun hq62 => ?_)
       ·
        refine Zc (Zl rfl ?_) (Zy1 hq62)
        refine Zc (Zj VT.fa32_1 rfl ?_) (Zy1 hq62)
        refine Zc (Zu 0 VT.ty30 rfl rfl rfl ?_) (Zy1 hq62)
        refine Zc (Zd2 (n := y.2.1.length) Try.underlying30 rfl (by simp) (fun hl66 => ?_)) (Zy1 hq62)
        refine Zc (Zj1 rfl rfl rfl ?_) (Zy1 hq62)
        refine Zc (Zs1 rfl hq62 rfl ?_)
        refine Zc (Zl rfl ?_)
        refine Zj2 (q := 69) rfl (fun hq69 => ?_) (fun hq69 => ?_)
        · exact (hlaw ⟨(by have h9 := of_decide_eq_true hq55; unfold sharedF; omega), (by have h9 := of_decide_eq_true hq62; unfold sharedF; omega), (by have h9 := of_decide_eq_true hq69; unfold sharedF; omega)⟩).elim
        ·
         refine Zc (Zj VT.fa32_0 rfl ?_) (Zy0 hq69)
         refine Zc (Zu 1 VT.ty3 rfl rfl rfl ?_) (Zy0 hq69)
         refine Zc (Zj VT.fa32_0 rfl ?_) (Zy0 hq69)
         refine Zc (Zu 0 VT.ty3 rfl rfl rfl ?_) (Zy0 hq69)
         refine Zc (Zj1 rfl rfl rfl ?_) (Zy0 hq69)
         refine Zc (Zt1 rfl hq69 rfl ?_)
         refine Za (Zi ?_)
         refine Zl1 rfl (fun h75 => ?_) (fun h75 => ?_)
         · exact absurd h75 hne
         ·
          refine Zi1 (Zb1 (Zi (Zd ?_)))
          refine Zc (Zh2 rfl rfl (by omega) ?_)
          refine Zc (Zl rfl (Za (Zi ?_)))
          exact ⟨(j + 1), (by (try simp only []); omega), (by omega), ⟨rfl, rfl, rfl, rfl, rfl, rfl, rfl, rfl, rfl, trivial⟩, (Drops.drop (Drops.keep (Zt2 _)))⟩
       ·
        refine Zk1 hq62 ?_
        refine Zk1 hq62 ?_
        refine Zk1 hq62 ?_
        refine Zk1 hq62 ?_
        refine Zk1 hq62 ?_
        refine Zc (Zt1 rfl hq62 rfl ?_)
        refine Zc (Zl rfl ?_)
        refine Zc (Zj VT.fa32_0 rfl ?_) (Zy0 rfl)
        refine Zc (Zu 1 VT.ty3 rfl rfl rfl ?_) (Zy0 rfl)
        refine Zc (Zj VT.fa32_0 rfl ?_) (Zy0 rfl)
        refine Zc (Zu 0 VT.ty3 rfl rfl rfl ?_) (Zy0 rfl)
        refine Zc (Zj1 rfl rfl rfl ?_) (Zy0 rfl)
        refine Zc (Zt1 rfl rfl rfl (Za (Zi ?_)))
        refine Zl1 rfl (fun h75 => ?_) (fun h75 => ?_)
        · exact absurd h75 hne
        ·
         refine Zi1 (Zb1 (Zi (Zd ?_)))
         refine Zc (Zh2 rfl rfl (by omega) ?_)
         refine Zc (Zl rfl (Za (Zi ?_)))
         exact ⟨(j + 1), (by (try simp only []); omega), (by omega), ⟨rfl, rfl, rfl, rfl, rfl, rfl, rfl, rfl, rfl, trivial⟩, (Drops.drop (Drops.keep (Zt2 _)))⟩
      ·
       refine Zk1 hq55 ?_
       refine Zk1 hq55 ?_
       refine Zk1 hq55 ?_
       refine Zk1 hq55 ?_
       refine Zk1 hq55 ?_
       refine Zc (Zt1 rfl hq55 rfl ?_)
       refine Zc (Zl rfl ?_)
       refine Zk1 rfl ?_
       refine Zk1 rfl ?_
       refine Zk1 rfl ?_
       refine Zk1 rfl ?_
       refine Zk1 rfl ?_
       refine Zc (Zt1 rfl rfl rfl (Zc (Zl rfl ?_)))
       refine Zc (Zj VT.fa32_0 rfl ?_) (Zy0 rfl)
       refine Zc (Zu 1 VT.ty3 rfl rfl rfl ?_) (Zy0 rfl)
       refine Zc (Zj VT.fa32_0 rfl ?_) (Zy0 rfl)
       refine Zc (Zu 0 VT.ty3 rfl rfl rfl ?_) (Zy0 rfl)
       refine Zc (Zj1 rfl rfl rfl ?_) (Zy0 rfl)
       refine Zc (Zt1 rfl rfl rfl (Za (Zi ?_)))
       refine Zl1 rfl (fun h75 => ?_) (fun h75 => ?_)
       · exact absurd h75 hne
       ·
        refine Zi1 (Zb1 (Zi (Zd ?_)))
        refine Zc (Zh2 rfl rfl (by omega) ?_)
        refine Zc (Zl rfl (Za (Zi ?_)))
        exact ⟨(j + 1), (by (try simp only []); omega), (by omega), ⟨rfl, rfl, rfl, rfl, rfl, rfl, rfl, rfl, rfl, trivial⟩, (Drops.drop (Drops.keep (Zt2 _)))⟩
    ·
     refine Zt (Ze1 (Ze1 (Zc1 (Zb1 (Zi (Zd ?_))))))
     refine Zc (Zh2 rfl rfl (by omega) ?_)
     refine Zc (Zl rfl (Za (Zi ?_)))
     exact ⟨(i + 1), (by (try simp only []); omega), (by omega), ⟨rfl, rfl, rfl, rfl, trivial⟩, (Drops.nil _)⟩
   ·
    refine Zt (Ze1 (Ze1 (Zc1 (Zi (Zb (Zd (Zc (Zk rfl (Za (Zi (Zf1 ?_)))))))))))
    refine Zg1 rfl (.tmp rfl) ?_
    rfl
 ·
  refine Zc (Zx1 [.tmp 15] rfl rfl VT.en7 (FindE_c h0) ?_)
  refine Zc (Zl rfl (Zc (Zg2 rfl rfl (Zc (Zg2 rfl rfl (Zc (Zk rfl (Zc (Zk rfl (Za (Zi (Zb (Zb (Zd (Zc (Zl rfl (Zc (Zj1 rfl rfl rfl (Za (Zi ?_))))))))))))))))))))
  refine Zm1 rfl (fun h20 => ?_) (fun h20 => ?_)
  ·
   refine Zb (Zd (Zc (Zl rfl ?_)))
   refine Zc (Zd2 (n := 0) Try.underlying26 rfl (by simp) (fun hl22 => ?_))
   refine Zc (Zj1 rfl rfl rfl (Zc (Zk rfl (Za (Zi (Zf1 ?_))))))
   refine Zd1 (Zg1 rfl (.tmp rfl) ?_)
   rfl
  · exact absurd h20 h0
set_option maxRecDepth 100000 in
set_option maxHeartbeats 8000000 in
theorem loopsDepths_c (f : SFunc) : VPure Try.prog 4 [funcV f] (.bool true) := by
 have hD := Depths_c f
 refine V_start (nt := 65) Try.func4 rfl rfl rfl ?_
 refine Zb (Zd ?_)
 refine Zc (Zc2 rfl rfl (fun g1 => ?_))
 refine Zc (Zk rfl (Za (Zi (Zb (Zb (Zd ?_))))))
 refine Zc (Zx1 [] rfl rfl VT.en6 (works_c) ?_)
 refine Zc (Zl2 rfl (Za (Zi ?_)))
 refine Zq1 rfl (rfl) ?_
 refine Zi1 (Zi (Zb (Zd (Zc (Zv 0 VT.ty24 rfl rfl rfl ?_)))))
 by_cases h0 : funcF f = 0
 ·
  have hok := func_ok h0
  have h128 := hok.len
  have hfl := find_len f
  rw [if_pos h0, h0] at hD
  obtain ⟨hdl, hds⟩ := depths_len hok
  have hdb := depths_db hok
  refine Zc (Zm3 [.tmp 15] [] _ rfl rfl VT.en7 (.refl _) (Find_c0 h0) ?_)
  rintro _ _ ⟨rfl, L3, hI, rfl⟩
  refine Zc (Zl rfl (Zc (Zg2 rfl rfl (Zc (Zg2 rfl rfl (Zc (Zk rfl (Zc (Zk rfl (Za (Zi (Zb (Zd (Zc (Zv 0 VT.ty24 rfl rfl rfl ?_)))))))))))))))
  refine Zc (Zx1 [.tmp 20] rfl rfl VT.en9 (hD) ?_)
  refine Zc (Zl rfl (Zc (Zg2 rfl rfl (Zc (Zg2 rfl rfl (Zc (Zk rfl (Zc (Zk rfl (Za (Zi (Zb (Zb (Zd (Zc (Zl rfl (Zc (Zj1 rfl rfl rfl (Zc (Zl rfl ?_))))))))))))))))))))
  refine Zj2 (q := 26) rfl (fun hq26 => ?_) (fun hq26 => ?_)
  · exact absurd hq26 (by decide)
  ·
   refine Zc (Zl rfl ?_) (Zy0 hq26)
   refine Zc (Zj1 rfl rfl rfl ?_) (Zy0 hq26)
   refine Zc (Zt1 rfl hq26 rfl ?_)
   refine Za (Zi ?_)
   refine Zm1 rfl (fun h29 => ?_) (fun h29 => ?_)
   · exact absurd rfl h29
   ·
    refine Zi1 (Zi (Zb (Zd (Zc (Zk rfl (Za (Zi (Zb (Zb (Zd (Zc (Zl rfl ?_))))))))))))
    refine Zc (Zd2 (n := (depthsF f).length) Try.underlying30 rfl (by simp) (fun hl34 => ?_))
    refine Zc (Zl rfl (Za (Zi (Zs ?_))))
    refine Zi2 (ι := Nat) (fun i => (depthsF f).length - i) (fun i => [(4, some (.int 0)), (6, some (.int 0)), (1, some (.ptr g1 0)), (3, some (.sl 3 none (L3.map lpV))), (5, some (intsX (depthsF f))), (7, some (.int ((depthsF f).take i).sum)), (33, some (intsX (depthsF f))), (34, some (.int (depthsF f).length)), (35, some (.int i))]) (fun i => [.cells g1 24 [.int f.name, blocksX f.blocks]]) (fun i => i ≤ (depthsF f).length) 0 (Nat.zero_le _) ⟨rfl, rfl, rfl, rfl, rfl, rfl, rfl, rfl, rfl, trivial⟩ (Drops.keep (Zt2 _)) ?_
    rintro i hi
    change i ≤ (depthsF f).length at hi
    refine Zb (Zd (Zc (Zj1 rfl rfl rfl (Za (Zi (Zb ?_))))))
    refine Zn1 rfl (fun h36 => ?_) (fun h36 => ?_)
    ·
     obtain ⟨y, hy⟩ := get_of_lt (depthsF f) i h36
     have hyb := hdb y (List.mem_of_getElem? hy)
     have hsb := db_sum hdb i hi
     have hsc : i * 16384 ≤ 128 * 16384 := Nat.mul_le_mul_right _ (by omega)
     refine Zi1 (Zi (Zb (Zs (Zb (Zd ?_)))))
     refine Zc (Zz (el := V.int y) VT.sl30 rfl rfl (by omega) (get_int hy) (fun a37 => ?_))
     refine Zc (Zz1 VT.ty3 rfl rfl (Zc (Zk rfl (Za (Zi (Zd (Zc (Zl rfl (Zc (Zl rfl ?_))))))))))
     refine Zc (Zh2 rfl rfl (by omega) ?_)
     refine Zc (Zk rfl (Za (Zb1 (Zi (Zd ?_)))))
     refine Zc (Zh2 rfl rfl (by omega) ?_)
     refine Zc (Zl rfl (Za (Zi ?_)))
     exact ⟨(i + 1), (by (try simp only []); omega), (by omega), ⟨rfl, rfl, rfl, rfl, rfl, (congrArg (fun n : Int => some (V.int n)) (sumI_take hy).symm), rfl, rfl, rfl, trivial⟩, (Drops.keep (Zt2 _))⟩
    ·
     have hie : i = (depthsF f).length := by omega
     subst hie
     rw [List.take_length, hds]
     refine Zt (Ze1 (Ze1 (Zc1 (Zi (Zb (Zb (Zd (Zc (Zl rfl ?_)))))))))
     refine Zc (Zd2 (n := L3.length) Try.underlying26 rfl (by simp) (fun hl44 => ?_))
     refine Zc (Zl rfl (Za (Zi ?_)))
     have hln := linv_len hI
     refine Zs ?_
     refine Zi2 (ι := Nat) (fun i => L3.length - i) (fun i => [(4, some (.int 0)), (6, some (.int 0)), (1, some (.ptr g1 0)), (3, some (.sl 3 none (L3.map lpV))), (5, some (intsX (depthsF f))), (7, some (.int (sizes (findF f) - sizes ((findF f).take i)))), (43, some (.sl 3 none (L3.map lpV))), (44, some (.int L3.length)), (45, some (.int i))]) (fun i => [.cells g1 24 [.int f.name, blocksX f.blocks]]) (fun i => i ≤ L3.length) 0 (Nat.zero_le _) ⟨rfl, rfl, rfl, rfl, rfl, (congrArg (fun n : Int => some (V.int n)) (by simp [sizes])), rfl, rfl, rfl, trivial⟩ (Drops.keep (Zt2 _)) ?_
     rintro i hi
     change i ≤ L3.length at hi
     refine Zb (Zd (Zc (Zj1 rfl rfl rfl (Za (Zi (Zb ?_))))))
     refine Zn1 rfl (fun h46 => ?_) (fun h46 => ?_)
     ·
      obtain ⟨x, hx⟩ := get_of_lt L3 i h46
      have hf2 := linv_get hI hx
      have hb1 := (loop_small hok (find_ok hok _ (List.mem_of_getElem? hf2))).1
      have hb1 : x.2.1.length ≤ 128 := hb1
      have hsz : sizes ((findF f).take (i + 1)) = sizes ((findF f).take i) + x.2.1.length := sizes_take hf2
      have hs1 := sizes_le hok i (by omega)
      have hs2 := sizes_le hok (findF f).length (Nat.le_refl _)
      rw [List.take_length] at hs2
      refine Zi1 (Zi (Zb (Zs (Zb (Zd ?_)))))
      refine Zc (Zz (el := lpV x) VT.sl26 rfl rfl (by omega) (get_mapS lpV hx) (fun a47 => ?_))
      refine Zc (Za2 VT.ty32 rfl rfl ?_)
      refine Zc (Zb2 VT.zr32 _ rfl rfl (fun g11 => ?_))
      refine Zc (Zx 0 VT.ty32 rfl rfl rfl rfl rfl (Za (Zi (Zd (Zc (Zl rfl (Zc (Zj VT.fa32_1 rfl (Zc (Zu 0 VT.ty30 rfl rfl rfl ?_))))))))))
      refine Zc (Zd2 (n := x.2.1.length) Try.underlying30 rfl (by simp) (fun hl52 => ?_))
      refine Zc (Zk2 rfl rfl (by omega) ?_)
      refine Zc (Zk rfl (Za (Zb1 (Zi (Zd ?_)))))
      refine Zc (Zh2 rfl rfl (by omega) ?_)
      refine Zc (Zl rfl (Za (Zi ?_)))
      exact ⟨(i + 1), (by (try simp only []); omega), (by omega), ⟨rfl, rfl, rfl, rfl, rfl, (congrArg (fun n : Int => some (V.int n)) (by rw [hsz]; omega)), rfl, rfl, rfl, trivial⟩, (Drops.drop (Drops.keep (Zt2 _)))⟩
     ·
      have hie : i = (findF f).length := by omega
      subst hie
      rw [List.take_length]
      refine Zt (Ze1 (Ze1 (Zc1 (Zi (Zb (Zd (Zc (Zl rfl (Zc (Zj1 rfl rfl rfl (Zc (Zl rfl ?_))))))))))))
      refine Zj2 (q := 57) rfl (fun hq57 => ?_) (fun hq57 => ?_)
      ·
       refine Zc (Zl rfl ?_) (Zy1 hq57)
       refine Zc (Zd2 (n := (depthsF f).length) Try.underlying30 rfl (by simp) (fun hl59 => ?_)) (Zy1 hq57)
       refine Zc (Zj VT.fa24_1 rfl ?_) (Zy1 hq57)
       refine Zc (Zu 0 VT.ty22 rfl rfl rfl ?_) (Zy1 hq57)
       refine Zc (Zd2 (n := f.blocks.length) Try.underlying22 rfl (by simp) (fun hl62 => ?_)) (Zy1 hq57)
       refine Zc (Zj1 rfl rfl rfl ?_) (Zy1 hq57)
       refine Zc (Zs1 rfl hq57 rfl ?_)
       refine Zc (Zk rfl (Za (Zi (Zf1 ?_))))
       refine Zg1 rfl (.tmp rfl) ?_
       refine congrArg V.bool ?_
       simp [hdl]
      · exact absurd hq57 (by simp)
 ·
  rw [if_neg h0] at hD
  refine Zc (Zx1 [.tmp 15] rfl rfl VT.en7 (FindE_c h0) ?_)
  refine Zc (Zl rfl (Zc (Zg2 rfl rfl (Zc (Zg2 rfl rfl (Zc (Zk rfl (Zc (Zk rfl (Za (Zi (Zb (Zd (Zc (Zv 0 VT.ty24 rfl rfl rfl ?_)))))))))))))))
  refine Zc (Zx1 [.tmp 20] rfl rfl VT.en9 (hD) ?_)
  refine Zc (Zl rfl (Zc (Zg2 rfl rfl (Zc (Zg2 rfl rfl (Zc (Zk rfl (Zc (Zk rfl (Za (Zi (Zb (Zb (Zd (Zc (Zl rfl (Zc (Zj1 rfl rfl rfl (Zc (Zl rfl ?_))))))))))))))))))))
  refine Zj2 (q := 26) rfl (fun hq26 => ?_) (fun hq26 => ?_)
  ·
   refine Zk0 hq26 ?_
   refine Zk0 hq26 ?_
   refine Zc (Zs1 rfl hq26 rfl ?_)
   refine Za (Zi ?_)
   refine Zp1 rfl rfl ?_
   refine Zb (Zd (Zc (Zl rfl (Zc (Zl rfl (Zc (Zj1 rfl rfl rfl (Zc (Zk rfl (Za (Zi (Zf1 ?_))))))))))))
   refine Zd1 (Zg1 rfl (.tmp rfl) ?_)
   exact congrArg V.bool (by simp)
  · exact absurd (by simpa using hq26) h0
set_option maxRecDepth 100000 in
set_option maxHeartbeats 8000000 in
theorem loopsHeads_c (f : SFunc) : VPure Try.prog 5 [funcV f] (.bool true) := by
 refine V_start (nt := 74) Try.func5 rfl rfl rfl ?_
 refine Zb (Zd ?_)
 refine Zc (Zc2 rfl rfl (fun g1 => ?_))
 refine Zc (Zk rfl (Za (Zi (Zb (Zb (Zd ?_))))))
 refine Zc (Zx1 [] rfl rfl VT.en6 (works_c) ?_)
 refine Zc (Zl2 rfl (Za (Zi ?_)))
 refine Zq1 rfl (rfl) ?_
 refine Zi1 (Zi (Zb (Zd (Zc (Zv 0 VT.ty24 rfl rfl rfl ?_)))))
 by_cases h0 : funcF f = 0
 ·
  have hok := func_ok h0
  have h128 := hok.len
  have hfl := find_len f
  refine Zc (Zm3 [.tmp 15] [] _ rfl rfl VT.en7 (.refl _) (Find_c0 h0) ?_)
  rintro _ _ ⟨rfl, L3, hI, rfl⟩
  refine Zc (Zl rfl (Zc (Zg2 rfl rfl (Zc (Zg2 rfl rfl (Zc (Zk rfl (Zc (Zk rfl (Za (Zi (Zb (Zb (Zd (Zc (Zl rfl ?_))))))))))))))))
  refine Zc (Zd2 (n := L3.length) Try.underlying26 rfl (by simp) (fun hl20 => ?_))
  refine Zc (Zl rfl (Za (Zi (Zs ?_))))
  refine Zi2 (ι := Nat) (fun i => L3.length - i) (fun i => [(1, some (.ptr g1 0)), (3, some (.sl 3 none (L3.map lpV))), (4, some (.int 0)), (19, some (.sl 3 none (L3.map lpV))), (20, some (.int L3.length)), (21, some (.int i))]) (fun i => [.cells g1 24 [.int f.name, blocksX f.blocks]]) (fun i => i ≤ L3.length) 0 (Nat.zero_le _) ⟨rfl, rfl, rfl, rfl, rfl, rfl, trivial⟩ (Drops.keep (Zt2 _)) ?_
  rintro i hi
  change i ≤ L3.length at hi
  refine Zb (Zd (Zc (Zj1 rfl rfl rfl (Za (Zi (Zb ?_))))))
  refine Zn1 rfl (fun h22 => ?_) (fun h22 => ?_)
  ·
   obtain ⟨x, hx⟩ := get_of_lt L3 i h22
   have hf1 := linv_get hI hx
   have hok1 := find_ok hok _ (List.mem_of_getElem? hf1)
   obtain ⟨xh, xb, xp⟩ := x
   have hb1 : xb.length ≤ 128 := (loop_small hok hok1).1
   obtain ⟨h, e1, hhl, hhm, hdom, kl, hkl, hke⟩ := head_law hok hok1
   have e1 : xh = (h : Int) := e1
   subst e1
   have hdom : ∀ v ∈ xb, ∃ n : Nat, v = n ∧ n < f.blocks.length ∧ domsF f h n = true := hdom
   have hhm : (h : Int) ∈ xb := hhm
   have hkl : (kl : Int) ∈ xb := hkl
   refine Zi1 (Zi (Zb (Zs (Zb (Zd ?_)))))
   refine Zc (Zz (el := lpV ((h : Int), xb, xp)) VT.sl26 rfl rfl (by omega) (get_mapS lpV hx) (fun a23 => ?_))
   refine Zc (Za2 VT.ty32 rfl rfl ?_)
   refine Zc (Zb2 VT.zr32 _ rfl rfl (fun g6 => ?_))
   refine Zc (Zx 0 VT.ty32 rfl rfl rfl rfl rfl (Za (Zi (Zb (Zd (Zc (Zk rfl (Za (Zi (Zb (Zb (Zd (Zc (Zj VT.fa32_1 rfl (Zc (Zu 0 VT.ty30 rfl rfl rfl ?_))))))))))))))))
   refine Zc (Zd2 (n := xb.length) Try.underlying30 rfl (by simp) (fun hl27 => ?_))
   refine Zc (Zl rfl (Za (Zi (Zs ?_))))
   refine Zi2 (ι := Nat × Bool) (fun (m, fd) => xb.length - m) (fun (m, fd) => [(1, some (.ptr g1 0)), (3, some (.sl 3 none (L3.map lpV))), (4, some (.int 0)), (19, some (.sl 3 none (L3.map lpV))), (20, some (.int L3.length)), (21, some (.int i)), (6, some (.ptr g6 0)), (7, some (.bool fd)), (26, some (intsX xb)), (27, some (.int xb.length)), (28, some (.int m))]) (fun (m, fd) => [.cells g6 32 [.int (h : Int), intsX xb, .int xp], .cells g1 24 [.int f.name, blocksX f.blocks]]) (fun (m, fd) => m ≤ xb.length ∧ fd = (xb.take m).any (fun k => (predsR (h : Int) 0 f.blocks).any fun z => decide (z = k))) (0, false) ⟨Nat.zero_le _, rfl⟩ ⟨rfl, rfl, rfl, rfl, rfl, rfl, rfl, rfl, rfl, rfl, rfl, trivial⟩ (Drops.keep (Drops.keep (Zt2 _))) ?_
   rintro ⟨m, fd⟩ hB
   change m ≤ xb.length ∧ fd = (xb.take m).any (fun k => (predsR (h : Int) 0 f.blocks).any fun z => decide (z = k)) at hB
   obtain ⟨hm, hfd⟩ := hB
   refine Zb (Zd (Zc (Zj1 rfl rfl rfl (Za (Zi (Zb ?_))))))
   refine Zn1 rfl (fun h29 => ?_) (fun h29 => ?_)
   ·
    obtain ⟨kv, hkv⟩ := get_of_lt xb m h29
    obtain ⟨n, rfl, hn, hdn⟩ := hdom kv (List.mem_of_getElem? hkv)
    refine Zi1 (Zi (Zb (Zs (Zb (Zd ?_)))))
    refine Zc (Zz (el := V.int (n : Int)) VT.sl30 rfl rfl (by omega) (get_int hkv) (fun a30 => ?_))
    refine Zc (Zz1 VT.ty3 rfl rfl (Zc (Zk rfl (Za (Zi (Zb (Zb (Zd (Zc (Zv 1 VT.ty24 rfl rfl rfl (Zc (Zj VT.fa32_0 rfl (Zc (Zu 0 VT.ty3 rfl rfl rfl (Zc (Zl rfl ?_))))))))))))))))
    refine Zc (Zx1 [.tmp 33, .tmp 35, .tmp 36] rfl rfl VT.en10 (Dominates_c h0 hhl hn) ?_)
    refine Zc (Zl rfl ?_)
    refine Zc (Zu2 (Zg2 rfl rfl ⟨rfl, rfl⟩) ((V.le.of_eq (congrArg V.bool hdn) : V.le _ (.bool true))) ?_)
    refine Zc (Zg2 rfl rfl (Zc (Zk rfl (Zc (Zk rfl (Za (Zi (Zb (Zd (Zc (Zl rfl (Zc (Zj1 rfl rfl rfl (Zc (Zl rfl ?_)))))))))))))))
    refine Zj2 (q := 42) rfl (fun hq42 => ?_) (fun hq42 => ?_)
    · exact absurd hq42 (by decide)
    ·
     refine Zc (Zl rfl ?_) (Zy0 hq42)
     refine Zc (Zl2 rfl ?_) (Zy0 hq42)
     refine Zc (Zt1 rfl hq42 rfl ?_)
     refine Za (Zi ?_)
     refine Zo1 rfl (fun h45 => ?_) (fun h45 => ?_)
     · exact absurd h45 (by decide)
     ·
      refine Zi1 (Zi (Zd (Zc (Zl rfl (Zc (Zl rfl ?_))))))
      refine Zj2 (q := 47) rfl (fun hq47 => ?_) (fun hq47 => ?_)
      ·
       refine Zk0 hq47 ?_
       refine Zk0 hq47 ?_
       refine Zk0 hq47 ?_
       refine Zk0 hq47 ?_
       refine Zk0 hq47 ?_
       refine Zk0 hq47 ?_
       refine Zc (Zs1 rfl hq47 rfl ?_)
       refine Zc (Zk rfl (Za (Zb1 (Zi (Zd ?_)))))
       refine Zc (Zh2 rfl rfl (by omega) ?_)
       refine Zc (Zl rfl (Za (Zi ?_)))
       exact ⟨(m + 1, (xb.take (m + 1)).any (fun k => (predsR (h : Int) 0 f.blocks).any fun z => decide (z = k))), (by (try simp only []); omega), ⟨by omega, rfl⟩, ⟨rfl, rfl, rfl, rfl, rfl, rfl, rfl, (congrArg (fun b : Bool => some (V.bool b)) (by rw [any_int hkv, ← hfd]; first | (rw [hq47]; simp; done) | (rw [hq47]; rfl))), rfl, rfl, rfl, trivial⟩, (Drops.keep (Drops.keep (Zt2 _)))⟩
      ·
       refine Zc (Zv 1 VT.ty24 rfl rfl rfl ?_) (Zy0 hq47)
       refine Zc (Zj VT.fa32_0 rfl ?_) (Zy0 hq47)
       refine Zc (Zu 0 VT.ty3 rfl rfl rfl ?_) (Zy0 hq47)
       refine Zc (Zx1 [.tmp 48, .tmp 50] rfl rfl VT.en11 (rPreds_c h0 (h : Int)) ?_) (Zy0 hq47)
       refine Zc (Zl rfl ?_) (Zy0 hq47)
       refine Zc (Zx1 [.tmp 51, .tmp 52] rfl rfl VT.en8 (HasInt_c (predsR (h : Int) 0 f.blocks) none (n : Int)) ?_) (Zy0 hq47)
       refine Zc (Zt1 rfl hq47 rfl ?_)
       refine Zc (Zk rfl (Za (Zb1 (Zi (Zd ?_)))))
       refine Zc (Zh2 rfl rfl (by omega) ?_)
       refine Zc (Zl rfl (Za (Zi ?_)))
       exact ⟨(m + 1, (xb.take (m + 1)).any (fun k => (predsR (h : Int) 0 f.blocks).any fun z => decide (z = k))), (by (try simp only []); omega), ⟨by omega, rfl⟩, ⟨rfl, rfl, rfl, rfl, rfl, rfl, rfl, (congrArg (fun b : Bool => some (V.bool b)) (by rw [any_int hkv, ← hfd]; first | (rw [hq47]; simp; done) | (rw [hq47]; rfl))), rfl, rfl, rfl, trivial⟩, (Drops.keep (Drops.keep (Zt2 _)))⟩
   ·
    have hme : m = xb.length := by omega
    subst hme
    rw [List.take_length] at hfd
    have hfd : fd = true := by rw [hfd]; exact List.any_eq_true.2 ⟨_, hkl, List.any_eq_true.2 ⟨_, (predsR_mem (fun x hx e he => (hok.edges x hx e he).1) f.blocks 0 rfl _).2 ⟨kl, rfl, Nat.zero_le _, hke⟩, decide_eq_true rfl⟩⟩
    have hhas : (xb.any fun z => decide (z = (h : Int))) = true := List.any_eq_true.2 ⟨_, hhm, decide_eq_true rfl⟩
    refine Zt (Ze1 (Ze1 (Zc1 (Zi (Zb (Zd (Zc (Zl rfl (Zc (Zl2 rfl (Zc (Zl rfl ?_))))))))))))
    refine Zj2 (q := 58) rfl (fun hq58 => ?_) (fun hq58 => ?_)
    · exact absurd hq58 (by rw [hfd]; decide)
    ·
     refine Zc (Zj VT.fa32_1 rfl ?_) (Zy0 hq58)
     refine Zc (Zu 0 VT.ty30 rfl rfl rfl ?_) (Zy0 hq58)
     refine Zc (Zj VT.fa32_0 rfl ?_) (Zy0 hq58)
     refine Zc (Zu 0 VT.ty3 rfl rfl rfl ?_) (Zy0 hq58)
     refine Zc (Zu2 (Zx1 [.tmp 60, .tmp 62] rfl rfl VT.en8 (HasInt_c xb none (h : Int)) ⟨rfl, rfl⟩) ((V.le.of_eq (congrArg V.bool hhas) : V.le _ (.bool true))) ?_) (Zy0 hq58)
     refine Zc (Zl2 rfl ?_) (Zy0 hq58)
     refine Zc (Zt1 rfl hq58 rfl ?_)
     refine Za (Zi ?_)
     refine Zo1 rfl (fun h65 => ?_) (fun h65 => ?_)
     · exact absurd h65 (by decide)
     ·
      refine Zi1 (Zb1 (Zi (Zd ?_)))
      refine Zc (Zh2 rfl rfl (by omega) ?_)
      refine Zc (Zl rfl (Za (Zi ?_)))
      exact ⟨(i + 1), (by (try simp only []); omega), (by omega), ⟨rfl, rfl, rfl, rfl, rfl, rfl, trivial⟩, (Drops.drop (Drops.keep (Zt2 _)))⟩
  ·
   refine Zt (Ze1 (Ze1 (Zc1 (Zi (Zb (Zd (Zc (Zl rfl (Zc (Zj1 rfl rfl rfl (Zc (Zl rfl ?_))))))))))))
   refine Zj2 (q := 69) rfl (fun hq69 => ?_) (fun hq69 => ?_)
   ·
    refine Zk0 hq69 ?_
    refine Zk0 hq69 ?_
    refine Zk0 hq69 ?_
    refine Zc (Zs1 rfl hq69 rfl ?_)
    refine Zc (Zk rfl (Za (Zi (Zf1 ?_))))
    refine Zg1 rfl (.tmp rfl) ?_
    rfl
   · exact absurd hq69 (by decide)
 ·
  refine Zc (Zx1 [.tmp 15] rfl rfl VT.en7 (FindE_c h0) ?_)
  refine Zc (Zl rfl (Zc (Zg2 rfl rfl (Zc (Zg2 rfl rfl (Zc (Zk rfl (Zc (Zk rfl (Za (Zi (Zb (Zb (Zd (Zc (Zl rfl ?_))))))))))))))))
  refine Zc (Zd2 (n := 0) Try.underlying26 rfl (by simp) (fun hl20 => ?_))
  refine Zc (Zl rfl (Za (Zi (Zs ?_))))
  refine Zi2 (ι := Unit) (fun _ => 0) (fun _ => [(3, some (.sl 3 none [])), (4, some (.int (funcF f))), (19, some (.sl 3 none [])), (20, some (.int 0)), (21, some (.int 0))]) (fun _ => []) (fun _ => True) () trivial ⟨rfl, rfl, rfl, rfl, rfl, trivial⟩ (Drops.nil _) ?_
  rintro ⟨⟩ hA
  change True at hA
  refine Zb (Zd (Zc (Zj1 rfl rfl rfl (Za (Zi (Zb ?_))))))
  refine Zn1 rfl (fun h22 => ?_) (fun h22 => ?_)
  · exact absurd h22 (by decide)
  ·
   refine Zt (Ze1 (Ze1 (Zc1 (Zi (Zb (Zd (Zc (Zl rfl (Zc (Zj1 rfl rfl rfl (Zc (Zl rfl ?_))))))))))))
   refine Zj2 (q := 69) rfl (fun hq69 => ?_) (fun hq69 => ?_)
   · exact absurd (eq_of_beq hq69) h0
   ·
    refine Zc (Zl rfl ?_) (Zy0 hq69)
    refine Zc (Zd2 (n := 0) Try.underlying26 rfl (by simp) (fun hl71 => ?_)) (Zy0 hq69)
    refine Zc (Zj1 rfl rfl rfl ?_) (Zy0 hq69)
    refine Zc (Zt1 rfl hq69 rfl ?_)
    refine Zc (Zk rfl (Za (Zi (Zf1 ?_))))
    refine Zg1 rfl (.tmp rfl) ?_
    rfl
end Go.Proofs.Ytnklonhioneeoaa.X24
