import Derived.Test.YtigkaadmobgfnaaVT
import Derived.Test.YtigkaadmobgfnaaS2
import Derived.Test.YtigkaadmobgfnaaVO
import Derived.Test.YtigkaadmobgfnaaDZ
import Derived.Test.YtigkaadmobgfnaaX1
import Derived.Test.YtigkaadmobgfnaaX2
import Derived.Test.YtigkaadmobgfnaaX3
import Derived.Test.YtigkaadmobgfnaaX4
import Derived.Test.YtigkaadmobgfnaaX5
import Derived.Test.YtigkaadmobgfnaaX6
import Derived.Test.YtigkaadmobgfnaaX7
import Derived.Test.YtigkaadmobgfnaaX8
import Derived.Test.YtigkaadmobgfnaaX9
import Derived.Test.YtigkaadmobgfnaaX10
import Derived.Test.YtigkaadmobgfnaaX12
import Derived.Test.YtigkaadmobgfnaaX15
import Derived.Test.YtigkaadmobgfnaaX17
import Derived.Test.YtigkaadmobgfnaaX25
import Derived.Test.YtigkaadmobgfnaaX26
import Derived.Test.YtigkaadmobgfnaaX30
import Derived.Test.YtigkaadmobgfnaaX36
import Derived.Test.YtigkaadmobgfnaaX38
import Derived.Test.YtigkaadmobgfnaaX39
set_option linter.unusedVariables false
set_option linter.unusedSimpArgs false
namespace Go.Proofs.Ytigkaadmobgfnaa.X40
open Go.VL Go.SM Go.Proofs.Ytigkaadmobgfnaa Go.Proofs.Ytigkaadmobgfnaa.X1 Go.Proofs.Ytigkaadmobgfnaa.X2 Go.Proofs.Ytigkaadmobgfnaa.X3 Go.Proofs.Ytigkaadmobgfnaa.X4 Go.Proofs.Ytigkaadmobgfnaa.X5 Go.Proofs.Ytigkaadmobgfnaa.X6 Go.Proofs.Ytigkaadmobgfnaa.X7 Go.Proofs.Ytigkaadmobgfnaa.X8 Go.Proofs.Ytigkaadmobgfnaa.X9 Go.Proofs.Ytigkaadmobgfnaa.X10 Go.Proofs.Ytigkaadmobgfnaa.X12 Go.Proofs.Ytigkaadmobgfnaa.X15 Go.Proofs.Ytigkaadmobgfnaa.X17 Go.Proofs.Ytigkaadmobgfnaa.X25 Go.Proofs.Ytigkaadmobgfnaa.X26 Go.Proofs.Ytigkaadmobgfnaa.X30 Go.Proofs.Ytigkaadmobgfnaa.X36 Go.Proofs.Ytigkaadmobgfnaa.X38 Go.Proofs.Ytigkaadmobgfnaa.X39
theorem fns_at {u : SUnit} (h : unitF u = 0) : u.fns.length ≤ 256 ∧ ∀ f ∈ u.fns, funcF f = 0 := by
  unfold unitF at h
  split at h
  · cases h
  · split at h
    · cases h
    · split at h
      · cases h
      · split at h
        · rename_i hn; exact absurd h hn
        · rename_i hn
          exact ⟨by omega, firstE_ok (Decidable.not_not.1 hn)⟩
theorem leave_ok {f : SFunc} (h0 : funcF f = 0) (hl : (splitF f).blocks.length ≤ 128) : VPure Try.prog 16 [funcV f] (.tup [funcV (lvF f), .int 0]) := by
  have h := leave_c h0
  rwa [lvX, if_neg (by omega)] at h
theorem leave_big {f : SFunc} (h0 : funcF f = 0) (hl : ¬ (splitF f).blocks.length ≤ 128) : VPure Try.prog 16 [funcV f] (.tup [.agg VT.zs31, .int 2]) := by
  have h := leave_c h0
  rwa [lvX, if_pos (by omega)] at h
open Classical in
noncomputable def lvUX (u : SUnit) : V := if lvErr u = 0 then .tup [unitV (lvU u), .int 0] else .tup [.agg VT.zs24, .int (lvErr u)]
open Go.VL renaming VOps_nil → Za, VW_seq → Zb, VW_region → Zd, Then_n → Zi, V_fieldAddr → Zj, V_assign → Zk, V_move → Zl, VW_block → Zs, VW_exit → Zt, V_load → Zu, V_load_agg → Zv, V_store_agg → Zx, V_store → Zy, V_indexAddr → Zz, InBlock_r → Za1, InBlock_n → Zb1, InBlock_hit → Zc1, Then_r → Zd1, Then_e → Ze1, VW_ret → Zf1, VRet_one → Zg1, VRet_many → Zh1, VW_skip → Zi1, V_bin → Zj1, VW_condEq → Zl1, VW_condNe → Zm1, VW_condP → Zn1, VW_condF → Zq1, V_pickT → Zs1, V_pickF → Zt1, V_fieldAddr_ep → Zw1, V_callP → Zx1, V_load_ep → Zz1, V_load_ep_agg → Za2, V_alloc → Zb2, V_box → Zc2, V_lenN → Zd2, V_build → Zf2, V_extract → Zg2, V_add → Zh2, VW_loopF → Zi2, VOps_split → Zj2, V_not → Zl2, Drops.refl → Zt2, VOp_as → Zu2, V_appendN → Zi3, V_lit → Zk3, V_call → Zm3
set_option maxRecDepth 100000 in
set_option maxHeartbeats 8000000 in
theorem Leave_c (u : SUnit) : VPure Try.prog 6 [unitV u] (lvUX u) := by
 have hr := lvUX.eq_def u
 have he := lvErr.eq_def u
 refine V_start (nt := 47) Try.func6 rfl rfl rfl ?_
 refine Zb (Zd ?_)
 refine Zc (Zc2 rfl rfl (fun g1 => ?_))
 refine Zc (Zb2 VT.zr24 _ rfl rfl (fun g2 => ?_))
 refine Zc (Zk rfl (Za (Zi (Zb (Zb (Zd (Zc (Zv 1 VT.ty24 rfl rfl rfl ?_))))))))
 by_cases hU : unitF u = 0
 ·
  rw [if_neg (fun h => h hU)] at he
  have hC := Check_c u
  rw [hU] at hC
  obtain ⟨hul, hfs⟩ := fns_at hU
  refine Zc (Zx1 [.tmp 10] rfl rfl VT.en9 (hC) ?_)
  refine Zc (Zk rfl (Za (Zi (Zb (Zd (Zc (Zl rfl (Zc (Zj1 rfl rfl rfl (Za (Zi ?_)))))))))))
  refine Zm1 rfl (fun h13 => ?_) (fun h13 => ?_)
  · exact absurd rfl h13
  ·
   refine Zi1 (Zi (Zb (Zd (Zc (Zj VT.fa24_1 rfl (Zc (Zu 1 VT.ty3 rfl rfl rfl ?_)))))))
   refine Zc (Zf2 [1] [.tmp 17] VT.st24 rfl rfl rfl rfl ?_)
   refine Zc (Zb2 VT.zr24 _ rfl rfl (fun g5 => ?_))
   refine Zc (Zx 0 VT.ty24 rfl rfl rfl rfl rfl (Za (Zi ?_)))
   refine VW_cells 0 (ls' := [.sl 2 (some .nil) [], .int u.main]) rfl ⟨V.le.nilTok 2, rfl, V.le.refl _, rfl, trivial⟩ ?_
   refine VW_nilBuf 31 2 ?_
   refine Zb (Zb (Zd (Zc (Zj VT.fa24_0 rfl (Zc (Zu 3 VT.ty22 rfl rfl rfl ?_))))))
   refine Zc (Zd2 (n := u.fns.length) Try.underlying22 rfl (by simp) (fun hl21 => ?_))
   refine Zc (Zl rfl (Za (Zi (Zs ?_))))
   refine Zi2 (ι := Nat × Tok) (fun (i, tok) => u.fns.length - i) (fun (i, tok) => [(2, some (.ptr g2 0)), (5, some (.ptr g5 0)), (20, some (funcsX u.fns)), (21, some (.int u.fns.length)), (22, some (.int i))]) (fun (i, tok) => [.buf tok 31 2 i, .cells g5 24 [.sl 2 (some tok) ((u.fns.take i).map fun f => funcV (lvF f)), .int u.main], .cells g2 24 VT.zs24]) (fun (i, tok) => i ≤ u.fns.length ∧ ∀ f ∈ u.fns.take i, (splitF f).blocks.length ≤ 128) (0, .nil) ⟨Nat.zero_le _, fun f hf => by cases hf⟩ ⟨rfl, rfl, rfl, rfl, rfl, trivial⟩ (Drops.buf (by simp) (Drops.keep (Drops.keep (Drops.drop (Zt2 _))))) ?_
   rintro ⟨i, tok⟩ hA
   change i ≤ u.fns.length ∧ ∀ f ∈ u.fns.take i, (splitF f).blocks.length ≤ 128 at hA
   obtain ⟨hi, hS⟩ := hA
   refine Zb (Zd (Zc (Zj1 rfl rfl rfl (Za (Zi (Zb ?_))))))
   refine Zn1 rfl (fun h23 => ?_) (fun h23 => ?_)
   ·
    obtain ⟨f, hf⟩ := get_of_lt u.fns i h23
    have h0 := hfs f (List.mem_of_getElem? hf)
    refine Zi1 (Zi (Zb (Zs (Zb (Zd ?_)))))
    refine Zc (Zz (el := funcV f) VT.sl22 rfl rfl (by omega) (get_mapS _ hf) (fun a24 => ?_))
    refine Zc (Za2 VT.ty31 rfl rfl ?_)
    refine Zc (Zb2 VT.zr31 _ rfl rfl (fun g7 => ?_))
    refine Zc (Zx 0 VT.ty31 rfl rfl rfl rfl rfl (Za (Zi (Zb (Zd (Zc (Zv 0 VT.ty31 rfl rfl rfl ?_)))))))
    by_cases hl : (splitF f).blocks.length ≤ 128
    ·
     have hsm : ∀ x ∈ u.fns.take (i + 1), (splitF x).blocks.length ≤ 128 := fun x hx => by rw [take_snoc hf] at hx; rcases List.mem_append.1 hx with h | h; exact hS x h; rw [List.mem_singleton.1 h]; exact hl
     refine Zc (Zx1 [.tmp 27] rfl rfl VT.en16 (leave_ok h0 hl) ?_)
     refine Zc (Zl rfl (Zc (Zg2 rfl rfl (Zc (Zg2 rfl rfl ?_)))))
     refine Zc (Zb2 VT.zr31 _ rfl rfl (fun g8 => ?_))
     refine Zc (Zx 0 VT.ty31 rfl rfl rfl rfl rfl (Zc (Zk rfl (Za (Zi (Zb (Zb (Zd (Zc (Zl rfl (Zc (Zj1 rfl rfl rfl (Za (Zi ?_))))))))))))))
     refine Zm1 rfl (fun h32 => ?_) (fun h32 => ?_)
     · exact absurd rfl h32
     ·
      refine Zi1 (Zi (Zd (Zc (Zj VT.fa24_0 rfl (Zc (Zu 3 VT.ty22 rfl rfl rfl (Zc (Zv 0 VT.ty31 rfl rfl rfl ?_))))))))
      refine Zc (Zk3 [.tmp 37] VT.sl22 rfl rfl rfl rfl rfl ?_)
      refine Zc (Zi3 2 _ VT.sl22 rfl rfl rfl (by simp; omega) (by simp; omega) (fun t39 => ?_))
      refine Zc (Zj VT.fa24_0 rfl (Zc (Zy 3 VT.ty22 rfl rfl rfl rfl rfl (Za (Zb1 (Zi (Zd ?_)))))))
      refine Zc (Zh2 rfl rfl (by omega) ?_)
      refine Zc (Zl rfl (Za (Zi ?_)))
      exact ⟨(i + 1, t39), (by (try simp only []); omega), ⟨by omega, hsm⟩, ⟨rfl, rfl, rfl, rfl, rfl, trivial⟩, (Drops.drop (Drops.drop (Drops.buf (by simp; omega) (Drops.keepE (congrArg (fun l => Own.cells g5 24 [.sl 2 (some t39) l, .int u.main]) (by rw [take_snoc hf, List.map_append]; rfl)) (Drops.keep (Zt2 _))))))⟩
    ·
     rw [if_pos (fun h => hl (h f (List.mem_of_getElem? hf)))] at he
     rw [if_neg (by rw [he]; decide)] at hr
     refine Zc (Zx1 [.tmp 27] rfl rfl VT.en16 (leave_big h0 hl) ?_)
     refine Zc (Zl rfl (Zc (Zg2 rfl rfl (Zc (Zg2 rfl rfl ?_)))))
     refine Zc (Zb2 VT.zr31 _ rfl rfl (fun g8 => ?_))
     refine Zc (Zx 0 VT.ty31 rfl rfl rfl rfl rfl (Zc (Zk rfl (Za (Zi (Zb (Zb (Zd (Zc (Zl rfl (Zc (Zj1 rfl rfl rfl (Za (Zi ?_))))))))))))))
     refine Zm1 rfl (fun h32 => ?_) (fun h32 => ?_)
     ·
      refine Zb (Zd ?_)
      refine Zc (Zf2 [] [] VT.st24 rfl rfl rfl rfl ?_)
      refine Zc (Zl rfl (Zc (Zx 4 VT.ty24 rfl rfl rfl rfl rfl (Zc (Zk rfl (Za (Zi (Zf1 ?_))))))))
      refine Zd1 (Za1 (Zd1 (Zd1 (Za1 (Zd1 (Zh1 rfl rfl (.cons (.agg (i := 4) VT.ty24 rfl rfl rfl) (.cons (.tmp rfl) (.nil))) ?_))))))
      rw [hr, he]
      rfl
     · exact absurd h32 (by decide)
   ·
    have hie : i = u.fns.length := by omega
    subst hie
    have hst : V.le (.sl 2 (some tok) ((u.fns.take u.fns.length).map fun f => funcV (lvF f))) (funcsX (lvU u).fns) := by rw [List.take_length]; show V.le _ (.sl 2 none ((u.fns.map lvF).map funcV)); rw [List.map_map]; exact V.le.strip
    rw [List.take_length] at hS
    have hS : SmallF u := hS
    rw [if_neg (fun h => h hS)] at he
    refine Zt (Ze1 (Ze1 (Zc1 (Zi ?_))))
    refine VW_cells 1 (ls' := [funcsX (lvU u).fns, .int u.main]) rfl ⟨hst, rfl, V.le.refl _, rfl, trivial⟩ ?_
    refine Zb (Zb (Zd ?_))
    refine Zc (Zu2 (Zv 1 VT.ty24 rfl rfl rfl ⟨rfl, rfl⟩) ((V.le.of_eq rfl : V.le _ (unitV (lvU u)))) ?_)
    refine Zc (Zx1 [.tmp 42] rfl rfl VT.en10 (MCheck_c (lvU u)) ?_)
    refine Zc (Zj1 rfl rfl rfl (Za (Zi ?_)))
    refine Zm1 rfl (fun h44 => ?_) (fun h44 => ?_)
    ·
     rw [if_pos h44] at he
     rw [if_neg (by rw [he]; decide)] at hr
     have hfin : lvUX u = .tup [.agg VT.zs24, .int 2] := by rw [hr, he]
     refine Zb (Zd ?_)
     refine Zc (Zf2 [] [] VT.st24 rfl rfl rfl rfl ?_)
     refine Zc (Zx 2 VT.ty24 rfl rfl rfl rfl rfl (Zc (Zk rfl (Za (Zi (Zf1 ?_))))))
     refine Zd1 (Zh1 rfl rfl (.cons (.agg (i := 2) VT.ty24 rfl rfl rfl) (.cons (.tmp rfl) (.nil))) ?_)
     rw [hfin]
     rfl
    ·
     rw [if_neg (fun h => h h44)] at he
     rw [if_pos he] at hr
     have hfin := hr
     refine Zi1 (Zi (Zb (Zd (Zc (Zv 1 VT.ty24 rfl rfl rfl (Zc (Zx 2 VT.ty24 rfl rfl rfl rfl rfl (Zc (Zk rfl (Za (Zi (Zf1 ?_))))))))))))
     refine Zh1 rfl rfl (.cons (.agg (i := 2) VT.ty24 rfl rfl rfl) (.cons (.tmp rfl) (.nil))) ?_
     rw [hfin]
     rfl
 ·
  rw [if_pos hU] at he
  rw [if_neg (by rw [he]; exact hU)] at hr
  refine Zc (Zx1 [.tmp 10] rfl rfl VT.en9 (Check_c u) ?_)
  refine Zc (Zk rfl (Za (Zi (Zb (Zd (Zc (Zl rfl (Zc (Zj1 rfl rfl rfl (Za (Zi ?_)))))))))))
  refine Zm1 rfl (fun h13 => ?_) (fun h13 => ?_)
  ·
   refine Zb (Zd ?_)
   refine Zc (Zf2 [] [] VT.st24 rfl rfl rfl rfl ?_)
   refine Zc (Zl rfl (Zc (Zx 0 VT.ty24 rfl rfl rfl rfl rfl (Zc (Zk rfl (Za (Zi (Zf1 ?_))))))))
   refine Zd1 (Zh1 rfl rfl (.cons (.agg (i := 0) VT.ty24 rfl rfl rfl) (.cons (.tmp rfl) (.nil))) ?_)
   rw [hr, he]
   rfl
  · exact absurd (by simpa using h13) hU
theorem Leave_0 {u : SUnit} (h : lvErr u = 0) : VPure Try.prog 6 [unitV u] (.tup [unitV (lvU u), .int 0]) := by
  have h1 := Leave_c u
  rwa [lvUX, if_pos h] at h1
theorem Leave_e {u : SUnit} (h : ¬ lvErr u = 0) : VPure Try.prog 6 [unitV u] (.tup [.agg VT.zs24, .int (lvErr u)]) := by
  have h1 := Leave_c u
  rwa [lvUX, if_neg h] at h1
set_option maxRecDepth 100000 in
set_option maxHeartbeats 4000000 in
theorem rPredsN_c {f : SFunc} (hN : f.blocks.length ≤ 128) (hT : ∀ x ∈ f.blocks, x.term.to.length ≤ 257 ∧ ∀ e ∈ x.term.to, 1 ≤ e.block) (t : Nat) : VCalls Try.prog 7 [funcV f, .int (t : Nat)] [] fun r S' => S' = [] ∧ ∃ l : List Int, r = intsX l ∧ l.length = cntB t f.blocks := by
 refine VCalls_drops ?_
 refine V_start (nt := 37) Try.func7 rfl rfl rfl ?_
 refine Zb (Zd ?_)
 refine Zc (Zc2 rfl rfl (fun g2 => ?_))
 refine Zc (Zk rfl (Za (Zi (Zb (Zd (Zc (V_assign_nil 3 1 (Za (Zi (Zb (Zb (Zd (Zc (Zj VT.fa31_1 rfl (Zc (Zu 1 VT.ty29 rfl rfl rfl ?_))))))))))))))))
 refine Zc (Zd2 (n := f.blocks.length) Try.underlying29 rfl (by simp) (fun hl12 => ?_))
 refine Zc (Zl rfl (Za (Zi (Zs ?_))))
 refine Zi2 (ι := Nat × Tok × List Int) (fun (k, tok, out) => f.blocks.length - k) (fun (k, tok, out) => [(1, some (.int (t : Nat))), (2, some (.ptr g2 0)), (5, some (.sl 1 (some tok) (out.map V.int))), (11, some (blocksX f.blocks)), (12, some (.int f.blocks.length)), (13, some (.int k))]) (fun (k, tok, out) => [.buf tok 3 1 out.length, .cells g2 31 [.int f.name, blocksX f.blocks]]) (fun (k, tok, out) => k ≤ f.blocks.length ∧ out.length + cntB t (f.blocks.drop k) = cntB t f.blocks ∧ out.length ≤ k * 257) (0, .nil, []) ⟨Nat.zero_le _, Nat.zero_add _, Nat.zero_le _⟩ ⟨rfl, rfl, rfl, rfl, rfl, rfl, trivial⟩ (Drops.buf (by simp) (Drops.keep (Zt2 _))) ?_
 rintro ⟨k, tok, out⟩ hA
 change k ≤ f.blocks.length ∧ out.length + cntB t (f.blocks.drop k) = cntB t f.blocks ∧ out.length ≤ k * 257 at hA
 obtain ⟨hk, hq, hol⟩ := hA
 refine Zb (Zd (Zc (Zj1 rfl rfl rfl (Za (Zi (Zb ?_))))))
 refine Zn1 rfl (fun h14 => ?_) (fun h14 => ?_)
 ·
  obtain ⟨x, hx⟩ := get_of_lt f.blocks k h14
  obtain ⟨hx1, hx2⟩ := hT x (List.mem_of_getElem? hx)
  rw [drop_cons hx, cntB] at hq
  refine Zi1 (Zi (Zb (Zs (Zb (Zd (Zc (Zl rfl ?_)))))))
  refine Zc (Zz (el := blockV x) VT.sl29 rfl rfl (by omega) (get_mapS _ hx) (fun a16 => ?_))
  refine Zc (Za2 VT.ty38 rfl rfl ?_)
  refine Zc (Zb2 VT.zr38 _ rfl rfl (fun g7 => ?_))
  refine Zc (Zk rfl (Zc (Zx 0 VT.ty38 rfl rfl rfl rfl rfl (Za (Zi (Zb (Zd (Zc (Zj VT.fa38_2 rfl (Zc (Zj VT.fa36_4 rfl (Zc (Zu 0 VT.ty34 rfl rfl rfl ?_)))))))))))))
  refine Zc (Zd2 (n := x.term.to.length) Try.underlying34 rfl (by simp) (fun hl21 => ?_))
  refine Zc (Zl rfl (Za (Zi (Zs ?_))))
  refine Zi2 (ι := Nat × Tok × List Int) (fun (j, tok2, out2) => x.term.to.length - j) (fun (j, tok2, out2) => [(1, some (.int (t : Nat))), (2, some (.ptr g2 0)), (5, some (.sl 1 (some tok2) (out2.map V.int))), (6, some (.int k)), (11, some (blocksX f.blocks)), (12, some (.int f.blocks.length)), (13, some (.int k)), (20, some (edgesX x.term.to)), (21, some (.int x.term.to.length)), (22, some (.int j))]) (fun (j, tok2, out2) => [.buf tok2 3 1 out2.length, .cells g2 31 [.int f.name, blocksX f.blocks]]) (fun (j, tok2, out2) => j ≤ x.term.to.length ∧ out2.length + cntE t (x.term.to.drop j) = out.length + cntE t x.term.to ∧ out2.length ≤ k * 257 + j) (0, tok, out) ⟨Nat.zero_le _, rfl, by omega⟩ ⟨rfl, rfl, rfl, rfl, rfl, rfl, rfl, rfl, rfl, rfl, trivial⟩ (Drops.drop (Drops.buf (by simp) (Drops.keep (Zt2 _)))) ?_
  rintro ⟨j, tok2, out2⟩ hB
  change j ≤ x.term.to.length ∧ out2.length + cntE t (x.term.to.drop j) = out.length + cntE t x.term.to ∧ out2.length ≤ k * 257 + j at hB
  obtain ⟨hj, hq2, hol2⟩ := hB
  refine Zb (Zd (Zc (Zj1 rfl rfl rfl (Za (Zi (Zb ?_))))))
  refine Zn1 rfl (fun h23 => ?_) (fun h23 => ?_)
  ·
   obtain ⟨e, he⟩ := get_of_lt x.term.to j h23
   have hee := hx2 e (List.mem_of_getElem? he)
   rw [drop_cons he, cntE_cons] at hq2
   refine Zi1 (Zi (Zb (Zs (Zb (Zd ?_)))))
   refine Zc (Zz (el := edgeV e) VT.sl34 rfl rfl (by omega) (get_mapS _ he) (fun a24 => ?_))
   refine Zc (Za2 VT.ty40 rfl rfl ?_)
   refine Zc (Zb2 VT.zr40 _ rfl rfl (fun g9 => ?_))
   refine Zc (Zx 0 VT.ty40 rfl rfl rfl rfl rfl (Za (Zi (Zb (Zd (Zc (Zj VT.fa40_0 rfl (Zc (Zu 0 VT.ty3 rfl rfl rfl (Zc (Zl rfl (Zc (Zj1 rfl rfl rfl (Za (Zi ?_)))))))))))))))
   refine Zl1 rfl (fun h29 => ?_) (fun h29 => ?_)
   ·
    rw [if_pos (by omega)] at hq2
    have hq3 : (out2 ++ [(k : Int)]).length + cntE t (x.term.to.drop (j + 1)) = out.length + cntE t x.term.to := by rw [List.length_append, List.length_singleton]; omega
    have hol3 : (out2 ++ [(k : Int)]).length ≤ k * 257 + (j + 1) := by rw [List.length_append, List.length_singleton]; omega
    refine Zd (Zc (Zl rfl (Zc (Zl rfl ?_))))
    refine Zc (Zk3 [.tmp 31] VT.sl32 rfl rfl rfl rfl rfl ?_)
    refine Zc (Zi3 1 _ VT.sl32 rfl rfl rfl (by simp) (by simp; omega) (fun t33 => ?_))
    refine Zc (Zk rfl (Za (Zb1 (Zi (Zd ?_)))))
    refine Zc (Zh2 rfl rfl (by omega) ?_)
    refine Zc (Zl rfl (Za (Zi ?_)))
    exact ⟨(j + 1, t33, (out2 ++ [(k : Int)])), (by (try simp only []); omega), ⟨by omega, hq3, hol3⟩, ⟨rfl, rfl, (by first | rfl | (rw [List.map_append]; rfl)), rfl, rfl, rfl, rfl, rfl, rfl, rfl, trivial⟩, (Drops.drop (Drops.buf (by simp) (Drops.keep (Zt2 _))))⟩
   ·
    rw [if_neg (by omega)] at hq2
    have hq3 : out2.length + cntE t (x.term.to.drop (j + 1)) = out.length + cntE t x.term.to := by omega
    have hol3 : out2.length ≤ k * 257 + (j + 1) := by omega
    refine Zi1 (Zb1 (Zi (Zd ?_)))
    refine Zc (Zh2 rfl rfl (by omega) ?_)
    refine Zc (Zl rfl (Za (Zi ?_)))
    exact ⟨(j + 1, tok2, out2), (by (try simp only []); omega), ⟨by omega, hq3, hol3⟩, ⟨rfl, rfl, (by first | rfl | (rw [List.map_append]; rfl)), rfl, rfl, rfl, rfl, rfl, rfl, rfl, trivial⟩, (Drops.drop (Drops.buf (by simp) (Drops.keep (Zt2 _))))⟩
  ·
   have hje : j = x.term.to.length := by omega
   subst hje
   rw [List.drop_length] at hq2
   have hq2 : out2.length + 0 = _ := hq2
   have hq : out2.length + cntB t (f.blocks.drop (k + 1)) = cntB t f.blocks := by omega
   have hol : out2.length ≤ (k + 1) * 257 := by omega
   refine Zt (Ze1 (Ze1 (Zc1 (Zb1 (Zi (Zd ?_))))))
   refine Zc (Zh2 rfl rfl (by omega) ?_)
   refine Zc (Zl rfl (Za (Zi ?_)))
   exact ⟨(k + 1, tok2, out2), (by (try simp only []); omega), ⟨by omega, hq, hol⟩, ⟨rfl, rfl, rfl, rfl, rfl, rfl, trivial⟩, (Drops.buf (by simp) (Drops.keep (Zt2 _)))⟩
 ·
  have hke : k = f.blocks.length := by omega
  subst hke
  rw [List.drop_length, cntB] at hq
  refine Zt (Ze1 (Ze1 (Zc1 (Zi (Zb (Zd (Zc (Zl rfl (Zc (Zk rfl (Za (Zi (Zf1 ?_)))))))))))))
  refine Zg1 rfl (.strip rfl) ?_
  exact ⟨[], Drops.nil _, rfl, out, rfl, by omega⟩
set_option maxRecDepth 100000 in
set_option maxHeartbeats 16000000 in
theorem movesBare_c (u : SUnit) : VPure Try.prog 3 [unitV u] (.bool true) := by
 refine V_start (nt := 114) Try.func3 rfl rfl rfl ?_
 refine Zb (Zd ?_)
 refine Zc (Zc2 rfl rfl (fun g1 => ?_))
 refine Zc (Zk rfl (Za (Zi (Zb (Zb (Zd ?_))))))
 refine Zc (Zx1 [] rfl rfl VT.en5 (works_c) ?_)
 refine Zc (Zl2 rfl (Za (Zi ?_)))
 refine Zq1 rfl (rfl) ?_
 refine Zi1 (Zi (Zb (Zd (Zc (Zv 0 VT.ty24 rfl rfl rfl ?_)))))
 by_cases hE : lvErr u = 0
 ·
  obtain ⟨hU, hS, hM⟩ := lvErr_ok hE
  obtain ⟨hul, hfs⟩ := fns_at hU
  refine Zc (Zx1 [.tmp 16] rfl rfl VT.en6 (Leave_0 hE) ?_)
  refine Zc (Zl rfl (Zc (Zg2 rfl rfl (Zc (Zg2 rfl rfl ?_)))))
  refine Zc (Zb2 VT.zr24 _ rfl rfl (fun g3 => ?_))
  refine Zc (Zx 0 VT.ty24 rfl rfl rfl rfl rfl (Zc (Zk rfl (Za (Zi (Zb (Zb (Zd (Zc (Zl rfl (Zc (Zj1 rfl rfl rfl (Za (Zi ?_))))))))))))))
  refine Zm1 rfl (fun h21 => ?_) (fun h21 => ?_)
  · exact absurd rfl h21
  ·
   refine Zi1 (Zi (Zb (Zb (Zd (Zc (Zj VT.fa24_0 rfl (Zc (Zu 0 VT.ty22 rfl rfl rfl ?_))))))))
   refine Zc (Zd2 (n := (lvU u).fns.length) Try.underlying22 rfl (by simp) (fun hl28 => ?_))
   refine Zc (Zj VT.fa24_0 rfl (Zc (Zu 1 VT.ty22 rfl rfl rfl ?_)))
   refine Zc (Zd2 (n := u.fns.length) Try.underlying22 rfl (by simp) (fun hl31 => ?_))
   refine Zc (Zj1 rfl rfl rfl (Zc (Zl rfl ?_)))
   refine Zj2 (q := 33) rfl (fun hq33 => ?_) (fun hq33 => ?_)
   · exact absurd hq33 (by simp [lvU])
   ·
    refine Zc (Zj VT.fa24_1 rfl ?_) (Zy0 hq33)
    refine Zc (Zu 0 VT.ty3 rfl rfl rfl ?_) (Zy0 hq33)
    refine Zc (Zj VT.fa24_1 rfl ?_) (Zy0 hq33)
    refine Zc (Zu 1 VT.ty3 rfl rfl rfl ?_) (Zy0 hq33)
    refine Zc (Zj1 rfl rfl rfl ?_) (Zy0 hq33)
    refine Zc (Zt1 rfl hq33 rfl ?_)
    refine Za (Zi ?_)
    refine Zm1 rfl (fun h39 => ?_) (fun h39 => ?_)
    · exact absurd rfl h39
    ·
     refine Zi1 (Zi (Zb (Zb (Zd (Zc (Zj VT.fa24_0 rfl (Zc (Zu 0 VT.ty22 rfl rfl rfl ?_))))))))
     refine Zc (Zd2 (n := (lvU u).fns.length) Try.underlying22 rfl (by simp) (fun hl42 => ?_))
     refine Zc (Zl rfl (Za (Zi (Zs ?_))))
     refine Zi2 (ι := Nat) (fun k => (lvU u).fns.length - k) (fun k => [(1, some (.ptr g1 0)), (3, some (.ptr g3 0)), (41, some (funcsX (lvU u).fns)), (42, some (.int (lvU u).fns.length)), (43, some (.int k))]) (fun k => [.cells g3 24 [funcsX (lvU u).fns, .int u.main], .cells g1 24 [funcsX u.fns, .int u.main]]) (fun k => k ≤ (lvU u).fns.length) 0 (Nat.zero_le _) ⟨rfl, rfl, rfl, rfl, rfl, trivial⟩ (Drops.keep (Drops.keep (Zt2 _))) ?_
     rintro k hk
     change k ≤ (lvU u).fns.length at hk
     refine Zb (Zd (Zc (Zj1 rfl rfl rfl (Za (Zi (Zb ?_))))))
     refine Zn1 rfl (fun h44 => ?_) (fun h44 => ?_)
     ·
      obtain ⟨g, hg⟩ := get_of_lt (lvU u).fns k h44
      obtain ⟨f, hfm, rfl⟩ := List.mem_map.1 (List.mem_of_getElem? hg)
      have h0 := hfs f hfm
      have hl := hS f hfm
      have hPl : (lvF f).blocks.length = (splitF f).blocks.length := leaveG_len _ _
      refine Zi1 (Zi (Zb (Zs (Zb (Zd ?_)))))
      refine Zc (Zz (el := funcV (lvF f)) VT.sl22 rfl rfl (by omega) (get_mapS _ hg) (fun a45 => ?_))
      refine Zc (Za2 VT.ty31 rfl rfl ?_)
      refine Zc (Zb2 VT.zr31 _ rfl rfl (fun g6 => ?_))
      refine Zc (Zx 0 VT.ty31 rfl rfl rfl rfl rfl (Za (Zi (Zb (Zd (Zc (Zj VT.fa31_1 rfl (Zc (Zu 0 VT.ty29 rfl rfl rfl ?_)))))))))
      refine Zc (Zd2 (n := (lvF f).blocks.length) Try.underlying29 rfl (by simp) (fun hl49 => ?_))
      refine Zc (Zl rfl (Za (Zi (Zs ?_))))
      refine Zi2 (ι := Nat) (fun j => (lvF f).blocks.length - j) (fun j => [(1, some (.ptr g1 0)), (3, some (.ptr g3 0)), (41, some (funcsX (lvU u).fns)), (42, some (.int (lvU u).fns.length)), (43, some (.int k)), (6, some (.ptr g6 0)), (48, some (blocksX (lvF f).blocks)), (49, some (.int (lvF f).blocks.length)), (50, some (.int j))]) (fun j => [.cells g6 31 [.int (lvF f).name, blocksX (lvF f).blocks], .cells g3 24 [funcsX (lvU u).fns, .int u.main], .cells g1 24 [funcsX u.fns, .int u.main]]) (fun j => j ≤ (lvF f).blocks.length) 0 (Nat.zero_le _) ⟨rfl, rfl, rfl, rfl, rfl, rfl, rfl, rfl, rfl, trivial⟩ (Drops.keep (Drops.keep (Drops.keep (Zt2 _)))) ?_
      rintro j hj
      change j ≤ (lvF f).blocks.length at hj
      refine Zb (Zd (Zc (Zj1 rfl rfl rfl (Za (Zi (Zb ?_))))))
      refine Zn1 rfl (fun h51 => ?_) (fun h51 => ?_)
      ·
       obtain ⟨c, hc⟩ := get_of_lt (lvF f).blocks j h51
       have hcm := List.mem_of_getElem? hc
       obtain ⟨hpar, htl, hto⟩ := bare_ok h0 hl hc
       refine Zi1 (Zi (Zb (Zs (Zb (Zd (Zc (Zl rfl ?_)))))))
       refine Zc (Zz (el := blockV c) VT.sl29 rfl rfl (by omega) (get_mapS _ hc) (fun a53 => ?_))
       refine Zc (Za2 VT.ty38 rfl rfl ?_)
       refine Zc (Zb2 VT.zr38 _ rfl rfl (fun g8 => ?_))
       refine Zc (Zk rfl (Zc (Zx 0 VT.ty38 rfl rfl rfl rfl rfl (Za (Zi (Zb (Zb (Zd (Zc (Zl rfl (Zc (Zj1 rfl rfl rfl (Zc (Zl rfl ?_))))))))))))))
       refine Zj2 (q := 57) rfl (fun hq57 => ?_) (fun hq57 => ?_)
       ·
        have hx57 := of_decide_eq_true hq57
        skip
        refine Zc (Zj VT.fa38_0 rfl ?_) (Zy1 hq57)
        refine Zc (Zu 0 VT.ty32 rfl rfl rfl ?_) (Zy1 hq57)
        refine Zc (Zd2 (n := c.params.length) Try.underlying32 rfl (by simp) (fun hl60 => ?_)) (Zy1 hq57)
        refine Zc (Zj1 rfl rfl rfl ?_) (Zy1 hq57)
        refine Zc (Zs1 rfl hq57 rfl ?_)
        refine Za (Zi ?_)
        refine Zn1 rfl (fun h62 => ?_) (fun h62 => ?_)
        · exact absurd h62 (by rw [hpar (by omega)]; simp)
        ·
         refine Zi1 (Zi (Zb (Zd (Zc (Zj VT.fa38_2 rfl (Zc (Zj VT.fa36_4 rfl (Zc (Zu 0 VT.ty34 rfl rfl rfl ?_)))))))))
         refine Zc (Zd2 (n := c.term.to.length) Try.underlying34 rfl (by simp) (fun hl66 => ?_))
         refine Zc (Zl rfl (Za (Zi (Zs ?_))))
         refine Zi2 (ι := Nat) (fun m => c.term.to.length - m) (fun m => [(1, some (.ptr g1 0)), (3, some (.ptr g3 0)), (41, some (funcsX (lvU u).fns)), (42, some (.int (lvU u).fns.length)), (43, some (.int k)), (6, some (.ptr g6 0)), (48, some (blocksX (lvF f).blocks)), (49, some (.int (lvF f).blocks.length)), (50, some (.int j)), (7, some (.int j)), (8, some (.ptr g8 0)), (65, some (edgesX c.term.to)), (66, some (.int c.term.to.length)), (67, some (.int m))]) (fun m => [.cells g8 38 (blockV c).leaves, .cells g6 31 [.int (lvF f).name, blocksX (lvF f).blocks], .cells g3 24 [funcsX (lvU u).fns, .int u.main], .cells g1 24 [funcsX u.fns, .int u.main]]) (fun m => m ≤ c.term.to.length) 0 (Nat.zero_le _) ⟨rfl, rfl, rfl, rfl, rfl, rfl, rfl, rfl, rfl, rfl, rfl, rfl, rfl, rfl, trivial⟩ (Drops.keep (Drops.keep (Drops.keep (Drops.keep (Zt2 _))))) ?_
         rintro m hm
         change m ≤ c.term.to.length at hm
         refine Zb (Zd (Zc (Zj1 rfl rfl rfl (Za (Zi (Zb ?_))))))
         refine Zn1 rfl (fun h68 => ?_) (fun h68 => ?_)
         ·
          obtain ⟨x, hx⟩ := get_of_lt c.term.to m h68
          obtain ⟨hx1, hx2, hx3, hx4⟩ := hto x (List.mem_of_getElem? hx)
          obtain ⟨d, hd⟩ := get_of_lt (lvF f).blocks x.block.toNat (by omega)
          refine Zi1 (Zi (Zb (Zs (Zb (Zd ?_)))))
          refine Zc (Zz (el := edgeV x) VT.sl34 rfl rfl (by omega) (get_mapS _ hx) (fun a69 => ?_))
          refine Zc (Za2 VT.ty40 rfl rfl ?_)
          refine Zc (Zb2 VT.zr40 _ rfl rfl (fun g10 => ?_))
          refine Zc (Zx 0 VT.ty40 rfl rfl rfl rfl rfl (Za (Zi (Zb (Zd (Zc (Zj VT.fa31_1 rfl (Zc (Zu 2 VT.ty29 rfl rfl rfl (Zc (Zj VT.fa40_0 rfl (Zc (Zu 0 VT.ty3 rfl rfl rfl ?_)))))))))))))
          refine Zc (Zz (el := blockV d) VT.sl29 rfl rfl (by omega) (get_mapS _ hd) (fun a75 => ?_))
          refine Zc (Za2 VT.ty38 rfl rfl ?_)
          refine Zc (Zb2 VT.zr38 _ rfl rfl (fun g11 => ?_))
          refine Zc (Zx 0 VT.ty38 rfl rfl rfl rfl rfl (Za (Zi (Zb (Zd (Zc (Zj VT.fa38_1 rfl (Zc (Zu 0 VT.ty33 rfl rfl rfl ?_)))))))))
          refine Zc (Zd2 (n := d.ins.length) Try.underlying33 rfl (by simp) (fun hl79 => ?_))
          refine Zc (Zj1 rfl rfl rfl (Zc (Zl rfl ?_)))
          refine Zj2 (q := 81) rfl (fun hq81 => ?_) (fun hq81 => ?_)
          ·
           have hx81 := of_decide_eq_true hq81
           obtain ⟨i0, hi0⟩ := get_of_lt d.ins 0 (by omega)
           refine Zc (Zj VT.fa38_1 rfl ?_) (Zy1 hq81)
           refine Zc (Zu 0 VT.ty33 rfl rfl rfl ?_) (Zy1 hq81)
           refine Zc (Zz (el := insV i0) VT.sl33 rfl rfl (by omega) (get_mapS _ hi0) (fun a84 => ?_)) (Zy1 hq81)
           refine Zc (Zw1 VT.fa42_1 rfl rfl ?_) (Zy1 hq81)
           refine Zc (Zz1 VT.ty3 rfl rfl ?_) (Zy1 hq81)
           refine Zc (Zj1 rfl rfl rfl ?_) (Zy1 hq81)
           refine Zc (Zs1 rfl hq81 rfl ?_)
           refine Zc (Zk rfl (Za (Zi (Zb (Zd (Zc (Zj VT.fa40_1 rfl (Zc (Zu 1 VT.ty32 rfl rfl rfl ?_)))))))))
           refine Zc (Zd2 (n := x.args.length) Try.underlying32 rfl (by simp) (fun hl91 => ?_))
           refine Zc (Zj1 rfl rfl rfl (Zc (Zl rfl ?_)))
           refine Zj2 (q := 93) rfl (fun hq93 => ?_) (fun hq93 => ?_)
           · exact absurd hq93 (by rw [hx1]; simp)
           ·
            refine Zc (Zj VT.fa38_2 rfl ?_) (Zy0 hq93)
            refine Zc (Zj VT.fa36_4 rfl ?_) (Zy0 hq93)
            refine Zc (Zu 2 VT.ty34 rfl rfl rfl ?_) (Zy0 hq93)
            refine Zc (Zd2 (n := c.term.to.length) Try.underlying34 rfl (by simp) (fun hl97 => ?_)) (Zy0 hq93)
            refine Zc (Zj1 rfl rfl rfl ?_) (Zy0 hq93)
            refine Zc (Zl rfl ?_) (Zy0 hq93)
            refine Zj2 (q := 99) rfl (fun hq99 => ?_) (fun hq99 => ?_)
            ·
             have hx99 := of_decide_eq_true hq99
             refine Zc (Zl rfl ?_) (Zy1 hq99)
             refine Zc (Zs1 rfl hq99 rfl ?_) (Zy0 hq93)
             refine Zc (Zl rfl ?_) (Zy0 hq93)
             refine Zj2 (q := 102) rfl (fun hq102 => ?_) (fun hq102 => ?_)
             ·
              refine Zc (Zv 3 VT.ty31 rfl rfl rfl ?_) (Zy1 hq102)
              refine Zc (Zj VT.fa40_0 rfl ?_) (Zy1 hq102)
              refine Zc (Zu2 (Zu 1 VT.ty3 rfl rfl rfl ⟨rfl, rfl⟩) ((V.le.of_eq (congrArg V.int (by omega)) : V.le _ (.int (x.block.toNat : Nat)))) ?_) (Zy1 hq102)
              refine Zc (Zm3 [.tmp 103, .tmp 105] [] _ rfl rfl VT.en7 (.refl _) (rPredsN_c (by omega) (fun y hy => by obtain ⟨n, hn⟩ := List.getElem?_of_mem hy; obtain ⟨_, z1, z2⟩ := bare_ok h0 hl hn; exact ⟨z1, fun e he => (z2 e he).2.1⟩) x.block.toNat) ?_) (Zy1 hq102)
              rintro _ _ ⟨rfl, pl, rfl, hpl⟩
              refine Zc (Zd2 (n := pl.length) Try.underlying32 rfl (by simp) (fun hl107 => ?_)) (Zy1 hq102)
              refine Zc (Zj1 rfl rfl rfl ?_) (Zy1 hq102)
              refine Zc (Zs1 rfl hq102 rfl ?_) (Zy0 hq93)
              refine Zc (Zt1 rfl hq93 rfl ?_)
              refine Za (Zi ?_)
              refine Zn1 rfl (fun h110 => ?_) (fun h110 => ?_)
              · exact absurd h110 (by have := hx4 (by omega); omega)
              ·
               refine Zi1 (Zb1 (Zi (Zd ?_)))
               refine Zc (Zh2 rfl rfl (by omega) ?_)
               refine Zc (Zl rfl (Za (Zi ?_)))
               exact ⟨m + 1, (by (try simp only []); omega), (by omega), ⟨rfl, rfl, rfl, rfl, rfl, rfl, rfl, rfl, rfl, rfl, rfl, rfl, rfl, rfl, trivial⟩, (Drops.drop (Drops.drop (Drops.keep (Drops.keep (Drops.keep (Drops.keep (Zt2 _)))))))⟩
             ·
              refine Zk1 hq102 ?_
              refine Zk1 hq102 ?_
              refine Zk1 hq102 ?_
              refine Zk1 hq102 ?_
              refine Zk1 hq102 ?_
              refine Zk1 hq102 ?_
              refine Zc (Zt1 rfl hq102 rfl ?_) (Zy0 hq93)
              refine Zc (Zt1 rfl hq93 rfl ?_)
              refine Za (Zi ?_)
              refine Zq1 rfl rfl ?_
              refine Zi1 (Zb1 (Zi (Zd ?_)))
              refine Zc (Zh2 rfl rfl (by omega) ?_)
              refine Zc (Zl rfl (Za (Zi ?_)))
              exact ⟨m + 1, (by (try simp only []); omega), (by omega), ⟨rfl, rfl, rfl, rfl, rfl, rfl, rfl, rfl, rfl, rfl, rfl, rfl, rfl, rfl, trivial⟩, (Drops.drop (Drops.drop (Drops.keep (Drops.keep (Drops.keep (Drops.keep (Zt2 _)))))))⟩
            ·
             refine Zk1 hq99 ?_
             refine Zc (Zt1 rfl hq99 rfl ?_) (Zy0 hq93)
             refine Zc (Zl rfl ?_) (Zy0 hq93)
             refine Zk1 rfl ?_
             refine Zk1 rfl ?_
             refine Zk1 rfl ?_
             refine Zk1 rfl ?_
             refine Zk1 rfl ?_
             refine Zk1 rfl ?_
             refine Zc (Zt1 rfl rfl rfl ?_) (Zy0 hq93)
             refine Zc (Zt1 rfl hq93 rfl ?_)
             refine Za (Zi ?_)
             refine Zq1 rfl rfl ?_
             refine Zi1 (Zb1 (Zi (Zd ?_)))
             refine Zc (Zh2 rfl rfl (by omega) ?_)
             refine Zc (Zl rfl (Za (Zi ?_)))
             exact ⟨m + 1, (by (try simp only []); omega), (by omega), ⟨rfl, rfl, rfl, rfl, rfl, rfl, rfl, rfl, rfl, rfl, rfl, rfl, rfl, rfl, trivial⟩, (Drops.drop (Drops.drop (Drops.keep (Drops.keep (Drops.keep (Drops.keep (Zt2 _)))))))⟩
          ·
           refine Zk1 hq81 ?_
           refine Zk1 hq81 ?_
           refine Zk1 hq81 ?_
           refine Zk1 hq81 ?_
           refine Zk1 hq81 ?_
           refine Zk1 hq81 ?_
           refine Zc (Zt1 rfl hq81 rfl ?_)
           refine Zc (Zk rfl (Za (Zi (Zb (Zd (Zc (Zj VT.fa40_1 rfl (Zc (Zu 1 VT.ty32 rfl rfl rfl ?_)))))))))
           refine Zc (Zd2 (n := x.args.length) Try.underlying32 rfl (by simp) (fun hl91 => ?_))
           refine Zc (Zj1 rfl rfl rfl (Zc (Zl rfl ?_)))
           refine Zj2 (q := 93) rfl (fun hq93 => ?_) (fun hq93 => ?_)
           · exact absurd hq93 (by rw [hx1]; simp)
           ·
            refine Zc (Zj VT.fa38_2 rfl ?_) (Zy0 hq93)
            refine Zc (Zj VT.fa36_4 rfl ?_) (Zy0 hq93)
            refine Zc (Zu 2 VT.ty34 rfl rfl rfl ?_) (Zy0 hq93)
            refine Zc (Zd2 (n := c.term.to.length) Try.underlying34 rfl (by simp) (fun hl97 => ?_)) (Zy0 hq93)
            refine Zc (Zj1 rfl rfl rfl ?_) (Zy0 hq93)
            refine Zc (Zl rfl ?_) (Zy0 hq93)
            refine Zj2 (q := 99) rfl (fun hq99 => ?_) (fun hq99 => ?_)
            ·
             have hx99 := of_decide_eq_true hq99
             refine Zc (Zl rfl ?_) (Zy1 hq99)
             refine Zc (Zs1 rfl hq99 rfl ?_) (Zy0 hq93)
             refine Zc (Zl rfl ?_) (Zy0 hq93)
             refine Zk1 rfl ?_
             refine Zk1 rfl ?_
             refine Zk1 rfl ?_
             refine Zk1 rfl ?_
             refine Zk1 rfl ?_
             refine Zk1 rfl ?_
             refine Zc (Zt1 rfl rfl rfl ?_) (Zy0 hq93)
             refine Zc (Zt1 rfl hq93 rfl ?_)
             refine Za (Zi ?_)
             refine Zq1 rfl rfl ?_
             refine Zi1 (Zb1 (Zi (Zd ?_)))
             refine Zc (Zh2 rfl rfl (by omega) ?_)
             refine Zc (Zl rfl (Za (Zi ?_)))
             exact ⟨m + 1, (by (try simp only []); omega), (by omega), ⟨rfl, rfl, rfl, rfl, rfl, rfl, rfl, rfl, rfl, rfl, rfl, rfl, rfl, rfl, trivial⟩, (Drops.drop (Drops.drop (Drops.keep (Drops.keep (Drops.keep (Drops.keep (Zt2 _)))))))⟩
            ·
             refine Zk1 hq99 ?_
             refine Zc (Zt1 rfl hq99 rfl ?_) (Zy0 hq93)
             refine Zc (Zl rfl ?_) (Zy0 hq93)
             refine Zk1 rfl ?_
             refine Zk1 rfl ?_
             refine Zk1 rfl ?_
             refine Zk1 rfl ?_
             refine Zk1 rfl ?_
             refine Zk1 rfl ?_
             refine Zc (Zt1 rfl rfl rfl ?_) (Zy0 hq93)
             refine Zc (Zt1 rfl hq93 rfl ?_)
             refine Za (Zi ?_)
             refine Zq1 rfl rfl ?_
             refine Zi1 (Zb1 (Zi (Zd ?_)))
             refine Zc (Zh2 rfl rfl (by omega) ?_)
             refine Zc (Zl rfl (Za (Zi ?_)))
             exact ⟨m + 1, (by (try simp only []); omega), (by omega), ⟨rfl, rfl, rfl, rfl, rfl, rfl, rfl, rfl, rfl, rfl, rfl, rfl, rfl, rfl, trivial⟩, (Drops.drop (Drops.drop (Drops.keep (Drops.keep (Drops.keep (Drops.keep (Zt2 _)))))))⟩
         ·
          refine Zt (Ze1 (Ze1 (Zc1 (Zb1 (Zi (Zd ?_))))))
          refine Zc (Zh2 rfl rfl (by omega) ?_)
          refine Zc (Zl rfl (Za (Zi ?_)))
          exact ⟨j + 1, (by (try simp only []); omega), (by omega), ⟨rfl, rfl, rfl, rfl, rfl, rfl, rfl, rfl, rfl, trivial⟩, (Drops.drop (Drops.keep (Drops.keep (Drops.keep (Zt2 _)))))⟩
       ·
        refine Zk1 hq57 ?_
        refine Zk1 hq57 ?_
        refine Zk1 hq57 ?_
        refine Zk1 hq57 ?_
        refine Zc (Zt1 rfl hq57 rfl ?_)
        refine Za (Zi ?_)
        refine Zq1 rfl rfl ?_
        refine Zi1 (Zi (Zb (Zd (Zc (Zj VT.fa38_2 rfl (Zc (Zj VT.fa36_4 rfl (Zc (Zu 0 VT.ty34 rfl rfl rfl ?_)))))))))
        refine Zc (Zd2 (n := c.term.to.length) Try.underlying34 rfl (by simp) (fun hl66 => ?_))
        refine Zc (Zl rfl (Za (Zi (Zs ?_))))
        refine Zi2 (ι := Nat) (fun m => c.term.to.length - m) (fun m => [(1, some (.ptr g1 0)), (3, some (.ptr g3 0)), (41, some (funcsX (lvU u).fns)), (42, some (.int (lvU u).fns.length)), (43, some (.int k)), (6, some (.ptr g6 0)), (48, some (blocksX (lvF f).blocks)), (49, some (.int (lvF f).blocks.length)), (50, some (.int j)), (7, some (.int j)), (8, some (.ptr g8 0)), (65, some (edgesX c.term.to)), (66, some (.int c.term.to.length)), (67, some (.int m))]) (fun m => [.cells g8 38 (blockV c).leaves, .cells g6 31 [.int (lvF f).name, blocksX (lvF f).blocks], .cells g3 24 [funcsX (lvU u).fns, .int u.main], .cells g1 24 [funcsX u.fns, .int u.main]]) (fun m => m ≤ c.term.to.length) 0 (Nat.zero_le _) ⟨rfl, rfl, rfl, rfl, rfl, rfl, rfl, rfl, rfl, rfl, rfl, rfl, rfl, rfl, trivial⟩ (Drops.keep (Drops.keep (Drops.keep (Drops.keep (Zt2 _))))) ?_
        rintro m hm
        change m ≤ c.term.to.length at hm
        refine Zb (Zd (Zc (Zj1 rfl rfl rfl (Za (Zi (Zb ?_))))))
        refine Zn1 rfl (fun h68 => ?_) (fun h68 => ?_)
        ·
         obtain ⟨x, hx⟩ := get_of_lt c.term.to m h68
         obtain ⟨hx1, hx2, hx3, hx4⟩ := hto x (List.mem_of_getElem? hx)
         obtain ⟨d, hd⟩ := get_of_lt (lvF f).blocks x.block.toNat (by omega)
         refine Zi1 (Zi (Zb (Zs (Zb (Zd ?_)))))
         refine Zc (Zz (el := edgeV x) VT.sl34 rfl rfl (by omega) (get_mapS _ hx) (fun a69 => ?_))
         refine Zc (Za2 VT.ty40 rfl rfl ?_)
         refine Zc (Zb2 VT.zr40 _ rfl rfl (fun g10 => ?_))
         refine Zc (Zx 0 VT.ty40 rfl rfl rfl rfl rfl (Za (Zi (Zb (Zd (Zc (Zj VT.fa31_1 rfl (Zc (Zu 2 VT.ty29 rfl rfl rfl (Zc (Zj VT.fa40_0 rfl (Zc (Zu 0 VT.ty3 rfl rfl rfl ?_)))))))))))))
         refine Zc (Zz (el := blockV d) VT.sl29 rfl rfl (by omega) (get_mapS _ hd) (fun a75 => ?_))
         refine Zc (Za2 VT.ty38 rfl rfl ?_)
         refine Zc (Zb2 VT.zr38 _ rfl rfl (fun g11 => ?_))
         refine Zc (Zx 0 VT.ty38 rfl rfl rfl rfl rfl (Za (Zi (Zb (Zd (Zc (Zj VT.fa38_1 rfl (Zc (Zu 0 VT.ty33 rfl rfl rfl ?_)))))))))
         refine Zc (Zd2 (n := d.ins.length) Try.underlying33 rfl (by simp) (fun hl79 => ?_))
         refine Zc (Zj1 rfl rfl rfl (Zc (Zl rfl ?_)))
         refine Zj2 (q := 81) rfl (fun hq81 => ?_) (fun hq81 => ?_)
         ·
          have hx81 := of_decide_eq_true hq81
          obtain ⟨i0, hi0⟩ := get_of_lt d.ins 0 (by omega)
          refine Zc (Zj VT.fa38_1 rfl ?_) (Zy1 hq81)
          refine Zc (Zu 0 VT.ty33 rfl rfl rfl ?_) (Zy1 hq81)
          refine Zc (Zz (el := insV i0) VT.sl33 rfl rfl (by omega) (get_mapS _ hi0) (fun a84 => ?_)) (Zy1 hq81)
          refine Zc (Zw1 VT.fa42_1 rfl rfl ?_) (Zy1 hq81)
          refine Zc (Zz1 VT.ty3 rfl rfl ?_) (Zy1 hq81)
          refine Zc (Zj1 rfl rfl rfl ?_) (Zy1 hq81)
          refine Zc (Zs1 rfl hq81 rfl ?_)
          refine Zc (Zk rfl (Za (Zi (Zb (Zd (Zc (Zj VT.fa40_1 rfl (Zc (Zu 1 VT.ty32 rfl rfl rfl ?_)))))))))
          refine Zc (Zd2 (n := x.args.length) Try.underlying32 rfl (by simp) (fun hl91 => ?_))
          refine Zc (Zj1 rfl rfl rfl (Zc (Zl rfl ?_)))
          refine Zj2 (q := 93) rfl (fun hq93 => ?_) (fun hq93 => ?_)
          · exact absurd hq93 (by rw [hx1]; simp)
          ·
           refine Zc (Zj VT.fa38_2 rfl ?_) (Zy0 hq93)
           refine Zc (Zj VT.fa36_4 rfl ?_) (Zy0 hq93)
           refine Zc (Zu 2 VT.ty34 rfl rfl rfl ?_) (Zy0 hq93)
           refine Zc (Zd2 (n := c.term.to.length) Try.underlying34 rfl (by simp) (fun hl97 => ?_)) (Zy0 hq93)
           refine Zc (Zj1 rfl rfl rfl ?_) (Zy0 hq93)
           refine Zc (Zl rfl ?_) (Zy0 hq93)
           refine Zj2 (q := 99) rfl (fun hq99 => ?_) (fun hq99 => ?_)
           ·
            have hx99 := of_decide_eq_true hq99
            refine Zc (Zl rfl ?_) (Zy1 hq99)
            refine Zc (Zs1 rfl hq99 rfl ?_) (Zy0 hq93)
            refine Zc (Zl rfl ?_) (Zy0 hq93)
            refine Zj2 (q := 102) rfl (fun hq102 => ?_) (fun hq102 => ?_)
            ·
             refine Zc (Zv 3 VT.ty31 rfl rfl rfl ?_) (Zy1 hq102)
             refine Zc (Zj VT.fa40_0 rfl ?_) (Zy1 hq102)
             refine Zc (Zu2 (Zu 1 VT.ty3 rfl rfl rfl ⟨rfl, rfl⟩) ((V.le.of_eq (congrArg V.int (by omega)) : V.le _ (.int (x.block.toNat : Nat)))) ?_) (Zy1 hq102)
             refine Zc (Zm3 [.tmp 103, .tmp 105] [] _ rfl rfl VT.en7 (.refl _) (rPredsN_c (by omega) (fun y hy => by obtain ⟨n, hn⟩ := List.getElem?_of_mem hy; obtain ⟨_, z1, z2⟩ := bare_ok h0 hl hn; exact ⟨z1, fun e he => (z2 e he).2.1⟩) x.block.toNat) ?_) (Zy1 hq102)
             rintro _ _ ⟨rfl, pl, rfl, hpl⟩
             refine Zc (Zd2 (n := pl.length) Try.underlying32 rfl (by simp) (fun hl107 => ?_)) (Zy1 hq102)
             refine Zc (Zj1 rfl rfl rfl ?_) (Zy1 hq102)
             refine Zc (Zs1 rfl hq102 rfl ?_) (Zy0 hq93)
             refine Zc (Zt1 rfl hq93 rfl ?_)
             refine Za (Zi ?_)
             refine Zn1 rfl (fun h110 => ?_) (fun h110 => ?_)
             · exact absurd h110 (by have := hx4 (by omega); omega)
             ·
              refine Zi1 (Zb1 (Zi (Zd ?_)))
              refine Zc (Zh2 rfl rfl (by omega) ?_)
              refine Zc (Zl rfl (Za (Zi ?_)))
              exact ⟨m + 1, (by (try simp only []); omega), (by omega), ⟨rfl, rfl, rfl, rfl, rfl, rfl, rfl, rfl, rfl, rfl, rfl, rfl, rfl, rfl, trivial⟩, (Drops.drop (Drops.drop (Drops.keep (Drops.keep (Drops.keep (Drops.keep (Zt2 _)))))))⟩
            ·
             refine Zk1 hq102 ?_
             refine Zk1 hq102 ?_
             refine Zk1 hq102 ?_
             refine Zk1 hq102 ?_
             refine Zk1 hq102 ?_
             refine Zk1 hq102 ?_
             refine Zc (Zt1 rfl hq102 rfl ?_) (Zy0 hq93)
             refine Zc (Zt1 rfl hq93 rfl ?_)
             refine Za (Zi ?_)
             refine Zq1 rfl rfl ?_
             refine Zi1 (Zb1 (Zi (Zd ?_)))
             refine Zc (Zh2 rfl rfl (by omega) ?_)
             refine Zc (Zl rfl (Za (Zi ?_)))
             exact ⟨m + 1, (by (try simp only []); omega), (by omega), ⟨rfl, rfl, rfl, rfl, rfl, rfl, rfl, rfl, rfl, rfl, rfl, rfl, rfl, rfl, trivial⟩, (Drops.drop (Drops.drop (Drops.keep (Drops.keep (Drops.keep (Drops.keep (Zt2 _)))))))⟩
           ·
            refine Zk1 hq99 ?_
            refine Zc (Zt1 rfl hq99 rfl ?_) (Zy0 hq93)
            refine Zc (Zl rfl ?_) (Zy0 hq93)
            refine Zk1 rfl ?_
            refine Zk1 rfl ?_
            refine Zk1 rfl ?_
            refine Zk1 rfl ?_
            refine Zk1 rfl ?_
            refine Zk1 rfl ?_
            refine Zc (Zt1 rfl rfl rfl ?_) (Zy0 hq93)
            refine Zc (Zt1 rfl hq93 rfl ?_)
            refine Za (Zi ?_)
            refine Zq1 rfl rfl ?_
            refine Zi1 (Zb1 (Zi (Zd ?_)))
            refine Zc (Zh2 rfl rfl (by omega) ?_)
            refine Zc (Zl rfl (Za (Zi ?_)))
            exact ⟨m + 1, (by (try simp only []); omega), (by omega), ⟨rfl, rfl, rfl, rfl, rfl, rfl, rfl, rfl, rfl, rfl, rfl, rfl, rfl, rfl, trivial⟩, (Drops.drop (Drops.drop (Drops.keep (Drops.keep (Drops.keep (Drops.keep (Zt2 _)))))))⟩
         ·
          refine Zk1 hq81 ?_
          refine Zk1 hq81 ?_
          refine Zk1 hq81 ?_
          refine Zk1 hq81 ?_
          refine Zk1 hq81 ?_
          refine Zk1 hq81 ?_
          refine Zc (Zt1 rfl hq81 rfl ?_)
          refine Zc (Zk rfl (Za (Zi (Zb (Zd (Zc (Zj VT.fa40_1 rfl (Zc (Zu 1 VT.ty32 rfl rfl rfl ?_)))))))))
          refine Zc (Zd2 (n := x.args.length) Try.underlying32 rfl (by simp) (fun hl91 => ?_))
          refine Zc (Zj1 rfl rfl rfl (Zc (Zl rfl ?_)))
          refine Zj2 (q := 93) rfl (fun hq93 => ?_) (fun hq93 => ?_)
          · exact absurd hq93 (by rw [hx1]; simp)
          ·
           refine Zc (Zj VT.fa38_2 rfl ?_) (Zy0 hq93)
           refine Zc (Zj VT.fa36_4 rfl ?_) (Zy0 hq93)
           refine Zc (Zu 2 VT.ty34 rfl rfl rfl ?_) (Zy0 hq93)
           refine Zc (Zd2 (n := c.term.to.length) Try.underlying34 rfl (by simp) (fun hl97 => ?_)) (Zy0 hq93)
           refine Zc (Zj1 rfl rfl rfl ?_) (Zy0 hq93)
           refine Zc (Zl rfl ?_) (Zy0 hq93)
           refine Zj2 (q := 99) rfl (fun hq99 => ?_) (fun hq99 => ?_)
           ·
            have hx99 := of_decide_eq_true hq99
            refine Zc (Zl rfl ?_) (Zy1 hq99)
            refine Zc (Zs1 rfl hq99 rfl ?_) (Zy0 hq93)
            refine Zc (Zl rfl ?_) (Zy0 hq93)
            refine Zk1 rfl ?_
            refine Zk1 rfl ?_
            refine Zk1 rfl ?_
            refine Zk1 rfl ?_
            refine Zk1 rfl ?_
            refine Zk1 rfl ?_
            refine Zc (Zt1 rfl rfl rfl ?_) (Zy0 hq93)
            refine Zc (Zt1 rfl hq93 rfl ?_)
            refine Za (Zi ?_)
            refine Zq1 rfl rfl ?_
            refine Zi1 (Zb1 (Zi (Zd ?_)))
            refine Zc (Zh2 rfl rfl (by omega) ?_)
            refine Zc (Zl rfl (Za (Zi ?_)))
            exact ⟨m + 1, (by (try simp only []); omega), (by omega), ⟨rfl, rfl, rfl, rfl, rfl, rfl, rfl, rfl, rfl, rfl, rfl, rfl, rfl, rfl, trivial⟩, (Drops.drop (Drops.drop (Drops.keep (Drops.keep (Drops.keep (Drops.keep (Zt2 _)))))))⟩
           ·
            refine Zk1 hq99 ?_
            refine Zc (Zt1 rfl hq99 rfl ?_) (Zy0 hq93)
            refine Zc (Zl rfl ?_) (Zy0 hq93)
            refine Zk1 rfl ?_
            refine Zk1 rfl ?_
            refine Zk1 rfl ?_
            refine Zk1 rfl ?_
            refine Zk1 rfl ?_
            refine Zk1 rfl ?_
            refine Zc (Zt1 rfl rfl rfl ?_) (Zy0 hq93)
            refine Zc (Zt1 rfl hq93 rfl ?_)
            refine Za (Zi ?_)
            refine Zq1 rfl rfl ?_
            refine Zi1 (Zb1 (Zi (Zd ?_)))
            refine Zc (Zh2 rfl rfl (by omega) ?_)
            refine Zc (Zl rfl (Za (Zi ?_)))
            exact ⟨m + 1, (by (try simp only []); omega), (by omega), ⟨rfl, rfl, rfl, rfl, rfl, rfl, rfl, rfl, rfl, rfl, rfl, rfl, rfl, rfl, trivial⟩, (Drops.drop (Drops.drop (Drops.keep (Drops.keep (Drops.keep (Drops.keep (Zt2 _)))))))⟩
        ·
         refine Zt (Ze1 (Ze1 (Zc1 (Zb1 (Zi (Zd ?_))))))
         refine Zc (Zh2 rfl rfl (by omega) ?_)
         refine Zc (Zl rfl (Za (Zi ?_)))
         exact ⟨j + 1, (by (try simp only []); omega), (by omega), ⟨rfl, rfl, rfl, rfl, rfl, rfl, rfl, rfl, rfl, trivial⟩, (Drops.drop (Drops.keep (Drops.keep (Drops.keep (Zt2 _)))))⟩
      ·
       refine Zt (Ze1 (Ze1 (Zc1 (Zb1 (Zi (Zd ?_))))))
       refine Zc (Zh2 rfl rfl (by omega) ?_)
       refine Zc (Zl rfl (Za (Zi ?_)))
       exact ⟨k + 1, (by (try simp only []); omega), (by omega), ⟨rfl, rfl, rfl, rfl, rfl, trivial⟩, (Drops.drop (Drops.keep (Drops.keep (Zt2 _))))⟩
     ·
      refine Zt (Ze1 (Ze1 (Zc1 (Zi (Zb (Zd (Zc (Zk rfl (Za (Zi (Zf1 ?_)))))))))))
      refine Zg1 rfl (.tmp rfl) ?_
      rfl
 ·
  refine Zc (Zx1 [.tmp 16] rfl rfl VT.en6 (Leave_e hE) ?_)
  refine Zc (Zl rfl (Zc (Zg2 rfl rfl (Zc (Zg2 rfl rfl ?_)))))
  refine Zc (Zb2 VT.zr24 _ rfl rfl (fun g3 => ?_))
  refine Zc (Zx 0 VT.ty24 rfl rfl rfl rfl rfl (Zc (Zk rfl (Za (Zi (Zb (Zb (Zd (Zc (Zl rfl (Zc (Zj1 rfl rfl rfl (Za (Zi ?_))))))))))))))
  refine Zm1 rfl (fun h21 => ?_) (fun h21 => ?_)
  ·
   refine Zb (Zd (Zc (Zj VT.fa24_0 rfl (Zc (Zu 0 VT.ty22 rfl rfl rfl ?_)))))
   refine Zc (V_len_raw Try.underlying22 rfl ?_)
   refine Zc (Zj1 rfl rfl rfl (Zc (Zk rfl (Za (Zi (Zf1 ?_))))))
   refine Zd1 (Zg1 rfl (.tmp rfl) ?_)
   rfl
  · exact absurd (by simpa using h21) hE
end Go.Proofs.Ytigkaadmobgfnaa.X40
