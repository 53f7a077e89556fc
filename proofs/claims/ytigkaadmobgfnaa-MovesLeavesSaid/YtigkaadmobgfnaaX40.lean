import Derived.Test.YtigkaadmobgfnaaVT
import Derived.Test.YtigkaadmobgfnaaS2
import Derived.Test.YtigkaadmobgfnaaVO
import Derived.Test.YtigkaadmobgfnaaDZ
import Derived.Test.YtigkaadmobgfnaaX1
import Derived.Test.YtigkaadmobgfnaaX2
import Derived.Test.YtigkaadmobgfnaaX3
import Derived.Test.YtigkaadmobgfnaaX4
import Derived.Test.YtigkaadmobgfnaaX5
import Derived.Test.YtigkaadmobgfnaaX6
import Derived.Test.YtigkaadmobgfnaaX7
import Derived.Test.YtigkaadmobgfnaaX8
import Derived.Test.YtigkaadmobgfnaaX9
import Derived.Test.YtigkaadmobgfnaaX10
import Derived.Test.YtigkaadmobgfnaaX12
import Derived.Test.YtigkaadmobgfnaaX15
import Derived.Test.YtigkaadmobgfnaaX17
import Derived.Test.YtigkaadmobgfnaaX25
import Derived.Test.YtigkaadmobgfnaaX26
import Derived.Test.YtigkaadmobgfnaaX30
import Derived.Test.YtigkaadmobgfnaaX36
import Derived.Test.YtigkaadmobgfnaaX38
import Derived.Test.YtigkaadmobgfnaaX39
set_option linter.unusedVariables false
set_option linter.unusedSimpArgs false
namespace Go.Proofs.Ytigkaadmobgfnaa.X40
open Go.VL Go.SM Go.Proofs.Ytigkaadmobgfnaa Go.Proofs.Ytigkaadmobgfnaa.X1 Go.Proofs.Ytigkaadmobgfnaa.X2 Go.Proofs.Ytigkaadmobgfnaa.X3 Go.Proofs.Ytigkaadmobgfnaa.X4 Go.Proofs.Ytigkaadmobgfnaa.X5 Go.Proofs.Ytigkaadmobgfnaa.X6 Go.Proofs.Ytigkaadmobgfnaa.X7 Go.Proofs.Ytigkaadmobgfnaa.X8 Go.Proofs.Ytigkaadmobgfnaa.X9 Go.Proofs.Ytigkaadmobgfnaa.X10 Go.Proofs.Ytigkaadmobgfnaa.X12 Go.Proofs.Ytigkaadmobgfnaa.X15 Go.Proofs.Ytigkaadmobgfnaa.X17 Go.Proofs.Ytigkaadmobgfnaa.X25 Go.Proofs.Ytigkaadmobgfnaa.X26 Go.Proofs.Ytigkaadmobgfnaa.X30 Go.Proofs.Ytigkaadmobgfnaa.X36 Go.Proofs.Ytigkaadmobgfnaa.X38 Go.Proofs.Ytigkaadmobgfnaa.X39
theorem fns_at {u : SUnit} (h : unitF u = 0) : u.fns.length ≤ 256 ∧ ∀ f ∈ u.fns, funcF f = 0 := by
  unfold unitF at h
  split at h
  · cases h
  · split at h
    · cases h
    · split at h
      · cases h
      · split at h
        · rename_i hn; exact absurd h hn
        · rename_i hn
          exact ⟨by omega, firstE_ok (Decidable.not_not.1 hn)⟩
theorem leave_ok {f : SFunc} (h0 : funcF f = 0) (hl : (splitF f).blocks.length ≤ 128) : VPure Try.prog 16 [funcV f] (.tup [funcV (lvF f), .int 0]) := by
  have h := leave_c h0
  rwa [lvX, if_neg (by omega)] at h
theorem leave_big {f : SFunc} (h0 : funcF f = 0) (hl : ¬ (splitF f).blocks.length ≤ 128) : VPure Try.prog 16 [funcV f] (.tup [.agg VT.zs31, .int 2]) := by
  have h := leave_c h0
  rwa [lvX, if_pos (by omega)] at h
open Classical in
noncomputable def lvUX (u : SUnit) : V := if lvErr u = 0 then .tup [unitV (lvU u), .int 0] else .tup [.agg VT.zs24, .int (lvErr u)]
open Go.VL renaming VOps_nil → Za, VW_seq → Zb, VW_region → Zd, Then_n → Zi, V_fieldAddr → Zj, V_assign → Zk, V_move → Zl, VW_block → Zs, VW_exit → Zt, V_load → Zu, V_load_agg → Zv, V_store_agg → Zx, V_store → Zy, V_indexAddr → Zz, InBlock_r → Za1, InBlock_n → Zb1, InBlock_hit → Zc1, Then_r → Zd1, Then_e → Ze1, VW_ret → Zf1, VRet_one → Zg1, VRet_many → Zh1, VW_skip → Zi1, V_bin → Zj1, VW_condEq → Zl1, VW_condNe → Zm1, VW_condP → Zn1, VW_condF → Zq1, V_pickT → Zs1, V_pickF → Zt1, V_fieldAddr_ep → Zw1, V_callP → Zx1, V_load_ep → Zz1, V_load_ep_agg → Za2, V_alloc → Zb2, V_box → Zc2, V_lenN → Zd2, V_build → Zf2, V_extract → Zg2, V_add → Zh2, VW_loopF → Zi2, VOps_split → Zj2, V_not → Zl2, Drops.refl → Zt2, VOp_as → Zu2, V_appendN → Zi3, V_lit → Zk3, V_call → Zm3
set_option maxRecDepth 100000 in
set_option maxHeartbeats 8000000 in
theorem Leave_c (u : SUnit) : VPure Try.prog 6 [unitV u] (lvUX u) := by
 have hr := lvUX.eq_def u
 have he := lvErr.eq_def u
 refine V_start (nt := 47) Try.func6 rfl rfl rfl ?_
 refine Zb (Zd ?_)
 refine Zc (Zc2 rfl rfl (fun g1 => ?_))
 refine Zc (Zb2 VT.zr24 _ rfl rfl (fun g2 => ?_))
 refine Zc (Zk rfl (Za (Zi (Zb (Zb (Zd (Zc (Zv 1 VT.ty24 rfl rfl rfl ?_))))))))
 by_cases hU : unitF u = 0
 ·
  rw [if_neg (fun h => h hU)] at he
  have hC := Check_c u
  rw [hU] at hC
  obtain ⟨hul, hfs⟩ := fns_at hU
  refine Zc (Zx1 [.tmp 10] rfl rfl VT.en9 (hC) ?_)
  refine Zc (Zk rfl (Za (Zi (Zb (Zd (Zc (Zl rfl (Zc (Zj1 rfl rfl rfl (Za (Zi ?_)))))))))))
  refine Zm1 rfl (fun h13 => ?_) (fun h13 => ?_)
  · exact absurd rfl h13
  ·
   refine Zi1 (Zi (Zb (Zd (Zc (Zj VT.fa24_1 rfl (Zc (Zu 1 VT.ty3 rfl rfl rfl ?_)))))))
   refine Zc (Zf2 [1] [.tmp 17] VT.st24 rfl rfl rfl rfl ?_)
   refine Zc (Zb2 VT.zr24 _ rfl rfl (fun g5 => ?_))
   refine Zc (Zx 0 VT.ty24 rfl rfl rfl rfl rfl (Za (Zi ?_)))
   refine VW_cells 0 (ls' := [.sl 2 (some .nil) [], .int u.main]) rfl ⟨V.le.nilTok 2, rfl, V.le.refl _, rfl, trivial⟩ ?_
   refine VW_nilBuf 31 2 ?_
   refine Zb (Zb (Zd (Zc (Zj VT.fa24_0 rfl (Zc (Zu 3 VT.ty22 rfl rfl rfl ?_))))))
   refine Zc (Zd2 (n := u.fns.length) Try.underlying22 rfl (by simp) (fun hl21 => ?_))
   refine Zc (Zl rfl (Za (Zi (Zs ?_))))
   refine Zi2 (ι := Nat × Tok) (fun (i, tok) => u.fns.length - i) (fun (i, tok) => [(2, some (.ptr g2 0)), (5, some (.ptr g5 0)), (20, some (funcsX u.fns)), (21, some (.int u.fns.length)), (22, some (.int i))]) (fun (i, tok) => [.buf tok 31 2 i, .cells g5 24 [.sl 2 (some tok) ((u.fns.take i).map fun f => funcV (lvF f)), .int u.main], .cells g2 24 VT.zs24]) (fun (i, tok) => i ≤ u.fns.length ∧ ∀ f ∈ u.fns.take i, (splitF f).blocks.length ≤ 128) (0, .nil) ⟨Nat.zero_le _, fun f hf => by cases hf⟩ ⟨rfl, rfl, rfl, rfl, rfl, trivial⟩ (Drops.buf (by simp) (Drops.keep (Drops.keep (Drops.drop (Zt2 _))))) ?_
   rintro ⟨i, tok⟩ hA
   change i ≤ u.fns.length ∧ ∀ f ∈ u.fns.take i, (splitF f).blocks.length ≤ 128 at hA
   obtain ⟨hi, hS⟩ := hA
   refine Zb (Zd (Zc (Zj1 rfl rfl rfl (Za (Zi (Zb ?_))))))
   refine Zn1 rfl (fun h23 => ?_) (fun h23 => ?_)
   ·
    obtain ⟨f, hf⟩ := get_of_lt u.fns i h23
    have h0 := hfs f (List.mem_of_getElem? hf)
    refine Zi1 (Zi (Zb (Zs (Zb (Zd ?_)))))
    refine Zc (Zz (el := funcV f) VT.sl22 rfl rfl (by omega) (get_mapS _ hf) (fun a24 => ?_))
    refine Zc (Za2 VT.ty31 rfl rfl ?_)
    refine Zc (Zb2 VT.zr31 _ rfl rfl (fun g7 => ?_))
    refine Zc (Zx 0 VT.ty31 rfl rfl rfl rfl rfl (Za (Zi (Zb (Zd (Zc (Zv 0 VT.ty31 rfl rfl rfl ?_)))))))
    by_cases hl : (splitF f).blocks.length ≤ 128
    ·
     have hsm : ∀ x ∈ u.fns.take (i + 1), (splitF x).blocks.length ≤ 128 := fun x hx => by rw [take_snoc hf] at hx; rcases List.mem_append.1 hx with h | h; exact hS x h; rw [List.mem_singleton.1 h]; exact hl
     refine Zc (Zx1 [.tmp 27] rfl rfl VT.en16 (leave_ok h0 hl) ?_)
     refine Zc (Zl rfl (Zc (Zg2 rfl rfl (Zc (Zg2 rfl rfl ?_)))))
     refine Zc (Zb2 VT.zr31 _ rfl rfl (fun g8 => ?_))
     refine Zc (Zx 0 VT.ty31 rfl rfl rfl rfl rfl (Zc (Zk rfl (Za (Zi (Zb (Zb (Zd (Zc (Zl rfl (Zc (Zj1 rfl rfl rfl (Za (Zi ?_))))))))))))))
     refine Zm1 rfl (fun h32 => ?_) (fun h32 => ?_)
     · exact absurd rfl h32
     ·
      refine Zi1 (Zi (Zd (Zc (Zj VT.fa24_0 rfl (Zc (Zu 3 VT.ty22 rfl rfl rfl (Zc (Zv 0 VT.ty31 rfl rfl rfl ?_))))))))
      refine Zc (Zk3 [.tmp 37] VT.sl22 rfl rfl rfl rfl rfl ?_)
      refine Zc (Zi3 2 _ VT.sl22 rfl rfl rfl (by simp; omega) (by simp; omega) (fun t39 => ?_))
      refine Zc (Zj VT.fa24_0 rfl (Zc (Zy 3 VT.ty22 rfl rfl rfl rfl rfl (Za (Zb1 (Zi (Zd ?_)))))))
      refine Zc (Zh2 rfl rfl (by omega) ?_)
      refine Zc (Zl rfl (Za (Zi ?_)))
      exact ⟨(i + 1, t39), (by (try simp only []); omega), ⟨by omega, hsm⟩, ⟨rfl, rfl, rfl, rfl, rfl, trivial⟩, (Drops.drop (Drops.drop (Drops.buf (by simp; omega) (Drops.keepE (congrArg (fun l => Own.cells g5 24 [.sl 2 (some t39) l, .int u.main]) (by rw [take_snoc hf, List.map_append]; rfl)) (Drops.keep (Zt2 _))))))⟩
    ·
     rw [if_pos (fun h => hl (h f (List.mem_of_getElem? hf)))] at he
     rw [if_neg (by rw [he]; decide)] at hr
     refine Zc (Zx1 [.tmp 27] rfl rfl VT.en16 (leave_big h0 hl) ?_)
     refine Zc (Zl rfl (Zc (Zg2 rfl rfl (Zc (Zg2 rfl rfl ?_)))))
     refine Zc (Zb2 VT.zr31 _ rfl rfl (fun g8 => ?_))
     refine Zc (Zx 0 VT.ty31 rfl rfl rfl rfl rfl (Zc (Zk rfl (Za (Zi (Zb (Zb (Zd (Zc (Zl rfl (Zc (Zj1 rfl rfl rfl (Za (Zi ?_))))))))))))))
     refine Zm1 rfl (fun h32 => ?_) (fun h32 => ?_)
     ·
      refine Zb (Zd ?_)
      refine Zc (Zf2 [] [] VT.st24 rfl rfl rfl rfl ?_)
      refine Zc (Zl rfl (Zc (Zx 4 VT.ty24 rfl rfl rfl rfl rfl (Zc (Zk rfl (Za (Zi (Zf1 ?_))))))))
      refine Zd1 (Za1 (Zd1 (Zd1 (Za1 (Zd1 (Zh1 rfl rfl (.cons (.agg (i := 4) VT.ty24 rfl rfl rfl) (.cons (.tmp rfl) (.nil))) ?_))))))
      rw [hr, he]
      rfl
     · exact absurd h32 (by decide)
   ·
    have hie : i = u.fns.length := by omega
    subst hie
    have hst : V.le (.sl 2 (some tok) ((u.fns.take u.fns.length).map fun f => funcV (lvF f))) (funcsX (lvU u).fns) := by rw [List.take_length]; show V.le _ (.sl 2 none ((u.fns.map lvF).map funcV)); rw [List.map_map]; exact V.le.strip
    rw [List.take_length] at hS
    have hS : SmallF u := hS
    rw [if_neg (fun h => h hS)] at he
    refine Zt (Ze1 (Ze1 (Zc1 (Zi ?_))))
    refine VW_cells 1 (ls' := [funcsX (lvU u).fns, .int u.main]) rfl ⟨hst, rfl, V.le.refl _, rfl, trivial⟩ ?_
    refine Zb (Zb (Zd ?_))
    refine Zc (Zu2 (Zv 1 VT.ty24 rfl rfl rfl ⟨rfl, rfl⟩) ((V.le.of_eq rfl : V.le _ (unitV (lvU u)))) ?_)
    refine Zc (Zx1 [.tmp 42] rfl rfl VT.en10 (MCheck_c (lvU u)) ?_)
    refine Zc (Zj1 rfl rfl rfl (Za (Zi ?_)))
    refine Zm1 rfl (fun h44 => ?_) (fun h44 => ?_)
    ·
     rw [if_pos h44] at he
     rw [if_neg (by rw [he]; decide)] at hr
     have hfin : lvUX u = .tup [.agg VT.zs24, .int 2] := by rw [hr, he]
     refine Zb (Zd ?_)
     refine Zc (Zf2 [] [] VT.st24 rfl rfl rfl rfl ?_)
     refine Zc (Zx 2 VT.ty24 rfl rfl rfl rfl rfl (Zc (Zk rfl (Za (Zi (Zf1 ?_))))))
     refine Zd1 (Zh1 rfl rfl (.cons (.agg (i := 2) VT.ty24 rfl rfl rfl) (.cons (.tmp rfl) (.nil))) ?_)
     rw [hfin]
     rfl
    ·
     rw [if_neg (fun h => h h44)] at he
     rw [if_pos he] at hr
     have hfin := hr
     refine Zi1 (Zi (Zb (Zd (Zc (Zv 1 VT.ty24 rfl rfl rfl (Zc (Zx 2 VT.ty24 rfl rfl rfl rfl rfl (Zc (Zk rfl (Za (Zi (Zf1 ?_))))))))))))
     refine Zh1 rfl rfl (.cons (.agg (i := 2) VT.ty24 rfl rfl rfl) (.cons (.tmp rfl) (.nil))) ?_
     rw [hfin]
     rfl
 ·
  rw [if_pos hU] at he
  rw [if_neg (by rw [he]; exact hU)] at hr
  refine Zc (Zx1 [.tmp 10] rfl rfl VT.en9 (Check_c u) ?_)
  refine Zc (Zk rfl (Za (Zi (Zb (Zd (Zc (Zl rfl (Zc (Zj1 rfl rfl rfl (Za (Zi ?_)))))))))))
  refine Zm1 rfl (fun h13 => ?_) (fun h13 => ?_)
  ·
   refine Zb (Zd ?_)
   refine Zc (Zf2 [] [] VT.st24 rfl rfl rfl rfl ?_)
   refine Zc (Zl rfl (Zc (Zx 0 VT.ty24 rfl rfl rfl rfl rfl (Zc (Zk rfl (Za (Zi (Zf1 ?_))))))))
   refine Zd1 (Zh1 rfl rfl (.cons (.agg (i := 0) VT.ty24 rfl rfl rfl) (.cons (.tmp rfl) (.nil))) ?_)
   rw [hr, he]
   rfl
  · exact absurd (by simpa using h13) hU
theorem Leave_0 {u : SUnit} (h : lvErr u = 0) : VPure Try.prog 6 [unitV u] (.tup [unitV (lvU u), .int 0]) := by
  have h1 := Leave_c u
  rwa [lvUX, if_pos h] at h1
theorem Leave_e {u : SUnit} (h : ¬ lvErr u = 0) : VPure Try.prog 6 [unitV u] (.tup [.agg VT.zs24, .int (lvErr u)]) := by
  have h1 := Leave_c u
  rwa [lvUX, if_neg h] at h1
end Go.Proofs.Ytigkaadmobgfnaa.X40
