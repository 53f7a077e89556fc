import Derived.Test.YtaldllbomhgciaaVT
import Derived.Test.YtaldllbomhgciaaS2
import Derived.Test.YtaldllbomhgciaaDZ
import Derived.Test.YtaldllbomhgciaaX1
import Derived.Test.YtaldllbomhgciaaX2
import Derived.Test.YtaldllbomhgciaaX3
import Derived.Test.YtaldllbomhgciaaX4
import Derived.Test.YtaldllbomhgciaaX5
import Derived.Test.YtaldllbomhgciaaX6
import Derived.Test.YtaldllbomhgciaaX7
import Derived.Test.YtaldllbomhgciaaX8
import Derived.Test.YtaldllbomhgciaaX9
import Derived.Test.YtaldllbomhgciaaX10
import Derived.Test.YtaldllbomhgciaaX12
set_option linter.unusedVariables false
set_option linter.unusedSimpArgs false
namespace Go.Proofs.Ytaldllbomhgciaa.X13
open Go.VL Go.SM Go.Proofs.Ytaldllbomhgciaa Go.Proofs.Ytaldllbomhgciaa.X1 Go.Proofs.Ytaldllbomhgciaa.X2 Go.Proofs.Ytaldllbomhgciaa.X3 Go.Proofs.Ytaldllbomhgciaa.X4 Go.Proofs.Ytaldllbomhgciaa.X5 Go.Proofs.Ytaldllbomhgciaa.X6 Go.Proofs.Ytaldllbomhgciaa.X7 Go.Proofs.Ytaldllbomhgciaa.X8 Go.Proofs.Ytaldllbomhgciaa.X9 Go.Proofs.Ytaldllbomhgciaa.X10 Go.Proofs.Ytaldllbomhgciaa.X12
def natsX (l : List Nat) : List V := (l.map fun (k : Nat) => (k : Int)).map V.int
theorem natsX_len (l : List Nat) : (natsX l).length = l.length := by simp [natsX]
theorem natsX_app (l : List Nat) (k : Nat) : natsX (l ++ [k]) = natsX l ++ [V.int k] := by simp [natsX]
def ordS (g : Nat) : Option (Nat × Nat × List V) → List Nat → Store
  | none, l => [.cells g 38 [.raw (.slice none 0 0)]]
  | some (gs, cap, rest), l => [.cells g 38 [.raw (.slice (some ⟨gs, 0, none⟩) l.length cap)], .cells gs 3 (natsX l ++ rest)]
def ordOk : Option (Nat × Nat × List V) → List Nat → Prop
  | none, l => l = []
  | some (gs, cap, rest), l => (natsX l ++ rest).length = cap ∧ l.length ≤ cap ∧ cap ≤ maxLen
open Go.VL renaming VOps_nil → Za, VW_seq → Zb, VW_region → Zd, Needs_nil → Ze, Then_n → Zi, V_fieldAddr → Zj, V_assign → Zk, V_move → Zl, eqRes → Zm, vopT → Zn, goodS → Zo, good0 → Zq, VW_block → Zs, VW_exit → Zt, V_load → Zu, V_load_agg → Zv, V_store → Zy, V_indexAddr → Zz, InBlock_n → Zb1, InBlock_hit → Zc1, Then_r → Zd1, Then_e → Ze1, VW_ret → Zf1, VRet_many → Zh1, VW_skip → Zi1, V_bin → Zj1, VW_condEq → Zl1, VW_condNe → Zm1, VW_condP → Zn1, VW_condN → Zo1, V_nilCheck → Zv1, V_fieldAddr_ep → Zw1, V_callP → Zx1, V_load_ep → Zz1, V_alloc → Zb2, V_box → Zc2, V_lenN → Zd2, V_build → Zf2, V_add → Zh2, VW_loopF → Zi2, V_sub → Zk2, V_not → Zl2, goodA → Zm2, goodU → Zo2, V_indexAddr_row → Zr2, V_fieldAddr_ep_agg → Zs2, Drops.refl → Zt2, VOp_as → Zu2, perm_erase → Zv2, anyRes → Za3, epRes → Zb3, epE → Zc3, V_load_elem1 → Zf3, V_store_elem1 → Zh3, V_lit → Zk3, V_call → Zm3, VRet_end → Zn3
set_option maxRecDepth 100000 in
theorem leave0_c (g : Nat) (k : Nat) : VCalls Try.prog 58 [.int k, .ptr g 0] (ordS g none []) fun r S' => ∃ x, S' = ordS g (some x) [k] ∧ ordOk (some x) [k] := by
 refine VCalls_drops ?_
 refine V_start (nt := 7) Try.func58 rfl rfl rfl ?_
 refine Zd (Zc (Zu 0 VT.ty38 rfl rfl rfl (Zc (Zl rfl ?_))))
 refine Zc (Zk3 [.tmp 4] VT.sl38 rfl rfl rfl rfl rfl ?_)
 refine Zc (V_appendRowL VT.sl38 (by decide) rfl rfl (by simp) (by simp) (by intro y hy; rw [List.mem_singleton.1 hy]; rfl) (fun g6 cap6 rest6 hc6 hm6 hl6 => ?_))
 refine Zc (Zy 1 VT.ty38 rfl rfl rfl rfl rfl (Za ?_))
 refine Zn3 rfl ?_
 refine ⟨_, (Drops.pick 1 rfl rfl (Drops.pick 0 rfl rfl (Drops.nil _))), (g6, cap6, rest6), rfl, ?_, hc6, hm6⟩
 exact hl6.trans (Nat.mul_one _)
set_option maxRecDepth 100000 in
theorem leave1_c (g gs cap : Nat) (rest : List V) (l : List Nat) (k : Nat) (hl : l.length ≤ 1000000) (hok : ordOk (some (gs, cap, rest)) l) : VCalls Try.prog 58 [.int k, .ptr g 0] (ordS g (some (gs, cap, rest)) l) fun r S' => ∃ x, S' = ordS g (some x) (l ++ [k]) ∧ ordOk (some x) (l ++ [k]) := by
 refine VCalls_drops ?_
 obtain ⟨hll, hlc, hcm⟩ := hok
 have htk : (natsX l ++ rest).take (l.length * 1) = natsX l := by rw [Nat.mul_one, List.take_append_of_le_length (by rw [natsX_len]; exact Nat.le_refl _), List.take_of_length_le (by rw [natsX_len]; exact Nat.le_refl _)]
 refine V_start (nt := 7) Try.func58 rfl rfl rfl ?_
 refine Zd (Zc (Zu 0 VT.ty38 rfl rfl rfl (Zc (Zl rfl ?_))))
 refine Zc (Zk3 [.tmp 4] VT.sl38 rfl rfl rfl rfl rfl ?_)
 refine Zc (V_appendRaw 1 VT.sl38 (by decide) rfl rfl rfl (by rw [hll, Nat.mul_one]) hlc hcm (by simp; omega) (by intro y hy; rw [List.mem_singleton.1 hy]; rfl) (fun g6 cap6 rest6 hc6 hm6 hl6 => ?_))
 refine Zc (Zy 0 VT.ty38 rfl rfl rfl rfl rfl (Za ?_))
 refine Zn3 rfl ?_
 rw [htk] at hl6
 refine ⟨_, (Drops.keep (Drops.keep (Zt2 _))), (g6, cap6, rest6), ?_, ?_, ?_, hm6⟩
 · rw [htk, ordS, natsX_app, List.append_assoc, List.length_append]; rfl
 · rw [natsX_app, List.append_assoc]; exact hl6.trans (Nat.mul_one _)
 · rw [List.length_append]; exact hc6
theorem leave_c (g : Nat) (x : Option (Nat × Nat × List V)) (l : List Nat) (k : Nat) (h : ordOk x l) (hl : l.length ≤ 128) : VCalls Try.prog 58 [.int k, .ptr g 0] (ordS g x l) fun r S' => ∃ x, S' = ordS g x (l ++ [k]) ∧ ordOk x (l ++ [k]) := by
  cases x with
  | none =>
    have h : l = [] := h
    subst h
    exact (leave0_c g k).mono fun r S' ⟨x, h1, h2⟩ => ⟨some x, h1, h2⟩
  | some x => exact (leave1_c g x.1 x.2.1 x.2.2 l k (Nat.le_trans hl (by omega)) h).mono fun r S' ⟨x, h1, h2⟩ => ⟨some x, h1, h2⟩
end Go.Proofs.Ytaldllbomhgciaa.X13
