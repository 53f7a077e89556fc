import Derived.Test.YtimmnbdajflgmaaVT
import Derived.Test.YtimmnbdajflgmaaS2
import Derived.Test.YtimmnbdajflgmaaVF
import Derived.Test.YtimmnbdajflgmaaDZ
import Derived.Test.YtimmnbdajflgmaaXW
import Derived.Test.YtimmnbdajflgmaaX1
import Derived.Test.YtimmnbdajflgmaaX2
import Derived.Test.YtimmnbdajflgmaaX3
import Derived.Test.YtimmnbdajflgmaaX4
import Derived.Test.YtimmnbdajflgmaaX5
import Derived.Test.YtimmnbdajflgmaaX6
import Derived.Test.YtimmnbdajflgmaaX7
import Derived.Test.YtimmnbdajflgmaaX8
import Derived.Test.YtimmnbdajflgmaaX9
import Derived.Test.YtimmnbdajflgmaaX10
import Derived.Test.YtimmnbdajflgmaaX12
import Derived.Test.YtimmnbdajflgmaaX13
set_option linter.unusedVariables false
set_option linter.unusedSimpArgs false
namespace Go.Proofs.Ytimmnbdajflgmaa.X14
open Go.VL Go.SM Go.Proofs.Ytimmnbdajflgmaa Go.Proofs.Ytimmnbdajflgmaa.XW Go.Proofs.Ytimmnbdajflgmaa.X1 Go.Proofs.Ytimmnbdajflgmaa.X2 Go.Proofs.Ytimmnbdajflgmaa.X3 Go.Proofs.Ytimmnbdajflgmaa.X4 Go.Proofs.Ytimmnbdajflgmaa.X5 Go.Proofs.Ytimmnbdajflgmaa.X6 Go.Proofs.Ytimmnbdajflgmaa.X7 Go.Proofs.Ytimmnbdajflgmaa.X8 Go.Proofs.Ytimmnbdajflgmaa.X9 Go.Proofs.Ytimmnbdajflgmaa.X10 Go.Proofs.Ytimmnbdajflgmaa.X12 Go.Proofs.Ytimmnbdajflgmaa.X13
theorem flat_zero (n : Nat) : (List.replicate n (V.raw (.int .i64 0))).flatMap V.leaves = List.replicate n (V.int 0) := by
  induction n with
  | zero => rfl
  | succ n ih => rw [List.replicate_succ, List.flatMap_cons, ih]; rfl
theorem flat_ints2 (l : List Int) : (l.map V.int).flatMap V.leaves = l.map V.int := by
  induction l with
  | nil => rfl
  | cons a l ih => rw [List.map_cons, List.flatMap_cons, ih]; rfl
theorem fill_set {l z : List Int} {k : Nat} {x : Int} (h : l.length = z.length) (hx : l[k]? = some x) : ((l.take k ++ z.drop k).map V.int).set k (V.int x) = (l.take (k + 1) ++ z.drop (k + 1)).map V.int := by
  have hk := (List.getElem?_eq_some_iff.1 hx).1
  obtain ⟨y, hy⟩ : ∃ y, z[k]? = some y := ⟨_, List.getElem?_eq_getElem (by omega)⟩
  rw [← List.map_set, List.set_append_right _ _ (by rw [List.length_take]; omega), List.length_take, Nat.min_eq_left (by omega), Nat.sub_self, drop_cons hy, List.set_cons_zero, take_snoc hx, List.append_assoc]
  rfl
theorem fill_zero {l z : List Int} : (l.take 0 ++ z.drop 0) = z := by simp
theorem fill_end {l z : List Int} {k : Nat} (h : l.length = z.length) (hk : ¬ k < l.length) : (l.take k ++ z.drop k) = l := by
  rw [List.take_of_length_le (by omega), List.drop_of_length_le (by omega), List.append_nil]
theorem fill_len {l z : List Int} {k : Nat} (h : l.length = z.length) : (l.take k ++ z.drop k).length = z.length := by
  rw [List.length_append, List.length_take, List.length_drop]
  omega
theorem fits_ints (l : List Int) : ∀ x ∈ l.map V.int, x.fits 1 = true ∧ ((∃ ls, x = .agg ls) ∨ x.leaf = true) := fun x hx => by
  obtain ⟨n, _, rfl⟩ := List.mem_map.1 hx
  exact ⟨rfl, .inr rfl⟩
open Go.VL renaming VOps_nil → Za, VW_seq → Zb, VW_region → Zd, Needs_nil → Ze, VOps_skipU → Zh, Then_n → Zi, V_fieldAddr → Zj, V_assign → Zk, V_move → Zl, eqRes → Zm, vopT → Zn, goodS → Zo, good0 → Zq, VW_block → Zs, VW_exit → Zt, V_load → Zu, V_load_agg → Zv, V_store_agg → Zx, V_store → Zy, V_indexAddr → Zz, InBlock_r → Za1, InBlock_n → Zb1, InBlock_hit → Zc1, Then_r → Zd1, Then_e → Ze1, VW_ret → Zf1, VRet_one → Zg1, VRet_many → Zh1, VW_skip → Zi1, V_bin → Zj1, VW_condNe → Zm1, VW_condP → Zn1, VW_condT → Zp1, VW_condF → Zq1, VW_cond → Zr1, V_pickT → Zs1, V_pickF → Zt1, V_callP → Zx1, V_load_ep → Zz1, V_alloc → Zb2, V_box → Zc2, V_lenN → Zd2, V_build → Zf2, V_extract → Zg2, V_add → Zh2, VW_loopF → Zi2, VOps_split → Zj2, V_not → Zl2, goodA → Zm2, goodU → Zo2, evs_cons → Zp2, evs_nil → Zq2, V_indexAddr_row → Zr2, Drops.refl → Zt2, VOp_as → Zu2, perm_erase → Zv2, oneRes → Zw2, oneE → Zx2, anyRes → Za3, epRes → Zb3, epE → Zc3, oneY → Zd3, V_callKs → Zl3, V_call → Zm3
end Go.Proofs.Ytimmnbdajflgmaa.X14
