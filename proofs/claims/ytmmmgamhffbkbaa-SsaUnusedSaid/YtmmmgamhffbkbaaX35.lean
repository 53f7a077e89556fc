import Derived.Test.YtmmmgamhffbkbaaVT
import Derived.Test.YtmmmgamhffbkbaaS2
import Derived.Test.YtmmmgamhffbkbaaVO
import Derived.Test.YtmmmgamhffbkbaaDZ
import Derived.Test.YtmmmgamhffbkbaaX1
import Derived.Test.YtmmmgamhffbkbaaX2
import Derived.Test.YtmmmgamhffbkbaaX3
import Derived.Test.YtmmmgamhffbkbaaX4
import Derived.Test.YtmmmgamhffbkbaaX5
import Derived.Test.YtmmmgamhffbkbaaX6
import Derived.Test.YtmmmgamhffbkbaaX7
import Derived.Test.YtmmmgamhffbkbaaX8
import Derived.Test.YtmmmgamhffbkbaaX9
import Derived.Test.YtmmmgamhffbkbaaX10
import Derived.Test.YtmmmgamhffbkbaaXW
import Derived.Test.YtmmmgamhffbkbaaX25
import Derived.Test.YtmmmgamhffbkbaaX26
import Derived.Test.YtmmmgamhffbkbaaX34
set_option linter.unusedVariables false
set_option linter.unusedSimpArgs false
namespace Go.Proofs.Ytmmmgamhffbkbaa.X35
open Go.VL Go.SM Go.Proofs.Ytmmmgamhffbkbaa Go.Proofs.Ytmmmgamhffbkbaa.X1 Go.Proofs.Ytmmmgamhffbkbaa.X2 Go.Proofs.Ytmmmgamhffbkbaa.X3 Go.Proofs.Ytmmmgamhffbkbaa.X4 Go.Proofs.Ytmmmgamhffbkbaa.X5 Go.Proofs.Ytmmmgamhffbkbaa.X6 Go.Proofs.Ytmmmgamhffbkbaa.X7 Go.Proofs.Ytmmmgamhffbkbaa.X8 Go.Proofs.Ytmmmgamhffbkbaa.X9 Go.Proofs.Ytmmmgamhffbkbaa.X10 Go.Proofs.Ytmmmgamhffbkbaa.XW Go.Proofs.Ytmmmgamhffbkbaa.X25 Go.Proofs.Ytmmmgamhffbkbaa.X26 Go.Proofs.Ytmmmgamhffbkbaa.X34
def rowV (rows : List (Option XRow)) (v : Nat) : Option XRow := rows[v]?.getD none
def reV (n : Nat) (e : SEdge) : SEdge := ⟨(n : Int) - e.block, e.args⟩
def mixV (n : Nat) (to : List SEdge) (j : Nat) : List SEdge := (to.take j).map (reV n) ++ to.drop j
theorem mixV_len (n : Nat) (to : List SEdge) (j : Nat) : (mixV n to j).length = to.length := by
  unfold mixV
  rw [List.length_append, List.length_map, List.length_take, List.length_drop]
  omega
theorem mixV_get {n : Nat} {to : List SEdge} {j : Nat} {e : SEdge} (h : to[j]? = some e) : (mixV n to j)[j]? = some e := by
  have hj := (List.getElem?_eq_some_iff.1 h).1
  have hl : ((to.take j).map (reV n)).length = j := by rw [List.length_map, List.length_take]; omega
  unfold mixV
  rw [List.getElem?_append_right (by omega), hl, Nat.sub_self, List.getElem?_drop, Nat.add_zero]
  exact h
theorem mixV_step {n : Nat} {to : List SEdge} {j : Nat} {e : SEdge} (h : to[j]? = some e) : (mixV n to j).set j (reV n e) = mixV n to (j + 1) := by
  have hj := (List.getElem?_eq_some_iff.1 h).1
  have hl : ((to.take j).map (reV n)).length = j := by rw [List.length_map, List.length_take]; omega
  unfold mixV
  rw [List.set_append_right _ _ (by omega), hl, Nat.sub_self, drop_cons h, List.set_cons_zero, take_snoc h, List.map_append, List.append_assoc]
  rfl
theorem rowV_set {n : Nat} {to : List SEdge} {j : Nat} {e : SEdge} (h : to[j]? = some e) (rest : List V) : (ecells (mixV n to j) ++ rest).set (j * 2 + 0) (.int ((n : Int) - e.block)) = ecells (mixV n to (j + 1)) ++ rest := by
  have hj := (List.getElem?_eq_some_iff.1 h).1
  rw [Nat.add_zero, List.set_append_left _ _ (by rw [ecells_len, mixV_len]; omega), ecells_set (mixV_get h)]
  exact congrArg (fun l => ecells l ++ rest) (mixV_step h)
structure QInv (f : SFunc) (rows rows2 : List (Option XRow)) (p : Nat) : Prop where
  len : rows2.length = rows.length
  row : ∀ (v : Nat) (b : SBlock) (o o2 : Option XRow), f.blocks[v]? = some b → rows[v]? = some o → rows2[v]? = some o2 → xLeaf o2 = xLeaf o ∧ xOk 2 o2 ∧ xl o2 = (if v ∈ (ixR f.blocks.length 0).take p then b.term.to.map (reV f.blocks.length) else b.term.to).map edgeV
theorem repL_setv {m : Mem} {v' : V} : ∀ {ls : List V} {us : List Value} {j : Nat} {v : V}, RepL m ls us → ls[j]? = some v → (∀ u, Rep m v u → Rep m v' u) → RepL m (ls.set j v') us
  | [], _, _, _, _, h, _ => by simp at h
  | x :: ls, us, 0, v, ⟨u, us', e, r, k⟩, h, hc => by
    have h : x = v := by simpa using h
    subst h
    exact ⟨u, us', e, hc u r, k⟩
  | x :: ls, us, j + 1, v, ⟨u, us', e, r, k⟩, h, hc => ⟨u, us', e, r, repL_setv k (by simpa using h) hc⟩
theorem mid_one {α : Type} {pre post : List α} {x x' : α} {p : Nat} {y y' : α} (h1 : (pre ++ x :: post)[p]? = some y) (h2 : (pre ++ x' :: post)[p]? = some y') : y = x ∧ y' = x' ∨ y = y' := by
  by_cases h : p < pre.length
  · rw [List.getElem?_append_left h] at h1 h2
    rw [h1] at h2
    injection h2 with h2
    exact .inr h2
  · rw [List.getElem?_append_right (by omega)] at h1 h2
    cases hp : p - pre.length with
    | zero =>
      rw [hp] at h1 h2
      injection h1 with h1
      injection h2 with h2
      exact .inl ⟨h1.symm, h2.symm⟩
    | succ q =>
      rw [hp] at h1 h2
      have h1 : post[q]? = some y := h1
      have h2 : post[q]? = some y' := h2
      rw [h1] at h2
      injection h2 with h2
      exact .inr h2
open Go.VL renaming VOps_nil → Za, VW_seq → Zb, VW_region → Zd, Needs_nil → Ze, Then_n → Zi, V_fieldAddr → Zj, V_assign → Zk, V_move → Zl, eqRes → Zm, vopT → Zn, goodS → Zo, VW_block → Zs, VW_exit → Zt, V_load → Zu, V_load_agg → Zv, V_store_agg → Zx, V_store → Zy, V_indexAddr → Zz, InBlock_n → Zb1, InBlock_hit → Zc1, Then_r → Zd1, Then_e → Ze1, VW_ret → Zf1, VRet_one → Zg1, VW_skip → Zi1, V_bin → Zj1, VW_condNe → Zm1, VW_condP → Zn1, VW_condF → Zq1, V_pickT → Zs1, V_fieldAddr_ep → Zw1, V_callP → Zx1, V_load_ep → Zz1, V_load_ep_agg → Za2, V_alloc → Zb2, V_box → Zc2, V_len → Ze2, V_build → Zf2, V_extract → Zg2, V_add → Zh2, VW_loopF → Zi2, VOps_split → Zj2, V_sub → Zk2, V_not → Zl2, goodA → Zm2, goodU1 → Zn2, goodU → Zo2, evs_cons → Zp2, evs_nil → Zq2, V_indexAddr_row → Zr2, V_fieldAddr_ep_agg → Zs2, Drops.refl → Zt2, VOp_as → Zu2, oneRes → Zw2, oneE → Zx2, anyRes → Za3, epRes → Zb3, epE → Zc3, oneY → Zd3, V_appendN → Zi3, V_lit → Zk3
end Go.Proofs.Ytmmmgamhffbkbaa.X35
