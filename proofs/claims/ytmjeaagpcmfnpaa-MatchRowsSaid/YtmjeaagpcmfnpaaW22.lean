/- Walks, printed by walk.py. -/
import Derived.Test.YtmjeaagpcmfnpaaVT
import Derived.Test.YtmjeaagpcmfnpaaVDA
import Derived.Test.YtmjeaagpcmfnpaaVB
import Derived.Test.YtmjeaagpcmfnpaaVMA
import Derived.Test.YtmjeaagpcmfnpaaW1
import Derived.Test.YtmjeaagpcmfnpaaW2
import Derived.Test.YtmjeaagpcmfnpaaW9
import Derived.Test.YtmjeaagpcmfnpaaW10
import Derived.Test.YtmjeaagpcmfnpaaW13
import Derived.Test.YtmjeaagpcmfnpaaW14
import Derived.Test.YtmjeaagpcmfnpaaW16
import Derived.Test.YtmjeaagpcmfnpaaW17
import Derived.Test.YtmjeaagpcmfnpaaW18
import Derived.Test.YtmjeaagpcmfnpaaW19
import Derived.Test.YtmjeaagpcmfnpaaW20
import Derived.Test.YtmjeaagpcmfnpaaW21
set_option linter.unusedVariables false
set_option linter.unusedSimpArgs false
namespace Go.Proofs.Ytmjeaagpcmfnpaa.W22
open Go.VL Go.PM Go.Proofs.Ytmjeaagpcmfnpaa Go.Proofs.Ytmjeaagpcmfnpaa.W1 Go.Proofs.Ytmjeaagpcmfnpaa.W2 Go.Proofs.Ytmjeaagpcmfnpaa.W9 Go.Proofs.Ytmjeaagpcmfnpaa.W10 Go.Proofs.Ytmjeaagpcmfnpaa.W13 Go.Proofs.Ytmjeaagpcmfnpaa.W14 Go.Proofs.Ytmjeaagpcmfnpaa.W16 Go.Proofs.Ytmjeaagpcmfnpaa.W17 Go.Proofs.Ytmjeaagpcmfnpaa.W18 Go.Proofs.Ytmjeaagpcmfnpaa.W19 Go.Proofs.Ytmjeaagpcmfnpaa.W20 Go.Proofs.Ytmjeaagpcmfnpaa.W21

def boolsX (l : List Bool) : V := .sl 1 none (l.map V.bool)
theorem get_bool {l : List Bool} {k : Nat} {x : Bool} (h : l[k]? = some x) : (l.map V.bool)[k]? = some (V.bool x) := by simp [h]
theorem bcell_get {m : List Bool} {y : Int} {n : Nat} (hm : m.length = n) (h0 : 0 ≤ y) (hy : y < n) : (m.map V.bool)[0 + y.toNat * 1]? = some (.bool (m.getD y.toNat false)) := by
  rw [Nat.zero_add, Nat.mul_one]
  have hlt : y.toNat < m.length := by omega
  simp only [List.getElem?_map, List.getElem?_eq_getElem hlt, List.getD_eq_getElem?_getD, Option.map_some, Option.getD_some]
theorem bcell_ble {m : List Bool} {y : Int} {n : Nat} (hm : m.length = n) (h0 : 0 ≤ y) (hy : y < n) : Nat.ble (0 + y.toNat * 1 + 1) (m.map V.bool).length = true := by
  refine Nat.ble_eq_true_of_le ?_
  rw [List.length_map]
  omega
theorem bcell_set {m : List Bool} {y : Int} {b : Bool} : (m.map V.bool).set (0 + y.toNat * 1) (.bool b) = (m.set y.toNat b).map V.bool := by
  rw [Nat.zero_add, Nat.mul_one, List.map_set]
theorem bcell_init (n : Nat) : (List.replicate n (V.raw (.bool false))).flatMap V.leaves = (List.replicate n false).map V.bool := by
  induction n with
  | zero => rfl
  | succ n ih => rw [List.replicate_succ, List.flatMap_cons, ih, List.replicate_succ]; rfl
theorem bools_flat (m : List Bool) : m.map V.bool = (m.map V.bool).flatMap V.leaves ++ [] := by
  induction m with
  | nil => rfl
  | cons b m ih => rw [List.map_cons, List.flatMap_cons, List.append_assoc, ← ih]; rfl
theorem bools_fits (m : List Bool) : ∀ y ∈ m.map V.bool, y.fits 1 = true ∧ ((∃ ls, y = .agg ls) ∨ y.leaf = true) := fun y hy => by
  obtain ⟨b, _, rfl⟩ := List.mem_map.1 hy
  exact ⟨rfl, .inr rfl⟩
theorem le_empty (sz n : Nat) (A : Option Addr) (h : n = 0) : V.le (.raw (.slice A n n)) (.sl sz none []) := fun m u hu => by
  subst h
  exact ⟨A, 0, hu, Nat.le_refl _, Nat.zero_le _, trivial, .inl rfl⟩
theorem mark_on {k : Nat} {m : List Bool} {y : Int} (h1 : m.getD k false = true) (h2 : 0 ≤ y) (h3 : y < k) : markB k m y = m.set y.toNat true := by unfold markB; rw [if_pos ⟨h1, h2, h3⟩]
theorem mark_off {k : Nat} {m : List Bool} {y : Int} (h : ¬ (m.getD k false = true ∧ 0 ≤ y ∧ y < k)) : markB k m y = m := by unfold markB; rw [if_neg h]
theorem mark_length (k : Nat) (m : List Bool) (y : Int) : (markB k m y).length = m.length := by unfold markB; split <;> simp

set_option maxRecDepth 100000 in
set_option maxHeartbeats 4000000 in
theorem reach_c (l : List MNode) (hl : l.length ≤ 1000000) : VPure Try.prog 21 [nodesX l] (boolsX (reachF l)) := by
  refine V_start (nt := 54) Try.func21 rfl rfl rfl ?_
  refine VW_seq ?_
  refine VW_region ?_
  refine VOps_cons rfl rfl (V_assign rfl ?_)
  refine VOps_nil ?_
  refine Then_n ?_
  refine VW_seq ?_
  refine VW_region ?_
  refine VOps_cons rfl rfl (V_move rfl ?_)
  refine VOps_cons rfl rfl (V_lenN (n := l.length) Try.underlying40 rfl (by simp) (fun hl8 => ?_))
  refine VOps_cons rfl rfl (V_makeRow (.raw (.bool false)) (fun m => rfl) rfl VT.sl45 rfl rfl (by omega) (by omega) (fun g9 => ?_))
  refine VOps_cons rfl rfl (V_assign rfl ?_)
  refine VOps_nil ?_
  refine Then_n ?_
  refine VW_seq ?_
  refine VW_seq ?_
  refine VW_region ?_
  refine VOps_cons rfl rfl (V_move rfl ?_)
  refine VOps_cons rfl rfl (V_lenN (n := l.length) Try.underlying40 rfl (by simp) (fun hl11 => ?_))
  refine VOps_cons rfl rfl (V_bin rfl rfl rfl ?_)
  refine VOps_nil ?_
  refine Then_n ?_
  refine VW_condEq rfl (fun h12 => ?_) (fun h12 => ?_)
  · skip
    have h0 : l.length = 0 := by omega
    have hrf : reachF l = [] := by unfold reachF; rw [if_pos h0]
    refine VW_seq ?_
    refine VW_region ?_
    refine VOps_cons rfl rfl (VOp_as (V_move rfl ⟨rfl, rfl⟩) (le_empty 1 _ _ (by omega)) ?_)
    refine VOps_cons rfl rfl (V_assign rfl ?_)
    refine VOps_nil ?_
    refine Then_n ?_
    refine VW_ret ?_
    refine Then_r (VRet_one rfl (.tmp rfl) ?_)
    rw [hrf]
    rfl
  · skip
    have h0 : l.length ≠ 0 := by omega
    refine VW_skip ?_
    refine Then_n ?_
    refine VW_seq ?_
    refine VW_region ?_
    refine VOps_cons rfl rfl (V_move rfl ?_)
    refine VOps_cons rfl rfl (V_move rfl ?_)
    refine VOps_cons rfl rfl (V_lenN (n := l.length) Try.underlying40 rfl (by simp) (fun hl16 => ?_))
    refine VOps_cons rfl rfl (V_sub rfl rfl (by omega) ?_)
    refine VOps_cons rfl rfl (V_indexAddr_row VT.sl45 rfl rfl (by omega) (by omega) ?_)
    refine VOps_cons rfl rfl (V_store 0 VT.ty4 rfl rfl rfl rfl (by rw [bcell_init]; exact bcell_ble (by simp; rfl) (by omega) (by omega)) ?_)
    refine VOps_nil ?_
    refine Then_n ?_
    refine VW_seq ?_
    refine VW_seq ?_
    refine VW_region ?_
    refine VOps_cons rfl rfl (V_move rfl ?_)
    refine VOps_cons rfl rfl (V_lenN (n := l.length) Try.underlying40 rfl (by simp) (fun hl20 => ?_))
    refine VOps_cons rfl rfl (V_sub rfl rfl (by omega) ?_)
    refine VOps_cons rfl rfl (V_assign rfl ?_)
    refine VOps_nil ?_
    refine Then_n ?_
    refine VW_block ?_
    refine VW_loopF (ι := Nat × List Bool) (fun (i, m) => i) (fun (i, m) => [(0, some (nodesX l)), (3, some (.raw (.slice (some ⟨g9, 0, none⟩) l.length l.length))), (4, some (.int ((i : Int) - 1)))]) (fun (i, m) => [.cells g9 4 (m.map V.bool)]) (fun (i, m) => i ≤ l.length ∧ m.length = l.length ∧ reachDown l i m = reachF l) (l.length, (List.replicate l.length false).set (l.length - 1) true) ⟨Nat.le_refl _, by simp, by unfold reachF; rw [if_neg h0]⟩ ⟨rfl, rfl, rfl, trivial⟩ (Drops.keepE (congrArg (Own.cells _ _) (by rw [bcell_init, bcell_set, show ((l.length : Int) - 1).toNat = l.length - 1 by omega]; rfl)) (Drops.refl _)) ?_
    rintro ⟨i, m⟩ hA
    change i ≤ l.length ∧ m.length = l.length ∧ reachDown l i m = reachF l at hA
    obtain ⟨hi, hml, hq⟩ := hA
    refine VW_seq ?_
    refine VW_seq ?_
    refine VW_region ?_
    refine VOps_cons rfl rfl (V_move rfl ?_)
    refine VOps_cons rfl rfl (V_bin rfl rfl rfl ?_)
    refine VOps_nil ?_
    refine Then_n ?_
    refine VW_condP rfl (fun h23 => ?_) (fun h23 => ?_)
    · skip
      obtain ⟨k, rfl⟩ : ∃ k, i = k + 1 := ⟨i - 1, by omega⟩
      obtain ⟨nd, hn⟩ := get_of_lt l k (by omega)
      have hk1 : (((k + 1 : Nat) : Int) - 1).toNat = k := by omega
      refine VW_skip ?_
      refine Then_n ?_
      refine VW_seq ?_
      refine VW_block ?_
      refine VW_seq ?_
      refine VW_region ?_
      refine VOps_cons rfl rfl (V_move rfl ?_)
      refine VOps_cons rfl rfl (V_move rfl ?_)
      refine VOps_cons rfl rfl (V_indexAddr (el := nodeX nd) VT.sl40 rfl rfl (by omega) (by rw [hk1]; exact get_mapS _ hn) (fun a28 => ?_))
      refine VOps_cons rfl rfl (V_fieldAddr_ep VT.fa49_5 rfl rfl ?_)
      refine VOps_cons rfl rfl (V_load_ep VT.ty32 rfl rfl ?_)
      refine VOps_cons rfl rfl (V_lenN (n := nd.kids.length) Try.underlying32 rfl (by simp) (fun hl31 => ?_))
      refine VOps_cons rfl rfl (V_move rfl ?_)
      refine VOps_nil ?_
      refine Then_n ?_
      refine VW_block ?_
      refine VW_loopF (ι := Nat × List Bool) (fun (j, m2) => nd.kids.length - j) (fun (j, m2) => [(0, some (nodesX l)), (3, some (.raw (.slice (some ⟨g9, 0, none⟩) l.length l.length))), (4, some (.int (((k + 1 : Nat) : Int) - 1))), (30, some (intsX nd.kids)), (31, some (.int nd.kids.length)), (32, some (.int j))]) (fun (j, m2) => [.cells g9 4 (m2.map V.bool)]) (fun (j, m2) => j ≤ nd.kids.length ∧ m2.length = l.length ∧ (nd.kids.drop j).foldl (markB k) m2 = nd.kids.foldl (markB k) m) (0, m) ⟨Nat.zero_le _, hml, rfl⟩ ⟨rfl, rfl, rfl, rfl, rfl, rfl, trivial⟩ (Drops.keep (Drops.refl _)) ?_
      rintro ⟨j, m2⟩ hB
      change j ≤ nd.kids.length ∧ m2.length = l.length ∧ (nd.kids.drop j).foldl (markB k) m2 = nd.kids.foldl (markB k) m at hB
      obtain ⟨hj, hml2, hq2⟩ := hB
      refine VW_seq ?_
      refine VW_region ?_
      refine VOps_cons rfl rfl (V_bin rfl rfl rfl ?_)
      refine VOps_nil ?_
      refine Then_n ?_
      refine VW_seq ?_
      refine VW_condP rfl (fun h33 => ?_) (fun h33 => ?_)
      · skip
        obtain ⟨y, hy⟩ := get_of_lt nd.kids j h33
        refine VW_skip ?_
        refine Then_n ?_
        refine VW_seq ?_
        refine VW_block ?_
        refine VW_seq ?_
        refine VW_region ?_
        refine VOps_cons rfl rfl (V_indexAddr (el := V.int y) VT.sl32 rfl rfl (by omega) (get_int hy) (fun a34 => ?_))
        refine VOps_cons rfl rfl (V_load_ep VT.ty3 rfl rfl ?_)
        refine VOps_cons rfl rfl (V_assign rfl ?_)
        refine VOps_nil ?_
        refine Then_n ?_
        refine VW_seq ?_
        refine VW_region ?_
        refine VOps_cons rfl rfl (V_move rfl ?_)
        refine VOps_cons rfl rfl (V_move rfl ?_)
        refine VOps_cons rfl rfl (V_indexAddr_row VT.sl45 rfl rfl (by omega) (by omega) ?_)
        refine VOps_cons rfl rfl (V_load 0 VT.ty4 rfl rfl (bcell_get hml2 (by omega) (by omega)) ?_)
        refine VOps_cons rfl rfl (V_move rfl ?_)
        refine VOps_split (q := 40) rfl (fun hq40 => ?_) (fun hq40 => ?_)
        · skip
          have hmk : m2.getD k false = true := by rw [hk1] at hq40; exact hq40
          refine VOps_cons (want_of rfl rfl rfl hq40) rfl (V_move rfl ?_)
          refine VOps_cons (want_of rfl rfl rfl hq40) rfl (V_bin rfl rfl rfl ?_)
          refine VOps_cons rfl rfl (V_pickT rfl hq40 rfl ?_)
          refine VOps_cons rfl rfl (V_move rfl ?_)
          refine VOps_split (q := 44) rfl (fun hq44 => ?_) (fun hq44 => ?_)
          · skip
            have hy0 : 0 ≤ y := by have := of_decide_eq_true hq44; omega
            refine VOps_cons (want_of rfl rfl rfl hq44) rfl (V_move rfl ?_)
            refine VOps_cons (want_of rfl rfl rfl hq44) rfl (V_move rfl ?_)
            refine VOps_cons (want_of rfl rfl rfl hq44) rfl (V_bin rfl rfl rfl ?_)
            refine VOps_cons rfl rfl (V_pickT rfl hq44 rfl ?_)
            refine VOps_nil ?_
            refine Then_n ?_
            refine VW_condP rfl (fun h48 => ?_) (fun h48 => ?_)
            · skip
              have hyk : y < k := by omega
              have hon := mark_on hmk hy0 hyk
              refine VW_region ?_
              refine VOps_cons rfl rfl (V_move rfl ?_)
              refine VOps_cons rfl rfl (V_move rfl ?_)
              refine VOps_cons rfl rfl (V_indexAddr_row VT.sl45 rfl rfl (by omega) (by omega) ?_)
              refine VOps_cons rfl rfl (V_store 0 VT.ty4 rfl rfl rfl rfl (bcell_ble hml2 (by omega) (by omega)) ?_)
              refine VOps_nil ?_
              refine InBlock_n (Then_n ?_)
              refine VW_region ?_
              refine VOps_cons rfl rfl (V_add rfl rfl (by omega) ?_)
              refine VOps_cons rfl rfl (V_move rfl ?_)
              refine VOps_nil ?_
              refine Then_n ?_
              exact ⟨(j + 1, markB k m2 y), (by (try simp only []); omega), ⟨by omega, by rw [mark_length, hml2], by rw [← hq2, drop_cons hy]; rfl⟩, ⟨rfl, rfl, rfl, rfl, rfl, rfl, trivial⟩, (Drops.keepE (congrArg (Own.cells _ _) (by first | (rw [hoff]; done) | (rw [hon]; exact bcell_set))) (Drops.refl _))⟩
            · skip
              have hoff : markB k m2 y = m2 := mark_off (by rintro ⟨_, _, h⟩; omega)
              refine VW_skip ?_
              refine InBlock_n (Then_n ?_)
              refine VW_region ?_
              refine VOps_cons rfl rfl (V_add rfl rfl (by omega) ?_)
              refine VOps_cons rfl rfl (V_move rfl ?_)
              refine VOps_nil ?_
              refine Then_n ?_
              exact ⟨(j + 1, markB k m2 y), (by (try simp only []); omega), ⟨by omega, by rw [mark_length, hml2], by rw [← hq2, drop_cons hy]; rfl⟩, ⟨rfl, rfl, rfl, rfl, rfl, rfl, trivial⟩, (Drops.keepE (congrArg (Own.cells _ _) (by first | (rw [hoff]; done) | (rw [hon]; exact bcell_set))) (Drops.refl _))⟩
          · skip
            have hoff : markB k m2 y = m2 := mark_off (by rintro ⟨_, h, _⟩; have := of_decide_eq_false hq44; omega)
            refine VOps_skipU (.inl (skip_of rfl rfl rfl hq44)) rfl ?_
            refine VOps_skipU (.inl (skip_of rfl rfl rfl hq44)) rfl ?_
            refine VOps_skipU (.inl (skip_of rfl rfl rfl hq44)) rfl ?_
            refine VOps_cons rfl rfl (V_pickF rfl hq44 rfl ?_)
            refine VOps_nil ?_
            refine Then_n ?_
            refine VW_condF rfl rfl ?_
            refine VW_skip ?_
            refine InBlock_n (Then_n ?_)
            refine VW_region ?_
            refine VOps_cons rfl rfl (V_add rfl rfl (by omega) ?_)
            refine VOps_cons rfl rfl (V_move rfl ?_)
            refine VOps_nil ?_
            refine Then_n ?_
            exact ⟨(j + 1, markB k m2 y), (by (try simp only []); omega), ⟨by omega, by rw [mark_length, hml2], by rw [← hq2, drop_cons hy]; rfl⟩, ⟨rfl, rfl, rfl, rfl, rfl, rfl, trivial⟩, (Drops.keepE (congrArg (Own.cells _ _) (by first | (rw [hoff]; done) | (rw [hon]; exact bcell_set))) (Drops.refl _))⟩
        · skip
          have hmk : m2.getD k false = false := by rw [hk1] at hq40; exact hq40
          have hoff : markB k m2 y = m2 := mark_off (by rw [hmk]; rintro ⟨h, _⟩; cases h)
          refine VOps_skipU (.inl (skip_of rfl rfl rfl hq40)) rfl ?_
          refine VOps_skipU (.inl (skip_of rfl rfl rfl hq40)) rfl ?_
          refine VOps_cons rfl rfl (V_pickF rfl hq40 rfl ?_)
          refine VOps_cons rfl rfl (V_move rfl ?_)
          refine VOps_skipU (.inl (skip_of rfl rfl rfl rfl)) rfl ?_
          refine VOps_skipU (.inl (skip_of rfl rfl rfl rfl)) rfl ?_
          refine VOps_skipU (.inl (skip_of rfl rfl rfl rfl)) rfl ?_
          refine VOps_cons rfl rfl (V_pickF rfl rfl rfl ?_)
          refine VOps_nil ?_
          refine Then_n ?_
          refine VW_condF rfl rfl ?_
          refine VW_skip ?_
          refine InBlock_n (Then_n ?_)
          refine VW_region ?_
          refine VOps_cons rfl rfl (V_add rfl rfl (by omega) ?_)
          refine VOps_cons rfl rfl (V_move rfl ?_)
          refine VOps_nil ?_
          refine Then_n ?_
          exact ⟨(j + 1, markB k m2 y), (by (try simp only []); omega), ⟨by omega, by rw [mark_length, hml2], by rw [← hq2, drop_cons hy]; rfl⟩, ⟨rfl, rfl, rfl, rfl, rfl, rfl, trivial⟩, (Drops.keepE (congrArg (Own.cells _ _) (by first | (rw [hoff]; done) | (rw [hon]; exact bcell_set))) (Drops.refl _))⟩
      · skip
        refine VW_exit ?_
        refine Then_e (Then_e (InBlock_hit ?_))
        refine InBlock_n (Then_n ?_)
        refine VW_region ?_
        refine VOps_cons rfl rfl (V_move rfl ?_)
        refine VOps_cons rfl rfl (V_sub rfl rfl (by omega) ?_)
        refine VOps_cons rfl rfl (V_assign rfl ?_)
        refine VOps_nil ?_
        refine Then_n ?_
        exact ⟨(k, nd.kids.foldl (markB k) m), (by (try simp only []); omega), ⟨by omega, by rw [mark_len, hml], by rw [← hq, reachDown, kidsAt_eq hn]⟩, ⟨rfl, rfl, (congrArg (fun z => some (V.int z)) (by omega)), trivial⟩, (Drops.keepE (congrArg (fun z => Own.cells g9 4 (List.map V.bool z)) (by rw [← hq2, show j = nd.kids.length by omega, List.drop_length]; rfl)) (Drops.refl _))⟩
    · skip
      have hi0 : i = 0 := by omega
      subst hi0
      rw [reachDown] at hq
      refine VW_exit ?_
      refine Then_e (Then_e (InBlock_hit ?_))
      refine Then_n ?_
      refine VW_freeze 0 (q := 3) (rest := []) (m.map V.bool) rfl rfl (bools_flat m) (by simp [hml]) (Nat.le_refl _) (by simp only [maxLen]; omega) (bools_fits _) ?_
      refine VW_seq ?_
      refine VW_region ?_
      refine VOps_cons rfl rfl (V_move rfl ?_)
      refine VOps_cons rfl rfl (V_assign rfl ?_)
      refine VOps_nil ?_
      refine Then_n ?_
      refine VW_ret ?_
      refine VRet_one rfl (.tmp rfl) ?_
      rw [hq]
      rfl


set_option maxRecDepth 100000 in
set_option maxHeartbeats 8000000 in
theorem matchRows_c (ds : List DataSig) (hz : Sized ds) (rows : List (List Pat)) : VPure Try.prog 8 [datasX ds, rowsX rows] (.bool true) := by
  have hC := compile_c ds hz rows
  have hL := rows_law hz (rows := rows)
  have hE : (compOut ds rows).2 ≠ 0 → (compOut ds rows).1 = [] := compOut_none
  have hlen := compOut_len ds hz rows
  have hne : (compOut ds rows).2 = 0 → (compOut ds rows).1.length ≠ 0 := fun h => by obtain ⟨_, _, _, _, _, _, _, _, h, _⟩ := comp_leaves hz h; exact h
  have hz2 : (compOut ds rows).2 = 0 → checkF ds rows = 0 := compOut_zero
  generalize hco : compOut ds rows = co at hC hL hE hlen hne hz2
  have hR := Redundant_c ds hz rows
  have hR0 : checkF ds rows = 0 → (redOut ds rows).2 = 0 := fun h => by obtain ⟨t, hb⟩ := check_build h; rw [redOut_ok h hb]
  generalize hro : redOut ds rows = ro at hL hR hR0
  have hM := Missing_c ds (checkTy hz) rows (width rows)
  have hM0 : checkF ds rows = 0 → (missOut ds rows (width rows)).2 = 0 := fun h => by obtain ⟨t, hb⟩ := check_build h; rw [missOut_ok h (nbad_any h) hb]
  generalize hmo : missOut ds rows (width rows) = mo at hL hM hM0
  refine V_start (nt := 137) Try.func8 rfl rfl rfl ?_
  refine VW_seq ?_
  refine VW_region ?_
  refine VOps_cons rfl rfl (V_assign rfl ?_)
  refine VOps_nil ?_
  refine Then_n ?_
  refine VW_seq ?_
  refine VW_seq ?_
  refine VW_region ?_
  refine VOps_cons rfl rfl (V_callP [] rfl rfl VT.en11 (work_c) ?_)
  refine VOps_cons rfl rfl (V_not rfl ?_)
  refine VOps_nil ?_
  refine Then_n ?_
  refine VW_condF rfl (rfl) ?_
  refine VW_skip ?_
  refine Then_n ?_
  refine VW_seq ?_
  refine VW_region ?_
  refine VOps_cons rfl rfl (V_move rfl ?_)
  refine VOps_cons rfl rfl (V_move rfl ?_)
  refine VOps_cons rfl rfl (V_callP [.tmp 20, .tmp 21] rfl rfl VT.en18 (hC) ?_)
  refine VOps_cons rfl rfl (V_move rfl ?_)
  refine VOps_cons rfl rfl (V_extract rfl rfl ?_)
  refine VOps_cons rfl rfl (V_extract rfl rfl ?_)
  refine VOps_cons rfl rfl (V_assign rfl ?_)
  refine VOps_cons rfl rfl (V_assign rfl ?_)
  refine VOps_nil ?_
  refine Then_n ?_
  refine VW_seq ?_
  refine VW_seq ?_
  refine VW_region ?_
  refine VOps_cons rfl rfl (V_move rfl ?_)
  refine VOps_cons rfl rfl (V_bin rfl rfl rfl ?_)
  refine VOps_cons rfl rfl (V_move rfl ?_)
  refine VOps_split (q := 27) rfl (fun hq27 => ?_) (fun hq27 => ?_)
  · skip
    have h1 : co.2 ≠ 0 := by simpa using hq27
    refine VOps_skipU (.inl (skip_of rfl rfl rfl hq27)) rfl ?_
    refine VOps_skipU (.inl (skip_of rfl rfl rfl hq27)) rfl ?_
    refine VOps_skipU (.inl (skip_of rfl rfl rfl hq27)) rfl ?_
    refine VOps_cons rfl rfl (V_pickT rfl hq27 rfl ?_)
    refine VOps_nil ?_
    refine Then_n ?_
    refine VW_condT rfl rfl ?_
    refine VW_seq ?_
    refine VW_region ?_
    refine VOps_cons rfl rfl (V_move rfl ?_)
    refine VOps_cons rfl rfl (V_bin rfl rfl rfl ?_)
    refine VOps_cons rfl rfl (V_move rfl ?_)
    refine VOps_split (q := 34) rfl (fun hq34 => ?_) (fun hq34 => ?_)
    · skip
      have h2 : co.2 = 0 := by simpa using hq34
      refine VOps_skipU (.inl (skip_of rfl rfl rfl hq34)) rfl ?_
      refine VOps_skipU (.inl (skip_of rfl rfl rfl hq34)) rfl ?_
      refine VOps_skipU (.inl (skip_of rfl rfl rfl hq34)) rfl ?_
      refine VOps_cons rfl rfl (V_pickT rfl hq34 rfl ?_)
      refine VOps_cons rfl rfl (V_assign rfl ?_)
      refine VOps_nil ?_
      refine Then_n ?_
      refine VW_ret ?_
      refine Then_r (VRet_one rfl (.tmp rfl) ?_)
      rfl
    · skip
      have h2 : co.2 ≠ 0 := by simpa using hq34
      have h3 := hE h2
      refine VOps_cons (want_of rfl rfl rfl hq34) rfl (V_move rfl ?_)
      refine VOps_cons (want_of rfl rfl rfl hq34) rfl (V_lenN (n := co.1.length) Try.underlying40 rfl (by simp) (fun hl36 => ?_))
      refine VOps_cons (want_of rfl rfl rfl hq34) rfl (V_bin rfl rfl rfl ?_)
      refine VOps_cons rfl rfl (V_pickF rfl hq34 rfl ?_)
      refine VOps_cons rfl rfl (V_assign rfl ?_)
      refine VOps_nil ?_
      refine Then_n ?_
      refine VW_ret ?_
      refine Then_r (VRet_one rfl (.tmp rfl) ?_)
      rw [h3]
      rfl
  · skip
    have h1 : co.2 = 0 := by simpa using hq27
    have hck := hz2 h1
    have hro0 := hR0 hck
    have hmo0 := hM0 hck
    refine VOps_cons (want_of rfl rfl rfl hq27) rfl (V_move rfl ?_)
    refine VOps_cons (want_of rfl rfl rfl hq27) rfl (V_lenN (n := rows.length) Try.underlying23 rfl (by simp) (fun hl29 => ?_))
    refine VOps_cons (want_of rfl rfl rfl hq27) rfl (V_bin rfl rfl rfl ?_)
    refine VOps_cons rfl rfl (V_pickF rfl hq27 rfl ?_)
    refine VOps_nil ?_
    refine Then_n ?_
    refine VW_condEq rfl (fun h31 => ?_) (fun h31 => ?_)
    · skip
      refine VW_seq ?_
      refine VW_region ?_
      refine VOps_cons rfl rfl (V_move rfl ?_)
      refine VOps_cons rfl rfl (V_bin rfl rfl rfl ?_)
      refine VOps_cons rfl rfl (V_move rfl ?_)
      refine VOps_split (q := 34) rfl (fun hq34 => ?_) (fun hq34 => ?_)
      · skip
        have h2 : co.2 = 0 := by simpa using hq34
        refine VOps_skipU (.inl (skip_of rfl rfl rfl hq34)) rfl ?_
        refine VOps_skipU (.inl (skip_of rfl rfl rfl hq34)) rfl ?_
        refine VOps_skipU (.inl (skip_of rfl rfl rfl hq34)) rfl ?_
        refine VOps_cons rfl rfl (V_pickT rfl hq34 rfl ?_)
        refine VOps_cons rfl rfl (V_assign rfl ?_)
        refine VOps_nil ?_
        refine Then_n ?_
        refine VW_ret ?_
        refine Then_r (VRet_one rfl (.tmp rfl) ?_)
        rfl
      · skip
        have h2 : co.2 ≠ 0 := by simpa using hq34
        have h3 := hE h2
        refine VOps_cons (want_of rfl rfl rfl hq34) rfl (V_move rfl ?_)
        refine VOps_cons (want_of rfl rfl rfl hq34) rfl (V_lenN (n := co.1.length) Try.underlying40 rfl (by simp) (fun hl36 => ?_))
        refine VOps_cons (want_of rfl rfl rfl hq34) rfl (V_bin rfl rfl rfl ?_)
        refine VOps_cons rfl rfl (V_pickF rfl hq34 rfl ?_)
        refine VOps_cons rfl rfl (V_assign rfl ?_)
        refine VOps_nil ?_
        refine Then_n ?_
        refine VW_ret ?_
        refine Then_r (VRet_one rfl (.tmp rfl) ?_)
        exact absurd h1 h2
    · skip
      obtain ⟨r0, rs, hr0⟩ : ∃ r0 rs, rows = r0 :: rs := by cases rows with | nil => simp at h31 | cons a b => exact ⟨a, b, rfl⟩
      have hw : width rows = r0.length := by rw [hr0]; rfl
      rw [hw] at hM
      have hsm := (check_parts hck (check_build hck).choose_spec).1
      have hrows := hsm.rows
      refine VW_skip ?_
      refine Then_n ?_
      refine VW_seq ?_
      refine VW_region ?_
      refine VOps_cons rfl rfl (V_move rfl ?_)
      refine VOps_cons rfl rfl (V_move rfl ?_)
      refine VOps_cons rfl rfl (V_callP [.tmp 40, .tmp 41] rfl rfl VT.en13 (hR) ?_)
      refine VOps_cons rfl rfl (V_move rfl ?_)
      refine VOps_cons rfl rfl (V_extract rfl rfl ?_)
      refine VOps_cons rfl rfl (V_extract rfl rfl ?_)
      refine VOps_cons rfl rfl (V_assign rfl ?_)
      refine VOps_cons rfl rfl (V_assign rfl ?_)
      refine VOps_nil ?_
      refine Then_n ?_
      refine VW_seq ?_
      refine VW_region ?_
      refine VOps_cons rfl rfl (V_move rfl ?_)
      refine VOps_cons rfl rfl (V_move rfl ?_)
      refine VOps_cons rfl rfl (V_move rfl ?_)
      refine VOps_cons rfl rfl (V_indexAddr (el := patsX r0) VT.sl23 rfl rfl (by omega) (by rw [hr0]; rfl) (fun a49 => ?_))
      refine VOps_cons rfl rfl (V_load_ep VT.ty25 rfl rfl ?_)
      refine VOps_cons rfl rfl (V_lenN (n := r0.length) Try.underlying25 rfl (by simp) (fun hl51 => ?_))
      refine VOps_cons rfl rfl (V_callP [.tmp 46, .tmp 47, .tmp 51] rfl rfl VT.en12 (hM) ?_)
      refine VOps_cons rfl rfl (V_move rfl ?_)
      refine VOps_cons rfl rfl (V_extract rfl rfl ?_)
      refine VOps_cons rfl rfl (V_extract rfl rfl ?_)
      refine VOps_cons rfl rfl (V_assign rfl ?_)
      refine VOps_cons rfl rfl (V_assign rfl ?_)
      refine VOps_nil ?_
      refine Then_n ?_
      refine VW_seq ?_
      refine VW_seq ?_
      refine VW_region ?_
      refine VOps_cons rfl rfl (V_move rfl ?_)
      refine VOps_cons rfl rfl (V_bin rfl rfl rfl ?_)
      refine VOps_cons rfl rfl (V_move rfl ?_)
      refine VOps_split (q := 57) rfl (fun hq57 => ?_) (fun hq57 => ?_)
      · exact absurd hro0 (by simpa using hq57)
      · skip
        refine VOps_cons (want_of rfl rfl rfl hq57) rfl (V_move rfl ?_)
        refine VOps_cons (want_of rfl rfl rfl hq57) rfl (V_bin rfl rfl rfl ?_)
        refine VOps_cons rfl rfl (V_pickF rfl hq57 rfl ?_)
        refine VOps_cons rfl rfl (V_move rfl ?_)
        refine VOps_split (q := 61) rfl (fun hq61 => ?_) (fun hq61 => ?_)
        · exact absurd hmo0 (by simpa using hq61)
        · skip
          refine VOps_cons (want_of rfl rfl rfl hq61) rfl (V_move rfl ?_)
          refine VOps_cons (want_of rfl rfl rfl hq61) rfl (V_indexAddr (el := patsX r0) VT.sl23 rfl rfl (by omega) (by rw [hr0]; rfl) (fun a63 => ?_))
          refine VOps_cons (want_of rfl rfl rfl hq61) rfl (V_load_ep VT.ty25 rfl rfl ?_)
          refine VOps_cons (want_of rfl rfl rfl hq61) rfl (V_lenN (n := r0.length) Try.underlying25 rfl (by simp) (fun hl65 => ?_))
          refine VOps_cons (want_of rfl rfl rfl hq61) rfl (V_bin rfl rfl rfl ?_)
          refine VOps_cons rfl rfl (V_pickF rfl hq61 rfl ?_)
          refine VOps_nil ?_
          refine Then_n ?_
          refine VW_condEq rfl (fun h67 => ?_) (fun h67 => ?_)
          · skip
            refine VW_seq ?_
            refine VW_region ?_
            refine VOps_cons rfl rfl (V_move rfl ?_)
            refine VOps_cons rfl rfl (V_bin rfl rfl rfl ?_)
            refine VOps_cons rfl rfl (V_move rfl ?_)
            refine VOps_split (q := 70) rfl (fun hq70 => ?_) (fun hq70 => ?_)
            · skip
              refine VOps_cons (want_of rfl rfl rfl hq70) rfl (V_move rfl ?_)
              refine VOps_cons (want_of rfl rfl rfl hq70) rfl (V_bin rfl rfl rfl ?_)
              refine VOps_cons rfl rfl (V_pickT rfl hq70 rfl ?_)
              refine VOps_cons rfl rfl (V_assign rfl ?_)
              refine VOps_nil ?_
              refine Then_n ?_
              refine VW_ret ?_
              refine Then_r (VRet_one rfl (.tmp rfl) ?_)
              rw [hmo0]
              rfl
            · exact absurd hro0 (by simpa using hq70)
          · skip
            obtain ⟨_, _, hL1, hL2, hL3⟩ := hL h1 (by omega)
            have hrl := (reach_law (hne h1)).1
            refine VW_skip ?_
            refine Then_n ?_
            refine VW_seq ?_
            refine VW_region ?_
            refine VOps_cons rfl rfl (V_move rfl ?_)
            refine VOps_cons rfl rfl (V_lenN (n := rows.length) Try.underlying23 rfl (by simp) (fun hl75 => ?_))
            refine VOps_cons rfl rfl (V_makeRow (.raw (.bool false)) (fun m => rfl) rfl VT.sl45 rfl rfl (by omega) (by omega) (fun g76 => ?_))
            refine VOps_cons rfl rfl (V_assign rfl ?_)
            refine VOps_nil ?_
            refine Then_n ?_
            refine VW_seq ?_
            refine VW_region ?_
            refine VOps_cons rfl rfl (V_assign rfl ?_)
            refine VOps_nil ?_
            refine Then_n ?_
            refine VW_seq ?_
            refine VW_seq ?_
            refine VW_region ?_
            refine VOps_cons rfl rfl (V_move rfl ?_)
            refine VOps_cons rfl rfl (V_callP [.tmp 77] rfl rfl VT.en21 (reach_c co.1 hlen) ?_)
            refine VOps_cons rfl rfl (V_lenN (n := (reachF co.1).length) Try.underlying45 rfl (by simp) (fun hl79 => ?_))
            refine VOps_cons rfl rfl (V_move rfl ?_)
            refine VOps_nil ?_
            refine Then_n ?_
            refine VW_block ?_
            refine VW_loopF (ι := Nat) (fun i => (reachF co.1).length - i) (fun i => [(1, some (rowsX rows)), (5, some (nodesX co.1)), (7, some (natsX ro.1)), (9, some (patsX mo.1)), (11, some (.raw (.slice (some ⟨g76, 0, none⟩) rows.length rows.length))), (12, some (.bool (failsTo co.1 (reachF co.1) i))), (78, some (boolsX (reachF co.1))), (79, some (.int (reachF co.1).length)), (80, some (.int i))]) (fun i => [.cells g76 4 ((seenTo co.1 (reachF co.1) rows.length i).map V.bool)]) (fun i => i ≤ (reachF co.1).length) 0 (Nat.zero_le _) ⟨rfl, rfl, rfl, rfl, rfl, rfl, rfl, rfl, rfl, trivial⟩ (Drops.keepE (congrArg (Own.cells _ _) (by rw [bcell_init, seenTo_zero]; rfl)) (Drops.refl _)) ?_
            rintro i hi
            change i ≤ (reachF co.1).length at hi
            refine VW_seq ?_
            refine VW_region ?_
            refine VOps_cons rfl rfl (V_bin rfl rfl rfl ?_)
            refine VOps_nil ?_
            refine Then_n ?_
            refine VW_seq ?_
            refine VW_condP rfl (fun h81 => ?_) (fun h81 => ?_)
            · skip
              obtain ⟨b, hb⟩ := get_of_lt (reachF co.1) i h81
              have hRb : (reachF co.1).getD i false = b := by simp [hb]
              obtain ⟨nd, hn⟩ := get_of_lt co.1 i (by omega)
              have hka : kindAt co.1 i = nd.kind := by rw [kindAt, hn]
              have hra : nrowAt co.1 i = nd.row := by rw [nrowAt, hn]
              refine VW_skip ?_
              refine Then_n ?_
              refine VW_seq ?_
              refine VW_block ?_
              refine VW_seq ?_
              refine VW_region ?_
              refine VOps_cons rfl rfl (V_move rfl ?_)
              refine VOps_cons rfl rfl (V_indexAddr (el := V.bool b) VT.sl45 rfl rfl (by omega) (get_bool hb) (fun a83 => ?_))
              refine VOps_cons rfl rfl (V_load_ep VT.ty4 rfl rfl ?_)
              refine VOps_cons rfl rfl (V_assign rfl ?_)
              refine VOps_cons rfl rfl (V_assign rfl ?_)
              refine VOps_nil ?_
              refine Then_n ?_
              refine VW_seq ?_
              refine VW_seq ?_
              refine VW_region ?_
              rcases hbb : b with _ | _
              · skip
                have hfs : failsTo co.1 (reachF co.1) (i + 1) = failsTo co.1 (reachF co.1) i := by rw [failsTo_succ, hRb, hbb]; simp
                have hss : seenTo co.1 (reachF co.1) rows.length (i + 1) = seenTo co.1 (reachF co.1) rows.length i := seenTo_skip (by rw [hRb, hbb]; rfl)
                refine VOps_cons rfl rfl (V_move rfl ?_)
                refine VOps_cons rfl rfl (V_move rfl ?_)
                refine VOps_split (q := 86) rfl (fun hq86 => ?_) (fun hq86 => ?_)
                · exact absurd hq86 (by simp)
                · skip
                  refine VOps_skipU (.inl (skip_of rfl rfl rfl hq86)) rfl ?_
                  refine VOps_skipU (.inl (skip_of rfl rfl rfl hq86)) rfl ?_
                  refine VOps_skipU (.inl (skip_of rfl rfl rfl hq86)) rfl ?_
                  refine VOps_skipU (.inl (skip_of rfl rfl rfl hq86)) rfl ?_
                  refine VOps_skipU (.inl (skip_of rfl rfl rfl hq86)) rfl ?_
                  refine VOps_skipU (.inl (skip_of rfl rfl rfl hq86)) rfl ?_
                  refine VOps_cons rfl rfl (V_pickF rfl hq86 rfl ?_)
                  refine VOps_nil ?_
                  refine Then_n ?_
                  refine VW_condF rfl rfl ?_
                  refine VW_skip ?_
                  refine Then_n ?_
                  refine VW_seq ?_
                  refine VW_region ?_
                  refine VOps_cons rfl rfl (V_move rfl ?_)
                  refine VOps_cons rfl rfl (V_move rfl ?_)
                  refine VOps_split (q := 95) rfl (fun hq95 => ?_) (fun hq95 => ?_)
                  · exact absurd hq95 (by simp)
                  · skip
                    refine VOps_skipU (.inl (skip_of rfl rfl rfl hq95)) rfl ?_
                    refine VOps_skipU (.inl (skip_of rfl rfl rfl hq95)) rfl ?_
                    refine VOps_skipU (.inl (skip_of rfl rfl rfl hq95)) rfl ?_
                    refine VOps_skipU (.inl (skip_of rfl rfl rfl hq95)) rfl ?_
                    refine VOps_skipU (.inl (skip_of rfl rfl rfl hq95)) rfl ?_
                    refine VOps_skipU (.inl (skip_of rfl rfl rfl hq95)) rfl ?_
                    refine VOps_cons rfl rfl (V_pickF rfl hq95 rfl ?_)
                    refine VOps_nil ?_
                    refine Then_n ?_
                    refine VW_condF rfl rfl ?_
                    refine VW_skip ?_
                    refine InBlock_n (Then_n ?_)
                    refine VW_region ?_
                    refine VOps_cons rfl rfl (V_add rfl rfl (by omega) ?_)
                    refine VOps_cons rfl rfl (V_move rfl ?_)
                    refine VOps_nil ?_
                    refine Then_n ?_
                    exact ⟨i + 1, (by (try simp only []); omega), (by omega), ⟨rfl, rfl, rfl, rfl, rfl, (by rw [hfs]; rfl), rfl, rfl, rfl, trivial⟩, (Drops.keepE (congrArg (Own.cells _ _) (by first | (rw [hss]; exact bcell_set) | rw [hss])) (Drops.refl _))⟩
              · skip
                have hm : (reachF co.1).getD i false = true := by rw [hRb, hbb]
                refine VOps_cons rfl rfl (V_move rfl ?_)
                refine VOps_cons rfl rfl (V_move rfl ?_)
                refine VOps_split (q := 86) rfl (fun hq86 => ?_) (fun hq86 => ?_)
                · skip
                  refine VOps_cons (want_of rfl rfl rfl hq86) rfl (V_move rfl ?_)
                  refine VOps_cons (want_of rfl rfl rfl hq86) rfl (V_move rfl ?_)
                  refine VOps_cons (want_of rfl rfl rfl hq86) rfl (V_indexAddr (el := nodeX nd) VT.sl40 rfl rfl (by omega) (get_mapS _ hn) (fun a89 => ?_))
                  refine VOps_cons (want_of rfl rfl rfl hq86) rfl (V_fieldAddr_ep VT.fa49_0 rfl rfl ?_)
                  refine VOps_cons (want_of rfl rfl rfl hq86) rfl (V_load_ep VT.ty3 rfl rfl ?_)
                  refine VOps_cons (want_of rfl rfl rfl hq86) rfl (V_bin rfl rfl rfl ?_)
                  refine VOps_cons rfl rfl (V_pickT rfl hq86 rfl ?_)
                  refine VOps_nil ?_
                  refine Then_n ?_
                  refine VW_condEq rfl (fun h93 => ?_) (fun h93 => ?_)
                  · skip
                    have hfs : failsTo co.1 (reachF co.1) (i + 1) = true := by rw [failsTo_succ, hm, hka, h93]; simp
                    refine VW_region ?_
                    refine VOps_cons rfl rfl (V_assign rfl ?_)
                    refine VOps_nil ?_
                    refine Then_n ?_
                    refine VW_seq ?_
                    refine VW_region ?_
                    refine VOps_cons rfl rfl (V_move rfl ?_)
                    refine VOps_cons rfl rfl (V_move rfl ?_)
                    refine VOps_split (q := 95) rfl (fun hq95 => ?_) (fun hq95 => ?_)
                    · skip
                      refine VOps_cons (want_of rfl rfl rfl hq95) rfl (V_move rfl ?_)
                      refine VOps_cons (want_of rfl rfl rfl hq95) rfl (V_move rfl ?_)
                      refine VOps_cons (want_of rfl rfl rfl hq95) rfl (V_indexAddr (el := nodeX nd) VT.sl40 rfl rfl (by omega) (get_mapS _ hn) (fun a98 => ?_))
                      refine VOps_cons (want_of rfl rfl rfl hq95) rfl (V_fieldAddr_ep VT.fa49_0 rfl rfl ?_)
                      refine VOps_cons (want_of rfl rfl rfl hq95) rfl (V_load_ep VT.ty3 rfl rfl ?_)
                      refine VOps_cons (want_of rfl rfl rfl hq95) rfl (V_bin rfl rfl rfl ?_)
                      refine VOps_cons rfl rfl (V_pickT rfl hq95 rfl ?_)
                      refine VOps_nil ?_
                      refine Then_n ?_
                      refine VW_condEq rfl (fun h102 => ?_) (fun h102 => ?_)
                      · skip
                        obtain ⟨hra0, hra1⟩ := hL3 i nd hn hm h102
                        have hss : seenTo co.1 (reachF co.1) rows.length (i + 1) = (seenTo co.1 (reachF co.1) rows.length i).set nd.row.toNat true := seenTo_set hm (by rw [hka]; exact h102) (by rw [hra]; omega) (by omega)
                        refine VW_seq ?_
                        refine VW_seq ?_
                        refine VW_region ?_
                        refine VOps_cons rfl rfl (V_move rfl ?_)
                        refine VOps_cons rfl rfl (V_move rfl ?_)
                        refine VOps_cons rfl rfl (V_indexAddr (el := nodeX nd) VT.sl40 rfl rfl (by omega) (get_mapS _ hn) (fun a105 => ?_))
                        refine VOps_cons rfl rfl (V_fieldAddr_ep VT.fa49_1 rfl rfl ?_)
                        refine VOps_cons rfl rfl (V_load_ep VT.ty3 rfl rfl ?_)
                        refine VOps_cons rfl rfl (V_move rfl ?_)
                        refine VOps_cons rfl rfl (V_lenN (n := rows.length) Try.underlying23 rfl (by simp) (fun hl109 => ?_))
                        refine VOps_cons rfl rfl (V_bin rfl rfl rfl ?_)
                        refine VOps_nil ?_
                        refine Then_n ?_
                        refine VW_condP rfl (fun h110 => ?_) (fun h110 => ?_)
                        · omega
                        · skip
                          refine VW_skip ?_
                          refine Then_n ?_
                          refine VW_region ?_
                          refine VOps_cons rfl rfl (V_move rfl ?_)
                          refine VOps_cons rfl rfl (V_move rfl ?_)
                          refine VOps_cons rfl rfl (V_move rfl ?_)
                          refine VOps_cons rfl rfl (V_indexAddr (el := nodeX nd) VT.sl40 rfl rfl (by omega) (get_mapS _ hn) (fun a114 => ?_))
                          refine VOps_cons rfl rfl (V_fieldAddr_ep VT.fa49_1 rfl rfl ?_)
                          refine VOps_cons rfl rfl (V_load_ep VT.ty3 rfl rfl ?_)
                          refine VOps_cons rfl rfl (V_indexAddr_row VT.sl45 rfl rfl (by omega) (by omega) ?_)
                          refine VOps_cons rfl rfl (V_store 0 VT.ty4 rfl rfl rfl rfl (bcell_ble (seenTo_len _ _ _ _) (by omega) (by omega)) ?_)
                          refine VOps_nil ?_
                          refine InBlock_n (Then_n ?_)
                          refine VW_region ?_
                          refine VOps_cons rfl rfl (V_add rfl rfl (by omega) ?_)
                          refine VOps_cons rfl rfl (V_move rfl ?_)
                          refine VOps_nil ?_
                          refine Then_n ?_
                          exact ⟨i + 1, (by (try simp only []); omega), (by omega), ⟨rfl, rfl, rfl, rfl, rfl, (by rw [hfs]; rfl), rfl, rfl, rfl, trivial⟩, (Drops.keepE (congrArg (Own.cells _ _) (by first | (rw [hss]; exact bcell_set) | rw [hss])) (Drops.refl _))⟩
                      · skip
                        have hss : seenTo co.1 (reachF co.1) rows.length (i + 1) = seenTo co.1 (reachF co.1) rows.length i := seenTo_skip (by rw [hm, hka]; simp [h102])
                        refine VW_skip ?_
                        refine InBlock_n (Then_n ?_)
                        refine VW_region ?_
                        refine VOps_cons rfl rfl (V_add rfl rfl (by omega) ?_)
                        refine VOps_cons rfl rfl (V_move rfl ?_)
                        refine VOps_nil ?_
                        refine Then_n ?_
                        exact ⟨i + 1, (by (try simp only []); omega), (by omega), ⟨rfl, rfl, rfl, rfl, rfl, (by rw [hfs]; rfl), rfl, rfl, rfl, trivial⟩, (Drops.keepE (congrArg (Own.cells _ _) (by first | (rw [hss]; exact bcell_set) | rw [hss])) (Drops.refl _))⟩
                    · exact absurd hq95 (by simp)
                  · skip
                    have hfs : failsTo co.1 (reachF co.1) (i + 1) = failsTo co.1 (reachF co.1) i := by rw [failsTo_succ, hm, hka]; simp [h93]
                    refine VW_skip ?_
                    refine Then_n ?_
                    refine VW_seq ?_
                    refine VW_region ?_
                    refine VOps_cons rfl rfl (V_move rfl ?_)
                    refine VOps_cons rfl rfl (V_move rfl ?_)
                    refine VOps_split (q := 95) rfl (fun hq95 => ?_) (fun hq95 => ?_)
                    · skip
                      refine VOps_cons (want_of rfl rfl rfl hq95) rfl (V_move rfl ?_)
                      refine VOps_cons (want_of rfl rfl rfl hq95) rfl (V_move rfl ?_)
                      refine VOps_cons (want_of rfl rfl rfl hq95) rfl (V_indexAddr (el := nodeX nd) VT.sl40 rfl rfl (by omega) (get_mapS _ hn) (fun a98 => ?_))
                      refine VOps_cons (want_of rfl rfl rfl hq95) rfl (V_fieldAddr_ep VT.fa49_0 rfl rfl ?_)
                      refine VOps_cons (want_of rfl rfl rfl hq95) rfl (V_load_ep VT.ty3 rfl rfl ?_)
                      refine VOps_cons (want_of rfl rfl rfl hq95) rfl (V_bin rfl rfl rfl ?_)
                      refine VOps_cons rfl rfl (V_pickT rfl hq95 rfl ?_)
                      refine VOps_nil ?_
                      refine Then_n ?_
                      refine VW_condEq rfl (fun h102 => ?_) (fun h102 => ?_)
                      · skip
                        obtain ⟨hra0, hra1⟩ := hL3 i nd hn hm h102
                        have hss : seenTo co.1 (reachF co.1) rows.length (i + 1) = (seenTo co.1 (reachF co.1) rows.length i).set nd.row.toNat true := seenTo_set hm (by rw [hka]; exact h102) (by rw [hra]; omega) (by omega)
                        refine VW_seq ?_
                        refine VW_seq ?_
                        refine VW_region ?_
                        refine VOps_cons rfl rfl (V_move rfl ?_)
                        refine VOps_cons rfl rfl (V_move rfl ?_)
                        refine VOps_cons rfl rfl (V_indexAddr (el := nodeX nd) VT.sl40 rfl rfl (by omega) (get_mapS _ hn) (fun a105 => ?_))
                        refine VOps_cons rfl rfl (V_fieldAddr_ep VT.fa49_1 rfl rfl ?_)
                        refine VOps_cons rfl rfl (V_load_ep VT.ty3 rfl rfl ?_)
                        refine VOps_cons rfl rfl (V_move rfl ?_)
                        refine VOps_cons rfl rfl (V_lenN (n := rows.length) Try.underlying23 rfl (by simp) (fun hl109 => ?_))
                        refine VOps_cons rfl rfl (V_bin rfl rfl rfl ?_)
                        refine VOps_nil ?_
                        refine Then_n ?_
                        refine VW_condP rfl (fun h110 => ?_) (fun h110 => ?_)
                        · omega
                        · skip
                          refine VW_skip ?_
                          refine Then_n ?_
                          refine VW_region ?_
                          refine VOps_cons rfl rfl (V_move rfl ?_)
                          refine VOps_cons rfl rfl (V_move rfl ?_)
                          refine VOps_cons rfl rfl (V_move rfl ?_)
                          refine VOps_cons rfl rfl (V_indexAddr (el := nodeX nd) VT.sl40 rfl rfl (by omega) (get_mapS _ hn) (fun a114 => ?_))
                          refine VOps_cons rfl rfl (V_fieldAddr_ep VT.fa49_1 rfl rfl ?_)
                          refine VOps_cons rfl rfl (V_load_ep VT.ty3 rfl rfl ?_)
                          refine VOps_cons rfl rfl (V_indexAddr_row VT.sl45 rfl rfl (by omega) (by omega) ?_)
                          refine VOps_cons rfl rfl (V_store 0 VT.ty4 rfl rfl rfl rfl (bcell_ble (seenTo_len _ _ _ _) (by omega) (by omega)) ?_)
                          refine VOps_nil ?_
                          refine InBlock_n (Then_n ?_)
                          refine VW_region ?_
                          refine VOps_cons rfl rfl (V_add rfl rfl (by omega) ?_)
                          refine VOps_cons rfl rfl (V_move rfl ?_)
                          refine VOps_nil ?_
                          refine Then_n ?_
                          exact ⟨i + 1, (by (try simp only []); omega), (by omega), ⟨rfl, rfl, rfl, rfl, rfl, (by rw [hfs]; rfl), rfl, rfl, rfl, trivial⟩, (Drops.keepE (congrArg (Own.cells _ _) (by first | (rw [hss]; exact bcell_set) | rw [hss])) (Drops.refl _))⟩
                      · skip
                        have hss : seenTo co.1 (reachF co.1) rows.length (i + 1) = seenTo co.1 (reachF co.1) rows.length i := seenTo_skip (by rw [hm, hka]; simp [h102])
                        refine VW_skip ?_
                        refine InBlock_n (Then_n ?_)
                        refine VW_region ?_
                        refine VOps_cons rfl rfl (V_add rfl rfl (by omega) ?_)
                        refine VOps_cons rfl rfl (V_move rfl ?_)
                        refine VOps_nil ?_
                        refine Then_n ?_
                        exact ⟨i + 1, (by (try simp only []); omega), (by omega), ⟨rfl, rfl, rfl, rfl, rfl, (by rw [hfs]; rfl), rfl, rfl, rfl, trivial⟩, (Drops.keepE (congrArg (Own.cells _ _) (by first | (rw [hss]; exact bcell_set) | rw [hss])) (Drops.refl _))⟩
                    · exact absurd hq95 (by simp)
                · exact absurd hq86 (by simp)
            · skip
              have hie : i = co.1.length := by omega
              subst hie
              refine VW_exit ?_
              refine Then_e (Then_e (InBlock_hit ?_))
              refine Then_n ?_
              refine VW_seq ?_
              refine VW_seq ?_
              refine VW_region ?_
              refine VOps_cons rfl rfl (V_move rfl ?_)
              refine VOps_cons rfl rfl (V_len_raw Try.underlying45 rfl ?_)
              refine VOps_cons rfl rfl (V_move rfl ?_)
              refine VOps_nil ?_
              refine Then_n ?_
              refine VW_block ?_
              refine VW_loopF (ι := Nat) (fun j => rows.length - j) (fun j => [(7, some (natsX ro.1)), (9, some (patsX mo.1)), (12, some (.bool (failsTo co.1 (reachF co.1) co.1.length))), (119, some (.raw (.slice (some ⟨g76, 0, none⟩) rows.length rows.length))), (120, some (.int rows.length)), (121, some (.int j))]) (fun j => [.cells g76 4 ((seenTo co.1 (reachF co.1) rows.length co.1.length).map V.bool)]) (fun j => j ≤ rows.length) 0 (Nat.zero_le _) ⟨rfl, rfl, rfl, rfl, rfl, rfl, trivial⟩ (Drops.keep (Drops.refl _)) ?_
              rintro j hj
              change j ≤ rows.length at hj
              refine VW_seq ?_
              refine VW_region ?_
              refine VOps_cons rfl rfl (V_bin rfl rfl rfl ?_)
              refine VOps_nil ?_
              refine Then_n ?_
              refine VW_seq ?_
              refine VW_condP rfl (fun h122 => ?_) (fun h122 => ?_)
              · skip
                have hlj := hL2 j (by omega)
                refine VW_skip ?_
                refine Then_n ?_
                refine VW_seq ?_
                refine VW_block ?_
                refine VW_seq ?_
                refine VW_region ?_
                refine VOps_cons rfl rfl (V_move rfl ?_)
                refine VOps_cons rfl rfl (V_indexAddr_row VT.sl45 rfl rfl (by omega) (by omega) ?_)
                refine VOps_cons rfl rfl (V_load 0 VT.ty4 rfl rfl (bcell_get (seenTo_len _ _ _ _) (by omega) (by omega)) ?_)
                refine VOps_cons rfl rfl (V_assign rfl ?_)
                refine VOps_cons rfl rfl (V_assign rfl ?_)
                refine VOps_nil ?_
                refine Then_n ?_
                refine VW_seq ?_
                refine VW_region ?_
                refine VOps_cons rfl rfl (V_move rfl ?_)
                refine VOps_cons rfl rfl (V_move rfl ?_)
                refine VOps_cons rfl rfl (V_move rfl ?_)
                refine VOps_cons rfl rfl (V_callP [.tmp 127, .tmp 128] rfl rfl VT.en14 (hasInt_c ro.1 j) ?_)
                refine VOps_cons rfl rfl (V_booleq Try.underlying4 rfl rfl ?_)
                refine VOps_nil ?_
                refine Then_n ?_
                refine VW_cond rfl (fun h130 => ?_) (fun h130 => ?_)
                · exact absurd h130 (by rw [Int.toNat_natCast, hlj]; simp)
                · skip
                  refine VW_skip ?_
                  refine InBlock_n (Then_n ?_)
                  refine VW_region ?_
                  refine VOps_cons rfl rfl (V_add rfl rfl (by omega) ?_)
                  refine VOps_cons rfl rfl (V_move rfl ?_)
                  refine VOps_nil ?_
                  refine Then_n ?_
                  exact ⟨j + 1, (by (try simp only []); omega), (by omega), ⟨rfl, rfl, rfl, rfl, rfl, rfl, trivial⟩, (Drops.keep (Drops.refl _))⟩
              · skip
                refine VW_exit ?_
                refine Then_e (Then_e (InBlock_hit ?_))
                refine Then_n ?_
                refine VW_seq ?_
                refine VW_region ?_
                refine VOps_cons rfl rfl (V_move rfl ?_)
                refine VOps_cons rfl rfl (V_move rfl ?_)
                refine VOps_cons rfl rfl (V_lenN (n := mo.1.length) Try.underlying25 rfl (by simp) (fun hl134 => ?_))
                refine VOps_cons rfl rfl (V_bin rfl rfl rfl ?_)
                refine VOps_cons rfl rfl (V_booleq Try.underlying4 rfl rfl ?_)
                refine VOps_cons rfl rfl (V_assign rfl ?_)
                refine VOps_nil ?_
                refine Then_n ?_
                refine VW_ret ?_
                refine VRet_one rfl (.tmp rfl) ?_
                exact congrArg V.bool (by rw [hL1]; simp)


end Go.Proofs.Ytmjeaagpcmfnpaa.W22
