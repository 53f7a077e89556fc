/- Walks, printed by walk.py. -/
import Derived.Test.YtmjeaagpcmfnpaaVT
import Derived.Test.YtmjeaagpcmfnpaaVDA
import Derived.Test.YtmjeaagpcmfnpaaVB
import Derived.Test.YtmjeaagpcmfnpaaVMA
import Derived.Test.YtmjeaagpcmfnpaaW1
import Derived.Test.YtmjeaagpcmfnpaaW2
import Derived.Test.YtmjeaagpcmfnpaaW16
import Derived.Test.YtmjeaagpcmfnpaaW17
import Derived.Test.YtmjeaagpcmfnpaaW18
import Derived.Test.YtmjeaagpcmfnpaaW19
set_option linter.unusedVariables false
set_option linter.unusedSimpArgs false
namespace Go.Proofs.Ytmjeaagpcmfnpaa.W20
open Go.VL Go.PM Go.Proofs.Ytmjeaagpcmfnpaa Go.Proofs.Ytmjeaagpcmfnpaa.W1 Go.Proofs.Ytmjeaagpcmfnpaa.W2 Go.Proofs.Ytmjeaagpcmfnpaa.W16 Go.Proofs.Ytmjeaagpcmfnpaa.W17 Go.Proofs.Ytmjeaagpcmfnpaa.W18 Go.Proofs.Ytmjeaagpcmfnpaa.W19

theorem kget_kput (l : List (Str × V)) (s x : Str) (v : V) : kget (kput l s v) x = if s = x then some v else kget l x := by
  induction l with
  | nil => simp [kput, kget]
  | cons a l ih =>
    obtain ⟨b, u⟩ := a
    simp only [kput]
    by_cases h : b = s
    · subst h
      rw [if_pos rfl]
      by_cases hx : b = x
      · simp [kget, hx]
      · simp [kget, hx]
    · rw [if_neg h]
      simp only [kget]
      by_cases hx : b = x
      · subst hx
        rw [if_pos rfl, if_pos rfl, if_neg (fun e => h e.symm)]
      · rw [if_neg hx, if_neg hx, ih]
/-- The table of the builder, as far as it has been laid. -/
structure TabRel (ds : List DataSig) (base : Addr) (t : Tab) (tab : List (Str × V)) : Prop where
  no : ∀ s, tget t s = none → kget tab s = none
  yes : ∀ s c, tget t s = some c → ∃ D, ds[c.1]? = some D ∧ kget tab s = some (.ep ⟨base.block, base.off + c.1 * 3, none⟩ (dataV D))
theorem TabRel.con {ds : List DataSig} {base : Addr} {t : Tab} {tab : List (Str × V)} (h : TabRel ds base t tab) : ConTab t ds tab := fun s c D hc hD => by
  obtain ⟨D', h1, h2⟩ := h.yes s c hc
  rw [hD] at h1
  injection h1 with h1
  subst h1
  exact ⟨_, h2⟩
theorem TabRel.add {ds : List DataSig} {base : Addr} {t : Tab} {tab : List (Str × V)} {s : Str} {k n m : Nat} {D : DataSig} (h : TabRel ds base t tab) (hs : tget t s = .none) (hD : ds[k]? = .some D) : TabRel ds base (t ++ [(s, k, n, m)]) (kput tab s (.ep ⟨base.block, base.off + k * 3, none⟩ (dataV D))) := by
  refine ⟨fun x hx => ?_, fun x c hx => ?_⟩
  · rw [tget_snoc] at hx
    cases hg : tget t x with
    | some y => rw [hg] at hx; cases hx
    | none =>
      rw [hg] at hx
      simp only at hx
      by_cases e : s = x
      · rw [if_pos e] at hx; cases hx
      · rw [kget_kput, if_neg e]; exact h.no x hg
  · rw [tget_snoc] at hx
    cases hg : tget t x with
    | some y =>
      rw [hg] at hx
      have e : ¬ s = x := fun e => by rw [← e, hs] at hg; cases hg
      rw [kget_kput, if_neg e]
      exact h.yes x c (hg.trans hx)
    | none =>
      rw [hg] at hx
      simp only at hx
      by_cases e : s = x
      · rw [if_pos e] at hx
        injection hx with hx
        subst hx
        exact ⟨D, hD, by rw [kget_kput, if_pos e]⟩
      · rw [if_neg e] at hx; cases hx

theorem nodes_flat (l : List MNode) : ∀ y ∈ l.map nodeX, y.flat = true := fun y hy => by
  obtain ⟨n, _, rfl⟩ := List.mem_map.1 hy
  rfl
def dcell (acc : List Nat) (m z : Nat) : List V := (acc ++ m :: List.replicate z 0).map fun n : Nat => V.int n
theorem dcell_eq {acc : List Nat} {m z k : Nat} (h : acc.length = k) : (dcell acc m z)[0 + (k : Int).toNat * 1]? = some (.int m) := by
  subst h
  rw [Int.toNat_natCast, Nat.zero_add, Nat.mul_one]
  simp [dcell]
theorem dcell_lt {acc : List Nat} {m z : Nat} {y : Int} (h0 : 0 ≤ y) (hy : y < acc.length) : (dcell acc m z)[0 + y.toNat * 1]? = some (.int (acc.getD y.toNat 0)) := by
  rw [Nat.zero_add, Nat.mul_one]
  have hlt : y.toNat < acc.length := by omega
  simp only [dcell, List.getElem?_map, List.getElem?_append_left hlt, List.getElem?_eq_getElem hlt, List.getD_eq_getElem?_getD, Option.map_some, Option.getD_some]
theorem dcell_put {acc : List Nat} {m z k : Nat} (h : acc.length = k) (v : Nat) : (dcell acc m z).set (0 + (k : Int).toNat * 1) (.int v) = dcell acc v z := by
  subst h
  rw [Int.toNat_natCast, Nat.zero_add, Nat.mul_one]
  simp [dcell, List.set_append]
theorem dcell_ble {acc : List Nat} {m z k : Nat} (h : acc.length = k) : Nat.ble (0 + (k : Int).toNat * 1 + 1) (dcell acc m z).length = true := by
  refine Nat.ble_eq_true_of_le ?_
  simp [dcell]
  omega
theorem dcell_next (acc : List Nat) (m z : Nat) : dcell acc m (z + 1) = dcell (acc ++ [m]) 0 z := by
  simp [dcell, List.replicate_succ]
theorem dcell_init (n : Nat) : (List.replicate (n + 1) (V.raw (.int .i64 0))).flatMap V.leaves = dcell [] 0 n := by
  induction n with
  | zero => rfl
  | succ n ih =>
    rw [List.replicate_succ, List.flatMap_cons, ih]
    simp [dcell, List.replicate_succ, V.leaves]
theorem deepL_bound (l : List MNode) : ∀ j, (deepL l []).getD j 0 ≤ j + 1 := fun j => by
  induction j using Nat.strongRecOn with
  | _ j ih =>
    cases h : l[j]? with
    | none =>
      have hj : l.length ≤ j := by simpa using h
      rw [List.getD_eq_getElem?_getD, List.getElem?_eq_none (by rw [deepL_len]; simpa using hj)]
      exact Nat.zero_le _
    | some n =>
      rw [deep_get h]
      unfold ndD
      split
      · refine ndStep_le _ _ (by omega) fun y _ i hi hlt => ?_
        rw [deepL_len, List.length_take, List.length_nil] at hlt
        have e : (deepL (l.take j) []).getD i 0 = (deepL l []).getD i 0 := by
          conv => rhs; rw [← List.take_append_drop j l, deepL_append]
          exact (prefix_getD (deepL_prefix _ _) (by rw [deepL_len, List.length_take, List.length_nil]; omega)).symm
        have := ih i (by omega)
        omega
      · exact Nat.zero_le _
theorem ndStep_in {acc : List Nat} {m : Nat} {y : Int} (h0 : 0 ≤ y) (hy : y < acc.length) : ndStep acc m y = max m (acc.getD y.toNat 0 + 1) := by unfold ndStep; rw [if_pos ⟨h0, hy⟩]
theorem ndStep_lo {acc : List Nat} {m : Nat} {y : Int} (h0 : ¬ 0 ≤ y) : ndStep acc m y = m := by unfold ndStep; rw [if_neg fun h => h0 h.1]
theorem ndStep_hi {acc : List Nat} {m : Nat} {y : Int} (h0 : ¬ y < acc.length) : ndStep acc m y = m := by unfold ndStep; rw [if_neg fun h => h0 h.2]
theorem max_cast {acc : List Nat} {m : Nat} {y : Int} (h0 : 0 ≤ y) (hy : y < acc.length) : V.int (if ((acc.getD y.toNat 0 : Nat) : Int) + 1 > m then ((acc.getD y.toNat 0 : Nat) : Int) + 1 else m) = V.int (ndStep acc m y) := by
  rw [ndStep_in h0 hy]
  refine congrArg V.int ?_
  split <;> omega
theorem deepL_take_bound (l : List MNode) (k j : Nat) : (deepL (l.take k) []).getD j 0 ≤ j + 1 := deepL_bound (l.take k) j

set_option maxRecDepth 100000 in
set_option maxHeartbeats 2000000 in
theorem mindex_c (ds : List DataSig) (t : Tab) (hb : buildF 0 ds [] = some t) : VCalls Try.prog 30 [datasX ds] [] fun r S' => ∃ g tab base, r = .tup [.raw (.map (some g)), .int 0] ∧ S' = [.map g (kmap kstr tab)] ∧ TabRel ds base t tab := by
  refine VCalls_drops ?_
  refine V_start (nt := 38) Try.func30 rfl rfl rfl ?_
  refine VW_pin (q := 0) rfl (fun base => ?_)
  refine VW_seq ?_
  refine VW_region ?_
  refine VOps_cons rfl rfl (V_assign rfl ?_)
  refine VOps_cons rfl rfl (V_assign rfl ?_)
  refine VOps_nil ?_
  refine Then_n ?_
  refine VW_seq ?_
  refine VW_region ?_
  refine VOps_cons rfl rfl (V_makeMap (kv := kstr) (fun g8 => ?_))
  refine VOps_cons rfl rfl (V_assign rfl ?_)
  refine VOps_nil ?_
  refine Then_n ?_
  refine VW_seq ?_
  refine VW_seq ?_
  refine VW_region ?_
  refine VOps_cons rfl rfl (V_move rfl ?_)
  refine VOps_cons rfl rfl (V_lenN (n := ds.length) Try.underlying22 rfl (by simp) (fun hl10 => ?_))
  refine VOps_cons rfl rfl (V_move rfl ?_)
  refine VOps_nil ?_
  refine Then_n ?_
  refine VW_block ?_
  refine VW_loopF (ι := Nat × Tab × List (Str × V)) (fun (k, tb, tab) => ds.length - k) (fun (k, tb, tab) => [(0, some (.sl 3 (some (.pin base)) (ds.map dataV))), (4, some (.raw (.map (some g8)))), (9, some (.sl 3 (some (.pin base)) (ds.map dataV))), (10, some (.int ds.length)), (11, some (.int k))]) (fun (k, tb, tab) => [.map g8 (kmap kstr tab)]) (fun (k, tb, tab) => k ≤ ds.length ∧ buildF k (ds.drop k) tb = some t ∧ TabRel ds base tb tab) (0, [], []) ⟨Nat.zero_le _, hb, ⟨fun _ _ => rfl, fun _ _ h => by cases h⟩⟩ ⟨rfl, rfl, rfl, rfl, rfl, trivial⟩ (Drops.keep (Drops.refl _)) ?_
  rintro ⟨k, tb, tab⟩ hA
  change k ≤ ds.length ∧ buildF k (ds.drop k) tb = some t ∧ TabRel ds base tb tab at hA
  obtain ⟨hk, hq, hrel⟩ := hA
  refine VW_seq ?_
  refine VW_region ?_
  refine VOps_cons rfl rfl (V_bin rfl rfl rfl ?_)
  refine VOps_nil ?_
  refine Then_n ?_
  refine VW_seq ?_
  refine VW_condP rfl (fun h12 => ?_) (fun h12 => ?_)
  · skip
    obtain ⟨d, hd⟩ := get_of_lt ds k h12
    rw [drop_cons hd, buildF] at hq
    obtain ⟨tz, hz⟩ : ∃ tz, addCons k 0 d.cons tb = some tz := by cases hz : addCons k 0 d.cons tb with | none => rw [hz] at hq; cases hq | some tz => exact ⟨tz, rfl⟩
    refine VW_skip ?_
    refine Then_n ?_
    refine VW_seq ?_
    refine VW_block ?_
    refine VW_seq ?_
    refine VW_region ?_
    refine VOps_cons rfl rfl (V_move rfl ?_)
    refine VOps_cons rfl rfl (V_assign rfl ?_)
    refine VOps_nil ?_
    refine Then_n ?_
    refine VW_seq ?_
    refine VW_region ?_
    refine VOps_cons rfl rfl (V_move rfl ?_)
    refine VOps_cons rfl rfl (V_move rfl ?_)
    refine VOps_cons rfl rfl (V_indexAddr_pin (el := dataV d) VT.sl22 rfl rfl (by omega) (get_mapS _ hd) ?_)
    refine VOps_cons rfl rfl (V_fieldAddr_ep VT.fa62_2 rfl rfl ?_)
    refine VOps_cons rfl rfl (V_load_ep VT.ty60 rfl rfl ?_)
    refine VOps_cons rfl rfl (V_lenN (n := d.cons.length) Try.underlying60 rfl (by simp) (fun hl19 => ?_))
    refine VOps_cons rfl rfl (V_move rfl ?_)
    refine VOps_nil ?_
    refine Then_n ?_
    refine VW_block ?_
    refine VW_loopF (ι := Nat × Tab × List (Str × V)) (fun (n, tb1, tab1) => d.cons.length - n) (fun (n, tb1, tab1) => [(0, some (.sl 3 (some (.pin base)) (ds.map dataV))), (4, some (.raw (.map (some g8)))), (5, some (.int k)), (9, some (.sl 3 (some (.pin base)) (ds.map dataV))), (10, some (.int ds.length)), (11, some (.int k)), (18, some (.sl 2 none (d.cons.map conV))), (19, some (.int d.cons.length)), (20, some (.int n))]) (fun (n, tb1, tab1) => [.map g8 (kmap kstr tab1)]) (fun (n, tb1, tab1) => n ≤ d.cons.length ∧ addCons k n (d.cons.drop n) tb1 = addCons k 0 d.cons tb ∧ TabRel ds base tb1 tab1) (0, tb, tab) ⟨Nat.zero_le _, rfl, hrel⟩ ⟨rfl, rfl, rfl, rfl, rfl, rfl, rfl, rfl, rfl, trivial⟩ (Drops.keep (Drops.refl _)) ?_
    rintro ⟨n, tb1, tab1⟩ hA
    change n ≤ d.cons.length ∧ addCons k n (d.cons.drop n) tb1 = addCons k 0 d.cons tb ∧ TabRel ds base tb1 tab1 at hA
    obtain ⟨hn, hq2, hrel1⟩ := hA
    refine VW_seq ?_
    refine VW_region ?_
    refine VOps_cons rfl rfl (V_bin rfl rfl rfl ?_)
    refine VOps_nil ?_
    refine Then_n ?_
    refine VW_seq ?_
    refine VW_condP rfl (fun h21 => ?_) (fun h21 => ?_)
    · skip
      obtain ⟨c, hc⟩ := get_of_lt d.cons n h21
      have htn : tget tb1 c.name = none := by cases ht : tget tb1 c.name with | none => rfl | some y => rw [← hq2, drop_cons hc, addCons, ht] at hz; cases hz
      refine VW_skip ?_
      refine Then_n ?_
      refine VW_seq ?_
      refine VW_block ?_
      refine VW_seq ?_
      refine VW_region ?_
      refine VOps_cons rfl rfl (V_indexAddr (el := conV c) VT.sl60 rfl rfl (by omega) (get_mapS _ hc) (fun a22 => ?_))
      refine VOps_cons rfl rfl (V_load_ep_agg VT.ty59 rfl rfl ?_)
      refine VOps_cons rfl rfl (V_alloc VT.zr59 _ rfl rfl (fun g7 => ?_))
      refine VOps_cons rfl rfl (V_store_agg 0 VT.ty59 rfl rfl rfl rfl rfl ?_)
      refine VOps_nil ?_
      refine Then_n ?_
      refine VW_seq ?_
      refine VW_seq ?_
      refine VW_region ?_
      refine VOps_cons rfl rfl (V_move rfl ?_)
      refine VOps_cons rfl rfl (V_fieldAddr VT.fa59_0 rfl ?_)
      refine VOps_cons rfl rfl (V_load 0 VT.ty9 rfl rfl rfl ?_)
      refine VOps_cons rfl rfl (V_lookup0 1 (.raw (.pointer none)) (fun m => rfl) Try.underlying71 (key_str Try.underlying9) VT.zr100 rfl rfl rfl ((hrel1.no _ htn)) ?_)
      refine VOps_cons rfl rfl (V_nilNeNil Try.underlying100 rfl ?_)
      refine VOps_nil ?_
      refine Then_n ?_
      refine VW_condF rfl rfl ?_
      refine VW_skip ?_
      refine Then_n ?_
      refine VW_draw (G := Unit) [([], [4], []), ([], [7], []), ([1], [30], []), ([], [0], []), ([], [5], []), ([4, 3], [32, 33], []), ([5, 4, 3, 2, 1, 0], [29, 31, 34], [])] [6] (oneSt _ (fun _ => [.cells g7 59 [.str c.name, .sl 4 none c.args], .map g8 (kmap kstr (kput tab1 c.name (.ep ⟨base.block, base.off + Int.toNat (k : Int) * 3, none⟩ (dataV d))))])) [] [29, 30, 31, 32, 33, 34] rfl VT.mix (by kernel_rfl) (by kernel_rfl) ?_
      refine DrawP_consL (acc' := [_]) (eqRes _) (goodS rfl rfl ⟨(fun γ => Needs_f (by kernel_rfl) (fun r4 h4 => Needs_nil (vopT rfl (V_move h4 ⟨rfl, rfl⟩)))), trivial⟩) rfl ?_
      refine DrawP_consL (acc' := [_, _]) (eqRes _) (goodS rfl rfl ⟨(fun γ => Needs_f (by kernel_rfl) (fun r7 h7 => Needs_nil (vopT rfl (V_fieldAddr VT.fa59_0 h7 ⟨rfl, rfl⟩)))), trivial⟩) rfl ?_
      refine DrawP_consL (acc' := [_, _, _]) (eqRes _) (goodS rfl rfl ⟨(fun γ => Needs_w 1 (by kernel_rfl) rfl (fun r30 h30 => Needs_nil (vopT rfl (V_load 0 VT.ty9 h30 rfl rfl ⟨rfl, rfl⟩)))), trivial⟩) rfl ?_
      refine DrawP_consL (acc' := [_, _, _, _]) (eqRes _) (goodS rfl rfl ⟨(fun γ => Needs_f (by kernel_rfl) (fun r0 h0 => Needs_nil (vopT rfl (V_move h0 ⟨rfl, rfl⟩)))), trivial⟩) rfl ?_
      refine DrawP_consL (acc' := [_, _, _, _, _]) (eqRes _) (goodS rfl rfl ⟨(fun γ => Needs_f (by kernel_rfl) (fun r5 h5 => Needs_nil (vopT rfl (V_move h5 ⟨rfl, rfl⟩)))), trivial⟩) rfl ?_
      refine DrawP_consL (acc' := [_, _, _, _, _, _]) (eqRes _) (goodS rfl rfl ⟨(fun γ => Needs_w 3 (by kernel_rfl) rfl (fun r32 h32 => Needs_w 4 (by kernel_rfl) rfl (fun r33 h33 => Needs_nil (vopT rfl (V_indexAddr_pin (el := dataV d) VT.sl22 h32 h33 (by omega) (get_mapS _ hd) ⟨rfl, rfl⟩))))), trivial⟩) rfl ?_
      refine DrawP_consL (acc' := [_, _, _, _, _, _, _]) anyRes (goodU1 rfl (fun γ => Needs_w 0 (by kernel_rfl) rfl (fun r29 h29 => Needs_w 2 (by kernel_rfl) rfl (fun r31 h31 => Needs_w 5 (by kernel_rfl) rfl (fun r34 h34 => Needs_nil (vopT rfl (V_mapUpdate 1 Try.underlying71 (key_str Try.underlying9) h29 h31 h34 rfl ⟨default, trivial, rfl⟩))))))) rfl ?_
      refine DrawP_nil (fun γ => Needs_nil ?_)
      refine InBlock_n (Then_n ?_)
      refine VW_region ?_
      refine VOps_cons rfl rfl (V_add rfl rfl (by omega) ?_)
      refine VOps_cons rfl rfl (V_move rfl ?_)
      refine VOps_nil ?_
      refine Then_n ?_
      exact ⟨(n + 1, tb1 ++ [(c.name, k, n, c.args.length)], kput tab1 c.name (.ep ⟨base.block, base.off + k * 3, none⟩ (dataV d))), (by (try simp only []); omega), ⟨by omega, by rw [← hq2, drop_cons hc, addCons, htn], hrel1.add htn hd⟩, ⟨rfl, rfl, rfl, rfl, rfl, rfl, rfl, rfl, rfl, trivial⟩, (Drops.drop (Drops.keep (Drops.refl _)))⟩
    · skip
      have hne : n = d.cons.length := by omega
      subst hne
      rw [List.drop_length, addCons] at hq2
      rw [← hq2] at hq
      refine VW_exit ?_
      refine Then_e (Then_e (InBlock_hit ?_))
      refine InBlock_n (Then_n ?_)
      refine VW_region ?_
      refine VOps_cons rfl rfl (V_add rfl rfl (by omega) ?_)
      refine VOps_cons rfl rfl (V_move rfl ?_)
      refine VOps_nil ?_
      refine Then_n ?_
      exact ⟨(k + 1, tb1, tab1), (by (try simp only []); omega), ⟨by omega, hq, hrel1⟩, ⟨rfl, rfl, rfl, rfl, rfl, trivial⟩, (Drops.keep (Drops.refl _))⟩
  · skip
    have hke : k = ds.length := by omega
    subst hke
    rw [List.drop_length, buildF] at hq
    injection hq with hq
    subst hq
    refine VW_exit ?_
    refine Then_e (Then_e (InBlock_hit ?_))
    refine Then_n ?_
    refine VW_seq ?_
    refine VW_region ?_
    refine VOps_cons rfl rfl (V_move rfl ?_)
    refine VOps_cons rfl rfl (V_assign rfl ?_)
    refine VOps_cons rfl rfl (V_assign rfl ?_)
    refine VOps_nil ?_
    refine Then_n ?_
    refine VW_ret ?_
    refine VRet_many rfl rfl (.cons (.tmp rfl) (.cons (.tmp rfl) (.nil))) ?_
    exact ⟨_, Drops.refl _, g8, tab, base, rfl, rfl, hrel⟩


set_option maxRecDepth 100000 in
theorem nodeCloneRow_c (l : List MNode) (hne : l ≠ []) (hl : l.length ≤ 1000000) : VCalls Try.prog 32 [.sl 6 none (l.map nodeX)] [] fun r S' => ∃ g cap rest, l.length ≤ cap ∧ cap ≤ maxLen ∧ r = .raw (.slice (some ⟨g, 0, none⟩) l.length cap) ∧ S' = [.cells g 49 ((l.map nodeX).flatMap V.leaves ++ rest)] := by
  refine VCalls_drops ?_
  refine V_start (nt := 8) Try.func32 rfl rfl rfl ?_
  refine VW_seq ?_
  refine VW_region ?_
  refine VOps_cons rfl rfl (V_assign rfl ?_)
  refine VOps_nil ?_
  refine Then_n ?_
  refine VW_seq ?_
  refine VW_seq ?_
  refine VW_region ?_
  refine VOps_cons rfl rfl (V_move rfl ?_)
  refine VOps_cons rfl rfl (V_eqNil Try.underlying40 rfl (fun b4 hb4 => ?_))
  refine VOps_nil ?_
  refine Then_n ?_
  refine VW_cond rfl (fun h4 => ?_) (fun h4 => ?_)
  · exact absurd (hb4 h4) (by simpa using hne)
  · skip
    refine VW_skip ?_
    refine Then_n ?_
    refine VW_seq ?_
    refine VW_region ?_
    refine VOps_cons rfl rfl (V_litRow [] VT.sl40 rfl rfl rfl rfl rfl (fun g5 => ?_))
    refine VOps_cons rfl rfl (V_move rfl ?_)
    refine VOps_cons rfl rfl (V_appendRow VT.sl40 (by decide) rfl rfl (by have := List.length_pos_iff.2 hne; simpa using this) (by simp; omega) (nodes_flat l) (fun g7 cap7 rest7 hc7 hm7 => ?_))
    refine VOps_cons rfl rfl (V_assign rfl ?_)
    refine VOps_nil ?_
    refine Then_n ?_
    refine VW_ret ?_
    refine VRet_one rfl (.tmp rfl) ?_
    exact ⟨_, Drops.keep (Drops.drop (Drops.refl _)), g7, cap7, rest7, by simpa using hc7, hm7, by simp, rfl⟩


set_option maxRecDepth 100000 in
set_option maxHeartbeats 4000000 in
theorem depth_c (l : List MNode) (hl : l.length ≤ 1000000) : VPure Try.prog 20 [nodesX l] (.int (depthF l)) := by
  refine V_start (nt := 68) Try.func20 rfl rfl rfl ?_
  refine VW_seq ?_
  refine VW_region ?_
  refine VOps_cons rfl rfl (V_assign rfl ?_)
  refine VOps_nil ?_
  refine Then_n ?_
  refine VW_seq ?_
  refine VW_region ?_
  refine VOps_cons rfl rfl (V_move rfl ?_)
  refine VOps_cons rfl rfl (V_lenN (n := l.length) Try.underlying40 rfl (by simp) (fun hl9 => ?_))
  refine VOps_cons rfl rfl (V_add rfl rfl (by omega) ?_)
  refine VOps_cons rfl rfl (V_makeRow (.raw (.int .i64 0)) (fun m => rfl) rfl VT.sl32 rfl rfl (by omega) (by omega) (fun g11 => ?_))
  refine VOps_cons rfl rfl (V_assign rfl ?_)
  refine VOps_nil ?_
  refine Then_n ?_
  refine VW_seq ?_
  refine VW_seq ?_
  refine VW_region ?_
  refine VOps_cons rfl rfl (V_move rfl ?_)
  refine VOps_cons rfl rfl (V_lenN (n := l.length) Try.underlying40 rfl (by simp) (fun hl13 => ?_))
  refine VOps_cons rfl rfl (V_move rfl ?_)
  refine VOps_nil ?_
  refine Then_n ?_
  refine VW_block ?_
  refine VW_loopF (ι := Nat) (fun k => l.length - k) (fun k => [(0, some (nodesX l)), (3, some (.raw (.slice (some ⟨g11, 0, none⟩) (l.length + 1) (l.length + 1)))), (12, some (nodesX l)), (13, some (.int l.length)), (14, some (.int k))]) (fun k => [.cells g11 3 (dcell (deepL (l.take k) []) 0 (l.length - k))]) (fun k => k ≤ l.length) 0 (Nat.zero_le _) ⟨rfl, rfl, rfl, rfl, rfl, trivial⟩ (Drops.keepE (congrArg (Own.cells _ _) (dcell_init l.length)) (Drops.refl _)) ?_
  rintro k hk
  change k ≤ l.length at hk
  have hdl : (deepL (l.take k) []).length = k := by rw [deepL_len, List.length_take, List.length_nil]; omega
  refine VW_seq ?_
  refine VW_region ?_
  refine VOps_cons rfl rfl (V_bin rfl rfl rfl ?_)
  refine VOps_nil ?_
  refine Then_n ?_
  refine VW_seq ?_
  refine VW_condP rfl (fun h15 => ?_) (fun h15 => ?_)
  · skip
    obtain ⟨nd, hn⟩ := get_of_lt l k h15
    refine VW_skip ?_
    refine Then_n ?_
    refine VW_seq ?_
    refine VW_block ?_
    refine VW_seq ?_
    refine VW_region ?_
    refine VOps_cons rfl rfl (V_move rfl ?_)
    refine VOps_cons rfl rfl (V_indexAddr (el := nodeX nd) VT.sl40 rfl rfl (by omega) (get_mapS _ hn) (fun a17 => ?_))
    refine VOps_cons rfl rfl (V_load_ep_agg VT.ty49 rfl rfl ?_)
    refine VOps_cons rfl rfl (V_alloc VT.zr49 _ rfl rfl (fun g5 => ?_))
    refine VOps_cons rfl rfl (V_assign rfl ?_)
    refine VOps_cons rfl rfl (V_store_agg 0 VT.ty49 rfl rfl rfl rfl rfl ?_)
    refine VOps_nil ?_
    refine Then_n ?_
    refine VW_seq ?_
    refine VW_seq ?_
    refine VW_region ?_
    refine VOps_cons rfl rfl (V_fieldAddr VT.fa49_0 rfl ?_)
    refine VOps_cons rfl rfl (V_load 0 VT.ty3 rfl rfl rfl ?_)
    refine VOps_cons rfl rfl (V_bin rfl rfl rfl ?_)
    refine VOps_cons rfl rfl (V_move rfl ?_)
    refine VOps_split (q := 22) rfl (fun hq22 => ?_) (fun hq22 => ?_)
    · skip
      have h2 : nd.kind ≠ 2 := by simpa using hq22
      refine VOps_cons (want_of rfl rfl rfl hq22) rfl (V_fieldAddr VT.fa49_0 rfl ?_)
      refine VOps_cons (want_of rfl rfl rfl hq22) rfl (V_load 0 VT.ty3 rfl rfl rfl ?_)
      refine VOps_cons (want_of rfl rfl rfl hq22) rfl (V_bin rfl rfl rfl ?_)
      refine VOps_cons rfl rfl (V_pickT rfl hq22 rfl ?_)
      refine VOps_nil ?_
      refine Then_n ?_
      refine VW_condNe rfl (fun h26 => ?_) (fun h26 => ?_)
      · skip
        have hnd : ndD (deepL (l.take k) []) nd = 0 := by unfold ndD; rw [if_neg (by omega)]
        refine VW_exit ?_
        refine Then_e (InBlock_hit ?_)
        refine Then_n ?_
        refine VW_region ?_
        refine VOps_cons rfl rfl (V_add rfl rfl (by omega) ?_)
        refine VOps_cons rfl rfl (V_move rfl ?_)
        refine VOps_nil ?_
        refine Then_n ?_
        exact ⟨k + 1, (by (try simp only []); omega), (by omega), ⟨rfl, rfl, rfl, rfl, rfl, trivial⟩, (Drops.drop (Drops.keepE (congrArg (Own.cells _ _) (by rw [show deepL (l.take (k + 1)) [] = deepL (l.take k) [] ++ [ndD (deepL (l.take k) []) nd] by rw [take_snoc hn, deepL_append]; rfl, hnd, ← dcell_next, show l.length - (k + 1) + 1 = l.length - k by omega])) (Drops.refl _)))⟩
      · skip
        have h23 : nd.kind = 2 ∨ nd.kind = 3 := .inr h26
        refine VW_skip ?_
        refine Then_n ?_
        refine VW_seq ?_
        refine VW_region ?_
        refine VOps_cons rfl rfl (V_move rfl ?_)
        refine VOps_cons rfl rfl (V_move rfl ?_)
        refine VOps_cons rfl rfl (V_indexAddr_row VT.sl32 rfl rfl (by omega) (by omega) ?_)
        refine VOps_cons rfl rfl (V_store 1 VT.ty3 rfl rfl rfl rfl (dcell_ble hdl) ?_)
        refine VOps_nil ?_
        refine Then_n ?_
        refine VW_seq ?_
        refine VW_region ?_
        refine VOps_cons rfl rfl (V_fieldAddr VT.fa49_5 rfl ?_)
        refine VOps_cons rfl rfl (V_load 0 VT.ty32 rfl rfl rfl ?_)
        refine VOps_cons rfl rfl (V_lenN (n := nd.kids.length) Try.underlying32 rfl (by simp) (fun hl32 => ?_))
        refine VOps_cons rfl rfl (V_move rfl ?_)
        refine VOps_nil ?_
        refine Then_n ?_
        refine VW_block ?_
        refine VW_loopF (ι := Nat) (fun j => nd.kids.length - j) (fun j => [(0, some (nodesX l)), (3, some (.raw (.slice (some ⟨g11, 0, none⟩) (l.length + 1) (l.length + 1)))), (4, some (.int k)), (12, some (nodesX l)), (13, some (.int l.length)), (14, some (.int k)), (31, some (intsX nd.kids)), (32, some (.int nd.kids.length)), (33, some (.int j))]) (fun j => [.cells g11 3 (dcell (deepL (l.take k) []) ((nd.kids.take j).foldl (ndStep (deepL (l.take k) [])) 1) (l.length - k))]) (fun j => j ≤ nd.kids.length) 0 (Nat.zero_le _) ⟨rfl, rfl, rfl, rfl, rfl, rfl, rfl, rfl, rfl, trivial⟩ (Drops.drop (Drops.keepE (congrArg (Own.cells _ _) (dcell_put hdl 1)) (Drops.refl _))) ?_
        rintro j hj
        change j ≤ nd.kids.length at hj
        refine VW_seq ?_
        refine VW_region ?_
        refine VOps_cons rfl rfl (V_bin rfl rfl rfl ?_)
        refine VOps_nil ?_
        refine Then_n ?_
        refine VW_seq ?_
        refine VW_condP rfl (fun h34 => ?_) (fun h34 => ?_)
        · skip
          obtain ⟨y, hy⟩ := get_of_lt nd.kids j h34
          have hmj : (nd.kids.take (j + 1)).foldl (ndStep (deepL (l.take k) [])) 1 = ndStep (deepL (l.take k) []) ((nd.kids.take j).foldl (ndStep (deepL (l.take k) [])) 1) y := by rw [take_snoc hy, List.foldl_append]; rfl
          refine VW_skip ?_
          refine Then_n ?_
          refine VW_seq ?_
          refine VW_block ?_
          refine VW_seq ?_
          refine VW_region ?_
          refine VOps_cons rfl rfl (V_indexAddr (el := V.int y) VT.sl32 rfl rfl (by omega) (get_int hy) (fun a35 => ?_))
          refine VOps_cons rfl rfl (V_load_ep VT.ty3 rfl rfl ?_)
          refine VOps_cons rfl rfl (V_assign rfl ?_)
          refine VOps_nil ?_
          refine Then_n ?_
          refine VW_seq ?_
          refine VW_region ?_
          refine VOps_cons rfl rfl (V_move rfl ?_)
          refine VOps_cons rfl rfl (V_bin rfl rfl rfl ?_)
          refine VOps_cons rfl rfl (V_move rfl ?_)
          refine VOps_split (q := 39) rfl (fun hq39 => ?_) (fun hq39 => ?_)
          · skip
            have hy0 : 0 ≤ y := by have := of_decide_eq_true hq39; omega
            refine VOps_cons (want_of rfl rfl rfl hq39) rfl (V_move rfl ?_)
            refine VOps_cons (want_of rfl rfl rfl hq39) rfl (V_move rfl ?_)
            refine VOps_cons (want_of rfl rfl rfl hq39) rfl (V_bin rfl rfl rfl ?_)
            refine VOps_cons rfl rfl (V_pickT rfl hq39 rfl ?_)
            refine VOps_nil ?_
            refine Then_n ?_
            refine VW_condP rfl (fun h43 => ?_) (fun h43 => ?_)
            · skip
              have hyk : y < (deepL (l.take k) []).length := by rw [hdl]; exact h43
              have hbd := deepL_take_bound l k y.toNat
              refine VW_draw (G := Unit) [([], [3], []), ([], [4], []), ([], [3], []), ([], [4], []), ([3, 2], [46, 47], []), ([4, 3, 2], [48], []), ([], [3], []), ([], [7], []), ([7, 6], [50, 51], []), ([8, 7, 6], [52], []), ([9, 8, 7, 6], [53], []), ([10, 9, 8, 7, 6, 5, 4, 3, 2], [49, 54], []), ([11, 10, 9, 8, 7, 6, 5, 4, 3, 2, 1, 0], [44, 45], []), ([12, 11, 10, 9, 8, 7, 6, 5, 4, 3, 2, 1, 0], [56, 55], [])] [13] (oneSt _ (fun _ => [.cells g11 3 ((dcell (deepL (l.take k) []) ((nd.kids.take j).foldl (ndStep (deepL (l.take k) [])) 1) (l.length - k)).set (0 + Int.toNat (k : Int) * 1) (.int (ndStep (deepL (l.take k) []) ((nd.kids.take j).foldl (ndStep (deepL (l.take k) [])) 1) y)))])) [] [44, 45, 46, 47, 48, 49, 50, 51, 52, 53, 54, 55, 56] rfl VT.mix (by kernel_rfl) (by kernel_rfl) ?_
              refine DrawP_consL (acc' := [_]) (eqRes _) (goodS rfl rfl ⟨(fun γ => Needs_f (by kernel_rfl) (fun r3 h3 => Needs_nil (vopT rfl (V_move h3 ⟨rfl, rfl⟩)))), trivial⟩) rfl ?_
              refine DrawP_consL (acc' := [_, _]) (eqRes _) (goodS rfl rfl ⟨(fun γ => Needs_f (by kernel_rfl) (fun r4 h4 => Needs_nil (vopT rfl (V_move h4 ⟨rfl, rfl⟩)))), trivial⟩) rfl ?_
              refine DrawP_consL (acc' := [_, _, _]) (eqRes _) (goodS rfl rfl ⟨(fun γ => Needs_f (by kernel_rfl) (fun r3 h3 => Needs_nil (vopT rfl (V_move h3 ⟨rfl, rfl⟩)))), trivial⟩) rfl ?_
              refine DrawP_consL (acc' := [_, _, _, _]) (eqRes _) (goodS rfl rfl ⟨(fun γ => Needs_f (by kernel_rfl) (fun r4 h4 => Needs_nil (vopT rfl (V_move h4 ⟨rfl, rfl⟩)))), trivial⟩) rfl ?_
              refine DrawP_consL (acc' := [_, _, _, _, _]) (eqRes _) (goodS rfl rfl ⟨(fun γ => Needs_w 2 (by kernel_rfl) rfl (fun r46 h46 => Needs_w 3 (by kernel_rfl) rfl (fun r47 h47 => Needs_nil (vopT rfl (V_indexAddr_row VT.sl32 h46 h47 (by omega) (by omega) ⟨rfl, rfl⟩))))), trivial⟩) rfl ?_
              refine DrawP_consL (acc' := [_, _, _, _, _, _]) (eqRes _) (goodS rfl rfl ⟨(fun γ => Needs_w 4 (by kernel_rfl) rfl (fun r48 h48 => Needs_nil (vopT rfl (V_load 0 VT.ty3 h48 rfl (dcell_eq hdl) ⟨rfl, rfl⟩)))), trivial⟩) rfl ?_
              refine DrawP_consL (acc' := [_, _, _, _, _, _, _]) (eqRes _) (goodS rfl rfl ⟨(fun γ => Needs_f (by kernel_rfl) (fun r3 h3 => Needs_nil (vopT rfl (V_move h3 ⟨rfl, rfl⟩)))), trivial⟩) rfl ?_
              refine DrawP_consL (acc' := [_, _, _, _, _, _, _, _]) (eqRes _) (goodS rfl rfl ⟨(fun γ => Needs_f (by kernel_rfl) (fun r7 h7 => Needs_nil (vopT rfl (V_move h7 ⟨rfl, rfl⟩)))), trivial⟩) rfl ?_
              refine DrawP_consL (acc' := [_, _, _, _, _, _, _, _, _]) (eqRes _) (goodS rfl rfl ⟨(fun γ => Needs_w 6 (by kernel_rfl) rfl (fun r50 h50 => Needs_w 7 (by kernel_rfl) rfl (fun r51 h51 => Needs_nil (vopT rfl (V_indexAddr_row VT.sl32 h50 h51 (by omega) (by omega) ⟨rfl, rfl⟩))))), trivial⟩) rfl ?_
              refine DrawP_consL (acc' := [_, _, _, _, _, _, _, _, _, _]) (eqRes _) (goodS rfl rfl ⟨(fun γ => Needs_w 8 (by kernel_rfl) rfl (fun r52 h52 => Needs_nil (vopT rfl (V_load 0 VT.ty3 h52 rfl (dcell_lt hy0 hyk) ⟨rfl, rfl⟩)))), trivial⟩) rfl ?_
              refine DrawP_consL (acc' := [_, _, _, _, _, _, _, _, _, _, _]) (eqRes _) (goodS rfl rfl ⟨(fun γ => Needs_w 9 (by kernel_rfl) rfl (fun r53 h53 => Needs_nil (vopT rfl (V_add h53 rfl (by omega) ⟨rfl, rfl⟩)))), trivial⟩) rfl ?_
              refine DrawP_consL (acc' := [_, _, _, _, _, _, _, _, _, _, _, _]) (eqRes _) (goodS rfl rfl ⟨(fun γ => Needs_w 5 (by kernel_rfl) rfl (fun r49 h49 => Needs_w 10 (by kernel_rfl) rfl (fun r54 h54 => Needs_nil (vopT rfl (VOp_as (V_max2 h49 h54 ⟨rfl, rfl⟩) (V.le.of_eq (max_cast hy0 hyk)) ⟨rfl, rfl⟩))))), trivial⟩) rfl ?_
              refine DrawP_consL (acc' := [_, _, _, _, _, _, _, _, _, _, _, _, _]) (eqRes _) (goodS rfl rfl ⟨(fun γ => Needs_w 0 (by kernel_rfl) rfl (fun r44 h44 => Needs_w 1 (by kernel_rfl) rfl (fun r45 h45 => Needs_nil (vopT rfl (V_indexAddr_row VT.sl32 h44 h45 (by omega) (by omega) ⟨rfl, rfl⟩))))), trivial⟩) rfl ?_
              refine DrawP_consL (acc' := [_, _, _, _, _, _, _, _, _, _, _, _, _, _]) anyRes (goodU1 rfl (fun γ => Needs_w 12 (by kernel_rfl) rfl (fun r56 h56 => Needs_w 11 (by kernel_rfl) rfl (fun r55 h55 => Needs_nil (vopT rfl (V_store 0 VT.ty3 h56 h55 rfl rfl (dcell_ble hdl) ⟨default, trivial, rfl⟩)))))) rfl ?_
              refine DrawP_nil (fun γ => Needs_nil ?_)
              refine InBlock_n (Then_n ?_)
              refine VW_region ?_
              refine VOps_cons rfl rfl (V_add rfl rfl (by omega) ?_)
              refine VOps_cons rfl rfl (V_move rfl ?_)
              refine VOps_nil ?_
              refine Then_n ?_
              exact ⟨j + 1, (by (try simp only []); omega), (by omega), ⟨rfl, rfl, rfl, rfl, rfl, rfl, rfl, rfl, rfl, trivial⟩, (Drops.keepE (congrArg (Own.cells _ _) (by first | (rw [hmj]; exact dcell_put hdl _) | rw [hmj, hskip])) (Drops.refl _))⟩
            · skip
              have hskip : ndStep (deepL (l.take k) []) ((nd.kids.take j).foldl (ndStep (deepL (l.take k) [])) 1) y = ((nd.kids.take j).foldl (ndStep (deepL (l.take k) [])) 1) := ndStep_hi (by rw [hdl]; omega)
              refine VW_skip ?_
              refine InBlock_n (Then_n ?_)
              refine VW_region ?_
              refine VOps_cons rfl rfl (V_add rfl rfl (by omega) ?_)
              refine VOps_cons rfl rfl (V_move rfl ?_)
              refine VOps_nil ?_
              refine Then_n ?_
              exact ⟨j + 1, (by (try simp only []); omega), (by omega), ⟨rfl, rfl, rfl, rfl, rfl, rfl, rfl, rfl, rfl, trivial⟩, (Drops.keepE (congrArg (Own.cells _ _) (by first | (rw [hmj]; exact dcell_put hdl _) | rw [hmj, hskip])) (Drops.refl _))⟩
          · skip
            have hskip : ndStep (deepL (l.take k) []) ((nd.kids.take j).foldl (ndStep (deepL (l.take k) [])) 1) y = ((nd.kids.take j).foldl (ndStep (deepL (l.take k) [])) 1) := ndStep_lo (by have := of_decide_eq_false hq39; omega)
            refine VOps_skipU (.inl (skip_of rfl rfl rfl hq39)) rfl ?_
            refine VOps_skipU (.inl (skip_of rfl rfl rfl hq39)) rfl ?_
            refine VOps_skipU (.inl (skip_of rfl rfl rfl hq39)) rfl ?_
            refine VOps_cons rfl rfl (V_pickF rfl hq39 rfl ?_)
            refine VOps_nil ?_
            refine Then_n ?_
            refine VW_condF rfl rfl ?_
            refine VW_skip ?_
            refine InBlock_n (Then_n ?_)
            refine VW_region ?_
            refine VOps_cons rfl rfl (V_add rfl rfl (by omega) ?_)
            refine VOps_cons rfl rfl (V_move rfl ?_)
            refine VOps_nil ?_
            refine Then_n ?_
            exact ⟨j + 1, (by (try simp only []); omega), (by omega), ⟨rfl, rfl, rfl, rfl, rfl, rfl, rfl, rfl, rfl, trivial⟩, (Drops.keepE (congrArg (Own.cells _ _) (by first | (rw [hmj]; exact dcell_put hdl _) | rw [hmj, hskip])) (Drops.refl _))⟩
        · skip
          have hje : j = nd.kids.length := by omega
          have hnd : ndD (deepL (l.take k) []) nd = ((nd.kids.take j).foldl (ndStep (deepL (l.take k) [])) 1) := by unfold ndD; rw [if_pos h23, hje, List.take_length]
          refine VW_exit ?_
          refine Then_e (Then_e (InBlock_hit ?_))
          refine InBlock_n (Then_n ?_)
          refine VW_region ?_
          refine VOps_cons rfl rfl (V_add rfl rfl (by omega) ?_)
          refine VOps_cons rfl rfl (V_move rfl ?_)
          refine VOps_nil ?_
          refine Then_n ?_
          exact ⟨k + 1, (by (try simp only []); omega), (by omega), ⟨rfl, rfl, rfl, rfl, rfl, trivial⟩, (Drops.keepE (congrArg (Own.cells _ _) (by rw [show deepL (l.take (k + 1)) [] = deepL (l.take k) [] ++ [ndD (deepL (l.take k) []) nd] by rw [take_snoc hn, deepL_append]; rfl, hnd, ← dcell_next, show l.length - (k + 1) + 1 = l.length - k by omega])) (Drops.refl _))⟩
    · skip
      have h2 : nd.kind = 2 := by simpa using hq22
      have h23 : nd.kind = 2 ∨ nd.kind = 3 := .inl h2
      refine VOps_skipU (.inl (skip_of rfl rfl rfl hq22)) rfl ?_
      refine VOps_skipU (.inl (skip_of rfl rfl rfl hq22)) rfl ?_
      refine VOps_skipU (.inl (skip_of rfl rfl rfl hq22)) rfl ?_
      refine VOps_cons rfl rfl (V_pickF rfl hq22 rfl ?_)
      refine VOps_nil ?_
      refine Then_n ?_
      refine VW_condF rfl rfl ?_
      refine VW_skip ?_
      refine Then_n ?_
      refine VW_seq ?_
      refine VW_region ?_
      refine VOps_cons rfl rfl (V_move rfl ?_)
      refine VOps_cons rfl rfl (V_move rfl ?_)
      refine VOps_cons rfl rfl (V_indexAddr_row VT.sl32 rfl rfl (by omega) (by omega) ?_)
      refine VOps_cons rfl rfl (V_store 1 VT.ty3 rfl rfl rfl rfl (dcell_ble hdl) ?_)
      refine VOps_nil ?_
      refine Then_n ?_
      refine VW_seq ?_
      refine VW_region ?_
      refine VOps_cons rfl rfl (V_fieldAddr VT.fa49_5 rfl ?_)
      refine VOps_cons rfl rfl (V_load 0 VT.ty32 rfl rfl rfl ?_)
      refine VOps_cons rfl rfl (V_lenN (n := nd.kids.length) Try.underlying32 rfl (by simp) (fun hl32 => ?_))
      refine VOps_cons rfl rfl (V_move rfl ?_)
      refine VOps_nil ?_
      refine Then_n ?_
      refine VW_block ?_
      refine VW_loopF (ι := Nat) (fun j => nd.kids.length - j) (fun j => [(0, some (nodesX l)), (3, some (.raw (.slice (some ⟨g11, 0, none⟩) (l.length + 1) (l.length + 1)))), (4, some (.int k)), (12, some (nodesX l)), (13, some (.int l.length)), (14, some (.int k)), (31, some (intsX nd.kids)), (32, some (.int nd.kids.length)), (33, some (.int j))]) (fun j => [.cells g11 3 (dcell (deepL (l.take k) []) ((nd.kids.take j).foldl (ndStep (deepL (l.take k) [])) 1) (l.length - k))]) (fun j => j ≤ nd.kids.length) 0 (Nat.zero_le _) ⟨rfl, rfl, rfl, rfl, rfl, rfl, rfl, rfl, rfl, trivial⟩ (Drops.drop (Drops.keepE (congrArg (Own.cells _ _) (dcell_put hdl 1)) (Drops.refl _))) ?_
      rintro j hj
      change j ≤ nd.kids.length at hj
      refine VW_seq ?_
      refine VW_region ?_
      refine VOps_cons rfl rfl (V_bin rfl rfl rfl ?_)
      refine VOps_nil ?_
      refine Then_n ?_
      refine VW_seq ?_
      refine VW_condP rfl (fun h34 => ?_) (fun h34 => ?_)
      · skip
        obtain ⟨y, hy⟩ := get_of_lt nd.kids j h34
        have hmj : (nd.kids.take (j + 1)).foldl (ndStep (deepL (l.take k) [])) 1 = ndStep (deepL (l.take k) []) ((nd.kids.take j).foldl (ndStep (deepL (l.take k) [])) 1) y := by rw [take_snoc hy, List.foldl_append]; rfl
        refine VW_skip ?_
        refine Then_n ?_
        refine VW_seq ?_
        refine VW_block ?_
        refine VW_seq ?_
        refine VW_region ?_
        refine VOps_cons rfl rfl (V_indexAddr (el := V.int y) VT.sl32 rfl rfl (by omega) (get_int hy) (fun a35 => ?_))
        refine VOps_cons rfl rfl (V_load_ep VT.ty3 rfl rfl ?_)
        refine VOps_cons rfl rfl (V_assign rfl ?_)
        refine VOps_nil ?_
        refine Then_n ?_
        refine VW_seq ?_
        refine VW_region ?_
        refine VOps_cons rfl rfl (V_move rfl ?_)
        refine VOps_cons rfl rfl (V_bin rfl rfl rfl ?_)
        refine VOps_cons rfl rfl (V_move rfl ?_)
        refine VOps_split (q := 39) rfl (fun hq39 => ?_) (fun hq39 => ?_)
        · skip
          have hy0 : 0 ≤ y := by have := of_decide_eq_true hq39; omega
          refine VOps_cons (want_of rfl rfl rfl hq39) rfl (V_move rfl ?_)
          refine VOps_cons (want_of rfl rfl rfl hq39) rfl (V_move rfl ?_)
          refine VOps_cons (want_of rfl rfl rfl hq39) rfl (V_bin rfl rfl rfl ?_)
          refine VOps_cons rfl rfl (V_pickT rfl hq39 rfl ?_)
          refine VOps_nil ?_
          refine Then_n ?_
          refine VW_condP rfl (fun h43 => ?_) (fun h43 => ?_)
          · skip
            have hyk : y < (deepL (l.take k) []).length := by rw [hdl]; exact h43
            have hbd := deepL_take_bound l k y.toNat
            refine VW_draw (G := Unit) [([], [3], []), ([], [4], []), ([], [3], []), ([], [4], []), ([3, 2], [46, 47], []), ([4, 3, 2], [48], []), ([], [3], []), ([], [7], []), ([7, 6], [50, 51], []), ([8, 7, 6], [52], []), ([9, 8, 7, 6], [53], []), ([10, 9, 8, 7, 6, 5, 4, 3, 2], [49, 54], []), ([11, 10, 9, 8, 7, 6, 5, 4, 3, 2, 1, 0], [44, 45], []), ([12, 11, 10, 9, 8, 7, 6, 5, 4, 3, 2, 1, 0], [56, 55], [])] [13] (oneSt _ (fun _ => [.cells g11 3 ((dcell (deepL (l.take k) []) ((nd.kids.take j).foldl (ndStep (deepL (l.take k) [])) 1) (l.length - k)).set (0 + Int.toNat (k : Int) * 1) (.int (ndStep (deepL (l.take k) []) ((nd.kids.take j).foldl (ndStep (deepL (l.take k) [])) 1) y)))])) [] [44, 45, 46, 47, 48, 49, 50, 51, 52, 53, 54, 55, 56] rfl VT.mix (by kernel_rfl) (by kernel_rfl) ?_
            refine DrawP_consL (acc' := [_]) (eqRes _) (goodS rfl rfl ⟨(fun γ => Needs_f (by kernel_rfl) (fun r3 h3 => Needs_nil (vopT rfl (V_move h3 ⟨rfl, rfl⟩)))), trivial⟩) rfl ?_
            refine DrawP_consL (acc' := [_, _]) (eqRes _) (goodS rfl rfl ⟨(fun γ => Needs_f (by kernel_rfl) (fun r4 h4 => Needs_nil (vopT rfl (V_move h4 ⟨rfl, rfl⟩)))), trivial⟩) rfl ?_
            refine DrawP_consL (acc' := [_, _, _]) (eqRes _) (goodS rfl rfl ⟨(fun γ => Needs_f (by kernel_rfl) (fun r3 h3 => Needs_nil (vopT rfl (V_move h3 ⟨rfl, rfl⟩)))), trivial⟩) rfl ?_
            refine DrawP_consL (acc' := [_, _, _, _]) (eqRes _) (goodS rfl rfl ⟨(fun γ => Needs_f (by kernel_rfl) (fun r4 h4 => Needs_nil (vopT rfl (V_move h4 ⟨rfl, rfl⟩)))), trivial⟩) rfl ?_
            refine DrawP_consL (acc' := [_, _, _, _, _]) (eqRes _) (goodS rfl rfl ⟨(fun γ => Needs_w 2 (by kernel_rfl) rfl (fun r46 h46 => Needs_w 3 (by kernel_rfl) rfl (fun r47 h47 => Needs_nil (vopT rfl (V_indexAddr_row VT.sl32 h46 h47 (by omega) (by omega) ⟨rfl, rfl⟩))))), trivial⟩) rfl ?_
            refine DrawP_consL (acc' := [_, _, _, _, _, _]) (eqRes _) (goodS rfl rfl ⟨(fun γ => Needs_w 4 (by kernel_rfl) rfl (fun r48 h48 => Needs_nil (vopT rfl (V_load 0 VT.ty3 h48 rfl (dcell_eq hdl) ⟨rfl, rfl⟩)))), trivial⟩) rfl ?_
            refine DrawP_consL (acc' := [_, _, _, _, _, _, _]) (eqRes _) (goodS rfl rfl ⟨(fun γ => Needs_f (by kernel_rfl) (fun r3 h3 => Needs_nil (vopT rfl (V_move h3 ⟨rfl, rfl⟩)))), trivial⟩) rfl ?_
            refine DrawP_consL (acc' := [_, _, _, _, _, _, _, _]) (eqRes _) (goodS rfl rfl ⟨(fun γ => Needs_f (by kernel_rfl) (fun r7 h7 => Needs_nil (vopT rfl (V_move h7 ⟨rfl, rfl⟩)))), trivial⟩) rfl ?_
            refine DrawP_consL (acc' := [_, _, _, _, _, _, _, _, _]) (eqRes _) (goodS rfl rfl ⟨(fun γ => Needs_w 6 (by kernel_rfl) rfl (fun r50 h50 => Needs_w 7 (by kernel_rfl) rfl (fun r51 h51 => Needs_nil (vopT rfl (V_indexAddr_row VT.sl32 h50 h51 (by omega) (by omega) ⟨rfl, rfl⟩))))), trivial⟩) rfl ?_
            refine DrawP_consL (acc' := [_, _, _, _, _, _, _, _, _, _]) (eqRes _) (goodS rfl rfl ⟨(fun γ => Needs_w 8 (by kernel_rfl) rfl (fun r52 h52 => Needs_nil (vopT rfl (V_load 0 VT.ty3 h52 rfl (dcell_lt hy0 hyk) ⟨rfl, rfl⟩)))), trivial⟩) rfl ?_
            refine DrawP_consL (acc' := [_, _, _, _, _, _, _, _, _, _, _]) (eqRes _) (goodS rfl rfl ⟨(fun γ => Needs_w 9 (by kernel_rfl) rfl (fun r53 h53 => Needs_nil (vopT rfl (V_add h53 rfl (by omega) ⟨rfl, rfl⟩)))), trivial⟩) rfl ?_
            refine DrawP_consL (acc' := [_, _, _, _, _, _, _, _, _, _, _, _]) (eqRes _) (goodS rfl rfl ⟨(fun γ => Needs_w 5 (by kernel_rfl) rfl (fun r49 h49 => Needs_w 10 (by kernel_rfl) rfl (fun r54 h54 => Needs_nil (vopT rfl (VOp_as (V_max2 h49 h54 ⟨rfl, rfl⟩) (V.le.of_eq (max_cast hy0 hyk)) ⟨rfl, rfl⟩))))), trivial⟩) rfl ?_
            refine DrawP_consL (acc' := [_, _, _, _, _, _, _, _, _, _, _, _, _]) (eqRes _) (goodS rfl rfl ⟨(fun γ => Needs_w 0 (by kernel_rfl) rfl (fun r44 h44 => Needs_w 1 (by kernel_rfl) rfl (fun r45 h45 => Needs_nil (vopT rfl (V_indexAddr_row VT.sl32 h44 h45 (by omega) (by omega) ⟨rfl, rfl⟩))))), trivial⟩) rfl ?_
            refine DrawP_consL (acc' := [_, _, _, _, _, _, _, _, _, _, _, _, _, _]) anyRes (goodU1 rfl (fun γ => Needs_w 12 (by kernel_rfl) rfl (fun r56 h56 => Needs_w 11 (by kernel_rfl) rfl (fun r55 h55 => Needs_nil (vopT rfl (V_store 0 VT.ty3 h56 h55 rfl rfl (dcell_ble hdl) ⟨default, trivial, rfl⟩)))))) rfl ?_
            refine DrawP_nil (fun γ => Needs_nil ?_)
            refine InBlock_n (Then_n ?_)
            refine VW_region ?_
            refine VOps_cons rfl rfl (V_add rfl rfl (by omega) ?_)
            refine VOps_cons rfl rfl (V_move rfl ?_)
            refine VOps_nil ?_
            refine Then_n ?_
            exact ⟨j + 1, (by (try simp only []); omega), (by omega), ⟨rfl, rfl, rfl, rfl, rfl, rfl, rfl, rfl, rfl, trivial⟩, (Drops.keepE (congrArg (Own.cells _ _) (by first | (rw [hmj]; exact dcell_put hdl _) | rw [hmj, hskip])) (Drops.refl _))⟩
          · skip
            have hskip : ndStep (deepL (l.take k) []) ((nd.kids.take j).foldl (ndStep (deepL (l.take k) [])) 1) y = ((nd.kids.take j).foldl (ndStep (deepL (l.take k) [])) 1) := ndStep_hi (by rw [hdl]; omega)
            refine VW_skip ?_
            refine InBlock_n (Then_n ?_)
            refine VW_region ?_
            refine VOps_cons rfl rfl (V_add rfl rfl (by omega) ?_)
            refine VOps_cons rfl rfl (V_move rfl ?_)
            refine VOps_nil ?_
            refine Then_n ?_
            exact ⟨j + 1, (by (try simp only []); omega), (by omega), ⟨rfl, rfl, rfl, rfl, rfl, rfl, rfl, rfl, rfl, trivial⟩, (Drops.keepE (congrArg (Own.cells _ _) (by first | (rw [hmj]; exact dcell_put hdl _) | rw [hmj, hskip])) (Drops.refl _))⟩
        · skip
          have hskip : ndStep (deepL (l.take k) []) ((nd.kids.take j).foldl (ndStep (deepL (l.take k) [])) 1) y = ((nd.kids.take j).foldl (ndStep (deepL (l.take k) [])) 1) := ndStep_lo (by have := of_decide_eq_false hq39; omega)
          refine VOps_skipU (.inl (skip_of rfl rfl rfl hq39)) rfl ?_
          refine VOps_skipU (.inl (skip_of rfl rfl rfl hq39)) rfl ?_
          refine VOps_skipU (.inl (skip_of rfl rfl rfl hq39)) rfl ?_
          refine VOps_cons rfl rfl (V_pickF rfl hq39 rfl ?_)
          refine VOps_nil ?_
          refine Then_n ?_
          refine VW_condF rfl rfl ?_
          refine VW_skip ?_
          refine InBlock_n (Then_n ?_)
          refine VW_region ?_
          refine VOps_cons rfl rfl (V_add rfl rfl (by omega) ?_)
          refine VOps_cons rfl rfl (V_move rfl ?_)
          refine VOps_nil ?_
          refine Then_n ?_
          exact ⟨j + 1, (by (try simp only []); omega), (by omega), ⟨rfl, rfl, rfl, rfl, rfl, rfl, rfl, rfl, rfl, trivial⟩, (Drops.keepE (congrArg (Own.cells _ _) (by first | (rw [hmj]; exact dcell_put hdl _) | rw [hmj, hskip])) (Drops.refl _))⟩
      · skip
        have hje : j = nd.kids.length := by omega
        have hnd : ndD (deepL (l.take k) []) nd = ((nd.kids.take j).foldl (ndStep (deepL (l.take k) [])) 1) := by unfold ndD; rw [if_pos h23, hje, List.take_length]
        refine VW_exit ?_
        refine Then_e (Then_e (InBlock_hit ?_))
        refine InBlock_n (Then_n ?_)
        refine VW_region ?_
        refine VOps_cons rfl rfl (V_add rfl rfl (by omega) ?_)
        refine VOps_cons rfl rfl (V_move rfl ?_)
        refine VOps_nil ?_
        refine Then_n ?_
        exact ⟨k + 1, (by (try simp only []); omega), (by omega), ⟨rfl, rfl, rfl, rfl, rfl, trivial⟩, (Drops.keepE (congrArg (Own.cells _ _) (by rw [show deepL (l.take (k + 1)) [] = deepL (l.take k) [] ++ [ndD (deepL (l.take k) []) nd] by rw [take_snoc hn, deepL_append]; rfl, hnd, ← dcell_next, show l.length - (k + 1) + 1 = l.length - k by omega])) (Drops.refl _))⟩
  · skip
    have hke : k = l.length := by omega
    refine VW_exit ?_
    refine Then_e (Then_e (InBlock_hit ?_))
    refine Then_n ?_
    refine VW_seq ?_
    refine VW_seq ?_
    refine VW_region ?_
    refine VOps_cons rfl rfl (V_move rfl ?_)
    refine VOps_cons rfl rfl (V_lenN (n := l.length) Try.underlying40 rfl (by simp) (fun hl60 => ?_))
    refine VOps_cons rfl rfl (V_bin rfl rfl rfl ?_)
    refine VOps_nil ?_
    refine Then_n ?_
    refine VW_condEq rfl (fun h61 => ?_) (fun h61 => ?_)
    · skip
      refine VW_seq ?_
      refine VW_region ?_
      refine VOps_cons rfl rfl (V_assign rfl ?_)
      refine VOps_nil ?_
      refine Then_n ?_
      refine VW_ret ?_
      refine Then_r (VRet_one rfl (.tmp rfl) ?_)
      have e : depthF l = 0 := by unfold depthF; rw [if_pos (by omega)]
      rw [e]
      rfl
    · skip
      refine VW_skip ?_
      refine Then_n ?_
      refine VW_seq ?_
      refine VW_region ?_
      refine VOps_cons rfl rfl (V_move rfl ?_)
      refine VOps_cons rfl rfl (V_move rfl ?_)
      refine VOps_cons rfl rfl (V_lenN (n := l.length) Try.underlying40 rfl (by simp) (fun hl64 => ?_))
      refine VOps_cons rfl rfl (V_sub rfl rfl (by omega) ?_)
      refine VOps_cons rfl rfl (V_indexAddr_row VT.sl32 rfl rfl (by omega) (by omega) ?_)
      refine VOps_cons rfl rfl (V_load 0 VT.ty3 rfl rfl (dcell_lt (by omega) (by rw [hdl]; omega)) ?_)
      refine VOps_cons rfl rfl (V_assign rfl ?_)
      refine VOps_nil ?_
      refine Then_n ?_
      refine VW_ret ?_
      refine VRet_one rfl (.tmp rfl) ?_
      have e : depthF l = (deepL (l.take k) []).getD ((l.length : Int) - 1).toNat 0 := by unfold depthF; rw [if_neg (by omega), hke, List.take_length, show ((l.length : Int) - 1).toNat = l.length - 1 by omega]
      rw [e]


end Go.Proofs.Ytmjeaagpcmfnpaa.W20
