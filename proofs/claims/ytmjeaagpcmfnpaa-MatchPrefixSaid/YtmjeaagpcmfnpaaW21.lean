/- Walks, printed by walk.py. -/
import Derived.Test.YtmjeaagpcmfnpaaVT
import Derived.Test.YtmjeaagpcmfnpaaVDA
import Derived.Test.YtmjeaagpcmfnpaaVB
import Derived.Test.YtmjeaagpcmfnpaaVMA
import Derived.Test.YtmjeaagpcmfnpaaW1
import Derived.Test.YtmjeaagpcmfnpaaW2
import Derived.Test.YtmjeaagpcmfnpaaW9
import Derived.Test.YtmjeaagpcmfnpaaW10
import Derived.Test.YtmjeaagpcmfnpaaW14
import Derived.Test.YtmjeaagpcmfnpaaW16
import Derived.Test.YtmjeaagpcmfnpaaW17
import Derived.Test.YtmjeaagpcmfnpaaW18
import Derived.Test.YtmjeaagpcmfnpaaW19
import Derived.Test.YtmjeaagpcmfnpaaW20
set_option linter.unusedVariables false
set_option linter.unusedSimpArgs false
namespace Go.Proofs.Ytmjeaagpcmfnpaa.W21
open Go.VL Go.PM Go.Proofs.Ytmjeaagpcmfnpaa Go.Proofs.Ytmjeaagpcmfnpaa.W1 Go.Proofs.Ytmjeaagpcmfnpaa.W2 Go.Proofs.Ytmjeaagpcmfnpaa.W9 Go.Proofs.Ytmjeaagpcmfnpaa.W10 Go.Proofs.Ytmjeaagpcmfnpaa.W14 Go.Proofs.Ytmjeaagpcmfnpaa.W16 Go.Proofs.Ytmjeaagpcmfnpaa.W17 Go.Proofs.Ytmjeaagpcmfnpaa.W18 Go.Proofs.Ytmjeaagpcmfnpaa.W19 Go.Proofs.Ytmjeaagpcmfnpaa.W20

def outN (r : List MNode × Int) : V := .tup [nodesX r.1, .int r.2]
def pathsTo (rows : List (List Pat)) (k : Nat) : List (List Int) := if k = 0 then [] else pathsOf rows
theorem pathsTo_end {rows : List (List Pat)} {k : Nat} (h : k = rows.length) : pathsTo rows k = pathsOf rows := by
  unfold pathsTo
  by_cases hk : k = 0
  · rw [if_pos hk]
    have : rows = [] := List.eq_nil_of_length_eq_zero (by omega)
    rw [this]
    rfl
  · rw [if_neg hk]
theorem node_path {l : List MNode} {k : Nat} {nd : MNode} {rest : List V} (h : l[k]? = some nd) : ((l.map nodeX).flatMap V.leaves ++ rest)[0 + (k : Int).toNat * 6 + 2]? = some (intsX nd.path) := by
  have hfit : ∀ x ∈ l.map nodeX, x.leaves.length = 6 := fun x hx => by
    obtain ⟨n, _, rfl⟩ := List.mem_map.1 hx
    rfl
  have e := flat_drop (rest := rest) hfit (get_mapS nodeX h)
  rw [Int.toNat_natCast, Nat.zero_add]
  have e2 : ((((l.map nodeX).flatMap V.leaves ++ rest).drop (k * 6)).take 6)[2]? = some (intsX nd.path) := by rw [e]; rfl
  rw [List.getElem?_take_of_lt (by omega), List.getElem?_drop] at e2
  exact e2
theorem set_same {α : Type} {l : List α} {k : Nat} {x : α} (h : l[k]? = some x) : l.set k x = l := by
  obtain ⟨hlt, rfl⟩ := List.getElem?_eq_some_iff.1 h
  exact List.set_getElem_self hlt
theorem ble_of_get {α : Type} {l : List α} {k : Nat} {x : α} (h : l[k]? = some x) : Nat.ble (k + 1) l.length = true := Nat.ble_eq_true_of_le (List.getElem?_eq_some_iff.1 h).1
theorem nodes_fits (l : List MNode) : ∀ y ∈ l.map nodeX, y.fits 6 = true ∧ ((∃ ls, y = .agg ls) ∨ y.leaf = true) := fun y hy => by
  obtain ⟨n, _, rfl⟩ := List.mem_map.1 hy
  exact ⟨rfl, .inl ⟨_, rfl⟩⟩
theorem cR_snoc (a : List (List Pat)) (r : List Pat) : cR (a ++ [r]) = cR a + cL r := by
  induction a with
  | nil => simp [cR]
  | cons x a ih => rw [List.cons_append, cR, cR, ih]; omega
theorem cR_take (a : List (List Pat)) (k : Nat) : cR (a.take k) ≤ cR a := cR_sub (List.take_sublist k a)
theorem cL_in {rows : List (List Pat)} {r : List Pat} (h : r ∈ rows) : cL r ≤ cR rows := by
  induction rows with
  | nil => cases h
  | cons x xs ih =>
    rw [cR]
    rcases List.mem_cons.1 h with rfl | h
    · omega
    · have := ih h
      omega

set_option maxRecDepth 100000 in
set_option maxHeartbeats 8000000 in
theorem compile_c (ds : List DataSig) (hz : Sized ds) (rows : List (List Pat)) : VPure Try.prog 18 [datasX ds, rowsX rows] (outN (compOut ds rows)) := by
  refine V_start (nt := 92) Try.func18 rfl rfl rfl ?_
  refine VW_seq ?_
  refine VW_region ?_
  refine VOps_cons rfl rfl (V_assign rfl ?_)
  refine VOps_cons rfl rfl (V_assign rfl ?_)
  refine VOps_nil ?_
  refine Then_n ?_
  refine VW_seq ?_
  refine VW_seq ?_
  refine VW_region ?_
  refine VOps_cons rfl rfl (V_move rfl ?_)
  refine VOps_cons rfl rfl (V_move rfl ?_)
  refine VOps_cons rfl rfl (V_callP [.tmp 18, .tmp 19] rfl rfl VT.en24 (Check_c ds rows) ?_)
  refine VOps_cons rfl rfl (V_assign rfl ?_)
  refine VOps_nil ?_
  refine Then_n ?_
  refine VW_seq ?_
  refine VW_region ?_
  refine VOps_cons rfl rfl (V_move rfl ?_)
  refine VOps_cons rfl rfl (V_bin rfl rfl rfl ?_)
  refine VOps_nil ?_
  refine Then_n ?_
  refine VW_condNe rfl (fun h22 => ?_) (fun h22 => ?_)
  · skip
    have ho : compOut ds rows = ([], checkF ds rows) := by unfold compOut; rw [if_pos h22]
    refine VW_seq ?_
    refine VW_region ?_
    refine VOps_cons rfl rfl (V_move rfl ?_)
    refine VOps_cons rfl rfl (VOp_as (V_assign rfl ⟨rfl, rfl⟩) (V.le.nil 6) ?_)
    refine VOps_cons rfl rfl (V_assign rfl ?_)
    refine VOps_nil ?_
    refine Then_n ?_
    refine VW_ret ?_
    refine Then_r (VRet_many rfl rfl (.cons (.strip rfl) (.cons (.tmp rfl) (.nil))) ?_)
    rw [ho]
    rfl
  · skip
    have hck : checkF ds rows = 0 := h22
    obtain ⟨t, hb⟩ := check_build hck
    obtain ⟨hsm, hsame, _, _⟩ := check_parts hck hb
    have hrows := hsm.rows
    have hok := tabOk_of hb hsm hz
    obtain ⟨τs, hτ, hT⟩ := typed_of hck hb (nbad_any hck)
    have hpre := comp_pre hck hb hτ hT
    have ho : compOut ds rows = if (compF t ds rows).1.full = true then ([], 2) else ((compF t ds rows).1.out.take ((compF t ds rows).2 + 1), 0) := by unfold compOut; rw [if_neg (by simpa using hck), hb]
    refine VW_skip ?_
    refine Then_n ?_
    refine VW_seq ?_
    refine VW_region ?_
    refine VOps_cons rfl rfl (V_move rfl ?_)
    refine VOps_cons rfl rfl (V_call [.tmp 25] [] _ rfl rfl VT.en30 (.refl _) (mindex_c ds t hb) ?_)
    rintro r Sa ⟨g0, tab, base, rfl, rfl, htr⟩
    have htab := htr.con
    refine VOps_cons rfl rfl (V_move rfl ?_)
    refine VOps_cons rfl rfl (V_extract rfl rfl ?_)
    refine VOps_cons rfl rfl (V_extract rfl rfl ?_)
    refine VOps_cons rfl rfl (V_assign rfl ?_)
    refine VOps_cons rfl rfl (V_assign rfl ?_)
    refine VOps_nil ?_
    refine Then_n ?_
    refine VW_seq ?_
    refine VW_region ?_
    refine VOps_cons rfl rfl (V_move rfl ?_)
    refine VOps_cons rfl rfl (V_build [0] [.tmp 29] VT.st76 rfl rfl rfl rfl ?_)
    refine VOps_cons rfl rfl (V_box rfl rfl (fun g31 => ?_))
    refine VOps_cons rfl rfl (V_assign rfl ?_)
    refine VOps_nil ?_
    refine Then_n ?_
    refine VW_seq ?_
    refine VW_region ?_
    refine VOps_cons rfl rfl (V_assign_nil 80 2 ?_)
    refine VOps_nil ?_
    refine Then_n ?_
    refine VW_seq ?_
    refine VW_region ?_
    refine VOps_cons rfl rfl (V_assign_nil 32 1 ?_)
    refine VOps_nil ?_
    refine Then_n ?_
    refine VW_seq ?_
    refine VW_seq ?_
    refine VW_region ?_
    refine VOps_cons rfl rfl (V_move rfl ?_)
    refine VOps_cons rfl rfl (V_lenN (n := rows.length) Try.underlying23 rfl (by simp) (fun hl33 => ?_))
    refine VOps_cons rfl rfl (V_move rfl ?_)
    refine VOps_nil ?_
    refine Then_n ?_
    refine VW_block ?_
    refine VW_loopF (ι := Nat × Tok × Tok) (fun (k, tl, tp) => rows.length - k) (fun (k, tl, tp) => [(9, some (.ptr g31 0)), (10, some (.sl 2 (some tl) ((enumR 0 (rows.take k)).map mrowX))), (11, some (.sl 1 (some tp) ((pathsTo rows k).map intsX))), (32, some (rowsX rows)), (33, some (.int rows.length)), (34, some (.int k))]) (fun (k, tl, tp) => [.cells g31 76 [.raw (.map (some g0)), .raw (.slice none 0 0), .int 0, .bool false], .buf tp 32 1 (pathsTo rows k).length, .buf tl 80 2 (enumR 0 (rows.take k)).length, .map g0 (kmap kstr tab)]) (fun (k, tl, tp) => k ≤ rows.length) (0, .nil, .nil) (by simp) ⟨rfl, rfl, rfl, rfl, rfl, rfl, trivial⟩ (Drops.pick 2 rfl rfl (Drops.pickBuf 0 rfl rfl (Drops.pickBuf 0 rfl rfl (Drops.pick 0 rfl rfl (Drops.nil _))))) ?_
    rintro ⟨k, tl, tp⟩ hk
    change k ≤ rows.length at hk
    refine VW_seq ?_
    refine VW_region ?_
    refine VOps_cons rfl rfl (V_bin rfl rfl rfl ?_)
    refine VOps_nil ?_
    refine Then_n ?_
    refine VW_seq ?_
    refine VW_condP rfl (fun h35 => ?_) (fun h35 => ?_)
    · skip
      obtain ⟨r, hr⟩ := get_of_lt rows k h35
      have hsn : enumR 0 (rows.take (k + 1)) = enumR 0 (rows.take k) ++ [(k, r)] := by rw [take_snoc hr, enumR_snoc, List.length_take, show 0 + min k rows.length = k by omega]
      have hel : (enumR 0 (rows.take k)).length ≤ 64 := by rw [enumR_len, List.length_take]; omega
      have hr16 := hsm.cols r (List.mem_of_getElem? hr)
      refine VW_skip ?_
      refine Then_n ?_
      refine VW_seq ?_
      refine VW_block ?_
      refine VW_seq ?_
      refine VW_region ?_
      refine VOps_cons rfl rfl (V_move rfl ?_)
      refine VOps_cons rfl rfl (V_indexAddr (el := patsX r) VT.sl23 rfl rfl (by omega) (get_mapS _ hr) (fun a37 => ?_))
      refine VOps_cons rfl rfl (V_load_ep VT.ty25 rfl rfl ?_)
      refine VOps_cons rfl rfl (V_assign rfl ?_)
      refine VOps_cons rfl rfl (V_assign rfl ?_)
      refine VOps_nil ?_
      refine Then_n ?_
      refine VW_seq ?_
      refine VW_region ?_
      refine VOps_cons rfl rfl (V_move rfl ?_)
      refine VOps_cons rfl rfl (V_move rfl ?_)
      refine VOps_cons rfl rfl (V_move rfl ?_)
      refine VOps_cons rfl rfl (V_build [0, 1] [.tmp 40, .tmp 41] VT.st80 rfl rfl rfl rfl ?_)
      refine VOps_cons rfl rfl (V_lit [.tmp 42] VT.sl77 rfl rfl rfl rfl rfl ?_)
      refine VOps_cons rfl rfl (V_appendN 2 _ VT.sl77 rfl rfl rfl (by simp) (by simp; omega) (fun t44 => ?_))
      refine VOps_cons rfl rfl (V_assign rfl ?_)
      refine VOps_nil ?_
      refine Then_n ?_
      refine VW_seq ?_
      refine VW_region ?_
      refine VOps_cons rfl rfl (V_move rfl ?_)
      refine VOps_cons rfl rfl (V_bin rfl rfl rfl ?_)
      refine VOps_nil ?_
      refine Then_n ?_
      refine VW_condEq rfl (fun h46 => ?_) (fun h46 => ?_)
      · skip
        have hk0 : k = 0 := by omega
        have hwr : width rows = r.length := by subst hk0; cases rows with | nil => simp at hr | cons a b => simp at hr; rw [← hr]; rfl
        refine VW_seq ?_
        refine VW_region ?_
        refine VOps_cons rfl rfl (V_move rfl ?_)
        refine VOps_cons rfl rfl (V_lenN (n := r.length) Try.underlying25 rfl (by simp) (fun hl48 => ?_))
        refine VOps_cons rfl rfl (V_move rfl ?_)
        refine VOps_nil ?_
        refine Then_n ?_
        refine VW_block ?_
        refine VW_loopF (ι := Nat × Tok) (fun (n, tq) => r.length - n) (fun (n, tq) => [(9, some (.ptr g31 0)), (10, some (.sl 2 (some t44) ((enumR 0 (rows.take k)).map mrowX ++ [mrowX (k, r)]))), (11, some (.sl 1 (some tq) (((List.range n).map fun m : Nat => [(m : Int)]).map intsX))), (32, some (rowsX rows)), (33, some (.int rows.length)), (34, some (.int k)), (48, some (.int r.length)), (49, some (.int n))]) (fun (n, tq) => [.cells g31 76 [.raw (.map (some g0)), .raw (.slice none 0 0), .int 0, .bool false], .buf tq 32 1 ((List.range n).map fun m : Nat => [(m : Int)]).length, .buf t44 80 2 ((enumR 0 (rows.take k)).map mrowX ++ [mrowX (k, r)]).length, .map g0 (kmap kstr tab)]) (fun (n, tq) => n ≤ r.length) (0, tp) (by simp) ⟨rfl, rfl, (by show some (V.sl 1 (some tp) ((pathsTo rows k).map intsX)) = _; rw [hk0]; rfl), rfl, rfl, rfl, rfl, rfl, trivial⟩ (Drops.keep (Drops.buf (by rw [hk0]; rfl) (Drops.buf rfl (Drops.keep (Drops.refl _))))) ?_
        rintro ⟨n, tq⟩ hn
        change n ≤ r.length at hn
        refine VW_seq ?_
        refine VW_region ?_
        refine VOps_cons rfl rfl (V_bin rfl rfl rfl ?_)
        refine VOps_nil ?_
        refine Then_n ?_
        refine VW_seq ?_
        refine VW_condP rfl (fun h50 => ?_) (fun h50 => ?_)
        · skip
          have hrs : ((List.range (n + 1)).map fun m : Nat => [(m : Int)]).map intsX = ((List.range n).map fun m : Nat => [(m : Int)]).map intsX ++ [intsX [(n : Int)]] := by rw [List.range_succ]; simp
          refine VW_skip ?_
          refine Then_n ?_
          refine VW_seq ?_
          refine VW_block ?_
          refine VW_seq ?_
          refine VW_region ?_
          refine VOps_cons rfl rfl (V_move rfl ?_)
          refine VOps_cons rfl rfl (V_assign rfl ?_)
          refine VOps_nil ?_
          refine Then_n ?_
          refine VW_region ?_
          refine VOps_cons rfl rfl (V_move rfl ?_)
          refine VOps_cons rfl rfl (V_move rfl ?_)
          refine VOps_cons rfl rfl (V_lit [.tmp 53] VT.sl32 rfl rfl rfl rfl rfl ?_)
          refine VOps_cons rfl rfl (V_lit [.tmp 54] VT.sl78 rfl rfl rfl rfl rfl ?_)
          refine VOps_cons rfl rfl (V_appendN 1 _ VT.sl78 rfl rfl rfl (by simp) (by simp; omega) (fun t56 => ?_))
          refine VOps_cons rfl rfl (V_assign rfl ?_)
          refine VOps_nil ?_
          refine InBlock_n (Then_n ?_)
          refine VW_region ?_
          refine VOps_cons rfl rfl (V_add rfl rfl (by omega) ?_)
          refine VOps_cons rfl rfl (V_move rfl ?_)
          refine VOps_nil ?_
          refine Then_n ?_
          exact ⟨(n + 1, t56), (by (try simp only []); omega), (by omega), ⟨rfl, rfl, (by rw [hrs]; rfl), rfl, rfl, rfl, rfl, rfl, trivial⟩, (Drops.keep (Drops.buf (by simp) (Drops.buf rfl (Drops.keep (Drops.refl _)))))⟩
        · skip
          have hnr : n = r.length := by omega
          have hpk : pathsTo rows (k + 1) = (List.range n).map fun m : Nat => [(m : Int)] := by unfold pathsTo pathsOf; rw [if_neg (by omega), hwr, hnr]
          refine VW_exit ?_
          refine Then_e (Then_e (InBlock_hit ?_))
          refine InBlock_n (Then_n ?_)
          refine VW_region ?_
          refine VOps_cons rfl rfl (V_add rfl rfl (by omega) ?_)
          refine VOps_cons rfl rfl (V_move rfl ?_)
          refine VOps_nil ?_
          refine Then_n ?_
          exact ⟨(k + 1, t44, tq), (by (try simp only []); omega), (by omega), ⟨rfl, (by rw [hsn, List.map_append]; rfl), (by rw [hpk]; rfl), rfl, rfl, rfl, trivial⟩, (Drops.keep (Drops.buf (by first | (rw [hpk]; done) | (rw [hpk]; simp; done)) (Drops.buf (by rw [hsn]; simp) (Drops.keep (Drops.refl _)))))⟩
      · skip
        have hpk : pathsTo rows (k + 1) = pathsTo rows k := by unfold pathsTo; rw [if_neg (by omega), if_neg (by omega)]
        refine VW_skip ?_
        refine InBlock_n (Then_n ?_)
        refine VW_region ?_
        refine VOps_cons rfl rfl (V_add rfl rfl (by omega) ?_)
        refine VOps_cons rfl rfl (V_move rfl ?_)
        refine VOps_nil ?_
        refine Then_n ?_
        exact ⟨(k + 1, t44, tp), (by (try simp only []); omega), (by omega), ⟨rfl, (by rw [hsn, List.map_append]; rfl), (by rw [hpk]; rfl), rfl, rfl, rfl, trivial⟩, (Drops.keep (Drops.buf (by first | (rw [hpk]; done) | (rw [hpk]; simp; done)) (Drops.buf (by rw [hsn]; simp) (Drops.keep (Drops.refl _)))))⟩
    · skip
      have hke : k = rows.length := by omega
      have hpt := pathsTo_end hke
      have hps : pathsTo rows k = pathsOf rows := hpt
      refine VW_exit ?_
      refine Then_e (Then_e (InBlock_hit ?_))
      refine Then_n ?_
      refine VW_cells 0 (ls' := [.raw (.map (some g0)), .sl 6 (some .nil) [], .int 0, .bool false]) rfl ⟨V.le.refl _, rfl, V.le.nilTok 6, rfl, V.le.refl _, rfl, V.le.refl _, rfl, trivial⟩ ?_
      refine VW_nilBuf 49 6 ?_
      refine VW_seq ?_
      refine VW_region ?_
      refine VOps_cons rfl rfl (V_move rfl ?_)
      refine VOps_cons rfl rfl (VOp_as (V_move rfl ⟨rfl, rfl⟩) ((by rw [take_end h35]; exact V.le.strip : V.le (.sl 2 (some tl) ((enumR 0 (rows.take k)).map mrowX)) (mrowsX (enumR 0 rows)))) ?_)
      refine VOps_cons rfl rfl (VOp_as (V_move rfl ⟨rfl, rfl⟩) ((by rw [hps]; exact V.le.strip : V.le (.sl 1 (some tp) ((pathsTo rows k).map intsX)) (pathsX (pathsOf rows)))) ?_)
      refine VOps_cons rfl rfl (V_callTok [.tmp 59, .tmp 60, .tmp 61] _ _ rfl rfl VT.en31 ((perm_erase (i := 1) rfl).trans (.cons _ (.cons _ ((perm_erase (i := 2) rfl).trans (.cons _ (.refl _)))))) (build_c hok 401 (Nat.le_refl _) g31 g0 .nil tab ⟨[], 0, false⟩ (enumR 0 rows) (pathsOf rows) τs htab hpre rfl (Nat.le_refl _) (Nat.zero_le _) (Nat.le_refl _)) (fun t62 => ?_))
      refine VOps_cons rfl rfl (V_assign rfl ?_)
      refine VOps_nil ?_
      refine Then_n ?_
      have hph := buildM_path hok 401 ⟨[], 0, false⟩ _ _ _ hpre
      have hke2 := buildM_keeps hok 401 ⟨[], 0, false⟩ _ _ _ hpre rfl
      have hdp := (buildM_depth hok 401 ⟨[], 0, false⟩ _ _ _ hpre).2.1
      change (compF t ds rows).2 < (compF t ds rows).1.out.length at hdp
      have hol : (compF t ds rows).1.out.length ≤ 1000000 := by have h1 := hke2.out; have h2 := hke2.slow rfl; change (compF t ds rows).1.out.length + 0 ≤ (compF t ds rows).1.many + 0 at h1; change (compF t ds rows).1.many ≤ _ at h2; omega
      have hib : (buildM t ds 401 ⟨[], 0, false⟩ (enumR 0 rows) (pathsOf rows)).2 ≤ 1000000 := by change (compF t ds rows).2 ≤ _; omega
      refine VW_seq ?_
      refine VW_seq ?_
      refine VW_region ?_
      refine VOps_cons rfl rfl (V_move rfl ?_)
      refine VOps_cons rfl rfl (V_nilCheck rfl ?_)
      refine VOps_cons rfl rfl (V_fieldAddr VT.fa76_3 rfl ?_)
      refine VOps_cons rfl rfl (V_load 0 VT.ty4 rfl rfl rfl ?_)
      refine VOps_nil ?_
      refine Then_n ?_
      refine VW_cond rfl (fun h66 => ?_) (fun h66 => ?_)
      · skip
        have h66b : (compF t ds rows).1.full = true := h66
        have ho2 : compOut ds rows = ([], 2) := by rw [ho, if_pos h66b]
        refine VW_seq ?_
        refine VW_region ?_
        refine VOps_cons rfl rfl (VOp_as (V_assign rfl ⟨rfl, rfl⟩) (V.le.nil 6) ?_)
        refine VOps_cons rfl rfl (V_assign rfl ?_)
        refine VOps_nil ?_
        refine Then_n ?_
        refine VW_ret ?_
        refine Then_r (VRet_many rfl rfl (.cons (.strip rfl) (.cons (.tmp rfl) (.nil))) ?_)
        rw [ho2]
        rfl
      · skip
        have ho2 : compOut ds rows = ((compF t ds rows).1.out.take ((compF t ds rows).2 + 1), 0) := by rw [ho, if_neg (by rw [show (compF t ds rows).1.full = false from h66]; simp)]
        have hll : ((compF t ds rows).1.out.take ((compF t ds rows).2 + 1)).length = (compF t ds rows).2 + 1 := by rw [List.length_take]; omega
        have hcl := nodeCloneRow_c ((compF t ds rows).1.out.take ((compF t ds rows).2 + 1)) (fun e => by rw [e] at hll; cases hll) (by omega)
        generalize hle : (compF t ds rows).1.out.take ((compF t ds rows).2 + 1) = l at ho2 hll hcl
        refine VW_skip ?_
        refine Then_n ?_
        refine VW_seq ?_
        refine VW_region ?_
        refine VOps_cons rfl rfl (V_move rfl ?_)
        refine VOps_cons rfl rfl (V_nilCheck rfl ?_)
        refine VOps_cons rfl rfl (V_fieldAddr VT.fa76_1 rfl ?_)
        refine VOps_cons rfl rfl (V_load 0 VT.ty40 rfl rfl rfl ?_)
        refine VOps_cons rfl rfl (V_move rfl ?_)
        refine VOps_cons rfl rfl (V_add rfl rfl (by omega) ?_)
        refine VOps_cons rfl rfl (VOp_as (V_sliceTo VT.sl40 rfl rfl (by omega) (by simp only [List.length_map]; change ((compF t ds rows).2 : Int) + 1 ≤ ((compF t ds rows).1.out.length : Int); omega) ⟨rfl, rfl⟩) (V.le.of_eq (v' := .sl 6 none (l.map nodeX)) (by rw [← hle, List.map_take]; rfl)) ?_)
        refine VOps_cons rfl rfl (V_call [.tmp 73] [] _ rfl rfl VT.en32 (.refl _) hcl ?_)
        rintro r Sa ⟨g74, cap74, rest74, hc74, hm74, rfl, rfl⟩
        refine VOps_cons rfl rfl (V_assign rfl ?_)
        refine VOps_nil ?_
        refine Then_n ?_
        refine VW_seq ?_
        refine VW_seq ?_
        refine VW_region ?_
        refine VOps_cons rfl rfl (V_move rfl ?_)
        refine VOps_cons rfl rfl (V_len_raw Try.underlying40 rfl ?_)
        refine VOps_cons rfl rfl (V_move rfl ?_)
        refine VOps_nil ?_
        refine Then_n ?_
        refine VW_block ?_
        refine VW_loopF (ι := Nat) (fun j => l.length - j) (fun j => [(16, some (.raw (.slice (some ⟨g74, 0, none⟩) l.length cap74))), (76, some (.int l.length)), (77, some (.int j))]) (fun j => [.cells g74 49 ((l.map nodeX).flatMap V.leaves ++ rest74)]) (fun j => j ≤ l.length) 0 (Nat.zero_le _) ⟨rfl, rfl, rfl, trivial⟩ (Drops.keep (Drops.drop (Drops.drop (Drops.drop (Drops.drop (Drops.drop (Drops.refl _))))))) ?_
        rintro j hj
        change j ≤ l.length at hj
        refine VW_seq ?_
        refine VW_region ?_
        refine VOps_cons rfl rfl (V_bin rfl rfl rfl ?_)
        refine VOps_nil ?_
        refine Then_n ?_
        refine VW_seq ?_
        refine VW_condP rfl (fun h78 => ?_) (fun h78 => ?_)
        · skip
          obtain ⟨nd, hn⟩ := get_of_lt l j h78
          have hm : nd ∈ (compF t ds rows).1.out := by have h1 := List.mem_of_getElem? hn; rw [← hle] at h1; exact List.mem_of_mem_take h1
          have hpl : nd.path.length ≤ 1000000 := by have h2 : nd.path.length ≤ 1000 := (hph nd hm).resolve_left (fun h => by cases h); omega
          refine VW_skip ?_
          refine Then_n ?_
          refine VW_seq ?_
          refine VW_block ?_
          refine VW_seq ?_
          refine VW_region ?_
          refine VOps_cons rfl rfl (V_move rfl ?_)
          refine VOps_cons rfl rfl (V_assign rfl ?_)
          refine VOps_nil ?_
          refine Then_n ?_
          refine VW_region ?_
          refine VOps_cons rfl rfl (V_move rfl ?_)
          refine VOps_cons rfl rfl (V_move rfl ?_)
          refine VOps_cons rfl rfl (V_move rfl ?_)
          refine VOps_cons rfl rfl (V_move rfl ?_)
          refine VOps_cons rfl rfl (V_indexAddr_row VT.sl40 rfl rfl (by omega) (by omega) ?_)
          refine VOps_cons rfl rfl (V_fieldAddr VT.fa49_2 rfl ?_)
          refine VOps_cons rfl rfl (V_load 0 VT.ty32 rfl rfl (node_path hn) ?_)
          refine VOps_cons rfl rfl (V_callP [.tmp 86] rfl rfl VT.en33 (intsClone_c nd.path hpl) ?_)
          refine VOps_cons rfl rfl (V_indexAddr_row VT.sl40 rfl rfl (by omega) (by omega) ?_)
          refine VOps_cons rfl rfl (V_fieldAddr VT.fa49_2 rfl ?_)
          refine VOps_cons rfl rfl (V_store 0 VT.ty32 rfl rfl rfl rfl (ble_of_get (node_path hn)) ?_)
          refine VOps_nil ?_
          refine InBlock_n (Then_n ?_)
          refine VW_region ?_
          refine VOps_cons rfl rfl (V_add rfl rfl (by omega) ?_)
          refine VOps_cons rfl rfl (V_move rfl ?_)
          refine VOps_nil ?_
          refine Then_n ?_
          exact ⟨j + 1, (by (try simp only []); omega), (by omega), ⟨rfl, rfl, rfl, trivial⟩, (Drops.keepE (congrArg (Own.cells _ _) (set_same (node_path hn))) (Drops.refl _))⟩
        · skip
          refine VW_exit ?_
          refine Then_e (Then_e (InBlock_hit ?_))
          refine Then_n ?_
          refine VW_freeze 0 (q := 16) (rest := rest74) (l.map nodeX) rfl rfl rfl (by simp) hc74 hm74 (nodes_fits _) ?_
          refine VW_seq ?_
          refine VW_region ?_
          refine VOps_cons rfl rfl (V_move rfl ?_)
          refine VOps_cons rfl rfl (V_assign rfl ?_)
          refine VOps_cons rfl rfl (V_assign rfl ?_)
          refine VOps_nil ?_
          refine Then_n ?_
          refine VW_ret ?_
          refine VRet_many rfl rfl (.cons (.strip rfl) (.cons (.tmp rfl) (.nil))) ?_
          rw [ho2]
          rfl


set_option maxRecDepth 100000 in
set_option maxHeartbeats 4000000 in
theorem matchDepth_c (ds : List DataSig) (hz : Sized ds) (rows : List (List Pat)) : VPure Try.prog 7 [datasX ds, rowsX rows] (.bool true) := by
  have hC := compile_c ds hz rows
  have hL := depth_law ds hz rows
  have hE : (compOut ds rows).2 ≠ 0 → (compOut ds rows).1 = [] := compOut_none
  have hlen := compOut_len ds hz rows
  generalize hco : compOut ds rows = co at hC hL hE hlen
  refine V_start (nt := 43) Try.func7 rfl rfl rfl ?_
  refine VW_seq ?_
  refine VW_region ?_
  refine VOps_cons rfl rfl (V_assign rfl ?_)
  refine VOps_nil ?_
  refine Then_n ?_
  refine VW_seq ?_
  refine VW_seq ?_
  refine VW_region ?_
  refine VOps_cons rfl rfl (V_callP [] rfl rfl VT.en11 (work_c) ?_)
  refine VOps_cons rfl rfl (V_not rfl ?_)
  refine VOps_nil ?_
  refine Then_n ?_
  refine VW_condF rfl (rfl) ?_
  refine VW_skip ?_
  refine Then_n ?_
  refine VW_seq ?_
  refine VW_region ?_
  refine VOps_cons rfl rfl (V_move rfl ?_)
  refine VOps_cons rfl rfl (V_move rfl ?_)
  refine VOps_cons rfl rfl (V_callP [.tmp 13, .tmp 14] rfl rfl VT.en18 (hC) ?_)
  refine VOps_cons rfl rfl (V_move rfl ?_)
  refine VOps_cons rfl rfl (V_extract rfl rfl ?_)
  refine VOps_cons rfl rfl (V_extract rfl rfl ?_)
  refine VOps_cons rfl rfl (V_assign rfl ?_)
  refine VOps_cons rfl rfl (V_assign rfl ?_)
  refine VOps_nil ?_
  refine Then_n ?_
  refine VW_seq ?_
  refine VW_seq ?_
  refine VW_region ?_
  refine VOps_cons rfl rfl (V_move rfl ?_)
  refine VOps_cons rfl rfl (V_bin rfl rfl rfl ?_)
  refine VOps_nil ?_
  refine Then_n ?_
  refine VW_condNe rfl (fun h19 => ?_) (fun h19 => ?_)
  · skip
    have hnil := hE h19
    refine VW_seq ?_
    refine VW_region ?_
    refine VOps_cons rfl rfl (V_move rfl ?_)
    refine VOps_cons rfl rfl (V_lenN (n := co.1.length) Try.underlying40 rfl (by simp) (fun hl21 => ?_))
    refine VOps_cons rfl rfl (V_bin rfl rfl rfl ?_)
    refine VOps_cons rfl rfl (V_assign rfl ?_)
    refine VOps_nil ?_
    refine Then_n ?_
    refine VW_ret ?_
    refine Then_r (VRet_one rfl (.tmp rfl) ?_)
    rw [hnil]
    rfl
  · skip
    obtain ⟨hl1, hl2⟩ := hL h19
    have hck := compOut_zero (by rw [hco]; exact h19)
    obtain ⟨t, hb⟩ := check_build hck
    have hsm := (check_parts hck hb).1
    have hnodes := hsm.nodes
    have hrows := hsm.rows
    refine VW_skip ?_
    refine Then_n ?_
    refine VW_seq ?_
    refine VW_region ?_
    refine VOps_cons rfl rfl (V_assign rfl ?_)
    refine VOps_nil ?_
    refine Then_n ?_
    refine VW_seq ?_
    refine VW_seq ?_
    refine VW_region ?_
    refine VOps_cons rfl rfl (V_move rfl ?_)
    refine VOps_cons rfl rfl (V_lenN (n := rows.length) Try.underlying23 rfl (by simp) (fun hl24 => ?_))
    refine VOps_cons rfl rfl (V_move rfl ?_)
    refine VOps_nil ?_
    refine Then_n ?_
    refine VW_block ?_
    refine VW_loopF (ι := Nat) (fun k => rows.length - k) (fun k => [(5, some (nodesX co.1)), (7, some (.int (cR (rows.take k)))), (23, some (rowsX rows)), (24, some (.int rows.length)), (25, some (.int k))]) (fun k => []) (fun k => k ≤ rows.length) 0 (Nat.zero_le _) ⟨rfl, rfl, rfl, rfl, rfl, trivial⟩ (Drops.nil _) ?_
    rintro k hk
    change k ≤ rows.length at hk
    refine VW_seq ?_
    refine VW_region ?_
    refine VOps_cons rfl rfl (V_bin rfl rfl rfl ?_)
    refine VOps_nil ?_
    refine Then_n ?_
    refine VW_seq ?_
    refine VW_condP rfl (fun h26 => ?_) (fun h26 => ?_)
    · skip
      obtain ⟨r, hr⟩ := get_of_lt rows k h26
      have hsn : cR (rows.take (k + 1)) = cR (rows.take k) + cL r := by rw [take_snoc hr, cR_snoc]
      have hct := cR_take rows k
      have hci := cL_in (List.mem_of_getElem? hr)
      have hcn := nodes_c 401 r (by omega) (by omega)
      refine VW_skip ?_
      refine Then_n ?_
      refine VW_seq ?_
      refine VW_block ?_
      refine VW_seq ?_
      refine VW_region ?_
      refine VOps_cons rfl rfl (V_indexAddr (el := patsX r) VT.sl23 rfl rfl (by omega) (get_mapS _ hr) (fun a27 => ?_))
      refine VOps_cons rfl rfl (V_load_ep VT.ty25 rfl rfl ?_)
      refine VOps_cons rfl rfl (V_assign rfl ?_)
      refine VOps_nil ?_
      refine Then_n ?_
      refine VW_region ?_
      refine VOps_cons rfl rfl (V_move rfl ?_)
      refine VOps_cons rfl rfl (V_move rfl ?_)
      refine VOps_cons rfl rfl (V_callP [.tmp 30] rfl rfl VT.en19 (hcn) ?_)
      refine VOps_cons rfl rfl (V_add rfl rfl (by omega) ?_)
      refine VOps_cons rfl rfl (V_assign rfl ?_)
      refine VOps_nil ?_
      refine InBlock_n (Then_n ?_)
      refine VW_region ?_
      refine VOps_cons rfl rfl (V_add rfl rfl (by omega) ?_)
      refine VOps_cons rfl rfl (V_move rfl ?_)
      refine VOps_nil ?_
      refine Then_n ?_
      exact ⟨k + 1, (by (try simp only []); omega), (by omega), ⟨rfl, (by rw [hsn]; rfl), rfl, rfl, rfl, trivial⟩, (Drops.nil _)⟩
    · skip
      have hke : k = rows.length := by omega
      refine VW_exit ?_
      refine Then_e (Then_e (InBlock_hit ?_))
      refine Then_n ?_
      refine VW_seq ?_
      refine VW_region ?_
      refine VOps_cons rfl rfl (V_move rfl ?_)
      refine VOps_cons rfl rfl (V_lenN (n := co.1.length) Try.underlying40 rfl (by simp) (fun hl35 => ?_))
      refine VOps_cons rfl rfl (V_bin rfl rfl rfl ?_)
      refine VOps_cons rfl rfl (V_move rfl ?_)
      refine VOps_split (q := 37) rfl (fun hq37 => ?_) (fun hq37 => ?_)
      · skip
        refine VOps_cons (want_of rfl rfl rfl hq37) rfl (V_move rfl ?_)
        refine VOps_cons (want_of rfl rfl rfl hq37) rfl (V_callP [.tmp 38] rfl rfl VT.en20 (depth_c co.1 hlen) ?_)
        refine VOps_cons (want_of rfl rfl rfl hq37) rfl (V_move rfl ?_)
        refine VOps_cons (want_of rfl rfl rfl hq37) rfl (V_bin rfl rfl rfl ?_)
        refine VOps_cons rfl rfl (V_pickT rfl hq37 rfl ?_)
        refine VOps_cons rfl rfl (V_assign rfl ?_)
        refine VOps_nil ?_
        refine Then_n ?_
        refine VW_ret ?_
        refine VRet_one rfl (.tmp rfl) ?_
        rw [hke, List.take_length]
        exact congrArg V.bool (decide_eq_true (by omega))
      · exact absurd hl1 (by have := of_decide_eq_false hq37; omega)


end Go.Proofs.Ytmjeaagpcmfnpaa.W21
