/- Walks, printed by walk.py. -/
import Derived.Test.YtmjeaagpcmfnpaaVT
import Derived.Test.YtmjeaagpcmfnpaaVDA
import Derived.Test.YtmjeaagpcmfnpaaVB
import Derived.Test.YtmjeaagpcmfnpaaW1
set_option linter.unusedVariables false
set_option linter.unusedSimpArgs false
namespace Go.Proofs.Ytmjeaagpcmfnpaa.W2
open Go.VL Go.PM Go.Proofs.Ytmjeaagpcmfnpaa Go.Proofs.Ytmjeaagpcmfnpaa.W1

theorem pats_flat (l : List Pat) : ∀ y ∈ l.map patV, y.flat = true := fun y hy => by
  obtain ⟨p, _, rfl⟩ := List.mem_map.1 hy
  rw [patV_eq]
  rfl
def cat (rows : List (List Pat)) : List Pat := rows.flatten
theorem cat_snoc (l : List (List Pat)) (r : List Pat) : cat (l ++ [r]) = cat l ++ r := by simp [cat]
theorem flat_le {rows : List (List Pat)} {k : Nat} {r : List Pat} (h : rows[k]? = some r) : (cat (rows.take k)).length + r.length ≤ (cat rows).length := by
  unfold cat
  have h1 : (rows.take (k + 1)).flatten.length ≤ rows.flatten.length := by
    conv => rhs; rw [← List.take_append_drop (k + 1) rows, List.flatten_append, List.length_append]
    omega
  rw [take_snoc h, List.flatten_append, List.length_append] at h1
  simpa using h1
theorem any_le : V.le (.agg VT.zs30) (patX anyP) := V.le.agg (by
  unfold VT.zs30
  simp only [V.les]
  exact ⟨V.le.refl _, rfl, V.le.refl _, rfl, V.le.refl _, rfl, V.le.nil 4, rfl, trivial⟩)
theorem any_rep (m : Mem) : Rep m (patX anyP) (.agg #[(.int .i64 0), (.string ⟨#[]⟩), (.int .i64 0), (.slice none 0 0)]) :=
  any_le m _ ⟨rfl, _, rfl, by simp [Go.VL.RepL, VT.zs30, Rep]⟩
theorem rest_snoc (l : List (List Pat)) (p : Pat) (tl : List Pat) : rest (l ++ [p :: tl]) = rest l ++ (if free p then [tl] else []) := by
  unfold rest
  rw [List.filterMap_append]
  by_cases hf : free p = true <;> simp [hf]
theorem rest_len (rows : List (List Pat)) : (rest rows).length ≤ rows.length := List.length_filterMap_le _ _
theorem patF_eq (t : Tab) (p : Pat) : patF t p = if p.kind = 0 ∨ p.kind = 1 then 0 else if p.kind = 2 then (if p.n < -1073741824 ∨ p.n > 1073741823 then 4 else 0) else if p.kind = 3 then
      (match tget t p.name with | none => 6 | some c => if p.args.length ≠ c.2.2 then 3 else patsF t p.args) else 3 := by
  cases p; rw [patF]; rfl
abbrev tabX (ds : List DataSig) (g : Nat) : V := .agg [datasX ds, .raw (.map (some g))]
abbrev tabO (g : Nat) (t : Tab) : Own := .map g (kmap kstr (tabV t))

set_option maxRecDepth 100000 in
theorem clone_c (l : List Pat) (hl : l.length ≤ 1000000) : VPure Try.prog 46 [patsX l] (patsX l) := by
  refine V_start (nt := 8) Try.func46 rfl rfl rfl ?_
  refine VW_seq ?_
  refine VW_region ?_
  refine VOps_cons rfl rfl (V_assign rfl ?_)
  refine VOps_nil ?_
  refine Then_n ?_
  refine VW_seq ?_
  refine VW_seq ?_
  refine VW_region ?_
  refine VOps_cons rfl rfl (V_move rfl ?_)
  refine VOps_cons rfl rfl (V_eqNil Try.underlying25 rfl (fun b4 hb4 => ?_))
  refine VOps_nil ?_
  refine Then_n ?_
  refine VW_cond rfl (fun h4 => ?_) (fun h4 => ?_)
  · skip
    have hn : l = [] := by simpa using hb4 h4
    subst hn
    refine VW_seq ?_
    refine VW_region ?_
    refine VOps_cons rfl rfl (VOp_as (V_assign rfl ⟨rfl, rfl⟩) (V.le.nil 4) ?_)
    refine VOps_nil ?_
    refine Then_n ?_
    refine VW_ret ?_
    refine Then_r (VRet_one rfl (.strip rfl) ?_)
    rfl
  · skip
    refine VW_skip ?_
    refine Then_n ?_
    refine VW_seq ?_
    refine VW_region ?_
    refine VOps_cons rfl rfl (V_litTok [] VT.sl25 rfl rfl rfl rfl rfl (fun t5 => ?_))
    refine VOps_cons rfl rfl (V_move rfl ?_)
    refine VOps_cons rfl rfl (V_appendN 0 _ VT.sl25 rfl rfl rfl (by simp) (by simp; omega) (fun t7 => ?_))
    refine VOps_cons rfl rfl (V_assign rfl ?_)
    refine VOps_nil ?_
    refine Then_n ?_
    refine VW_ret ?_
    refine VRet_one rfl (.strip rfl) ?_
    rfl


set_option maxRecDepth 100000 in
theorem cloneRow_c (l : List Pat) (hne : l ≠ []) (hl : l.length ≤ 1000000) : VCalls Try.prog 46 [patsX l] [] fun r S' => ∃ g cap rest, l.length ≤ cap ∧ cap ≤ maxLen ∧ r = .raw (.slice (some ⟨g, 0, none⟩) l.length cap) ∧ S' = [.cells g 30 ((l.map patV).flatMap V.leaves ++ rest)] := by
  refine VCalls_drops ?_
  refine V_start (nt := 8) Try.func46 rfl rfl rfl ?_
  refine VW_seq ?_
  refine VW_region ?_
  refine VOps_cons rfl rfl (V_assign rfl ?_)
  refine VOps_nil ?_
  refine Then_n ?_
  refine VW_seq ?_
  refine VW_seq ?_
  refine VW_region ?_
  refine VOps_cons rfl rfl (V_move rfl ?_)
  refine VOps_cons rfl rfl (V_eqNil Try.underlying25 rfl (fun b4 hb4 => ?_))
  refine VOps_nil ?_
  refine Then_n ?_
  refine VW_cond rfl (fun h4 => ?_) (fun h4 => ?_)
  · exact absurd (hb4 h4) (by simpa using hne)
  · skip
    refine VW_skip ?_
    refine Then_n ?_
    refine VW_seq ?_
    refine VW_region ?_
    refine VOps_cons rfl rfl (V_litRow [] VT.sl25 rfl rfl rfl rfl rfl (fun g5 => ?_))
    refine VOps_cons rfl rfl (V_move rfl ?_)
    refine VOps_cons rfl rfl (V_appendRow VT.sl25 (by decide) rfl rfl (by have := List.length_pos_iff.2 hne; simpa using this) (by simp; omega) (pats_flat l) (fun g7 cap7 rest7 hc7 hm7 => ?_))
    refine VOps_cons rfl rfl (V_assign rfl ?_)
    refine VOps_nil ?_
    refine Then_n ?_
    refine VW_ret ?_
    refine VRet_one rfl (.tmp rfl) ?_
    exact ⟨_, Drops.keep (Drops.drop (Drops.refl _)), g7, cap7, rest7, by simpa using hc7, hm7, by simp, rfl⟩


set_option maxRecDepth 100000 in
theorem grow_c (n : Int) (h0 : 0 ≤ n) (hn : n ≤ 2000000) : VCalls Try.prog 79 [V.nilSl, .int n] [] fun r S' => ∃ tok, r = .sl 4 (some tok) [] ∧ S' = [.buf tok 30 4 0] := by
  refine V_start (nt := 27) Try.func79 rfl rfl rfl ?_
  refine VW_seq ?_
  refine VW_region ?_
  refine VOps_cons rfl rfl (V_assign rfl ?_)
  refine VOps_nil ?_
  refine Then_n ?_
  refine VW_seq ?_
  refine VW_seq ?_
  refine VW_region ?_
  refine VOps_cons rfl rfl (V_move rfl ?_)
  refine VOps_cons rfl rfl (V_bin rfl rfl rfl ?_)
  refine VOps_nil ?_
  refine Then_n ?_
  refine VW_condF rfl (by simp; omega) ?_
  refine VW_skip ?_
  refine Then_n ?_
  refine VW_seq ?_
  refine VW_seq ?_
  refine VW_region ?_
  refine VOps_cons rfl rfl (V_move rfl ?_)
  refine VOps_cons rfl rfl (V_move rfl ?_)
  refine VOps_cons rfl rfl (V_cap_raw Try.underlying25 rfl ?_)
  refine VOps_cons rfl rfl (V_move rfl ?_)
  refine VOps_cons rfl rfl (V_len_raw Try.underlying25 rfl ?_)
  refine VOps_cons rfl rfl (V_sub rfl rfl (by omega) ?_)
  refine VOps_cons rfl rfl (V_sub rfl rfl (by omega) ?_)
  refine VOps_cons rfl rfl (V_assign rfl ?_)
  refine VOps_nil ?_
  refine Then_n ?_
  refine VW_seq ?_
  refine VW_region ?_
  refine VOps_cons rfl rfl (V_move rfl ?_)
  refine VOps_cons rfl rfl (V_bin rfl rfl rfl ?_)
  refine VOps_nil ?_
  refine Then_n ?_
  refine VW_condP rfl (fun h16 => ?_) (fun h16 => ?_)
  · skip
    refine VW_region ?_
    refine VOps_cons rfl rfl (V_move rfl ?_)
    refine VOps_cons rfl rfl (V_move rfl ?_)
    refine VOps_cons rfl rfl (V_cap_raw Try.underlying25 rfl ?_)
    refine VOps_cons rfl rfl (V_slice_raw VT.sl25 rfl rfl rfl (by omega) (by omega) (by omega) ?_)
    refine VOps_cons rfl rfl (V_move rfl ?_)
    refine VOps_cons rfl rfl (V_growNil VT.sl25 Try.underlying3 rfl rfl (by omega) (by omega) (fun g22 cap22 hcg22 hmg22 => ?_))
    refine VOps_cons rfl rfl (V_move rfl ?_)
    refine VOps_cons rfl rfl (V_len_raw Try.underlying25 rfl ?_)
    refine VOps_cons rfl rfl (V_slice0 VT.sl25 rfl rfl (by omega) hmg22 ?_)
    refine VOps_cons rfl rfl (V_assign rfl ?_)
    refine VOps_nil ?_
    refine Then_n ?_
    refine VW_seq ?_
    refine VW_region ?_
    refine VOps_cons rfl rfl (V_move rfl ?_)
    refine VOps_cons rfl rfl (V_assign rfl ?_)
    refine VOps_nil ?_
    refine Then_n ?_
    refine VW_ret ?_
    refine VRet_one rfl (.tmp rfl) ?_
    exact ⟨_, rfl, rfl⟩
  · skip
    refine VW_nil (q := 0) 30 4 rfl ?_
    refine VW_skip ?_
    refine Then_n ?_
    refine VW_seq ?_
    refine VW_region ?_
    refine VOps_cons rfl rfl (V_move rfl ?_)
    refine VOps_cons rfl rfl (V_assign rfl ?_)
    refine VOps_nil ?_
    refine Then_n ?_
    refine VW_ret ?_
    refine VRet_one rfl (.tmp rfl) ?_
    exact ⟨_, rfl, rfl⟩


set_option maxRecDepth 100000 in
theorem concat_c (rows : List (List Pat)) (hs : (cat rows).length ≤ 1000000) : VPure Try.prog 47 [rowsX rows] (patsX (cat rows)) := by
  refine V_start (nt := 36) Try.func47 rfl rfl rfl ?_
  refine VW_seq ?_
  refine VW_region ?_
  refine VOps_cons rfl rfl (V_assign rfl ?_)
  refine VOps_nil ?_
  refine Then_n ?_
  refine VW_seq ?_
  refine VW_region ?_
  refine VOps_cons rfl rfl (V_assign rfl ?_)
  refine VOps_nil ?_
  refine Then_n ?_
  refine VW_seq ?_
  refine VW_seq ?_
  refine VW_region ?_
  refine VOps_cons rfl rfl (V_move rfl ?_)
  refine VOps_cons rfl rfl (V_lenN (n := rows.length) Try.underlying23 rfl (by simp) (fun hl10 => ?_))
  refine VOps_cons rfl rfl (V_move rfl ?_)
  refine VOps_nil ?_
  refine Then_n ?_
  refine VW_block ?_
  refine VW_loopF (ι := Nat) (fun k => rows.length - k) (fun k => [(0, some (rowsX rows)), (3, some (.int (cat (rows.take k)).length)), (9, some (rowsX rows)), (10, some (.int rows.length)), (11, some (.int k))]) (fun k => []) (fun k => k ≤ rows.length) 0 (by simp) ⟨rfl, rfl, rfl, rfl, rfl, trivial⟩ (Drops.nil _) ?_
  rintro k hk
  change k ≤ rows.length at hk
  refine VW_seq ?_
  refine VW_region ?_
  refine VOps_cons rfl rfl (V_bin rfl rfl rfl ?_)
  refine VOps_nil ?_
  refine Then_n ?_
  refine VW_seq ?_
  refine VW_condP rfl (fun h12 => ?_) (fun h12 => ?_)
  · skip
    obtain ⟨r, hr⟩ := get_of_lt rows k h12
    have hfl := flat_le hr
    refine VW_skip ?_
    refine Then_n ?_
    refine VW_seq ?_
    refine VW_block ?_
    refine VW_seq ?_
    refine VW_region ?_
    refine VOps_cons rfl rfl (V_indexAddr (el := patsX r) VT.sl23 rfl rfl (by omega) (get_mapS _ hr) (fun a13 => ?_))
    refine VOps_cons rfl rfl (V_load_ep VT.ty25 rfl rfl ?_)
    refine VOps_cons rfl rfl (V_assign rfl ?_)
    refine VOps_nil ?_
    refine Then_n ?_
    refine VW_seq ?_
    refine VW_region ?_
    refine VOps_cons rfl rfl (V_move rfl ?_)
    refine VOps_cons rfl rfl (V_move rfl ?_)
    refine VOps_cons rfl rfl (V_lenN (n := r.length) Try.underlying25 rfl (by simp) (fun hl17 => ?_))
    refine VOps_cons rfl rfl (V_add rfl rfl (by omega) ?_)
    refine VOps_cons rfl rfl (V_assign rfl ?_)
    refine VOps_nil ?_
    refine Then_n ?_
    refine VW_seq ?_
    refine VW_region ?_
    refine VOps_cons rfl rfl (V_move rfl ?_)
    refine VOps_cons rfl rfl (V_bin rfl rfl rfl ?_)
    refine VOps_nil ?_
    refine Then_n ?_
    refine VW_condF rfl (by simp; omega) ?_
    refine VW_skip ?_
    refine InBlock_n (Then_n ?_)
    refine VW_region ?_
    refine VOps_cons rfl rfl (V_add rfl rfl (by omega) ?_)
    refine VOps_cons rfl rfl (V_move rfl ?_)
    refine VOps_nil ?_
    refine Then_n ?_
    exact ⟨k + 1, (by (try simp only []); omega), (by omega), ⟨rfl, (by rw [take_snoc hr, cat_snoc, List.length_append]; rfl), rfl, rfl, rfl, trivial⟩, (Drops.nil _)⟩
  · skip
    have hT : (cat (rows.take k)).length ≤ 1000000 := by rw [take_end h12]; exact hs
    refine VW_exit ?_
    refine Then_e (Then_e (InBlock_hit ?_))
    refine Then_n ?_
    refine VW_seq ?_
    refine VW_region ?_
    refine VOps_cons rfl rfl (V_move rfl ?_)
    refine VOps_cons rfl rfl (V_call [.const _, .tmp 23] [] _ rfl rfl VT.en79 (.refl _) (grow_c _ (by omega) (by omega)) ?_)
    rintro r Sa ⟨tok0, rfl, rfl⟩
    refine VOps_cons rfl rfl (V_assign rfl ?_)
    refine VOps_nil ?_
    refine Then_n ?_
    refine VW_seq ?_
    refine VW_seq ?_
    refine VW_region ?_
    refine VOps_cons rfl rfl (V_move rfl ?_)
    refine VOps_cons rfl rfl (V_lenN (n := rows.length) Try.underlying23 rfl (by simp) (fun hl26 => ?_))
    refine VOps_cons rfl rfl (V_move rfl ?_)
    refine VOps_nil ?_
    refine Then_n ?_
    refine VW_block ?_
    refine VW_loopF (ι := Nat × Tok) (fun (j, t) => rows.length - j) (fun (j, t) => [(6, some (.sl 4 (some t) ((cat (rows.take j)).map patV))), (25, some (rowsX rows)), (26, some (.int rows.length)), (27, some (.int j))]) (fun (j, t) => [.buf t 30 4 (cat (rows.take j)).length]) (fun (j, t) => j ≤ rows.length) (0, tok0) (by simp) ⟨rfl, rfl, rfl, rfl, trivial⟩ (Drops.buf rfl (Drops.refl _)) ?_
    rintro ⟨j, t⟩ hj
    change j ≤ rows.length at hj
    refine VW_seq ?_
    refine VW_region ?_
    refine VOps_cons rfl rfl (V_bin rfl rfl rfl ?_)
    refine VOps_nil ?_
    refine Then_n ?_
    refine VW_seq ?_
    refine VW_condP rfl (fun h28 => ?_) (fun h28 => ?_)
    · skip
      obtain ⟨r, hr⟩ := get_of_lt rows j h28
      have hfl := flat_le hr
      refine VW_skip ?_
      refine Then_n ?_
      refine VW_seq ?_
      refine VW_block ?_
      refine VW_seq ?_
      refine VW_region ?_
      refine VOps_cons rfl rfl (V_indexAddr (el := patsX r) VT.sl23 rfl rfl (by omega) (get_mapS _ hr) (fun a29 => ?_))
      refine VOps_cons rfl rfl (V_load_ep VT.ty25 rfl rfl ?_)
      refine VOps_cons rfl rfl (V_assign rfl ?_)
      refine VOps_nil ?_
      refine Then_n ?_
      refine VW_region ?_
      refine VOps_cons rfl rfl (V_move rfl ?_)
      refine VOps_cons rfl rfl (V_move rfl ?_)
      refine VOps_cons rfl rfl (V_appendN 0 _ VT.sl25 rfl rfl rfl (by simp) (by rw [List.length_map, List.length_map]; omega) (fun t33 => ?_))
      refine VOps_cons rfl rfl (V_assign rfl ?_)
      refine VOps_nil ?_
      refine InBlock_n (Then_n ?_)
      refine VW_region ?_
      refine VOps_cons rfl rfl (V_add rfl rfl (by omega) ?_)
      refine VOps_cons rfl rfl (V_move rfl ?_)
      refine VOps_nil ?_
      refine Then_n ?_
      exact ⟨(j + 1, t33), (by (try simp only []); omega), (by omega), ⟨(by rw [take_snoc hr, cat_snoc, List.map_append]; rfl), rfl, rfl, rfl, trivial⟩, (Drops.buf (by rw [take_snoc hr, cat_snoc]; simp) (Drops.refl _))⟩
    · skip
      refine VW_exit ?_
      refine Then_e (Then_e (InBlock_hit ?_))
      refine Then_n ?_
      refine VW_seq ?_
      refine VW_region ?_
      refine VOps_cons rfl rfl (V_move rfl ?_)
      refine VOps_cons rfl rfl (V_assign rfl ?_)
      refine VOps_nil ?_
      refine Then_n ?_
      refine VW_ret ?_
      refine VRet_one rfl (.strip rfl) ?_
      rw [take_end h28]


set_option maxRecDepth 100000 in
theorem anys_c (n : Nat) (hn : n * 56 ≤ 140737488355328) : VPure Try.prog 49 [.int n] (patsX (anysL n)) := by
  refine V_start (nt := 5) Try.func49 rfl rfl rfl ?_
  refine VW_seq ?_
  refine VW_region ?_
  refine VOps_cons rfl rfl (V_assign rfl ?_)
  refine VOps_nil ?_
  refine Then_n ?_
  refine VW_seq ?_
  refine VW_region ?_
  refine VOps_cons rfl rfl (V_move rfl ?_)
  refine VOps_cons rfl rfl (V_make (patX anyP) any_rep rfl VT.sl25 rfl rfl (by omega) (by omega) (fun t4 => ?_))
  refine VOps_cons rfl rfl (V_assign rfl ?_)
  refine VOps_nil ?_
  refine Then_n ?_
  refine VW_ret ?_
  refine VRet_one rfl (.strip rfl) ?_
  simp [patV_eq]


set_option maxRecDepth 100000 in
theorem rest_c (rows : List (List Pat)) (hne : ∀ r ∈ rows, r ≠ []) (hl : rows.length ≤ 1000000) : VPure Try.prog 44 [rowsX rows] (rowsX (rest rows)) := by
  refine V_start (nt := 23) Try.func44 rfl rfl rfl ?_
  refine VW_seq ?_
  refine VW_region ?_
  refine VOps_cons rfl rfl (V_assign rfl ?_)
  refine VOps_nil ?_
  refine Then_n ?_
  refine VW_seq ?_
  refine VW_region ?_
  refine VOps_cons rfl rfl (V_assign_nil 25 1 ?_)
  refine VOps_nil ?_
  refine Then_n ?_
  refine VW_seq ?_
  refine VW_seq ?_
  refine VW_region ?_
  refine VOps_cons rfl rfl (V_move rfl ?_)
  refine VOps_cons rfl rfl (V_lenN (n := rows.length) Try.underlying23 rfl (by simp) (fun hl7 => ?_))
  refine VOps_cons rfl rfl (V_move rfl ?_)
  refine VOps_nil ?_
  refine Then_n ?_
  refine VW_block ?_
  refine VW_loopF (ι := Nat × Tok) (fun (k, t) => rows.length - k) (fun (k, t) => [(3, some (.sl 1 (some t) ((rest (rows.take k)).map patsX))), (6, some (rowsX rows)), (7, some (.int rows.length)), (8, some (.int k))]) (fun (k, t) => [.buf t 25 1 (rest (rows.take k)).length]) (fun (k, t) => k ≤ rows.length) (0, .nil) (by simp) ⟨(by simp [rest]; rfl), rfl, rfl, rfl, trivial⟩ (Drops.buf (by simp [rest]) (Drops.refl _)) ?_
  rintro ⟨k, t⟩ hk
  change k ≤ rows.length at hk
  refine VW_seq ?_
  refine VW_region ?_
  refine VOps_cons rfl rfl (V_bin rfl rfl rfl ?_)
  refine VOps_nil ?_
  refine Then_n ?_
  refine VW_seq ?_
  refine VW_condP rfl (fun h9 => ?_) (fun h9 => ?_)
  · skip
    obtain ⟨r, hr⟩ := get_of_lt rows k h9
    obtain ⟨p, tl, rfl⟩ := List.exists_cons_of_ne_nil (hne _ (List.mem_of_getElem? hr))
    refine VW_skip ?_
    refine Then_n ?_
    refine VW_seq ?_
    refine VW_block ?_
    refine VW_seq ?_
    refine VW_region ?_
    refine VOps_cons rfl rfl (V_indexAddr (el := patsX (p :: tl)) VT.sl23 rfl rfl (by omega) (get_mapS _ hr) (fun a10 => ?_))
    refine VOps_cons rfl rfl (V_load_ep VT.ty25 rfl rfl ?_)
    refine VOps_cons rfl rfl (V_assign rfl ?_)
    refine VOps_nil ?_
    refine Then_n ?_
    refine VW_seq ?_
    refine VW_region ?_
    refine VOps_cons rfl rfl (V_move rfl ?_)
    refine VOps_cons rfl rfl (V_indexAddr (el := patX p) VT.sl25 rfl rfl (by omega) (get_patS rfl) (fun a13 => ?_))
    refine VOps_cons rfl rfl (V_load_ep_agg VT.ty30 rfl rfl ?_)
    refine VOps_cons rfl rfl (V_callP [.tmp 14] rfl rfl VT.en48 (free_c _) ?_)
    refine VOps_nil ?_
    refine Then_n ?_
    refine VW_cond rfl (fun h15 => ?_) (fun h15 => ?_)
    · skip
      refine VW_region ?_
      refine VOps_cons rfl rfl (V_move rfl ?_)
      refine VOps_cons rfl rfl (V_move rfl ?_)
      refine VOps_cons rfl rfl (V_sliceFrom VT.sl25 rfl rfl (by omega) (by simp; omega) ?_)
      refine VOps_cons rfl rfl (V_lit [.tmp 18] VT.sl23 rfl rfl rfl rfl rfl ?_)
      refine VOps_cons rfl rfl (V_appendN 0 _ VT.sl23 rfl rfl rfl (by simp) (by have := rest_len (rows.take k); simp at this ⊢; omega) (fun t20 => ?_))
      refine VOps_cons rfl rfl (V_assign rfl ?_)
      refine VOps_nil ?_
      refine InBlock_n (Then_n ?_)
      refine VW_region ?_
      refine VOps_cons rfl rfl (V_add rfl rfl (by omega) ?_)
      refine VOps_cons rfl rfl (V_move rfl ?_)
      refine VOps_nil ?_
      refine Then_n ?_
      exact ⟨(k + 1, t20), (by (try simp only []); omega), (by omega), ⟨(by rw [take_snoc hr, rest_snoc]; simp [h15]; try rfl), rfl, rfl, rfl, trivial⟩, (Drops.buf (by rw [take_snoc hr, rest_snoc]; simp [h15]) (Drops.refl _))⟩
    · skip
      refine VW_skip ?_
      refine InBlock_n (Then_n ?_)
      refine VW_region ?_
      refine VOps_cons rfl rfl (V_add rfl rfl (by omega) ?_)
      refine VOps_cons rfl rfl (V_move rfl ?_)
      refine VOps_nil ?_
      refine Then_n ?_
      exact ⟨(k + 1, t), (by (try simp only []); omega), (by omega), ⟨(by rw [take_snoc hr, rest_snoc]; simp [h15]; try rfl), rfl, rfl, rfl, trivial⟩, (Drops.buf (by rw [take_snoc hr, rest_snoc]; simp [h15]) (Drops.refl _))⟩
  · skip
    refine VW_exit ?_
    refine Then_e (Then_e (InBlock_hit ?_))
    refine Then_n ?_
    refine VW_seq ?_
    refine VW_region ?_
    refine VOps_cons rfl rfl (V_move rfl ?_)
    refine VOps_cons rfl rfl (V_assign rfl ?_)
    refine VOps_nil ?_
    refine Then_n ?_
    refine VW_ret ?_
    refine VRet_one rfl (.strip rfl) ?_
    rw [take_end h9]


set_option maxRecDepth 100000 in
theorem kind_c (ds : List DataSig) (t : Tab) (g : Nat) (p : Pat) : VKeep Try.prog 74 [tabX ds g, patX p] [tabO g t] (.int (kindF t p)) := by
  refine VCalls_drops ?_
  refine V_start (nt := 17) Try.func74 rfl rfl rfl ?_
  refine VW_seq ?_
  refine VW_region ?_
  refine VOps_cons rfl rfl (V_box rfl rfl (fun g2 => ?_))
  refine VOps_cons rfl rfl (V_box rfl rfl (fun g3 => ?_))
  refine VOps_cons rfl rfl (V_assign rfl ?_)
  refine VOps_nil ?_
  refine Then_n ?_
  refine VW_seq ?_
  refine VW_seq ?_
  refine VW_region ?_
  refine VOps_cons rfl rfl (V_fieldAddr VT.fa30_0 rfl ?_)
  refine VOps_cons rfl rfl (V_load 0 VT.ty3 rfl rfl rfl ?_)
  refine VOps_nil ?_
  refine Then_n ?_
  refine VW_block ?_
  refine VW_seq ?_
  refine VW_region ?_
  refine VOps_cons rfl rfl (V_bin rfl rfl rfl ?_)
  refine VOps_cons rfl rfl (V_assign rfl ?_)
  refine VOps_nil ?_
  refine Then_n ?_
  refine VW_condEq rfl (fun h7 => ?_) (fun h7 => ?_)
  · skip
    refine VW_seq ?_
    refine VW_region ?_
    refine VOps_cons rfl rfl (V_assign rfl ?_)
    refine VOps_nil ?_
    refine Then_n ?_
    refine VW_ret ?_
    refine InBlock_r (Then_r (VRet_one rfl (.tmp rfl) ?_))
    exact ⟨_, Drops.drop (Drops.drop (Drops.refl _)), by simp [kindF, h7], rfl⟩
  · skip
    refine VW_seq ?_
    refine VW_region ?_
    refine VOps_cons rfl rfl (V_bin rfl rfl rfl ?_)
    refine VOps_cons rfl rfl (V_assign rfl ?_)
    refine VOps_nil ?_
    refine Then_n ?_
    refine VW_condEq rfl (fun h9 => ?_) (fun h9 => ?_)
    · skip
      refine VW_seq ?_
      refine VW_region ?_
      refine VOps_cons rfl rfl (V_fieldAddr VT.fa65_1 rfl ?_)
      refine VOps_cons rfl rfl (V_load 1 VT.ty63 rfl rfl rfl ?_)
      refine VOps_cons rfl rfl (V_fieldAddr VT.fa30_1 rfl ?_)
      refine VOps_cons rfl rfl (V_load 0 VT.ty9 rfl rfl rfl ?_)
      rcases ht : tget t p.name with _ | c
      · skip
        refine VOps_cons rfl rfl (V_lookup0 2 (.agg VT.zs95) (fun m => ⟨rfl, _, rfl, by simp [Go.VL.RepL, VT.zs95, Rep]⟩) Try.underlying63 (key_str Try.underlying9) VT.zr95 rfl rfl rfl (by rw [kget_tab, ht]; rfl) ?_)
        refine VOps_cons rfl rfl (V_field (x := 0) VT.fa95_0 rfl rfl ?_)
        refine VOps_cons rfl rfl (V_assign rfl ?_)
        refine VOps_nil ?_
        refine Then_n ?_
        refine VW_ret ?_
        refine InBlock_r (Then_r (VRet_one rfl (.tmp rfl) ?_))
        exact ⟨_, Drops.drop (Drops.drop (Drops.refl _)), by simp [kindF, h7, h9, ht], rfl⟩
      · skip
        refine VOps_cons rfl rfl (V_lookup1 2 Try.underlying63 (key_str Try.underlying9) VT.zr95 rfl rfl rfl (by rw [kget_tab, ht]; rfl) ?_)
        refine VOps_cons rfl rfl (V_field (x := 0) VT.fa95_0 rfl rfl ?_)
        refine VOps_cons rfl rfl (V_assign rfl ?_)
        refine VOps_nil ?_
        refine Then_n ?_
        refine VW_ret ?_
        refine InBlock_r (Then_r (VRet_one rfl (.tmp rfl) ?_))
        exact ⟨_, Drops.drop (Drops.drop (Drops.refl _)), by simp [kindF, h7, h9, ht], rfl⟩
    · skip
      refine VW_skip ?_
      refine InBlock_n (Then_n ?_)
      refine VW_seq ?_
      refine VW_region ?_
      refine VOps_cons rfl rfl (V_assign rfl ?_)
      refine VOps_nil ?_
      refine Then_n ?_
      refine VW_ret ?_
      refine VRet_one rfl (.tmp rfl) ?_
      exact ⟨_, Drops.drop (Drops.drop (Drops.refl _)), by simp [kindF, h7, h9], rfl⟩


set_option maxRecDepth 100000 in
theorem pattern_step (ds : List DataSig) (t : Tab) (g : Nat) (p : Pat) (ih : ∀ q ∈ p.args, VKeep Try.prog 40 [tabX ds g, patX q] [tabO g t] (.int (patF t q))) : VKeep Try.prog 40 [tabX ds g, patX p] [tabO g t] (.int (patF t p)) := by
  refine VCalls_drops ?_
  refine V_start (nt := 59) Try.func40 rfl rfl rfl ?_
  refine VW_seq ?_
  refine VW_region ?_
  refine VOps_cons rfl rfl (V_box rfl rfl (fun g2 => ?_))
  refine VOps_cons rfl rfl (V_box rfl rfl (fun g3 => ?_))
  refine VOps_cons rfl rfl (V_assign rfl ?_)
  refine VOps_nil ?_
  refine Then_n ?_
  refine VW_seq ?_
  refine VW_seq ?_
  refine VW_region ?_
  refine VOps_cons rfl rfl (V_fieldAddr VT.fa30_0 rfl ?_)
  refine VOps_cons rfl rfl (V_load 0 VT.ty3 rfl rfl rfl ?_)
  refine VOps_nil ?_
  refine Then_n ?_
  refine VW_block ?_
  refine VW_seq ?_
  refine VW_seq ?_
  refine VW_region ?_
  refine VOps_cons rfl rfl (V_bin rfl rfl rfl ?_)
  refine VOps_cons rfl rfl (V_assign rfl ?_)
  refine VOps_nil ?_
  refine Then_n ?_
  refine VW_condEq rfl (fun h12 => ?_) (fun h12 => ?_)
  · skip
    refine VW_skip ?_
    refine Then_n ?_
    refine VW_condEq rfl (fun h12 => ?_) (fun h12 => ?_)
    · skip
      refine VW_seq ?_
      refine VW_region ?_
      refine VOps_cons rfl rfl (V_assign rfl ?_)
      refine VOps_nil ?_
      refine Then_n ?_
      refine VW_ret ?_
      refine InBlock_r (Then_r (VRet_one rfl (.tmp rfl) ?_))
      exact ⟨_, by first | exact Drops.drop (Drops.drop (Drops.refl _)) | exact Drops.drop (Drops.drop (Drops.drop (Drops.refl _))) | exact Drops.drop (Drops.refl _), by first | (rw [patF_eq]; simp_all; done) | (rw [← hq, drop_cons hr, patsF]; simp_all; done) | rw [hq], rfl⟩
    · skip
      refine VW_seq ?_
      refine VW_region ?_
      refine VOps_cons rfl rfl (V_bin rfl rfl rfl ?_)
      refine VOps_cons rfl rfl (V_assign rfl ?_)
      refine VOps_nil ?_
      refine Then_n ?_
      refine VW_condEq rfl (fun h15 => ?_) (fun h15 => ?_)
      · skip
        refine VW_seq ?_
        refine VW_seq ?_
        refine VW_region ?_
        refine VOps_cons rfl rfl (V_fieldAddr VT.fa30_2 rfl ?_)
        refine VOps_cons rfl rfl (V_load 0 VT.ty3 rfl rfl rfl ?_)
        refine VOps_cons rfl rfl (V_bin rfl rfl rfl ?_)
        refine VOps_cons rfl rfl (V_move rfl ?_)
        refine VOps_split (q := 20) rfl (fun hq20 => ?_) (fun hq20 => ?_)
        · skip
          refine VOps_skipU (.inl (skip_of rfl rfl rfl hq20)) rfl ?_
          refine VOps_skipU (.inl (skip_of rfl rfl rfl hq20)) rfl ?_
          refine VOps_skipU (.inl (skip_of rfl rfl rfl hq20)) rfl ?_
          refine VOps_cons rfl rfl (V_pickT rfl hq20 rfl ?_)
          refine VOps_nil ?_
          refine Then_n ?_
          refine VW_condT rfl rfl ?_
          refine VW_seq ?_
          refine VW_region ?_
          refine VOps_cons rfl rfl (V_assign rfl ?_)
          refine VOps_nil ?_
          refine Then_n ?_
          refine VW_ret ?_
          refine Then_r (InBlock_r (Then_r (VRet_one rfl (.tmp rfl) ?_)))
          exact ⟨_, by first | exact Drops.drop (Drops.drop (Drops.refl _)) | exact Drops.drop (Drops.drop (Drops.drop (Drops.refl _))) | exact Drops.drop (Drops.refl _), by first | (rw [patF_eq]; simp_all; done) | (rw [← hq, drop_cons hr, patsF]; simp_all; done) | rw [hq], rfl⟩
        · skip
          refine VOps_cons (want_of rfl rfl rfl hq20) rfl (V_fieldAddr VT.fa30_2 rfl ?_)
          refine VOps_cons (want_of rfl rfl rfl hq20) rfl (V_load 0 VT.ty3 rfl rfl rfl ?_)
          refine VOps_cons (want_of rfl rfl rfl hq20) rfl (V_bin rfl rfl rfl ?_)
          refine VOps_cons rfl rfl (V_pickF rfl hq20 rfl ?_)
          refine VOps_nil ?_
          refine Then_n ?_
          refine VW_condP rfl (fun h24 => ?_) (fun h24 => ?_)
          · skip
            refine VW_seq ?_
            refine VW_region ?_
            refine VOps_cons rfl rfl (V_assign rfl ?_)
            refine VOps_nil ?_
            refine Then_n ?_
            refine VW_ret ?_
            refine Then_r (InBlock_r (Then_r (VRet_one rfl (.tmp rfl) ?_)))
            exact ⟨_, by first | exact Drops.drop (Drops.drop (Drops.refl _)) | exact Drops.drop (Drops.drop (Drops.drop (Drops.refl _))) | exact Drops.drop (Drops.refl _), by first | (rw [patF_eq]; simp_all; done) | (rw [← hq, drop_cons hr, patsF]; simp_all; done) | rw [hq], rfl⟩
          · skip
            refine VW_skip ?_
            refine Then_n ?_
            refine VW_seq ?_
            refine VW_region ?_
            refine VOps_cons rfl rfl (V_assign rfl ?_)
            refine VOps_nil ?_
            refine Then_n ?_
            refine VW_ret ?_
            refine InBlock_r (Then_r (VRet_one rfl (.tmp rfl) ?_))
            exact ⟨_, by first | exact Drops.drop (Drops.drop (Drops.refl _)) | exact Drops.drop (Drops.drop (Drops.drop (Drops.refl _))) | exact Drops.drop (Drops.refl _), by first | (rw [patF_eq]; simp_all; done) | (rw [← hq, drop_cons hr, patsF]; simp_all; done) | rw [hq], rfl⟩
      · skip
        refine VW_seq ?_
        refine VW_region ?_
        refine VOps_cons rfl rfl (V_bin rfl rfl rfl ?_)
        refine VOps_cons rfl rfl (V_assign rfl ?_)
        refine VOps_nil ?_
        refine Then_n ?_
        refine VW_condEq rfl (fun h25 => ?_) (fun h25 => ?_)
        · skip
          refine VW_skip ?_
          refine InBlock_n (Then_n ?_)
          refine VW_seq ?_
          refine VW_region ?_
          refine VOps_cons rfl rfl (V_fieldAddr VT.fa65_1 rfl ?_)
          refine VOps_cons rfl rfl (V_load 1 VT.ty63 rfl rfl rfl ?_)
          refine VOps_cons rfl rfl (V_fieldAddr VT.fa30_1 rfl ?_)
          refine VOps_cons rfl rfl (V_load 0 VT.ty9 rfl rfl rfl ?_)
          rcases ht : tget t p.name with _ | c
          · skip
            refine VOps_cons rfl rfl (V_lookupNo 2 (.agg VT.zs95) (fun m => ⟨rfl, _, rfl, by simp [Go.VL.RepL, VT.zs95, Rep]⟩) Try.underlying63 (key_str Try.underlying9) VT.zr95 rfl rfl rfl (by rw [kget_tab, ht]; rfl) ?_)
            refine VOps_cons rfl rfl (V_move rfl ?_)
            refine VOps_cons rfl rfl (V_extract rfl rfl ?_)
            refine VOps_cons rfl rfl (V_extract rfl rfl ?_)
            refine VOps_cons rfl rfl (V_alloc VT.zr95 _ rfl rfl (fun g5 => ?_))
            refine VOps_cons rfl rfl (V_store_agg 0 VT.ty95 rfl rfl rfl rfl rfl ?_)
            refine VOps_cons rfl rfl (V_assign rfl ?_)
            refine VOps_nil ?_
            refine Then_n ?_
            refine VW_seq ?_
            refine VW_block ?_
            refine VW_seq ?_
            refine VW_region ?_
            refine VOps_cons rfl rfl (V_move rfl ?_)
            refine VOps_cons rfl rfl (V_not rfl ?_)
            refine VOps_cons rfl rfl (V_assign rfl ?_)
            refine VOps_nil ?_
            refine Then_n ?_
            refine VW_condT rfl (rfl) ?_
            refine VW_seq ?_
            refine VW_region ?_
            refine VOps_cons rfl rfl (V_assign rfl ?_)
            refine VOps_nil ?_
            refine Then_n ?_
            refine VW_ret ?_
            refine InBlock_r (Then_r (VRet_one rfl (.tmp rfl) ?_))
            exact ⟨_, Drops.drop (Drops.drop (Drops.drop (Drops.refl _))), by rw [patF_eq]; simp_all, rfl⟩
          · skip
            refine VOps_cons rfl rfl (V_lookupOk 2 Try.underlying63 (key_str Try.underlying9) VT.zr95 rfl rfl rfl (by rw [kget_tab, ht]; rfl) ?_)
            refine VOps_cons rfl rfl (V_move rfl ?_)
            refine VOps_cons rfl rfl (V_extract rfl rfl ?_)
            refine VOps_cons rfl rfl (V_extract rfl rfl ?_)
            refine VOps_cons rfl rfl (V_alloc VT.zr95 _ rfl rfl (fun g5 => ?_))
            refine VOps_cons rfl rfl (V_store_agg 0 VT.ty95 rfl rfl rfl rfl rfl ?_)
            refine VOps_cons rfl rfl (V_assign rfl ?_)
            refine VOps_nil ?_
            refine Then_n ?_
            refine VW_seq ?_
            refine VW_block ?_
            refine VW_seq ?_
            refine VW_region ?_
            refine VOps_cons rfl rfl (V_move rfl ?_)
            refine VOps_cons rfl rfl (V_not rfl ?_)
            refine VOps_cons rfl rfl (V_assign rfl ?_)
            refine VOps_nil ?_
            refine Then_n ?_
            refine VW_condF rfl (rfl) ?_
            refine VW_seq ?_
            refine VW_region ?_
            refine VOps_cons rfl rfl (V_fieldAddr VT.fa30_3 rfl ?_)
            refine VOps_cons rfl rfl (V_load 1 VT.ty25 rfl rfl rfl ?_)
            refine VOps_cons rfl rfl (V_lenN (n := p.args.length) Try.underlying25 rfl (by simp) (fun hl41 => ?_))
            refine VOps_cons rfl rfl (V_fieldAddr VT.fa95_2 rfl ?_)
            refine VOps_cons rfl rfl (V_load 0 VT.ty3 rfl rfl rfl ?_)
            refine VOps_cons rfl rfl (V_bin rfl rfl rfl ?_)
            refine VOps_cons rfl rfl (V_assign rfl ?_)
            refine VOps_nil ?_
            refine Then_n ?_
            refine VW_condNe rfl (fun h38 => ?_) (fun h38 => ?_)
            · skip
              have h38a : p.args.length ≠ c.2.2 := by omega
              refine VW_seq ?_
              refine VW_region ?_
              refine VOps_cons rfl rfl (V_assign rfl ?_)
              refine VOps_nil ?_
              refine Then_n ?_
              refine VW_ret ?_
              refine InBlock_r (Then_r (VRet_one rfl (.tmp rfl) ?_))
              exact ⟨_, by first | exact Drops.drop (Drops.drop (Drops.refl _)) | exact Drops.drop (Drops.drop (Drops.drop (Drops.refl _))) | exact Drops.drop (Drops.refl _), by first | (rw [patF_eq]; simp_all; done) | (rw [← hq, drop_cons hr, patsF]; simp_all; done) | rw [hq], rfl⟩
            · skip
              have h38a : p.args.length = c.2.2 := by omega
              refine VW_skip ?_
              refine InBlock_n (Then_n ?_)
              refine VW_seq ?_
              refine VW_seq ?_
              refine VW_region ?_
              refine VOps_cons rfl rfl (V_fieldAddr VT.fa30_3 rfl ?_)
              refine VOps_cons rfl rfl (V_load 1 VT.ty25 rfl rfl rfl ?_)
              refine VOps_cons rfl rfl (V_lenN (n := p.args.length) Try.underlying25 rfl (by simp) (fun hl47 => ?_))
              refine VOps_cons rfl rfl (V_move rfl ?_)
              refine VOps_nil ?_
              refine Then_n ?_
              refine VW_block ?_
              refine VW_loopF (ι := Nat) (fun k => p.args.length - k) (fun k => [(2, some (.ptr g2 0)), (46, some (patsX p.args)), (47, some (.int p.args.length)), (48, some (.int k))]) (fun k => [.cells g2 65 [datasX ds, .raw (.map (some g))], tabO g t]) (fun k => k ≤ p.args.length ∧ patsF t (p.args.drop k) = patF t p) 0 ⟨Nat.zero_le _, by rw [patF_eq]; simp_all⟩ ⟨rfl, rfl, rfl, rfl, trivial⟩ (Drops.drop (Drops.drop (Drops.keep (Drops.keep (Drops.refl _))))) ?_
              rintro k hA
              change k ≤ p.args.length ∧ patsF t (p.args.drop k) = patF t p at hA
              obtain ⟨hk, hq⟩ := hA
              refine VW_seq ?_
              refine VW_region ?_
              refine VOps_cons rfl rfl (V_bin rfl rfl rfl ?_)
              refine VOps_nil ?_
              refine Then_n ?_
              refine VW_seq ?_
              refine VW_condP rfl (fun h49 => ?_) (fun h49 => ?_)
              · skip
                obtain ⟨q, hr⟩ := get_of_lt p.args k h49
                refine VW_skip ?_
                refine Then_n ?_
                refine VW_seq ?_
                refine VW_block ?_
                refine VW_seq ?_
                refine VW_region ?_
                refine VOps_cons rfl rfl (V_indexAddr (el := patX q) VT.sl25 rfl rfl (by omega) (get_patS hr) (fun a50 => ?_))
                refine VOps_cons rfl rfl (V_load_ep_agg VT.ty30 rfl rfl ?_)
                refine VOps_cons rfl rfl (V_alloc VT.zr30 _ rfl rfl (fun g8 => ?_))
                refine VOps_cons rfl rfl (V_store_agg 0 VT.ty30 rfl rfl rfl rfl rfl ?_)
                refine VOps_nil ?_
                refine Then_n ?_
                refine VW_seq ?_
                refine VW_region ?_
                refine VOps_cons rfl rfl (V_load_agg 1 VT.ty65 rfl rfl rfl ?_)
                refine VOps_cons rfl rfl (V_load_agg 0 VT.ty30 rfl rfl rfl ?_)
                refine VOps_cons rfl rfl (V_callK 2 [.tmp 52, .tmp 53] rfl rfl VT.en40 rfl (ih q (List.mem_of_getElem? hr)) ?_)
                refine VOps_cons rfl rfl (V_assign rfl ?_)
                refine VOps_nil ?_
                refine Then_n ?_
                refine VW_seq ?_
                refine VW_region ?_
                refine VOps_cons rfl rfl (V_move rfl ?_)
                refine VOps_cons rfl rfl (V_bin rfl rfl rfl ?_)
                refine VOps_nil ?_
                refine Then_n ?_
                refine VW_condNe rfl (fun h56 => ?_) (fun h56 => ?_)
                · skip
                  refine VW_seq ?_
                  refine VW_region ?_
                  refine VOps_cons rfl rfl (V_move rfl ?_)
                  refine VOps_cons rfl rfl (V_assign rfl ?_)
                  refine VOps_nil ?_
                  refine Then_n ?_
                  refine VW_ret ?_
                  refine InBlock_r (Then_r (Then_r (InBlock_r (Then_r (VRet_one rfl (.tmp rfl) ?_)))))
                  exact ⟨_, by first | exact Drops.drop (Drops.drop (Drops.refl _)) | exact Drops.drop (Drops.drop (Drops.drop (Drops.refl _))) | exact Drops.drop (Drops.refl _), by first | (rw [patF_eq]; simp_all; done) | (rw [← hq, drop_cons hr, patsF]; simp_all; done) | rw [hq], rfl⟩
                · skip
                  refine VW_skip ?_
                  refine InBlock_n (Then_n ?_)
                  refine VW_region ?_
                  refine VOps_cons rfl rfl (V_add rfl rfl (by omega) ?_)
                  refine VOps_cons rfl rfl (V_move rfl ?_)
                  refine VOps_nil ?_
                  refine Then_n ?_
                  exact ⟨k + 1, (by (try simp only []); omega), ⟨by omega, by rw [← hq, drop_cons hr, patsF]; simp_all⟩, ⟨rfl, rfl, rfl, rfl, trivial⟩, (Drops.drop (Drops.keep (Drops.keep (Drops.refl _))))⟩
              · skip
                have hke : k = p.args.length := by omega
                subst hke
                rw [List.drop_length, patsF] at hq
                refine VW_exit ?_
                refine Then_e (Then_e (InBlock_hit ?_))
                refine Then_n ?_
                refine VW_seq ?_
                refine VW_region ?_
                refine VOps_cons rfl rfl (V_assign rfl ?_)
                refine VOps_nil ?_
                refine Then_n ?_
                refine VW_ret ?_
                refine VRet_one rfl (.tmp rfl) ?_
                exact ⟨_, by first | exact Drops.drop (Drops.drop (Drops.refl _)) | exact Drops.drop (Drops.drop (Drops.drop (Drops.refl _))) | exact Drops.drop (Drops.refl _), by first | (rw [patF_eq]; simp_all; done) | (rw [← hq, drop_cons hr, patsF]; simp_all; done) | rw [hq], rfl⟩
        · skip
          refine VW_seq ?_
          refine VW_region ?_
          refine VOps_cons rfl rfl (V_assign rfl ?_)
          refine VOps_nil ?_
          refine Then_n ?_
          refine VW_ret ?_
          refine InBlock_r (Then_r (VRet_one rfl (.tmp rfl) ?_))
          exact ⟨_, by first | exact Drops.drop (Drops.drop (Drops.refl _)) | exact Drops.drop (Drops.drop (Drops.drop (Drops.refl _))) | exact Drops.drop (Drops.refl _), by first | (rw [patF_eq]; simp_all; done) | (rw [← hq, drop_cons hr, patsF]; simp_all; done) | rw [hq], rfl⟩
  · skip
    refine VW_region ?_
    refine VOps_cons rfl rfl (V_bin rfl rfl rfl ?_)
    refine VOps_cons rfl rfl (V_assign rfl ?_)
    refine VOps_nil ?_
    refine Then_n ?_
    refine VW_condEq rfl (fun h12 => ?_) (fun h12 => ?_)
    · skip
      refine VW_seq ?_
      refine VW_region ?_
      refine VOps_cons rfl rfl (V_assign rfl ?_)
      refine VOps_nil ?_
      refine Then_n ?_
      refine VW_ret ?_
      refine InBlock_r (Then_r (VRet_one rfl (.tmp rfl) ?_))
      exact ⟨_, by first | exact Drops.drop (Drops.drop (Drops.refl _)) | exact Drops.drop (Drops.drop (Drops.drop (Drops.refl _))) | exact Drops.drop (Drops.refl _), by first | (rw [patF_eq]; simp_all; done) | (rw [← hq, drop_cons hr, patsF]; simp_all; done) | rw [hq], rfl⟩
    · skip
      refine VW_seq ?_
      refine VW_region ?_
      refine VOps_cons rfl rfl (V_bin rfl rfl rfl ?_)
      refine VOps_cons rfl rfl (V_assign rfl ?_)
      refine VOps_nil ?_
      refine Then_n ?_
      refine VW_condEq rfl (fun h15 => ?_) (fun h15 => ?_)
      · skip
        refine VW_seq ?_
        refine VW_seq ?_
        refine VW_region ?_
        refine VOps_cons rfl rfl (V_fieldAddr VT.fa30_2 rfl ?_)
        refine VOps_cons rfl rfl (V_load 0 VT.ty3 rfl rfl rfl ?_)
        refine VOps_cons rfl rfl (V_bin rfl rfl rfl ?_)
        refine VOps_cons rfl rfl (V_move rfl ?_)
        refine VOps_split (q := 20) rfl (fun hq20 => ?_) (fun hq20 => ?_)
        · skip
          refine VOps_skipU (.inl (skip_of rfl rfl rfl hq20)) rfl ?_
          refine VOps_skipU (.inl (skip_of rfl rfl rfl hq20)) rfl ?_
          refine VOps_skipU (.inl (skip_of rfl rfl rfl hq20)) rfl ?_
          refine VOps_cons rfl rfl (V_pickT rfl hq20 rfl ?_)
          refine VOps_nil ?_
          refine Then_n ?_
          refine VW_condT rfl rfl ?_
          refine VW_seq ?_
          refine VW_region ?_
          refine VOps_cons rfl rfl (V_assign rfl ?_)
          refine VOps_nil ?_
          refine Then_n ?_
          refine VW_ret ?_
          refine Then_r (InBlock_r (Then_r (VRet_one rfl (.tmp rfl) ?_)))
          exact ⟨_, by first | exact Drops.drop (Drops.drop (Drops.refl _)) | exact Drops.drop (Drops.drop (Drops.drop (Drops.refl _))) | exact Drops.drop (Drops.refl _), by first | (rw [patF_eq]; simp_all; done) | (rw [← hq, drop_cons hr, patsF]; simp_all; done) | rw [hq], rfl⟩
        · skip
          refine VOps_cons (want_of rfl rfl rfl hq20) rfl (V_fieldAddr VT.fa30_2 rfl ?_)
          refine VOps_cons (want_of rfl rfl rfl hq20) rfl (V_load 0 VT.ty3 rfl rfl rfl ?_)
          refine VOps_cons (want_of rfl rfl rfl hq20) rfl (V_bin rfl rfl rfl ?_)
          refine VOps_cons rfl rfl (V_pickF rfl hq20 rfl ?_)
          refine VOps_nil ?_
          refine Then_n ?_
          refine VW_condP rfl (fun h24 => ?_) (fun h24 => ?_)
          · skip
            refine VW_seq ?_
            refine VW_region ?_
            refine VOps_cons rfl rfl (V_assign rfl ?_)
            refine VOps_nil ?_
            refine Then_n ?_
            refine VW_ret ?_
            refine Then_r (InBlock_r (Then_r (VRet_one rfl (.tmp rfl) ?_)))
            exact ⟨_, by first | exact Drops.drop (Drops.drop (Drops.refl _)) | exact Drops.drop (Drops.drop (Drops.drop (Drops.refl _))) | exact Drops.drop (Drops.refl _), by first | (rw [patF_eq]; simp_all; done) | (rw [← hq, drop_cons hr, patsF]; simp_all; done) | rw [hq], rfl⟩
          · skip
            refine VW_skip ?_
            refine Then_n ?_
            refine VW_seq ?_
            refine VW_region ?_
            refine VOps_cons rfl rfl (V_assign rfl ?_)
            refine VOps_nil ?_
            refine Then_n ?_
            refine VW_ret ?_
            refine InBlock_r (Then_r (VRet_one rfl (.tmp rfl) ?_))
            exact ⟨_, by first | exact Drops.drop (Drops.drop (Drops.refl _)) | exact Drops.drop (Drops.drop (Drops.drop (Drops.refl _))) | exact Drops.drop (Drops.refl _), by first | (rw [patF_eq]; simp_all; done) | (rw [← hq, drop_cons hr, patsF]; simp_all; done) | rw [hq], rfl⟩
      · skip
        refine VW_seq ?_
        refine VW_region ?_
        refine VOps_cons rfl rfl (V_bin rfl rfl rfl ?_)
        refine VOps_cons rfl rfl (V_assign rfl ?_)
        refine VOps_nil ?_
        refine Then_n ?_
        refine VW_condEq rfl (fun h25 => ?_) (fun h25 => ?_)
        · skip
          refine VW_skip ?_
          refine InBlock_n (Then_n ?_)
          refine VW_seq ?_
          refine VW_region ?_
          refine VOps_cons rfl rfl (V_fieldAddr VT.fa65_1 rfl ?_)
          refine VOps_cons rfl rfl (V_load 1 VT.ty63 rfl rfl rfl ?_)
          refine VOps_cons rfl rfl (V_fieldAddr VT.fa30_1 rfl ?_)
          refine VOps_cons rfl rfl (V_load 0 VT.ty9 rfl rfl rfl ?_)
          rcases ht : tget t p.name with _ | c
          · skip
            refine VOps_cons rfl rfl (V_lookupNo 2 (.agg VT.zs95) (fun m => ⟨rfl, _, rfl, by simp [Go.VL.RepL, VT.zs95, Rep]⟩) Try.underlying63 (key_str Try.underlying9) VT.zr95 rfl rfl rfl (by rw [kget_tab, ht]; rfl) ?_)
            refine VOps_cons rfl rfl (V_move rfl ?_)
            refine VOps_cons rfl rfl (V_extract rfl rfl ?_)
            refine VOps_cons rfl rfl (V_extract rfl rfl ?_)
            refine VOps_cons rfl rfl (V_alloc VT.zr95 _ rfl rfl (fun g5 => ?_))
            refine VOps_cons rfl rfl (V_store_agg 0 VT.ty95 rfl rfl rfl rfl rfl ?_)
            refine VOps_cons rfl rfl (V_assign rfl ?_)
            refine VOps_nil ?_
            refine Then_n ?_
            refine VW_seq ?_
            refine VW_block ?_
            refine VW_seq ?_
            refine VW_region ?_
            refine VOps_cons rfl rfl (V_move rfl ?_)
            refine VOps_cons rfl rfl (V_not rfl ?_)
            refine VOps_cons rfl rfl (V_assign rfl ?_)
            refine VOps_nil ?_
            refine Then_n ?_
            refine VW_condT rfl (rfl) ?_
            refine VW_seq ?_
            refine VW_region ?_
            refine VOps_cons rfl rfl (V_assign rfl ?_)
            refine VOps_nil ?_
            refine Then_n ?_
            refine VW_ret ?_
            refine InBlock_r (Then_r (VRet_one rfl (.tmp rfl) ?_))
            exact ⟨_, by first | exact Drops.drop (Drops.drop (Drops.refl _)) | exact Drops.drop (Drops.drop (Drops.drop (Drops.refl _))) | exact Drops.drop (Drops.refl _), by first | (rw [patF_eq]; simp_all; done) | (rw [← hq, drop_cons hr, patsF]; simp_all; done) | rw [hq], rfl⟩
          · skip
            refine VOps_cons rfl rfl (V_lookupOk 2 Try.underlying63 (key_str Try.underlying9) VT.zr95 rfl rfl rfl (by rw [kget_tab, ht]; rfl) ?_)
            refine VOps_cons rfl rfl (V_move rfl ?_)
            refine VOps_cons rfl rfl (V_extract rfl rfl ?_)
            refine VOps_cons rfl rfl (V_extract rfl rfl ?_)
            refine VOps_cons rfl rfl (V_alloc VT.zr95 _ rfl rfl (fun g5 => ?_))
            refine VOps_cons rfl rfl (V_store_agg 0 VT.ty95 rfl rfl rfl rfl rfl ?_)
            refine VOps_cons rfl rfl (V_assign rfl ?_)
            refine VOps_nil ?_
            refine Then_n ?_
            refine VW_seq ?_
            refine VW_block ?_
            refine VW_seq ?_
            refine VW_region ?_
            refine VOps_cons rfl rfl (V_move rfl ?_)
            refine VOps_cons rfl rfl (V_not rfl ?_)
            refine VOps_cons rfl rfl (V_assign rfl ?_)
            refine VOps_nil ?_
            refine Then_n ?_
            refine VW_condF rfl (rfl) ?_
            refine VW_seq ?_
            refine VW_region ?_
            refine VOps_cons rfl rfl (V_fieldAddr VT.fa30_3 rfl ?_)
            refine VOps_cons rfl rfl (V_load 1 VT.ty25 rfl rfl rfl ?_)
            refine VOps_cons rfl rfl (V_lenN (n := p.args.length) Try.underlying25 rfl (by simp) (fun hl41 => ?_))
            refine VOps_cons rfl rfl (V_fieldAddr VT.fa95_2 rfl ?_)
            refine VOps_cons rfl rfl (V_load 0 VT.ty3 rfl rfl rfl ?_)
            refine VOps_cons rfl rfl (V_bin rfl rfl rfl ?_)
            refine VOps_cons rfl rfl (V_assign rfl ?_)
            refine VOps_nil ?_
            refine Then_n ?_
            refine VW_condNe rfl (fun h38 => ?_) (fun h38 => ?_)
            · skip
              have h38a : p.args.length ≠ c.2.2 := by omega
              refine VW_seq ?_
              refine VW_region ?_
              refine VOps_cons rfl rfl (V_assign rfl ?_)
              refine VOps_nil ?_
              refine Then_n ?_
              refine VW_ret ?_
              refine InBlock_r (Then_r (VRet_one rfl (.tmp rfl) ?_))
              exact ⟨_, by first | exact Drops.drop (Drops.drop (Drops.refl _)) | exact Drops.drop (Drops.drop (Drops.drop (Drops.refl _))) | exact Drops.drop (Drops.refl _), by first | (rw [patF_eq]; simp_all; done) | (rw [← hq, drop_cons hr, patsF]; simp_all; done) | rw [hq], rfl⟩
            · skip
              have h38a : p.args.length = c.2.2 := by omega
              refine VW_skip ?_
              refine InBlock_n (Then_n ?_)
              refine VW_seq ?_
              refine VW_seq ?_
              refine VW_region ?_
              refine VOps_cons rfl rfl (V_fieldAddr VT.fa30_3 rfl ?_)
              refine VOps_cons rfl rfl (V_load 1 VT.ty25 rfl rfl rfl ?_)
              refine VOps_cons rfl rfl (V_lenN (n := p.args.length) Try.underlying25 rfl (by simp) (fun hl47 => ?_))
              refine VOps_cons rfl rfl (V_move rfl ?_)
              refine VOps_nil ?_
              refine Then_n ?_
              refine VW_block ?_
              refine VW_loopF (ι := Nat) (fun k => p.args.length - k) (fun k => [(2, some (.ptr g2 0)), (46, some (patsX p.args)), (47, some (.int p.args.length)), (48, some (.int k))]) (fun k => [.cells g2 65 [datasX ds, .raw (.map (some g))], tabO g t]) (fun k => k ≤ p.args.length ∧ patsF t (p.args.drop k) = patF t p) 0 ⟨Nat.zero_le _, by rw [patF_eq]; simp_all⟩ ⟨rfl, rfl, rfl, rfl, trivial⟩ (Drops.drop (Drops.drop (Drops.keep (Drops.keep (Drops.refl _))))) ?_
              rintro k hA
              change k ≤ p.args.length ∧ patsF t (p.args.drop k) = patF t p at hA
              obtain ⟨hk, hq⟩ := hA
              refine VW_seq ?_
              refine VW_region ?_
              refine VOps_cons rfl rfl (V_bin rfl rfl rfl ?_)
              refine VOps_nil ?_
              refine Then_n ?_
              refine VW_seq ?_
              refine VW_condP rfl (fun h49 => ?_) (fun h49 => ?_)
              · skip
                obtain ⟨q, hr⟩ := get_of_lt p.args k h49
                refine VW_skip ?_
                refine Then_n ?_
                refine VW_seq ?_
                refine VW_block ?_
                refine VW_seq ?_
                refine VW_region ?_
                refine VOps_cons rfl rfl (V_indexAddr (el := patX q) VT.sl25 rfl rfl (by omega) (get_patS hr) (fun a50 => ?_))
                refine VOps_cons rfl rfl (V_load_ep_agg VT.ty30 rfl rfl ?_)
                refine VOps_cons rfl rfl (V_alloc VT.zr30 _ rfl rfl (fun g8 => ?_))
                refine VOps_cons rfl rfl (V_store_agg 0 VT.ty30 rfl rfl rfl rfl rfl ?_)
                refine VOps_nil ?_
                refine Then_n ?_
                refine VW_seq ?_
                refine VW_region ?_
                refine VOps_cons rfl rfl (V_load_agg 1 VT.ty65 rfl rfl rfl ?_)
                refine VOps_cons rfl rfl (V_load_agg 0 VT.ty30 rfl rfl rfl ?_)
                refine VOps_cons rfl rfl (V_callK 2 [.tmp 52, .tmp 53] rfl rfl VT.en40 rfl (ih q (List.mem_of_getElem? hr)) ?_)
                refine VOps_cons rfl rfl (V_assign rfl ?_)
                refine VOps_nil ?_
                refine Then_n ?_
                refine VW_seq ?_
                refine VW_region ?_
                refine VOps_cons rfl rfl (V_move rfl ?_)
                refine VOps_cons rfl rfl (V_bin rfl rfl rfl ?_)
                refine VOps_nil ?_
                refine Then_n ?_
                refine VW_condNe rfl (fun h56 => ?_) (fun h56 => ?_)
                · skip
                  refine VW_seq ?_
                  refine VW_region ?_
                  refine VOps_cons rfl rfl (V_move rfl ?_)
                  refine VOps_cons rfl rfl (V_assign rfl ?_)
                  refine VOps_nil ?_
                  refine Then_n ?_
                  refine VW_ret ?_
                  refine InBlock_r (Then_r (Then_r (InBlock_r (Then_r (VRet_one rfl (.tmp rfl) ?_)))))
                  exact ⟨_, by first | exact Drops.drop (Drops.drop (Drops.refl _)) | exact Drops.drop (Drops.drop (Drops.drop (Drops.refl _))) | exact Drops.drop (Drops.refl _), by first | (rw [patF_eq]; simp_all; done) | (rw [← hq, drop_cons hr, patsF]; simp_all; done) | rw [hq], rfl⟩
                · skip
                  refine VW_skip ?_
                  refine InBlock_n (Then_n ?_)
                  refine VW_region ?_
                  refine VOps_cons rfl rfl (V_add rfl rfl (by omega) ?_)
                  refine VOps_cons rfl rfl (V_move rfl ?_)
                  refine VOps_nil ?_
                  refine Then_n ?_
                  exact ⟨k + 1, (by (try simp only []); omega), ⟨by omega, by rw [← hq, drop_cons hr, patsF]; simp_all⟩, ⟨rfl, rfl, rfl, rfl, trivial⟩, (Drops.drop (Drops.keep (Drops.keep (Drops.refl _))))⟩
              · skip
                have hke : k = p.args.length := by omega
                subst hke
                rw [List.drop_length, patsF] at hq
                refine VW_exit ?_
                refine Then_e (Then_e (InBlock_hit ?_))
                refine Then_n ?_
                refine VW_seq ?_
                refine VW_region ?_
                refine VOps_cons rfl rfl (V_assign rfl ?_)
                refine VOps_nil ?_
                refine Then_n ?_
                refine VW_ret ?_
                refine VRet_one rfl (.tmp rfl) ?_
                exact ⟨_, by first | exact Drops.drop (Drops.drop (Drops.refl _)) | exact Drops.drop (Drops.drop (Drops.drop (Drops.refl _))) | exact Drops.drop (Drops.refl _), by first | (rw [patF_eq]; simp_all; done) | (rw [← hq, drop_cons hr, patsF]; simp_all; done) | rw [hq], rfl⟩
        · skip
          refine VW_seq ?_
          refine VW_region ?_
          refine VOps_cons rfl rfl (V_assign rfl ?_)
          refine VOps_nil ?_
          refine Then_n ?_
          refine VW_ret ?_
          refine InBlock_r (Then_r (VRet_one rfl (.tmp rfl) ?_))
          exact ⟨_, by first | exact Drops.drop (Drops.drop (Drops.refl _)) | exact Drops.drop (Drops.drop (Drops.drop (Drops.refl _))) | exact Drops.drop (Drops.refl _), by first | (rw [patF_eq]; simp_all; done) | (rw [← hq, drop_cons hr, patsF]; simp_all; done) | rw [hq], rfl⟩


theorem pattern_c (ds : List DataSig) (t : Tab) (g : Nat) : ∀ (n : Nat) (p : Pat), SizeOf.sizeOf p < n → VKeep Try.prog 40 [tabX ds g, patX p] [tabO g t] (.int (patF t p))
  | 0, p, h => absurd h (Nat.not_lt_zero _)
  | n + 1, p, h => pattern_step ds t g p fun q hq => pattern_c ds t g n q (by have := mem_size hq; omega)

end Go.Proofs.Ytmjeaagpcmfnpaa.W2
