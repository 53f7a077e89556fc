/- Walks, printed by walk.py. -/
import Derived.Test.YtmjeaagpcmfnpaaVT
import Derived.Test.YtmjeaagpcmfnpaaVDA
import Derived.Test.YtmjeaagpcmfnpaaVB
import Derived.Test.YtmjeaagpcmfnpaaW1
import Derived.Test.YtmjeaagpcmfnpaaW2
set_option linter.unusedVariables false
set_option linter.unusedSimpArgs false
namespace Go.Proofs.Ytmjeaagpcmfnpaa.W3
open Go.VL Go.PM Go.Proofs.Ytmjeaagpcmfnpaa Go.Proofs.Ytmjeaagpcmfnpaa.W1 Go.Proofs.Ytmjeaagpcmfnpaa.W2

theorem mem_args_len {p : Pat} : True := trivial
def narrow1 (name : Str) (n : Nat) (p : Pat) (t : List Pat) : List (List Pat) := if free p then [anysL n ++ t] else if p.name = name then [p.args ++ t] else []
theorem narrow_snoc (name : Str) (n : Nat) (l : List (List Pat)) (p : Pat) (tl : List Pat) : narrow name n (l ++ [p :: tl]) = narrow name n l ++ narrow1 name n p tl := by
  unfold narrow narrow1
  rw [List.filterMap_append]
  by_cases hf : free p = true
  · simp [hf]
  · by_cases hn : p.name = name <;> simp [hf, hn]
theorem narrow_len (name : Str) (n : Nat) (rows : List (List Pat)) : (narrow name n rows).length ≤ rows.length := List.length_filterMap_le _ _
theorem cat_two (a b : List Pat) : cat [a, b] = a ++ b := by simp [cat]

set_option maxRecDepth 100000 in
theorem build_c (ds : List DataSig) : VCalls Try.prog 39 [datasX ds] [] fun r S' => (∃ g t, buildF 0 ds [] = some t ∧ r = .tup [tabX ds g, .int 0] ∧ S' = [tabO g t]) ∨ (buildF 0 ds [] = none ∧ r = .tup [.agg VT.zs65, .int 7] ∧ S' = []) := by
  refine VCalls_drops ?_
  refine V_start (nt := 52) Try.func39 rfl rfl rfl ?_
  refine VW_seq ?_
  refine VW_region ?_
  refine VOps_cons rfl rfl (V_alloc VT.zr65 _ rfl rfl (fun g2 => ?_))
  refine VOps_cons rfl rfl (V_assign rfl ?_)
  refine VOps_nil ?_
  refine Then_n ?_
  refine VW_seq ?_
  refine VW_region ?_
  refine VOps_cons rfl rfl (V_move rfl ?_)
  refine VOps_cons rfl rfl (V_makeMap (kv := kstr) (fun g12 => ?_))
  refine VOps_cons rfl rfl (V_build [0, 1] [.tmp 11, .tmp 12] VT.st65 rfl rfl rfl rfl ?_)
  refine VOps_cons rfl rfl (V_alloc VT.zr65 _ rfl rfl (fun g4 => ?_))
  refine VOps_cons rfl rfl (V_store_agg 0 VT.ty65 rfl rfl rfl rfl rfl ?_)
  refine VOps_nil ?_
  refine Then_n ?_
  refine VW_seq ?_
  refine VW_seq ?_
  refine VW_region ?_
  refine VOps_cons rfl rfl (V_move rfl ?_)
  refine VOps_cons rfl rfl (V_lenN (n := ds.length) Try.underlying22 rfl (by simp) (fun hl15 => ?_))
  refine VOps_cons rfl rfl (V_move rfl ?_)
  refine VOps_nil ?_
  refine Then_n ?_
  refine VW_block ?_
  refine VW_loopF (ι := Nat × Tab) (fun (k, t) => ds.length - k) (fun (k, t) => [(2, some (.ptr g2 0)), (4, some (.ptr g4 0)), (14, some (datasX ds)), (15, some (.int ds.length)), (16, some (.int k))]) (fun (k, t) => [.cells g4 65 [datasX ds, .raw (.map (some g12))], tabO g12 t, .cells g2 65 VT.zs65]) (fun (k, t) => k ≤ ds.length ∧ buildF k (ds.drop k) t = buildF 0 ds []) (0, []) ⟨Nat.zero_le _, rfl⟩ ⟨rfl, rfl, rfl, rfl, rfl, trivial⟩ (Drops.keep (Drops.keep (Drops.keep (Drops.refl _)))) ?_
  rintro ⟨k, t⟩ hA
  change k ≤ ds.length ∧ buildF k (ds.drop k) t = buildF 0 ds [] at hA
  obtain ⟨hk, hq⟩ := hA
  refine VW_seq ?_
  refine VW_region ?_
  refine VOps_cons rfl rfl (V_bin rfl rfl rfl ?_)
  refine VOps_nil ?_
  refine Then_n ?_
  refine VW_seq ?_
  refine VW_condP rfl (fun h17 => ?_) (fun h17 => ?_)
  · skip
    obtain ⟨d, hr⟩ := get_of_lt ds k h17
    refine VW_skip ?_
    refine Then_n ?_
    refine VW_seq ?_
    refine VW_block ?_
    refine VW_seq ?_
    refine VW_region ?_
    refine VOps_cons rfl rfl (V_move rfl ?_)
    refine VOps_cons rfl rfl (V_indexAddr (el := dataV d) VT.sl22 rfl rfl (by omega) (get_mapS _ hr) (fun a19 => ?_))
    refine VOps_cons rfl rfl (V_load_ep_agg VT.ty62 rfl rfl ?_)
    refine VOps_cons rfl rfl (V_alloc VT.zr62 _ rfl rfl (fun g6 => ?_))
    refine VOps_cons rfl rfl (V_assign rfl ?_)
    refine VOps_cons rfl rfl (V_store_agg 0 VT.ty62 rfl rfl rfl rfl rfl ?_)
    refine VOps_nil ?_
    refine Then_n ?_
    refine VW_seq ?_
    refine VW_region ?_
    refine VOps_cons rfl rfl (V_fieldAddr VT.fa62_2 rfl ?_)
    refine VOps_cons rfl rfl (V_load 0 VT.ty60 rfl rfl rfl ?_)
    refine VOps_cons rfl rfl (V_lenN (n := d.cons.length) Try.underlying60 rfl (by simp) (fun hl23 => ?_))
    refine VOps_cons rfl rfl (V_move rfl ?_)
    refine VOps_nil ?_
    refine Then_n ?_
    refine VW_block ?_
    refine VW_loopF (ι := Nat × Tab) (fun (n, t1) => d.cons.length - n) (fun (n, t1) => [(2, some (.ptr g2 0)), (4, some (.ptr g4 0)), (5, some (.int k)), (14, some (datasX ds)), (15, some (.int ds.length)), (16, some (.int k)), (22, some (.sl 2 none (d.cons.map conV))), (23, some (.int d.cons.length)), (24, some (.int n))]) (fun (n, t1) => [.cells g4 65 [datasX ds, .raw (.map (some g12))], tabO g12 t1, .cells g2 65 VT.zs65]) (fun (n, t1) => n ≤ d.cons.length ∧ addCons k n (d.cons.drop n) t1 = addCons k 0 d.cons t) (0, t) ⟨Nat.zero_le _, rfl⟩ ⟨rfl, rfl, rfl, rfl, rfl, rfl, rfl, rfl, rfl, trivial⟩ (Drops.drop (Drops.keep (Drops.keep (Drops.keep (Drops.refl _))))) ?_
    rintro ⟨n, t1⟩ hA
    change n ≤ d.cons.length ∧ addCons k n (d.cons.drop n) t1 = addCons k 0 d.cons t at hA
    obtain ⟨hn, hq2⟩ := hA
    refine VW_seq ?_
    refine VW_region ?_
    refine VOps_cons rfl rfl (V_bin rfl rfl rfl ?_)
    refine VOps_nil ?_
    refine Then_n ?_
    refine VW_seq ?_
    refine VW_condP rfl (fun h25 => ?_) (fun h25 => ?_)
    · skip
      obtain ⟨c, hc⟩ := get_of_lt d.cons n h25
      refine VW_skip ?_
      refine Then_n ?_
      refine VW_seq ?_
      refine VW_block ?_
      refine VW_seq ?_
      refine VW_region ?_
      refine VOps_cons rfl rfl (V_move rfl ?_)
      refine VOps_cons rfl rfl (V_indexAddr (el := conV c) VT.sl60 rfl rfl (by omega) (get_mapS _ hc) (fun a27 => ?_))
      refine VOps_cons rfl rfl (V_load_ep_agg VT.ty59 rfl rfl ?_)
      refine VOps_cons rfl rfl (V_alloc VT.zr59 _ rfl rfl (fun g8 => ?_))
      refine VOps_cons rfl rfl (V_assign rfl ?_)
      refine VOps_cons rfl rfl (V_store_agg 0 VT.ty59 rfl rfl rfl rfl rfl ?_)
      refine VOps_nil ?_
      refine Then_n ?_
      refine VW_seq ?_
      refine VW_seq ?_
      refine VW_region ?_
      refine VOps_cons rfl rfl (V_fieldAddr VT.fa65_1 rfl ?_)
      refine VOps_cons rfl rfl (V_load 1 VT.ty63 rfl rfl rfl ?_)
      refine VOps_cons rfl rfl (V_fieldAddr VT.fa59_0 rfl ?_)
      refine VOps_cons rfl rfl (V_load 0 VT.ty9 rfl rfl rfl ?_)
      rcases ht : tget t1 c.name with _ | cc
      · skip
        refine VOps_cons rfl rfl (V_lookupNo 2 (.agg VT.zs95) (fun m => ⟨rfl, _, rfl, by simp [Go.VL.RepL, VT.zs95, Rep]⟩) Try.underlying63 (key_str Try.underlying9) VT.zr95 rfl rfl rfl (by rw [kget_tab, ht]; rfl) ?_)
        refine VOps_cons rfl rfl (V_move rfl ?_)
        refine VOps_cons rfl rfl (V_extract rfl rfl ?_)
        refine VOps_cons rfl rfl (V_extract rfl rfl ?_)
        refine VOps_cons rfl rfl (V_alloc VT.zr95 _ rfl rfl (fun g9 => ?_))
        refine VOps_cons rfl rfl (V_store_agg 0 VT.ty95 rfl rfl rfl rfl rfl ?_)
        refine VOps_cons rfl rfl (V_assign rfl ?_)
        refine VOps_nil ?_
        refine Then_n ?_
        refine VW_seq ?_
        refine VW_region ?_
        refine VOps_cons rfl rfl (V_move rfl ?_)
        refine VOps_nil ?_
        refine Then_n ?_
        refine VW_condF rfl (rfl) ?_
        refine VW_skip ?_
        refine Then_n ?_
        refine VW_region ?_
        refine VOps_cons rfl rfl (V_fieldAddr VT.fa65_1 rfl ?_)
        refine VOps_cons rfl rfl (V_load 2 VT.ty63 rfl rfl rfl ?_)
        refine VOps_cons rfl rfl (V_fieldAddr VT.fa59_0 rfl ?_)
        refine VOps_cons rfl rfl (V_load 1 VT.ty9 rfl rfl rfl ?_)
        refine VOps_cons rfl rfl (V_move rfl ?_)
        refine VOps_cons rfl rfl (V_move rfl ?_)
        refine VOps_cons rfl rfl (V_fieldAddr VT.fa59_1 rfl ?_)
        refine VOps_cons rfl rfl (V_load 1 VT.ty57 rfl rfl rfl ?_)
        refine VOps_cons rfl rfl (V_lenN (n := c.args.length) Try.underlying57 rfl (by simp) (fun hl47 => ?_))
        refine VOps_cons rfl rfl (V_build [0, 1, 2] [.tmp 43, .tmp 44, .tmp 47] VT.st95 rfl rfl rfl rfl ?_)
        refine VOps_cons rfl rfl (V_mapUpdate 3 Try.underlying63 (key_str Try.underlying9) rfl rfl rfl rfl ?_)
        refine VOps_nil ?_
        refine InBlock_n (Then_n ?_)
        refine VW_region ?_
        refine VOps_cons rfl rfl (V_add rfl rfl (by omega) ?_)
        refine VOps_cons rfl rfl (V_move rfl ?_)
        refine VOps_nil ?_
        refine Then_n ?_
        exact ⟨(n + 1, t1 ++ [(c.name, k, n, c.args.length)]), (by (try simp only []); omega), ⟨by omega, by rw [← hq2, drop_cons hc, addCons, ht]⟩, ⟨rfl, rfl, rfl, rfl, rfl, rfl, rfl, rfl, rfl, trivial⟩, (Drops.drop (Drops.drop (Drops.keep (Drops.keepE (congrArg (fun l => Own.map g12 (kmap kstr l)) (kput_tab t1 c.name (k, n, c.args.length) ht)) (Drops.keep (Drops.refl _))))))⟩
      · skip
        refine VOps_cons rfl rfl (V_lookupOk 2 Try.underlying63 (key_str Try.underlying9) VT.zr95 rfl rfl rfl (by rw [kget_tab, ht]; rfl) ?_)
        refine VOps_cons rfl rfl (V_move rfl ?_)
        refine VOps_cons rfl rfl (V_extract rfl rfl ?_)
        refine VOps_cons rfl rfl (V_extract rfl rfl ?_)
        refine VOps_cons rfl rfl (V_alloc VT.zr95 _ rfl rfl (fun g9 => ?_))
        refine VOps_cons rfl rfl (V_store_agg 0 VT.ty95 rfl rfl rfl rfl rfl ?_)
        refine VOps_cons rfl rfl (V_assign rfl ?_)
        refine VOps_nil ?_
        refine Then_n ?_
        refine VW_seq ?_
        refine VW_region ?_
        refine VOps_cons rfl rfl (V_move rfl ?_)
        refine VOps_nil ?_
        refine Then_n ?_
        refine VW_condT rfl (rfl) ?_
        refine VW_seq ?_
        refine VW_region ?_
        refine VOps_cons rfl rfl (V_build [] [] VT.st65 rfl rfl rfl rfl ?_)
        refine VOps_cons rfl rfl (V_store_agg 4 VT.ty65 rfl rfl rfl rfl rfl ?_)
        refine VOps_cons rfl rfl (V_assign rfl ?_)
        refine VOps_nil ?_
        refine Then_n ?_
        refine VW_ret ?_
        refine Then_r (InBlock_r (Then_r (Then_r (InBlock_r (InBlock_r (Then_r (Then_r (InBlock_r (Then_r (VRet_many rfl rfl (.cons (.agg (i := 4) VT.ty65 rfl rfl rfl) (.cons (.tmp rfl) (.nil))) ?_))))))))))
        refine ⟨_, Drops.nil _, .inr ⟨?_, rfl, rfl⟩⟩
        rw [← hq, drop_cons hr, buildF, ← hq2, drop_cons hc, addCons, ht]
    · skip
      have hne : n = d.cons.length := by omega
      subst hne
      rw [List.drop_length, addCons] at hq2
      replace hq2 := hq2.symm
      refine VW_exit ?_
      refine Then_e (Then_e (InBlock_hit ?_))
      refine InBlock_n (Then_n ?_)
      refine VW_region ?_
      refine VOps_cons rfl rfl (V_add rfl rfl (by omega) ?_)
      refine VOps_cons rfl rfl (V_move rfl ?_)
      refine VOps_nil ?_
      refine Then_n ?_
      exact ⟨(k + 1, t1), (by (try simp only []); omega), ⟨by omega, by rw [← hq, drop_cons hr, buildF, hq2]⟩, ⟨rfl, rfl, rfl, rfl, rfl, trivial⟩, (Drops.keep (Drops.keep (Drops.keep (Drops.refl _))))⟩
  · skip
    have hke : k = ds.length := by omega
    subst hke
    rw [List.drop_length, buildF] at hq
    refine VW_exit ?_
    refine Then_e (Then_e (InBlock_hit ?_))
    refine Then_n ?_
    refine VW_seq ?_
    refine VW_region ?_
    refine VOps_cons rfl rfl (V_load_agg 0 VT.ty65 rfl rfl rfl ?_)
    refine VOps_cons rfl rfl (V_store_agg 2 VT.ty65 rfl rfl rfl rfl rfl ?_)
    refine VOps_cons rfl rfl (V_assign rfl ?_)
    refine VOps_nil ?_
    refine Then_n ?_
    refine VW_ret ?_
    refine VRet_many rfl rfl (.cons (.agg (i := 2) VT.ty65 rfl rfl rfl) (.cons (.tmp rfl) (.nil))) ?_
    exact ⟨_, Drops.drop (Drops.keep (Drops.nil _)), .inl ⟨g12, t, hq.symm, rfl, rfl⟩⟩


set_option maxRecDepth 100000 in
theorem narrow_c (rows : List (List Pat)) (name : Str) (n : Nat) (hne : ∀ r ∈ rows, r ≠ []) (hl : rows.length ≤ 1000000) (hr1 : ∀ r ∈ rows, r.length ≤ 500000) (hr2 : ∀ p tl, p :: tl ∈ rows → free p = false → p.args.length ≤ 400) (hn : n ≤ 400) : VPure Try.prog 45 [rowsX rows, .str name, .int n] (rowsX (narrow name n rows)) := by
  refine V_start (nt := 50) Try.func45 rfl rfl rfl ?_
  refine VW_seq ?_
  refine VW_region ?_
  refine VOps_cons rfl rfl (V_assign rfl ?_)
  refine VOps_nil ?_
  refine Then_n ?_
  refine VW_seq ?_
  refine VW_region ?_
  refine VOps_cons rfl rfl (V_assign_nil 25 1 ?_)
  refine VOps_nil ?_
  refine Then_n ?_
  refine VW_seq ?_
  refine VW_seq ?_
  refine VW_region ?_
  refine VOps_cons rfl rfl (V_move rfl ?_)
  refine VOps_cons rfl rfl (V_lenN (n := rows.length) Try.underlying23 rfl (by simp) (fun hl11 => ?_))
  refine VOps_cons rfl rfl (V_move rfl ?_)
  refine VOps_nil ?_
  refine Then_n ?_
  refine VW_block ?_
  refine VW_loopF (ι := Nat × Tok) (fun (k, t) => rows.length - k) (fun (k, t) => [(1, some (.str name)), (2, some (.int n)), (7, some (.sl 1 (some t) ((narrow name n (rows.take k)).map patsX))), (10, some (rowsX rows)), (11, some (.int rows.length)), (12, some (.int k))]) (fun (k, t) => [.buf t 25 1 (narrow name n (rows.take k)).length]) (fun (k, t) => k ≤ rows.length) (0, .nil) (by simp) ⟨rfl, rfl, (by simp [narrow]; rfl), rfl, rfl, rfl, trivial⟩ (Drops.buf (by simp [narrow]) (Drops.refl _)) ?_
  rintro ⟨k, t⟩ hk
  change k ≤ rows.length at hk
  refine VW_seq ?_
  refine VW_region ?_
  refine VOps_cons rfl rfl (V_bin rfl rfl rfl ?_)
  refine VOps_nil ?_
  refine Then_n ?_
  refine VW_seq ?_
  refine VW_condP rfl (fun h13 => ?_) (fun h13 => ?_)
  · skip
    obtain ⟨r, hr⟩ := get_of_lt rows k h13
    obtain ⟨p, tl, rfl⟩ := List.exists_cons_of_ne_nil (hne _ (List.mem_of_getElem? hr))
    have hb1 := hr1 _ (List.mem_of_getElem? hr)
    have hb2 := hr2 p tl (List.mem_of_getElem? hr)
    have hb3 := narrow_len name n (rows.take k)
    rw [List.length_take] at hb3
    rw [List.length_cons] at hb1
    refine VW_skip ?_
    refine Then_n ?_
    refine VW_seq ?_
    refine VW_block ?_
    refine VW_seq ?_
    refine VW_region ?_
    refine VOps_cons rfl rfl (V_indexAddr (el := patsX (p :: tl)) VT.sl23 rfl rfl (by omega) (get_mapS _ hr) (fun a14 => ?_))
    refine VOps_cons rfl rfl (V_load_ep VT.ty25 rfl rfl ?_)
    refine VOps_cons rfl rfl (V_assign rfl ?_)
    refine VOps_nil ?_
    refine Then_n ?_
    refine VW_block ?_
    refine VW_seq ?_
    refine VW_region ?_
    refine VOps_cons rfl rfl (V_move rfl ?_)
    refine VOps_cons rfl rfl (V_indexAddr (el := patX p) VT.sl25 rfl rfl (by omega) (get_patS rfl) (fun a18 => ?_))
    refine VOps_cons rfl rfl (V_load_ep_agg VT.ty30 rfl rfl ?_)
    refine VOps_cons rfl rfl (V_callP [.tmp 19] rfl rfl VT.en48 (free_c _) ?_)
    refine VOps_cons rfl rfl (V_assign rfl ?_)
    refine VOps_nil ?_
    refine Then_n ?_
    refine VW_cond rfl (fun h16 => ?_) (fun h16 => ?_)
    · skip
      refine VW_draw (G := Tok) [([], [7], []), ([], [2], []), ([1], [22], []), ([], [9], []), ([3], [24], []), ([4, 3, 2, 1], [23, 25], []), ([5, 4, 3, 2, 1], [26], []), ([6, 5, 4, 3, 2, 1], [27], []), ([7, 6, 5, 4, 3, 2, 1, 0], [21, 28], [0]), ([8, 7, 6, 5, 4, 3, 2, 1, 0], [29], [0])] [8] (oneSt _ (fun x => [.buf x 25 1 ((narrow name n (rows.take k)).map patsX ++ [patsX (cat [anysL n, tl])]).length])) [7] [7, 21, 22, 23, 24, 25, 26, 27, 28, 29] rfl VT.mix (by kernel_rfl) (by kernel_rfl) ?_
      refine DrawP_consL (acc' := [_]) (eqRes _) (goodS rfl rfl ⟨(fun γ => Needs_f (by kernel_rfl) (fun r7 h7 => Needs_nil (vopT rfl (V_move h7 ⟨rfl, rfl⟩)))), trivial⟩) rfl ?_
      refine DrawP_consL (acc' := [_, _]) (eqRes _) (goodS rfl rfl ⟨(fun γ => Needs_f (by kernel_rfl) (fun r2 h2 => Needs_nil (vopT rfl (V_move h2 ⟨rfl, rfl⟩)))), trivial⟩) rfl ?_
      refine DrawP_consL (acc' := [_, _, _]) (eqRes _) (goodS rfl rfl ⟨(fun γ => Needs_w 1 (by kernel_rfl) rfl (fun r22 h22 => Needs_nil (vopT rfl (V_callP [.tmp 22] rfl (evs_cons h22 evs_nil) VT.en49 (anys_c n (by omega)) ⟨rfl, rfl⟩)))), trivial⟩) rfl ?_
      refine DrawP_consL (acc' := [_, _, _, _]) (eqRes _) (goodS rfl rfl ⟨(fun γ => Needs_f (by kernel_rfl) (fun r9 h9 => Needs_nil (vopT rfl (V_move h9 ⟨rfl, rfl⟩)))), trivial⟩) rfl ?_
      refine DrawP_consL (acc' := [_, _, _, _, _]) (eqRes _) (goodS rfl rfl ⟨(fun γ => Needs_w 3 (by kernel_rfl) rfl (fun r24 h24 => Needs_nil (vopT rfl (V_sliceFrom VT.sl25 h24 rfl (by omega) (by simp; omega) ⟨rfl, rfl⟩)))), trivial⟩) rfl ?_
      refine DrawP_consL (acc' := [_, _, _, _, _, _]) (eqRes _) (goodS rfl rfl ⟨(fun γ => Needs_w 2 (by kernel_rfl) rfl (fun r23 h23 => Needs_w 4 (by kernel_rfl) rfl (fun r25 h25 => Needs_nil (vopT rfl (V_lit [.tmp 23, .tmp 25] VT.sl23 rfl rfl rfl (evs_cons h23 (evs_cons h25 evs_nil)) rfl ⟨rfl, rfl⟩))))), trivial⟩) rfl ?_
      refine DrawP_consL (acc' := [_, _, _, _, _, _, _]) (eqRes _) (goodS rfl rfl ⟨(fun γ => Needs_w 5 (by kernel_rfl) rfl (fun r26 h26 => Needs_nil (vopT rfl (V_callP [.tmp 26] rfl (evs_cons h26 evs_nil) VT.en47 (concat_c [anysL n, tl] (by rw [cat_two]; simp; omega)) ⟨rfl, rfl⟩)))), trivial⟩) rfl ?_
      refine DrawP_consL (acc' := [_, _, _, _, _, _, _, _]) (eqRes _) (goodS rfl rfl ⟨(fun γ => Needs_w 6 (by kernel_rfl) rfl (fun r27 h27 => Needs_nil (vopT rfl (V_lit [.tmp 27] VT.sl23 rfl rfl rfl (evs_cons h27 evs_nil) rfl ⟨rfl, rfl⟩)))), trivial⟩) rfl ?_
      refine DrawP_consL (acc' := [_, _, _, _, _, _, _, _, _]) (oneRes (fun x => .sl 1 (some x) ((narrow name n (rows.take k)).map patsX ++ [patsX (cat [anysL n, tl])]))) (goodU1 rfl (fun γ => Needs_w 0 (by kernel_rfl) rfl (fun r21 h21 => Needs_w 7 (by kernel_rfl) rfl (fun r28 h28 => Needs_nil (vopT rfl (V_appendN 0 _ VT.sl23 h21 h28 rfl (by simp) (by simp; omega) (fun t29 => ⟨t29, ⟨t29, rfl, rfl⟩, rfl⟩))))))) rfl ?_
      refine DrawP_consL (acc' := [_, _, _, _, _, _, _, _, _, _]) (oneRes (fun x => .sl 1 (some x) ((narrow name n (rows.take k)).map patsX ++ [patsX (cat [anysL n, tl])]))) (goodS rfl rfl ⟨(fun γ => Needs_w 8 (by kernel_rfl) rfl (fun r29 h29 => Needs_nil (oneE h29 (fun e29 => vopT rfl (V_assign e29 ⟨⟨_, rfl, rfl⟩, rfl⟩))))), trivial⟩) rfl ?_
      refine DrawP_nil (fun γ => Needs_w 9 (by kernel_rfl) rfl (fun r7 h7 => Needs_nil ?_))
      have e7 : r7 = some _ := oneY h7
      subst e7
      clear h7
      refine InBlock_n (InBlock_n (Then_n ?_))
      refine VW_region ?_
      refine VOps_cons rfl rfl (V_add rfl rfl (by omega) ?_)
      refine VOps_cons rfl rfl (V_move rfl ?_)
      refine VOps_nil ?_
      refine Then_n ?_
      exact ⟨(k + 1, (γ 0)), (by (try simp only []); omega), (by omega), ⟨rfl, rfl, (by rw [take_snoc hr, narrow_snoc]; simp [narrow1, cat_two, *]; try rfl), rfl, rfl, rfl, trivial⟩, (Drops.buf (by rw [take_snoc hr, narrow_snoc]; simp [narrow1, cat_two, *]) (Drops.refl _))⟩
    · skip
      refine VW_seq ?_
      refine VW_region ?_
      refine VOps_cons rfl rfl (V_move rfl ?_)
      refine VOps_cons rfl rfl (V_indexAddr (el := patX p) VT.sl25 rfl rfl (by omega) (get_patS rfl) (fun a32 => ?_))
      refine VOps_cons rfl rfl (V_fieldAddr_ep VT.fa30_1 rfl rfl ?_)
      refine VOps_cons rfl rfl (V_load_ep VT.ty9 rfl rfl ?_)
      refine VOps_cons rfl rfl (V_move rfl ?_)
      refine VOps_cons rfl rfl (V_streq rfl rfl ?_)
      refine VOps_cons rfl rfl (V_assign rfl ?_)
      refine VOps_nil ?_
      refine Then_n ?_
      refine VW_condEq rfl (fun h30 => ?_) (fun h30 => ?_)
      · skip
        refine VW_draw (G := Tok) [([], [7], []), ([], [9], []), ([1], [38], []), ([2, 1], [39], []), ([3, 2, 1], [40], []), ([], [9], []), ([5], [42], []), ([6, 5, 4, 3, 2, 1], [41, 43], []), ([7, 6, 5, 4, 3, 2, 1], [44], []), ([8, 7, 6, 5, 4, 3, 2, 1], [45], []), ([9, 8, 7, 6, 5, 4, 3, 2, 1, 0], [37, 46], [0]), ([10, 9, 8, 7, 6, 5, 4, 3, 2, 1, 0], [47], [0])] [10] (oneSt _ (fun x => [.buf x 25 1 ((narrow name n (rows.take k)).map patsX ++ [patsX (cat [p.args, tl])]).length])) [7] [7, 37, 38, 39, 40, 41, 42, 43, 44, 45, 46, 47] rfl VT.mix (by kernel_rfl) (by kernel_rfl) ?_
        refine DrawP_consL (acc' := [_]) (eqRes _) (goodS rfl rfl ⟨(fun γ => Needs_f (by kernel_rfl) (fun r7 h7 => Needs_nil (vopT rfl (V_move h7 ⟨rfl, rfl⟩)))), trivial⟩) rfl ?_
        refine DrawP_consL (acc' := [_, _]) (eqRes _) (goodS rfl rfl ⟨(fun γ => Needs_f (by kernel_rfl) (fun r9 h9 => Needs_nil (vopT rfl (V_move h9 ⟨rfl, rfl⟩)))), trivial⟩) rfl ?_
        refine DrawP_consL (acc' := [_, _, _]) (epRes _) (goodS rfl rfl ⟨(fun γ => Needs_w 1 (by kernel_rfl) rfl (fun r38 h38 => Needs_nil (vopT rfl (V_indexAddr (el := patX p) VT.sl25 h38 rfl (by omega) (get_patS rfl) (fun a39 => ⟨⟨_, rfl⟩, rfl⟩))))), trivial⟩) rfl ?_
        refine DrawP_consL (acc' := [_, _, _, _]) (epRes _) (goodS rfl rfl ⟨(fun γ => Needs_w 2 (by kernel_rfl) rfl (fun r39 h39 => Needs_nil (epE h39 (fun a_39 e39 => vopT rfl (V_fieldAddr_ep VT.fa30_3 e39 rfl ⟨⟨_, rfl⟩, rfl⟩))))), trivial⟩) rfl ?_
        refine DrawP_consL (acc' := [_, _, _, _, _]) (eqRes _) (goodS rfl rfl ⟨(fun γ => Needs_w 3 (by kernel_rfl) rfl (fun r40 h40 => Needs_nil (epE h40 (fun a_40 e40 => vopT rfl (V_load_ep VT.ty25 e40 rfl ⟨rfl, rfl⟩))))), trivial⟩) rfl ?_
        refine DrawP_consL (acc' := [_, _, _, _, _, _]) (eqRes _) (goodS rfl rfl ⟨(fun γ => Needs_f (by kernel_rfl) (fun r9 h9 => Needs_nil (vopT rfl (V_move h9 ⟨rfl, rfl⟩)))), trivial⟩) rfl ?_
        refine DrawP_consL (acc' := [_, _, _, _, _, _, _]) (eqRes _) (goodS rfl rfl ⟨(fun γ => Needs_w 5 (by kernel_rfl) rfl (fun r42 h42 => Needs_nil (vopT rfl (V_sliceFrom VT.sl25 h42 rfl (by omega) (by simp; omega) ⟨rfl, rfl⟩)))), trivial⟩) rfl ?_
        refine DrawP_consL (acc' := [_, _, _, _, _, _, _, _]) (eqRes _) (goodS rfl rfl ⟨(fun γ => Needs_w 4 (by kernel_rfl) rfl (fun r41 h41 => Needs_w 6 (by kernel_rfl) rfl (fun r43 h43 => Needs_nil (vopT rfl (V_lit [.tmp 41, .tmp 43] VT.sl23 rfl rfl rfl (evs_cons h41 (evs_cons h43 evs_nil)) rfl ⟨rfl, rfl⟩))))), trivial⟩) rfl ?_
        refine DrawP_consL (acc' := [_, _, _, _, _, _, _, _, _]) (eqRes _) (goodS rfl rfl ⟨(fun γ => Needs_w 7 (by kernel_rfl) rfl (fun r44 h44 => Needs_nil (vopT rfl (V_callP [.tmp 44] rfl (evs_cons h44 evs_nil) VT.en47 (concat_c [p.args, tl] (by have := hb2 h16; rw [cat_two]; simp; omega)) ⟨rfl, rfl⟩)))), trivial⟩) rfl ?_
        refine DrawP_consL (acc' := [_, _, _, _, _, _, _, _, _, _]) (eqRes _) (goodS rfl rfl ⟨(fun γ => Needs_w 8 (by kernel_rfl) rfl (fun r45 h45 => Needs_nil (vopT rfl (V_lit [.tmp 45] VT.sl23 rfl rfl rfl (evs_cons h45 evs_nil) rfl ⟨rfl, rfl⟩)))), trivial⟩) rfl ?_
        refine DrawP_consL (acc' := [_, _, _, _, _, _, _, _, _, _, _]) (oneRes (fun x => .sl 1 (some x) ((narrow name n (rows.take k)).map patsX ++ [patsX (cat [p.args, tl])]))) (goodU1 rfl (fun γ => Needs_w 0 (by kernel_rfl) rfl (fun r37 h37 => Needs_w 9 (by kernel_rfl) rfl (fun r46 h46 => Needs_nil (vopT rfl (V_appendN 0 _ VT.sl23 h37 h46 rfl (by simp) (by simp; omega) (fun t47 => ⟨t47, ⟨t47, rfl, rfl⟩, rfl⟩))))))) rfl ?_
        refine DrawP_consL (acc' := [_, _, _, _, _, _, _, _, _, _, _, _]) (oneRes (fun x => .sl 1 (some x) ((narrow name n (rows.take k)).map patsX ++ [patsX (cat [p.args, tl])]))) (goodS rfl rfl ⟨(fun γ => Needs_w 10 (by kernel_rfl) rfl (fun r47 h47 => Needs_nil (oneE h47 (fun e47 => vopT rfl (V_assign e47 ⟨⟨_, rfl, rfl⟩, rfl⟩))))), trivial⟩) rfl ?_
        refine DrawP_nil (fun γ => Needs_w 11 (by kernel_rfl) rfl (fun r7 h7 => Needs_nil ?_))
        have e7 : r7 = some _ := oneY h7
        subst e7
        clear h7
        refine InBlock_n (InBlock_n (Then_n ?_))
        refine VW_region ?_
        refine VOps_cons rfl rfl (V_add rfl rfl (by omega) ?_)
        refine VOps_cons rfl rfl (V_move rfl ?_)
        refine VOps_nil ?_
        refine Then_n ?_
        exact ⟨(k + 1, (γ 0)), (by (try simp only []); omega), (by omega), ⟨rfl, rfl, (by rw [take_snoc hr, narrow_snoc]; simp [narrow1, cat_two, *]; try rfl), rfl, rfl, rfl, trivial⟩, (Drops.buf (by rw [take_snoc hr, narrow_snoc]; simp [narrow1, cat_two, *]) (Drops.refl _))⟩
      · skip
        refine VW_skip ?_
        refine InBlock_n (InBlock_n (Then_n ?_))
        refine VW_region ?_
        refine VOps_cons rfl rfl (V_add rfl rfl (by omega) ?_)
        refine VOps_cons rfl rfl (V_move rfl ?_)
        refine VOps_nil ?_
        refine Then_n ?_
        exact ⟨(k + 1, t), (by (try simp only []); omega), (by omega), ⟨rfl, rfl, (by rw [take_snoc hr, narrow_snoc]; simp [narrow1, cat_two, *]; try rfl), rfl, rfl, rfl, trivial⟩, (Drops.buf (by rw [take_snoc hr, narrow_snoc]; simp [narrow1, cat_two, *]) (Drops.refl _))⟩
  · skip
    refine VW_exit ?_
    refine Then_e (Then_e (InBlock_hit ?_))
    refine Then_n ?_
    refine VW_seq ?_
    refine VW_region ?_
    refine VOps_cons rfl rfl (V_move rfl ?_)
    refine VOps_cons rfl rfl (V_assign rfl ?_)
    refine VOps_nil ?_
    refine Then_n ?_
    refine VW_ret ?_
    refine VRet_one rfl (.strip rfl) ?_
    rw [take_end h13]


end Go.Proofs.Ytmjeaagpcmfnpaa.W3
