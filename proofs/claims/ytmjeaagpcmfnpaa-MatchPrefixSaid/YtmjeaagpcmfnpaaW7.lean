/- Walks, printed by walk.py. -/
import Derived.Test.YtmjeaagpcmfnpaaVT
import Derived.Test.YtmjeaagpcmfnpaaVDA
import Derived.Test.YtmjeaagpcmfnpaaVB
import Derived.Test.YtmjeaagpcmfnpaaW1
import Derived.Test.YtmjeaagpcmfnpaaW2
import Derived.Test.YtmjeaagpcmfnpaaW3
import Derived.Test.YtmjeaagpcmfnpaaW4
set_option linter.unusedVariables false
set_option linter.unusedSimpArgs false
namespace Go.Proofs.Ytmjeaagpcmfnpaa.W7
open Go.VL Go.PM Go.Proofs.Ytmjeaagpcmfnpaa Go.Proofs.Ytmjeaagpcmfnpaa.W1 Go.Proofs.Ytmjeaagpcmfnpaa.W2 Go.Proofs.Ytmjeaagpcmfnpaa.W3 Go.Proofs.Ytmjeaagpcmfnpaa.W4

theorem agree_false {t : Tab} {f : Nat} {l m : List Pat} (hm : m = l.filter nf) (h : agreeLoop (agreeF t f) m [] m = false) : agreeF t (f + 1) l = false := by
  subst hm
  rw [agreeF, h, Bool.and_false]
theorem take_mapX (l : List Pat) (n : Nat) : V.sl 4 none ((l.map patV).take n) = patsX (l.take n) := by rw [patsX, List.map_take]

set_option maxRecDepth 100000 in
set_option maxHeartbeats 4000000 in
theorem agree_step (ds : List DataSig) (t : Tab) (g : Nat) (f : Nat) (ih : ∀ l, AgreePre t f l → VKeep Try.prog 41 [tabX ds g, patsX l] [tabO g t] (.bool (agreeF t f l))) (l : List Pat) (hp : AgreePre t (f + 1) l) : VKeep Try.prog 41 [tabX ds g, patsX l] [tabO g t] (.bool (agreeF t (f + 1) l)) := by
  have hne := hp.ne
  have hl := hp.len
  have hfil := List.length_filter_le nf l
  refine VCalls_drops ?_
  refine V_start (nt := 79) Try.func41 rfl rfl rfl ?_
  refine VW_seq ?_
  refine VW_region ?_
  refine VOps_cons rfl rfl (V_box rfl rfl (fun g2 => ?_))
  refine VOps_cons rfl rfl (V_assign rfl ?_)
  refine VOps_nil ?_
  refine Then_n ?_
  refine VW_seq ?_
  refine VW_region ?_
  refine VOps_cons rfl rfl (V_move rfl ?_)
  refine VOps_cons rfl rfl (V_call [.tmp 13] [] _ rfl rfl VT.en46 (.refl _) (cloneRow_c l hne (by omega)) ?_)
  rintro r Sa ⟨g0, cap0, rest0, hc0, hm0, rfl, rfl⟩
  refine VOps_cons rfl rfl (V_call [.tmp 14, .func 48] [_] _ rfl rfl VT.en73 (perm_erase (i := 0) rfl) (delete_c l rest0 g0 cap0 (by omega) hc0) ?_)
  rintro r Sa ⟨rest1, rfl, rfl⟩
  refine VOps_cons rfl rfl (V_assign rfl ?_)
  refine VOps_nil ?_
  refine Then_n ?_
  refine VW_freeze 0 (q := 1) ((l.filter nf).map patV) rfl rfl rfl (by simp) (by omega) hm0 (pats_fits _) ?_
  generalize hm : l.filter nf = m at hfil
  have hok : ∀ p ∈ m, patF t p = 0 := fun p h => hp.ok p (nf_mem (hm ▸ h)).1
  have hnf : ∀ p ∈ m, free p = false := fun p h => (nf_mem (hm ▸ h)).2
  refine VW_seq ?_
  refine VW_seq ?_
  refine VW_region ?_
  refine VOps_cons rfl rfl (V_move rfl ?_)
  refine VOps_cons rfl rfl (V_lenN (n := m.length) Try.underlying25 rfl (by simp) (fun hl17 => ?_))
  refine VOps_cons rfl rfl (V_move rfl ?_)
  refine VOps_nil ?_
  refine Then_n ?_
  refine VW_block ?_
  refine VW_loopF (ι := Nat) (fun k => m.length - k) (fun k => [(1, some (patsX m)), (2, some (.ptr g2 0)), (16, some (patsX m)), (17, some (.int m.length)), (18, some (.int k))]) (fun k => [.cells g2 65 [datasX ds, .raw (.map (some g))], tabO g t]) (fun k => k ≤ m.length ∧ (m.take k).all (fun p => decide (kindF t p = kindF t (m.headD anyP))) = true) 0 ⟨Nat.zero_le _, rfl⟩ ⟨rfl, rfl, rfl, rfl, rfl, trivial⟩ (Drops.keep (Drops.keep (Drops.refl _))) ?_
  rintro k hA
  change k ≤ m.length ∧ (m.take k).all (fun p => decide (kindF t p = kindF t (m.headD anyP))) = true at hA
  obtain ⟨hk, hall⟩ := hA
  refine VW_seq ?_
  refine VW_region ?_
  refine VOps_cons rfl rfl (V_bin rfl rfl rfl ?_)
  refine VOps_nil ?_
  refine Then_n ?_
  refine VW_seq ?_
  refine VW_condP rfl (fun h19 => ?_) (fun h19 => ?_)
  · skip
    obtain ⟨p, hr⟩ := get_of_lt m k h19
    obtain ⟨p0, l0, hm0⟩ : ∃ p0 l0, m = p0 :: l0 := by cases m with | nil => simp at hr | cons a b => exact ⟨a, b, rfl⟩
    have hhd : m.headD anyP = p0 := by rw [hm0]; rfl
    refine VW_skip ?_
    refine Then_n ?_
    refine VW_seq ?_
    refine VW_block ?_
    refine VW_seq ?_
    refine VW_region ?_
    refine VOps_cons rfl rfl (V_indexAddr (el := patX p) VT.sl25 rfl rfl (by omega) (get_patS hr) (fun a20 => ?_))
    refine VOps_cons rfl rfl (V_load_ep_agg VT.ty30 rfl rfl ?_)
    refine VOps_cons rfl rfl (V_alloc VT.zr30 _ rfl rfl (fun g6 => ?_))
    refine VOps_cons rfl rfl (V_store_agg 0 VT.ty30 rfl rfl rfl rfl rfl ?_)
    refine VOps_nil ?_
    refine Then_n ?_
    refine VW_seq ?_
    refine VW_draw (G := Unit) [([], [2], []), ([], [6], []), ([1, 0], [22, 23], []), ([], [2], []), ([], [1], []), ([4], [26], []), ([5, 4], [27], []), ([6, 5, 4, 3, 2, 1, 0], [25, 28], []), ([7, 6, 5, 4, 3, 2, 1, 0], [24, 29], [])] [] (constSt _) [30] [22, 23, 24, 25, 26, 27, 28, 29, 30] rfl VT.mix (by kernel_rfl) (by kernel_rfl) ?_
    refine DrawP_consL (acc' := [_]) (eqRes _) (good0 (fun γ => Needs_f (by kernel_rfl) (fun r2 h2 => Needs_nil (vopT rfl (V_load_agg 1 VT.ty65 h2 rfl rfl ⟨rfl, rfl⟩))))) rfl ?_
    refine DrawP_consL (acc' := [_, _]) (eqRes _) (good0 (fun γ => Needs_f (by kernel_rfl) (fun r6 h6 => Needs_nil (vopT rfl (V_load_agg 0 VT.ty30 h6 rfl rfl ⟨rfl, rfl⟩))))) rfl ?_
    refine DrawP_consL (acc' := [_, _, _]) (eqRes _) (good0 (fun γ => Needs_w 0 (by kernel_rfl) rfl (fun r22 h22 => Needs_w 1 (by kernel_rfl) rfl (fun r23 h23 => Needs_nil (vopT rfl (V_callK 2 [.tmp 22, .tmp 23] rfl (evs_cons h22 (evs_cons h23 evs_nil)) VT.en74 rfl (kind_c ds t g p) ⟨rfl, rfl⟩)))))) rfl ?_
    refine DrawP_consL (acc' := [_, _, _, _]) (eqRes _) (good0 (fun γ => Needs_f (by kernel_rfl) (fun r2 h2 => Needs_nil (vopT rfl (V_load_agg 1 VT.ty65 h2 rfl rfl ⟨rfl, rfl⟩))))) rfl ?_
    refine DrawP_consL (acc' := [_, _, _, _, _]) (eqRes _) (good0 (fun γ => Needs_f (by kernel_rfl) (fun r1 h1 => Needs_nil (vopT rfl (V_move h1 ⟨rfl, rfl⟩))))) rfl ?_
    refine DrawP_consL (acc' := [_, _, _, _, _, _]) (epRes _) (good0 (fun γ => Needs_w 4 (by kernel_rfl) rfl (fun r26 h26 => Needs_nil (vopT rfl (V_indexAddr (el := patX p0) VT.sl25 h26 rfl (by omega) (by rw [hm0]; exact get_patS rfl) (fun a27 => ⟨⟨_, rfl⟩, rfl⟩)))))) rfl ?_
    refine DrawP_consL (acc' := [_, _, _, _, _, _, _]) (eqRes _) (good0 (fun γ => Needs_w 5 (by kernel_rfl) rfl (fun r27 h27 => Needs_nil (epE h27 (fun a_27 e27 => vopT rfl (V_load_ep_agg VT.ty30 e27 rfl ⟨rfl, rfl⟩)))))) rfl ?_
    refine DrawP_consL (acc' := [_, _, _, _, _, _, _, _]) (eqRes _) (good0 (fun γ => Needs_w 3 (by kernel_rfl) rfl (fun r25 h25 => Needs_w 6 (by kernel_rfl) rfl (fun r28 h28 => Needs_nil (vopT rfl (V_callK 2 [.tmp 25, .tmp 28] rfl (evs_cons h25 (evs_cons h28 evs_nil)) VT.en74 rfl (kind_c ds t g p0) ⟨rfl, rfl⟩)))))) rfl ?_
    refine DrawP_consL (acc' := [_, _, _, _, _, _, _, _, _]) (eqRes _) (good0 (fun γ => Needs_w 2 (by kernel_rfl) rfl (fun r24 h24 => Needs_w 7 (by kernel_rfl) rfl (fun r29 h29 => Needs_nil (vopT rfl (V_bin h24 h29 rfl ⟨rfl, rfl⟩)))))) rfl ?_
    refine DrawP_nil (fun γ => Needs_w 8 (by kernel_rfl) rfl (fun r30 h30 => Needs_nil ?_))
    have e30 : r30 = some _ := h30
    subst e30
    clear h30
    refine Then_n ?_
    refine VW_condNe rfl (fun h30 => ?_) (fun h30 => ?_)
    · skip
      rw [← hhd] at h30
      refine VW_seq ?_
      refine VW_region ?_
      refine VOps_cons rfl rfl (V_assign rfl ?_)
      refine VOps_nil ?_
      refine Then_n ?_
      refine VW_ret ?_
      refine InBlock_r (Then_r (Then_r (InBlock_r (Then_r (VRet_one rfl (.tmp rfl) ?_)))))
      refine ⟨_, Drops.drop (Drops.drop (Drops.refl _)), ?_, rfl⟩
      rw [agreeF, hm, sameKind_no hr h30, Bool.false_and]
    · skip
      rw [← hhd] at h30
      refine VW_skip ?_
      refine InBlock_n (Then_n ?_)
      refine VW_region ?_
      refine VOps_cons rfl rfl (V_add rfl rfl (by omega) ?_)
      refine VOps_cons rfl rfl (V_move rfl ?_)
      refine VOps_nil ?_
      refine Then_n ?_
      exact ⟨k + 1, (by (try simp only []); omega), ⟨by omega, all_snoc hr hall (by simpa using h30)⟩, ⟨rfl, rfl, rfl, rfl, rfl, trivial⟩, (Drops.drop (Drops.keep (Drops.keep (Drops.refl _))))⟩
  · skip
    have hke : k = m.length := by omega
    subst hke
    rw [List.take_length] at hall
    have hsk : sameKind t m = true := hall
    refine VW_exit ?_
    refine Then_e (Then_e (InBlock_hit ?_))
    refine Then_n ?_
    refine VW_seq ?_
    refine VW_seq ?_
    refine VW_region ?_
    refine VOps_cons rfl rfl (V_move rfl ?_)
    refine VOps_cons rfl rfl (V_lenN (n := m.length) Try.underlying25 rfl (by simp) (fun hl33 => ?_))
    refine VOps_cons rfl rfl (V_move rfl ?_)
    refine VOps_nil ?_
    refine Then_n ?_
    refine VW_block ?_
    refine VW_loopF (ι := Nat) (fun j => m.length - j) (fun j => [(1, some (patsX m)), (2, some (.ptr g2 0)), (32, some (patsX m)), (33, some (.int m.length)), (34, some (.int j))]) (fun j => [.cells g2 65 [datasX ds, .raw (.map (some g))], tabO g t]) (fun j => j ≤ m.length ∧ agreeLoop (agreeF t f) m (m.take j) (m.drop j) = agreeLoop (agreeF t f) m [] m) 0 ⟨Nat.zero_le _, rfl⟩ ⟨rfl, rfl, rfl, rfl, rfl, trivial⟩ (Drops.keep (Drops.keep (Drops.refl _))) ?_
    rintro j hA
    change j ≤ m.length ∧ agreeLoop (agreeF t f) m (m.take j) (m.drop j) = agreeLoop (agreeF t f) m [] m at hA
    obtain ⟨hj, hq⟩ := hA
    refine VW_seq ?_
    refine VW_region ?_
    refine VOps_cons rfl rfl (V_bin rfl rfl rfl ?_)
    refine VOps_nil ?_
    refine Then_n ?_
    refine VW_seq ?_
    refine VW_condP rfl (fun h35 => ?_) (fun h35 => ?_)
    · skip
      obtain ⟨p, hr⟩ := get_of_lt m j h35
      have hpm := List.mem_of_getElem? hr
      refine VW_skip ?_
      refine Then_n ?_
      refine VW_seq ?_
      refine VW_block ?_
      refine VW_seq ?_
      refine VW_region ?_
      refine VOps_cons rfl rfl (V_move rfl ?_)
      refine VOps_cons rfl rfl (V_indexAddr (el := patX p) VT.sl25 rfl rfl (by omega) (get_patS hr) (fun a37 => ?_))
      refine VOps_cons rfl rfl (V_load_ep_agg VT.ty30 rfl rfl ?_)
      refine VOps_cons rfl rfl (V_alloc VT.zr30 _ rfl rfl (fun g8 => ?_))
      refine VOps_cons rfl rfl (V_assign rfl ?_)
      refine VOps_cons rfl rfl (V_store_agg 0 VT.ty30 rfl rfl rfl rfl rfl ?_)
      refine VOps_nil ?_
      refine Then_n ?_
      refine VW_seq ?_
      refine VW_seq ?_
      refine VW_region ?_
      refine VOps_cons rfl rfl (V_move rfl ?_)
      refine VOps_cons rfl rfl (V_move rfl ?_)
      refine VOps_cons rfl rfl (VOp_as (V_sliceTo VT.sl25 rfl rfl (by omega) (by simp; omega) ⟨rfl, rfl⟩) (V.le.of_eq (take_mapX m j)) ?_)
      refine VOps_cons rfl rfl (V_makeFunc [.tmp 8] rfl rfl ?_)
      refine VOps_cons rfl rfl (V_callK 0 [.tmp 41, .tmp 42] rfl rfl VT.en75 rfl (patAnyK_c (p := fun q => decide (q.name = p.name)) VT.en76 (fun q _ => agree1_c q p g8)) ?_)
      refine VOps_nil ?_
      refine Then_n ?_
      refine VW_cond rfl (fun h43 => ?_) (fun h43 => ?_)
      · skip
        have hstep : agreeLoop (agreeF t f) m (m.take (j + 1)) (m.drop (j + 1)) = agreeLoop (agreeF t f) m [] m := by rw [← hq, drop_cons hr, agreeLoop, take_snoc hr, h43]; simp
        refine VW_exit ?_
        refine Then_e (InBlock_hit ?_)
        refine Then_n ?_
        refine VW_region ?_
        refine VOps_cons rfl rfl (V_add rfl rfl (by omega) ?_)
        refine VOps_cons rfl rfl (V_move rfl ?_)
        refine VOps_nil ?_
        refine Then_n ?_
        exact ⟨j + 1, (by (try simp only []); omega), ⟨by omega, hstep⟩, ⟨rfl, rfl, rfl, rfl, rfl, trivial⟩, (Drops.drop (Drops.keep (Drops.keep (Drops.refl _))))⟩
      · skip
        refine VW_skip ?_
        refine Then_n ?_
        refine VW_seq ?_
        refine VW_seq ?_
        refine VW_region ?_
        refine VOps_cons rfl rfl (V_fieldAddr VT.fa30_0 rfl ?_)
        refine VOps_cons rfl rfl (V_load 0 VT.ty3 rfl rfl rfl ?_)
        refine VOps_cons rfl rfl (V_bin rfl rfl rfl ?_)
        refine VOps_nil ?_
        refine Then_n ?_
        refine VW_condNe rfl (fun h46 => ?_) (fun h46 => ?_)
        · skip
          have h46a : decide (p.kind ≠ 3) = true := by simpa using h46
          have hstep : agreeLoop (agreeF t f) m (m.take (j + 1)) (m.drop (j + 1)) = agreeLoop (agreeF t f) m [] m := by rw [← hq, drop_cons hr, agreeLoop, take_snoc hr, h46a]; simp
          refine VW_exit ?_
          refine Then_e (InBlock_hit ?_)
          refine Then_n ?_
          refine VW_region ?_
          refine VOps_cons rfl rfl (V_add rfl rfl (by omega) ?_)
          refine VOps_cons rfl rfl (V_move rfl ?_)
          refine VOps_nil ?_
          refine Then_n ?_
          exact ⟨j + 1, (by (try simp only []); omega), ⟨by omega, hstep⟩, ⟨rfl, rfl, rfl, rfl, rfl, trivial⟩, (Drops.drop (Drops.keep (Drops.keep (Drops.refl _))))⟩
        · skip
          have hargs : ∀ q ∈ m, q.name = p.name → q.args.length = p.args.length := fun q hq1 hq2 => (same_args hsk hok hnf hpm hq1 h46 hq2).2.1
          refine VW_skip ?_
          refine Then_n ?_
          refine VW_seq ?_
          refine VW_region ?_
          refine VOps_cons rfl rfl (V_fieldAddr VT.fa30_3 rfl ?_)
          refine VOps_cons rfl rfl (V_load 0 VT.ty25 rfl rfl rfl ?_)
          refine VOps_cons rfl rfl (V_lenN (n := p.args.length) Try.underlying25 rfl (by simp) (fun hl49 => ?_))
          refine VOps_cons rfl rfl (V_move rfl ?_)
          refine VOps_nil ?_
          refine Then_n ?_
          refine VW_block ?_
          refine VW_loopF (ι := Nat) (fun n => p.args.length - n) (fun n => [(1, some (patsX m)), (2, some (.ptr g2 0)), (8, some (.ptr g8 0)), (32, some (patsX m)), (33, some (.int m.length)), (34, some (.int j)), (49, some (.int p.args.length)), (50, some (.int n))]) (fun n => [.cells g8 30 [.int p.kind, .str p.name, .int p.n, patsX p.args], .cells g2 65 [datasX ds, .raw (.map (some g))], tabO g t]) (fun n => n ≤ p.args.length ∧ agreeArgs (agreeF t f) m p.name n (p.args.length - n) = agreeArgs (agreeF t f) m p.name 0 p.args.length) 0 ⟨Nat.zero_le _, rfl⟩ ⟨rfl, rfl, rfl, rfl, rfl, rfl, rfl, rfl, trivial⟩ (Drops.keep (Drops.keep (Drops.keep (Drops.refl _)))) ?_
          rintro n hA
          change n ≤ p.args.length ∧ agreeArgs (agreeF t f) m p.name n (p.args.length - n) = agreeArgs (agreeF t f) m p.name 0 p.args.length at hA
          obtain ⟨hn, hqa⟩ := hA
          refine VW_seq ?_
          refine VW_region ?_
          refine VOps_cons rfl rfl (V_bin rfl rfl rfl ?_)
          refine VOps_nil ?_
          refine Then_n ?_
          refine VW_seq ?_
          refine VW_condP rfl (fun h51 => ?_) (fun h51 => ?_)
          · skip
            have hpre2 := hp.below hm.symm hsk hpm h46 (n := n) (by omega)
            refine VW_skip ?_
            refine Then_n ?_
            refine VW_seq ?_
            refine VW_block ?_
            refine VW_seq ?_
            refine VW_region ?_
            refine VOps_cons rfl rfl (V_move rfl ?_)
            refine VOps_cons rfl rfl (V_assign rfl ?_)
            refine VOps_nil ?_
            refine Then_n ?_
            refine VW_seq ?_
            refine VW_region ?_
            refine VOps_cons rfl rfl (V_assign_nil 30 4 ?_)
            refine VOps_nil ?_
            refine Then_n ?_
            refine VW_seq ?_
            refine VW_seq ?_
            refine VW_region ?_
            refine VOps_cons rfl rfl (V_move rfl ?_)
            refine VOps_cons rfl rfl (V_lenN (n := m.length) Try.underlying25 rfl (by simp) (fun hl54 => ?_))
            refine VOps_cons rfl rfl (V_move rfl ?_)
            refine VOps_nil ?_
            refine Then_n ?_
            refine VW_block ?_
            refine VW_loopF (ι := Nat × Tok) (fun (i, tk) => m.length - i) (fun (i, tk) => [(1, some (patsX m)), (2, some (.ptr g2 0)), (8, some (.ptr g8 0)), (9, some (.int n)), (10, some (.sl 4 (some tk) ((belowF (m.take i) p.name n).map patV))), (32, some (patsX m)), (33, some (.int m.length)), (34, some (.int j)), (49, some (.int p.args.length)), (50, some (.int n)), (53, some (patsX m)), (54, some (.int m.length)), (55, some (.int i))]) (fun (i, tk) => [.buf tk 30 4 (belowF (m.take i) p.name n).length, .cells g8 30 [.int p.kind, .str p.name, .int p.n, patsX p.args], .cells g2 65 [datasX ds, .raw (.map (some g))], tabO g t]) (fun (i, tk) => i ≤ m.length) (0, .nil) (by simp) ⟨rfl, rfl, rfl, rfl, (by simp [belowF]; rfl), rfl, rfl, rfl, rfl, rfl, rfl, rfl, rfl, trivial⟩ (Drops.buf (by simp [belowF]) (Drops.keep (Drops.keep (Drops.keep (Drops.refl _))))) ?_
            rintro ⟨i, tk⟩ hi
            change i ≤ m.length at hi
            refine VW_seq ?_
            refine VW_region ?_
            refine VOps_cons rfl rfl (V_bin rfl rfl rfl ?_)
            refine VOps_nil ?_
            refine Then_n ?_
            refine VW_seq ?_
            refine VW_condP rfl (fun h56 => ?_) (fun h56 => ?_)
            · skip
              obtain ⟨q, hqi⟩ := get_of_lt m i h56
              refine VW_skip ?_
              refine Then_n ?_
              refine VW_seq ?_
              refine VW_block ?_
              refine VW_seq ?_
              refine VW_region ?_
              refine VOps_cons rfl rfl (V_indexAddr (el := patX q) VT.sl25 rfl rfl (by omega) (get_patS hqi) (fun a57 => ?_))
              refine VOps_cons rfl rfl (V_load_ep_agg VT.ty30 rfl rfl ?_)
              refine VOps_cons rfl rfl (V_alloc VT.zr30 _ rfl rfl (fun g12 => ?_))
              refine VOps_cons rfl rfl (V_store_agg 0 VT.ty30 rfl rfl rfl rfl rfl ?_)
              refine VOps_nil ?_
              refine Then_n ?_
              refine VW_seq ?_
              refine VW_region ?_
              refine VOps_cons rfl rfl (V_fieldAddr VT.fa30_1 rfl ?_)
              refine VOps_cons rfl rfl (V_load 0 VT.ty9 rfl rfl rfl ?_)
              refine VOps_cons rfl rfl (V_fieldAddr VT.fa30_1 rfl ?_)
              refine VOps_cons rfl rfl (V_load 2 VT.ty9 rfl rfl rfl ?_)
              refine VOps_cons rfl rfl (V_streq rfl rfl ?_)
              refine VOps_nil ?_
              refine Then_n ?_
              refine VW_condEq rfl (fun h63 => ?_) (fun h63 => ?_)
              · skip
                have hql := hargs q (List.mem_of_getElem? hqi) h63
                obtain ⟨qa, hqa2⟩ := get_of_lt q.args n (by omega)
                have hqg : q.args.getD n anyP = qa := by simp [hqa2]
                have hbl := below_len (m.take i) p.name n
                rw [List.length_take] at hbl
                refine VW_region ?_
                refine VOps_cons rfl rfl (V_move rfl ?_)
                refine VOps_cons rfl rfl (V_fieldAddr VT.fa30_3 rfl ?_)
                refine VOps_cons rfl rfl (V_load 0 VT.ty25 rfl rfl rfl ?_)
                refine VOps_cons rfl rfl (V_move rfl ?_)
                refine VOps_cons rfl rfl (V_indexAddr (el := patX qa) VT.sl25 rfl rfl (by omega) (get_patS hqa2) (fun a68 => ?_))
                refine VOps_cons rfl rfl (V_load_ep_agg VT.ty30 rfl rfl ?_)
                refine VOps_cons rfl rfl (V_lit [.tmp 69] VT.sl25 rfl rfl rfl rfl rfl ?_)
                refine VOps_cons rfl rfl (V_appendN 1 _ VT.sl25 rfl rfl rfl (by simp) (by simp; omega) (fun t71 => ?_))
                refine VOps_cons rfl rfl (V_assign rfl ?_)
                refine VOps_nil ?_
                refine InBlock_n (Then_n ?_)
                refine VW_region ?_
                refine VOps_cons rfl rfl (V_add rfl rfl (by omega) ?_)
                refine VOps_cons rfl rfl (V_move rfl ?_)
                refine VOps_nil ?_
                refine Then_n ?_
                exact ⟨(i + 1, t71), (by (try simp only []); omega), (by omega), ⟨rfl, rfl, rfl, rfl, (by rw [take_snoc hqi, below_snoc]; first | (rw [if_neg h63, List.append_nil]; rfl) | (rw [if_pos h63, hqg, List.map_append, List.map_cons, patV_eq qa]; rfl)), rfl, rfl, rfl, rfl, rfl, rfl, rfl, rfl, trivial⟩, (Drops.drop (Drops.buf (by rw [take_snoc hqi, below_snoc]; first | (rw [if_neg h63, List.append_nil]; done) | (rw [if_pos h63, hqg]; simp)) (Drops.keep (Drops.keep (Drops.keep (Drops.refl _))))))⟩
              · skip
                refine VW_skip ?_
                refine InBlock_n (Then_n ?_)
                refine VW_region ?_
                refine VOps_cons rfl rfl (V_add rfl rfl (by omega) ?_)
                refine VOps_cons rfl rfl (V_move rfl ?_)
                refine VOps_nil ?_
                refine Then_n ?_
                exact ⟨(i + 1, tk), (by (try simp only []); omega), (by omega), ⟨rfl, rfl, rfl, rfl, (by rw [take_snoc hqi, below_snoc]; first | (rw [if_neg h63, List.append_nil]; rfl) | (rw [if_pos h63, hqg, List.map_append, List.map_cons, patV_eq qa]; rfl)), rfl, rfl, rfl, rfl, rfl, rfl, rfl, rfl, trivial⟩, (Drops.drop (Drops.buf (by rw [take_snoc hqi, below_snoc]; first | (rw [if_neg h63, List.append_nil]; done) | (rw [if_pos h63, hqg]; simp)) (Drops.keep (Drops.keep (Drops.keep (Drops.refl _))))))⟩
            · skip
              have hte := take_end h56
              refine VW_exit ?_
              refine Then_e (Then_e (InBlock_hit ?_))
              refine Then_n ?_
              refine VW_seq ?_
              refine VW_region ?_
              refine VOps_cons rfl rfl (V_load_agg 2 VT.ty65 rfl rfl rfl ?_)
              refine VOps_cons rfl rfl (VOp_as (V_move rfl ⟨rfl, rfl⟩) (V.le.strip) ?_)
              refine VOps_cons rfl rfl (V_callK 3 [.tmp 73, .tmp 74] rfl rfl VT.en41 rfl ((by rw [hte]; exact ih _ hpre2 : VKeep Try.prog 41 [tabX ds g, patsX (belowF (m.take i) p.name n)] [tabO g t] (.bool (agreeF t f (belowF m p.name n))))) ?_)
              refine VOps_cons rfl rfl (V_not rfl ?_)
              refine VOps_nil ?_
              refine Then_n ?_
              refine VW_condN rfl (fun h76 => ?_) (fun h76 => ?_)
              · skip
                refine VW_seq ?_
                refine VW_region ?_
                refine VOps_cons rfl rfl (V_assign rfl ?_)
                refine VOps_nil ?_
                refine Then_n ?_
                refine VW_ret ?_
                refine InBlock_r (Then_r (Then_r (InBlock_r (InBlock_r (Then_r (Then_r (InBlock_r (Then_r (VRet_one rfl (.tmp rfl) ?_)))))))))
                refine ⟨_, Drops.drop (Drops.drop (Drops.drop (Drops.refl _))), ?_, rfl⟩
                rw [agree_false hm.symm ?_]
                rw [← hq, drop_cons hr, agreeLoop, ← hqa, show p.args.length - n = (p.args.length - (n + 1)) + 1 by omega, agreeArgs, h76, h43]
                simp [h46]
              · skip
                refine VW_skip ?_
                refine InBlock_n (Then_n ?_)
                refine VW_region ?_
                refine VOps_cons rfl rfl (V_add rfl rfl (by omega) ?_)
                refine VOps_cons rfl rfl (V_move rfl ?_)
                refine VOps_nil ?_
                refine Then_n ?_
                exact ⟨n + 1, (by (try simp only []); omega), ⟨by omega, by rw [← hqa, show p.args.length - n = (p.args.length - (n + 1)) + 1 by omega, agreeArgs, h76]; rfl⟩, ⟨rfl, rfl, rfl, rfl, rfl, rfl, rfl, rfl, trivial⟩, (Drops.drop (Drops.keep (Drops.keep (Drops.keep (Drops.refl _)))))⟩
          · skip
            have hne2 : n = p.args.length := by omega
            subst hne2
            rw [Nat.sub_self, agreeArgs] at hqa
            have hstep : agreeLoop (agreeF t f) m (m.take (j + 1)) (m.drop (j + 1)) = agreeLoop (agreeF t f) m [] m := by rw [← hq, drop_cons hr, agreeLoop, take_snoc hr, ← hqa]; simp
            refine VW_exit ?_
            refine Then_e (Then_e (InBlock_hit ?_))
            refine InBlock_n (Then_n ?_)
            refine VW_region ?_
            refine VOps_cons rfl rfl (V_add rfl rfl (by omega) ?_)
            refine VOps_cons rfl rfl (V_move rfl ?_)
            refine VOps_nil ?_
            refine Then_n ?_
            exact ⟨j + 1, (by (try simp only []); omega), ⟨by omega, hstep⟩, ⟨rfl, rfl, rfl, rfl, rfl, trivial⟩, (Drops.drop (Drops.keep (Drops.keep (Drops.refl _))))⟩
    · skip
      have hje : j = m.length := by omega
      subst hje
      rw [List.take_length, List.drop_length, agreeLoop] at hq
      refine VW_exit ?_
      refine Then_e (Then_e (InBlock_hit ?_))
      refine Then_n ?_
      refine VW_seq ?_
      refine VW_region ?_
      refine VOps_cons rfl rfl (V_assign rfl ?_)
      refine VOps_nil ?_
      refine Then_n ?_
      refine VW_ret ?_
      refine VRet_one rfl (.tmp rfl) ?_
      refine ⟨_, Drops.drop (Drops.refl _), ?_, rfl⟩
      rw [agreeF, hm, hsk, ← hq]
      rfl


theorem agree_c (ds : List DataSig) (t : Tab) (g : Nat) : ∀ (f : Nat) (l : List Pat), AgreePre t f l → VKeep Try.prog 41 [tabX ds g, patsX l] [tabO g t] (.bool (agreeF t f l))
  | 0, l, h => absurd h.fuel (Nat.not_lt_zero _)
  | f + 1, l, h => agree_step ds t g f (fun l h => agree_c ds t g f l h) l h

end Go.Proofs.Ytmjeaagpcmfnpaa.W7
