/- Walks, printed by walk.py. -/
import Derived.Test.YtmjeaagpcmfnpaaVT
import Derived.Test.YtmjeaagpcmfnpaaVDA
import Derived.Test.YtmjeaagpcmfnpaaVB
import Derived.Test.YtmjeaagpcmfnpaaW1
import Derived.Test.YtmjeaagpcmfnpaaW2
import Derived.Test.YtmjeaagpcmfnpaaW3
import Derived.Test.YtmjeaagpcmfnpaaW4
import Derived.Test.YtmjeaagpcmfnpaaW5
set_option linter.unusedVariables false
set_option linter.unusedSimpArgs false
namespace Go.Proofs.Ytmjeaagpcmfnpaa.W6
open Go.VL Go.PM Go.Proofs.Ytmjeaagpcmfnpaa Go.Proofs.Ytmjeaagpcmfnpaa.W1 Go.Proofs.Ytmjeaagpcmfnpaa.W2 Go.Proofs.Ytmjeaagpcmfnpaa.W3 Go.Proofs.Ytmjeaagpcmfnpaa.W4 Go.Proofs.Ytmjeaagpcmfnpaa.W5

def missV (r : List Pat × Bool) : V := .tup [patsX r.1, .bool r.2]
theorem rowsT.ne {t : Tab} {τ : Ty} {τs : List Ty} {rows : List (List Pat)} (h : rowsT t (τ :: τs) rows) : ∀ r ∈ rows, r ≠ [] := fun r hr e => by
  have := h r hr
  rw [e] at this
  exact this
theorem rowsT.args_le {t : Tab} {d : Nat} {f : Str → Nat → Ty} {τs : List Ty} {rows : List (List Pat)} (h : rowsT t (.dat d f :: τs) rows) : ∀ p tl, p :: tl ∈ rows → free p = false → p.args.length ≤ 400 := fun p tl hr hf => by
  rcases (h _ hr).1 with h5 | ⟨_, _, h6, _⟩
  · rw [hf] at h5; cases h5
  · exact h6
theorem take_map {α : Type} (g : α → V) (l : List α) (n : Nat) : V.sl 4 none ((l.map g).take n) = .sl 4 none ((l.take n).map g) := by rw [List.map_take]
theorem drop_map {α : Type} (g : α → V) (l : List α) (n : Nat) : V.sl 4 none ((l.map g).drop n) = .sl 4 none ((l.drop n).map g) := by rw [List.map_drop]

set_option maxRecDepth 100000 in
set_option maxHeartbeats 4000000 in
theorem missing_step (ds : List DataSig) (t : Tab) (g : Nat) (hok : TabOk t ds) (f : Nat) (hc : f ≤ 400000) (ih : ∀ rows τs, MissPre t f rows τs → VKeep Try.prog 28 [tabX ds g, rowsX rows, .int τs.length] [tabO g t] (missV (missF t ds f rows τs.length))) (rows : List (List Pat)) (τs : List Ty) (hp : MissPre t (f + 1) rows τs) : VKeep Try.prog 28 [tabX ds g, rowsX rows, .int τs.length] [tabO g t] (missV (missF t ds (f + 1) rows τs.length)) := by
  obtain ⟨hT, hl, hf⟩ := hp
  refine VCalls_drops ?_
  refine V_start (nt := 97) Try.func28 rfl rfl rfl ?_
  refine VW_seq ?_
  refine VW_region ?_
  refine VOps_cons rfl rfl (V_box rfl rfl (fun g3 => ?_))
  refine VOps_cons rfl rfl (V_assign rfl ?_)
  refine VOps_cons rfl rfl (V_assign rfl ?_)
  refine VOps_nil ?_
  refine Then_n ?_
  refine VW_seq ?_
  refine VW_seq ?_
  refine VW_region ?_
  refine VOps_cons rfl rfl (V_move rfl ?_)
  refine VOps_cons rfl rfl (V_bin rfl rfl rfl ?_)
  refine VOps_nil ?_
  refine Then_n ?_
  refine VW_condEq rfl (fun h20 => ?_) (fun h20 => ?_)
  · skip
    obtain rfl : τs = [] := by cases τs with | nil => rfl | cons a b => simp at h20; omega
    refine VW_seq ?_
    refine VW_region ?_
    refine VOps_cons rfl rfl (V_move rfl ?_)
    refine VOps_cons rfl rfl (V_lenN (n := rows.length) Try.underlying23 rfl (by simp) (fun hl22 => ?_))
    refine VOps_cons rfl rfl (V_bin rfl rfl rfl ?_)
    refine VOps_cons rfl rfl (VOp_as (V_assign rfl ⟨rfl, rfl⟩) (V.le.nil 4) ?_)
    refine VOps_cons rfl rfl (V_assign rfl ?_)
    refine VOps_nil ?_
    refine Then_n ?_
    refine VW_ret ?_
    refine Then_r (VRet_many rfl rfl (.cons (.strip rfl) (.cons (.tmp rfl) (.nil))) ?_)
    exact ⟨_, Drops.drop (Drops.refl _), rfl, rfl⟩
  · skip
    obtain ⟨τ, σs, rfl⟩ : ∃ τ σs, τs = τ :: σs := by cases τs with | nil => exact absurd rfl h20 | cons a b => exact ⟨a, b, rfl⟩
    rw [List.length_cons] at hf
    have hne := rowsT.ne hT
    have hr1 : ∀ r ∈ rows, r.length ≤ 500000 := fun r hr => by rw [(hT r hr).len, List.length_cons]; omega
    have hh : ∀ p tl, first rows = p :: tl → p.kind ≠ 2 → ∃ c D, tget t p.name = some c ∧ ds[c.1]? = some D ∧ D.cons.length ≤ 1000 ∧ ∀ k ∈ D.cons, k.args.length * 56 ≤ 140737488355328 := fun p tl h k => by obtain ⟨d, f2, a, D, _, _, h1, h2⟩ := first_head hok hT h k; exact ⟨_, D, h1, h2, hok.small d D h2⟩
    have hfl := first_len rows
    have hrl := rest_len rows
    have hrw := rest_w rows
    have hrT := rowsT.rest hT
    refine VW_skip ?_
    refine Then_n ?_
    refine VW_seq ?_
    refine VW_region ?_
    refine VOps_cons rfl rfl (V_move rfl ?_)
    refine VOps_cons rfl rfl (V_callP [.tmp 24] rfl rfl VT.en42 (first_c rows hne (by omega)) ?_)
    refine VOps_cons rfl rfl (V_assign rfl ?_)
    refine VOps_nil ?_
    refine Then_n ?_
    refine VW_seq ?_
    refine VW_seq ?_
    refine VW_region ?_
    refine VOps_cons rfl rfl (V_load_agg 0 VT.ty65 rfl rfl rfl ?_)
    refine VOps_cons rfl rfl (V_move rfl ?_)
    rcases hab : absentF t ds (first rows) with _ | q
    · skip
      obtain ⟨d, fT, D, hF⟩ := absent_none hok hT hab
      have hnn : first rows ≠ [] := fun h => by rw [h] at hab; cases hab
      obtain ⟨p0, l0, hfr⟩ := List.exists_cons_of_ne_nil hnn
      have hk0 : p0.kind ≠ 2 := fun h => by rw [hfr, absentF, if_pos h] at hab; cases hab
      obtain ⟨d0, f0, a0, D0, hτ, _, ht0, hD0⟩ := first_head hok hT hfr hk0
      have hc0 : consAt t ds ((first rows).headD anyP).name = D0.cons := by rw [hfr]; simp only [List.headD_cons, consAt, ht0, hD0]
      have hall := hF.all
      rw [← hF.cons, hc0] at hall
      have hTd : rowsT t (.dat d fT :: σs) rows := by rw [← hF.ty]; exact hT
      have hr2 := rowsT.args_le hTd
      have hdl := (hok.small _ _ hD0).1
      refine VOps_cons rfl rfl (V_callK 1 [.tmp 27, .tmp 28] rfl rfl VT.en43 rfl (by have h := absent_c ds t g (first rows) (by omega) hh; rw [hab] at h; exact h) ?_)
      refine VOps_cons rfl rfl (V_move rfl ?_)
      refine VOps_cons rfl rfl (V_extract rfl rfl ?_)
      refine VOps_cons rfl rfl (V_extract rfl rfl ?_)
      refine VOps_cons rfl rfl (V_alloc VT.zr30 _ rfl rfl (fun g9 => ?_))
      refine VOps_cons rfl rfl (V_store_agg 0 VT.ty30 rfl rfl rfl rfl rfl ?_)
      refine VOps_cons rfl rfl (V_assign rfl ?_)
      refine VOps_nil ?_
      refine Then_n ?_
      refine VW_seq ?_
      refine VW_region ?_
      refine VOps_cons rfl rfl (V_move rfl ?_)
      refine VOps_nil ?_
      refine Then_n ?_
      refine VW_condF rfl (rfl) ?_
      refine VW_skip ?_
      refine Then_n ?_
      refine VW_seq ?_
      refine VW_seq ?_
      refine VW_draw (G := Unit) [([], [3], []), ([0], [47], []), ([], [3], []), ([2], [49], []), ([], [8], []), ([4], [51], []), ([5, 4], [52], []), ([6, 5, 4], [53], []), ([7, 6, 5, 4, 3, 2], [50, 54], []), ([8, 7, 6, 5, 4, 3, 2], [55], []), ([9, 8, 7, 6, 5, 4, 3, 2, 1, 0], [48, 56], []), ([10, 9, 8, 7, 6, 5, 4, 3, 2, 1, 0], [57], []), ([11, 10, 9, 8, 7, 6, 5, 4, 3, 2, 1, 0], [58], []), ([12, 11, 10, 9, 8, 7, 6, 5, 4, 3, 2, 1, 0], [59], []), ([], [], [])] [] (constSt _) [59, 60, 61] [47, 48, 49, 50, 51, 52, 53, 54, 55, 56, 57, 58, 59, 60, 61] rfl VT.mix (by kernel_rfl) (by kernel_rfl) ?_
      refine DrawP_consL (acc' := [_]) (eqRes _) (good0 (fun γ => Needs_f (by kernel_rfl) (fun r3 h3 => Needs_nil (vopT rfl (V_fieldAddr VT.fa65_0 h3 ⟨rfl, rfl⟩))))) rfl ?_
      refine DrawP_consL (acc' := [_, _]) (eqRes _) (good0 (fun γ => Needs_w 0 (by kernel_rfl) rfl (fun r47 h47 => Needs_nil (vopT rfl (V_load 1 VT.ty22 h47 rfl rfl ⟨rfl, rfl⟩))))) rfl ?_
      refine DrawP_consL (acc' := [_, _, _]) (eqRes _) (good0 (fun γ => Needs_f (by kernel_rfl) (fun r3 h3 => Needs_nil (vopT rfl (V_fieldAddr VT.fa65_1 h3 ⟨rfl, rfl⟩))))) rfl ?_
      refine DrawP_consL (acc' := [_, _, _, _]) (eqRes _) (good0 (fun γ => Needs_w 2 (by kernel_rfl) rfl (fun r49 h49 => Needs_nil (vopT rfl (V_load 1 VT.ty63 h49 rfl rfl ⟨rfl, rfl⟩))))) rfl ?_
      refine DrawP_consL (acc' := [_, _, _, _, _]) (eqRes _) (good0 (fun γ => Needs_f (by kernel_rfl) (fun r8 h8 => Needs_nil (vopT rfl (V_move h8 ⟨rfl, rfl⟩))))) rfl ?_
      refine DrawP_consL (acc' := [_, _, _, _, _, _]) (epRes _) (good0 (fun γ => Needs_w 4 (by kernel_rfl) rfl (fun r51 h51 => Needs_nil (vopT rfl (V_indexAddr (el := patX p0) VT.sl25 h51 rfl (by omega) (by rw [hfr]; exact get_patS rfl) (fun a52 => ⟨⟨_, rfl⟩, rfl⟩)))))) rfl ?_
      refine DrawP_consL (acc' := [_, _, _, _, _, _, _]) (epRes _) (good0 (fun γ => Needs_w 5 (by kernel_rfl) rfl (fun r52 h52 => Needs_nil (epE h52 (fun a_52 e52 => vopT rfl (V_fieldAddr_ep VT.fa30_1 e52 rfl ⟨⟨_, rfl⟩, rfl⟩)))))) rfl ?_
      refine DrawP_consL (acc' := [_, _, _, _, _, _, _, _]) (eqRes _) (good0 (fun γ => Needs_w 6 (by kernel_rfl) rfl (fun r53 h53 => Needs_nil (epE h53 (fun a_53 e53 => vopT rfl (V_load_ep VT.ty9 e53 rfl ⟨rfl, rfl⟩)))))) rfl ?_
      refine DrawP_consL (acc' := [_, _, _, _, _, _, _, _, _]) (eqRes _) (good0 (fun γ => Needs_w 3 (by kernel_rfl) rfl (fun r50 h50 => Needs_w 7 (by kernel_rfl) rfl (fun r54 h54 => Needs_nil (vopT rfl (V_lookup1 2 Try.underlying63 (key_str Try.underlying9) VT.zr95 h50 h54 rfl (by rw [kget_tab, ht0]; rfl) ⟨rfl, rfl⟩)))))) rfl ?_
      refine DrawP_consL (acc' := [_, _, _, _, _, _, _, _, _, _]) (eqRes _) (good0 (fun γ => Needs_w 8 (by kernel_rfl) rfl (fun r55 h55 => Needs_nil (vopT rfl (V_field (x := 0) VT.fa95_0 h55 rfl ⟨rfl, rfl⟩))))) rfl ?_
      refine DrawP_consL (acc' := [_, _, _, _, _, _, _, _, _, _, _]) (epRes _) (good0 (fun γ => Needs_w 1 (by kernel_rfl) rfl (fun r48 h48 => Needs_w 9 (by kernel_rfl) rfl (fun r56 h56 => Needs_nil (vopT rfl (V_indexAddr (el := dataV D0) VT.sl22 h48 h56 (by omega) (get_mapS _ hD0) (fun a57 => ⟨⟨_, rfl⟩, rfl⟩))))))) rfl ?_
      refine DrawP_consL (acc' := [_, _, _, _, _, _, _, _, _, _, _, _]) (epRes _) (good0 (fun γ => Needs_w 10 (by kernel_rfl) rfl (fun r57 h57 => Needs_nil (epE h57 (fun a_57 e57 => vopT rfl (V_fieldAddr_ep VT.fa62_2 e57 rfl ⟨⟨_, rfl⟩, rfl⟩)))))) rfl ?_
      refine DrawP_consL (acc' := [_, _, _, _, _, _, _, _, _, _, _, _, _]) (eqRes _) (good0 (fun γ => Needs_w 11 (by kernel_rfl) rfl (fun r58 h58 => Needs_nil (epE h58 (fun a_58 e58 => vopT rfl (V_load_ep VT.ty60 e58 rfl ⟨rfl, rfl⟩)))))) rfl ?_
      refine DrawP_consL (acc' := [_, _, _, _, _, _, _, _, _, _, _, _, _, _]) (eqRes _) (good0 (fun γ => Needs_w 12 (by kernel_rfl) rfl (fun r59 h59 => Needs_nil (vopT rfl (V_lenN (n := D0.cons.length) Try.underlying60 h59 (by simp) (fun hl60 => ⟨rfl, rfl⟩)))))) rfl ?_
      refine DrawP_consL (acc' := [_, _, _, _, _, _, _, _, _, _, _, _, _, _, _]) (eqRes _) (good0 (fun γ => Needs_nil (vopT rfl (V_move rfl ⟨rfl, rfl⟩)))) rfl ?_
      refine DrawP_nil (fun γ => Needs_w 12 (by kernel_rfl) rfl (fun r59 h59 => Needs_w 13 (by kernel_rfl) rfl (fun r60 h60 => Needs_w 14 (by kernel_rfl) rfl (fun r61 h61 => Needs_nil ?_))))
      have e59 : r59 = some _ := h59
      subst e59
      clear h59
      have e60 : r60 = some _ := h60
      subst e60
      clear h60
      have e61 : r61 = some _ := h61
      subst e61
      clear h61
      refine Then_n ?_
      refine VW_block ?_
      refine VW_loopF (ι := Nat) (fun k => D0.cons.length - k) (fun k => [(1, some (rowsX rows)), (2, some (.int (τ :: σs).length)), (3, some (.ptr g3 0)), (59, some (.sl 2 none (D0.cons.map conV))), (60, some (.int D0.cons.length)), (61, some (.int k))]) (fun k => [.cells g3 65 [datasX ds, .raw (.map (some g))], tabO g t]) (fun k => k ≤ D0.cons.length ∧ missLoop (missF t ds f) rows σs.length (D0.cons.drop k) = missLoop (missF t ds f) rows σs.length D0.cons) 0 ⟨Nat.zero_le _, rfl⟩ ⟨rfl, rfl, rfl, rfl, rfl, rfl, trivial⟩ (Drops.drop (Drops.keep (Drops.keep (Drops.refl _)))) ?_
      rintro k hA
      change k ≤ D0.cons.length ∧ missLoop (missF t ds f) rows σs.length (D0.cons.drop k) = missLoop (missF t ds f) rows σs.length D0.cons at hA
      obtain ⟨hk, hq⟩ := hA
      refine VW_seq ?_
      refine VW_region ?_
      refine VOps_cons rfl rfl (V_bin rfl rfl rfl ?_)
      refine VOps_nil ?_
      refine Then_n ?_
      refine VW_seq ?_
      refine VW_condP rfl (fun h62 => ?_) (fun h62 => ?_)
      · skip
        obtain ⟨e, hcn⟩ := get_of_lt D0.cons k h62
        obtain ⟨q1, tl1, hq1, hqf, hqn, hea, a1, hta⟩ := hall e (List.mem_of_getElem? hcn)
        have hT2 := rowsT.narrow hTd hta
        have hw1 := narrow_w1 e.name e.args.length hqf hqn rows hq1
        have hln := narrow_len e.name e.args.length rows
        have hal := argT_len (fT e.name) e.args.length
        have hih := ih _ _ ⟨hT2, by omega, by rw [List.length_append, hal]; omega⟩
        rw [List.length_append, hal] at hih
        have hRl := missF_len t ds f (narrow e.name e.args.length rows) (e.args.length + σs.length)
        generalize hR : missF t ds f (narrow e.name e.args.length rows) (e.args.length + σs.length) = R at hih hRl
        refine VW_skip ?_
        refine Then_n ?_
        refine VW_seq ?_
        refine VW_block ?_
        refine VW_seq ?_
        refine VW_region ?_
        refine VOps_cons rfl rfl (V_indexAddr (el := conV e) VT.sl60 rfl rfl (by omega) (get_mapS _ hcn) (fun a63 => ?_))
        refine VOps_cons rfl rfl (V_load_ep_agg VT.ty59 rfl rfl ?_)
        refine VOps_cons rfl rfl (V_alloc VT.zr59 _ rfl rfl (fun g14 => ?_))
        refine VOps_cons rfl rfl (V_store_agg 0 VT.ty59 rfl rfl rfl rfl rfl ?_)
        refine VOps_nil ?_
        refine Then_n ?_
        refine VW_seq ?_
        refine VW_region ?_
        refine VOps_cons rfl rfl (V_fieldAddr VT.fa59_1 rfl ?_)
        refine VOps_cons rfl rfl (V_load 0 VT.ty57 rfl rfl rfl ?_)
        refine VOps_cons rfl rfl (V_lenN (n := e.args.length) Try.underlying57 rfl (by simp) (fun hl67 => ?_))
        refine VOps_cons rfl rfl (V_assign rfl ?_)
        refine VOps_nil ?_
        refine Then_n ?_
        refine VW_seq ?_
        refine VW_draw (G := Unit) [([], [3], []), ([], [1], []), ([], [14], []), ([2], [71], []), ([], [15], []), ([4, 3, 2, 1], [70, 72, 73], []), ([], [15], []), ([], [2], []), ([7, 6], [75, 76], []), ([8, 7, 6], [77], []), ([9, 8, 7, 6, 5, 4, 3, 2, 1, 0], [69, 74, 78], []), ([10, 9, 8, 7, 6, 5, 4, 3, 2, 1, 0], [79], []), ([11, 10, 9, 8, 7, 6, 5, 4, 3, 2, 1, 0], [68], []), ([11, 10, 9, 8, 7, 6, 5, 4, 3, 2, 1, 0], [68], []), ([12, 11, 10, 9, 8, 7, 6, 5, 4, 3, 2, 1, 0], [80], []), ([14, 13, 12, 11, 10, 9, 8, 7, 6, 5, 4, 3, 2, 1, 0], [81], [])] [] (constSt _) [16, 17] [16, 17, 68, 69, 70, 71, 72, 73, 74, 75, 76, 77, 78, 79, 80, 81] rfl VT.mix (by kernel_rfl) (by kernel_rfl) ?_
        refine DrawP_consL (acc' := [_]) (eqRes _) (good0 (fun γ => Needs_f (by kernel_rfl) (fun r3 h3 => Needs_nil (vopT rfl (V_load_agg 1 VT.ty65 h3 rfl rfl ⟨rfl, rfl⟩))))) rfl ?_
        refine DrawP_consL (acc' := [_, _]) (eqRes _) (good0 (fun γ => Needs_f (by kernel_rfl) (fun r1 h1 => Needs_nil (vopT rfl (V_move h1 ⟨rfl, rfl⟩))))) rfl ?_
        refine DrawP_consL (acc' := [_, _, _]) (eqRes _) (good0 (fun γ => Needs_f (by kernel_rfl) (fun r14 h14 => Needs_nil (vopT rfl (V_fieldAddr VT.fa59_0 h14 ⟨rfl, rfl⟩))))) rfl ?_
        refine DrawP_consL (acc' := [_, _, _, _]) (eqRes _) (good0 (fun γ => Needs_w 2 (by kernel_rfl) rfl (fun r71 h71 => Needs_nil (vopT rfl (V_load 0 VT.ty9 h71 rfl rfl ⟨rfl, rfl⟩))))) rfl ?_
        refine DrawP_consL (acc' := [_, _, _, _, _]) (eqRes _) (good0 (fun γ => Needs_f (by kernel_rfl) (fun r15 h15 => Needs_nil (vopT rfl (V_move h15 ⟨rfl, rfl⟩))))) rfl ?_
        refine DrawP_consL (acc' := [_, _, _, _, _, _]) (eqRes _) (good0 (fun γ => Needs_w 1 (by kernel_rfl) rfl (fun r70 h70 => Needs_w 3 (by kernel_rfl) rfl (fun r72 h72 => Needs_w 4 (by kernel_rfl) rfl (fun r73 h73 => Needs_nil (vopT rfl (V_callP [.tmp 70, .tmp 72, .tmp 73] rfl (evs_cons h70 (evs_cons h72 (evs_cons h73 evs_nil))) VT.en45 (narrow_c rows e.name e.args.length hne (by omega) hr1 hr2 hea) ⟨rfl, rfl⟩))))))) rfl ?_
        refine DrawP_consL (acc' := [_, _, _, _, _, _, _]) (eqRes _) (good0 (fun γ => Needs_f (by kernel_rfl) (fun r15 h15 => Needs_nil (vopT rfl (V_move h15 ⟨rfl, rfl⟩))))) rfl ?_
        refine DrawP_consL (acc' := [_, _, _, _, _, _, _, _]) (eqRes _) (good0 (fun γ => Needs_f (by kernel_rfl) (fun r2 h2 => Needs_nil (vopT rfl (V_move h2 ⟨rfl, rfl⟩))))) rfl ?_
        refine DrawP_consL (acc' := [_, _, _, _, _, _, _, _, _]) (eqRes _) (good0 (fun γ => Needs_w 6 (by kernel_rfl) rfl (fun r75 h75 => Needs_w 7 (by kernel_rfl) rfl (fun r76 h76 => Needs_nil (vopT rfl (V_add h75 h76 (by simp; omega) ⟨rfl, rfl⟩)))))) rfl ?_
        refine DrawP_consL (acc' := [_, _, _, _, _, _, _, _, _, _]) (eqRes _) (good0 (fun γ => Needs_w 8 (by kernel_rfl) rfl (fun r77 h77 => Needs_nil (vopT rfl (VOp_as (V_sub h77 rfl (by simp; omega) ⟨rfl, rfl⟩) (V.le.of_eq (v' := .int ((e.args.length + σs.length : Nat) : Int)) (by simp; omega)) ⟨rfl, rfl⟩))))) rfl ?_
        refine DrawP_consL (acc' := [_, _, _, _, _, _, _, _, _, _, _]) (eqRes _) (good0 (fun γ => Needs_w 0 (by kernel_rfl) rfl (fun r69 h69 => Needs_w 5 (by kernel_rfl) rfl (fun r74 h74 => Needs_w 9 (by kernel_rfl) rfl (fun r78 h78 => Needs_nil (vopT rfl (V_callK 2 [.tmp 69, .tmp 74, .tmp 78] rfl (evs_cons h69 (evs_cons h74 (evs_cons h78 evs_nil))) VT.en28 rfl (hih) ⟨rfl, rfl⟩))))))) rfl ?_
        refine DrawP_consL (acc' := [_, _, _, _, _, _, _, _, _, _, _, _]) (eqRes _) (good0 (fun γ => Needs_w 10 (by kernel_rfl) rfl (fun r79 h79 => Needs_nil (vopT rfl (V_move h79 ⟨rfl, rfl⟩))))) rfl ?_
        refine DrawP_consL (acc' := [_, _, _, _, _, _, _, _, _, _, _, _, _]) (eqRes _) (good0 (fun γ => Needs_w 11 (by kernel_rfl) rfl (fun r68 h68 => Needs_nil (vopT rfl (V_extract h68 rfl ⟨rfl, rfl⟩))))) rfl ?_
        refine DrawP_consL (acc' := [_, _, _, _, _, _, _, _, _, _, _, _, _, _]) (eqRes _) (good0 (fun γ => Needs_w 11 (by kernel_rfl) rfl (fun r68 h68 => Needs_nil (vopT rfl (V_extract h68 rfl ⟨rfl, rfl⟩))))) rfl ?_
        refine DrawP_consL (acc' := [_, _, _, _, _, _, _, _, _, _, _, _, _, _, _]) (eqRes _) (good0 (fun γ => Needs_w 12 (by kernel_rfl) rfl (fun r80 h80 => Needs_nil (vopT rfl (V_assign h80 ⟨rfl, rfl⟩))))) rfl ?_
        refine DrawP_consL (acc' := [_, _, _, _, _, _, _, _, _, _, _, _, _, _, _, _]) (eqRes _) (good0 (fun γ => Needs_w 13 (by kernel_rfl) rfl (fun r81 h81 => Needs_nil (vopT rfl (V_assign h81 ⟨rfl, rfl⟩))))) rfl ?_
        refine DrawP_nil (fun γ => Needs_w 14 (by kernel_rfl) rfl (fun r16 h16 => Needs_w 15 (by kernel_rfl) rfl (fun r17 h17 => Needs_nil ?_)))
        have e16 : r16 = some _ := h16
        subst e16
        clear h16
        have e17 : r17 = some _ := h17
        subst e17
        clear h17
        refine Then_n ?_
        refine VW_seq ?_
        refine VW_region ?_
        refine VOps_cons rfl rfl (V_move rfl ?_)
        refine VOps_nil ?_
        refine Then_n ?_
        refine VW_cond rfl (fun h82 => ?_) (fun h82 => ?_)
        · skip
          have hRl1 := hRl.2 h82
          refine VW_seq ?_
          refine VW_draw (G := Nat) [([], [14], []), ([0], [83], []), ([], [16], []), ([], [15], []), ([3, 2], [85, 86], []), ([4, 3, 2], [87], []), ([5, 4, 3, 2, 1, 0], [84, 88], []), ([], [], [0]), ([7, 6, 5, 4, 3, 2, 1, 0], [18, 89], [])] [7, 8] (twoSt _ (fun g18 => [.cells g18 30 VT.zs30, .cells g14 59 [.str e.name, .sl 4 none e.args], .cells g3 65 [datasX ds, .raw (.map (some g))], tabO g t]) (fun g18 _ => [.cells g18 30 [.int 3, .str e.name, .int 0, patsX (R.1.take e.args.length)], .cells g14 59 [.str e.name, .sl 4 none e.args], .cells g3 65 [datasX ds, .raw (.map (some g))], tabO g t])) [18] [18, 83, 84, 85, 86, 87, 88, 89] rfl VT.mix (by kernel_rfl) (by kernel_rfl) ?_
          refine DrawP_consL (acc' := [_]) (eqRes _) (goodS rfl rfl ⟨(fun γ => Needs_f (by kernel_rfl) (fun r14 h14 => Needs_nil (vopT rfl (V_fieldAddr VT.fa59_0 h14 ⟨rfl, rfl⟩)))), (fun γ => Needs_f (by kernel_rfl) (fun r14 h14 => Needs_nil (vopT rfl (V_fieldAddr VT.fa59_0 h14 ⟨rfl, rfl⟩)))), trivial⟩) rfl ?_
          refine DrawP_consL (acc' := [_, _]) (eqRes _) (goodS rfl rfl ⟨(fun γ => Needs_w 0 (by kernel_rfl) rfl (fun r83 h83 => Needs_nil (vopT rfl (V_load 0 VT.ty9 h83 rfl rfl ⟨rfl, rfl⟩)))), (fun γ => Needs_w 0 (by kernel_rfl) rfl (fun r83 h83 => Needs_nil (vopT rfl (V_load 1 VT.ty9 h83 rfl rfl ⟨rfl, rfl⟩)))), trivial⟩) rfl ?_
          refine DrawP_consL (acc' := [_, _, _]) (eqRes _) (goodS rfl rfl ⟨(fun γ => Needs_f (by kernel_rfl) (fun r16 h16 => Needs_nil (vopT rfl (V_move h16 ⟨rfl, rfl⟩)))), (fun γ => Needs_f (by kernel_rfl) (fun r16 h16 => Needs_nil (vopT rfl (V_move h16 ⟨rfl, rfl⟩)))), trivial⟩) rfl ?_
          refine DrawP_consL (acc' := [_, _, _, _]) (eqRes _) (goodS rfl rfl ⟨(fun γ => Needs_f (by kernel_rfl) (fun r15 h15 => Needs_nil (vopT rfl (V_move h15 ⟨rfl, rfl⟩)))), (fun γ => Needs_f (by kernel_rfl) (fun r15 h15 => Needs_nil (vopT rfl (V_move h15 ⟨rfl, rfl⟩)))), trivial⟩) rfl ?_
          refine DrawP_consL (acc' := [_, _, _, _, _]) (eqRes _) (goodS rfl rfl ⟨(fun γ => Needs_w 2 (by kernel_rfl) rfl (fun r85 h85 => Needs_w 3 (by kernel_rfl) rfl (fun r86 h86 => Needs_nil (vopT rfl (VOp_as (V_sliceTo VT.sl25 h85 h86 (by omega) (by simp; omega) ⟨rfl, rfl⟩) (V.le.of_eq (v' := patsX (R.1.take e.args.length)) (take_map patV R.1 e.args.length)) ⟨rfl, rfl⟩))))), (fun γ => Needs_w 2 (by kernel_rfl) rfl (fun r85 h85 => Needs_w 3 (by kernel_rfl) rfl (fun r86 h86 => Needs_nil (vopT rfl (VOp_as (V_sliceTo VT.sl25 h85 h86 (by omega) (by simp; omega) ⟨rfl, rfl⟩) (V.le.of_eq (v' := patsX (R.1.take e.args.length)) (take_map patV R.1 e.args.length)) ⟨rfl, rfl⟩))))), trivial⟩) rfl ?_
          refine DrawP_consL (acc' := [_, _, _, _, _, _]) (eqRes _) (goodS rfl rfl ⟨(fun γ => Needs_w 4 (by kernel_rfl) rfl (fun r87 h87 => Needs_nil (vopT rfl (V_callP [.tmp 87] rfl (evs_cons h87 evs_nil) VT.en46 (clone_c (R.1.take e.args.length) (by rw [List.length_take]; omega)) ⟨rfl, rfl⟩)))), (fun γ => Needs_w 4 (by kernel_rfl) rfl (fun r87 h87 => Needs_nil (vopT rfl (V_callP [.tmp 87] rfl (evs_cons h87 evs_nil) VT.en46 (clone_c (R.1.take e.args.length) (by rw [List.length_take]; omega)) ⟨rfl, rfl⟩)))), trivial⟩) rfl ?_
          refine DrawP_consL (acc' := [_, _, _, _, _, _, _]) (eqRes _) (goodS rfl rfl ⟨(fun γ => Needs_w 1 (by kernel_rfl) rfl (fun r84 h84 => Needs_w 5 (by kernel_rfl) rfl (fun r88 h88 => Needs_nil (vopT rfl (V_build [0, 1, 3] [.const (.int .i64 (3)), .tmp 84, .tmp 88] VT.st30 rfl rfl (evs_cons rfl (evs_cons h84 (evs_cons h88 evs_nil))) rfl ⟨rfl, rfl⟩))))), (fun γ => Needs_w 1 (by kernel_rfl) rfl (fun r84 h84 => Needs_w 5 (by kernel_rfl) rfl (fun r88 h88 => Needs_nil (vopT rfl (V_build [0, 1, 3] [.const (.int .i64 (3)), .tmp 84, .tmp 88] VT.st30 rfl rfl (evs_cons rfl (evs_cons h84 (evs_cons h88 evs_nil))) rfl ⟨rfl, rfl⟩))))), trivial⟩) rfl ?_
          refine DrawP_consL (acc' := [_, _, _, _, _, _, _, _]) (oneRes (fun g18 => .ptr g18 0)) (goodU 0 rfl (fun γ => Needs_nil (vopT rfl (V_alloc VT.zr30 _ rfl rfl (fun g18 => ⟨g18, ⟨g18, rfl, rfl⟩, rfl⟩))))) rfl ?_
          refine DrawP_consL (acc' := [_, _, _, _, _, _, _, _, _]) anyRes (goodU 1 rfl (fun γ => Needs_w 7 (by kernel_rfl) rfl (fun r18 h18 => Needs_w 6 (by kernel_rfl) rfl (fun r89 h89 => Needs_nil (oneE h18 (fun e18 => vopT rfl (V_store_agg 0 VT.ty30 e18 h89 rfl rfl rfl ⟨default, trivial, rfl⟩))))))) rfl ?_
          refine DrawP_nil (fun γ => Needs_w 7 (by kernel_rfl) rfl (fun r18 h18 => Needs_nil ?_))
          have e18 : r18 = some _ := oneY h18
          subst e18
          clear h18
          refine Then_n ?_
          refine VW_seq ?_
          refine VW_draw (G := Tok) [([], [18], []), ([0], [90], [0]), ([], [16], []), ([], [15], []), ([3, 2], [92, 93], []), ([4, 3, 2, 1, 0], [91, 94], [1]), ([5, 4, 3, 2, 1, 0], [95], [1]), ([6, 5, 4, 3, 2, 1, 0], [], [])] [1, 5] (twoSt _ (fun x => [.buf x 30 4 1, .cells (γ 0) 30 [.int 3, .str e.name, .int 0, patsX (R.1.take e.args.length)], .cells g14 59 [.str e.name, .sl 4 none e.args], .cells g3 65 [datasX ds, .raw (.map (some g))], tabO g t]) (fun _ x => [.buf x 30 4 ([V.agg [.int 3, .str e.name, .int 0, patsX (R.1.take e.args.length)]] ++ (R.1.drop e.args.length).map patV).length, .cells (γ 0) 30 [.int 3, .str e.name, .int 0, patsX (R.1.take e.args.length)], .cells g14 59 [.str e.name, .sl 4 none e.args], .cells g3 65 [datasX ds, .raw (.map (some g))], tabO g t])) [6, 7] [6, 7, 90, 91, 92, 93, 94, 95] rfl VT.mix (by kernel_rfl) (by kernel_rfl) ?_
          refine DrawP_consL (acc' := [_]) (eqRes _) (goodS rfl rfl ⟨(fun γ => Needs_f (by kernel_rfl) (fun r18 h18 => Needs_nil (vopT rfl (V_load_agg 0 VT.ty30 h18 rfl rfl ⟨rfl, rfl⟩)))), trivial⟩) rfl ?_
          refine DrawP_consL (acc' := [_, _]) (oneRes (fun x => .sl 4 (some x) [V.agg [.int 3, .str e.name, .int 0, patsX (R.1.take e.args.length)]])) (goodU 0 rfl (fun γ => Needs_w 0 (by kernel_rfl) rfl (fun r90 h90 => Needs_nil (vopT rfl (V_litTok [.tmp 90] VT.sl25 rfl rfl rfl (evs_cons h90 evs_nil) rfl (fun t91 => ⟨t91, ⟨t91, rfl, rfl⟩, rfl⟩)))))) rfl ?_
          refine DrawP_consL (acc' := [_, _, _]) (eqRes _) (goodS rfl rfl ⟨(fun γ => Needs_f (by kernel_rfl) (fun r16 h16 => Needs_nil (vopT rfl (V_move h16 ⟨rfl, rfl⟩)))), (fun γ => Needs_f (by kernel_rfl) (fun r16 h16 => Needs_nil (vopT rfl (V_move h16 ⟨rfl, rfl⟩)))), trivial⟩) rfl ?_
          refine DrawP_consL (acc' := [_, _, _, _]) (eqRes _) (goodS rfl rfl ⟨(fun γ => Needs_f (by kernel_rfl) (fun r15 h15 => Needs_nil (vopT rfl (V_move h15 ⟨rfl, rfl⟩)))), (fun γ => Needs_f (by kernel_rfl) (fun r15 h15 => Needs_nil (vopT rfl (V_move h15 ⟨rfl, rfl⟩)))), trivial⟩) rfl ?_
          refine DrawP_consL (acc' := [_, _, _, _, _]) (eqRes _) (goodS rfl rfl ⟨(fun γ => Needs_w 2 (by kernel_rfl) rfl (fun r92 h92 => Needs_w 3 (by kernel_rfl) rfl (fun r93 h93 => Needs_nil (vopT rfl (VOp_as (V_sliceFrom VT.sl25 h92 h93 (by omega) (by simp; omega) ⟨rfl, rfl⟩) (V.le.of_eq (v' := patsX (R.1.drop e.args.length)) (drop_map patV R.1 e.args.length)) ⟨rfl, rfl⟩))))), (fun γ => Needs_w 2 (by kernel_rfl) rfl (fun r92 h92 => Needs_w 3 (by kernel_rfl) rfl (fun r93 h93 => Needs_nil (vopT rfl (VOp_as (V_sliceFrom VT.sl25 h92 h93 (by omega) (by simp; omega) ⟨rfl, rfl⟩) (V.le.of_eq (v' := patsX (R.1.drop e.args.length)) (drop_map patV R.1 e.args.length)) ⟨rfl, rfl⟩))))), trivial⟩) rfl ?_
          refine DrawP_consL (acc' := [_, _, _, _, _, _]) (oneRes (fun x => .sl 4 (some x) ([V.agg [.int 3, .str e.name, .int 0, patsX (R.1.take e.args.length)]] ++ (R.1.drop e.args.length).map patV))) (goodU 1 rfl (fun γ => Needs_w 1 (by kernel_rfl) rfl (fun r91 h91 => Needs_w 4 (by kernel_rfl) rfl (fun r94 h94 => Needs_nil (oneE h91 (fun e91 => vopT rfl (V_appendN 0 _ VT.sl25 e91 h94 rfl (by simp) (by simp; omega) (fun t95 => ⟨t95, ⟨t95, rfl, rfl⟩, rfl⟩)))))))) rfl ?_
          refine DrawP_consL (acc' := [_, _, _, _, _, _, _]) (oneRes (fun x => .sl 4 (some x) ([V.agg [.int 3, .str e.name, .int 0, patsX (R.1.take e.args.length)]] ++ (R.1.drop e.args.length).map patV))) (goodS rfl rfl ⟨(fun γ => Needs_w 5 (by kernel_rfl) rfl (fun r95 h95 => Needs_nil (oneE h95 (fun e95 => vopT rfl (V_assign e95 ⟨⟨_, rfl, rfl⟩, rfl⟩))))), trivial⟩) rfl ?_
          refine DrawP_consL (acc' := [_, _, _, _, _, _, _, _]) (eqRes _) (goodS rfl rfl ⟨(fun γ => Needs_nil (vopT rfl (V_assign rfl ⟨rfl, rfl⟩))), trivial⟩) rfl ?_
          refine DrawP_nil (fun γ => Needs_w 6 (by kernel_rfl) rfl (fun r6 h6 => Needs_w 7 (by kernel_rfl) rfl (fun r7 h7 => Needs_nil ?_)))
          have e6 : r6 = some _ := oneY h6
          subst e6
          clear h6
          have e7 : r7 = some _ := h7
          subst e7
          clear h7
          refine Then_n ?_
          refine VW_ret ?_
          refine InBlock_r (Then_r (Then_r (InBlock_r (Then_r (VRet_many rfl rfl (.cons (.strip rfl) (.cons (.tmp rfl) (.nil))) ?_)))))
          refine ⟨_, Drops.drop (Drops.drop (Drops.drop (Drops.drop (Drops.refl _)))), ?_, rfl⟩
          show _ = missV (missF t ds (f + 1) rows (σs.length + 1))
          rw [missF, hab]
          simp only [hc0, ← hq, drop_cons hcn, missLoop, hR, h82, cond_true]
          simp [missV, patV_eq, Pat.kind, Pat.name, Pat.n, Pat.args, List.map_take]
        · skip
          refine VW_skip ?_
          refine InBlock_n (Then_n ?_)
          refine VW_region ?_
          refine VOps_cons rfl rfl (V_add rfl rfl (by omega) ?_)
          refine VOps_cons rfl rfl (V_move rfl ?_)
          refine VOps_nil ?_
          refine Then_n ?_
          exact ⟨k + 1, (by (try simp only []); omega), ⟨by omega, by rw [← hq, drop_cons hcn, missLoop, hR, h82]; rfl⟩, ⟨rfl, rfl, rfl, rfl, rfl, rfl, trivial⟩, (Drops.drop (Drops.keep (Drops.keep (Drops.refl _))))⟩
      · skip
        have hke : k = D0.cons.length := by omega
        subst hke
        rw [List.drop_length, missLoop] at hq
        refine VW_exit ?_
        refine Then_e (Then_e (InBlock_hit ?_))
        refine Then_n ?_
        refine VW_seq ?_
        refine VW_region ?_
        refine VOps_cons rfl rfl (VOp_as (V_assign rfl ⟨rfl, rfl⟩) (V.le.nil 4) ?_)
        refine VOps_cons rfl rfl (V_assign rfl ?_)
        refine VOps_nil ?_
        refine Then_n ?_
        refine VW_ret ?_
        refine VRet_many rfl rfl (.cons (.strip rfl) (.cons (.tmp rfl) (.nil))) ?_
        refine ⟨_, Drops.drop (Drops.refl _), ?_, rfl⟩
        show _ = missV (missF t ds (f + 1) rows (σs.length + 1))
        rw [missF, hab]
        simp only [hc0, ← hq]
        rfl
    · skip
      refine VOps_cons rfl rfl (V_callK 1 [.tmp 27, .tmp 28] rfl rfl VT.en43 rfl (by have h := absent_c ds t g (first rows) (by omega) hh; rw [hab] at h; exact h) ?_)
      refine VOps_cons rfl rfl (V_move rfl ?_)
      refine VOps_cons rfl rfl (V_extract rfl rfl ?_)
      refine VOps_cons rfl rfl (V_extract rfl rfl ?_)
      refine VOps_cons rfl rfl (V_alloc VT.zr30 _ rfl rfl (fun g9 => ?_))
      refine VOps_cons rfl rfl (V_store_agg 0 VT.ty30 rfl rfl rfl rfl rfl ?_)
      refine VOps_cons rfl rfl (V_assign rfl ?_)
      refine VOps_nil ?_
      refine Then_n ?_
      refine VW_seq ?_
      refine VW_region ?_
      refine VOps_cons rfl rfl (V_move rfl ?_)
      refine VOps_nil ?_
      refine Then_n ?_
      refine VW_condT rfl (rfl) ?_
      refine VW_seq ?_
      refine VW_draw (G := Unit) [([], [3], []), ([], [1], []), ([1], [35], []), ([], [2], []), ([3], [37], []), ([4, 3, 2, 1, 0], [34, 36, 38], []), ([5, 4, 3, 2, 1, 0], [39], []), ([6, 5, 4, 3, 2, 1, 0], [33], []), ([6, 5, 4, 3, 2, 1, 0], [33], []), ([7, 6, 5, 4, 3, 2, 1, 0], [40], []), ([9, 8, 7, 6, 5, 4, 3, 2, 1, 0], [41], [])] [] (constSt _) [11, 12] [11, 12, 33, 34, 35, 36, 37, 38, 39, 40, 41] rfl VT.mix (by kernel_rfl) (by kernel_rfl) ?_
      refine DrawP_consL (acc' := [_]) (eqRes _) (good0 (fun γ => Needs_f (by kernel_rfl) (fun r3 h3 => Needs_nil (vopT rfl (V_load_agg 1 VT.ty65 h3 rfl rfl ⟨rfl, rfl⟩))))) rfl ?_
      refine DrawP_consL (acc' := [_, _]) (eqRes _) (good0 (fun γ => Needs_f (by kernel_rfl) (fun r1 h1 => Needs_nil (vopT rfl (V_move h1 ⟨rfl, rfl⟩))))) rfl ?_
      refine DrawP_consL (acc' := [_, _, _]) (eqRes _) (good0 (fun γ => Needs_w 1 (by kernel_rfl) rfl (fun r35 h35 => Needs_nil (vopT rfl (V_callP [.tmp 35] rfl (evs_cons h35 evs_nil) VT.en44 (rest_c rows hne (by omega)) ⟨rfl, rfl⟩))))) rfl ?_
      refine DrawP_consL (acc' := [_, _, _, _]) (eqRes _) (good0 (fun γ => Needs_f (by kernel_rfl) (fun r2 h2 => Needs_nil (vopT rfl (V_move h2 ⟨rfl, rfl⟩))))) rfl ?_
      refine DrawP_consL (acc' := [_, _, _, _, _]) (eqRes _) (good0 (fun γ => Needs_w 3 (by kernel_rfl) rfl (fun r37 h37 => Needs_nil (vopT rfl (VOp_as (V_sub h37 rfl (by simp; omega) ⟨rfl, rfl⟩) (V.le.of_eq (v' := .int σs.length) (by simp)) ⟨rfl, rfl⟩))))) rfl ?_
      refine DrawP_consL (acc' := [_, _, _, _, _, _]) (eqRes _) (good0 (fun γ => Needs_w 0 (by kernel_rfl) rfl (fun r34 h34 => Needs_w 2 (by kernel_rfl) rfl (fun r36 h36 => Needs_w 4 (by kernel_rfl) rfl (fun r38 h38 => Needs_nil (vopT rfl (V_callK 2 [.tmp 34, .tmp 36, .tmp 38] rfl (evs_cons h34 (evs_cons h36 (evs_cons h38 evs_nil))) VT.en28 rfl (ih (rest rows) σs ⟨hrT, by omega, by omega⟩) ⟨rfl, rfl⟩))))))) rfl ?_
      refine DrawP_consL (acc' := [_, _, _, _, _, _, _]) (eqRes _) (good0 (fun γ => Needs_w 5 (by kernel_rfl) rfl (fun r39 h39 => Needs_nil (vopT rfl (V_move h39 ⟨rfl, rfl⟩))))) rfl ?_
      refine DrawP_consL (acc' := [_, _, _, _, _, _, _, _]) (eqRes _) (good0 (fun γ => Needs_w 6 (by kernel_rfl) rfl (fun r33 h33 => Needs_nil (vopT rfl (V_extract h33 rfl ⟨rfl, rfl⟩))))) rfl ?_
      refine DrawP_consL (acc' := [_, _, _, _, _, _, _, _, _]) (eqRes _) (good0 (fun γ => Needs_w 6 (by kernel_rfl) rfl (fun r33 h33 => Needs_nil (vopT rfl (V_extract h33 rfl ⟨rfl, rfl⟩))))) rfl ?_
      refine DrawP_consL (acc' := [_, _, _, _, _, _, _, _, _, _]) (eqRes _) (good0 (fun γ => Needs_w 7 (by kernel_rfl) rfl (fun r40 h40 => Needs_nil (vopT rfl (V_assign h40 ⟨rfl, rfl⟩))))) rfl ?_
      refine DrawP_consL (acc' := [_, _, _, _, _, _, _, _, _, _, _]) (eqRes _) (good0 (fun γ => Needs_w 8 (by kernel_rfl) rfl (fun r41 h41 => Needs_nil (vopT rfl (V_assign h41 ⟨rfl, rfl⟩))))) rfl ?_
      refine DrawP_nil (fun γ => Needs_w 9 (by kernel_rfl) rfl (fun r11 h11 => Needs_w 10 (by kernel_rfl) rfl (fun r12 h12 => Needs_nil ?_)))
      have e11 : r11 = some _ := h11
      subst e11
      clear h11
      have e12 : r12 = some _ := h12
      subst e12
      clear h12
      refine Then_n ?_
      refine VW_seq ?_
      refine VW_region ?_
      refine VOps_cons rfl rfl (V_load_agg 0 VT.ty30 rfl rfl rfl ?_)
      refine VOps_cons rfl rfl (V_litTok [.tmp 42] VT.sl25 rfl rfl rfl rfl rfl (fun t43 => ?_))
      refine VOps_cons rfl rfl (V_move rfl ?_)
      refine VOps_cons rfl rfl (V_appendN 0 _ VT.sl25 rfl rfl rfl (by simp) (by have := (missF_len t ds f (rest rows) σs.length).1; simp; omega) (fun t45 => ?_))
      refine VOps_cons rfl rfl (V_move rfl ?_)
      refine VOps_cons rfl rfl (V_assign rfl ?_)
      refine VOps_cons rfl rfl (V_assign rfl ?_)
      refine VOps_nil ?_
      refine Then_n ?_
      refine VW_ret ?_
      refine Then_r (VRet_many rfl rfl (.cons (.strip rfl) (.cons (.tmp rfl) (.nil))) ?_)
      refine ⟨_, Drops.drop (Drops.drop (Drops.drop (Drops.refl _))), ?_, rfl⟩
      show _ = missV (missF t ds (f + 1) rows (σs.length + 1))
      rw [missF, hab]
      simp [missV, patV_eq]


theorem missing_c (ds : List DataSig) (t : Tab) (g : Nat) (hok : TabOk t ds) : ∀ (f : Nat), f ≤ 400000 → ∀ rows τs, MissPre t f rows τs → VKeep Try.prog 28 [tabX ds g, rowsX rows, .int τs.length] [tabO g t] (missV (missF t ds f rows τs.length))
  | 0, _, rows, τs, h => absurd h.fuel (Nat.not_lt_zero _)
  | f + 1, hf, rows, τs, h => missing_step ds t g hok f (by omega) (fun rows τs h => missing_c ds t g hok f (by omega) rows τs h) rows τs h

end Go.Proofs.Ytmjeaagpcmfnpaa.W6
