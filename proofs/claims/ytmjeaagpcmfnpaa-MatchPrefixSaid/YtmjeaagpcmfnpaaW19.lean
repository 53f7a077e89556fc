/- Walks, printed by walk.py. -/
import Derived.Test.YtmjeaagpcmfnpaaVT
import Derived.Test.YtmjeaagpcmfnpaaVDA
import Derived.Test.YtmjeaagpcmfnpaaVB
import Derived.Test.YtmjeaagpcmfnpaaVMA
import Derived.Test.YtmjeaagpcmfnpaaW1
import Derived.Test.YtmjeaagpcmfnpaaW2
import Derived.Test.YtmjeaagpcmfnpaaW16
import Derived.Test.YtmjeaagpcmfnpaaW17
import Derived.Test.YtmjeaagpcmfnpaaW18
set_option linter.unusedVariables false
set_option linter.unusedSimpArgs false
namespace Go.Proofs.Ytmjeaagpcmfnpaa.W19
open Go.VL Go.PM Go.Proofs.Ytmjeaagpcmfnpaa Go.Proofs.Ytmjeaagpcmfnpaa.W1 Go.Proofs.Ytmjeaagpcmfnpaa.W2 Go.Proofs.Ytmjeaagpcmfnpaa.W16 Go.Proofs.Ytmjeaagpcmfnpaa.W17 Go.Proofs.Ytmjeaagpcmfnpaa.W18

theorem tick_cell {gb gm : Nat} {tk : Tok} {s : BSt} {b : Bool} (hb : b = (tick s).full) : Own.cells gb 76 [.raw (.map (some gm)), .sl 6 (some tk) (s.out.map nodeX), .int ((s.many : Int) + 1), .bool b] = bcell gb gm tk (tick s) := by
  subst hb
  simp [bcell, tick]

set_option maxRecDepth 100000 in
set_option maxHeartbeats 16000000 in
theorem build_step {t : Tab} {ds : List DataSig} {f : Nat} (hok : TabOk t ds) (hf : f ≤ 400) (ih : BuildC t ds f) : BuildC t ds (f + 1) := by
  intro gb gm tk tab s rows paths τs htab h hs ho hm hf1
  have hrl := h.len
  unfold VTok
  refine VCalls_drops ?_
  refine V_start (nt := 157) Try.func31 rfl rfl rfl ?_
  refine VW_seq ?_
  refine VW_region ?_
  refine VOps_cons rfl rfl (V_assign rfl ?_)
  refine VOps_nil ?_
  refine Then_n ?_
  refine VW_seq ?_
  refine VW_region ?_
  refine VOps_cons rfl rfl (V_move rfl ?_)
  refine VOps_cons rfl rfl (V_nilCheck rfl ?_)
  refine VOps_cons rfl rfl (V_fieldAddr VT.fa76_2 rfl ?_)
  refine VOps_cons rfl rfl (V_load 0 VT.ty3 rfl rfl rfl ?_)
  refine VOps_cons rfl rfl (V_add rfl rfl (by omega) ?_)
  refine VOps_cons rfl rfl (V_nilCheck rfl ?_)
  refine VOps_cons rfl rfl (V_fieldAddr VT.fa76_2 rfl ?_)
  refine VOps_cons rfl rfl (V_store 0 VT.ty3 rfl rfl rfl rfl rfl ?_)
  refine VOps_nil ?_
  refine Then_n ?_
  refine VW_cutF [(0, some (.ptr gb 0)), (1, some (mrowsX rows)), (2, some (pathsX paths))] [bcell gb gm tk (tick s), bbuf tk (tick s), .map gm (kmap kstr tab)] ?_ ?_
  · skip
    refine VW_region ?_
    refine VOps_cons rfl rfl (V_move rfl ?_)
    refine VOps_cons rfl rfl (V_move rfl ?_)
    refine VOps_cons rfl rfl (V_nilCheck rfl ?_)
    refine VOps_cons rfl rfl (V_fieldAddr VT.fa76_3 rfl ?_)
    refine VOps_cons rfl rfl (V_load 0 VT.ty4 rfl rfl rfl ?_)
    refine VOps_cons rfl rfl (V_move rfl ?_)
    refine VOps_split (q := 26) rfl (fun hq26 => ?_) (fun hq26 => ?_)
    · skip
      refine VOps_skipU (.inl (skip_of rfl rfl rfl hq26)) rfl ?_
      refine VOps_skipU (.inl (skip_of rfl rfl rfl hq26)) rfl ?_
      refine VOps_skipU (.inl (skip_of rfl rfl rfl hq26)) rfl ?_
      refine VOps_skipU (.inl (skip_of rfl rfl rfl hq26)) rfl ?_
      refine VOps_skipU (.inl (skip_of rfl rfl rfl hq26)) rfl ?_
      refine VOps_cons rfl rfl (V_pickT rfl hq26 rfl ?_)
      refine VOps_cons rfl rfl (V_nilCheck rfl ?_)
      refine VOps_cons rfl rfl (V_fieldAddr VT.fa76_3 rfl ?_)
      refine VOps_cons rfl rfl (V_store 0 VT.ty4 rfl rfl rfl rfl rfl ?_)
      refine VOps_nil ?_
      refine Then_n ?_
      exact ⟨⟨rfl, rfl, rfl, trivial⟩, (Drops.keepE (tick_cell (by show _ = (s.full || decide (4096 < s.many + 1)); first | (rw [hq26]; rfl) | (rw [hq26, Bool.false_or]; exact decide_eq_decide.2 (by omega)))) (Drops.buf rfl (Drops.keep (Drops.refl _))))⟩
    · skip
      refine VOps_cons (want_of rfl rfl rfl hq26) rfl (V_move rfl ?_)
      refine VOps_cons (want_of rfl rfl rfl hq26) rfl (V_nilCheck rfl ?_)
      refine VOps_cons (want_of rfl rfl rfl hq26) rfl (V_fieldAddr VT.fa76_2 rfl ?_)
      refine VOps_cons (want_of rfl rfl rfl hq26) rfl (V_load 0 VT.ty3 rfl rfl rfl ?_)
      refine VOps_cons (want_of rfl rfl rfl hq26) rfl (V_bin rfl rfl rfl ?_)
      refine VOps_cons rfl rfl (V_pickF rfl hq26 rfl ?_)
      refine VOps_cons rfl rfl (V_nilCheck rfl ?_)
      refine VOps_cons rfl rfl (V_fieldAddr VT.fa76_3 rfl ?_)
      refine VOps_cons rfl rfl (V_store 0 VT.ty4 rfl rfl rfl rfl rfl ?_)
      refine VOps_nil ?_
      refine Then_n ?_
      exact ⟨⟨rfl, rfl, rfl, trivial⟩, (Drops.keepE (tick_cell (by show _ = (s.full || decide (4096 < s.many + 1)); first | (rw [hq26]; rfl) | (rw [hq26, Bool.false_or]; exact decide_eq_decide.2 (by omega)))) (Drops.buf rfl (Drops.keep (Drops.refl _))))⟩
  · skip
    refine VW_seq ?_
    refine VW_seq ?_
    refine VW_region ?_
    refine VOps_cons rfl rfl (V_move rfl ?_)
    refine VOps_cons rfl rfl (V_lenN (n := rows.length) Try.underlying77 rfl (by simp) (fun hl36 => ?_))
    refine VOps_cons rfl rfl (V_bin rfl rfl rfl ?_)
    refine VOps_cons rfl rfl (V_move rfl ?_)
    refine VOps_split (q := 38) rfl (fun hq38 => ?_) (fun hq38 => ?_)
    · skip
      have hE : rows.length = 0 ∨ (tick s).full = true := .inl (by have := of_decide_eq_true hq38; omega)
      refine VOps_skipU (.inl (skip_of rfl rfl rfl hq38)) rfl ?_
      refine VOps_skipU (.inl (skip_of rfl rfl rfl hq38)) rfl ?_
      refine VOps_skipU (.inl (skip_of rfl rfl rfl hq38)) rfl ?_
      refine VOps_skipU (.inl (skip_of rfl rfl rfl hq38)) rfl ?_
      refine VOps_cons rfl rfl (V_pickT rfl hq38 rfl ?_)
      refine VOps_nil ?_
      refine Then_n ?_
      refine VW_condT rfl rfl ?_
      refine VW_seq ?_
      refine VW_region ?_
      refine VOps_cons rfl rfl (V_move rfl ?_)
      refine VOps_cons rfl rfl (VOp_as (V_build [] [] VT.st49 rfl rfl rfl rfl ⟨rfl, rfl⟩) (V.le.agg (ys := [.int 0, .int 0, intsX [], strsX [], intsX [], intsX []]) ⟨V.le.refl _, rfl, V.le.refl _, rfl, V.le.nil 1, rfl, V.le.nil 1, rfl, V.le.nil 1, rfl, V.le.nil 1, rfl, trivial⟩) ?_)
      refine VOps_cons rfl rfl (V_callTok [.tmp 44, .tmp 45] _ _ rfl rfl VT.en50 (.refl _) (add_c gb gm tk (tick s) failN (by show s.out.length ≤ _; omega)) (fun t46 => ?_))
      refine VOps_cons rfl rfl (V_assign rfl ?_)
      refine VOps_nil ?_
      refine Then_n ?_
      refine VW_ret ?_
      refine Then_r (VRet_one rfl (.tmp rfl) ?_)
      rw [show buildM t ds (f + 1) s rows paths = addF (tick s) failN by rw [buildM, if_pos hE]]
      exact ⟨_, Drops.keep (Drops.keep (Drops.keep (Drops.nil _))), t46, rfl, rfl⟩
    · skip
      have h38 : rows.length ≠ 0 := by have := of_decide_eq_false hq38; omega
      refine VOps_cons (want_of rfl rfl rfl hq38) rfl (V_move rfl ?_)
      refine VOps_cons (want_of rfl rfl rfl hq38) rfl (V_nilCheck rfl ?_)
      refine VOps_cons (want_of rfl rfl rfl hq38) rfl (V_fieldAddr VT.fa76_3 rfl ?_)
      refine VOps_cons (want_of rfl rfl rfl hq38) rfl (V_load 0 VT.ty4 rfl rfl rfl ?_)
      refine VOps_cons rfl rfl (V_pickF rfl hq38 rfl ?_)
      refine VOps_nil ?_
      refine Then_n ?_
      refine VW_cond rfl (fun h43 => ?_) (fun h43 => ?_)
      · skip
        have hE : rows.length = 0 ∨ (tick s).full = true := .inr h43
        refine VW_seq ?_
        refine VW_region ?_
        refine VOps_cons rfl rfl (V_move rfl ?_)
        refine VOps_cons rfl rfl (VOp_as (V_build [] [] VT.st49 rfl rfl rfl rfl ⟨rfl, rfl⟩) (V.le.agg (ys := [.int 0, .int 0, intsX [], strsX [], intsX [], intsX []]) ⟨V.le.refl _, rfl, V.le.refl _, rfl, V.le.nil 1, rfl, V.le.nil 1, rfl, V.le.nil 1, rfl, V.le.nil 1, rfl, trivial⟩) ?_)
        refine VOps_cons rfl rfl (V_callTok [.tmp 44, .tmp 45] _ _ rfl rfl VT.en50 (.refl _) (add_c gb gm tk (tick s) failN (by show s.out.length ≤ _; omega)) (fun t46 => ?_))
        refine VOps_cons rfl rfl (V_assign rfl ?_)
        refine VOps_nil ?_
        refine Then_n ?_
        refine VW_ret ?_
        refine Then_r (VRet_one rfl (.tmp rfl) ?_)
        rw [show buildM t ds (f + 1) s rows paths = addF (tick s) failN by rw [buildM, if_pos hE]]
        exact ⟨_, Drops.keep (Drops.keep (Drops.keep (Drops.nil _))), t46, rfl, rfl⟩
      · skip
        obtain ⟨hft, r0, rs, hr0, hcase⟩ := (buildM_cases (s := s) hok h).resolve_left (by rintro ⟨_, hE | hE⟩; exact h38 hE; rw [h43] at hE; cases hE)
        have hst := tick_full hs
        obtain ⟨hsf, hsm⟩ := tick_not hft
        have hsm2 : (tick s).many ≤ 4097 + f * 1100 := by show s.many + 1 ≤ _; omega
        have hso : (tick s).out.length ≤ (tick s).many := by show s.out.length ≤ s.many + 1; omega
        refine VW_skip ?_
        refine Then_n ?_
        refine VW_seq ?_
        refine VW_region ?_
        refine VOps_cons rfl rfl (V_move rfl ?_)
        refine VOps_cons rfl rfl (V_indexAddr (el := mrowX r0) VT.sl77 rfl rfl (by omega) (by rw [hr0]; rfl) (fun a48 => ?_))
        refine VOps_cons rfl rfl (V_fieldAddr_ep VT.fa80_1 rfl rfl ?_)
        refine VOps_cons rfl rfl (V_load_ep VT.ty25 rfl rfl ?_)
        rcases hcase with ⟨hbe, hno⟩ | ⟨k, p, τ, ha, hcase⟩
        · skip
          refine VOps_cons rfl rfl (V_callP [.tmp 50, .func 52] rfl rfl VT.en51 (by have e := patIdx_c (l := r0.2) (tok := none) (p := nf) (caps := []) VT.en52 (fun p _ => nf_c p); rw [idxOf_none nf hno] at e; exact e) ?_)
          refine VOps_cons rfl rfl (V_alloc VT.zr3 _ rfl rfl (fun g7 => ?_))
          refine VOps_cons rfl rfl (V_store 0 VT.ty3 rfl rfl rfl rfl rfl ?_)
          refine VOps_nil ?_
          refine Then_n ?_
          refine VW_seq ?_
          refine VW_seq ?_
          refine VW_region ?_
          refine VOps_cons rfl rfl (V_load 0 VT.ty3 rfl rfl rfl ?_)
          refine VOps_cons rfl rfl (V_bin rfl rfl rfl ?_)
          refine VOps_nil ?_
          refine Then_n ?_
          refine VW_condT rfl ((decide_eq_true (by decide))) ?_
          refine VW_seq ?_
          refine VW_region ?_
          refine VOps_cons rfl rfl (V_move rfl ?_)
          refine VOps_cons rfl rfl (V_move rfl ?_)
          refine VOps_cons rfl rfl (V_indexAddr (el := mrowX r0) VT.sl77 rfl rfl (by omega) (by rw [hr0]; rfl) (fun a56 => ?_))
          refine VOps_cons rfl rfl (V_fieldAddr_ep VT.fa80_0 rfl rfl ?_)
          refine VOps_cons rfl rfl (V_load_ep VT.ty3 rfl rfl ?_)
          refine VOps_cons rfl rfl (VOp_as (V_build [0, 1] [.const (.int .i64 (1)), .tmp 58] VT.st49 rfl rfl rfl rfl ⟨rfl, rfl⟩) (V.le.agg (ys := [.int 1, .int r0.1, intsX [], strsX [], intsX [], intsX []]) ⟨V.le.refl _, rfl, V.le.refl _, rfl, V.le.nil 1, rfl, V.le.nil 1, rfl, V.le.nil 1, rfl, V.le.nil 1, rfl, trivial⟩) ?_)
          refine VOps_cons rfl rfl (V_callTok [.tmp 54, .tmp 59] _ _ rfl rfl VT.en50 ((perm_erase (i := 1) rfl).trans (.cons _ ((perm_erase (i := 1) rfl).trans (.cons _ (.refl _))))) (add_c gb gm tk (tick s) (rowN r0.1) (by show s.out.length ≤ _; omega)) (fun t60 => ?_))
          refine VOps_cons rfl rfl (V_assign rfl ?_)
          refine VOps_nil ?_
          refine Then_n ?_
          refine VW_ret ?_
          refine Then_r (VRet_one rfl (.tmp rfl) ?_)
          rw [hbe]
          exact ⟨_, Drops.pick 0 rfl rfl (Drops.pick 0 rfl rfl (Drops.pick 1 rfl rfl (Drops.nil _))), t60, rfl, rfl⟩
        · skip
          have hidx : idxOf nf r0.2 = k := by have e := ha.idx; rw [hr0] at e; exact e
          have hp0 : r0.2[k]? = some p := by obtain ⟨a, b, e, hp⟩ := ha.ne; rw [hr0] at e; injection e with e _; rw [e]; exact hp
          obtain ⟨hk1, hk22, hk3⟩ := mpre_paths h ha
          have hmr := mpre_rows h ha
          obtain ⟨path, hpath⟩ := get_of_lt paths k (by omega)
          have hpg : paths.getD k [] = path := by simp [hpath]
          refine VOps_cons rfl rfl (V_callP [.tmp 50, .func 52] rfl rfl VT.en51 (by have e := patIdx_c (l := r0.2) (tok := none) (p := nf) (caps := []) VT.en52 (fun p _ => nf_c p); rw [hidx] at e; exact e) ?_)
          refine VOps_cons rfl rfl (V_alloc VT.zr3 _ rfl rfl (fun g7 => ?_))
          refine VOps_cons rfl rfl (V_store 0 VT.ty3 rfl rfl rfl rfl rfl ?_)
          refine VOps_nil ?_
          refine Then_n ?_
          refine VW_seq ?_
          refine VW_seq ?_
          refine VW_region ?_
          refine VOps_cons rfl rfl (V_load 0 VT.ty3 rfl rfl rfl ?_)
          refine VOps_cons rfl rfl (V_bin rfl rfl rfl ?_)
          refine VOps_nil ?_
          refine Then_n ?_
          refine VW_condF rfl ((decide_eq_false (by omega))) ?_
          refine VW_skip ?_
          refine Then_n ?_
          refine VW_seq ?_
          refine VW_seq ?_
          refine VW_draw (G := Unit) [([], [1], []), ([0], [61], []), ([1, 0], [62], []), ([2, 1, 0], [63], []), ([], [7], []), ([4, 3, 2, 1, 0], [64, 65], []), ([5, 4, 3, 2, 1, 0], [66], []), ([6, 5, 4, 3, 2, 1, 0], [67], []), ([7, 6, 5, 4, 3, 2, 1, 0], [68], [])] [] (constSt _) [69] [61, 62, 63, 64, 65, 66, 67, 68, 69] rfl VT.mix (by kernel_rfl) (by kernel_rfl) ?_
          refine DrawP_consL (acc' := [_]) (eqRes _) (good0 (fun γ => Needs_f (by kernel_rfl) (fun r1 h1 => Needs_nil (vopT rfl (V_move h1 ⟨rfl, rfl⟩))))) rfl ?_
          refine DrawP_consL (acc' := [_, _]) (epRes _) (good0 (fun γ => Needs_w 0 (by kernel_rfl) rfl (fun r61 h61 => Needs_nil (vopT rfl (V_indexAddr (el := mrowX r0) VT.sl77 h61 rfl (by omega) (by rw [hr0]; rfl) (fun a62 => ⟨⟨_, rfl⟩, rfl⟩)))))) rfl ?_
          refine DrawP_consL (acc' := [_, _, _]) (epRes _) (good0 (fun γ => Needs_w 1 (by kernel_rfl) rfl (fun r62 h62 => Needs_nil (epE h62 (fun a_62 e62 => vopT rfl (V_fieldAddr_ep VT.fa80_1 e62 rfl ⟨⟨_, rfl⟩, rfl⟩)))))) rfl ?_
          refine DrawP_consL (acc' := [_, _, _, _]) (eqRes _) (good0 (fun γ => Needs_w 2 (by kernel_rfl) rfl (fun r63 h63 => Needs_nil (epE h63 (fun a_63 e63 => vopT rfl (V_load_ep VT.ty25 e63 rfl ⟨rfl, rfl⟩)))))) rfl ?_
          refine DrawP_consL (acc' := [_, _, _, _, _]) (eqRes _) (good0 (fun γ => Needs_f (by kernel_rfl) (fun r7 h7 => Needs_nil (vopT rfl (V_load 0 VT.ty3 h7 rfl rfl ⟨rfl, rfl⟩))))) rfl ?_
          refine DrawP_consL (acc' := [_, _, _, _, _, _]) (epRes _) (good0 (fun γ => Needs_w 3 (by kernel_rfl) rfl (fun r64 h64 => Needs_w 4 (by kernel_rfl) rfl (fun r65 h65 => Needs_nil (vopT rfl (V_indexAddr (el := patX p) VT.sl25 h64 h65 (by omega) (get_patS hp0) (fun a66 => ⟨⟨_, rfl⟩, rfl⟩))))))) rfl ?_
          refine DrawP_consL (acc' := [_, _, _, _, _, _, _]) (epRes _) (good0 (fun γ => Needs_w 5 (by kernel_rfl) rfl (fun r66 h66 => Needs_nil (epE h66 (fun a_66 e66 => vopT rfl (V_fieldAddr_ep VT.fa30_0 e66 rfl ⟨⟨_, rfl⟩, rfl⟩)))))) rfl ?_
          refine DrawP_consL (acc' := [_, _, _, _, _, _, _, _]) (eqRes _) (good0 (fun γ => Needs_w 6 (by kernel_rfl) rfl (fun r67 h67 => Needs_nil (epE h67 (fun a_67 e67 => vopT rfl (V_load_ep VT.ty3 e67 rfl ⟨rfl, rfl⟩)))))) rfl ?_
          refine DrawP_consL (acc' := [_, _, _, _, _, _, _, _, _]) (eqRes _) (good0 (fun γ => Needs_w 7 (by kernel_rfl) rfl (fun r68 h68 => Needs_nil (vopT rfl (V_bin h68 rfl rfl ⟨rfl, rfl⟩))))) rfl ?_
          refine DrawP_nil (fun γ => Needs_w 8 (by kernel_rfl) rfl (fun r69 h69 => Needs_nil ?_))
          have e69 : r69 = some _ := h69
          subst e69
          clear h69
          refine Then_n ?_
          refine VW_condEq rfl (fun h69 => ?_) (fun h69 => ?_)
          · skip
            have hbe : buildM t ds (f + 1) s rows paths = wordsF (buildM t ds f) (tick s) rows paths k := by rcases hcase with ⟨_, e⟩ | ⟨_, _, _, _, _, h3, _⟩; exact e; omega
            refine VW_seq ?_
            refine VW_region ?_
            refine VOps_cons rfl rfl (V_move rfl ?_)
            refine VOps_cons rfl rfl (V_move rfl ?_)
            refine VOps_cons rfl rfl (V_move rfl ?_)
            refine VOps_cons rfl rfl (V_load 0 VT.ty3 rfl rfl rfl ?_)
            refine VOps_cons rfl rfl (V_callTok [.tmp 70, .tmp 71, .tmp 72, .tmp 73] _ _ rfl rfl VT.en54 ((perm_erase (i := 1) rfl).trans (.cons _ ((perm_erase (i := 1) rfl).trans (.cons _ ((perm_erase (i := 1) rfl).trans (.cons _ (.refl _))))))) (words_c hok ih gb gm tk tab (tick s) rows paths τs k p τ htab h ha h69 hst hso hsm2 hf) (fun t74 => ?_))
            refine VOps_cons rfl rfl (V_assign rfl ?_)
            refine VOps_nil ?_
            refine Then_n ?_
            refine VW_ret ?_
            refine Then_r (VRet_one rfl (.tmp rfl) ?_)
            rw [hbe]
            exact ⟨_, Drops.keep (Drops.keep (Drops.keep (Drops.nil _))), t74, rfl, rfl⟩
          · skip
            obtain ⟨d, g, a, D, hτ, hk3', hta, hD, hcl, hcs, hbe⟩ := hcase.resolve_left (fun h => h69 h.1)
            subst hτ
            obtain ⟨ad, hlk⟩ := htab _ _ _ hta hD
            refine VW_skip ?_
            refine Then_n ?_
            refine VW_seq ?_
            refine VW_region ?_
            refine VOps_cons rfl rfl (V_move rfl ?_)
            refine VOps_cons rfl rfl (V_load 0 VT.ty3 rfl rfl rfl ?_)
            refine VOps_cons rfl rfl (V_indexAddr (el := intsX path) VT.sl78 rfl rfl (by omega) (get_mapS _ hpath) (fun a77 => ?_))
            refine VOps_cons rfl rfl (V_load_ep VT.ty32 rfl rfl ?_)
            refine VOps_cons rfl rfl (V_build [0, 2] [.const (.int .i64 (2)), .tmp 78] VT.st49 rfl rfl rfl rfl ?_)
            refine VOps_cons rfl rfl (V_alloc VT.zr49 _ rfl rfl (fun g8 => ?_))
            refine VOps_cons rfl rfl (V_store_agg 0 VT.ty49 rfl rfl rfl rfl rfl ?_)
            refine VOps_nil ?_
            refine Then_n ?_
            refine VW_cells 0 (ls' := [.int 2, .int 0, intsX path, .sl 1 (some .nil) [], .raw (.slice none 0 0), .sl 1 (some .nil) []]) rfl ⟨V.le.refl _, rfl, V.le.refl _, rfl, V.le.refl _, rfl, V.le.nilTok 1, rfl, V.le.refl _, rfl, V.le.nilTok 1, rfl, trivial⟩ ?_
            refine VW_nilBuf 9 1 ?_
            refine VW_nilBuf 3 1 ?_
            refine VW_seq ?_
            refine VW_draw (G := Unit) [([], [0], []), ([0], [80], []), ([1, 0], [81], []), ([2, 1, 0], [82], []), ([], [1], []), ([4], [84], []), ([5, 4], [85], []), ([6, 5, 4], [86], []), ([], [7], []), ([8, 7, 6, 5, 4], [87, 88], []), ([9, 8, 7, 6, 5, 4], [89], []), ([10, 9, 8, 7, 6, 5, 4], [90], []), ([11, 10, 9, 8, 7, 6, 5, 4, 3, 2, 1, 0], [83, 91], []), ([12, 11, 10, 9, 8, 7, 6, 5, 4, 3, 2, 1, 0], [92], [])] [] (constSt _) [9] [9, 80, 81, 82, 83, 84, 85, 86, 87, 88, 89, 90, 91, 92] rfl VT.mix (by kernel_rfl) (by kernel_rfl) ?_
            refine DrawP_consL (acc' := [_]) (eqRes _) (good0 (fun γ => Needs_f (by kernel_rfl) (fun r0 h0 => Needs_nil (vopT rfl (V_move h0 ⟨rfl, rfl⟩))))) rfl ?_
            refine DrawP_consL (acc' := [_, _]) (eqRes _) (good0 (fun γ => Needs_w 0 (by kernel_rfl) rfl (fun r80 h80 => Needs_nil (vopT rfl (V_nilCheck h80 ⟨rfl, rfl⟩))))) rfl ?_
            refine DrawP_consL (acc' := [_, _, _]) (eqRes _) (good0 (fun γ => Needs_w 1 (by kernel_rfl) rfl (fun r81 h81 => Needs_nil (vopT rfl (V_fieldAddr VT.fa76_0 h81 ⟨rfl, rfl⟩))))) rfl ?_
            refine DrawP_consL (acc' := [_, _, _, _]) (eqRes _) (good0 (fun γ => Needs_w 2 (by kernel_rfl) rfl (fun r82 h82 => Needs_nil (vopT rfl (V_load 4 VT.ty71 h82 rfl rfl ⟨rfl, rfl⟩))))) rfl ?_
            refine DrawP_consL (acc' := [_, _, _, _, _]) (eqRes _) (good0 (fun γ => Needs_f (by kernel_rfl) (fun r1 h1 => Needs_nil (vopT rfl (V_move h1 ⟨rfl, rfl⟩))))) rfl ?_
            refine DrawP_consL (acc' := [_, _, _, _, _, _]) (epRes _) (good0 (fun γ => Needs_w 4 (by kernel_rfl) rfl (fun r84 h84 => Needs_nil (vopT rfl (V_indexAddr (el := mrowX r0) VT.sl77 h84 rfl (by omega) (by rw [hr0]; rfl) (fun a85 => ⟨⟨_, rfl⟩, rfl⟩)))))) rfl ?_
            refine DrawP_consL (acc' := [_, _, _, _, _, _, _]) (epRes _) (good0 (fun γ => Needs_w 5 (by kernel_rfl) rfl (fun r85 h85 => Needs_nil (epE h85 (fun a_85 e85 => vopT rfl (V_fieldAddr_ep VT.fa80_1 e85 rfl ⟨⟨_, rfl⟩, rfl⟩)))))) rfl ?_
            refine DrawP_consL (acc' := [_, _, _, _, _, _, _, _]) (eqRes _) (good0 (fun γ => Needs_w 6 (by kernel_rfl) rfl (fun r86 h86 => Needs_nil (epE h86 (fun a_86 e86 => vopT rfl (V_load_ep VT.ty25 e86 rfl ⟨rfl, rfl⟩)))))) rfl ?_
            refine DrawP_consL (acc' := [_, _, _, _, _, _, _, _, _]) (eqRes _) (good0 (fun γ => Needs_f (by kernel_rfl) (fun r7 h7 => Needs_nil (vopT rfl (V_load 3 VT.ty3 h7 rfl rfl ⟨rfl, rfl⟩))))) rfl ?_
            refine DrawP_consL (acc' := [_, _, _, _, _, _, _, _, _, _]) (epRes _) (good0 (fun γ => Needs_w 7 (by kernel_rfl) rfl (fun r87 h87 => Needs_w 8 (by kernel_rfl) rfl (fun r88 h88 => Needs_nil (vopT rfl (V_indexAddr (el := patX p) VT.sl25 h87 h88 (by omega) (get_patS hp0) (fun a89 => ⟨⟨_, rfl⟩, rfl⟩))))))) rfl ?_
            refine DrawP_consL (acc' := [_, _, _, _, _, _, _, _, _, _, _]) (epRes _) (good0 (fun γ => Needs_w 9 (by kernel_rfl) rfl (fun r89 h89 => Needs_nil (epE h89 (fun a_89 e89 => vopT rfl (V_fieldAddr_ep VT.fa30_1 e89 rfl ⟨⟨_, rfl⟩, rfl⟩)))))) rfl ?_
            refine DrawP_consL (acc' := [_, _, _, _, _, _, _, _, _, _, _, _]) (eqRes _) (good0 (fun γ => Needs_w 10 (by kernel_rfl) rfl (fun r90 h90 => Needs_nil (epE h90 (fun a_90 e90 => vopT rfl (V_load_ep VT.ty9 e90 rfl ⟨rfl, rfl⟩)))))) rfl ?_
            refine DrawP_consL (acc' := [_, _, _, _, _, _, _, _, _, _, _, _, _]) (eqRes _) (good0 (fun γ => Needs_w 3 (by kernel_rfl) rfl (fun r83 h83 => Needs_w 11 (by kernel_rfl) rfl (fun r91 h91 => Needs_nil (vopT rfl (V_lookup1 6 Try.underlying71 (key_str Try.underlying9) VT.zr100 h83 h91 rfl (hlk) ⟨rfl, rfl⟩)))))) rfl ?_
            refine DrawP_consL (acc' := [_, _, _, _, _, _, _, _, _, _, _, _, _, _]) (eqRes _) (good0 (fun γ => Needs_w 12 (by kernel_rfl) rfl (fun r92 h92 => Needs_nil (vopT rfl (V_assign h92 ⟨rfl, rfl⟩))))) rfl ?_
            refine DrawP_nil (fun γ => Needs_w 13 (by kernel_rfl) rfl (fun r9 h9 => Needs_nil ?_))
            have e9 : r9 = some _ := h9
            subst e9
            clear h9
            refine Then_n ?_
            refine VW_seq ?_
            refine VW_seq ?_
            refine VW_region ?_
            refine VOps_cons rfl rfl (V_move rfl ?_)
            refine VOps_cons rfl rfl (V_nilCheck_ep rfl ?_)
            refine VOps_cons rfl rfl (V_fieldAddr_ep VT.fa62_2 rfl rfl ?_)
            refine VOps_cons rfl rfl (V_load_ep VT.ty60 rfl rfl ?_)
            refine VOps_cons rfl rfl (V_lenN (n := D.cons.length) Try.underlying60 rfl (by simp) (fun hl97 => ?_))
            refine VOps_cons rfl rfl (V_move rfl ?_)
            refine VOps_nil ?_
            refine Then_n ?_
            refine VW_block ?_
            refine VW_loopF (ι := Nat × Tok × Tok × Tok × BSt × List Str × List Int) (fun (i, tk, tn, tq, s1, names, kids) => D.cons.length - i) (fun (i, tk, tn, tq, s1, names, kids) => [(0, some (.ptr gb 0)), (1, some (mrowsX rows)), (2, some (pathsX paths)), (7, some (.ptr g7 0)), (8, some (.ptr g8 0)), (9, some (.ep ad (dataV D))), (96, some (.sl 2 none (D.cons.map conV))), (97, some (.int D.cons.length)), (98, some (.int i))]) (fun (i, tk, tn, tq, s1, names, kids) => [.buf tq 3 1 kids.length, .buf tn 9 1 names.length, .cells g8 49 [.int 2, .int 0, intsX path, .sl 1 (some tn) (names.map V.str), .raw (.slice none 0 0), .sl 1 (some tq) (kids.map V.int)], .cells g7 3 [.int k], bcell gb gm tk s1, bbuf tk s1, .map gm (kmap kstr tab)]) (fun (i, tk, tn, tq, s1, names, kids) => i ≤ D.cons.length ∧ consL (buildM t ds f) rows paths k (D.cons.drop i) s1 names kids = consL (buildM t ds f) rows paths k D.cons (tick s) [] [] ∧ s1.full = decide (4096 < s1.many) ∧ s1.out.length ≤ s1.many ∧ s1.many ≤ 4097 + f * 1100 + i ∧ names.length ≤ i ∧ kids.length ≤ i) (0, tk, .nil, .nil, tick s, [], []) ⟨Nat.zero_le _, rfl, hst, hso, by omega, Nat.le_refl _, Nat.le_refl _⟩ ⟨rfl, rfl, rfl, rfl, rfl, rfl, rfl, rfl, rfl, trivial⟩ (Drops.buf rfl (Drops.buf rfl (Drops.keep (Drops.keep (Drops.keep (Drops.buf rfl (Drops.keep (Drops.refl _)))))))) ?_
            rintro ⟨i, tk, tn, tq, s1, names, kids⟩ hA
            change i ≤ D.cons.length ∧ consL (buildM t ds f) rows paths k (D.cons.drop i) s1 names kids = consL (buildM t ds f) rows paths k D.cons (tick s) [] [] ∧ s1.full = decide (4096 < s1.many) ∧ s1.out.length ≤ s1.many ∧ s1.many ≤ 4097 + f * 1100 + i ∧ names.length ≤ i ∧ kids.length ≤ i at hA
            obtain ⟨hi, hq, hs1, ho1, hm1, hn, hkl⟩ := hA
            refine VW_seq ?_
            refine VW_region ?_
            refine VOps_cons rfl rfl (V_bin rfl rfl rfl ?_)
            refine VOps_nil ?_
            refine Then_n ?_
            refine VW_seq ?_
            refine VW_condP rfl (fun h99 => ?_) (fun h99 => ?_)
            · skip
              obtain ⟨c, hc⟩ := get_of_lt D.cons i h99
              obtain ⟨a1, hta1⟩ := hcs c (List.mem_of_getElem? hc)
              refine VW_skip ?_
              refine Then_n ?_
              refine VW_seq ?_
              refine VW_block ?_
              refine VW_seq ?_
              refine VW_region ?_
              refine VOps_cons rfl rfl (V_indexAddr (el := conV c) VT.sl60 rfl rfl (by omega) (get_mapS _ hc) (fun a100 => ?_))
              refine VOps_cons rfl rfl (V_load_ep_agg VT.ty59 rfl rfl ?_)
              refine VOps_cons rfl rfl (V_alloc VT.zr59 _ rfl rfl (fun g11 => ?_))
              refine VOps_cons rfl rfl (V_store_agg 0 VT.ty59 rfl rfl rfl rfl rfl ?_)
              refine VOps_nil ?_
              refine Then_n ?_
              refine VW_seq ?_
              refine VW_region ?_
              refine VOps_cons rfl rfl (V_makeFunc [.tmp 11] rfl rfl ?_)
              refine VOps_cons rfl rfl (V_alloc VT.zr98 _ rfl rfl (fun g12 => ?_))
              refine VOps_cons rfl rfl (V_store 0 VT.ty98 rfl rfl rfl rfl rfl ?_)
              refine VOps_nil ?_
              refine Then_n ?_
              refine VW_seq ?_
              refine VW_region ?_
              refine VOps_cons rfl rfl (V_move rfl ?_)
              refine VOps_cons rfl rfl (V_makeFunc [.tmp 7, .tmp 12] rfl rfl ?_)
              refine VOps_cons rfl rfl (V_call [.tmp 103, .tmp 104] _ _ rfl rfl VT.en56 ((perm_erase (i := 5) rfl).trans (.cons _ (.refl _))) (mrowAny_c (p := fun r => !free (r.2.getD k anyP) && isCon c.name (r.2.getD k anyP)) VT.en57 (fun r hr => hasCon_c r k g7 g12 g11 c (hmr r hr).1)) ?_)
              rintro r Sa ⟨rfl, rfl⟩
              refine VOps_nil ?_
              refine Then_n ?_
              refine VW_cond rfl (fun h105 => ?_) (fun h105 => ?_)
              · skip
                have hh : hasCon rows k c.name = true := h105
                have hKe := buildM_keeps hok f s1 _ _ _ (con_child h ha hta1 hh) hs1
                have hKo := hKe.out
                have hKl := hKe.loop hm1
                have hca := hasCon_spec h.ty ha.ty hta1 hh
                have hNext : i + 1 ≤ D.cons.length ∧ consL (buildM t ds f) rows paths k (D.cons.drop (i + 1)) (buildM t ds f s1 (narrowM k (isCon c.name) c.args.length rows) (belowM paths k c.args.length)).1 (names ++ [c.name]) (kids ++ [((buildM t ds f s1 (narrowM k (isCon c.name) c.args.length rows) (belowM paths k c.args.length)).2 : Int)]) = consL (buildM t ds f) rows paths k D.cons (tick s) [] [] ∧ (buildM t ds f s1 (narrowM k (isCon c.name) c.args.length rows) (belowM paths k c.args.length)).1.full = decide (4096 < (buildM t ds f s1 (narrowM k (isCon c.name) c.args.length rows) (belowM paths k c.args.length)).1.many) ∧ (buildM t ds f s1 (narrowM k (isCon c.name) c.args.length rows) (belowM paths k c.args.length)).1.out.length ≤ (buildM t ds f s1 (narrowM k (isCon c.name) c.args.length rows) (belowM paths k c.args.length)).1.many ∧ (buildM t ds f s1 (narrowM k (isCon c.name) c.args.length rows) (belowM paths k c.args.length)).1.many ≤ 4097 + f * 1100 + (i + 1) ∧ ((names ++ [c.name])).length ≤ i + 1 ∧ ((kids ++ [((buildM t ds f s1 (narrowM k (isCon c.name) c.args.length rows) (belowM paths k c.args.length)).2 : Int)])).length ≤ i + 1 := ⟨by omega, by rw [← hq, drop_cons hc, consL, if_pos hh], hKe.full, by omega, hKl, by simp; omega, by simp; omega⟩
                refine VW_seq ?_
                refine VW_region ?_
                refine VOps_cons rfl rfl (V_fieldAddr VT.fa49_3 rfl ?_)
                refine VOps_cons rfl rfl (V_load 5 VT.ty47 rfl rfl rfl ?_)
                refine VOps_cons rfl rfl (V_fieldAddr VT.fa59_0 rfl ?_)
                refine VOps_cons rfl rfl (V_load 2 VT.ty9 rfl rfl rfl ?_)
                refine VOps_cons rfl rfl (V_lit [.tmp 109] VT.sl47 rfl rfl rfl rfl rfl ?_)
                refine VOps_cons rfl rfl (V_appendN 4 _ VT.sl47 rfl rfl rfl (by simp) (by simp; omega) (fun t111 => ?_))
                refine VOps_cons rfl rfl (V_fieldAddr VT.fa49_3 rfl ?_)
                refine VOps_cons rfl rfl (V_store 5 VT.ty47 rfl rfl rfl rfl rfl ?_)
                refine VOps_nil ?_
                refine Then_n ?_
                refine VW_draw (G := Tok) [([], [8], []), ([0], [113], []), ([], [0], []), ([], [1], []), ([], [7], []), ([], [12], []), ([], [11], []), ([6], [119], []), ([7, 6], [120], []), ([8, 7, 6, 5, 4, 3], [116, 117, 118, 121], []), ([], [2], []), ([], [7], []), ([], [11], []), ([12], [125], []), ([13, 12], [126], []), ([14, 13, 12, 11, 10, 9, 8, 7, 6, 5, 4, 3], [123, 124, 127], []), ([15, 14, 13, 12, 11, 10, 9, 8, 7, 6, 5, 4, 3, 2], [115, 122, 128], []), ([16, 15, 14, 13, 12, 11, 10, 9, 8, 7, 6, 5, 4, 3, 2], [129], []), ([17, 16, 15, 14, 13, 12, 11, 10, 9, 8, 7, 6, 5, 4, 3, 2, 1, 0], [114, 130], [1]), ([18, 17, 16, 15, 14, 13, 12, 11, 10, 9, 8, 7, 6, 5, 4, 3, 2, 1, 0], [8], []), ([19, 18, 17, 16, 15, 14, 13, 12, 11, 10, 9, 8, 7, 6, 5, 4, 3, 2, 1, 0], [132, 131], [])] [16, 18, 20] (threeSt _ (fun x => [bcell gb gm x (buildM t ds f s1 (narrowM k (isCon c.name) c.args.length rows) (belowM paths k c.args.length)).1, bbuf x (buildM t ds f s1 (narrowM k (isCon c.name) c.args.length rows) (belowM paths k c.args.length)).1, .map gm (kmap kstr tab), .cells g7 3 [.int k], .cells g12 98 [.clo (.func 55) [.ptr g11 0]], .cells g11 59 [.str c.name, .sl 4 none c.args], .buf tq 3 1 kids.length, .buf t111 9 1 (names.map V.str ++ [V.str c.name]).length, .cells g8 49 [.int 2, .int 0, intsX path, .sl 1 (some t111) (names.map V.str ++ [V.str c.name]), .raw (.slice none 0 0), .sl 1 (some tq) (kids.map V.int)]]) (fun x y => [bcell gb gm x (buildM t ds f s1 (narrowM k (isCon c.name) c.args.length rows) (belowM paths k c.args.length)).1, bbuf x (buildM t ds f s1 (narrowM k (isCon c.name) c.args.length rows) (belowM paths k c.args.length)).1, .map gm (kmap kstr tab), .cells g7 3 [.int k], .cells g12 98 [.clo (.func 55) [.ptr g11 0]], .cells g11 59 [.str c.name, .sl 4 none c.args], .buf y 3 1 (kids.map V.int ++ [V.int (buildM t ds f s1 (narrowM k (isCon c.name) c.args.length rows) (belowM paths k c.args.length)).2]).length, .buf t111 9 1 (names.map V.str ++ [V.str c.name]).length, .cells g8 49 [.int 2, .int 0, intsX path, .sl 1 (some t111) (names.map V.str ++ [V.str c.name]), .raw (.slice none 0 0), .sl 1 (some tq) (kids.map V.int)]]) (fun x y _ => [bcell gb gm x (buildM t ds f s1 (narrowM k (isCon c.name) c.args.length rows) (belowM paths k c.args.length)).1, bbuf x (buildM t ds f s1 (narrowM k (isCon c.name) c.args.length rows) (belowM paths k c.args.length)).1, .map gm (kmap kstr tab), .cells g7 3 [.int k], .cells g12 98 [.clo (.func 55) [.ptr g11 0]], .cells g11 59 [.str c.name, .sl 4 none c.args], .buf y 3 1 (kids.map V.int ++ [V.int (buildM t ds f s1 (narrowM k (isCon c.name) c.args.length rows) (belowM paths k c.args.length)).2]).length, .buf t111 9 1 (names.map V.str ++ [V.str c.name]).length, .cells g8 49 [.int 2, .int 0, intsX path, .sl 1 (some t111) (names.map V.str ++ [V.str c.name]), .raw (.slice none 0 0), .sl 1 (some y) (kids.map V.int ++ [V.int (buildM t ds f s1 (narrowM k (isCon c.name) c.args.length rows) (belowM paths k c.args.length)).2])]])) [] [113, 114, 115, 116, 117, 118, 119, 120, 121, 122, 123, 124, 125, 126, 127, 128, 129, 130, 131, 132] rfl VT.mix (by kernel_rfl) (by kernel_rfl) ?_
                refine DrawP_consL (acc' := [_]) (eqRes _) (goodS rfl rfl ⟨(fun γ => Needs_f (by kernel_rfl) (fun r8 h8 => Needs_nil (vopT rfl (V_fieldAddr VT.fa49_5 h8 ⟨rfl, rfl⟩)))), (fun γ => Needs_f (by kernel_rfl) (fun r8 h8 => Needs_nil (vopT rfl (V_fieldAddr VT.fa49_5 h8 ⟨rfl, rfl⟩)))), trivial⟩) rfl ?_
                refine DrawP_consL (acc' := [_, _]) (eqRes _) (goodS rfl rfl ⟨(fun γ => Needs_w 0 (by kernel_rfl) rfl (fun r113 h113 => Needs_nil (vopT rfl (V_load 5 VT.ty32 h113 rfl rfl ⟨rfl, rfl⟩)))), (fun γ => Needs_w 0 (by kernel_rfl) rfl (fun r113 h113 => Needs_nil (vopT rfl (V_load 8 VT.ty32 h113 rfl rfl ⟨rfl, rfl⟩)))), trivial⟩) rfl ?_
                refine DrawP_consL (acc' := [_, _, _]) (eqRes _) (goodS rfl rfl ⟨(fun γ => Needs_f (by kernel_rfl) (fun r0 h0 => Needs_nil (vopT rfl (V_move h0 ⟨rfl, rfl⟩)))), trivial⟩) rfl ?_
                refine DrawP_consL (acc' := [_, _, _, _]) (eqRes _) (goodS rfl rfl ⟨(fun γ => Needs_f (by kernel_rfl) (fun r1 h1 => Needs_nil (vopT rfl (V_move h1 ⟨rfl, rfl⟩)))), trivial⟩) rfl ?_
                refine DrawP_consL (acc' := [_, _, _, _, _]) (eqRes _) (goodS rfl rfl ⟨(fun γ => Needs_f (by kernel_rfl) (fun r7 h7 => Needs_nil (vopT rfl (V_load 0 VT.ty3 h7 rfl rfl ⟨rfl, rfl⟩)))), trivial⟩) rfl ?_
                refine DrawP_consL (acc' := [_, _, _, _, _, _]) (eqRes _) (goodS rfl rfl ⟨(fun γ => Needs_f (by kernel_rfl) (fun r12 h12 => Needs_nil (vopT rfl (V_load 1 VT.ty98 h12 rfl rfl ⟨rfl, rfl⟩)))), trivial⟩) rfl ?_
                refine DrawP_consL (acc' := [_, _, _, _, _, _, _]) (eqRes _) (goodS rfl rfl ⟨(fun γ => Needs_f (by kernel_rfl) (fun r11 h11 => Needs_nil (vopT rfl (V_fieldAddr VT.fa59_1 h11 ⟨rfl, rfl⟩)))), trivial⟩) rfl ?_
                refine DrawP_consL (acc' := [_, _, _, _, _, _, _, _]) (eqRes _) (goodS rfl rfl ⟨(fun γ => Needs_w 6 (by kernel_rfl) rfl (fun r119 h119 => Needs_nil (vopT rfl (V_load 2 VT.ty57 h119 rfl rfl ⟨rfl, rfl⟩)))), trivial⟩) rfl ?_
                refine DrawP_consL (acc' := [_, _, _, _, _, _, _, _, _]) (eqRes _) (goodS rfl rfl ⟨(fun γ => Needs_w 7 (by kernel_rfl) rfl (fun r120 h120 => Needs_nil (vopT rfl (V_lenN (n := c.args.length) Try.underlying57 h120 (by simp) (fun hl121 => ⟨rfl, rfl⟩))))), trivial⟩) rfl ?_
                refine DrawP_consL (acc' := [_, _, _, _, _, _, _, _, _, _]) (eqRes _) (goodS rfl rfl ⟨(fun γ => Needs_w 3 (by kernel_rfl) rfl (fun r116 h116 => Needs_w 4 (by kernel_rfl) rfl (fun r117 h117 => Needs_w 5 (by kernel_rfl) rfl (fun r118 h118 => Needs_w 8 (by kernel_rfl) rfl (fun r121 h121 => Needs_nil (vopT rfl (V_callK 2 [.tmp 116, .tmp 117, .tmp 118, .tmp 121] rfl (evs_cons h116 (evs_cons h117 (evs_cons h118 (evs_cons h121 evs_nil)))) VT.en58 rfl (mnarrow_c VT.en55 (fun q => isCon_c q c g11) rows k c.args.length hmr (by omega) (by omega)) ⟨rfl, rfl⟩))))))), trivial⟩) rfl ?_
                refine DrawP_consL (acc' := [_, _, _, _, _, _, _, _, _, _, _]) (eqRes _) (goodS rfl rfl ⟨(fun γ => Needs_f (by kernel_rfl) (fun r2 h2 => Needs_nil (vopT rfl (V_move h2 ⟨rfl, rfl⟩)))), trivial⟩) rfl ?_
                refine DrawP_consL (acc' := [_, _, _, _, _, _, _, _, _, _, _, _]) (eqRes _) (goodS rfl rfl ⟨(fun γ => Needs_f (by kernel_rfl) (fun r7 h7 => Needs_nil (vopT rfl (V_load 0 VT.ty3 h7 rfl rfl ⟨rfl, rfl⟩)))), trivial⟩) rfl ?_
                refine DrawP_consL (acc' := [_, _, _, _, _, _, _, _, _, _, _, _, _]) (eqRes _) (goodS rfl rfl ⟨(fun γ => Needs_f (by kernel_rfl) (fun r11 h11 => Needs_nil (vopT rfl (V_fieldAddr VT.fa59_1 h11 ⟨rfl, rfl⟩)))), trivial⟩) rfl ?_
                refine DrawP_consL (acc' := [_, _, _, _, _, _, _, _, _, _, _, _, _, _]) (eqRes _) (goodS rfl rfl ⟨(fun γ => Needs_w 12 (by kernel_rfl) rfl (fun r125 h125 => Needs_nil (vopT rfl (V_load 2 VT.ty57 h125 rfl rfl ⟨rfl, rfl⟩)))), trivial⟩) rfl ?_
                refine DrawP_consL (acc' := [_, _, _, _, _, _, _, _, _, _, _, _, _, _, _]) (eqRes _) (goodS rfl rfl ⟨(fun γ => Needs_w 13 (by kernel_rfl) rfl (fun r126 h126 => Needs_nil (vopT rfl (V_lenN (n := c.args.length) Try.underlying57 h126 (by simp) (fun hl127 => ⟨rfl, rfl⟩))))), trivial⟩) rfl ?_
                refine DrawP_consL (acc' := [_, _, _, _, _, _, _, _, _, _, _, _, _, _, _, _]) (eqRes _) (goodS rfl rfl ⟨(fun γ => Needs_w 10 (by kernel_rfl) rfl (fun r123 h123 => Needs_w 11 (by kernel_rfl) rfl (fun r124 h124 => Needs_w 14 (by kernel_rfl) rfl (fun r127 h127 => Needs_nil (vopT rfl (V_callP [.tmp 123, .tmp 124, .tmp 127] rfl (evs_cons h123 (evs_cons h124 (evs_cons h127 evs_nil))) VT.en59 (below_c paths k c.args.length hk1 hk22 hk3 (by omega)) ⟨rfl, rfl⟩)))))), trivial⟩) rfl ?_
                refine DrawP_consL (acc' := [_, _, _, _, _, _, _, _, _, _, _, _, _, _, _, _, _]) (eqRes _) (goodU 0 rfl (fun γ => Needs_w 2 (by kernel_rfl) rfl (fun r115 h115 => Needs_w 9 (by kernel_rfl) rfl (fun r122 h122 => Needs_w 15 (by kernel_rfl) rfl (fun r128 h128 => Needs_nil (vopT rfl (V_callTok [.tmp 115, .tmp 122, .tmp 128] _ _ rfl (evs_cons h115 (evs_cons h122 (evs_cons h128 evs_nil))) VT.en31 ((perm_erase (i := 6) rfl).trans (.cons _ ((perm_erase (i := 6) rfl).trans (.cons _ ((perm_erase (i := 6) rfl).trans (.cons _ (.refl _))))))) (ih gb gm tk tab s1 _ _ _ htab (con_child h ha hta1 hh) hs1 ho1 (by omega) (by omega)) (fun t129 => ⟨t129, rfl, rfl⟩)))))))) rfl ?_
                refine DrawP_consL (acc' := [_, _, _, _, _, _, _, _, _, _, _, _, _, _, _, _, _, _]) (eqRes _) (goodS rfl rfl ⟨(fun γ => Needs_w 16 (by kernel_rfl) rfl (fun r129 h129 => Needs_nil (vopT rfl (V_lit [.tmp 129] VT.sl32 rfl rfl rfl (evs_cons h129 evs_nil) rfl ⟨rfl, rfl⟩)))), trivial⟩) rfl ?_
                refine DrawP_consL (acc' := [_, _, _, _, _, _, _, _, _, _, _, _, _, _, _, _, _, _, _]) (oneRes (fun y => .sl 1 (some y) (kids.map V.int ++ [V.int (buildM t ds f s1 (narrowM k (isCon c.name) c.args.length rows) (belowM paths k c.args.length)).2]))) (goodU 1 rfl (fun γ => Needs_w 1 (by kernel_rfl) rfl (fun r114 h114 => Needs_w 17 (by kernel_rfl) rfl (fun r130 h130 => Needs_nil (vopT rfl (V_appendN 6 _ VT.sl32 h114 h130 rfl (by simp) (by simp; omega) (fun t131 => ⟨t131, ⟨t131, rfl, rfl⟩, rfl⟩))))))) rfl ?_
                refine DrawP_consL (acc' := [_, _, _, _, _, _, _, _, _, _, _, _, _, _, _, _, _, _, _, _]) (eqRes _) (goodS rfl rfl ⟨(fun γ => Needs_f (by kernel_rfl) (fun r8 h8 => Needs_nil (vopT rfl (V_fieldAddr VT.fa49_5 h8 ⟨rfl, rfl⟩)))), trivial⟩) rfl ?_
                refine DrawP_consL (acc' := [_, _, _, _, _, _, _, _, _, _, _, _, _, _, _, _, _, _, _, _, _]) anyRes (goodU 2 rfl (fun γ => Needs_w 19 (by kernel_rfl) rfl (fun r132 h132 => Needs_w 18 (by kernel_rfl) rfl (fun r131 h131 => Needs_nil (oneE h131 (fun e131 => vopT rfl (V_store 8 VT.ty32 h132 e131 rfl rfl rfl ⟨default, trivial, rfl⟩))))))) rfl ?_
                refine DrawP_nil (fun γ => Needs_nil ?_)
                refine InBlock_n (Then_n ?_)
                refine VW_region ?_
                refine VOps_cons rfl rfl (V_add rfl rfl (by omega) ?_)
                refine VOps_cons rfl rfl (V_move rfl ?_)
                refine VOps_nil ?_
                refine Then_n ?_
                exact ⟨(i + 1, (γ 0), t111, (γ 1), (buildM t ds f s1 (narrowM k (isCon c.name) c.args.length rows) (belowM paths k c.args.length)).1, names ++ [c.name], kids ++ [((buildM t ds f s1 (narrowM k (isCon c.name) c.args.length rows) (belowM paths k c.args.length)).2 : Int)]), (by (try simp only []); omega), (by first | exact hNext | exact hSkip), ⟨rfl, rfl, rfl, rfl, rfl, rfl, rfl, rfl, rfl, trivial⟩, (Drops.pickBuf 6 rfl (by first | rfl | (simp; done)) (Drops.pickBuf 6 rfl (by first | rfl | (simp; done)) (Drops.pick 6 rfl (by first | rfl | (simp; done)) (Drops.pick 3 rfl rfl (Drops.pick 0 rfl rfl (Drops.pickBuf 0 rfl rfl (Drops.pick 0 rfl rfl (Drops.nil _))))))))⟩
              · skip
                have hh : ¬ hasCon rows k c.name = true := by show ¬ (rows.any _) = true; rw [h105]; simp
                have hSkip : i + 1 ≤ D.cons.length ∧ consL (buildM t ds f) rows paths k (D.cons.drop (i + 1)) s1 names kids = consL (buildM t ds f) rows paths k D.cons (tick s) [] [] ∧ s1.full = decide (4096 < s1.many) ∧ s1.out.length ≤ s1.many ∧ s1.many ≤ 4097 + f * 1100 + (i + 1) ∧ (names).length ≤ i + 1 ∧ (kids).length ≤ i + 1 := ⟨by omega, by rw [← hq, drop_cons hc, consL, if_neg hh], hs1, ho1, by omega, by omega, by omega⟩
                refine VW_skip ?_
                refine InBlock_n (Then_n ?_)
                refine VW_region ?_
                refine VOps_cons rfl rfl (V_add rfl rfl (by omega) ?_)
                refine VOps_cons rfl rfl (V_move rfl ?_)
                refine VOps_nil ?_
                refine Then_n ?_
                exact ⟨(i + 1, tk, tn, tq, s1, names, kids), (by (try simp only []); omega), (by first | exact hNext | exact hSkip), ⟨rfl, rfl, rfl, rfl, rfl, rfl, rfl, rfl, rfl, trivial⟩, (Drops.pickBuf 3 rfl (by first | rfl | (simp; done)) (Drops.pickBuf 3 rfl (by first | rfl | (simp; done)) (Drops.pick 3 rfl (by first | rfl | (simp; done)) (Drops.pick 0 rfl rfl (Drops.pick 2 rfl rfl (Drops.pickBuf 2 rfl rfl (Drops.pick 2 rfl rfl (Drops.nil _))))))))⟩
            · skip
              have hie : i = D.cons.length := by omega
              subst hie
              rw [List.drop_length, consL] at hq
              refine VW_exit ?_
              refine Then_e (Then_e (InBlock_hit ?_))
              refine Then_n ?_
              refine VW_seq ?_
              refine VW_region ?_
              refine VOps_cons rfl rfl (V_assign rfl ?_)
              refine VOps_nil ?_
              refine Then_n ?_
              refine VW_seq ?_
              refine VW_seq ?_
              refine VW_draw (G := Unit) [([], [8], []), ([0], [134], []), ([1, 0], [135], []), ([], [9], []), ([3], [137], []), ([4, 3], [138], []), ([5, 4, 3], [139], []), ([6, 5, 4, 3], [140], []), ([7, 6, 5, 4, 3, 2, 1, 0], [136, 141], [])] [] (constSt _) [142] [134, 135, 136, 137, 138, 139, 140, 141, 142] rfl VT.mix (by kernel_rfl) (by kernel_rfl) ?_
              refine DrawP_consL (acc' := [_]) (eqRes _) (good0 (fun γ => Needs_f (by kernel_rfl) (fun r8 h8 => Needs_nil (vopT rfl (V_fieldAddr VT.fa49_3 h8 ⟨rfl, rfl⟩))))) rfl ?_
              refine DrawP_consL (acc' := [_, _]) (eqRes _) (good0 (fun γ => Needs_w 0 (by kernel_rfl) rfl (fun r134 h134 => Needs_nil (vopT rfl (V_load 2 VT.ty47 h134 rfl rfl ⟨rfl, rfl⟩))))) rfl ?_
              refine DrawP_consL (acc' := [_, _, _]) (eqRes _) (good0 (fun γ => Needs_w 1 (by kernel_rfl) rfl (fun r135 h135 => Needs_nil (vopT rfl (V_lenN (n := names.length) Try.underlying47 h135 (by simp) (fun hl136 => ⟨rfl, rfl⟩)))))) rfl ?_
              refine DrawP_consL (acc' := [_, _, _, _]) (eqRes _) (good0 (fun γ => Needs_f (by kernel_rfl) (fun r9 h9 => Needs_nil (vopT rfl (V_move h9 ⟨rfl, rfl⟩))))) rfl ?_
              refine DrawP_consL (acc' := [_, _, _, _, _]) (epRes _) (good0 (fun γ => Needs_w 3 (by kernel_rfl) rfl (fun r137 h137 => Needs_nil (vopT rfl (V_nilCheck_ep h137 ⟨⟨_, rfl⟩, rfl⟩))))) rfl ?_
              refine DrawP_consL (acc' := [_, _, _, _, _, _]) (epRes _) (good0 (fun γ => Needs_w 4 (by kernel_rfl) rfl (fun r138 h138 => Needs_nil (epE h138 (fun a_138 e138 => vopT rfl (V_fieldAddr_ep VT.fa62_2 e138 rfl ⟨⟨_, rfl⟩, rfl⟩)))))) rfl ?_
              refine DrawP_consL (acc' := [_, _, _, _, _, _, _]) (eqRes _) (good0 (fun γ => Needs_w 5 (by kernel_rfl) rfl (fun r139 h139 => Needs_nil (epE h139 (fun a_139 e139 => vopT rfl (V_load_ep VT.ty60 e139 rfl ⟨rfl, rfl⟩)))))) rfl ?_
              refine DrawP_consL (acc' := [_, _, _, _, _, _, _, _]) (eqRes _) (good0 (fun γ => Needs_w 6 (by kernel_rfl) rfl (fun r140 h140 => Needs_nil (vopT rfl (V_lenN (n := D.cons.length) Try.underlying60 h140 (by simp) (fun hl141 => ⟨rfl, rfl⟩)))))) rfl ?_
              refine DrawP_consL (acc' := [_, _, _, _, _, _, _, _, _]) (eqRes _) (good0 (fun γ => Needs_w 2 (by kernel_rfl) rfl (fun r136 h136 => Needs_w 7 (by kernel_rfl) rfl (fun r141 h141 => Needs_nil (vopT rfl (V_bin h136 h141 rfl ⟨rfl, rfl⟩)))))) rfl ?_
              refine DrawP_nil (fun γ => Needs_w 8 (by kernel_rfl) rfl (fun r142 h142 => Needs_nil ?_))
              have e142 : r142 = some _ := h142
              subst e142
              clear h142
              refine Then_n ?_
              refine VW_condP rfl (fun h142 => ?_) (fun h142 => ?_)
              · skip
                have hKe := buildM_keeps hok f s1 _ _ _ (other_child h ha) hs1
                have hKo := hKe.out
                have hKl := hKe.loop hm1
                obtain ⟨xx, hxx⟩ : ∃ xx : Int, xx = ((otherF (buildM t ds f) s1 rows paths k).2 : Int) := ⟨_, rfl⟩
                have hcf : consF (buildM t ds f) D.cons (tick s) rows paths k = addF (otherF (buildM t ds f) s1 rows paths k).1 ⟨2, 0, path, names, [], kids ++ [xx]⟩ := by unfold consF; simp only [← hq, hpg]; rw [if_pos (by omega), hxx]
                have hol : (otherF (buildM t ds f) s1 rows paths k).1.out.length ≤ 1000000 := by unfold otherF; omega
                refine VW_region ?_
                refine VOps_cons rfl rfl (V_move rfl ?_)
                refine VOps_cons rfl rfl (V_move rfl ?_)
                refine VOps_cons rfl rfl (V_move rfl ?_)
                refine VOps_cons rfl rfl (V_load 3 VT.ty3 rfl rfl rfl ?_)
                refine VOps_cons rfl rfl (V_callTok [.tmp 143, .tmp 144, .tmp 145, .tmp 146] _ _ rfl rfl VT.en60 ((perm_erase (i := 4) rfl).trans (.cons _ ((perm_erase (i := 4) rfl).trans (.cons _ ((perm_erase (i := 4) rfl).trans (.cons _ (.refl _))))))) (other_c ih gb gm tk tab s1 rows paths τs k p _ htab h ha hs1 ho1 (by omega) (by omega)) (fun t147 => ?_))
                refine VOps_cons rfl rfl (V_assign rfl ?_)
                refine VOps_nil ?_
                refine Then_n ?_
                refine VW_seq ?_
                refine VW_region ?_
                refine VOps_cons rfl rfl (V_fieldAddr VT.fa49_5 rfl ?_)
                refine VOps_cons rfl rfl (V_load 5 VT.ty32 rfl rfl rfl ?_)
                refine VOps_cons rfl rfl (V_move rfl ?_)
                refine VOps_cons rfl rfl (V_lit [.tmp 150] VT.sl32 rfl rfl rfl rfl rfl ?_)
                refine VOps_cons rfl rfl (V_appendN 3 _ VT.sl32 rfl rfl rfl (by simp) (by simp; omega) (fun t152 => ?_))
                refine VOps_cons rfl rfl (V_fieldAddr VT.fa49_5 rfl ?_)
                refine VOps_cons rfl rfl (V_store 5 VT.ty32 rfl rfl rfl rfl rfl ?_)
                refine VOps_nil ?_
                refine Then_n ?_
                refine VW_seq ?_
                refine VW_region ?_
                refine VOps_cons rfl rfl (V_move rfl ?_)
                refine VOps_cons rfl rfl (VOp_as (V_load_agg 5 VT.ty49 rfl rfl rfl ⟨rfl, rfl⟩) (V.le.agg (ys := [.int 2, .int 0, intsX path, strsX names, intsX [], intsX (kids ++ [xx])]) ⟨V.le.refl _, rfl, V.le.refl _, rfl, V.le.refl _, rfl, V.le.strip, rfl, V.le.nil 1, rfl, (by rw [hxx]; simp only [intsX, List.map_append]; exact V.le.strip), rfl, trivial⟩) ?_)
                refine VOps_cons rfl rfl (V_callTok [.tmp 154, .tmp 155] _ _ rfl rfl VT.en50 (.refl _) (add_c gb gm _ _ ⟨2, 0, path, names, [], kids ++ [xx]⟩ hol) (fun t156 => ?_))
                refine VOps_cons rfl rfl (V_assign rfl ?_)
                refine VOps_nil ?_
                refine Then_n ?_
                refine VW_ret ?_
                refine VRet_one rfl (.tmp rfl) ?_
                rw [hbe, hcf]
                first | exact ⟨_, Drops.pick 0 rfl rfl (Drops.pick 0 rfl rfl (Drops.pick 0 rfl rfl (Drops.nil _))), t156, rfl, rfl⟩ | exact ⟨_, Drops.pick 0 rfl rfl (Drops.pick 0 rfl rfl (Drops.pick 4 rfl rfl (Drops.nil _))), t156, rfl, rfl⟩
              · skip
                obtain ⟨xx, hxx⟩ : ∃ xx : Int, xx = -1 := ⟨_, rfl⟩
                have hcf : consF (buildM t ds f) D.cons (tick s) rows paths k = addF s1 ⟨2, 0, path, names, [], kids ++ [xx]⟩ := by unfold consF; simp only [← hq, hpg]; rw [if_neg (by omega), hxx]
                have hol : s1.out.length ≤ 1000000 := by omega
                refine VW_skip ?_
                refine Then_n ?_
                refine VW_seq ?_
                refine VW_region ?_
                refine VOps_cons rfl rfl (V_fieldAddr VT.fa49_5 rfl ?_)
                refine VOps_cons rfl rfl (V_load 2 VT.ty32 rfl rfl rfl ?_)
                refine VOps_cons rfl rfl (V_move rfl ?_)
                refine VOps_cons rfl rfl (V_lit [.tmp 150] VT.sl32 rfl rfl rfl rfl rfl ?_)
                refine VOps_cons rfl rfl (V_appendN 0 _ VT.sl32 rfl rfl rfl (by simp) (by simp; omega) (fun t152 => ?_))
                refine VOps_cons rfl rfl (V_fieldAddr VT.fa49_5 rfl ?_)
                refine VOps_cons rfl rfl (V_store 2 VT.ty32 rfl rfl rfl rfl rfl ?_)
                refine VOps_nil ?_
                refine Then_n ?_
                refine VW_seq ?_
                refine VW_region ?_
                refine VOps_cons rfl rfl (V_move rfl ?_)
                refine VOps_cons rfl rfl (VOp_as (V_load_agg 2 VT.ty49 rfl rfl rfl ⟨rfl, rfl⟩) (V.le.agg (ys := [.int 2, .int 0, intsX path, strsX names, intsX [], intsX (kids ++ [xx])]) ⟨V.le.refl _, rfl, V.le.refl _, rfl, V.le.refl _, rfl, V.le.strip, rfl, V.le.nil 1, rfl, (by rw [hxx]; simp only [intsX, List.map_append]; exact V.le.strip), rfl, trivial⟩) ?_)
                refine VOps_cons rfl rfl (V_callTok [.tmp 154, .tmp 155] _ _ rfl rfl VT.en50 ((perm_erase (i := 4) rfl).trans (.cons _ ((perm_erase (i := 4) rfl).trans (.cons _ (.refl _))))) (add_c gb gm _ _ ⟨2, 0, path, names, [], kids ++ [xx]⟩ hol) (fun t156 => ?_))
                refine VOps_cons rfl rfl (V_assign rfl ?_)
                refine VOps_nil ?_
                refine Then_n ?_
                refine VW_ret ?_
                refine VRet_one rfl (.tmp rfl) ?_
                rw [hbe, hcf]
                first | exact ⟨_, Drops.pick 0 rfl rfl (Drops.pick 0 rfl rfl (Drops.pick 0 rfl rfl (Drops.nil _))), t156, rfl, rfl⟩ | exact ⟨_, Drops.pick 0 rfl rfl (Drops.pick 0 rfl rfl (Drops.pick 4 rfl rfl (Drops.nil _))), t156, rfl, rfl⟩


theorem build_c {t : Tab} {ds : List DataSig} (hok : TabOk t ds) : ∀ (f : Nat), f ≤ 401 → BuildC t ds f
  | 0, _ => fun _ _ _ _ _ _ _ _ _ h => absurd h.fuel (Nat.not_lt_zero _)
  | f + 1, hf => build_step hok (by omega) (build_c hok f (by omega))

end Go.Proofs.Ytmjeaagpcmfnpaa.W19
