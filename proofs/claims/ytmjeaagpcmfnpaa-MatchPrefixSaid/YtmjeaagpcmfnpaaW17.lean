/- Walks, printed by walk.py. -/
import Derived.Test.YtmjeaagpcmfnpaaVT
import Derived.Test.YtmjeaagpcmfnpaaVDA
import Derived.Test.YtmjeaagpcmfnpaaVB
import Derived.Test.YtmjeaagpcmfnpaaVMA
import Derived.Test.YtmjeaagpcmfnpaaW1
import Derived.Test.YtmjeaagpcmfnpaaW2
import Derived.Test.YtmjeaagpcmfnpaaW16
set_option linter.unusedVariables false
set_option linter.unusedSimpArgs false
namespace Go.Proofs.Ytmjeaagpcmfnpaa.W17
open Go.VL Go.PM Go.Proofs.Ytmjeaagpcmfnpaa Go.Proofs.Ytmjeaagpcmfnpaa.W1 Go.Proofs.Ytmjeaagpcmfnpaa.W2 Go.Proofs.Ytmjeaagpcmfnpaa.W16

theorem mfree_at {p : Pat} {b : Bool} (h : free p = b) : VPure Try.prog 53 [patX p] (.bool b) := h ▸ mfree_c p
theorem narrowM_snoc (k : Nat) (is : Pat → Bool) (many : Nat) (l : List MRow) (r : MRow) {p : Pat} (h : r.2[k]? = some p) : narrowM k is many (l ++ [r]) = narrowM k is many l ++ (if (free p || is p) = true then [(r.1, newPats k many p r.2)] else []) := by
  have e := narrowM_cons k is many r [] h
  unfold narrowM at e ⊢
  rw [List.filterMap_append, e]
  rfl
theorem narrowM_len (k : Nat) (is : Pat → Bool) (many : Nat) (l : List MRow) : (narrowM k is many l).length ≤ l.length := List.length_filterMap_le _ _
theorem belowM_snoc {paths : List (List Int)} {k i : Nat} {p : List Int} (h : paths[k]? = some p) : belowM paths k (i + 1) = belowM paths k i ++ [p ++ [(i : Int)]] := by
  have hg : paths.getD k [] = p := by simp [h]
  unfold belowM
  rw [List.range_succ, List.map_append, hg]
  simp
theorem belowM_zero (paths : List (List Int)) (k : Nat) : [paths.take k, paths.drop (k + 1)].flatten = belowM paths k 0 := by simp [belowM]

/-- What a call of 'build' brings about. -/
def BuildC (t : Tab) (ds : List DataSig) (f : Nat) : Prop := ∀ (gb gm : Nat) (tk : Tok) (tab : List (Str × V)) (s : BSt) (rows : List MRow) (paths : List (List Int)) (τs : List Ty), ConTab t ds tab → MPre t f rows paths τs → s.full = decide (4096 < s.many) → s.out.length ≤ s.many → s.many ≤ 4097 + (f + 1) * 1100 → f ≤ 401 →
  VTok Try.prog 31 [.ptr gb 0, mrowsX rows, pathsX paths] [bcell gb gm tk s, bbuf tk s, .map gm (kmap kstr tab)] (.int (buildM t ds f s rows paths).2) fun tk' => [bcell gb gm tk' (buildM t ds f s rows paths).1, bbuf tk' (buildM t ds f s rows paths).1, .map gm (kmap kstr tab)]
theorem mpre_rows {t : Tab} {f : Nat} {rows : List MRow} {paths : List (List Int)} {τs : List Ty} {k : Nat} {p : Pat} {τ : Ty} (h : MPre t f rows paths τs) (ha : AtHead t rows τs k p τ) : ∀ r ∈ rows, k < r.2.length ∧ r.2.length ≤ 400000 ∧ ∀ q, r.2[k]? = some q → free q = false → q.kind = 3 → q.args.length ≤ 100000 := fun r hr => by
  have hT := h.ty r hr
  have hw := h.wide
  refine ⟨ha.all r hr, by rw [hT.len]; omega, fun q hq _ hk => ?_⟩
  obtain ⟨_, _, _, _, _, h4, _⟩ := con_ty (rowT.get hT k τ q ha.ty hq) hk
  omega
theorem mpre_paths {t : Tab} {f : Nat} {rows : List MRow} {paths : List (List Int)} {τs : List Ty} {k : Nat} {p : Pat} {τ : Ty} (h : MPre t f rows paths τs) (ha : AtHead t rows τs k p τ) : k < paths.length ∧ (∀ p ∈ paths, p ≠ [] ∧ p.length ≤ 100000) ∧ paths.length ≤ 500000 := by
  have hw := h.wide
  have hp := h.plen
  have hk := (List.getElem?_eq_some_iff.1 ha.ty).1
  exact ⟨by omega, fun p hp => ⟨(h.deep p hp).1, by have := (h.deep p hp).2; omega⟩, by omega⟩

abbrev tcell (g : Nat) (kind : Int) (path : List Int) (tn tw tk : V) : Own := .cells g 49 [.int kind, .int 0, intsX path, tn, tw, tk]
theorem wordsL_bound {t : Tab} {ds : List DataSig} (hok : TabOk t ds) {f : Nat} {rows : List MRow} {paths : List (List Int)} {τs : List Ty} {k : Nat} {p : Pat} {τ : Ty} (h : MPre t (f + 1) rows paths τs) (ha : AtHead t rows τs k p τ) (hk : p.kind = 2) (n : Int) (s : BSt) (hs : s.full = decide (4096 < s.many)) : Keeps f s (buildM t ds f s (narrowM k (isInt n) 0 rows) (belowM paths k 0)).1 :=
  buildM_keeps hok f s _ _ _ (word_child (isInt n) h ha hk) hs

set_option maxRecDepth 100000 in
set_option maxHeartbeats 2000000 in
theorem add_c (gb gm : Nat) (tk : Tok) (s : BSt) (n : MNode) (hl : s.out.length ≤ 1000000) : VTok Try.prog 50 [.ptr gb 0, nodeX n] [bcell gb gm tk s, bbuf tk s] (.int (addF s n).2) fun tk' => [bcell gb gm tk' (addF s n).1, bbuf tk' (addF s n).1] := by
  unfold VTok
  refine VCalls_drops ?_
  refine V_start (nt := 31) Try.func50 rfl rfl rfl ?_
  refine VW_seq ?_
  refine VW_region ?_
  refine VOps_cons rfl rfl (V_box rfl rfl (fun g3 => ?_))
  refine VOps_cons rfl rfl (V_assign rfl ?_)
  refine VOps_nil ?_
  refine Then_n ?_
  refine VW_seq ?_
  refine VW_seq ?_
  refine VW_region ?_
  refine VOps_cons rfl rfl (V_move rfl ?_)
  refine VOps_cons rfl rfl (V_nilCheck rfl ?_)
  refine VOps_cons rfl rfl (V_fieldAddr VT.fa76_1 rfl ?_)
  refine VOps_cons rfl rfl (V_load 1 VT.ty40 rfl rfl rfl ?_)
  refine VOps_cons rfl rfl (V_makeFunc [.tmp 3] rfl rfl ?_)
  refine VOps_cons rfl rfl (V_callK 0 [.tmp 9, .tmp 10] rfl rfl VT.en80 rfl (nodeIdx_c (p := fun x => sameN x n) VT.en81 (fun x _ => same1_c x n g3)) ?_)
  refine VOps_cons rfl rfl (V_assign rfl ?_)
  refine VOps_nil ?_
  refine Then_n ?_
  refine VW_seq ?_
  refine VW_region ?_
  refine VOps_cons rfl rfl (V_move rfl ?_)
  refine VOps_cons rfl rfl (V_bin rfl rfl rfl ?_)
  refine VOps_nil ?_
  refine Then_n ?_
  refine VW_condP rfl (fun h13 => ?_) (fun h13 => ?_)
  · skip
    refine VW_seq ?_
    refine VW_region ?_
    refine VOps_cons rfl rfl (V_move rfl ?_)
    refine VOps_cons rfl rfl (V_assign rfl ?_)
    refine VOps_nil ?_
    refine Then_n ?_
    refine VW_ret ?_
    refine Then_r (VRet_one rfl (.tmp rfl) ?_)
    refine ⟨_, Drops.drop (Drops.refl _), tk, ?_, ?_⟩
    · rw [addF, if_pos h13]; exact congrArg V.int (by simp only; omega)
    · rw [addF, if_pos h13]
  · skip
    refine VW_skip ?_
    refine Then_n ?_
    refine VW_seq ?_
    refine VW_draw (G := Tok) [([], [0], []), ([], [0], []), ([1], [16], []), ([2, 1], [17], []), ([3, 2, 1], [18], []), ([], [3], []), ([5], [20], []), ([6, 5, 4, 3, 2, 1], [19, 21], [0]), ([7, 6, 5, 4, 3, 2, 1, 0], [15], []), ([8, 7, 6, 5, 4, 3, 2, 1, 0], [23], []), ([9, 8, 7, 6, 5, 4, 3, 2, 1, 0], [24, 22], [])] [7, 10] (twoSt _ (fun x => [.cells g3 49 [.int n.kind, .int n.row, intsX n.path, strsX n.names, intsX n.words, intsX n.kids], bcell gb gm tk s, .buf x 49 6 (s.out.map nodeX ++ [nodeX n]).length]) (fun x _ => [.cells g3 49 [.int n.kind, .int n.row, intsX n.path, strsX n.names, intsX n.words, intsX n.kids], .cells gb 76 [.raw (.map (some gm)), .sl 6 (some x) (s.out.map nodeX ++ [nodeX n]), .int s.many, .bool s.full], .buf x 49 6 (s.out.map nodeX ++ [nodeX n]).length])) [] [15, 16, 17, 18, 19, 20, 21, 22, 23, 24] rfl VT.mix (by kernel_rfl) (by kernel_rfl) ?_
    refine DrawP_consL (acc' := [_]) (eqRes _) (goodS rfl rfl ⟨(fun γ => Needs_f (by kernel_rfl) (fun r0 h0 => Needs_nil (vopT rfl (V_move h0 ⟨rfl, rfl⟩)))), (fun γ => Needs_f (by kernel_rfl) (fun r0 h0 => Needs_nil (vopT rfl (V_move h0 ⟨rfl, rfl⟩)))), trivial⟩) rfl ?_
    refine DrawP_consL (acc' := [_, _]) (eqRes _) (goodS rfl rfl ⟨(fun γ => Needs_f (by kernel_rfl) (fun r0 h0 => Needs_nil (vopT rfl (V_move h0 ⟨rfl, rfl⟩)))), trivial⟩) rfl ?_
    refine DrawP_consL (acc' := [_, _, _]) (eqRes _) (goodS rfl rfl ⟨(fun γ => Needs_w 1 (by kernel_rfl) rfl (fun r16 h16 => Needs_nil (vopT rfl (V_nilCheck h16 ⟨rfl, rfl⟩)))), trivial⟩) rfl ?_
    refine DrawP_consL (acc' := [_, _, _, _]) (eqRes _) (goodS rfl rfl ⟨(fun γ => Needs_w 2 (by kernel_rfl) rfl (fun r17 h17 => Needs_nil (vopT rfl (V_fieldAddr VT.fa76_1 h17 ⟨rfl, rfl⟩)))), trivial⟩) rfl ?_
    refine DrawP_consL (acc' := [_, _, _, _, _]) (eqRes _) (goodS rfl rfl ⟨(fun γ => Needs_w 3 (by kernel_rfl) rfl (fun r18 h18 => Needs_nil (vopT rfl (V_load 1 VT.ty40 h18 rfl rfl ⟨rfl, rfl⟩)))), trivial⟩) rfl ?_
    refine DrawP_consL (acc' := [_, _, _, _, _, _]) (eqRes _) (goodS rfl rfl ⟨(fun γ => Needs_f (by kernel_rfl) (fun r3 h3 => Needs_nil (vopT rfl (V_load_agg 0 VT.ty49 h3 rfl rfl ⟨rfl, rfl⟩)))), trivial⟩) rfl ?_
    refine DrawP_consL (acc' := [_, _, _, _, _, _, _]) (eqRes _) (goodS rfl rfl ⟨(fun γ => Needs_w 5 (by kernel_rfl) rfl (fun r20 h20 => Needs_nil (vopT rfl (V_lit [.tmp 20] VT.sl40 rfl rfl rfl (evs_cons h20 evs_nil) rfl ⟨rfl, rfl⟩)))), trivial⟩) rfl ?_
    refine DrawP_consL (acc' := [_, _, _, _, _, _, _, _]) (oneRes (fun x => .sl 6 (some x) (s.out.map nodeX ++ [nodeX n]))) (goodU 0 rfl (fun γ => Needs_w 4 (by kernel_rfl) rfl (fun r19 h19 => Needs_w 6 (by kernel_rfl) rfl (fun r21 h21 => Needs_nil (vopT rfl (V_appendN 2 _ VT.sl40 h19 h21 rfl (by simp) (by simp; omega) (fun t22 => ⟨t22, ⟨t22, rfl, rfl⟩, rfl⟩))))))) rfl ?_
    refine DrawP_consL (acc' := [_, _, _, _, _, _, _, _, _]) (eqRes _) (goodS rfl rfl ⟨(fun γ => Needs_w 0 (by kernel_rfl) rfl (fun r15 h15 => Needs_nil (vopT rfl (V_nilCheck h15 ⟨rfl, rfl⟩)))), trivial⟩) rfl ?_
    refine DrawP_consL (acc' := [_, _, _, _, _, _, _, _, _, _]) (eqRes _) (goodS rfl rfl ⟨(fun γ => Needs_w 8 (by kernel_rfl) rfl (fun r23 h23 => Needs_nil (vopT rfl (V_fieldAddr VT.fa76_1 h23 ⟨rfl, rfl⟩)))), trivial⟩) rfl ?_
    refine DrawP_consL (acc' := [_, _, _, _, _, _, _, _, _, _, _]) anyRes (goodU 1 rfl (fun γ => Needs_w 9 (by kernel_rfl) rfl (fun r24 h24 => Needs_w 7 (by kernel_rfl) rfl (fun r22 h22 => Needs_nil (oneE h22 (fun e22 => vopT rfl (V_store 1 VT.ty40 h24 e22 rfl rfl rfl ⟨default, trivial, rfl⟩))))))) rfl ?_
    refine DrawP_nil (fun γ => Needs_nil ?_)
    refine Then_n ?_
    refine VW_seq ?_
    refine VW_region ?_
    refine VOps_cons rfl rfl (V_move rfl ?_)
    refine VOps_cons rfl rfl (V_nilCheck rfl ?_)
    refine VOps_cons rfl rfl (V_fieldAddr VT.fa76_1 rfl ?_)
    refine VOps_cons rfl rfl (V_load 1 VT.ty40 rfl rfl rfl ?_)
    refine VOps_cons rfl rfl (V_lenN (n := s.out.length + 1) Try.underlying40 rfl (by simp) (fun hl29 => ?_))
    refine VOps_cons rfl rfl (V_sub rfl rfl (by omega) ?_)
    refine VOps_cons rfl rfl (V_assign rfl ?_)
    refine VOps_nil ?_
    refine Then_n ?_
    refine VW_ret ?_
    refine VRet_one rfl (.tmp rfl) ?_
    refine ⟨_, Drops.drop (Drops.refl _), γ 0, ?_, ?_⟩
    · rw [addF, if_neg (by omega)]; exact congrArg V.int (by simp)
    · rw [addF, if_neg (by omega)]; simp


set_option maxRecDepth 100000 in
theorem below_c (paths : List (List Int)) (k many : Nat) (hk : k < paths.length) (hp : ∀ p ∈ paths, p ≠ [] ∧ p.length ≤ 100000) (hl : paths.length ≤ 500000) (hm : many ≤ 100000) : VPure Try.prog 59 [pathsX paths, .int k, .int many] (pathsX (belowM paths k many)) := by
  obtain ⟨p, hpk⟩ := get_of_lt paths k (by omega)
  obtain ⟨hp1, hp2⟩ := hp p (List.mem_of_getElem? hpk)
  have hcc := pathsConcat_l [paths.take k, paths.drop (k + 1)] (by simp; omega)
  rw [belowM_zero] at hcc
  have hbl := fun i => belowM_len (many := i) hk
  refine V_start (nt := 35) Try.func59 rfl rfl rfl ?_
  refine VW_seq ?_
  refine VW_region ?_
  refine VOps_cons rfl rfl (V_assign rfl ?_)
  refine VOps_nil ?_
  refine Then_n ?_
  refine VW_seq ?_
  refine VW_draw (G := Tok) [([], [0], []), ([], [1], []), ([1, 0], [9, 10], []), ([], [0], []), ([], [1], []), ([4], [13], []), ([5, 4, 3], [12, 14], []), ([6, 5, 4, 3, 2, 1, 0], [11, 15], []), ([7, 6, 5, 4, 3, 2, 1, 0], [16], [0]), ([8, 7, 6, 5, 4, 3, 2, 1, 0], [17], [0])] [8] (oneSt _ (fun x => [.buf x 32 1 ((belowM paths k 0).map intsX).length])) [7] [7, 9, 10, 11, 12, 13, 14, 15, 16, 17] rfl VT.mix (by kernel_rfl) (by kernel_rfl) ?_
  refine DrawP_consL (acc' := [_]) (eqRes _) (goodS rfl rfl ⟨(fun γ => Needs_f (by kernel_rfl) (fun r0 h0 => Needs_nil (vopT rfl (V_move h0 ⟨rfl, rfl⟩)))), trivial⟩) rfl ?_
  refine DrawP_consL (acc' := [_, _]) (eqRes _) (goodS rfl rfl ⟨(fun γ => Needs_f (by kernel_rfl) (fun r1 h1 => Needs_nil (vopT rfl (V_move h1 ⟨rfl, rfl⟩)))), trivial⟩) rfl ?_
  refine DrawP_consL (acc' := [_, _, _]) (eqRes _) (goodS rfl rfl ⟨(fun γ => Needs_w 0 (by kernel_rfl) rfl (fun r9 h9 => Needs_w 1 (by kernel_rfl) rfl (fun r10 h10 => Needs_nil (vopT rfl (VOp_as (V_sliceTo VT.sl78 h9 h10 (by omega) (by simp; omega) ⟨rfl, rfl⟩) (V.le.of_eq (v' := pathsX (paths.take k)) (by rw [pathsX, List.map_take]; try rfl)) ⟨rfl, rfl⟩))))), trivial⟩) rfl ?_
  refine DrawP_consL (acc' := [_, _, _, _]) (eqRes _) (goodS rfl rfl ⟨(fun γ => Needs_f (by kernel_rfl) (fun r0 h0 => Needs_nil (vopT rfl (V_move h0 ⟨rfl, rfl⟩)))), trivial⟩) rfl ?_
  refine DrawP_consL (acc' := [_, _, _, _, _]) (eqRes _) (goodS rfl rfl ⟨(fun γ => Needs_f (by kernel_rfl) (fun r1 h1 => Needs_nil (vopT rfl (V_move h1 ⟨rfl, rfl⟩)))), trivial⟩) rfl ?_
  refine DrawP_consL (acc' := [_, _, _, _, _, _]) (eqRes _) (goodS rfl rfl ⟨(fun γ => Needs_w 4 (by kernel_rfl) rfl (fun r13 h13 => Needs_nil (vopT rfl (V_add h13 rfl (by omega) ⟨rfl, rfl⟩)))), trivial⟩) rfl ?_
  refine DrawP_consL (acc' := [_, _, _, _, _, _, _]) (eqRes _) (goodS rfl rfl ⟨(fun γ => Needs_w 3 (by kernel_rfl) rfl (fun r12 h12 => Needs_w 5 (by kernel_rfl) rfl (fun r14 h14 => Needs_nil (vopT rfl (VOp_as (V_sliceFrom VT.sl78 h12 h14 (by omega) (by simp; omega) ⟨rfl, rfl⟩) (V.le.of_eq (v' := pathsX (paths.drop (k + 1))) (by rw [pathsX, List.map_drop]; try rfl)) ⟨rfl, rfl⟩))))), trivial⟩) rfl ?_
  refine DrawP_consL (acc' := [_, _, _, _, _, _, _, _]) (eqRes _) (goodS rfl rfl ⟨(fun γ => Needs_w 2 (by kernel_rfl) rfl (fun r11 h11 => Needs_w 6 (by kernel_rfl) rfl (fun r15 h15 => Needs_nil (vopT rfl (V_lit [.tmp 11, .tmp 15] VT.sl133 rfl rfl rfl (evs_cons h11 (evs_cons h15 evs_nil)) rfl ⟨rfl, rfl⟩))))), trivial⟩) rfl ?_
  refine DrawP_consL (acc' := [_, _, _, _, _, _, _, _, _]) (oneRes (fun x => .sl 1 (some x) ((belowM paths k 0).map intsX))) (goodU1 rfl (fun γ => Needs_w 7 (by kernel_rfl) rfl (fun r16 h16 => Needs_nil (vopT rfl (V_callBuf [.tmp 16] rfl (evs_cons h16 evs_nil) VT.en86 (hcc) (fun t17 => ⟨t17, ⟨t17, rfl, rfl⟩, rfl⟩)))))) rfl ?_
  refine DrawP_consL (acc' := [_, _, _, _, _, _, _, _, _, _]) (oneRes (fun x => .sl 1 (some x) ((belowM paths k 0).map intsX))) (goodS rfl rfl ⟨(fun γ => Needs_w 8 (by kernel_rfl) rfl (fun r17 h17 => Needs_nil (oneE h17 (fun e17 => vopT rfl (V_assign e17 ⟨⟨_, rfl, rfl⟩, rfl⟩))))), trivial⟩) rfl ?_
  refine DrawP_nil (fun γ => Needs_w 9 (by kernel_rfl) rfl (fun r7 h7 => Needs_nil ?_))
  have e7 : r7 = some _ := oneY h7
  subst e7
  clear h7
  refine Then_n ?_
  refine VW_seq ?_
  refine VW_seq ?_
  refine VW_region ?_
  refine VOps_cons rfl rfl (V_move rfl ?_)
  refine VOps_cons rfl rfl (V_move rfl ?_)
  refine VOps_nil ?_
  refine Then_n ?_
  refine VW_block ?_
  refine VW_loopF (ι := Nat × Tok) (fun (i, tk) => many - i) (fun (i, tk) => [(0, some (pathsX paths)), (1, some (.int k)), (7, some (.sl 1 (some tk) ((belowM paths k i).map intsX))), (18, some (.int many)), (19, some (.int i))]) (fun (i, tk) => [.buf tk 32 1 (belowM paths k i).length]) (fun (i, tk) => i ≤ many) (0, γ 0) (by simp) ⟨rfl, rfl, rfl, rfl, rfl, trivial⟩ (Drops.buf (by simp) (Drops.refl _)) ?_
  rintro ⟨i, tk⟩ hi
  change i ≤ many at hi
  refine VW_seq ?_
  refine VW_region ?_
  refine VOps_cons rfl rfl (V_bin rfl rfl rfl ?_)
  refine VOps_nil ?_
  refine Then_n ?_
  refine VW_seq ?_
  refine VW_condP rfl (fun h20 => ?_) (fun h20 => ?_)
  · skip
    have hbi := hbl i
    have hsn : (belowM paths k (i + 1)).map intsX = (belowM paths k i).map intsX ++ [intsX (p ++ [(i : Int)])] := by rw [belowM_snoc hpk, List.map_append]; rfl
    refine VW_skip ?_
    refine Then_n ?_
    refine VW_seq ?_
    refine VW_block ?_
    refine VW_seq ?_
    refine VW_region ?_
    refine VOps_cons rfl rfl (V_move rfl ?_)
    refine VOps_cons rfl rfl (V_assign rfl ?_)
    refine VOps_nil ?_
    refine Then_n ?_
    refine VW_region ?_
    refine VOps_cons rfl rfl (V_move rfl ?_)
    refine VOps_cons rfl rfl (V_move rfl ?_)
    refine VOps_cons rfl rfl (V_move rfl ?_)
    refine VOps_cons rfl rfl (V_indexAddr (el := intsX p) VT.sl78 rfl rfl (by omega) (get_mapS _ hpk) (fun a25 => ?_))
    refine VOps_cons rfl rfl (V_load_ep VT.ty32 rfl rfl ?_)
    refine VOps_cons rfl rfl (V_callBuf [.tmp 26] rfl rfl VT.en33 (intsClone_l p hp1 (by omega)) (fun t27 => ?_))
    refine VOps_cons rfl rfl (V_move rfl ?_)
    refine VOps_cons rfl rfl (V_lit [.tmp 28] VT.sl32 rfl rfl rfl rfl rfl ?_)
    refine VOps_cons rfl rfl (V_appendEnd 0 _ VT.sl32 rfl rfl rfl (by simp) (by simp; omega) (zs := (p ++ [(i : Int)]).map V.int) (by simp) ?_)
    refine VOps_cons rfl rfl (V_lit [.tmp 30] VT.sl78 rfl rfl rfl rfl rfl ?_)
    refine VOps_cons rfl rfl (V_appendN 0 _ VT.sl78 rfl rfl rfl (by simp) (by simp; omega) (fun t32 => ?_))
    refine VOps_cons rfl rfl (V_assign rfl ?_)
    refine VOps_nil ?_
    refine InBlock_n (Then_n ?_)
    refine VW_region ?_
    refine VOps_cons rfl rfl (V_add rfl rfl (by omega) ?_)
    refine VOps_cons rfl rfl (V_move rfl ?_)
    refine VOps_nil ?_
    refine Then_n ?_
    exact ⟨(i + 1, t32), (by (try simp only []); omega), (by omega), ⟨rfl, rfl, (by rw [hsn]; rfl), rfl, rfl, trivial⟩, (Drops.buf (by rw [belowM_snoc hpk]; simp) (Drops.refl _))⟩
  · skip
    have hie : i = many := by omega
    refine VW_exit ?_
    refine Then_e (Then_e (InBlock_hit ?_))
    refine Then_n ?_
    refine VW_seq ?_
    refine VW_region ?_
    refine VOps_cons rfl rfl (V_move rfl ?_)
    refine VOps_cons rfl rfl (V_assign rfl ?_)
    refine VOps_nil ?_
    refine Then_n ?_
    refine VW_ret ?_
    refine VRet_one rfl (.strip rfl) ?_
    rw [hie]


set_option maxRecDepth 100000 in
set_option maxHeartbeats 4000000 in
theorem mnarrow_c {c : FuncId} {caps : List V} {o : Own} {is : Pat → Bool} (hen : Enters Try.prog c) (hp : ∀ p, VKeep Try.prog c (patX p :: caps) [o] (.bool (is p))) (rows : List MRow) (k many : Nat) (hk : ∀ r ∈ rows, k < r.2.length ∧ r.2.length ≤ 400000 ∧ ∀ p, r.2[k]? = some p → free p = false → p.kind = 3 → p.args.length ≤ 100000) (hl : rows.length ≤ 1000000) (hm : many ≤ 100000) : VKeep Try.prog 58 [mrowsX rows, .int k, .clo (.func c) caps, .int many] [o] (mrowsX (narrowM k is many rows)) := by
  refine VCalls_drops ?_
  refine V_start (nt := 66) Try.func58 rfl rfl rfl ?_
  refine VW_seq ?_
  refine VW_region ?_
  refine VOps_cons rfl rfl (V_assign rfl ?_)
  refine VOps_nil ?_
  refine Then_n ?_
  refine VW_seq ?_
  refine VW_region ?_
  refine VOps_cons rfl rfl (V_assign_nil 80 2 ?_)
  refine VOps_nil ?_
  refine Then_n ?_
  refine VW_seq ?_
  refine VW_seq ?_
  refine VW_region ?_
  refine VOps_cons rfl rfl (V_move rfl ?_)
  refine VOps_cons rfl rfl (V_lenN (n := rows.length) Try.underlying77 rfl (by simp) (fun hl15 => ?_))
  refine VOps_cons rfl rfl (V_move rfl ?_)
  refine VOps_nil ?_
  refine Then_n ?_
  refine VW_block ?_
  refine VW_loopF (ι := Nat × Tok) (fun (i, tk) => rows.length - i) (fun (i, tk) => [(1, some (.int k)), (2, some (.clo (.func c) caps)), (3, some (.int many)), (9, some (.sl 2 (some tk) ((narrowM k is many (rows.take i)).map mrowX))), (14, some (mrowsX rows)), (15, some (.int rows.length)), (16, some (.int i))]) (fun (i, tk) => [.buf tk 80 2 (narrowM k is many (rows.take i)).length, o]) (fun (i, tk) => i ≤ rows.length) (0, .nil) (by simp) ⟨rfl, rfl, rfl, rfl, rfl, rfl, rfl, trivial⟩ (Drops.buf rfl (Drops.keep (Drops.refl _))) ?_
  rintro ⟨i, tk⟩ hi
  change i ≤ rows.length at hi
  refine VW_seq ?_
  refine VW_region ?_
  refine VOps_cons rfl rfl (V_bin rfl rfl rfl ?_)
  refine VOps_nil ?_
  refine Then_n ?_
  refine VW_seq ?_
  refine VW_condP rfl (fun h17 => ?_) (fun h17 => ?_)
  · skip
    obtain ⟨r, hr⟩ := get_of_lt rows i h17
    obtain ⟨hk1, hk2, hk3⟩ := hk r (List.mem_of_getElem? hr)
    obtain ⟨p, hpk⟩ := get_of_lt r.2 k (by omega)
    have hsn := narrowM_snoc k is many (rows.take i) r hpk
    have hnl := narrowM_len k is many (rows.take i)
    rw [List.length_take] at hnl
    refine VW_skip ?_
    refine Then_n ?_
    refine VW_seq ?_
    refine VW_block ?_
    refine VW_seq ?_
    refine VW_region ?_
    refine VOps_cons rfl rfl (V_indexAddr (el := mrowX r) VT.sl77 rfl rfl (by omega) (get_mapS _ hr) (fun a18 => ?_))
    refine VOps_cons rfl rfl (V_load_ep_agg VT.ty80 rfl rfl ?_)
    refine VOps_cons rfl rfl (V_alloc VT.zr80 _ rfl rfl (fun g11 => ?_))
    refine VOps_cons rfl rfl (V_store_agg 0 VT.ty80 rfl rfl rfl rfl rfl ?_)
    refine VOps_nil ?_
    refine Then_n ?_
    refine VW_seq ?_
    refine VW_region ?_
    refine VOps_cons rfl rfl (V_fieldAddr VT.fa80_1 rfl ?_)
    refine VOps_cons rfl rfl (V_load 0 VT.ty25 rfl rfl rfl ?_)
    refine VOps_cons rfl rfl (V_move rfl ?_)
    refine VOps_cons rfl rfl (V_indexAddr (el := patX p) VT.sl25 rfl rfl (by omega) (get_patS hpk) (fun a23 => ?_))
    refine VOps_cons rfl rfl (V_load_ep_agg VT.ty30 rfl rfl ?_)
    refine VOps_cons rfl rfl (V_alloc VT.zr30 _ rfl rfl (fun g12 => ?_))
    refine VOps_cons rfl rfl (V_store_agg 0 VT.ty30 rfl rfl rfl rfl rfl ?_)
    refine VOps_nil ?_
    refine Then_n ?_
    refine VW_seq ?_
    refine VW_seq ?_
    refine VW_region ?_
    refine VOps_cons rfl rfl (V_load_agg 0 VT.ty30 rfl rfl rfl ?_)
    rcases hf : free p with _ | _
    · skip
      refine VOps_cons rfl rfl (V_callP [.tmp 25] rfl rfl VT.en53 (mfree_at hf) ?_)
      refine VOps_cons rfl rfl (V_not rfl ?_)
      refine VOps_cons rfl rfl (V_move rfl ?_)
      refine VOps_split (q := 28) rfl (fun hq28 => ?_) (fun hq28 => ?_)
      · skip
        refine VOps_cons (want_of rfl rfl rfl hq28) rfl (V_move rfl ?_)
        refine VOps_cons (want_of rfl rfl rfl hq28) rfl (V_load_agg 0 VT.ty30 rfl rfl rfl ?_)
        refine VOps_cons (want_of rfl rfl rfl hq28) rfl (V_callCloK 3 [.tmp 30] rfl rfl rfl hen rfl (hp p) ?_)
        refine VOps_cons (want_of rfl rfl rfl hq28) rfl (V_not rfl ?_)
        refine VOps_cons rfl rfl (V_pickT rfl hq28 rfl ?_)
        refine VOps_nil ?_
        refine Then_n ?_
        refine VW_condN rfl (fun h33 => ?_) (fun h33 => ?_)
        · skip
          have hc : is p = false := by simpa using h33
          rw [hf, hc, if_neg (by simp), List.append_nil] at hsn
          refine VW_exit ?_
          refine Then_e (InBlock_hit ?_)
          refine Then_n ?_
          refine VW_region ?_
          refine VOps_cons rfl rfl (V_add rfl rfl (by omega) ?_)
          refine VOps_cons rfl rfl (V_move rfl ?_)
          refine VOps_nil ?_
          refine Then_n ?_
          exact ⟨(i + 1, tk), (by (try simp only []); omega), (by omega), ⟨rfl, rfl, rfl, (by rw [take_snoc hr, hsn]; first | rfl | (rw [List.map_append]; rfl)), rfl, rfl, rfl, trivial⟩, (Drops.drop (Drops.drop (Drops.buf (by rw [take_snoc hr, hsn]; try simp) (Drops.keep (Drops.refl _)))))⟩
        · skip
          have hc : is p = true := by simpa using h33
          rw [hf, hc, if_pos (by simp)] at hsn
          refine VW_skip ?_
          refine Then_n ?_
          refine VW_seq ?_
          refine VW_region ?_
          refine VOps_cons rfl rfl (V_move rfl ?_)
          refine VOps_cons rfl rfl (VOp_as (V_makeImm (patX anyP) any_rep rfl VT.sl25 rfl rfl (by omega) (by omega) ⟨rfl, rfl⟩) (V.le.of_eq (v' := patsX (anysL many)) (by simp [patV_eq])) ?_)
          refine VOps_cons rfl rfl (V_assign rfl ?_)
          refine VOps_nil ?_
          refine Then_n ?_
          refine VW_seq ?_
          refine VW_seq ?_
          refine VW_region ?_
          refine VOps_cons rfl rfl (V_load_agg 0 VT.ty30 rfl rfl rfl ?_)
          refine VOps_cons rfl rfl (V_callP [.tmp 36] rfl rfl VT.en53 (mfree_at hf) ?_)
          refine VOps_cons rfl rfl (V_not rfl ?_)
          refine VOps_cons rfl rfl (V_move rfl ?_)
          refine VOps_split (q := 39) rfl (fun hq39 => ?_) (fun hq39 => ?_)
          · skip
            refine VOps_cons (want_of rfl rfl rfl hq39) rfl (V_fieldAddr VT.fa30_0 rfl ?_)
            refine VOps_cons (want_of rfl rfl rfl hq39) rfl (V_load 0 VT.ty3 rfl rfl rfl ?_)
            refine VOps_cons (want_of rfl rfl rfl hq39) rfl (V_bin rfl rfl rfl ?_)
            refine VOps_cons rfl rfl (V_pickT rfl hq39 rfl ?_)
            refine VOps_nil ?_
            refine Then_n ?_
            refine VW_condEq rfl (fun h43 => ?_) (fun h43 => ?_)
            · skip
              have hpa := hk3 p hpk hf h43
              have hcc : VPure Try.prog 47 [rowsX [r.2.take k, r.2.drop (k + 1), p.args]] (patsX (newPats k many p r.2)) := by rw [show newPats k many p r.2 = cat [r.2.take k, r.2.drop (k + 1), p.args] by simp [newPats, cat, hf, h43]]; exact concat_c _ (by simp [cat]; omega)
              refine VW_region ?_
              refine VOps_cons rfl rfl (V_fieldAddr VT.fa30_3 rfl ?_)
              refine VOps_cons rfl rfl (V_load 0 VT.ty25 rfl rfl rfl ?_)
              refine VOps_cons rfl rfl (V_assign rfl ?_)
              refine VOps_nil ?_
              refine Then_n ?_
              refine VW_draw (G := Tok) [([], [9], []), ([], [11], []), ([1], [47], []), ([], [11], []), ([3], [49], []), ([], [1], []), ([5, 4, 3], [50, 51], []), ([], [11], []), ([7], [53], []), ([], [1], []), ([9], [55], []), ([10, 9, 8, 7], [54, 56], []), ([], [13], []), ([12, 11, 10, 9, 8, 7, 6, 5, 4, 3], [52, 57, 58], []), ([13, 12, 11, 10, 9, 8, 7, 6, 5, 4, 3], [59], []), ([14, 13, 12, 11, 10, 9, 8, 7, 6, 5, 4, 3, 2, 1], [48, 60], []), ([15, 14, 13, 12, 11, 10, 9, 8, 7, 6, 5, 4, 3, 2, 1], [61], []), ([16, 15, 14, 13, 12, 11, 10, 9, 8, 7, 6, 5, 4, 3, 2, 1, 0], [46, 62], [0]), ([17, 16, 15, 14, 13, 12, 11, 10, 9, 8, 7, 6, 5, 4, 3, 2, 1, 0], [63], [0])] [17] (oneSt _ (fun x => [.cells g12 30 [.int p.kind, .str p.name, .int p.n, patsX p.args], .cells g11 80 [.int r.1, patsX r.2], .buf x 80 2 ((narrowM k is many (rows.take i)).map mrowX ++ [mrowX (r.1, newPats k many p r.2)]).length, o])) [9] [9, 46, 47, 48, 49, 50, 51, 52, 53, 54, 55, 56, 57, 58, 59, 60, 61, 62, 63] rfl VT.mix (by kernel_rfl) (by kernel_rfl) ?_
              refine DrawP_consL (acc' := [_]) (eqRes _) (goodS rfl rfl ⟨(fun γ => Needs_f (by kernel_rfl) (fun r9 h9 => Needs_nil (vopT rfl (V_move h9 ⟨rfl, rfl⟩)))), trivial⟩) rfl ?_
              refine DrawP_consL (acc' := [_, _]) (eqRes _) (goodS rfl rfl ⟨(fun γ => Needs_f (by kernel_rfl) (fun r11 h11 => Needs_nil (vopT rfl (V_fieldAddr VT.fa80_0 h11 ⟨rfl, rfl⟩)))), trivial⟩) rfl ?_
              refine DrawP_consL (acc' := [_, _, _]) (eqRes _) (goodS rfl rfl ⟨(fun γ => Needs_w 1 (by kernel_rfl) rfl (fun r47 h47 => Needs_nil (vopT rfl (V_load 1 VT.ty3 h47 rfl rfl ⟨rfl, rfl⟩)))), trivial⟩) rfl ?_
              refine DrawP_consL (acc' := [_, _, _, _]) (eqRes _) (goodS rfl rfl ⟨(fun γ => Needs_f (by kernel_rfl) (fun r11 h11 => Needs_nil (vopT rfl (V_fieldAddr VT.fa80_1 h11 ⟨rfl, rfl⟩)))), trivial⟩) rfl ?_
              refine DrawP_consL (acc' := [_, _, _, _, _]) (eqRes _) (goodS rfl rfl ⟨(fun γ => Needs_w 3 (by kernel_rfl) rfl (fun r49 h49 => Needs_nil (vopT rfl (V_load 1 VT.ty25 h49 rfl rfl ⟨rfl, rfl⟩)))), trivial⟩) rfl ?_
              refine DrawP_consL (acc' := [_, _, _, _, _, _]) (eqRes _) (goodS rfl rfl ⟨(fun γ => Needs_f (by kernel_rfl) (fun r1 h1 => Needs_nil (vopT rfl (V_move h1 ⟨rfl, rfl⟩)))), trivial⟩) rfl ?_
              refine DrawP_consL (acc' := [_, _, _, _, _, _, _]) (eqRes _) (goodS rfl rfl ⟨(fun γ => Needs_w 4 (by kernel_rfl) rfl (fun r50 h50 => Needs_w 5 (by kernel_rfl) rfl (fun r51 h51 => Needs_nil (vopT rfl (VOp_as (V_sliceTo VT.sl25 h50 h51 (by omega) (by simp; omega) ⟨rfl, rfl⟩) (V.le.of_eq (v' := patsX (r.2.take k)) (by rw [patsX, List.map_take]; try rfl)) ⟨rfl, rfl⟩))))), trivial⟩) rfl ?_
              refine DrawP_consL (acc' := [_, _, _, _, _, _, _, _]) (eqRes _) (goodS rfl rfl ⟨(fun γ => Needs_f (by kernel_rfl) (fun r11 h11 => Needs_nil (vopT rfl (V_fieldAddr VT.fa80_1 h11 ⟨rfl, rfl⟩)))), trivial⟩) rfl ?_
              refine DrawP_consL (acc' := [_, _, _, _, _, _, _, _, _]) (eqRes _) (goodS rfl rfl ⟨(fun γ => Needs_w 7 (by kernel_rfl) rfl (fun r53 h53 => Needs_nil (vopT rfl (V_load 1 VT.ty25 h53 rfl rfl ⟨rfl, rfl⟩)))), trivial⟩) rfl ?_
              refine DrawP_consL (acc' := [_, _, _, _, _, _, _, _, _, _]) (eqRes _) (goodS rfl rfl ⟨(fun γ => Needs_f (by kernel_rfl) (fun r1 h1 => Needs_nil (vopT rfl (V_move h1 ⟨rfl, rfl⟩)))), trivial⟩) rfl ?_
              refine DrawP_consL (acc' := [_, _, _, _, _, _, _, _, _, _, _]) (eqRes _) (goodS rfl rfl ⟨(fun γ => Needs_w 9 (by kernel_rfl) rfl (fun r55 h55 => Needs_nil (vopT rfl (V_add h55 rfl (by omega) ⟨rfl, rfl⟩)))), trivial⟩) rfl ?_
              refine DrawP_consL (acc' := [_, _, _, _, _, _, _, _, _, _, _, _]) (eqRes _) (goodS rfl rfl ⟨(fun γ => Needs_w 8 (by kernel_rfl) rfl (fun r54 h54 => Needs_w 10 (by kernel_rfl) rfl (fun r56 h56 => Needs_nil (vopT rfl (VOp_as (V_sliceFrom VT.sl25 h54 h56 (by omega) (by simp; omega) ⟨rfl, rfl⟩) (V.le.of_eq (v' := patsX (r.2.drop (k + 1))) (by rw [patsX, List.map_drop]; try rfl)) ⟨rfl, rfl⟩))))), trivial⟩) rfl ?_
              refine DrawP_consL (acc' := [_, _, _, _, _, _, _, _, _, _, _, _, _]) (eqRes _) (goodS rfl rfl ⟨(fun γ => Needs_f (by kernel_rfl) (fun r13 h13 => Needs_nil (vopT rfl (V_move h13 ⟨rfl, rfl⟩)))), trivial⟩) rfl ?_
              refine DrawP_consL (acc' := [_, _, _, _, _, _, _, _, _, _, _, _, _, _]) (eqRes _) (goodS rfl rfl ⟨(fun γ => Needs_w 6 (by kernel_rfl) rfl (fun r52 h52 => Needs_w 11 (by kernel_rfl) rfl (fun r57 h57 => Needs_w 12 (by kernel_rfl) rfl (fun r58 h58 => Needs_nil (vopT rfl (V_lit [.tmp 52, .tmp 57, .tmp 58] VT.sl23 rfl rfl rfl (evs_cons h52 (evs_cons h57 (evs_cons h58 evs_nil))) rfl ⟨rfl, rfl⟩)))))), trivial⟩) rfl ?_
              refine DrawP_consL (acc' := [_, _, _, _, _, _, _, _, _, _, _, _, _, _, _]) (eqRes _) (goodS rfl rfl ⟨(fun γ => Needs_w 13 (by kernel_rfl) rfl (fun r59 h59 => Needs_nil (vopT rfl (V_callP [.tmp 59] rfl (evs_cons h59 evs_nil) VT.en47 (hcc) ⟨rfl, rfl⟩)))), trivial⟩) rfl ?_
              refine DrawP_consL (acc' := [_, _, _, _, _, _, _, _, _, _, _, _, _, _, _, _]) (eqRes _) (goodS rfl rfl ⟨(fun γ => Needs_w 2 (by kernel_rfl) rfl (fun r48 h48 => Needs_w 14 (by kernel_rfl) rfl (fun r60 h60 => Needs_nil (vopT rfl (V_build [0, 1] [.tmp 48, .tmp 60] VT.st80 rfl rfl (evs_cons h48 (evs_cons h60 evs_nil)) rfl ⟨rfl, rfl⟩))))), trivial⟩) rfl ?_
              refine DrawP_consL (acc' := [_, _, _, _, _, _, _, _, _, _, _, _, _, _, _, _, _]) (eqRes _) (goodS rfl rfl ⟨(fun γ => Needs_w 15 (by kernel_rfl) rfl (fun r61 h61 => Needs_nil (vopT rfl (V_lit [.tmp 61] VT.sl77 rfl rfl rfl (evs_cons h61 evs_nil) rfl ⟨rfl, rfl⟩)))), trivial⟩) rfl ?_
              refine DrawP_consL (acc' := [_, _, _, _, _, _, _, _, _, _, _, _, _, _, _, _, _, _]) (oneRes (fun x => .sl 2 (some x) ((narrowM k is many (rows.take i)).map mrowX ++ [mrowX (r.1, newPats k many p r.2)]))) (goodU1 rfl (fun γ => Needs_w 0 (by kernel_rfl) rfl (fun r46 h46 => Needs_w 16 (by kernel_rfl) rfl (fun r62 h62 => Needs_nil (vopT rfl (V_appendN 2 _ VT.sl77 h46 h62 rfl (by simp) (by simp; omega) (fun t63 => ⟨t63, ⟨t63, rfl, rfl⟩, rfl⟩))))))) rfl ?_
              refine DrawP_consL (acc' := [_, _, _, _, _, _, _, _, _, _, _, _, _, _, _, _, _, _, _]) (oneRes (fun x => .sl 2 (some x) ((narrowM k is many (rows.take i)).map mrowX ++ [mrowX (r.1, newPats k many p r.2)]))) (goodS rfl rfl ⟨(fun γ => Needs_w 17 (by kernel_rfl) rfl (fun r63 h63 => Needs_nil (oneE h63 (fun e63 => vopT rfl (V_assign e63 ⟨⟨_, rfl, rfl⟩, rfl⟩))))), trivial⟩) rfl ?_
              refine DrawP_nil (fun γ => Needs_w 18 (by kernel_rfl) rfl (fun r9 h9 => Needs_nil ?_))
              have e9 : r9 = some _ := oneY h9
              subst e9
              clear h9
              refine InBlock_n (Then_n ?_)
              refine VW_region ?_
              refine VOps_cons rfl rfl (V_add rfl rfl (by omega) ?_)
              refine VOps_cons rfl rfl (V_move rfl ?_)
              refine VOps_nil ?_
              refine Then_n ?_
              exact ⟨(i + 1, (γ 0)), (by (try simp only []); omega), (by omega), ⟨rfl, rfl, rfl, (by rw [take_snoc hr, hsn]; first | rfl | (rw [List.map_append]; rfl)), rfl, rfl, rfl, trivial⟩, (Drops.drop (Drops.drop (Drops.buf (by rw [take_snoc hr, hsn]; try simp) (Drops.keep (Drops.refl _)))))⟩
            · skip
              have hcc : VPure Try.prog 47 [rowsX [r.2.take k, r.2.drop (k + 1), anysL many]] (patsX (newPats k many p r.2)) := by rw [show newPats k many p r.2 = cat [r.2.take k, r.2.drop (k + 1), anysL many] by simp [newPats, cat, h43]]; exact concat_c _ (by simp [cat]; omega)
              refine VW_skip ?_
              refine Then_n ?_
              refine VW_draw (G := Tok) [([], [9], []), ([], [11], []), ([1], [47], []), ([], [11], []), ([3], [49], []), ([], [1], []), ([5, 4, 3], [50, 51], []), ([], [11], []), ([7], [53], []), ([], [1], []), ([9], [55], []), ([10, 9, 8, 7], [54, 56], []), ([], [13], []), ([12, 11, 10, 9, 8, 7, 6, 5, 4, 3], [52, 57, 58], []), ([13, 12, 11, 10, 9, 8, 7, 6, 5, 4, 3], [59], []), ([14, 13, 12, 11, 10, 9, 8, 7, 6, 5, 4, 3, 2, 1], [48, 60], []), ([15, 14, 13, 12, 11, 10, 9, 8, 7, 6, 5, 4, 3, 2, 1], [61], []), ([16, 15, 14, 13, 12, 11, 10, 9, 8, 7, 6, 5, 4, 3, 2, 1, 0], [46, 62], [0]), ([17, 16, 15, 14, 13, 12, 11, 10, 9, 8, 7, 6, 5, 4, 3, 2, 1, 0], [63], [0])] [17] (oneSt _ (fun x => [.cells g12 30 [.int p.kind, .str p.name, .int p.n, patsX p.args], .cells g11 80 [.int r.1, patsX r.2], .buf x 80 2 ((narrowM k is many (rows.take i)).map mrowX ++ [mrowX (r.1, newPats k many p r.2)]).length, o])) [9] [9, 46, 47, 48, 49, 50, 51, 52, 53, 54, 55, 56, 57, 58, 59, 60, 61, 62, 63] rfl VT.mix (by kernel_rfl) (by kernel_rfl) ?_
              refine DrawP_consL (acc' := [_]) (eqRes _) (goodS rfl rfl ⟨(fun γ => Needs_f (by kernel_rfl) (fun r9 h9 => Needs_nil (vopT rfl (V_move h9 ⟨rfl, rfl⟩)))), trivial⟩) rfl ?_
              refine DrawP_consL (acc' := [_, _]) (eqRes _) (goodS rfl rfl ⟨(fun γ => Needs_f (by kernel_rfl) (fun r11 h11 => Needs_nil (vopT rfl (V_fieldAddr VT.fa80_0 h11 ⟨rfl, rfl⟩)))), trivial⟩) rfl ?_
              refine DrawP_consL (acc' := [_, _, _]) (eqRes _) (goodS rfl rfl ⟨(fun γ => Needs_w 1 (by kernel_rfl) rfl (fun r47 h47 => Needs_nil (vopT rfl (V_load 1 VT.ty3 h47 rfl rfl ⟨rfl, rfl⟩)))), trivial⟩) rfl ?_
              refine DrawP_consL (acc' := [_, _, _, _]) (eqRes _) (goodS rfl rfl ⟨(fun γ => Needs_f (by kernel_rfl) (fun r11 h11 => Needs_nil (vopT rfl (V_fieldAddr VT.fa80_1 h11 ⟨rfl, rfl⟩)))), trivial⟩) rfl ?_
              refine DrawP_consL (acc' := [_, _, _, _, _]) (eqRes _) (goodS rfl rfl ⟨(fun γ => Needs_w 3 (by kernel_rfl) rfl (fun r49 h49 => Needs_nil (vopT rfl (V_load 1 VT.ty25 h49 rfl rfl ⟨rfl, rfl⟩)))), trivial⟩) rfl ?_
              refine DrawP_consL (acc' := [_, _, _, _, _, _]) (eqRes _) (goodS rfl rfl ⟨(fun γ => Needs_f (by kernel_rfl) (fun r1 h1 => Needs_nil (vopT rfl (V_move h1 ⟨rfl, rfl⟩)))), trivial⟩) rfl ?_
              refine DrawP_consL (acc' := [_, _, _, _, _, _, _]) (eqRes _) (goodS rfl rfl ⟨(fun γ => Needs_w 4 (by kernel_rfl) rfl (fun r50 h50 => Needs_w 5 (by kernel_rfl) rfl (fun r51 h51 => Needs_nil (vopT rfl (VOp_as (V_sliceTo VT.sl25 h50 h51 (by omega) (by simp; omega) ⟨rfl, rfl⟩) (V.le.of_eq (v' := patsX (r.2.take k)) (by rw [patsX, List.map_take]; try rfl)) ⟨rfl, rfl⟩))))), trivial⟩) rfl ?_
              refine DrawP_consL (acc' := [_, _, _, _, _, _, _, _]) (eqRes _) (goodS rfl rfl ⟨(fun γ => Needs_f (by kernel_rfl) (fun r11 h11 => Needs_nil (vopT rfl (V_fieldAddr VT.fa80_1 h11 ⟨rfl, rfl⟩)))), trivial⟩) rfl ?_
              refine DrawP_consL (acc' := [_, _, _, _, _, _, _, _, _]) (eqRes _) (goodS rfl rfl ⟨(fun γ => Needs_w 7 (by kernel_rfl) rfl (fun r53 h53 => Needs_nil (vopT rfl (V_load 1 VT.ty25 h53 rfl rfl ⟨rfl, rfl⟩)))), trivial⟩) rfl ?_
              refine DrawP_consL (acc' := [_, _, _, _, _, _, _, _, _, _]) (eqRes _) (goodS rfl rfl ⟨(fun γ => Needs_f (by kernel_rfl) (fun r1 h1 => Needs_nil (vopT rfl (V_move h1 ⟨rfl, rfl⟩)))), trivial⟩) rfl ?_
              refine DrawP_consL (acc' := [_, _, _, _, _, _, _, _, _, _, _]) (eqRes _) (goodS rfl rfl ⟨(fun γ => Needs_w 9 (by kernel_rfl) rfl (fun r55 h55 => Needs_nil (vopT rfl (V_add h55 rfl (by omega) ⟨rfl, rfl⟩)))), trivial⟩) rfl ?_
              refine DrawP_consL (acc' := [_, _, _, _, _, _, _, _, _, _, _, _]) (eqRes _) (goodS rfl rfl ⟨(fun γ => Needs_w 8 (by kernel_rfl) rfl (fun r54 h54 => Needs_w 10 (by kernel_rfl) rfl (fun r56 h56 => Needs_nil (vopT rfl (VOp_as (V_sliceFrom VT.sl25 h54 h56 (by omega) (by simp; omega) ⟨rfl, rfl⟩) (V.le.of_eq (v' := patsX (r.2.drop (k + 1))) (by rw [patsX, List.map_drop]; try rfl)) ⟨rfl, rfl⟩))))), trivial⟩) rfl ?_
              refine DrawP_consL (acc' := [_, _, _, _, _, _, _, _, _, _, _, _, _]) (eqRes _) (goodS rfl rfl ⟨(fun γ => Needs_f (by kernel_rfl) (fun r13 h13 => Needs_nil (vopT rfl (V_move h13 ⟨rfl, rfl⟩)))), trivial⟩) rfl ?_
              refine DrawP_consL (acc' := [_, _, _, _, _, _, _, _, _, _, _, _, _, _]) (eqRes _) (goodS rfl rfl ⟨(fun γ => Needs_w 6 (by kernel_rfl) rfl (fun r52 h52 => Needs_w 11 (by kernel_rfl) rfl (fun r57 h57 => Needs_w 12 (by kernel_rfl) rfl (fun r58 h58 => Needs_nil (vopT rfl (V_lit [.tmp 52, .tmp 57, .tmp 58] VT.sl23 rfl rfl rfl (evs_cons h52 (evs_cons h57 (evs_cons h58 evs_nil))) rfl ⟨rfl, rfl⟩)))))), trivial⟩) rfl ?_
              refine DrawP_consL (acc' := [_, _, _, _, _, _, _, _, _, _, _, _, _, _, _]) (eqRes _) (goodS rfl rfl ⟨(fun γ => Needs_w 13 (by kernel_rfl) rfl (fun r59 h59 => Needs_nil (vopT rfl (V_callP [.tmp 59] rfl (evs_cons h59 evs_nil) VT.en47 (hcc) ⟨rfl, rfl⟩)))), trivial⟩) rfl ?_
              refine DrawP_consL (acc' := [_, _, _, _, _, _, _, _, _, _, _, _, _, _, _, _]) (eqRes _) (goodS rfl rfl ⟨(fun γ => Needs_w 2 (by kernel_rfl) rfl (fun r48 h48 => Needs_w 14 (by kernel_rfl) rfl (fun r60 h60 => Needs_nil (vopT rfl (V_build [0, 1] [.tmp 48, .tmp 60] VT.st80 rfl rfl (evs_cons h48 (evs_cons h60 evs_nil)) rfl ⟨rfl, rfl⟩))))), trivial⟩) rfl ?_
              refine DrawP_consL (acc' := [_, _, _, _, _, _, _, _, _, _, _, _, _, _, _, _, _]) (eqRes _) (goodS rfl rfl ⟨(fun γ => Needs_w 15 (by kernel_rfl) rfl (fun r61 h61 => Needs_nil (vopT rfl (V_lit [.tmp 61] VT.sl77 rfl rfl rfl (evs_cons h61 evs_nil) rfl ⟨rfl, rfl⟩)))), trivial⟩) rfl ?_
              refine DrawP_consL (acc' := [_, _, _, _, _, _, _, _, _, _, _, _, _, _, _, _, _, _]) (oneRes (fun x => .sl 2 (some x) ((narrowM k is many (rows.take i)).map mrowX ++ [mrowX (r.1, newPats k many p r.2)]))) (goodU1 rfl (fun γ => Needs_w 0 (by kernel_rfl) rfl (fun r46 h46 => Needs_w 16 (by kernel_rfl) rfl (fun r62 h62 => Needs_nil (vopT rfl (V_appendN 2 _ VT.sl77 h46 h62 rfl (by simp) (by simp; omega) (fun t63 => ⟨t63, ⟨t63, rfl, rfl⟩, rfl⟩))))))) rfl ?_
              refine DrawP_consL (acc' := [_, _, _, _, _, _, _, _, _, _, _, _, _, _, _, _, _, _, _]) (oneRes (fun x => .sl 2 (some x) ((narrowM k is many (rows.take i)).map mrowX ++ [mrowX (r.1, newPats k many p r.2)]))) (goodS rfl rfl ⟨(fun γ => Needs_w 17 (by kernel_rfl) rfl (fun r63 h63 => Needs_nil (oneE h63 (fun e63 => vopT rfl (V_assign e63 ⟨⟨_, rfl, rfl⟩, rfl⟩))))), trivial⟩) rfl ?_
              refine DrawP_nil (fun γ => Needs_w 18 (by kernel_rfl) rfl (fun r9 h9 => Needs_nil ?_))
              have e9 : r9 = some _ := oneY h9
              subst e9
              clear h9
              refine InBlock_n (Then_n ?_)
              refine VW_region ?_
              refine VOps_cons rfl rfl (V_add rfl rfl (by omega) ?_)
              refine VOps_cons rfl rfl (V_move rfl ?_)
              refine VOps_nil ?_
              refine Then_n ?_
              exact ⟨(i + 1, (γ 0)), (by (try simp only []); omega), (by omega), ⟨rfl, rfl, rfl, (by rw [take_snoc hr, hsn]; first | rfl | (rw [List.map_append]; rfl)), rfl, rfl, rfl, trivial⟩, (Drops.drop (Drops.drop (Drops.buf (by rw [take_snoc hr, hsn]; try simp) (Drops.keep (Drops.refl _)))))⟩
          · exact absurd hq39 (by simp)
      · exact absurd hq28 (by simp)
    · skip
      rw [hf, if_pos (by simp)] at hsn
      have hcc : VPure Try.prog 47 [rowsX [r.2.take k, r.2.drop (k + 1), anysL many]] (patsX (newPats k many p r.2)) := by rw [show newPats k many p r.2 = cat [r.2.take k, r.2.drop (k + 1), anysL many] by simp [newPats, cat, hf]]; exact concat_c _ (by simp [cat]; omega)
      refine VOps_cons rfl rfl (V_callP [.tmp 25] rfl rfl VT.en53 (mfree_at hf) ?_)
      refine VOps_cons rfl rfl (V_not rfl ?_)
      refine VOps_cons rfl rfl (V_move rfl ?_)
      refine VOps_split (q := 28) rfl (fun hq28 => ?_) (fun hq28 => ?_)
      · exact absurd hq28 (by simp)
      · skip
        refine VOps_skipU (.inl (skip_of rfl rfl rfl hq28)) rfl ?_
        refine VOps_skipU (.inl (skip_of rfl rfl rfl hq28)) rfl ?_
        refine VOps_skipU (.inl (skip_of rfl rfl rfl hq28)) rfl ?_
        refine VOps_skipU (.inl (skip_of rfl rfl rfl hq28)) rfl ?_
        refine VOps_cons rfl rfl (V_pickF rfl hq28 rfl ?_)
        refine VOps_nil ?_
        refine Then_n ?_
        refine VW_condF rfl rfl ?_
        refine VW_skip ?_
        refine Then_n ?_
        refine VW_seq ?_
        refine VW_region ?_
        refine VOps_cons rfl rfl (V_move rfl ?_)
        refine VOps_cons rfl rfl (VOp_as (V_makeImm (patX anyP) any_rep rfl VT.sl25 rfl rfl (by omega) (by omega) ⟨rfl, rfl⟩) (V.le.of_eq (v' := patsX (anysL many)) (by simp [patV_eq])) ?_)
        refine VOps_cons rfl rfl (V_assign rfl ?_)
        refine VOps_nil ?_
        refine Then_n ?_
        refine VW_seq ?_
        refine VW_seq ?_
        refine VW_region ?_
        refine VOps_cons rfl rfl (V_load_agg 0 VT.ty30 rfl rfl rfl ?_)
        refine VOps_cons rfl rfl (V_callP [.tmp 36] rfl rfl VT.en53 (mfree_at hf) ?_)
        refine VOps_cons rfl rfl (V_not rfl ?_)
        refine VOps_cons rfl rfl (V_move rfl ?_)
        refine VOps_split (q := 39) rfl (fun hq39 => ?_) (fun hq39 => ?_)
        · exact absurd hq39 (by simp)
        · skip
          refine VOps_skipU (.inl (skip_of rfl rfl rfl hq39)) rfl ?_
          refine VOps_skipU (.inl (skip_of rfl rfl rfl hq39)) rfl ?_
          refine VOps_skipU (.inl (skip_of rfl rfl rfl hq39)) rfl ?_
          refine VOps_cons rfl rfl (V_pickF rfl hq39 rfl ?_)
          refine VOps_nil ?_
          refine Then_n ?_
          refine VW_condF rfl rfl ?_
          refine VW_skip ?_
          refine Then_n ?_
          refine VW_draw (G := Tok) [([], [9], []), ([], [11], []), ([1], [47], []), ([], [11], []), ([3], [49], []), ([], [1], []), ([5, 4, 3], [50, 51], []), ([], [11], []), ([7], [53], []), ([], [1], []), ([9], [55], []), ([10, 9, 8, 7], [54, 56], []), ([], [13], []), ([12, 11, 10, 9, 8, 7, 6, 5, 4, 3], [52, 57, 58], []), ([13, 12, 11, 10, 9, 8, 7, 6, 5, 4, 3], [59], []), ([14, 13, 12, 11, 10, 9, 8, 7, 6, 5, 4, 3, 2, 1], [48, 60], []), ([15, 14, 13, 12, 11, 10, 9, 8, 7, 6, 5, 4, 3, 2, 1], [61], []), ([16, 15, 14, 13, 12, 11, 10, 9, 8, 7, 6, 5, 4, 3, 2, 1, 0], [46, 62], [0]), ([17, 16, 15, 14, 13, 12, 11, 10, 9, 8, 7, 6, 5, 4, 3, 2, 1, 0], [63], [0])] [17] (oneSt _ (fun x => [.cells g12 30 [.int p.kind, .str p.name, .int p.n, patsX p.args], .cells g11 80 [.int r.1, patsX r.2], .buf x 80 2 ((narrowM k is many (rows.take i)).map mrowX ++ [mrowX (r.1, newPats k many p r.2)]).length, o])) [9] [9, 46, 47, 48, 49, 50, 51, 52, 53, 54, 55, 56, 57, 58, 59, 60, 61, 62, 63] rfl VT.mix (by kernel_rfl) (by kernel_rfl) ?_
          refine DrawP_consL (acc' := [_]) (eqRes _) (goodS rfl rfl ⟨(fun γ => Needs_f (by kernel_rfl) (fun r9 h9 => Needs_nil (vopT rfl (V_move h9 ⟨rfl, rfl⟩)))), trivial⟩) rfl ?_
          refine DrawP_consL (acc' := [_, _]) (eqRes _) (goodS rfl rfl ⟨(fun γ => Needs_f (by kernel_rfl) (fun r11 h11 => Needs_nil (vopT rfl (V_fieldAddr VT.fa80_0 h11 ⟨rfl, rfl⟩)))), trivial⟩) rfl ?_
          refine DrawP_consL (acc' := [_, _, _]) (eqRes _) (goodS rfl rfl ⟨(fun γ => Needs_w 1 (by kernel_rfl) rfl (fun r47 h47 => Needs_nil (vopT rfl (V_load 1 VT.ty3 h47 rfl rfl ⟨rfl, rfl⟩)))), trivial⟩) rfl ?_
          refine DrawP_consL (acc' := [_, _, _, _]) (eqRes _) (goodS rfl rfl ⟨(fun γ => Needs_f (by kernel_rfl) (fun r11 h11 => Needs_nil (vopT rfl (V_fieldAddr VT.fa80_1 h11 ⟨rfl, rfl⟩)))), trivial⟩) rfl ?_
          refine DrawP_consL (acc' := [_, _, _, _, _]) (eqRes _) (goodS rfl rfl ⟨(fun γ => Needs_w 3 (by kernel_rfl) rfl (fun r49 h49 => Needs_nil (vopT rfl (V_load 1 VT.ty25 h49 rfl rfl ⟨rfl, rfl⟩)))), trivial⟩) rfl ?_
          refine DrawP_consL (acc' := [_, _, _, _, _, _]) (eqRes _) (goodS rfl rfl ⟨(fun γ => Needs_f (by kernel_rfl) (fun r1 h1 => Needs_nil (vopT rfl (V_move h1 ⟨rfl, rfl⟩)))), trivial⟩) rfl ?_
          refine DrawP_consL (acc' := [_, _, _, _, _, _, _]) (eqRes _) (goodS rfl rfl ⟨(fun γ => Needs_w 4 (by kernel_rfl) rfl (fun r50 h50 => Needs_w 5 (by kernel_rfl) rfl (fun r51 h51 => Needs_nil (vopT rfl (VOp_as (V_sliceTo VT.sl25 h50 h51 (by omega) (by simp; omega) ⟨rfl, rfl⟩) (V.le.of_eq (v' := patsX (r.2.take k)) (by rw [patsX, List.map_take]; try rfl)) ⟨rfl, rfl⟩))))), trivial⟩) rfl ?_
          refine DrawP_consL (acc' := [_, _, _, _, _, _, _, _]) (eqRes _) (goodS rfl rfl ⟨(fun γ => Needs_f (by kernel_rfl) (fun r11 h11 => Needs_nil (vopT rfl (V_fieldAddr VT.fa80_1 h11 ⟨rfl, rfl⟩)))), trivial⟩) rfl ?_
          refine DrawP_consL (acc' := [_, _, _, _, _, _, _, _, _]) (eqRes _) (goodS rfl rfl ⟨(fun γ => Needs_w 7 (by kernel_rfl) rfl (fun r53 h53 => Needs_nil (vopT rfl (V_load 1 VT.ty25 h53 rfl rfl ⟨rfl, rfl⟩)))), trivial⟩) rfl ?_
          refine DrawP_consL (acc' := [_, _, _, _, _, _, _, _, _, _]) (eqRes _) (goodS rfl rfl ⟨(fun γ => Needs_f (by kernel_rfl) (fun r1 h1 => Needs_nil (vopT rfl (V_move h1 ⟨rfl, rfl⟩)))), trivial⟩) rfl ?_
          refine DrawP_consL (acc' := [_, _, _, _, _, _, _, _, _, _, _]) (eqRes _) (goodS rfl rfl ⟨(fun γ => Needs_w 9 (by kernel_rfl) rfl (fun r55 h55 => Needs_nil (vopT rfl (V_add h55 rfl (by omega) ⟨rfl, rfl⟩)))), trivial⟩) rfl ?_
          refine DrawP_consL (acc' := [_, _, _, _, _, _, _, _, _, _, _, _]) (eqRes _) (goodS rfl rfl ⟨(fun γ => Needs_w 8 (by kernel_rfl) rfl (fun r54 h54 => Needs_w 10 (by kernel_rfl) rfl (fun r56 h56 => Needs_nil (vopT rfl (VOp_as (V_sliceFrom VT.sl25 h54 h56 (by omega) (by simp; omega) ⟨rfl, rfl⟩) (V.le.of_eq (v' := patsX (r.2.drop (k + 1))) (by rw [patsX, List.map_drop]; try rfl)) ⟨rfl, rfl⟩))))), trivial⟩) rfl ?_
          refine DrawP_consL (acc' := [_, _, _, _, _, _, _, _, _, _, _, _, _]) (eqRes _) (goodS rfl rfl ⟨(fun γ => Needs_f (by kernel_rfl) (fun r13 h13 => Needs_nil (vopT rfl (V_move h13 ⟨rfl, rfl⟩)))), trivial⟩) rfl ?_
          refine DrawP_consL (acc' := [_, _, _, _, _, _, _, _, _, _, _, _, _, _]) (eqRes _) (goodS rfl rfl ⟨(fun γ => Needs_w 6 (by kernel_rfl) rfl (fun r52 h52 => Needs_w 11 (by kernel_rfl) rfl (fun r57 h57 => Needs_w 12 (by kernel_rfl) rfl (fun r58 h58 => Needs_nil (vopT rfl (V_lit [.tmp 52, .tmp 57, .tmp 58] VT.sl23 rfl rfl rfl (evs_cons h52 (evs_cons h57 (evs_cons h58 evs_nil))) rfl ⟨rfl, rfl⟩)))))), trivial⟩) rfl ?_
          refine DrawP_consL (acc' := [_, _, _, _, _, _, _, _, _, _, _, _, _, _, _]) (eqRes _) (goodS rfl rfl ⟨(fun γ => Needs_w 13 (by kernel_rfl) rfl (fun r59 h59 => Needs_nil (vopT rfl (V_callP [.tmp 59] rfl (evs_cons h59 evs_nil) VT.en47 (hcc) ⟨rfl, rfl⟩)))), trivial⟩) rfl ?_
          refine DrawP_consL (acc' := [_, _, _, _, _, _, _, _, _, _, _, _, _, _, _, _]) (eqRes _) (goodS rfl rfl ⟨(fun γ => Needs_w 2 (by kernel_rfl) rfl (fun r48 h48 => Needs_w 14 (by kernel_rfl) rfl (fun r60 h60 => Needs_nil (vopT rfl (V_build [0, 1] [.tmp 48, .tmp 60] VT.st80 rfl rfl (evs_cons h48 (evs_cons h60 evs_nil)) rfl ⟨rfl, rfl⟩))))), trivial⟩) rfl ?_
          refine DrawP_consL (acc' := [_, _, _, _, _, _, _, _, _, _, _, _, _, _, _, _, _]) (eqRes _) (goodS rfl rfl ⟨(fun γ => Needs_w 15 (by kernel_rfl) rfl (fun r61 h61 => Needs_nil (vopT rfl (V_lit [.tmp 61] VT.sl77 rfl rfl rfl (evs_cons h61 evs_nil) rfl ⟨rfl, rfl⟩)))), trivial⟩) rfl ?_
          refine DrawP_consL (acc' := [_, _, _, _, _, _, _, _, _, _, _, _, _, _, _, _, _, _]) (oneRes (fun x => .sl 2 (some x) ((narrowM k is many (rows.take i)).map mrowX ++ [mrowX (r.1, newPats k many p r.2)]))) (goodU1 rfl (fun γ => Needs_w 0 (by kernel_rfl) rfl (fun r46 h46 => Needs_w 16 (by kernel_rfl) rfl (fun r62 h62 => Needs_nil (vopT rfl (V_appendN 2 _ VT.sl77 h46 h62 rfl (by simp) (by simp; omega) (fun t63 => ⟨t63, ⟨t63, rfl, rfl⟩, rfl⟩))))))) rfl ?_
          refine DrawP_consL (acc' := [_, _, _, _, _, _, _, _, _, _, _, _, _, _, _, _, _, _, _]) (oneRes (fun x => .sl 2 (some x) ((narrowM k is many (rows.take i)).map mrowX ++ [mrowX (r.1, newPats k many p r.2)]))) (goodS rfl rfl ⟨(fun γ => Needs_w 17 (by kernel_rfl) rfl (fun r63 h63 => Needs_nil (oneE h63 (fun e63 => vopT rfl (V_assign e63 ⟨⟨_, rfl, rfl⟩, rfl⟩))))), trivial⟩) rfl ?_
          refine DrawP_nil (fun γ => Needs_w 18 (by kernel_rfl) rfl (fun r9 h9 => Needs_nil ?_))
          have e9 : r9 = some _ := oneY h9
          subst e9
          clear h9
          refine InBlock_n (Then_n ?_)
          refine VW_region ?_
          refine VOps_cons rfl rfl (V_add rfl rfl (by omega) ?_)
          refine VOps_cons rfl rfl (V_move rfl ?_)
          refine VOps_nil ?_
          refine Then_n ?_
          exact ⟨(i + 1, (γ 0)), (by (try simp only []); omega), (by omega), ⟨rfl, rfl, rfl, (by rw [take_snoc hr, hsn]; first | rfl | (rw [List.map_append]; rfl)), rfl, rfl, rfl, trivial⟩, (Drops.drop (Drops.drop (Drops.buf (by rw [take_snoc hr, hsn]; try simp) (Drops.keep (Drops.refl _)))))⟩
  · skip
    refine VW_exit ?_
    refine Then_e (Then_e (InBlock_hit ?_))
    refine Then_n ?_
    refine VW_seq ?_
    refine VW_region ?_
    refine VOps_cons rfl rfl (V_move rfl ?_)
    refine VOps_cons rfl rfl (V_assign rfl ?_)
    refine VOps_nil ?_
    refine Then_n ?_
    refine VW_ret ?_
    refine VRet_one rfl (.strip rfl) ?_
    rw [take_end h17]
    exact ⟨_, Drops.drop (Drops.refl _), rfl, rfl⟩


set_option maxRecDepth 100000 in
theorem never_k (p : Pat) (o : Own) : VKeep Try.prog 87 [patX p] [o] (.bool false) := by
  refine VCalls_drops ?_
  refine V_start (nt := 3) Try.func87 rfl rfl rfl ?_
  refine VW_seq ?_
  refine VW_region ?_
  refine VOps_cons rfl rfl (V_box rfl rfl (fun g1 => ?_))
  refine VOps_cons rfl rfl (V_assign rfl ?_)
  refine VOps_nil ?_
  refine Then_n ?_
  refine VW_seq ?_
  refine VW_region ?_
  refine VOps_cons rfl rfl (V_assign rfl ?_)
  refine VOps_nil ?_
  refine Then_n ?_
  refine VW_ret ?_
  refine VRet_one rfl (.tmp rfl) ?_
  exact ⟨_, Drops.drop (Drops.refl _), rfl, rfl⟩


set_option maxRecDepth 100000 in
theorem other_c {t : Tab} {ds : List DataSig} {f : Nat} (ih : BuildC t ds f) (gb gm : Nat) (tk : Tok) (tab : List (Str × V)) (s : BSt) (rows : List MRow) (paths : List (List Int)) (τs : List Ty) (k : Nat) (p : Pat) (τ : Ty) (htab : ConTab t ds tab) (h : MPre t (f + 1) rows paths τs) (ha : AtHead t rows τs k p τ) (hs : s.full = decide (4096 < s.many)) (ho : s.out.length ≤ s.many) (hm : s.many ≤ 4097 + (f + 1) * 1100) (hf : f ≤ 401) : VTok Try.prog 60 [.ptr gb 0, mrowsX rows, pathsX paths, .int k] [bcell gb gm tk s, bbuf tk s, .map gm (kmap kstr tab)] (.int (otherF (buildM t ds f) s rows paths k).2) fun tk' => [bcell gb gm tk' (otherF (buildM t ds f) s rows paths k).1, bbuf tk' (otherF (buildM t ds f) s rows paths k).1, .map gm (kmap kstr tab)] := by
  have hrl := h.len
  obtain ⟨hk1, hk2, hk3⟩ := mpre_paths h ha
  unfold VTok
  refine V_start (nt := 17) Try.func60 rfl rfl rfl ?_
  refine VW_seq ?_
  refine VW_region ?_
  refine VOps_cons rfl rfl (V_assign rfl ?_)
  refine VOps_nil ?_
  refine Then_n ?_
  refine VW_seq ?_
  refine VW_region ?_
  refine VOps_cons rfl rfl (V_move rfl ?_)
  refine VOps_cons rfl rfl (V_move rfl ?_)
  refine VOps_cons rfl rfl (V_move rfl ?_)
  refine VOps_cons rfl rfl (V_callK 0 [.tmp 10, .tmp 11, .func 87, .const (.int .i64 (0))] rfl rfl VT.en58 rfl (mnarrow_c (caps := []) (is := fun _ => false) VT.en87 (fun p => never_k p _) rows k 0 (mpre_rows h ha) (by omega) (by omega)) ?_)
  refine VOps_cons rfl rfl (V_move rfl ?_)
  refine VOps_cons rfl rfl (V_move rfl ?_)
  refine VOps_cons rfl rfl (V_callP [.tmp 13, .tmp 14, .const (.int .i64 (0))] rfl rfl VT.en59 (below_c paths k 0 hk1 hk2 hk3 (by omega)) ?_)
  refine VOps_cons rfl rfl (V_callTok [.tmp 9, .tmp 12, .tmp 15] _ _ rfl rfl VT.en31 (.refl _) (ih gb gm tk tab s _ _ _ htab (other_child h ha) hs ho hm hf) (fun t16 => ?_))
  refine VOps_cons rfl rfl (V_assign rfl ?_)
  refine VOps_nil ?_
  refine Then_n ?_
  refine VW_ret ?_
  refine VRet_one rfl (.tmp rfl) ?_
  exact ⟨t16, rfl, rfl⟩


set_option maxRecDepth 100000 in
set_option maxHeartbeats 8000000 in
theorem words_c {t : Tab} {ds : List DataSig} {f : Nat} (hok : TabOk t ds) (ih : BuildC t ds f) (gb gm : Nat) (tk : Tok) (tab : List (Str × V)) (s0 : BSt) (rows : List MRow) (paths : List (List Int)) (τs : List Ty) (k : Nat) (p0 : Pat) (τ : Ty) (htab : ConTab t ds tab) (h : MPre t (f + 1) rows paths τs) (ha : AtHead t rows τs k p0 τ) (hk2 : p0.kind = 2) (hs0 : s0.full = decide (4096 < s0.many)) (ho0 : s0.out.length ≤ s0.many) (hm0 : s0.many ≤ 4097 + f * 1100) (hf : f ≤ 400) : VTok Try.prog 54 [.ptr gb 0, mrowsX rows, pathsX paths, .int k] [bcell gb gm tk s0, bbuf tk s0, .map gm (kmap kstr tab)] (.int (wordsF (buildM t ds f) s0 rows paths k).2) fun tk' => [bcell gb gm tk' (wordsF (buildM t ds f) s0 rows paths k).1, bbuf tk' (wordsF (buildM t ds f) s0 rows paths k).1, .map gm (kmap kstr tab)] := by
  have hrl := h.len
  obtain ⟨hk1, hk22, hk3⟩ := mpre_paths h ha
  have hmr := mpre_rows h ha
  obtain ⟨path, hpath⟩ := get_of_lt paths k (by omega)
  have hpg : paths.getD k [] = path := by simp [hpath]
  unfold VTok
  refine VCalls_drops ?_
  refine V_start (nt := 75) Try.func54 rfl rfl rfl ?_
  refine VW_seq ?_
  refine VW_region ?_
  refine VOps_cons rfl rfl (V_assign rfl ?_)
  refine VOps_nil ?_
  refine Then_n ?_
  refine VW_seq ?_
  refine VW_region ?_
  refine VOps_cons rfl rfl (V_move rfl ?_)
  refine VOps_cons rfl rfl (V_move rfl ?_)
  refine VOps_cons rfl rfl (V_indexAddr (el := intsX path) VT.sl78 rfl rfl (by omega) (get_mapS _ hpath) (fun a16 => ?_))
  refine VOps_cons rfl rfl (V_load_ep VT.ty32 rfl rfl ?_)
  refine VOps_cons rfl rfl (V_build [0, 2] [.const (.int .i64 (3)), .tmp 17] VT.st49 rfl rfl rfl rfl ?_)
  refine VOps_cons rfl rfl (V_alloc VT.zr49 _ rfl rfl (fun g9 => ?_))
  refine VOps_cons rfl rfl (V_store_agg 0 VT.ty49 rfl rfl rfl rfl rfl ?_)
  refine VOps_nil ?_
  refine Then_n ?_
  refine VW_cells 0 (ls' := [.int 3, .int 0, intsX path, .raw (.slice none 0 0), .sl 1 (some .nil) [], .sl 1 (some .nil) []]) rfl ⟨V.le.refl _, rfl, V.le.refl _, rfl, V.le.refl _, rfl, V.le.refl _, rfl, V.le.nilTok 1, rfl, V.le.nilTok 1, rfl, trivial⟩ ?_
  refine VW_nilBuf 3 1 ?_
  refine VW_nilBuf 3 1 ?_
  refine VW_seq ?_
  refine VW_seq ?_
  refine VW_region ?_
  refine VOps_cons rfl rfl (V_move rfl ?_)
  refine VOps_cons rfl rfl (V_lenN (n := rows.length) Try.underlying77 rfl (by simp) (fun hl20 => ?_))
  refine VOps_cons rfl rfl (V_move rfl ?_)
  refine VOps_nil ?_
  refine Then_n ?_
  refine VW_block ?_
  refine VW_loopF (ι := Nat × Tok × Tok × Tok × BSt × List Int × List Int) (fun (i, tk, tw, tq, s, ws, kids) => rows.length - i) (fun (i, tk, tw, tq, s, ws, kids) => [(0, some (.ptr gb 0)), (1, some (mrowsX rows)), (2, some (pathsX paths)), (3, some (.int k)), (9, some (.ptr g9 0)), (19, some (mrowsX rows)), (20, some (.int rows.length)), (21, some (.int i))]) (fun (i, tk, tw, tq, s, ws, kids) => [.buf tq 3 1 kids.length, .buf tw 3 1 ws.length, tcell g9 3 path (.raw (.slice none 0 0)) (.sl 1 (some tw) (ws.map V.int)) (.sl 1 (some tq) (kids.map V.int)), bcell gb gm tk s, bbuf tk s, .map gm (kmap kstr tab)]) (fun (i, tk, tw, tq, s, ws, kids) => i ≤ rows.length ∧ wordsL (buildM t ds f) rows paths k (rows.drop i) s ws kids = wordsL (buildM t ds f) rows paths k rows s0 [] [] ∧ s.full = decide (4096 < s.many) ∧ s.out.length ≤ s.many ∧ s.many ≤ 4097 + f * 1100 + i ∧ ws.length ≤ i ∧ kids.length ≤ i) (0, tk, .nil, .nil, s0, [], []) ⟨Nat.zero_le _, rfl, hs0, ho0, by omega, Nat.le_refl _, Nat.le_refl _⟩ ⟨rfl, rfl, rfl, rfl, rfl, rfl, rfl, rfl, trivial⟩ (Drops.buf rfl (Drops.buf rfl (Drops.keep (Drops.keep (Drops.buf rfl (Drops.keep (Drops.refl _))))))) ?_
  rintro ⟨i, tk, tw, tq, s, ws, kids⟩ hA
  change i ≤ rows.length ∧ wordsL (buildM t ds f) rows paths k (rows.drop i) s ws kids = wordsL (buildM t ds f) rows paths k rows s0 [] [] ∧ s.full = decide (4096 < s.many) ∧ s.out.length ≤ s.many ∧ s.many ≤ 4097 + f * 1100 + i ∧ ws.length ≤ i ∧ kids.length ≤ i at hA
  obtain ⟨hi, hq, hs, ho, hm, hw, hkl⟩ := hA
  refine VW_seq ?_
  refine VW_region ?_
  refine VOps_cons rfl rfl (V_bin rfl rfl rfl ?_)
  refine VOps_nil ?_
  refine Then_n ?_
  refine VW_seq ?_
  refine VW_condP rfl (fun h22 => ?_) (fun h22 => ?_)
  · skip
    obtain ⟨r, hr⟩ := get_of_lt rows i h22
    have hrm := List.mem_of_getElem? hr
    obtain ⟨hr1, hr2, hr3⟩ := hmr r hrm
    obtain ⟨p, hpk⟩ := get_of_lt r.2 k (by omega)
    have hpd : r.2.getD k anyP = p := by simp [hpk]
    refine VW_skip ?_
    refine Then_n ?_
    refine VW_seq ?_
    refine VW_block ?_
    refine VW_seq ?_
    refine VW_region ?_
    refine VOps_cons rfl rfl (V_indexAddr (el := mrowX r) VT.sl77 rfl rfl (by omega) (get_mapS _ hr) (fun a23 => ?_))
    refine VOps_cons rfl rfl (V_load_ep_agg VT.ty80 rfl rfl ?_)
    refine VOps_cons rfl rfl (V_alloc VT.zr80 _ rfl rfl (fun g11 => ?_))
    refine VOps_cons rfl rfl (V_store_agg 0 VT.ty80 rfl rfl rfl rfl rfl ?_)
    refine VOps_nil ?_
    refine Then_n ?_
    refine VW_seq ?_
    refine VW_region ?_
    refine VOps_cons rfl rfl (V_fieldAddr VT.fa80_1 rfl ?_)
    refine VOps_cons rfl rfl (V_load 0 VT.ty25 rfl rfl rfl ?_)
    refine VOps_cons rfl rfl (V_move rfl ?_)
    refine VOps_cons rfl rfl (V_indexAddr (el := patX p) VT.sl25 rfl rfl (by omega) (get_patS hpk) (fun a28 => ?_))
    refine VOps_cons rfl rfl (V_load_ep_agg VT.ty30 rfl rfl ?_)
    refine VOps_cons rfl rfl (V_alloc VT.zr30 _ rfl rfl (fun g12 => ?_))
    refine VOps_cons rfl rfl (V_store_agg 0 VT.ty30 rfl rfl rfl rfl rfl ?_)
    refine VOps_nil ?_
    refine Then_n ?_
    refine VW_seq ?_
    refine VW_seq ?_
    refine VW_region ?_
    refine VOps_cons rfl rfl (V_load_agg 0 VT.ty30 rfl rfl rfl ?_)
    rcases hfr : free p with _ | _
    · skip
      refine VOps_cons rfl rfl (V_callP [.tmp 30] rfl rfl VT.en53 (mfree_at hfr) ?_)
      refine VOps_cons rfl rfl (V_move rfl ?_)
      refine VOps_split (q := 32) rfl (fun hq32 => ?_) (fun hq32 => ?_)
      · exact absurd hq32 (by simp)
      · skip
        refine VOps_cons (want_of rfl rfl rfl hq32) rfl (V_fieldAddr VT.fa49_4 rfl ?_)
        refine VOps_cons (want_of rfl rfl rfl hq32) rfl (V_load 4 VT.ty32 rfl rfl rfl ?_)
        refine VOps_cons (want_of rfl rfl rfl hq32) rfl (V_fieldAddr VT.fa30_2 rfl ?_)
        refine VOps_cons (want_of rfl rfl rfl hq32) rfl (V_load 0 VT.ty3 rfl rfl rfl ?_)
        refine VOps_cons (want_of rfl rfl rfl hq32) rfl (V_callP [.tmp 34, .tmp 36] rfl rfl VT.en83 (intsContains_c ws (some tw) p.n) ?_)
        refine VOps_cons rfl rfl (V_pickF rfl hq32 rfl ?_)
        refine VOps_nil ?_
        refine Then_n ?_
        refine VW_cond rfl (fun h38 => ?_) (fun h38 => ?_)
        · skip
          have hSkip : i + 1 ≤ rows.length ∧ wordsL (buildM t ds f) rows paths k (rows.drop (i + 1)) s ws kids = wordsL (buildM t ds f) rows paths k rows s0 [] [] ∧ s.full = decide (4096 < s.many) ∧ s.out.length ≤ s.many ∧ s.many ≤ 4097 + f * 1100 + (i + 1) ∧ ws.length ≤ i + 1 ∧ kids.length ≤ i + 1 := ⟨by omega, by rw [← hq, drop_cons hr, wordsL, hpd, hfr, Bool.false_or, if_pos h38], hs, ho, by omega, by omega, by omega⟩
          refine VW_exit ?_
          refine Then_e (InBlock_hit ?_)
          refine Then_n ?_
          refine VW_region ?_
          refine VOps_cons rfl rfl (V_add rfl rfl (by omega) ?_)
          refine VOps_cons rfl rfl (V_move rfl ?_)
          refine VOps_nil ?_
          refine Then_n ?_
          exact ⟨(i + 1, tk, tw, tq, s, ws, kids), (by (try simp only []); omega), (by first | exact hNext | exact hSkip), ⟨rfl, rfl, rfl, rfl, rfl, rfl, rfl, rfl, trivial⟩, (Drops.drop (Drops.drop (Drops.buf (by first | rfl | (simp; done)) (Drops.buf (by first | rfl | (simp; done)) (Drops.keepE (by first | rfl | (simp [tcell]; done)) (Drops.keep (Drops.buf rfl (Drops.keep (Drops.refl _)))))))))⟩
        · skip
          have hKe := wordsL_bound hok h ha hk2 p.n s hs
          have hKo := hKe.out
          have hKl := hKe.loop hm
          have hNext : i + 1 ≤ rows.length ∧ wordsL (buildM t ds f) rows paths k (rows.drop (i + 1)) (buildM t ds f s (narrowM k (isInt p.n) 0 rows) (belowM paths k 0)).1 (ws ++ [p.n]) (kids ++ [((buildM t ds f s (narrowM k (isInt p.n) 0 rows) (belowM paths k 0)).2 : Int)]) = wordsL (buildM t ds f) rows paths k rows s0 [] [] ∧ (buildM t ds f s (narrowM k (isInt p.n) 0 rows) (belowM paths k 0)).1.full = decide (4096 < (buildM t ds f s (narrowM k (isInt p.n) 0 rows) (belowM paths k 0)).1.many) ∧ (buildM t ds f s (narrowM k (isInt p.n) 0 rows) (belowM paths k 0)).1.out.length ≤ (buildM t ds f s (narrowM k (isInt p.n) 0 rows) (belowM paths k 0)).1.many ∧ (buildM t ds f s (narrowM k (isInt p.n) 0 rows) (belowM paths k 0)).1.many ≤ 4097 + f * 1100 + (i + 1) ∧ (ws ++ [p.n]).length ≤ i + 1 ∧ (kids ++ [((buildM t ds f s (narrowM k (isInt p.n) 0 rows) (belowM paths k 0)).2 : Int)]).length ≤ i + 1 := ⟨by omega, by rw [← hq, drop_cons hr, wordsL, hpd, hfr, Bool.false_or, if_neg (by rw [h38]; simp)], hKe.full, by omega, hKl, by simp; omega, by simp; omega⟩
          refine VW_skip ?_
          refine Then_n ?_
          refine VW_seq ?_
          refine VW_region ?_
          refine VOps_cons rfl rfl (V_fieldAddr VT.fa49_4 rfl ?_)
          refine VOps_cons rfl rfl (V_load 4 VT.ty32 rfl rfl rfl ?_)
          refine VOps_cons rfl rfl (V_fieldAddr VT.fa30_2 rfl ?_)
          refine VOps_cons rfl rfl (V_load 0 VT.ty3 rfl rfl rfl ?_)
          refine VOps_cons rfl rfl (V_lit [.tmp 42] VT.sl32 rfl rfl rfl rfl rfl ?_)
          refine VOps_cons rfl rfl (V_appendN 3 _ VT.sl32 rfl rfl rfl (by simp) (by simp; omega) (fun t44 => ?_))
          refine VOps_cons rfl rfl (V_fieldAddr VT.fa49_4 rfl ?_)
          refine VOps_cons rfl rfl (V_store 4 VT.ty32 rfl rfl rfl rfl rfl ?_)
          refine VOps_nil ?_
          refine Then_n ?_
          refine VW_seq ?_
          refine VW_region ?_
          refine VOps_cons rfl rfl (V_makeFunc [.tmp 12] rfl rfl ?_)
          refine VOps_cons rfl rfl (V_assign rfl ?_)
          refine VOps_nil ?_
          refine Then_n ?_
          refine VW_draw (G := Tok) [([], [9], []), ([0], [47], []), ([], [0], []), ([], [1], []), ([], [3], []), ([], [13], []), ([5, 4, 3], [50, 51, 52], []), ([], [2], []), ([], [3], []), ([8, 7, 6, 5, 4, 3], [54, 55], []), ([9, 8, 7, 6, 5, 4, 3, 2], [49, 53, 56], []), ([10, 9, 8, 7, 6, 5, 4, 3, 2], [57], []), ([11, 10, 9, 8, 7, 6, 5, 4, 3, 2, 1, 0], [48, 58], [1]), ([12, 11, 10, 9, 8, 7, 6, 5, 4, 3, 2, 1, 0], [9], []), ([13, 12, 11, 10, 9, 8, 7, 6, 5, 4, 3, 2, 1, 0], [60, 59], [])] [10, 12, 14] (threeSt _ (fun x => [bcell gb gm x (buildM t ds f s (narrowM k (isInt p.n) 0 rows) (belowM paths k 0)).1, bbuf x (buildM t ds f s (narrowM k (isInt p.n) 0 rows) (belowM paths k 0)).1, .map gm (kmap kstr tab), .cells g12 30 [.int p.kind, .str p.name, .int p.n, patsX p.args], .cells g11 80 [.int r.1, patsX r.2], .buf tq 3 1 kids.length, .buf t44 3 1 (ws.map V.int ++ [V.int p.n]).length, tcell g9 3 path (.raw (.slice none 0 0)) (.sl 1 (some t44) (ws.map V.int ++ [V.int p.n])) (.sl 1 (some tq) (kids.map V.int))]) (fun x y => [bcell gb gm x (buildM t ds f s (narrowM k (isInt p.n) 0 rows) (belowM paths k 0)).1, bbuf x (buildM t ds f s (narrowM k (isInt p.n) 0 rows) (belowM paths k 0)).1, .map gm (kmap kstr tab), .cells g12 30 [.int p.kind, .str p.name, .int p.n, patsX p.args], .cells g11 80 [.int r.1, patsX r.2], .buf y 3 1 (kids.map V.int ++ [V.int (buildM t ds f s (narrowM k (isInt p.n) 0 rows) (belowM paths k 0)).2]).length, .buf t44 3 1 (ws.map V.int ++ [V.int p.n]).length, tcell g9 3 path (.raw (.slice none 0 0)) (.sl 1 (some t44) (ws.map V.int ++ [V.int p.n])) (.sl 1 (some tq) (kids.map V.int))]) (fun x y _ => [bcell gb gm x (buildM t ds f s (narrowM k (isInt p.n) 0 rows) (belowM paths k 0)).1, bbuf x (buildM t ds f s (narrowM k (isInt p.n) 0 rows) (belowM paths k 0)).1, .map gm (kmap kstr tab), .cells g12 30 [.int p.kind, .str p.name, .int p.n, patsX p.args], .cells g11 80 [.int r.1, patsX r.2], .buf y 3 1 (kids.map V.int ++ [V.int (buildM t ds f s (narrowM k (isInt p.n) 0 rows) (belowM paths k 0)).2]).length, .buf t44 3 1 (ws.map V.int ++ [V.int p.n]).length, tcell g9 3 path (.raw (.slice none 0 0)) (.sl 1 (some t44) (ws.map V.int ++ [V.int p.n])) (.sl 1 (some y) (kids.map V.int ++ [V.int (buildM t ds f s (narrowM k (isInt p.n) 0 rows) (belowM paths k 0)).2]))])) [] [47, 48, 49, 50, 51, 52, 53, 54, 55, 56, 57, 58, 59, 60] rfl VT.mix (by kernel_rfl) (by kernel_rfl) ?_
          refine DrawP_consL (acc' := [_]) (eqRes _) (goodS rfl rfl ⟨(fun γ => Needs_f (by kernel_rfl) (fun r9 h9 => Needs_nil (vopT rfl (V_fieldAddr VT.fa49_5 h9 ⟨rfl, rfl⟩)))), (fun γ => Needs_f (by kernel_rfl) (fun r9 h9 => Needs_nil (vopT rfl (V_fieldAddr VT.fa49_5 h9 ⟨rfl, rfl⟩)))), trivial⟩) rfl ?_
          refine DrawP_consL (acc' := [_, _]) (eqRes _) (goodS rfl rfl ⟨(fun γ => Needs_w 0 (by kernel_rfl) rfl (fun r47 h47 => Needs_nil (vopT rfl (V_load 4 VT.ty32 h47 rfl rfl ⟨rfl, rfl⟩)))), (fun γ => Needs_w 0 (by kernel_rfl) rfl (fun r47 h47 => Needs_nil (vopT rfl (V_load 7 VT.ty32 h47 rfl rfl ⟨rfl, rfl⟩)))), trivial⟩) rfl ?_
          refine DrawP_consL (acc' := [_, _, _]) (eqRes _) (goodS rfl rfl ⟨(fun γ => Needs_f (by kernel_rfl) (fun r0 h0 => Needs_nil (vopT rfl (V_move h0 ⟨rfl, rfl⟩)))), trivial⟩) rfl ?_
          refine DrawP_consL (acc' := [_, _, _, _]) (eqRes _) (goodS rfl rfl ⟨(fun γ => Needs_f (by kernel_rfl) (fun r1 h1 => Needs_nil (vopT rfl (V_move h1 ⟨rfl, rfl⟩)))), trivial⟩) rfl ?_
          refine DrawP_consL (acc' := [_, _, _, _, _]) (eqRes _) (goodS rfl rfl ⟨(fun γ => Needs_f (by kernel_rfl) (fun r3 h3 => Needs_nil (vopT rfl (V_move h3 ⟨rfl, rfl⟩)))), trivial⟩) rfl ?_
          refine DrawP_consL (acc' := [_, _, _, _, _, _]) (eqRes _) (goodS rfl rfl ⟨(fun γ => Needs_f (by kernel_rfl) (fun r13 h13 => Needs_nil (vopT rfl (V_move h13 ⟨rfl, rfl⟩)))), trivial⟩) rfl ?_
          refine DrawP_consL (acc' := [_, _, _, _, _, _, _]) (eqRes _) (goodS rfl rfl ⟨(fun γ => Needs_w 3 (by kernel_rfl) rfl (fun r50 h50 => Needs_w 4 (by kernel_rfl) rfl (fun r51 h51 => Needs_w 5 (by kernel_rfl) rfl (fun r52 h52 => Needs_nil (vopT rfl (V_callK 0 [.tmp 50, .tmp 51, .tmp 52, .const (.int .i64 (0))] rfl (evs_cons h50 (evs_cons h51 (evs_cons h52 (evs_cons rfl evs_nil)))) VT.en58 rfl (mnarrow_c VT.en84 (fun q => isInt_c q p g12) rows k 0 hmr (by omega) (by omega)) ⟨rfl, rfl⟩)))))), trivial⟩) rfl ?_
          refine DrawP_consL (acc' := [_, _, _, _, _, _, _, _]) (eqRes _) (goodS rfl rfl ⟨(fun γ => Needs_f (by kernel_rfl) (fun r2 h2 => Needs_nil (vopT rfl (V_move h2 ⟨rfl, rfl⟩)))), trivial⟩) rfl ?_
          refine DrawP_consL (acc' := [_, _, _, _, _, _, _, _, _]) (eqRes _) (goodS rfl rfl ⟨(fun γ => Needs_f (by kernel_rfl) (fun r3 h3 => Needs_nil (vopT rfl (V_move h3 ⟨rfl, rfl⟩)))), trivial⟩) rfl ?_
          refine DrawP_consL (acc' := [_, _, _, _, _, _, _, _, _, _]) (eqRes _) (goodS rfl rfl ⟨(fun γ => Needs_w 7 (by kernel_rfl) rfl (fun r54 h54 => Needs_w 8 (by kernel_rfl) rfl (fun r55 h55 => Needs_nil (vopT rfl (V_callP [.tmp 54, .tmp 55, .const (.int .i64 (0))] rfl (evs_cons h54 (evs_cons h55 (evs_cons rfl evs_nil))) VT.en59 (below_c paths k 0 hk1 hk22 hk3 (by omega)) ⟨rfl, rfl⟩))))), trivial⟩) rfl ?_
          refine DrawP_consL (acc' := [_, _, _, _, _, _, _, _, _, _, _]) (eqRes _) (goodU 0 rfl (fun γ => Needs_w 2 (by kernel_rfl) rfl (fun r49 h49 => Needs_w 6 (by kernel_rfl) rfl (fun r53 h53 => Needs_w 9 (by kernel_rfl) rfl (fun r56 h56 => Needs_nil (vopT rfl (V_callTok [.tmp 49, .tmp 53, .tmp 56] _ _ rfl (evs_cons h49 (evs_cons h53 (evs_cons h56 evs_nil))) VT.en31 ((perm_erase (i := 5) rfl).trans (.cons _ ((perm_erase (i := 5) rfl).trans (.cons _ ((perm_erase (i := 5) rfl).trans (.cons _ (.refl _))))))) (ih gb gm tk tab s _ _ _ htab (word_child (isInt p.n) h ha hk2) hs ho (by omega) (by omega)) (fun t57 => ⟨t57, rfl, rfl⟩)))))))) rfl ?_
          refine DrawP_consL (acc' := [_, _, _, _, _, _, _, _, _, _, _, _]) (eqRes _) (goodS rfl rfl ⟨(fun γ => Needs_w 10 (by kernel_rfl) rfl (fun r57 h57 => Needs_nil (vopT rfl (V_lit [.tmp 57] VT.sl32 rfl rfl rfl (evs_cons h57 evs_nil) rfl ⟨rfl, rfl⟩)))), trivial⟩) rfl ?_
          refine DrawP_consL (acc' := [_, _, _, _, _, _, _, _, _, _, _, _, _]) (oneRes (fun y => .sl 1 (some y) (kids.map V.int ++ [V.int (buildM t ds f s (narrowM k (isInt p.n) 0 rows) (belowM paths k 0)).2]))) (goodU 1 rfl (fun γ => Needs_w 1 (by kernel_rfl) rfl (fun r48 h48 => Needs_w 11 (by kernel_rfl) rfl (fun r58 h58 => Needs_nil (vopT rfl (V_appendN 5 _ VT.sl32 h48 h58 rfl (by simp) (by simp; omega) (fun t59 => ⟨t59, ⟨t59, rfl, rfl⟩, rfl⟩))))))) rfl ?_
          refine DrawP_consL (acc' := [_, _, _, _, _, _, _, _, _, _, _, _, _, _]) (eqRes _) (goodS rfl rfl ⟨(fun γ => Needs_f (by kernel_rfl) (fun r9 h9 => Needs_nil (vopT rfl (V_fieldAddr VT.fa49_5 h9 ⟨rfl, rfl⟩)))), trivial⟩) rfl ?_
          refine DrawP_consL (acc' := [_, _, _, _, _, _, _, _, _, _, _, _, _, _, _]) anyRes (goodU 2 rfl (fun γ => Needs_w 13 (by kernel_rfl) rfl (fun r60 h60 => Needs_w 12 (by kernel_rfl) rfl (fun r59 h59 => Needs_nil (oneE h59 (fun e59 => vopT rfl (V_store 7 VT.ty32 h60 e59 rfl rfl rfl ⟨default, trivial, rfl⟩))))))) rfl ?_
          refine DrawP_nil (fun γ => Needs_nil ?_)
          refine InBlock_n (Then_n ?_)
          refine VW_region ?_
          refine VOps_cons rfl rfl (V_add rfl rfl (by omega) ?_)
          refine VOps_cons rfl rfl (V_move rfl ?_)
          refine VOps_nil ?_
          refine Then_n ?_
          exact ⟨(i + 1, (γ 0), t44, (γ 1), (buildM t ds f s (narrowM k (isInt p.n) 0 rows) (belowM paths k 0)).1, ws ++ [p.n], kids ++ [((buildM t ds f s (narrowM k (isInt p.n) 0 rows) (belowM paths k 0)).2 : Int)]), (by (try simp only []); omega), (by first | exact hNext | exact hSkip), ⟨rfl, rfl, rfl, rfl, rfl, rfl, rfl, rfl, trivial⟩, (Drops.pickBuf 5 rfl (by first | rfl | (simp; done)) (Drops.pickBuf 5 rfl (by first | rfl | (simp; done)) (Drops.pick 5 rfl (by first | rfl | (simp [tcell]; done)) (Drops.pick 0 rfl rfl (Drops.pickBuf 0 rfl rfl (Drops.pick 0 rfl rfl (Drops.nil _)))))))⟩
    · skip
      have hSkip : i + 1 ≤ rows.length ∧ wordsL (buildM t ds f) rows paths k (rows.drop (i + 1)) s ws kids = wordsL (buildM t ds f) rows paths k rows s0 [] [] ∧ s.full = decide (4096 < s.many) ∧ s.out.length ≤ s.many ∧ s.many ≤ 4097 + f * 1100 + (i + 1) ∧ ws.length ≤ i + 1 ∧ kids.length ≤ i + 1 := ⟨by omega, by rw [← hq, drop_cons hr, wordsL, hpd, hfr, Bool.true_or, if_pos rfl], hs, ho, by omega, by omega, by omega⟩
      refine VOps_cons rfl rfl (V_callP [.tmp 30] rfl rfl VT.en53 (mfree_at hfr) ?_)
      refine VOps_cons rfl rfl (V_move rfl ?_)
      refine VOps_split (q := 32) rfl (fun hq32 => ?_) (fun hq32 => ?_)
      · skip
        refine VOps_skipU (.inl (skip_of rfl rfl rfl hq32)) rfl ?_
        refine VOps_skipU (.inl (skip_of rfl rfl rfl hq32)) rfl ?_
        refine VOps_skipU (.inl (skip_of rfl rfl rfl hq32)) rfl ?_
        refine VOps_skipU (.inl (skip_of rfl rfl rfl hq32)) rfl ?_
        refine VOps_skipU (.inl (skip_of rfl rfl rfl hq32)) rfl ?_
        refine VOps_cons rfl rfl (V_pickT rfl hq32 rfl ?_)
        refine VOps_nil ?_
        refine Then_n ?_
        refine VW_condT rfl rfl ?_
        refine VW_exit ?_
        refine Then_e (InBlock_hit ?_)
        refine Then_n ?_
        refine VW_region ?_
        refine VOps_cons rfl rfl (V_add rfl rfl (by omega) ?_)
        refine VOps_cons rfl rfl (V_move rfl ?_)
        refine VOps_nil ?_
        refine Then_n ?_
        exact ⟨(i + 1, tk, tw, tq, s, ws, kids), (by (try simp only []); omega), (by first | exact hNext | exact hSkip), ⟨rfl, rfl, rfl, rfl, rfl, rfl, rfl, rfl, trivial⟩, (Drops.drop (Drops.drop (Drops.buf (by first | rfl | (simp; done)) (Drops.buf (by first | rfl | (simp; done)) (Drops.keepE (by first | rfl | (simp [tcell]; done)) (Drops.keep (Drops.buf rfl (Drops.keep (Drops.refl _)))))))))⟩
      · exact absurd hq32 (by simp)
  · skip
    have hie : i = rows.length := by omega
    subst hie
    rw [List.drop_length, wordsL] at hq
    refine VW_exit ?_
    refine Then_e (Then_e (InBlock_hit ?_))
    refine Then_n ?_
    refine VW_seq ?_
    refine VW_draw (G := Tok) [([], [9], []), ([0], [62], []), ([], [0], []), ([], [1], []), ([], [2], []), ([], [3], []), ([5, 4, 3, 2], [64, 65, 66, 67], []), ([6, 5, 4, 3, 2], [68], []), ([7, 6, 5, 4, 3, 2, 1, 0], [63, 69], [1]), ([8, 7, 6, 5, 4, 3, 2, 1, 0], [9], []), ([9, 8, 7, 6, 5, 4, 3, 2, 1, 0], [71, 70], [])] [6, 8, 10] (threeSt _ (fun x => [bcell gb gm x (otherF (buildM t ds f) s rows paths k).1, bbuf x (otherF (buildM t ds f) s rows paths k).1, .map gm (kmap kstr tab), .buf tq 3 1 kids.length, .buf tw 3 1 ws.length, tcell g9 3 path (.raw (.slice none 0 0)) (.sl 1 (some tw) (ws.map V.int)) (.sl 1 (some tq) (kids.map V.int))]) (fun x y => [bcell gb gm x (otherF (buildM t ds f) s rows paths k).1, bbuf x (otherF (buildM t ds f) s rows paths k).1, .map gm (kmap kstr tab), .buf y 3 1 (kids.map V.int ++ [V.int (otherF (buildM t ds f) s rows paths k).2]).length, .buf tw 3 1 ws.length, tcell g9 3 path (.raw (.slice none 0 0)) (.sl 1 (some tw) (ws.map V.int)) (.sl 1 (some tq) (kids.map V.int))]) (fun x y _ => [bcell gb gm x (otherF (buildM t ds f) s rows paths k).1, bbuf x (otherF (buildM t ds f) s rows paths k).1, .map gm (kmap kstr tab), .buf y 3 1 (kids.map V.int ++ [V.int (otherF (buildM t ds f) s rows paths k).2]).length, .buf tw 3 1 ws.length, tcell g9 3 path (.raw (.slice none 0 0)) (.sl 1 (some tw) (ws.map V.int)) (.sl 1 (some y) (kids.map V.int ++ [V.int (otherF (buildM t ds f) s rows paths k).2]))])) [] [62, 63, 64, 65, 66, 67, 68, 69, 70, 71] rfl VT.mix (by kernel_rfl) (by kernel_rfl) ?_
    refine DrawP_consL (acc' := [_]) (eqRes _) (goodS rfl rfl ⟨(fun γ => Needs_f (by kernel_rfl) (fun r9 h9 => Needs_nil (vopT rfl (V_fieldAddr VT.fa49_5 h9 ⟨rfl, rfl⟩)))), (fun γ => Needs_f (by kernel_rfl) (fun r9 h9 => Needs_nil (vopT rfl (V_fieldAddr VT.fa49_5 h9 ⟨rfl, rfl⟩)))), trivial⟩) rfl ?_
    refine DrawP_consL (acc' := [_, _]) (eqRes _) (goodS rfl rfl ⟨(fun γ => Needs_w 0 (by kernel_rfl) rfl (fun r62 h62 => Needs_nil (vopT rfl (V_load 2 VT.ty32 h62 rfl rfl ⟨rfl, rfl⟩)))), (fun γ => Needs_w 0 (by kernel_rfl) rfl (fun r62 h62 => Needs_nil (vopT rfl (V_load 5 VT.ty32 h62 rfl rfl ⟨rfl, rfl⟩)))), trivial⟩) rfl ?_
    refine DrawP_consL (acc' := [_, _, _]) (eqRes _) (goodS rfl rfl ⟨(fun γ => Needs_f (by kernel_rfl) (fun r0 h0 => Needs_nil (vopT rfl (V_move h0 ⟨rfl, rfl⟩)))), trivial⟩) rfl ?_
    refine DrawP_consL (acc' := [_, _, _, _]) (eqRes _) (goodS rfl rfl ⟨(fun γ => Needs_f (by kernel_rfl) (fun r1 h1 => Needs_nil (vopT rfl (V_move h1 ⟨rfl, rfl⟩)))), trivial⟩) rfl ?_
    refine DrawP_consL (acc' := [_, _, _, _, _]) (eqRes _) (goodS rfl rfl ⟨(fun γ => Needs_f (by kernel_rfl) (fun r2 h2 => Needs_nil (vopT rfl (V_move h2 ⟨rfl, rfl⟩)))), trivial⟩) rfl ?_
    refine DrawP_consL (acc' := [_, _, _, _, _, _]) (eqRes _) (goodS rfl rfl ⟨(fun γ => Needs_f (by kernel_rfl) (fun r3 h3 => Needs_nil (vopT rfl (V_move h3 ⟨rfl, rfl⟩)))), trivial⟩) rfl ?_
    refine DrawP_consL (acc' := [_, _, _, _, _, _, _]) (eqRes _) (goodU 0 rfl (fun γ => Needs_w 2 (by kernel_rfl) rfl (fun r64 h64 => Needs_w 3 (by kernel_rfl) rfl (fun r65 h65 => Needs_w 4 (by kernel_rfl) rfl (fun r66 h66 => Needs_w 5 (by kernel_rfl) rfl (fun r67 h67 => Needs_nil (vopT rfl (V_callTok [.tmp 64, .tmp 65, .tmp 66, .tmp 67] _ _ rfl (evs_cons h64 (evs_cons h65 (evs_cons h66 (evs_cons h67 evs_nil)))) VT.en60 ((perm_erase (i := 3) rfl).trans (.cons _ ((perm_erase (i := 3) rfl).trans (.cons _ ((perm_erase (i := 3) rfl).trans (.cons _ (.refl _))))))) (other_c ih gb gm tk tab s rows paths τs k p0 τ htab h ha hs ho (by omega) (by omega)) (fun t68 => ⟨t68, rfl, rfl⟩))))))))) rfl ?_
    refine DrawP_consL (acc' := [_, _, _, _, _, _, _, _]) (eqRes _) (goodS rfl rfl ⟨(fun γ => Needs_w 6 (by kernel_rfl) rfl (fun r68 h68 => Needs_nil (vopT rfl (V_lit [.tmp 68] VT.sl32 rfl rfl rfl (evs_cons h68 evs_nil) rfl ⟨rfl, rfl⟩)))), trivial⟩) rfl ?_
    refine DrawP_consL (acc' := [_, _, _, _, _, _, _, _, _]) (oneRes (fun y => .sl 1 (some y) (kids.map V.int ++ [V.int (otherF (buildM t ds f) s rows paths k).2]))) (goodU 1 rfl (fun γ => Needs_w 1 (by kernel_rfl) rfl (fun r63 h63 => Needs_w 7 (by kernel_rfl) rfl (fun r69 h69 => Needs_nil (vopT rfl (V_appendN 3 _ VT.sl32 h63 h69 rfl (by simp) (by simp; omega) (fun t70 => ⟨t70, ⟨t70, rfl, rfl⟩, rfl⟩))))))) rfl ?_
    refine DrawP_consL (acc' := [_, _, _, _, _, _, _, _, _, _]) (eqRes _) (goodS rfl rfl ⟨(fun γ => Needs_f (by kernel_rfl) (fun r9 h9 => Needs_nil (vopT rfl (V_fieldAddr VT.fa49_5 h9 ⟨rfl, rfl⟩)))), trivial⟩) rfl ?_
    refine DrawP_consL (acc' := [_, _, _, _, _, _, _, _, _, _, _]) anyRes (goodU 2 rfl (fun γ => Needs_w 9 (by kernel_rfl) rfl (fun r71 h71 => Needs_w 8 (by kernel_rfl) rfl (fun r70 h70 => Needs_nil (oneE h70 (fun e70 => vopT rfl (V_store 5 VT.ty32 h71 e70 rfl rfl rfl ⟨default, trivial, rfl⟩))))))) rfl ?_
    refine DrawP_nil (fun γ => Needs_nil ?_)
    refine Then_n ?_
    have hKe := buildM_keeps hok f s _ _ _ (other_child h ha) hs
    have hKo := hKe.out
    have hKl := hKe.loop hm
    have hwf : wordsF (buildM t ds f) s0 rows paths k = addF (otherF (buildM t ds f) s rows paths k).1 ⟨3, 0, path, [], ws, kids ++ [((otherF (buildM t ds f) s rows paths k).2 : Int)]⟩ := by unfold wordsF; simp only [← hq, hpg]
    have hol : (otherF (buildM t ds f) s rows paths k).1.out.length ≤ 1000000 := by unfold otherF; omega
    refine VW_seq ?_
    refine VW_region ?_
    refine VOps_cons rfl rfl (V_move rfl ?_)
    refine VOps_cons rfl rfl (VOp_as (V_load_agg 5 VT.ty49 rfl rfl rfl ⟨rfl, rfl⟩) (V.le.agg (ys := [.int 3, .int 0, intsX path, strsX [], intsX ws, intsX (kids ++ [((otherF (buildM t ds f) s rows paths k).2 : Int)])]) ⟨V.le.refl _, rfl, V.le.refl _, rfl, V.le.refl _, rfl, V.le.nil 1, rfl, V.le.strip, rfl, (by simp only [intsX, List.map_append]; exact V.le.strip), rfl, trivial⟩) ?_)
    refine VOps_cons rfl rfl (V_callTok [.tmp 72, .tmp 73] _ _ rfl rfl VT.en50 (.refl _) (add_c gb gm (γ 0) (otherF (buildM t ds f) s rows paths k).1 ⟨3, 0, path, [], ws, kids ++ [((otherF (buildM t ds f) s rows paths k).2 : Int)]⟩ hol) (fun t74 => ?_))
    refine VOps_cons rfl rfl (V_assign rfl ?_)
    refine VOps_nil ?_
    refine Then_n ?_
    refine VW_ret ?_
    refine VRet_one rfl (.tmp rfl) ?_
    rw [hwf]
    exact ⟨_, Drops.keep (Drops.keep (Drops.keep (Drops.nil _))), t74, rfl, rfl⟩


end Go.Proofs.Ytmjeaagpcmfnpaa.W17
