/- Walks, printed by walk.py. -/
import Derived.Test.YtmjeaagpcmfnpaaVT
import Derived.Test.YtmjeaagpcmfnpaaVDA
import Derived.Test.YtmjeaagpcmfnpaaVB
import Derived.Test.YtmjeaagpcmfnpaaVD9
set_option linter.unusedVariables false
set_option linter.unusedSimpArgs false
namespace Go.Proofs.Ytmjeaagpcmfnpaa.W16
open Go.VL Go.PM Go.Proofs.Ytmjeaagpcmfnpaa 

theorem flatten_le {α : Type} {rows : List (List α)} {k : Nat} {r : List α} (h : rows[k]? = some r) : (rows.take k).flatten.length + r.length ≤ rows.flatten.length := by
  have h1 : (rows.take (k + 1)).flatten.length ≤ rows.flatten.length := by
    conv => rhs; rw [← List.take_append_drop (k + 1) rows, List.flatten_append, List.length_append]
    omega
  rw [take_snoc h, List.flatten_append, List.length_append] at h1
  simpa using h1

set_option maxRecDepth 100000 in
theorem mfree_c (p : Pat) : VPure Try.prog 53 [patX p] (.bool (free p)) := by
  refine V_start (nt := 11) Try.func53 rfl rfl rfl ?_
  refine VW_seq ?_
  refine VW_region ?_
  refine VOps_cons rfl rfl (V_box rfl rfl (fun g1 => ?_))
  refine VOps_cons rfl rfl (V_assign rfl ?_)
  refine VOps_nil ?_
  refine Then_n ?_
  refine VW_seq ?_
  refine VW_region ?_
  refine VOps_cons rfl rfl (V_fieldAddr VT.fa30_0 rfl ?_)
  refine VOps_cons rfl rfl (V_load 0 VT.ty3 rfl rfl rfl ?_)
  refine VOps_cons rfl rfl (V_bin rfl rfl rfl ?_)
  refine VOps_cons rfl rfl (V_move rfl ?_)
  refine VOps_split (q := 6) rfl (fun hq6 => ?_) (fun hq6 => ?_)
  · skip
    refine VOps_skipU (.inl (skip_of rfl rfl rfl hq6)) rfl ?_
    refine VOps_skipU (.inl (skip_of rfl rfl rfl hq6)) rfl ?_
    refine VOps_skipU (.inl (skip_of rfl rfl rfl hq6)) rfl ?_
    refine VOps_cons rfl rfl (V_pickT rfl hq6 rfl ?_)
    refine VOps_cons rfl rfl (V_assign rfl ?_)
    refine VOps_nil ?_
    refine Then_n ?_
    refine VW_ret ?_
    refine VRet_one rfl (.tmp rfl) ?_
    have hk := hq6
    simp at hk
    simp [free, hk]
  · skip
    refine VOps_cons (want_of rfl rfl rfl hq6) rfl (V_fieldAddr VT.fa30_0 rfl ?_)
    refine VOps_cons (want_of rfl rfl rfl hq6) rfl (V_load 0 VT.ty3 rfl rfl rfl ?_)
    refine VOps_cons (want_of rfl rfl rfl hq6) rfl (V_bin rfl rfl rfl ?_)
    refine VOps_cons rfl rfl (V_pickF rfl hq6 rfl ?_)
    refine VOps_cons rfl rfl (V_assign rfl ?_)
    refine VOps_nil ?_
    refine Then_n ?_
    refine VW_ret ?_
    refine VRet_one rfl (.tmp rfl) ?_
    have hk := hq6
    simp at hk
    simp [free, hk]


set_option maxRecDepth 100000 in
theorem nf_c (p : Pat) : VPure Try.prog 52 [patX p] (.bool (nf p)) := by
  refine V_start (nt := 6) Try.func52 rfl rfl rfl ?_
  refine VW_seq ?_
  refine VW_region ?_
  refine VOps_cons rfl rfl (V_box rfl rfl (fun g1 => ?_))
  refine VOps_cons rfl rfl (V_assign rfl ?_)
  refine VOps_nil ?_
  refine Then_n ?_
  refine VW_seq ?_
  refine VW_region ?_
  refine VOps_cons rfl rfl (V_load_agg 0 VT.ty30 rfl rfl rfl ?_)
  refine VOps_cons rfl rfl (V_callP [.tmp 3] rfl rfl VT.en53 (mfree_c p) ?_)
  refine VOps_cons rfl rfl (V_not rfl ?_)
  refine VOps_cons rfl rfl (V_assign rfl ?_)
  refine VOps_nil ?_
  refine Then_n ?_
  refine VW_ret ?_
  refine VRet_one rfl (.tmp rfl) ?_
  rfl


set_option maxRecDepth 100000 in
theorem isCon_c (p : Pat) (c : ConSig) (g : Nat) : VKeep Try.prog 55 [patX p, .ptr g 0] [.cells g 59 [.str c.name, .sl 4 none c.args]] (.bool (isCon c.name p)) := by
  refine VCalls_drops ?_
  refine V_start (nt := 9) Try.func55 rfl rfl rfl ?_
  refine VW_seq ?_
  refine VW_region ?_
  refine VOps_cons rfl rfl (V_box rfl rfl (fun g2 => ?_))
  refine VOps_cons rfl rfl (V_assign rfl ?_)
  refine VOps_nil ?_
  refine Then_n ?_
  refine VW_seq ?_
  refine VW_region ?_
  refine VOps_cons rfl rfl (V_fieldAddr VT.fa30_1 rfl ?_)
  refine VOps_cons rfl rfl (V_load 0 VT.ty9 rfl rfl rfl ?_)
  refine VOps_cons rfl rfl (V_fieldAddr VT.fa59_0 rfl ?_)
  refine VOps_cons rfl rfl (V_load 1 VT.ty9 rfl rfl rfl ?_)
  refine VOps_cons rfl rfl (V_streq rfl rfl ?_)
  refine VOps_cons rfl rfl (V_assign rfl ?_)
  refine VOps_nil ?_
  refine Then_n ?_
  refine VW_ret ?_
  refine VRet_one rfl (.tmp rfl) ?_
  exact ⟨_, Drops.drop (Drops.refl _), congrArg V.bool (Bool.eq_iff_iff.2 (by simp [isCon])), rfl⟩


set_option maxRecDepth 100000 in
theorem isInt_c (q p : Pat) (g : Nat) : VKeep Try.prog 84 [patX q, .ptr g 0] [.cells g 30 [.int p.kind, .str p.name, .int p.n, patsX p.args]] (.bool (isInt p.n q)) := by
  refine VCalls_drops ?_
  refine V_start (nt := 9) Try.func84 rfl rfl rfl ?_
  refine VW_seq ?_
  refine VW_region ?_
  refine VOps_cons rfl rfl (V_box rfl rfl (fun g2 => ?_))
  refine VOps_cons rfl rfl (V_assign rfl ?_)
  refine VOps_nil ?_
  refine Then_n ?_
  refine VW_seq ?_
  refine VW_region ?_
  refine VOps_cons rfl rfl (V_fieldAddr VT.fa30_2 rfl ?_)
  refine VOps_cons rfl rfl (V_load 0 VT.ty3 rfl rfl rfl ?_)
  refine VOps_cons rfl rfl (V_fieldAddr VT.fa30_2 rfl ?_)
  refine VOps_cons rfl rfl (V_load 1 VT.ty3 rfl rfl rfl ?_)
  refine VOps_cons rfl rfl (V_bin rfl rfl rfl ?_)
  refine VOps_cons rfl rfl (V_assign rfl ?_)
  refine VOps_nil ?_
  refine Then_n ?_
  refine VW_ret ?_
  refine VRet_one rfl (.tmp rfl) ?_
  exact ⟨_, Drops.drop (Drops.refl _), rfl, rfl⟩


set_option maxRecDepth 100000 in
theorem never_c (p : Pat) : VPure Try.prog 87 [patX p] (.bool false) := by
  refine V_start (nt := 3) Try.func87 rfl rfl rfl ?_
  refine VW_seq ?_
  refine VW_region ?_
  refine VOps_cons rfl rfl (V_box rfl rfl (fun g1 => ?_))
  refine VOps_cons rfl rfl (V_assign rfl ?_)
  refine VOps_nil ?_
  refine Then_n ?_
  refine VW_seq ?_
  refine VW_region ?_
  refine VOps_cons rfl rfl (V_assign rfl ?_)
  refine VOps_nil ?_
  refine Then_n ?_
  refine VW_ret ?_
  refine VRet_one rfl (.tmp rfl) ?_
  rfl


set_option maxRecDepth 100000 in
theorem intsEq_c (a b : List Int) (ta tb : Option Tok) : VPure Try.prog 92 [.sl 1 ta (a.map V.int), .sl 1 tb (b.map V.int)] (.bool (decide (a = b))) := by
  refine V_start (nt := 26) Try.func92 rfl rfl rfl ?_
  refine VW_seq ?_
  refine VW_region ?_
  refine VOps_cons rfl rfl (V_assign rfl ?_)
  refine VOps_nil ?_
  refine Then_n ?_
  refine VW_seq ?_
  refine VW_seq ?_
  refine VW_region ?_
  refine VOps_cons rfl rfl (V_move rfl ?_)
  refine VOps_cons rfl rfl (V_lenN (n := a.length) Try.underlying32 rfl (by simp) (fun hl7 => ?_))
  refine VOps_cons rfl rfl (V_move rfl ?_)
  refine VOps_cons rfl rfl (V_lenN (n := b.length) Try.underlying32 rfl (by simp) (fun hl9 => ?_))
  refine VOps_cons rfl rfl (V_bin rfl rfl rfl ?_)
  refine VOps_nil ?_
  refine Then_n ?_
  refine VW_condNe rfl (fun h10 => ?_) (fun h10 => ?_)
  · skip
    refine VW_seq ?_
    refine VW_region ?_
    refine VOps_cons rfl rfl (V_assign rfl ?_)
    refine VOps_nil ?_
    refine Then_n ?_
    refine VW_ret ?_
    refine Then_r (VRet_one rfl (.tmp rfl) ?_)
    rw [decide_eq_false (fun h => h10 (by rw [h]))]
  · skip
    refine VW_skip ?_
    refine Then_n ?_
    refine VW_seq ?_
    refine VW_seq ?_
    refine VW_region ?_
    refine VOps_cons rfl rfl (V_move rfl ?_)
    refine VOps_cons rfl rfl (V_lenN (n := a.length) Try.underlying32 rfl (by simp) (fun hl12 => ?_))
    refine VOps_cons rfl rfl (V_move rfl ?_)
    refine VOps_nil ?_
    refine Then_n ?_
    refine VW_block ?_
    refine VW_loopF (ι := Nat) (fun k => a.length - k) (fun k => [(0, some (.sl 1 ta (a.map V.int))), (1, some (.sl 1 tb (b.map V.int))), (11, some (.sl 1 ta (a.map V.int))), (12, some (.int a.length)), (13, some (.int k))]) (fun k => []) (fun k => k ≤ a.length ∧ a.take k = b.take k) 0 ⟨Nat.zero_le _, rfl⟩ ⟨rfl, rfl, rfl, rfl, rfl, trivial⟩ (Drops.nil _) ?_
    rintro k hA
    change k ≤ a.length ∧ a.take k = b.take k at hA
    obtain ⟨hk, hq⟩ := hA
    refine VW_seq ?_
    refine VW_region ?_
    refine VOps_cons rfl rfl (V_bin rfl rfl rfl ?_)
    refine VOps_nil ?_
    refine Then_n ?_
    refine VW_seq ?_
    refine VW_condP rfl (fun h14 => ?_) (fun h14 => ?_)
    · skip
      obtain ⟨x, hx⟩ := get_of_lt a k h14
      obtain ⟨y, hy⟩ := get_of_lt b k (by omega)
      refine VW_skip ?_
      refine Then_n ?_
      refine VW_seq ?_
      refine VW_block ?_
      refine VW_seq ?_
      refine VW_region ?_
      refine VOps_cons rfl rfl (V_move rfl ?_)
      refine VOps_cons rfl rfl (V_assign rfl ?_)
      refine VOps_nil ?_
      refine Then_n ?_
      refine VW_seq ?_
      refine VW_draw (G := Unit) [([], [0], []), ([], [5], []), ([1, 0], [16, 17], []), ([2, 1, 0], [18], []), ([], [1], []), ([], [5], []), ([5, 4], [20, 21], []), ([6, 5, 4], [22], []), ([7, 6, 5, 4, 3, 2, 1, 0], [19, 23], [])] [] (constSt _) [24] [16, 17, 18, 19, 20, 21, 22, 23, 24] rfl VT.mix (by kernel_rfl) (by kernel_rfl) ?_
      refine DrawP_consL (acc' := [_]) (eqRes _) (good0 (fun γ => Needs_f (by kernel_rfl) (fun r0 h0 => Needs_nil (vopT rfl (V_move h0 ⟨rfl, rfl⟩))))) rfl ?_
      refine DrawP_consL (acc' := [_, _]) (eqRes _) (good0 (fun γ => Needs_f (by kernel_rfl) (fun r5 h5 => Needs_nil (vopT rfl (V_move h5 ⟨rfl, rfl⟩))))) rfl ?_
      refine DrawP_consL (acc' := [_, _, _]) (epRes _) (good0 (fun γ => Needs_w 0 (by kernel_rfl) rfl (fun r16 h16 => Needs_w 1 (by kernel_rfl) rfl (fun r17 h17 => Needs_nil (vopT rfl (V_indexAddr (el := V.int x) VT.sl32 h16 h17 (by omega) (get_int hx) (fun a18 => ⟨⟨_, rfl⟩, rfl⟩))))))) rfl ?_
      refine DrawP_consL (acc' := [_, _, _, _]) (eqRes _) (good0 (fun γ => Needs_w 2 (by kernel_rfl) rfl (fun r18 h18 => Needs_nil (epE h18 (fun a_18 e18 => vopT rfl (V_load_ep VT.ty3 e18 rfl ⟨rfl, rfl⟩)))))) rfl ?_
      refine DrawP_consL (acc' := [_, _, _, _, _]) (eqRes _) (good0 (fun γ => Needs_f (by kernel_rfl) (fun r1 h1 => Needs_nil (vopT rfl (V_move h1 ⟨rfl, rfl⟩))))) rfl ?_
      refine DrawP_consL (acc' := [_, _, _, _, _, _]) (eqRes _) (good0 (fun γ => Needs_f (by kernel_rfl) (fun r5 h5 => Needs_nil (vopT rfl (V_move h5 ⟨rfl, rfl⟩))))) rfl ?_
      refine DrawP_consL (acc' := [_, _, _, _, _, _, _]) (epRes _) (good0 (fun γ => Needs_w 4 (by kernel_rfl) rfl (fun r20 h20 => Needs_w 5 (by kernel_rfl) rfl (fun r21 h21 => Needs_nil (vopT rfl (V_indexAddr (el := V.int y) VT.sl32 h20 h21 (by omega) (get_int hy) (fun a22 => ⟨⟨_, rfl⟩, rfl⟩))))))) rfl ?_
      refine DrawP_consL (acc' := [_, _, _, _, _, _, _, _]) (eqRes _) (good0 (fun γ => Needs_w 6 (by kernel_rfl) rfl (fun r22 h22 => Needs_nil (epE h22 (fun a_22 e22 => vopT rfl (V_load_ep VT.ty3 e22 rfl ⟨rfl, rfl⟩)))))) rfl ?_
      refine DrawP_consL (acc' := [_, _, _, _, _, _, _, _, _]) (eqRes _) (good0 (fun γ => Needs_w 3 (by kernel_rfl) rfl (fun r19 h19 => Needs_w 7 (by kernel_rfl) rfl (fun r23 h23 => Needs_nil (vopT rfl (V_bin h19 h23 rfl ⟨rfl, rfl⟩)))))) rfl ?_
      refine DrawP_nil (fun γ => Needs_w 8 (by kernel_rfl) rfl (fun r24 h24 => Needs_nil ?_))
      have e24 : r24 = some _ := h24
      subst e24
      clear h24
      refine Then_n ?_
      refine VW_condNe rfl (fun h24 => ?_) (fun h24 => ?_)
      · skip
        refine VW_seq ?_
        refine VW_region ?_
        refine VOps_cons rfl rfl (V_assign rfl ?_)
        refine VOps_nil ?_
        refine Then_n ?_
        refine VW_ret ?_
        refine InBlock_r (Then_r (Then_r (InBlock_r (Then_r (VRet_one rfl (.tmp rfl) ?_)))))
        rw [decide_eq_false (fun h => h24 (by have e := hx; rw [h, hy] at e; injection e with e; exact e.symm))]
      · skip
        refine VW_skip ?_
        refine InBlock_n (Then_n ?_)
        refine VW_region ?_
        refine VOps_cons rfl rfl (V_add rfl rfl (by omega) ?_)
        refine VOps_cons rfl rfl (V_move rfl ?_)
        refine VOps_nil ?_
        refine Then_n ?_
        exact ⟨k + 1, (by (try simp only []); omega), ⟨by omega, by rw [take_snoc hx, take_snoc hy, hq, h24]⟩, ⟨rfl, rfl, rfl, rfl, rfl, trivial⟩, (Drops.nil _)⟩
    · skip
      have hke : k = a.length := by omega
      have hkb : a.length = b.length := by omega
      rw [hke, List.take_length, hkb, List.take_length] at hq
      refine VW_exit ?_
      refine Then_e (Then_e (InBlock_hit ?_))
      refine Then_n ?_
      refine VW_seq ?_
      refine VW_region ?_
      refine VOps_cons rfl rfl (V_assign rfl ?_)
      refine VOps_nil ?_
      refine Then_n ?_
      refine VW_ret ?_
      refine VRet_one rfl (.tmp rfl) ?_
      rw [decide_eq_true hq]


set_option maxRecDepth 100000 in
theorem strsEq_c (a b : List Str) (ta tb : Option Tok) : VPure Try.prog 93 [.sl 1 ta (a.map V.str), .sl 1 tb (b.map V.str)] (.bool (decide (a = b))) := by
  refine V_start (nt := 26) Try.func93 rfl rfl rfl ?_
  refine VW_seq ?_
  refine VW_region ?_
  refine VOps_cons rfl rfl (V_assign rfl ?_)
  refine VOps_nil ?_
  refine Then_n ?_
  refine VW_seq ?_
  refine VW_seq ?_
  refine VW_region ?_
  refine VOps_cons rfl rfl (V_move rfl ?_)
  refine VOps_cons rfl rfl (V_lenN (n := a.length) Try.underlying47 rfl (by simp) (fun hl7 => ?_))
  refine VOps_cons rfl rfl (V_move rfl ?_)
  refine VOps_cons rfl rfl (V_lenN (n := b.length) Try.underlying47 rfl (by simp) (fun hl9 => ?_))
  refine VOps_cons rfl rfl (V_bin rfl rfl rfl ?_)
  refine VOps_nil ?_
  refine Then_n ?_
  refine VW_condNe rfl (fun h10 => ?_) (fun h10 => ?_)
  · skip
    refine VW_seq ?_
    refine VW_region ?_
    refine VOps_cons rfl rfl (V_assign rfl ?_)
    refine VOps_nil ?_
    refine Then_n ?_
    refine VW_ret ?_
    refine Then_r (VRet_one rfl (.tmp rfl) ?_)
    rw [decide_eq_false (fun h => h10 (by rw [h]))]
  · skip
    refine VW_skip ?_
    refine Then_n ?_
    refine VW_seq ?_
    refine VW_seq ?_
    refine VW_region ?_
    refine VOps_cons rfl rfl (V_move rfl ?_)
    refine VOps_cons rfl rfl (V_lenN (n := a.length) Try.underlying47 rfl (by simp) (fun hl12 => ?_))
    refine VOps_cons rfl rfl (V_move rfl ?_)
    refine VOps_nil ?_
    refine Then_n ?_
    refine VW_block ?_
    refine VW_loopF (ι := Nat) (fun k => a.length - k) (fun k => [(0, some (.sl 1 ta (a.map V.str))), (1, some (.sl 1 tb (b.map V.str))), (11, some (.sl 1 ta (a.map V.str))), (12, some (.int a.length)), (13, some (.int k))]) (fun k => []) (fun k => k ≤ a.length ∧ a.take k = b.take k) 0 ⟨Nat.zero_le _, rfl⟩ ⟨rfl, rfl, rfl, rfl, rfl, trivial⟩ (Drops.nil _) ?_
    rintro k hA
    change k ≤ a.length ∧ a.take k = b.take k at hA
    obtain ⟨hk, hq⟩ := hA
    refine VW_seq ?_
    refine VW_region ?_
    refine VOps_cons rfl rfl (V_bin rfl rfl rfl ?_)
    refine VOps_nil ?_
    refine Then_n ?_
    refine VW_seq ?_
    refine VW_condP rfl (fun h14 => ?_) (fun h14 => ?_)
    · skip
      obtain ⟨x, hx⟩ := get_of_lt a k h14
      obtain ⟨y, hy⟩ := get_of_lt b k (by omega)
      refine VW_skip ?_
      refine Then_n ?_
      refine VW_seq ?_
      refine VW_block ?_
      refine VW_seq ?_
      refine VW_region ?_
      refine VOps_cons rfl rfl (V_move rfl ?_)
      refine VOps_cons rfl rfl (V_assign rfl ?_)
      refine VOps_nil ?_
      refine Then_n ?_
      refine VW_seq ?_
      refine VW_draw (G := Unit) [([], [0], []), ([], [5], []), ([1, 0], [16, 17], []), ([2, 1, 0], [18], []), ([], [1], []), ([], [5], []), ([5, 4], [20, 21], []), ([6, 5, 4], [22], []), ([7, 6, 5, 4, 3, 2, 1, 0], [19, 23], [])] [] (constSt _) [24] [16, 17, 18, 19, 20, 21, 22, 23, 24] rfl VT.mix (by kernel_rfl) (by kernel_rfl) ?_
      refine DrawP_consL (acc' := [_]) (eqRes _) (good0 (fun γ => Needs_f (by kernel_rfl) (fun r0 h0 => Needs_nil (vopT rfl (V_move h0 ⟨rfl, rfl⟩))))) rfl ?_
      refine DrawP_consL (acc' := [_, _]) (eqRes _) (good0 (fun γ => Needs_f (by kernel_rfl) (fun r5 h5 => Needs_nil (vopT rfl (V_move h5 ⟨rfl, rfl⟩))))) rfl ?_
      refine DrawP_consL (acc' := [_, _, _]) (epRes _) (good0 (fun γ => Needs_w 0 (by kernel_rfl) rfl (fun r16 h16 => Needs_w 1 (by kernel_rfl) rfl (fun r17 h17 => Needs_nil (vopT rfl (V_indexAddr (el := V.str x) VT.sl47 h16 h17 (by omega) (get_str hx) (fun a18 => ⟨⟨_, rfl⟩, rfl⟩))))))) rfl ?_
      refine DrawP_consL (acc' := [_, _, _, _]) (eqRes _) (good0 (fun γ => Needs_w 2 (by kernel_rfl) rfl (fun r18 h18 => Needs_nil (epE h18 (fun a_18 e18 => vopT rfl (V_load_ep VT.ty9 e18 rfl ⟨rfl, rfl⟩)))))) rfl ?_
      refine DrawP_consL (acc' := [_, _, _, _, _]) (eqRes _) (good0 (fun γ => Needs_f (by kernel_rfl) (fun r1 h1 => Needs_nil (vopT rfl (V_move h1 ⟨rfl, rfl⟩))))) rfl ?_
      refine DrawP_consL (acc' := [_, _, _, _, _, _]) (eqRes _) (good0 (fun γ => Needs_f (by kernel_rfl) (fun r5 h5 => Needs_nil (vopT rfl (V_move h5 ⟨rfl, rfl⟩))))) rfl ?_
      refine DrawP_consL (acc' := [_, _, _, _, _, _, _]) (epRes _) (good0 (fun γ => Needs_w 4 (by kernel_rfl) rfl (fun r20 h20 => Needs_w 5 (by kernel_rfl) rfl (fun r21 h21 => Needs_nil (vopT rfl (V_indexAddr (el := V.str y) VT.sl47 h20 h21 (by omega) (get_str hy) (fun a22 => ⟨⟨_, rfl⟩, rfl⟩))))))) rfl ?_
      refine DrawP_consL (acc' := [_, _, _, _, _, _, _, _]) (eqRes _) (good0 (fun γ => Needs_w 6 (by kernel_rfl) rfl (fun r22 h22 => Needs_nil (epE h22 (fun a_22 e22 => vopT rfl (V_load_ep VT.ty9 e22 rfl ⟨rfl, rfl⟩)))))) rfl ?_
      refine DrawP_consL (acc' := [_, _, _, _, _, _, _, _, _]) (eqRes _) (good0 (fun γ => Needs_w 3 (by kernel_rfl) rfl (fun r19 h19 => Needs_w 7 (by kernel_rfl) rfl (fun r23 h23 => Needs_nil (vopT rfl (V_strne h19 h23 ⟨rfl, rfl⟩)))))) rfl ?_
      refine DrawP_nil (fun γ => Needs_w 8 (by kernel_rfl) rfl (fun r24 h24 => Needs_nil ?_))
      have e24 : r24 = some _ := h24
      subst e24
      clear h24
      refine Then_n ?_
      refine VW_condNe rfl (fun h24 => ?_) (fun h24 => ?_)
      · skip
        refine VW_seq ?_
        refine VW_region ?_
        refine VOps_cons rfl rfl (V_assign rfl ?_)
        refine VOps_nil ?_
        refine Then_n ?_
        refine VW_ret ?_
        refine InBlock_r (Then_r (Then_r (InBlock_r (Then_r (VRet_one rfl (.tmp rfl) ?_)))))
        rw [decide_eq_false (fun h => h24 (by have e := hx; rw [h, hy] at e; injection e with e; exact e.symm))]
      · skip
        refine VW_skip ?_
        refine InBlock_n (Then_n ?_)
        refine VW_region ?_
        refine VOps_cons rfl rfl (V_add rfl rfl (by omega) ?_)
        refine VOps_cons rfl rfl (V_move rfl ?_)
        refine VOps_nil ?_
        refine Then_n ?_
        exact ⟨k + 1, (by (try simp only []); omega), ⟨by omega, by rw [take_snoc hx, take_snoc hy, hq, h24]⟩, ⟨rfl, rfl, rfl, rfl, rfl, trivial⟩, (Drops.nil _)⟩
    · skip
      have hke : k = a.length := by omega
      have hkb : a.length = b.length := by omega
      rw [hke, List.take_length, hkb, List.take_length] at hq
      refine VW_exit ?_
      refine Then_e (Then_e (InBlock_hit ?_))
      refine Then_n ?_
      refine VW_seq ?_
      refine VW_region ?_
      refine VOps_cons rfl rfl (V_assign rfl ?_)
      refine VOps_nil ?_
      refine Then_n ?_
      refine VW_ret ?_
      refine VRet_one rfl (.tmp rfl) ?_
      rw [decide_eq_true hq]


set_option maxRecDepth 100000 in
set_option maxHeartbeats 1000000 in
theorem same_c (a b : MNode) : VPure Try.prog 82 [nodeX a, nodeX b] (.bool (sameN a b)) := by
  refine V_start (nt := 45) Try.func82 rfl rfl rfl ?_
  refine VW_seq ?_
  refine VW_region ?_
  refine VOps_cons rfl rfl (V_box rfl rfl (fun g2 => ?_))
  refine VOps_cons rfl rfl (V_box rfl rfl (fun g3 => ?_))
  refine VOps_cons rfl rfl (V_assign rfl ?_)
  refine VOps_nil ?_
  refine Then_n ?_
  refine VW_seq ?_
  refine VW_region ?_
  refine VOps_cons rfl rfl (V_fieldAddr VT.fa49_0 rfl ?_)
  refine VOps_cons rfl rfl (V_load 1 VT.ty3 rfl rfl rfl ?_)
  refine VOps_cons rfl rfl (V_fieldAddr VT.fa49_0 rfl ?_)
  refine VOps_cons rfl rfl (V_load 0 VT.ty3 rfl rfl rfl ?_)
  refine VOps_cons rfl rfl (V_bin rfl rfl rfl ?_)
  refine VOps_cons rfl rfl (V_move rfl ?_)
  refine VOps_split (q := 10) rfl (fun hq10 => ?_) (fun hq10 => ?_)
  · skip
    refine VOps_cons (want_of rfl rfl rfl hq10) rfl (V_fieldAddr VT.fa49_1 rfl ?_)
    refine VOps_cons (want_of rfl rfl rfl hq10) rfl (V_load 1 VT.ty3 rfl rfl rfl ?_)
    refine VOps_cons (want_of rfl rfl rfl hq10) rfl (V_fieldAddr VT.fa49_1 rfl ?_)
    refine VOps_cons (want_of rfl rfl rfl hq10) rfl (V_load 0 VT.ty3 rfl rfl rfl ?_)
    refine VOps_cons (want_of rfl rfl rfl hq10) rfl (V_bin rfl rfl rfl ?_)
    refine VOps_cons rfl rfl (V_pickT rfl hq10 rfl ?_)
    refine VOps_cons rfl rfl (V_move rfl ?_)
    refine VOps_split (q := 17) rfl (fun hq17 => ?_) (fun hq17 => ?_)
    · skip
      refine VOps_cons (want_of rfl rfl rfl hq17) rfl (V_fieldAddr VT.fa49_2 rfl ?_)
      refine VOps_cons (want_of rfl rfl rfl hq17) rfl (V_load 1 VT.ty32 rfl rfl rfl ?_)
      refine VOps_cons (want_of rfl rfl rfl hq17) rfl (V_fieldAddr VT.fa49_2 rfl ?_)
      refine VOps_cons (want_of rfl rfl rfl hq17) rfl (V_load 0 VT.ty32 rfl rfl rfl ?_)
      refine VOps_cons (want_of rfl rfl rfl hq17) rfl (V_callP [.tmp 19, .tmp 21] rfl rfl VT.en92 (intsEq_c a.path b.path none none) ?_)
      refine VOps_cons rfl rfl (V_pickT rfl hq17 rfl ?_)
      refine VOps_cons rfl rfl (V_move rfl ?_)
      refine VOps_split (q := 24) rfl (fun hq24 => ?_) (fun hq24 => ?_)
      · skip
        refine VOps_cons (want_of rfl rfl rfl hq24) rfl (V_fieldAddr VT.fa49_3 rfl ?_)
        refine VOps_cons (want_of rfl rfl rfl hq24) rfl (V_load 1 VT.ty47 rfl rfl rfl ?_)
        refine VOps_cons (want_of rfl rfl rfl hq24) rfl (V_fieldAddr VT.fa49_3 rfl ?_)
        refine VOps_cons (want_of rfl rfl rfl hq24) rfl (V_load 0 VT.ty47 rfl rfl rfl ?_)
        refine VOps_cons (want_of rfl rfl rfl hq24) rfl (V_callP [.tmp 26, .tmp 28] rfl rfl VT.en93 (strsEq_c a.names b.names none none) ?_)
        refine VOps_cons rfl rfl (V_pickT rfl hq24 rfl ?_)
        refine VOps_cons rfl rfl (V_move rfl ?_)
        refine VOps_split (q := 31) rfl (fun hq31 => ?_) (fun hq31 => ?_)
        · skip
          refine VOps_cons (want_of rfl rfl rfl hq31) rfl (V_fieldAddr VT.fa49_4 rfl ?_)
          refine VOps_cons (want_of rfl rfl rfl hq31) rfl (V_load 1 VT.ty32 rfl rfl rfl ?_)
          refine VOps_cons (want_of rfl rfl rfl hq31) rfl (V_fieldAddr VT.fa49_4 rfl ?_)
          refine VOps_cons (want_of rfl rfl rfl hq31) rfl (V_load 0 VT.ty32 rfl rfl rfl ?_)
          refine VOps_cons (want_of rfl rfl rfl hq31) rfl (V_callP [.tmp 33, .tmp 35] rfl rfl VT.en92 (intsEq_c a.words b.words none none) ?_)
          refine VOps_cons rfl rfl (V_pickT rfl hq31 rfl ?_)
          refine VOps_cons rfl rfl (V_move rfl ?_)
          refine VOps_split (q := 38) rfl (fun hq38 => ?_) (fun hq38 => ?_)
          · skip
            refine VOps_cons (want_of rfl rfl rfl hq38) rfl (V_fieldAddr VT.fa49_5 rfl ?_)
            refine VOps_cons (want_of rfl rfl rfl hq38) rfl (V_load 1 VT.ty32 rfl rfl rfl ?_)
            refine VOps_cons (want_of rfl rfl rfl hq38) rfl (V_fieldAddr VT.fa49_5 rfl ?_)
            refine VOps_cons (want_of rfl rfl rfl hq38) rfl (V_load 0 VT.ty32 rfl rfl rfl ?_)
            refine VOps_cons (want_of rfl rfl rfl hq38) rfl (V_callP [.tmp 40, .tmp 42] rfl rfl VT.en92 (intsEq_c a.kids b.kids none none) ?_)
            refine VOps_cons rfl rfl (V_pickT rfl hq38 rfl ?_)
            refine VOps_cons rfl rfl (V_assign rfl ?_)
            refine VOps_nil ?_
            refine Then_n ?_
            refine VW_ret ?_
            refine VRet_one rfl (.tmp rfl) ?_
            exact congrArg V.bool (by simp only [sameN]; simp_all)
          · skip
            refine VOps_skipU (.inl (skip_of rfl rfl rfl hq38)) rfl ?_
            refine VOps_skipU (.inl (skip_of rfl rfl rfl hq38)) rfl ?_
            refine VOps_skipU (.inl (skip_of rfl rfl rfl hq38)) rfl ?_
            refine VOps_skipU (.inl (skip_of rfl rfl rfl hq38)) rfl ?_
            refine VOps_skipU (.inl (skip_of rfl rfl rfl hq38)) rfl ?_
            refine VOps_cons rfl rfl (V_pickF rfl hq38 rfl ?_)
            refine VOps_cons rfl rfl (V_assign rfl ?_)
            refine VOps_nil ?_
            refine Then_n ?_
            refine VW_ret ?_
            refine VRet_one rfl (.tmp rfl) ?_
            exact congrArg V.bool (by simp only [sameN]; simp_all)
        · skip
          refine VOps_skipU (.inl (skip_of rfl rfl rfl hq31)) rfl ?_
          refine VOps_skipU (.inl (skip_of rfl rfl rfl hq31)) rfl ?_
          refine VOps_skipU (.inl (skip_of rfl rfl rfl hq31)) rfl ?_
          refine VOps_skipU (.inl (skip_of rfl rfl rfl hq31)) rfl ?_
          refine VOps_skipU (.inl (skip_of rfl rfl rfl hq31)) rfl ?_
          refine VOps_cons rfl rfl (V_pickF rfl hq31 rfl ?_)
          refine VOps_cons rfl rfl (V_move rfl ?_)
          refine VOps_skipU (.inl (skip_of rfl rfl rfl rfl)) rfl ?_
          refine VOps_skipU (.inl (skip_of rfl rfl rfl rfl)) rfl ?_
          refine VOps_skipU (.inl (skip_of rfl rfl rfl rfl)) rfl ?_
          refine VOps_skipU (.inl (skip_of rfl rfl rfl rfl)) rfl ?_
          refine VOps_skipU (.inl (skip_of rfl rfl rfl rfl)) rfl ?_
          refine VOps_cons rfl rfl (V_pickF rfl rfl rfl ?_)
          refine VOps_cons rfl rfl (V_assign rfl ?_)
          refine VOps_nil ?_
          refine Then_n ?_
          refine VW_ret ?_
          refine VRet_one rfl (.tmp rfl) ?_
          exact congrArg V.bool (by simp only [sameN]; simp_all)
      · skip
        refine VOps_skipU (.inl (skip_of rfl rfl rfl hq24)) rfl ?_
        refine VOps_skipU (.inl (skip_of rfl rfl rfl hq24)) rfl ?_
        refine VOps_skipU (.inl (skip_of rfl rfl rfl hq24)) rfl ?_
        refine VOps_skipU (.inl (skip_of rfl rfl rfl hq24)) rfl ?_
        refine VOps_skipU (.inl (skip_of rfl rfl rfl hq24)) rfl ?_
        refine VOps_cons rfl rfl (V_pickF rfl hq24 rfl ?_)
        refine VOps_cons rfl rfl (V_move rfl ?_)
        refine VOps_skipU (.inl (skip_of rfl rfl rfl rfl)) rfl ?_
        refine VOps_skipU (.inl (skip_of rfl rfl rfl rfl)) rfl ?_
        refine VOps_skipU (.inl (skip_of rfl rfl rfl rfl)) rfl ?_
        refine VOps_skipU (.inl (skip_of rfl rfl rfl rfl)) rfl ?_
        refine VOps_skipU (.inl (skip_of rfl rfl rfl rfl)) rfl ?_
        refine VOps_cons rfl rfl (V_pickF rfl rfl rfl ?_)
        refine VOps_cons rfl rfl (V_move rfl ?_)
        refine VOps_skipU (.inl (skip_of rfl rfl rfl rfl)) rfl ?_
        refine VOps_skipU (.inl (skip_of rfl rfl rfl rfl)) rfl ?_
        refine VOps_skipU (.inl (skip_of rfl rfl rfl rfl)) rfl ?_
        refine VOps_skipU (.inl (skip_of rfl rfl rfl rfl)) rfl ?_
        refine VOps_skipU (.inl (skip_of rfl rfl rfl rfl)) rfl ?_
        refine VOps_cons rfl rfl (V_pickF rfl rfl rfl ?_)
        refine VOps_cons rfl rfl (V_assign rfl ?_)
        refine VOps_nil ?_
        refine Then_n ?_
        refine VW_ret ?_
        refine VRet_one rfl (.tmp rfl) ?_
        exact congrArg V.bool (by simp only [sameN]; simp_all)
    · skip
      refine VOps_skipU (.inl (skip_of rfl rfl rfl hq17)) rfl ?_
      refine VOps_skipU (.inl (skip_of rfl rfl rfl hq17)) rfl ?_
      refine VOps_skipU (.inl (skip_of rfl rfl rfl hq17)) rfl ?_
      refine VOps_skipU (.inl (skip_of rfl rfl rfl hq17)) rfl ?_
      refine VOps_skipU (.inl (skip_of rfl rfl rfl hq17)) rfl ?_
      refine VOps_cons rfl rfl (V_pickF rfl hq17 rfl ?_)
      refine VOps_cons rfl rfl (V_move rfl ?_)
      refine VOps_skipU (.inl (skip_of rfl rfl rfl rfl)) rfl ?_
      refine VOps_skipU (.inl (skip_of rfl rfl rfl rfl)) rfl ?_
      refine VOps_skipU (.inl (skip_of rfl rfl rfl rfl)) rfl ?_
      refine VOps_skipU (.inl (skip_of rfl rfl rfl rfl)) rfl ?_
      refine VOps_skipU (.inl (skip_of rfl rfl rfl rfl)) rfl ?_
      refine VOps_cons rfl rfl (V_pickF rfl rfl rfl ?_)
      refine VOps_cons rfl rfl (V_move rfl ?_)
      refine VOps_skipU (.inl (skip_of rfl rfl rfl rfl)) rfl ?_
      refine VOps_skipU (.inl (skip_of rfl rfl rfl rfl)) rfl ?_
      refine VOps_skipU (.inl (skip_of rfl rfl rfl rfl)) rfl ?_
      refine VOps_skipU (.inl (skip_of rfl rfl rfl rfl)) rfl ?_
      refine VOps_skipU (.inl (skip_of rfl rfl rfl rfl)) rfl ?_
      refine VOps_cons rfl rfl (V_pickF rfl rfl rfl ?_)
      refine VOps_cons rfl rfl (V_move rfl ?_)
      refine VOps_skipU (.inl (skip_of rfl rfl rfl rfl)) rfl ?_
      refine VOps_skipU (.inl (skip_of rfl rfl rfl rfl)) rfl ?_
      refine VOps_skipU (.inl (skip_of rfl rfl rfl rfl)) rfl ?_
      refine VOps_skipU (.inl (skip_of rfl rfl rfl rfl)) rfl ?_
      refine VOps_skipU (.inl (skip_of rfl rfl rfl rfl)) rfl ?_
      refine VOps_cons rfl rfl (V_pickF rfl rfl rfl ?_)
      refine VOps_cons rfl rfl (V_assign rfl ?_)
      refine VOps_nil ?_
      refine Then_n ?_
      refine VW_ret ?_
      refine VRet_one rfl (.tmp rfl) ?_
      exact congrArg V.bool (by simp only [sameN]; simp_all)
  · skip
    refine VOps_skipU (.inl (skip_of rfl rfl rfl hq10)) rfl ?_
    refine VOps_skipU (.inl (skip_of rfl rfl rfl hq10)) rfl ?_
    refine VOps_skipU (.inl (skip_of rfl rfl rfl hq10)) rfl ?_
    refine VOps_skipU (.inl (skip_of rfl rfl rfl hq10)) rfl ?_
    refine VOps_skipU (.inl (skip_of rfl rfl rfl hq10)) rfl ?_
    refine VOps_cons rfl rfl (V_pickF rfl hq10 rfl ?_)
    refine VOps_cons rfl rfl (V_move rfl ?_)
    refine VOps_skipU (.inl (skip_of rfl rfl rfl rfl)) rfl ?_
    refine VOps_skipU (.inl (skip_of rfl rfl rfl rfl)) rfl ?_
    refine VOps_skipU (.inl (skip_of rfl rfl rfl rfl)) rfl ?_
    refine VOps_skipU (.inl (skip_of rfl rfl rfl rfl)) rfl ?_
    refine VOps_skipU (.inl (skip_of rfl rfl rfl rfl)) rfl ?_
    refine VOps_cons rfl rfl (V_pickF rfl rfl rfl ?_)
    refine VOps_cons rfl rfl (V_move rfl ?_)
    refine VOps_skipU (.inl (skip_of rfl rfl rfl rfl)) rfl ?_
    refine VOps_skipU (.inl (skip_of rfl rfl rfl rfl)) rfl ?_
    refine VOps_skipU (.inl (skip_of rfl rfl rfl rfl)) rfl ?_
    refine VOps_skipU (.inl (skip_of rfl rfl rfl rfl)) rfl ?_
    refine VOps_skipU (.inl (skip_of rfl rfl rfl rfl)) rfl ?_
    refine VOps_cons rfl rfl (V_pickF rfl rfl rfl ?_)
    refine VOps_cons rfl rfl (V_move rfl ?_)
    refine VOps_skipU (.inl (skip_of rfl rfl rfl rfl)) rfl ?_
    refine VOps_skipU (.inl (skip_of rfl rfl rfl rfl)) rfl ?_
    refine VOps_skipU (.inl (skip_of rfl rfl rfl rfl)) rfl ?_
    refine VOps_skipU (.inl (skip_of rfl rfl rfl rfl)) rfl ?_
    refine VOps_skipU (.inl (skip_of rfl rfl rfl rfl)) rfl ?_
    refine VOps_cons rfl rfl (V_pickF rfl rfl rfl ?_)
    refine VOps_cons rfl rfl (V_move rfl ?_)
    refine VOps_skipU (.inl (skip_of rfl rfl rfl rfl)) rfl ?_
    refine VOps_skipU (.inl (skip_of rfl rfl rfl rfl)) rfl ?_
    refine VOps_skipU (.inl (skip_of rfl rfl rfl rfl)) rfl ?_
    refine VOps_skipU (.inl (skip_of rfl rfl rfl rfl)) rfl ?_
    refine VOps_skipU (.inl (skip_of rfl rfl rfl rfl)) rfl ?_
    refine VOps_cons rfl rfl (V_pickF rfl rfl rfl ?_)
    refine VOps_cons rfl rfl (V_assign rfl ?_)
    refine VOps_nil ?_
    refine Then_n ?_
    refine VW_ret ?_
    refine VRet_one rfl (.tmp rfl) ?_
    exact congrArg V.bool (by simp only [sameN]; simp_all)


set_option maxRecDepth 100000 in
theorem same1_c (x n : MNode) (g : Nat) : VKeep Try.prog 81 [nodeX x, .ptr g 0] [.cells g 49 [.int n.kind, .int n.row, intsX n.path, strsX n.names, intsX n.words, intsX n.kids]] (.bool (sameN x n)) := by
  refine VCalls_drops ?_
  refine V_start (nt := 7) Try.func81 rfl rfl rfl ?_
  refine VW_seq ?_
  refine VW_region ?_
  refine VOps_cons rfl rfl (V_box rfl rfl (fun g2 => ?_))
  refine VOps_cons rfl rfl (V_assign rfl ?_)
  refine VOps_nil ?_
  refine Then_n ?_
  refine VW_seq ?_
  refine VW_region ?_
  refine VOps_cons rfl rfl (V_load_agg 0 VT.ty49 rfl rfl rfl ?_)
  refine VOps_cons rfl rfl (V_load_agg 1 VT.ty49 rfl rfl rfl ?_)
  refine VOps_cons rfl rfl (V_callP [.tmp 4, .tmp 5] rfl rfl VT.en82 (same_c x n) ?_)
  refine VOps_cons rfl rfl (V_assign rfl ?_)
  refine VOps_nil ?_
  refine Then_n ?_
  refine VW_ret ?_
  refine VRet_one rfl (.tmp rfl) ?_
  exact ⟨_, Drops.drop (Drops.refl _), rfl, rfl⟩


set_option maxRecDepth 100000 in
theorem nodeIdx_c {l : List MNode} {tok : Option Tok} {p : MNode → Bool} {c : FuncId} {caps : List V} {o : Own} (hen : Enters Try.prog c) (hp : ∀ x ∈ l, VKeep Try.prog c (nodeX x :: caps) [o] (.bool (p x))) : VKeep Try.prog 80 [.sl 6 tok (l.map nodeX), .clo (.func c) caps] [o] (.int (idxOf p l)) := by
  refine V_start (nt := 19) Try.func80 rfl rfl rfl ?_
  refine VW_seq ?_
  refine VW_region ?_
  refine VOps_cons rfl rfl (V_assign rfl ?_)
  refine VOps_nil ?_
  refine Then_n ?_
  refine VW_seq ?_
  refine VW_seq ?_
  refine VW_region ?_
  refine VOps_cons rfl rfl (V_move rfl ?_)
  refine VOps_cons rfl rfl (V_lenN (n := l.length) Try.underlying40 rfl (by simp) (fun hl7 => ?_))
  refine VOps_cons rfl rfl (V_move rfl ?_)
  refine VOps_nil ?_
  refine Then_n ?_
  refine VW_block ?_
  refine VW_loopF (ι := Nat) (fun k => l.length - k) (fun k => [(0, some (.sl 6 tok (l.map nodeX))), (1, some (.clo (.func c) caps)), (7, some (.int l.length)), (8, some (.int k))]) (fun k => [o]) (fun k => k ≤ l.length ∧ (l.take k).any p = false) 0 ⟨Nat.zero_le _, rfl⟩ ⟨rfl, rfl, rfl, rfl, trivial⟩ (Drops.refl _) ?_
  rintro k hA
  change k ≤ l.length ∧ (l.take k).any p = false at hA
  obtain ⟨hk, hany⟩ := hA
  refine VW_seq ?_
  refine VW_region ?_
  refine VOps_cons rfl rfl (V_bin rfl rfl rfl ?_)
  refine VOps_nil ?_
  refine Then_n ?_
  refine VW_seq ?_
  refine VW_condP rfl (fun h9 => ?_) (fun h9 => ?_)
  · skip
    obtain ⟨x, hr⟩ := get_of_lt l k h9
    refine VW_skip ?_
    refine Then_n ?_
    refine VW_seq ?_
    refine VW_block ?_
    refine VW_seq ?_
    refine VW_region ?_
    refine VOps_cons rfl rfl (V_move rfl ?_)
    refine VOps_cons rfl rfl (V_assign rfl ?_)
    refine VOps_nil ?_
    refine Then_n ?_
    refine VW_seq ?_
    refine VW_region ?_
    refine VOps_cons rfl rfl (V_move rfl ?_)
    refine VOps_cons rfl rfl (V_move rfl ?_)
    refine VOps_cons rfl rfl (V_move rfl ?_)
    refine VOps_cons rfl rfl (V_indexAddr (el := nodeX x) VT.sl40 rfl rfl (by omega) (get_mapS _ hr) (fun a14 => ?_))
    refine VOps_cons rfl rfl (V_load_ep_agg VT.ty49 rfl rfl ?_)
    refine VOps_cons rfl rfl (V_callClo [.tmp 15] [_] _ rfl rfl rfl hen (perm_erase (i := 0) rfl) (hp x (List.mem_of_getElem? hr)) ?_)
    rintro r Sa ⟨rfl, rfl⟩
    refine VOps_nil ?_
    refine Then_n ?_
    refine VW_cond rfl (fun h16 => ?_) (fun h16 => ?_)
    · skip
      refine VW_seq ?_
      refine VW_region ?_
      refine VOps_cons rfl rfl (V_move rfl ?_)
      refine VOps_cons rfl rfl (V_assign rfl ?_)
      refine VOps_nil ?_
      refine Then_n ?_
      refine VW_ret ?_
      refine InBlock_r (Then_r (Then_r (InBlock_r (Then_r (VRet_one rfl (.tmp rfl) ?_)))))
      rw [idxOf_at p hr hany h16]
      exact ⟨rfl, rfl⟩
    · skip
      refine VW_skip ?_
      refine InBlock_n (Then_n ?_)
      refine VW_region ?_
      refine VOps_cons rfl rfl (V_add rfl rfl (by omega) ?_)
      refine VOps_cons rfl rfl (V_move rfl ?_)
      refine VOps_nil ?_
      refine Then_n ?_
      exact ⟨k + 1, (by (try simp only []); omega), ⟨by omega, any_snoc hr hany h16⟩, ⟨rfl, rfl, rfl, rfl, trivial⟩, (Drops.keep (Drops.refl _))⟩
  · skip
    have hke : k = l.length := by omega
    subst hke
    rw [List.take_length] at hany
    refine VW_exit ?_
    refine Then_e (Then_e (InBlock_hit ?_))
    refine Then_n ?_
    refine VW_seq ?_
    refine VW_region ?_
    refine VOps_cons rfl rfl (V_assign rfl ?_)
    refine VOps_nil ?_
    refine Then_n ?_
    refine VW_ret ?_
    refine VRet_one rfl (.tmp rfl) ?_
    rw [idxOf_none p hany]
    exact ⟨rfl, rfl⟩


set_option maxRecDepth 100000 in
theorem mrowIdx_c {l : List MRow} {tok : Option Tok} {p : MRow → Bool} {c : FuncId} {caps : List V} {o1 o2 o3 : Own} (hen : Enters Try.prog c) (hp : ∀ x ∈ l, VKeep Try.prog c (mrowX x :: caps) [o1, o2, o3] (.bool (p x))) : VKeep Try.prog 85 [.sl 2 tok (l.map mrowX), .clo (.func c) caps] [o1, o2, o3] (.int (idxOf p l)) := by
  refine V_start (nt := 19) Try.func85 rfl rfl rfl ?_
  refine VW_seq ?_
  refine VW_region ?_
  refine VOps_cons rfl rfl (V_assign rfl ?_)
  refine VOps_nil ?_
  refine Then_n ?_
  refine VW_seq ?_
  refine VW_seq ?_
  refine VW_region ?_
  refine VOps_cons rfl rfl (V_move rfl ?_)
  refine VOps_cons rfl rfl (V_lenN (n := l.length) Try.underlying77 rfl (by simp) (fun hl7 => ?_))
  refine VOps_cons rfl rfl (V_move rfl ?_)
  refine VOps_nil ?_
  refine Then_n ?_
  refine VW_block ?_
  refine VW_loopF (ι := Nat) (fun k => l.length - k) (fun k => [(0, some (.sl 2 tok (l.map mrowX))), (1, some (.clo (.func c) caps)), (7, some (.int l.length)), (8, some (.int k))]) (fun k => [o1, o2, o3]) (fun k => k ≤ l.length ∧ (l.take k).any p = false) 0 ⟨Nat.zero_le _, rfl⟩ ⟨rfl, rfl, rfl, rfl, trivial⟩ (Drops.refl _) ?_
  rintro k hA
  change k ≤ l.length ∧ (l.take k).any p = false at hA
  obtain ⟨hk, hany⟩ := hA
  refine VW_seq ?_
  refine VW_region ?_
  refine VOps_cons rfl rfl (V_bin rfl rfl rfl ?_)
  refine VOps_nil ?_
  refine Then_n ?_
  refine VW_seq ?_
  refine VW_condP rfl (fun h9 => ?_) (fun h9 => ?_)
  · skip
    obtain ⟨x, hr⟩ := get_of_lt l k h9
    refine VW_skip ?_
    refine Then_n ?_
    refine VW_seq ?_
    refine VW_block ?_
    refine VW_seq ?_
    refine VW_region ?_
    refine VOps_cons rfl rfl (V_move rfl ?_)
    refine VOps_cons rfl rfl (V_assign rfl ?_)
    refine VOps_nil ?_
    refine Then_n ?_
    refine VW_seq ?_
    refine VW_region ?_
    refine VOps_cons rfl rfl (V_move rfl ?_)
    refine VOps_cons rfl rfl (V_move rfl ?_)
    refine VOps_cons rfl rfl (V_move rfl ?_)
    refine VOps_cons rfl rfl (V_indexAddr (el := mrowX x) VT.sl77 rfl rfl (by omega) (get_mapS _ hr) (fun a14 => ?_))
    refine VOps_cons rfl rfl (V_load_ep_agg VT.ty80 rfl rfl ?_)
    refine VOps_cons rfl rfl (V_callClo [.tmp 15] _ _ rfl rfl rfl hen (.refl _) (hp x (List.mem_of_getElem? hr)) ?_)
    rintro r Sa ⟨rfl, rfl⟩
    refine VOps_nil ?_
    refine Then_n ?_
    refine VW_cond rfl (fun h16 => ?_) (fun h16 => ?_)
    · skip
      refine VW_seq ?_
      refine VW_region ?_
      refine VOps_cons rfl rfl (V_move rfl ?_)
      refine VOps_cons rfl rfl (V_assign rfl ?_)
      refine VOps_nil ?_
      refine Then_n ?_
      refine VW_ret ?_
      refine InBlock_r (Then_r (Then_r (InBlock_r (Then_r (VRet_one rfl (.tmp rfl) ?_)))))
      rw [idxOf_at p hr hany h16]
      exact ⟨rfl, rfl⟩
    · skip
      refine VW_skip ?_
      refine InBlock_n (Then_n ?_)
      refine VW_region ?_
      refine VOps_cons rfl rfl (V_add rfl rfl (by omega) ?_)
      refine VOps_cons rfl rfl (V_move rfl ?_)
      refine VOps_nil ?_
      refine Then_n ?_
      exact ⟨k + 1, (by (try simp only []); omega), ⟨by omega, any_snoc hr hany h16⟩, ⟨rfl, rfl, rfl, rfl, trivial⟩, (Drops.keep (Drops.keep (Drops.keep (Drops.refl _))))⟩
  · skip
    have hke : k = l.length := by omega
    subst hke
    rw [List.take_length] at hany
    refine VW_exit ?_
    refine Then_e (Then_e (InBlock_hit ?_))
    refine Then_n ?_
    refine VW_seq ?_
    refine VW_region ?_
    refine VOps_cons rfl rfl (V_assign rfl ?_)
    refine VOps_nil ?_
    refine Then_n ?_
    refine VW_ret ?_
    refine VRet_one rfl (.tmp rfl) ?_
    rw [idxOf_none p hany]
    exact ⟨rfl, rfl⟩


set_option maxRecDepth 100000 in
theorem mrowAny_c {l : List MRow} {tok : Option Tok} {p : MRow → Bool} {c : FuncId} {caps : List V} {o1 o2 o3 : Own} (hen : Enters Try.prog c) (hp : ∀ x ∈ l, VKeep Try.prog c (mrowX x :: caps) [o1, o2, o3] (.bool (p x))) : VKeep Try.prog 56 [.sl 2 tok (l.map mrowX), .clo (.func c) caps] [o1, o2, o3] (.bool (l.any p)) := by
  refine V_start (nt := 9) Try.func56 rfl rfl rfl ?_
  refine VW_seq ?_
  refine VW_region ?_
  refine VOps_cons rfl rfl (V_assign rfl ?_)
  refine VOps_nil ?_
  refine Then_n ?_
  refine VW_seq ?_
  refine VW_region ?_
  refine VOps_cons rfl rfl (V_move rfl ?_)
  refine VOps_cons rfl rfl (V_move rfl ?_)
  refine VOps_cons rfl rfl (V_call [.tmp 5, .tmp 6] _ _ rfl rfl VT.en85 (.refl _) (mrowIdx_c hen hp) ?_)
  rintro r Sa ⟨rfl, rfl⟩
  refine VOps_cons rfl rfl (V_bin rfl rfl rfl ?_)
  refine VOps_cons rfl rfl (V_assign rfl ?_)
  refine VOps_nil ?_
  refine Then_n ?_
  refine VW_ret ?_
  refine VRet_one rfl (.tmp rfl) ?_
  rw [idxOf_ge]
  exact ⟨rfl, rfl⟩


set_option maxRecDepth 100000 in
theorem intsIndex_c (l : List Int) (tok : Option Tok) (v : Int) : VPure Try.prog 36 [.sl 1 tok (l.map V.int), .int v] (.int (idxOf (fun x => decide (v = x)) l)) := by
  refine V_start (nt := 19) Try.func36 rfl rfl rfl ?_
  refine VW_seq ?_
  refine VW_region ?_
  refine VOps_cons rfl rfl (V_assign rfl ?_)
  refine VOps_nil ?_
  refine Then_n ?_
  refine VW_seq ?_
  refine VW_seq ?_
  refine VW_region ?_
  refine VOps_cons rfl rfl (V_move rfl ?_)
  refine VOps_cons rfl rfl (V_lenN (n := l.length) Try.underlying32 rfl (by simp) (fun hl7 => ?_))
  refine VOps_cons rfl rfl (V_move rfl ?_)
  refine VOps_nil ?_
  refine Then_n ?_
  refine VW_block ?_
  refine VW_loopF (ι := Nat) (fun k => l.length - k) (fun k => [(0, some (.sl 1 tok (l.map V.int))), (1, some (.int v)), (7, some (.int l.length)), (8, some (.int k))]) (fun k => []) (fun k => k ≤ l.length ∧ (l.take k).any (fun x => decide (v = x)) = false) 0 ⟨Nat.zero_le _, rfl⟩ ⟨rfl, rfl, rfl, rfl, trivial⟩ (Drops.refl _) ?_
  rintro k hA
  change k ≤ l.length ∧ (l.take k).any (fun x => decide (v = x)) = false at hA
  obtain ⟨hk, hany⟩ := hA
  refine VW_seq ?_
  refine VW_region ?_
  refine VOps_cons rfl rfl (V_bin rfl rfl rfl ?_)
  refine VOps_nil ?_
  refine Then_n ?_
  refine VW_seq ?_
  refine VW_condP rfl (fun h9 => ?_) (fun h9 => ?_)
  · skip
    obtain ⟨x, hr⟩ := get_of_lt l k h9
    refine VW_skip ?_
    refine Then_n ?_
    refine VW_seq ?_
    refine VW_block ?_
    refine VW_seq ?_
    refine VW_region ?_
    refine VOps_cons rfl rfl (V_move rfl ?_)
    refine VOps_cons rfl rfl (V_assign rfl ?_)
    refine VOps_nil ?_
    refine Then_n ?_
    refine VW_seq ?_
    refine VW_region ?_
    refine VOps_cons rfl rfl (V_move rfl ?_)
    refine VOps_cons rfl rfl (V_move rfl ?_)
    refine VOps_cons rfl rfl (V_move rfl ?_)
    refine VOps_cons rfl rfl (V_indexAddr (el := V.int x) VT.sl32 rfl rfl (by omega) (get_int hr) (fun a14 => ?_))
    refine VOps_cons rfl rfl (V_load_ep VT.ty3 rfl rfl ?_)
    refine VOps_cons rfl rfl (V_bin rfl rfl rfl ?_)
    refine VOps_nil ?_
    refine Then_n ?_
    refine VW_condEq rfl (fun h16 => ?_) (fun h16 => ?_)
    · skip
      refine VW_seq ?_
      refine VW_region ?_
      refine VOps_cons rfl rfl (V_move rfl ?_)
      refine VOps_cons rfl rfl (V_assign rfl ?_)
      refine VOps_nil ?_
      refine Then_n ?_
      refine VW_ret ?_
      refine InBlock_r (Then_r (Then_r (InBlock_r (Then_r (VRet_one rfl (.tmp rfl) ?_)))))
      rw [idxOf_at (fun x => decide (v = x)) hr hany (decide_eq_true h16)]
    · skip
      refine VW_skip ?_
      refine InBlock_n (Then_n ?_)
      refine VW_region ?_
      refine VOps_cons rfl rfl (V_add rfl rfl (by omega) ?_)
      refine VOps_cons rfl rfl (V_move rfl ?_)
      refine VOps_nil ?_
      refine Then_n ?_
      exact ⟨k + 1, (by (try simp only []); omega), ⟨by omega, any_snoc hr hany (decide_eq_false h16)⟩, ⟨rfl, rfl, rfl, rfl, trivial⟩, (Drops.nil _)⟩
  · skip
    have hke : k = l.length := by omega
    subst hke
    rw [List.take_length] at hany
    refine VW_exit ?_
    refine Then_e (Then_e (InBlock_hit ?_))
    refine Then_n ?_
    refine VW_seq ?_
    refine VW_region ?_
    refine VOps_cons rfl rfl (V_assign rfl ?_)
    refine VOps_nil ?_
    refine Then_n ?_
    refine VW_ret ?_
    refine VRet_one rfl (.tmp rfl) ?_
    rw [idxOf_none (fun x => decide (v = x)) hany]


set_option maxRecDepth 100000 in
theorem intsContains_c (l : List Int) (tok : Option Tok) (v : Int) : VPure Try.prog 83 [.sl 1 tok (l.map V.int), .int v] (.bool (l.any fun x => decide (v = x))) := by
  refine V_start (nt := 9) Try.func83 rfl rfl rfl ?_
  refine VW_seq ?_
  refine VW_region ?_
  refine VOps_cons rfl rfl (V_assign rfl ?_)
  refine VOps_nil ?_
  refine Then_n ?_
  refine VW_seq ?_
  refine VW_region ?_
  refine VOps_cons rfl rfl (V_move rfl ?_)
  refine VOps_cons rfl rfl (V_move rfl ?_)
  refine VOps_cons rfl rfl (V_callP [.tmp 5, .tmp 6] rfl rfl VT.en36 (intsIndex_c l tok v) ?_)
  refine VOps_cons rfl rfl (V_bin rfl rfl rfl ?_)
  refine VOps_cons rfl rfl (V_assign rfl ?_)
  refine VOps_nil ?_
  refine Then_n ?_
  refine VW_ret ?_
  refine VRet_one rfl (.tmp rfl) ?_
  rw [idxOf_ge]


set_option maxRecDepth 100000 in
theorem intsClone_c (l : List Int) (hl : l.length ≤ 1000000) : VPure Try.prog 33 [.sl 1 none (l.map V.int)] (.sl 1 none (l.map V.int)) := by
  refine V_start (nt := 8) Try.func33 rfl rfl rfl ?_
  refine VW_seq ?_
  refine VW_region ?_
  refine VOps_cons rfl rfl (V_assign rfl ?_)
  refine VOps_nil ?_
  refine Then_n ?_
  refine VW_seq ?_
  refine VW_seq ?_
  refine VW_region ?_
  refine VOps_cons rfl rfl (V_move rfl ?_)
  refine VOps_cons rfl rfl (V_eqNil Try.underlying32 rfl (fun b4 hb4 => ?_))
  refine VOps_nil ?_
  refine Then_n ?_
  refine VW_cond rfl (fun h4 => ?_) (fun h4 => ?_)
  · skip
    have hn : l = [] := by simpa using hb4 h4
    subst hn
    refine VW_seq ?_
    refine VW_region ?_
    refine VOps_cons rfl rfl (VOp_as (V_assign rfl ⟨rfl, rfl⟩) (V.le.nil 1) ?_)
    refine VOps_nil ?_
    refine Then_n ?_
    refine VW_ret ?_
    refine Then_r (VRet_one rfl (.strip rfl) ?_)
    rfl
  · skip
    refine VW_skip ?_
    refine Then_n ?_
    refine VW_seq ?_
    refine VW_region ?_
    refine VOps_cons rfl rfl (V_litTok [] VT.sl32 rfl rfl rfl rfl rfl (fun t5 => ?_))
    refine VOps_cons rfl rfl (V_move rfl ?_)
    refine VOps_cons rfl rfl (V_appendN 0 _ VT.sl32 rfl rfl rfl (by simp) (by simp; omega) (fun t7 => ?_))
    refine VOps_cons rfl rfl (V_assign rfl ?_)
    refine VOps_nil ?_
    refine Then_n ?_
    refine VW_ret ?_
    refine VRet_one rfl (.strip rfl) ?_
    rfl


set_option maxRecDepth 100000 in
theorem intsClone_l (l : List Int) (hne : l ≠ []) (hl : l.length ≤ 1000000) : VList Try.prog 33 [.sl 1 none (l.map V.int)] 3 1 (l.map V.int) := by
  unfold VList
  refine V_start (nt := 8) Try.func33 rfl rfl rfl ?_
  refine VW_seq ?_
  refine VW_region ?_
  refine VOps_cons rfl rfl (V_assign rfl ?_)
  refine VOps_nil ?_
  refine Then_n ?_
  refine VW_seq ?_
  refine VW_seq ?_
  refine VW_region ?_
  refine VOps_cons rfl rfl (V_move rfl ?_)
  refine VOps_cons rfl rfl (V_eqNil Try.underlying32 rfl (fun b4 hb4 => ?_))
  refine VOps_nil ?_
  refine Then_n ?_
  refine VW_cond rfl (fun h4 => ?_) (fun h4 => ?_)
  · exact absurd (hb4 h4) (by simpa using hne)
  · skip
    refine VW_skip ?_
    refine Then_n ?_
    refine VW_seq ?_
    refine VW_region ?_
    refine VOps_cons rfl rfl (V_lit0 [] VT.sl32 rfl rfl rfl rfl rfl rfl ?_)
    refine VOps_cons rfl rfl (V_move rfl ?_)
    refine VOps_cons rfl rfl (V_append0 VT.sl32 rfl rfl (by simp; omega) (fun t7 => ?_))
    refine VOps_cons rfl rfl (V_assign rfl ?_)
    refine VOps_nil ?_
    refine Then_n ?_
    refine VW_ret ?_
    refine VRet_one rfl (.tmp rfl) ?_
    exact ⟨t7, rfl, rfl⟩


set_option maxRecDepth 100000 in
theorem pathsGrow_c (n : Int) (h0 : 0 ≤ n) (hn : n ≤ 2000000) : VCalls Try.prog 94 [V.nilSl, .int n] [] fun r S' => ∃ tok, r = .sl 1 (some tok) [] ∧ S' = [.buf tok 32 1 0] := by
  refine V_start (nt := 27) Try.func94 rfl rfl rfl ?_
  refine VW_seq ?_
  refine VW_region ?_
  refine VOps_cons rfl rfl (V_assign rfl ?_)
  refine VOps_nil ?_
  refine Then_n ?_
  refine VW_seq ?_
  refine VW_seq ?_
  refine VW_region ?_
  refine VOps_cons rfl rfl (V_move rfl ?_)
  refine VOps_cons rfl rfl (V_bin rfl rfl rfl ?_)
  refine VOps_nil ?_
  refine Then_n ?_
  refine VW_condF rfl (by simp; omega) ?_
  refine VW_skip ?_
  refine Then_n ?_
  refine VW_seq ?_
  refine VW_seq ?_
  refine VW_region ?_
  refine VOps_cons rfl rfl (V_move rfl ?_)
  refine VOps_cons rfl rfl (V_move rfl ?_)
  refine VOps_cons rfl rfl (V_cap_raw Try.underlying78 rfl ?_)
  refine VOps_cons rfl rfl (V_move rfl ?_)
  refine VOps_cons rfl rfl (V_len_raw Try.underlying78 rfl ?_)
  refine VOps_cons rfl rfl (V_sub rfl rfl (by omega) ?_)
  refine VOps_cons rfl rfl (V_sub rfl rfl (by omega) ?_)
  refine VOps_cons rfl rfl (V_assign rfl ?_)
  refine VOps_nil ?_
  refine Then_n ?_
  refine VW_seq ?_
  refine VW_region ?_
  refine VOps_cons rfl rfl (V_move rfl ?_)
  refine VOps_cons rfl rfl (V_bin rfl rfl rfl ?_)
  refine VOps_nil ?_
  refine Then_n ?_
  refine VW_condP rfl (fun h16 => ?_) (fun h16 => ?_)
  · skip
    refine VW_region ?_
    refine VOps_cons rfl rfl (V_move rfl ?_)
    refine VOps_cons rfl rfl (V_move rfl ?_)
    refine VOps_cons rfl rfl (V_cap_raw Try.underlying78 rfl ?_)
    refine VOps_cons rfl rfl (V_slice_raw VT.sl78 rfl rfl rfl (by omega) (by omega) (by omega) ?_)
    refine VOps_cons rfl rfl (V_move rfl ?_)
    refine VOps_cons rfl rfl (V_growNil VT.sl78 Try.underlying3 rfl rfl (by omega) (by omega) (fun g22 cap22 hcg22 hmg22 => ?_))
    refine VOps_cons rfl rfl (V_move rfl ?_)
    refine VOps_cons rfl rfl (V_len_raw Try.underlying78 rfl ?_)
    refine VOps_cons rfl rfl (V_slice0 VT.sl78 rfl rfl (by omega) hmg22 ?_)
    refine VOps_cons rfl rfl (V_assign rfl ?_)
    refine VOps_nil ?_
    refine Then_n ?_
    refine VW_seq ?_
    refine VW_region ?_
    refine VOps_cons rfl rfl (V_move rfl ?_)
    refine VOps_cons rfl rfl (V_assign rfl ?_)
    refine VOps_nil ?_
    refine Then_n ?_
    refine VW_ret ?_
    refine VRet_one rfl (.tmp rfl) ?_
    exact ⟨_, rfl, rfl⟩
  · skip
    refine VW_nil (q := 0) 32 1 rfl ?_
    refine VW_skip ?_
    refine Then_n ?_
    refine VW_seq ?_
    refine VW_region ?_
    refine VOps_cons rfl rfl (V_move rfl ?_)
    refine VOps_cons rfl rfl (V_assign rfl ?_)
    refine VOps_nil ?_
    refine Then_n ?_
    refine VW_ret ?_
    refine VRet_one rfl (.tmp rfl) ?_
    exact ⟨_, rfl, rfl⟩


set_option maxRecDepth 100000 in
theorem pathsConcat_l (rows : List (List (List Int))) (hs : rows.flatten.length ≤ 1000000) : VList Try.prog 86 [.sl 1 none (rows.map pathsX)] 32 1 (rows.flatten.map intsX) := by
  unfold VList
  refine V_start (nt := 36) Try.func86 rfl rfl rfl ?_
  refine VW_seq ?_
  refine VW_region ?_
  refine VOps_cons rfl rfl (V_assign rfl ?_)
  refine VOps_nil ?_
  refine Then_n ?_
  refine VW_seq ?_
  refine VW_region ?_
  refine VOps_cons rfl rfl (V_assign rfl ?_)
  refine VOps_nil ?_
  refine Then_n ?_
  refine VW_seq ?_
  refine VW_seq ?_
  refine VW_region ?_
  refine VOps_cons rfl rfl (V_move rfl ?_)
  refine VOps_cons rfl rfl (V_lenN (n := rows.length) Try.underlying133 rfl (by simp) (fun hl10 => ?_))
  refine VOps_cons rfl rfl (V_move rfl ?_)
  refine VOps_nil ?_
  refine Then_n ?_
  refine VW_block ?_
  refine VW_loopF (ι := Nat) (fun k => rows.length - k) (fun k => [(0, some (.sl 1 none (rows.map pathsX))), (3, some (.int (rows.take k).flatten.length)), (9, some (.sl 1 none (rows.map pathsX))), (10, some (.int rows.length)), (11, some (.int k))]) (fun k => []) (fun k => k ≤ rows.length) 0 (by simp) ⟨rfl, rfl, rfl, rfl, rfl, trivial⟩ (Drops.nil _) ?_
  rintro k hk
  change k ≤ rows.length at hk
  refine VW_seq ?_
  refine VW_region ?_
  refine VOps_cons rfl rfl (V_bin rfl rfl rfl ?_)
  refine VOps_nil ?_
  refine Then_n ?_
  refine VW_seq ?_
  refine VW_condP rfl (fun h12 => ?_) (fun h12 => ?_)
  · skip
    obtain ⟨r, hr⟩ := get_of_lt rows k h12
    have hfl := flatten_le hr
    refine VW_skip ?_
    refine Then_n ?_
    refine VW_seq ?_
    refine VW_block ?_
    refine VW_seq ?_
    refine VW_region ?_
    refine VOps_cons rfl rfl (V_indexAddr (el := pathsX r) VT.sl133 rfl rfl (by omega) (get_mapS _ hr) (fun a13 => ?_))
    refine VOps_cons rfl rfl (V_load_ep VT.ty78 rfl rfl ?_)
    refine VOps_cons rfl rfl (V_assign rfl ?_)
    refine VOps_nil ?_
    refine Then_n ?_
    refine VW_seq ?_
    refine VW_region ?_
    refine VOps_cons rfl rfl (V_move rfl ?_)
    refine VOps_cons rfl rfl (V_move rfl ?_)
    refine VOps_cons rfl rfl (V_lenN (n := r.length) Try.underlying78 rfl (by simp) (fun hl17 => ?_))
    refine VOps_cons rfl rfl (V_add rfl rfl (by omega) ?_)
    refine VOps_cons rfl rfl (V_assign rfl ?_)
    refine VOps_nil ?_
    refine Then_n ?_
    refine VW_seq ?_
    refine VW_region ?_
    refine VOps_cons rfl rfl (V_move rfl ?_)
    refine VOps_cons rfl rfl (V_bin rfl rfl rfl ?_)
    refine VOps_nil ?_
    refine Then_n ?_
    refine VW_condF rfl (by simp; omega) ?_
    refine VW_skip ?_
    refine InBlock_n (Then_n ?_)
    refine VW_region ?_
    refine VOps_cons rfl rfl (V_add rfl rfl (by omega) ?_)
    refine VOps_cons rfl rfl (V_move rfl ?_)
    refine VOps_nil ?_
    refine Then_n ?_
    exact ⟨k + 1, (by (try simp only []); omega), (by omega), ⟨rfl, (by rw [take_snoc hr, List.flatten_append, List.length_append, List.flatten_singleton]; rfl), rfl, rfl, rfl, trivial⟩, (Drops.nil _)⟩
  · skip
    have hT : (rows.take k).flatten.length ≤ 1000000 := by rw [take_end h12]; exact hs
    refine VW_exit ?_
    refine Then_e (Then_e (InBlock_hit ?_))
    refine Then_n ?_
    refine VW_seq ?_
    refine VW_region ?_
    refine VOps_cons rfl rfl (V_move rfl ?_)
    refine VOps_cons rfl rfl (V_call [.const _, .tmp 23] [] _ rfl rfl VT.en94 (.refl _) (pathsGrow_c _ (by omega) (by omega)) ?_)
    rintro r Sa ⟨tok0, rfl, rfl⟩
    refine VOps_cons rfl rfl (V_assign rfl ?_)
    refine VOps_nil ?_
    refine Then_n ?_
    refine VW_seq ?_
    refine VW_seq ?_
    refine VW_region ?_
    refine VOps_cons rfl rfl (V_move rfl ?_)
    refine VOps_cons rfl rfl (V_lenN (n := rows.length) Try.underlying133 rfl (by simp) (fun hl26 => ?_))
    refine VOps_cons rfl rfl (V_move rfl ?_)
    refine VOps_nil ?_
    refine Then_n ?_
    refine VW_block ?_
    refine VW_loopF (ι := Nat × Tok) (fun (j, t) => rows.length - j) (fun (j, t) => [(6, some (.sl 1 (some t) ((rows.take j).flatten.map intsX))), (25, some (.sl 1 none (rows.map pathsX))), (26, some (.int rows.length)), (27, some (.int j))]) (fun (j, t) => [.buf t 32 1 (rows.take j).flatten.length]) (fun (j, t) => j ≤ rows.length) (0, tok0) (by simp) ⟨rfl, rfl, rfl, rfl, trivial⟩ (Drops.buf rfl (Drops.refl _)) ?_
    rintro ⟨j, t⟩ hj
    change j ≤ rows.length at hj
    refine VW_seq ?_
    refine VW_region ?_
    refine VOps_cons rfl rfl (V_bin rfl rfl rfl ?_)
    refine VOps_nil ?_
    refine Then_n ?_
    refine VW_seq ?_
    refine VW_condP rfl (fun h28 => ?_) (fun h28 => ?_)
    · skip
      obtain ⟨r, hr⟩ := get_of_lt rows j h28
      have hfl := flatten_le hr
      refine VW_skip ?_
      refine Then_n ?_
      refine VW_seq ?_
      refine VW_block ?_
      refine VW_seq ?_
      refine VW_region ?_
      refine VOps_cons rfl rfl (V_indexAddr (el := pathsX r) VT.sl133 rfl rfl (by omega) (get_mapS _ hr) (fun a29 => ?_))
      refine VOps_cons rfl rfl (V_load_ep VT.ty78 rfl rfl ?_)
      refine VOps_cons rfl rfl (V_assign rfl ?_)
      refine VOps_nil ?_
      refine Then_n ?_
      refine VW_region ?_
      refine VOps_cons rfl rfl (V_move rfl ?_)
      refine VOps_cons rfl rfl (V_move rfl ?_)
      refine VOps_cons rfl rfl (V_appendN 0 _ VT.sl78 rfl rfl rfl (by rw [List.length_map]) (by rw [List.length_map, List.length_map]; omega) (fun t33 => ?_))
      refine VOps_cons rfl rfl (V_assign rfl ?_)
      refine VOps_nil ?_
      refine InBlock_n (Then_n ?_)
      refine VW_region ?_
      refine VOps_cons rfl rfl (V_add rfl rfl (by omega) ?_)
      refine VOps_cons rfl rfl (V_move rfl ?_)
      refine VOps_nil ?_
      refine Then_n ?_
      exact ⟨(j + 1, t33), (by (try simp only []); omega), (by omega), ⟨(by rw [take_snoc hr, List.flatten_append, List.map_append, List.flatten_singleton]; rfl), rfl, rfl, rfl, trivial⟩, (Drops.buf (by rw [take_snoc hr, List.flatten_append, List.length_append, List.length_append, List.length_map, List.length_map, List.flatten_singleton]) (Drops.refl _))⟩
    · skip
      refine VW_exit ?_
      refine Then_e (Then_e (InBlock_hit ?_))
      refine Then_n ?_
      refine VW_seq ?_
      refine VW_region ?_
      refine VOps_cons rfl rfl (V_move rfl ?_)
      refine VOps_cons rfl rfl (V_assign rfl ?_)
      refine VOps_nil ?_
      refine Then_n ?_
      refine VW_ret ?_
      refine VRet_one rfl (.tmp rfl) ?_
      rw [take_end h28]
      exact ⟨_, rfl, by show [Own.buf t 32 1 (rows.take j).flatten.length] = _; rw [take_end h28, List.length_map]⟩


end Go.Proofs.Ytmjeaagpcmfnpaa.W16
