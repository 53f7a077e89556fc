/- Walks, printed by walk.py. -/
import Derived.Test.YtmjeaagpcmfnpaaVT
import Derived.Test.YtmjeaagpcmfnpaaVDA
import Derived.Test.YtmjeaagpcmfnpaaVB
import Derived.Test.YtmjeaagpcmfnpaaW1
import Derived.Test.YtmjeaagpcmfnpaaW2
set_option linter.unusedVariables false
set_option linter.unusedSimpArgs false
namespace Go.Proofs.Ytmjeaagpcmfnpaa.W4
open Go.VL Go.PM Go.Proofs.Ytmjeaagpcmfnpaa Go.Proofs.Ytmjeaagpcmfnpaa.W1 Go.Proofs.Ytmjeaagpcmfnpaa.W2
set_option maxRecDepth 100000 in
theorem agree1_c (q p : Pat) (g : Nat) : VKeep Try.prog 76 [patX q, .ptr g 0] [.cells g 30 [.int p.kind, .str p.name, .int p.n, patsX p.args]] (.bool (decide (q.name = p.name))) := by
  refine VCalls_drops ?_
  refine V_start (nt := 9) Try.func76 rfl rfl rfl ?_
  refine VW_seq ?_
  refine VW_region ?_
  refine VOps_cons rfl rfl (V_box rfl rfl (fun g2 => ?_))
  refine VOps_cons rfl rfl (V_assign rfl ?_)
  refine VOps_nil ?_
  refine Then_n ?_
  refine VW_seq ?_
  refine VW_region ?_
  refine VOps_cons rfl rfl (V_fieldAddr VT.fa30_1 rfl ?_)
  refine VOps_cons rfl rfl (V_load 0 VT.ty9 rfl rfl rfl ?_)
  refine VOps_cons rfl rfl (V_fieldAddr VT.fa30_1 rfl ?_)
  refine VOps_cons rfl rfl (V_load 1 VT.ty9 rfl rfl rfl ?_)
  refine VOps_cons rfl rfl (V_streq rfl rfl ?_)
  refine VOps_cons rfl rfl (V_assign rfl ?_)
  refine VOps_nil ?_
  refine Then_n ?_
  refine VW_ret ?_
  refine VRet_one rfl (.tmp rfl) ?_
  exact ⟨_, Drops.drop (Drops.refl _), congrArg V.bool (Bool.eq_iff_iff.2 (by simp)), rfl⟩


set_option maxRecDepth 100000 in
theorem absent1_c (p : Pat) (n : Int) (g : Nat) : VKeep Try.prog 77 [patX p, .ptr g 0] [.cells g 3 [.int n]] (.bool (decide (p.n = n))) := by
  refine VCalls_drops ?_
  refine V_start (nt := 8) Try.func77 rfl rfl rfl ?_
  refine VW_seq ?_
  refine VW_region ?_
  refine VOps_cons rfl rfl (V_box rfl rfl (fun g2 => ?_))
  refine VOps_cons rfl rfl (V_assign rfl ?_)
  refine VOps_nil ?_
  refine Then_n ?_
  refine VW_seq ?_
  refine VW_region ?_
  refine VOps_cons rfl rfl (V_fieldAddr VT.fa30_2 rfl ?_)
  refine VOps_cons rfl rfl (V_load 0 VT.ty3 rfl rfl rfl ?_)
  refine VOps_cons rfl rfl (V_load 1 VT.ty3 rfl rfl rfl ?_)
  refine VOps_cons rfl rfl (V_bin rfl rfl rfl ?_)
  refine VOps_cons rfl rfl (V_assign rfl ?_)
  refine VOps_nil ?_
  refine Then_n ?_
  refine VW_ret ?_
  refine VRet_one rfl (.tmp rfl) ?_
  exact ⟨_, Drops.drop (Drops.refl _), rfl, rfl⟩


set_option maxRecDepth 100000 in
theorem absent2_c (p : Pat) (c : ConSig) (g : Nat) : VKeep Try.prog 78 [patX p, .ptr g 0] [.cells g 59 [.str c.name, .sl 4 none c.args]] (.bool (decide (p.name = c.name))) := by
  refine VCalls_drops ?_
  refine V_start (nt := 9) Try.func78 rfl rfl rfl ?_
  refine VW_seq ?_
  refine VW_region ?_
  refine VOps_cons rfl rfl (V_box rfl rfl (fun g2 => ?_))
  refine VOps_cons rfl rfl (V_assign rfl ?_)
  refine VOps_nil ?_
  refine Then_n ?_
  refine VW_seq ?_
  refine VW_region ?_
  refine VOps_cons rfl rfl (V_fieldAddr VT.fa30_1 rfl ?_)
  refine VOps_cons rfl rfl (V_load 0 VT.ty9 rfl rfl rfl ?_)
  refine VOps_cons rfl rfl (V_fieldAddr VT.fa59_0 rfl ?_)
  refine VOps_cons rfl rfl (V_load 1 VT.ty9 rfl rfl rfl ?_)
  refine VOps_cons rfl rfl (V_streq rfl rfl ?_)
  refine VOps_cons rfl rfl (V_assign rfl ?_)
  refine VOps_nil ?_
  refine Then_n ?_
  refine VW_ret ?_
  refine VRet_one rfl (.tmp rfl) ?_
  exact ⟨_, Drops.drop (Drops.refl _), congrArg V.bool (Bool.eq_iff_iff.2 (by simp)), rfl⟩


set_option maxRecDepth 100000 in
theorem patIdxK_c {l : List Pat} {tok : Option Tok} {p : Pat → Bool} {c : FuncId} {caps : List V} {o : Own} (hen : Enters Try.prog c) (hp : ∀ x ∈ l, VKeep Try.prog c (patX x :: caps) [o] (.bool (p x))) : VKeep Try.prog 51 [.sl 4 tok (l.map patV), .clo (.func c) caps] [o] (.int (idxOf p l)) := by
  refine V_start (nt := 19) Try.func51 rfl rfl rfl ?_
  refine VW_seq ?_
  refine VW_region ?_
  refine VOps_cons rfl rfl (V_assign rfl ?_)
  refine VOps_nil ?_
  refine Then_n ?_
  refine VW_seq ?_
  refine VW_seq ?_
  refine VW_region ?_
  refine VOps_cons rfl rfl (V_move rfl ?_)
  refine VOps_cons rfl rfl (V_lenN (n := l.length) Try.underlying25 rfl (by simp) (fun hl7 => ?_))
  refine VOps_cons rfl rfl (V_move rfl ?_)
  refine VOps_nil ?_
  refine Then_n ?_
  refine VW_block ?_
  refine VW_loopF (ι := Nat) (fun k => l.length - k) (fun k => [(0, some (.sl 4 tok (l.map patV))), (1, some (.clo (.func c) caps)), (7, some (.int l.length)), (8, some (.int k))]) (fun k => [o]) (fun k => k ≤ l.length ∧ (l.take k).any p = false) 0 ⟨Nat.zero_le _, rfl⟩ ⟨rfl, rfl, rfl, rfl, trivial⟩ (Drops.refl _) ?_
  rintro k hA
  change k ≤ l.length ∧ (l.take k).any p = false at hA
  obtain ⟨hk, hany⟩ := hA
  refine VW_seq ?_
  refine VW_region ?_
  refine VOps_cons rfl rfl (V_bin rfl rfl rfl ?_)
  refine VOps_nil ?_
  refine Then_n ?_
  refine VW_seq ?_
  refine VW_condP rfl (fun h9 => ?_) (fun h9 => ?_)
  · skip
    obtain ⟨x, hr⟩ := get_of_lt l k h9
    refine VW_skip ?_
    refine Then_n ?_
    refine VW_seq ?_
    refine VW_block ?_
    refine VW_seq ?_
    refine VW_region ?_
    refine VOps_cons rfl rfl (V_move rfl ?_)
    refine VOps_cons rfl rfl (V_assign rfl ?_)
    refine VOps_nil ?_
    refine Then_n ?_
    refine VW_seq ?_
    refine VW_region ?_
    refine VOps_cons rfl rfl (V_move rfl ?_)
    refine VOps_cons rfl rfl (V_move rfl ?_)
    refine VOps_cons rfl rfl (V_move rfl ?_)
    refine VOps_cons rfl rfl (V_indexAddr (el := patX x) VT.sl25 rfl rfl (by omega) (get_patS hr) (fun a14 => ?_))
    refine VOps_cons rfl rfl (V_load_ep_agg VT.ty30 rfl rfl ?_)
    refine VOps_cons rfl rfl (V_callCloK 0 [.tmp 15] rfl rfl rfl hen rfl (hp x (List.mem_of_getElem? hr)) ?_)
    refine VOps_nil ?_
    refine Then_n ?_
    refine VW_cond rfl (fun h16 => ?_) (fun h16 => ?_)
    · skip
      refine VW_seq ?_
      refine VW_region ?_
      refine VOps_cons rfl rfl (V_move rfl ?_)
      refine VOps_cons rfl rfl (V_assign rfl ?_)
      refine VOps_nil ?_
      refine Then_n ?_
      refine VW_ret ?_
      refine InBlock_r (Then_r (Then_r (InBlock_r (Then_r (VRet_one rfl (.tmp rfl) ?_)))))
      rw [idxOf_at p hr hany h16]
      exact ⟨rfl, rfl⟩
    · skip
      refine VW_skip ?_
      refine InBlock_n (Then_n ?_)
      refine VW_region ?_
      refine VOps_cons rfl rfl (V_add rfl rfl (by omega) ?_)
      refine VOps_cons rfl rfl (V_move rfl ?_)
      refine VOps_nil ?_
      refine Then_n ?_
      exact ⟨k + 1, (by (try simp only []); omega), ⟨by omega, any_snoc hr hany h16⟩, ⟨rfl, rfl, rfl, rfl, trivial⟩, (Drops.keep (Drops.refl _))⟩
  · skip
    refine VW_exit ?_
    refine Then_e (Then_e (InBlock_hit ?_))
    refine Then_n ?_
    refine VW_seq ?_
    refine VW_region ?_
    refine VOps_cons rfl rfl (V_assign rfl ?_)
    refine VOps_nil ?_
    refine Then_n ?_
    refine VW_ret ?_
    refine VRet_one rfl (.tmp rfl) ?_
    have hke : k = l.length := by omega
    subst hke
    rw [List.take_length] at hany
    rw [idxOf_none p hany]
    exact ⟨rfl, rfl⟩


set_option maxRecDepth 100000 in
theorem patAnyK_c {l : List Pat} {tok : Option Tok} {p : Pat → Bool} {c : FuncId} {caps : List V} {o : Own} (hen : Enters Try.prog c) (hp : ∀ x ∈ l, VKeep Try.prog c (patX x :: caps) [o] (.bool (p x))) : VKeep Try.prog 75 [.sl 4 tok (l.map patV), .clo (.func c) caps] [o] (.bool (l.any p)) := by
  refine V_start (nt := 9) Try.func75 rfl rfl rfl ?_
  refine VW_seq ?_
  refine VW_region ?_
  refine VOps_cons rfl rfl (V_assign rfl ?_)
  refine VOps_nil ?_
  refine Then_n ?_
  refine VW_seq ?_
  refine VW_region ?_
  refine VOps_cons rfl rfl (V_move rfl ?_)
  refine VOps_cons rfl rfl (V_move rfl ?_)
  refine VOps_cons rfl rfl (V_callK 0 [.tmp 5, .tmp 6] rfl rfl VT.en51 rfl (patIdxK_c hen hp) ?_)
  refine VOps_cons rfl rfl (V_bin rfl rfl rfl ?_)
  refine VOps_cons rfl rfl (V_assign rfl ?_)
  refine VOps_nil ?_
  refine Then_n ?_
  refine VW_ret ?_
  refine VRet_one rfl (.tmp rfl) ?_
  rw [idxOf_ge]
  exact ⟨rfl, rfl⟩


set_option maxRecDepth 100000 in
theorem patIdxR_c (l : List Pat) (rest : List V) (g cap : Nat) (hc : l.length ≤ 1000000) : VKeep Try.prog 51 [.raw (.slice (some ⟨g, 0, none⟩) l.length cap), .clo (.func 48) []] [.cells g 30 ((l.map patV).flatMap V.leaves ++ rest)] (.int (idxOf free l)) := by
  refine V_start (nt := 19) Try.func51 rfl rfl rfl ?_
  refine VW_seq ?_
  refine VW_region ?_
  refine VOps_cons rfl rfl (V_assign rfl ?_)
  refine VOps_nil ?_
  refine Then_n ?_
  refine VW_seq ?_
  refine VW_seq ?_
  refine VW_region ?_
  refine VOps_cons rfl rfl (V_move rfl ?_)
  refine VOps_cons rfl rfl (V_len_raw Try.underlying25 rfl ?_)
  refine VOps_cons rfl rfl (V_move rfl ?_)
  refine VOps_nil ?_
  refine Then_n ?_
  refine VW_block ?_
  refine VW_loopF (ι := Nat) (fun k => l.length - k) (fun k => [(0, some (.raw (.slice (some ⟨g, 0, none⟩) l.length cap))), (1, some (.clo (.func 48) [])), (7, some (.int l.length)), (8, some (.int k))]) (fun k => [.cells g 30 ((l.map patV).flatMap V.leaves ++ rest)]) (fun k => k ≤ l.length ∧ (l.take k).any free = false) 0 ⟨Nat.zero_le _, rfl⟩ ⟨rfl, rfl, rfl, rfl, trivial⟩ (Drops.refl _) ?_
  rintro k hA
  change k ≤ l.length ∧ (l.take k).any free = false at hA
  obtain ⟨hk, hany⟩ := hA
  refine VW_seq ?_
  refine VW_region ?_
  refine VOps_cons rfl rfl (V_bin rfl rfl rfl ?_)
  refine VOps_nil ?_
  refine Then_n ?_
  refine VW_seq ?_
  refine VW_condP rfl (fun h9 => ?_) (fun h9 => ?_)
  · skip
    obtain ⟨x, hr⟩ := get_of_lt l k h9
    refine VW_skip ?_
    refine Then_n ?_
    refine VW_seq ?_
    refine VW_block ?_
    refine VW_seq ?_
    refine VW_region ?_
    refine VOps_cons rfl rfl (V_move rfl ?_)
    refine VOps_cons rfl rfl (V_assign rfl ?_)
    refine VOps_nil ?_
    refine Then_n ?_
    refine VW_seq ?_
    refine VW_region ?_
    refine VOps_cons rfl rfl (V_move rfl ?_)
    refine VOps_cons rfl rfl (V_move rfl ?_)
    refine VOps_cons rfl rfl (V_move rfl ?_)
    refine VOps_cons rfl rfl (V_indexAddr_row VT.sl25 rfl rfl (by omega) (by omega) ?_)
    refine VOps_cons rfl rfl (V_load_elem 0 k VT.ty30 rfl (by simp) rfl rfl (pats_fit l) (get_patS hr) ?_)
    refine VOps_cons rfl rfl (V_callCloP [.tmp 15] rfl rfl rfl VT.en48 (free_c x) ?_)
    refine VOps_nil ?_
    refine Then_n ?_
    refine VW_cond rfl (fun h16 => ?_) (fun h16 => ?_)
    · skip
      refine VW_seq ?_
      refine VW_region ?_
      refine VOps_cons rfl rfl (V_move rfl ?_)
      refine VOps_cons rfl rfl (V_assign rfl ?_)
      refine VOps_nil ?_
      refine Then_n ?_
      refine VW_ret ?_
      refine InBlock_r (Then_r (Then_r (InBlock_r (Then_r (VRet_one rfl (.tmp rfl) ?_)))))
      rw [idxOf_at free hr hany h16]
      exact ⟨rfl, rfl⟩
    · skip
      refine VW_skip ?_
      refine InBlock_n (Then_n ?_)
      refine VW_region ?_
      refine VOps_cons rfl rfl (V_add rfl rfl (by omega) ?_)
      refine VOps_cons rfl rfl (V_move rfl ?_)
      refine VOps_nil ?_
      refine Then_n ?_
      exact ⟨k + 1, (by (try simp only []); omega), ⟨by omega, any_snoc hr hany h16⟩, ⟨rfl, rfl, rfl, rfl, trivial⟩, (Drops.keep (Drops.refl _))⟩
  · skip
    refine VW_exit ?_
    refine Then_e (Then_e (InBlock_hit ?_))
    refine Then_n ?_
    refine VW_seq ?_
    refine VW_region ?_
    refine VOps_cons rfl rfl (V_assign rfl ?_)
    refine VOps_nil ?_
    refine Then_n ?_
    refine VW_ret ?_
    refine VRet_one rfl (.tmp rfl) ?_
    have hke : k = l.length := by omega
    subst hke
    rw [List.take_length] at hany
    rw [idxOf_none free hany]
    exact ⟨rfl, rfl⟩


set_option maxRecDepth 100000 in
theorem delete_c (l : List Pat) (rest : List V) (g cap : Nat) (hc : l.length ≤ 1000000) (hcap : l.length ≤ cap) : VCalls Try.prog 73 [.raw (.slice (some ⟨g, 0, none⟩) l.length cap), .clo (.func 48) []] [.cells g 30 ((l.map patV).flatMap V.leaves ++ rest)] fun r S' => ∃ rest', r = .raw (.slice (some ⟨g, 0, none⟩) (l.filter nf).length cap) ∧ S' = [.cells g 30 (((l.filter nf).map patV).flatMap V.leaves ++ rest')] := by
  refine VCalls_drops ?_
  refine V_start (nt := 42) Try.func73 rfl rfl rfl ?_
  refine VW_seq ?_
  refine VW_region ?_
  refine VOps_cons rfl rfl (V_assign rfl ?_)
  refine VOps_nil ?_
  refine Then_n ?_
  refine VW_seq ?_
  refine VW_region ?_
  refine VOps_cons rfl rfl (V_move rfl ?_)
  refine VOps_cons rfl rfl (V_move rfl ?_)
  refine VOps_cons rfl rfl (V_callK 0 [.tmp 8, .tmp 9] rfl rfl VT.en51 rfl (patIdxR_c l rest g cap hc) ?_)
  have hidx := idxOf_range free l
  refine VOps_cons rfl rfl (V_assign rfl ?_)
  refine VOps_nil ?_
  refine Then_n ?_
  refine VW_seq ?_
  refine VW_seq ?_
  refine VW_region ?_
  refine VOps_cons rfl rfl (V_move rfl ?_)
  refine VOps_cons rfl rfl (V_bin rfl rfl rfl ?_)
  refine VOps_nil ?_
  refine Then_n ?_
  refine VW_condEq rfl (fun h12 => ?_) (fun h12 => ?_)
  · skip
    have hno : l.any free = false := by rcases hidx with ⟨_, h⟩ | ⟨k, x, h1, _⟩; exact h; omega
    refine VW_seq ?_
    refine VW_region ?_
    refine VOps_cons rfl rfl (V_move rfl ?_)
    refine VOps_cons rfl rfl (V_assign rfl ?_)
    refine VOps_nil ?_
    refine Then_n ?_
    refine VW_ret ?_
    refine Then_r (VRet_one rfl (.tmp rfl) ?_)
    exact ⟨_, Drops.refl _, rest, by rw [filter_all hno], by rw [filter_all hno]⟩
  · skip
    obtain ⟨i0, x0, hi0, hx0, hf0, ha0⟩ : ∃ k x, idxOf free l = (k : Nat) ∧ l[k]? = some x ∧ free x = true ∧ (l.take k).any free = false := by rcases hidx with ⟨h, _⟩ | h; exact absurd h h12; exact h
    have hi0l := (List.getElem?_eq_some_iff.1 hx0).1
    refine VW_skip ?_
    refine Then_n ?_
    refine VW_seq ?_
    refine VW_seq ?_
    refine VW_region ?_
    refine VOps_cons rfl rfl (V_move rfl ?_)
    refine VOps_cons rfl rfl (V_add rfl rfl (by omega) ?_)
    refine VOps_cons rfl rfl (V_assign rfl ?_)
    refine VOps_nil ?_
    refine Then_n ?_
    refine VW_block ?_
    refine VW_loopF (ι := Nat × Nat × List Pat) (fun (i, j, cur) => l.length - j) (fun (i, j, cur) => [(0, some (.raw (.slice (some ⟨g, 0, none⟩) l.length cap))), (1, some (.clo (.func 48) [])), (5, some (.int i)), (6, some (.int j))]) (fun (i, j, cur) => [.cells g 30 ((cur.map patV).flatMap V.leaves ++ rest)]) (fun (i, j, cur) => DelInv l i j cur) (i0, i0 + 1, l) (DelInv.init hx0 hf0 ha0) ⟨rfl, rfl, (by rw [← hi0]; rfl), (by show some (V.int (idxOf free l + 1)) = _; rw [hi0]; rfl), trivial⟩ (Drops.keep (Drops.refl _)) ?_
    rintro ⟨i, j, cur⟩ hA
    change DelInv l i j cur at hA
    have hij := hA.le
    have hjl := hA.le2
    have hcl := hA.len
    have hfl := flat_len (pats_fit cur)
    refine VW_seq ?_
    refine VW_seq ?_
    refine VW_region ?_
    refine VOps_cons rfl rfl (V_move rfl ?_)
    refine VOps_cons rfl rfl (V_move rfl ?_)
    refine VOps_cons rfl rfl (V_len_raw Try.underlying25 rfl ?_)
    refine VOps_cons rfl rfl (V_bin rfl rfl rfl ?_)
    refine VOps_nil ?_
    refine Then_n ?_
    refine VW_condP rfl (fun h19 => ?_) (fun h19 => ?_)
    · skip
      obtain ⟨v, hr⟩ := get_of_lt l j h19
      have hg := hA.get hr
      refine VW_skip ?_
      refine Then_n ?_
      refine VW_seq ?_
      refine VW_block ?_
      refine VW_seq ?_
      refine VW_region ?_
      refine VOps_cons rfl rfl (V_move rfl ?_)
      refine VOps_cons rfl rfl (V_move rfl ?_)
      refine VOps_cons rfl rfl (V_indexAddr_row VT.sl25 rfl rfl (by omega) (by omega) ?_)
      refine VOps_cons rfl rfl (V_load_elem 0 j VT.ty30 rfl (by simp) rfl rfl (pats_fit cur) (get_patS hg) ?_)
      refine VOps_cons rfl rfl (V_alloc VT.zr30 _ rfl rfl (fun g7 => ?_))
      refine VOps_cons rfl rfl (V_store_agg 0 VT.ty30 rfl rfl rfl rfl rfl ?_)
      refine VOps_nil ?_
      refine Then_n ?_
      refine VW_seq ?_
      refine VW_region ?_
      refine VOps_cons rfl rfl (V_move rfl ?_)
      refine VOps_cons rfl rfl (V_load_agg 0 VT.ty30 rfl rfl rfl ?_)
      refine VOps_cons rfl rfl (V_callCloP [.tmp 27] rfl rfl rfl VT.en48 (free_c v) ?_)
      refine VOps_cons rfl rfl (V_not rfl ?_)
      refine VOps_nil ?_
      refine Then_n ?_
      refine VW_condN rfl (fun h29 => ?_) (fun h29 => ?_)
      · skip
        refine VW_seq ?_
        refine VW_region ?_
        refine VOps_cons rfl rfl (V_move rfl ?_)
        refine VOps_cons rfl rfl (V_move rfl ?_)
        refine VOps_cons rfl rfl (V_load_agg 0 VT.ty30 rfl rfl rfl ?_)
        refine VOps_cons rfl rfl (V_indexAddr_row VT.sl25 rfl rfl (by omega) (by omega) ?_)
        refine VOps_cons rfl rfl (V_store_elem 1 i VT.ty30 rfl (by simp) rfl rfl rfl rfl (pats_fit cur) (by simp; omega) ?_)
        refine VOps_nil ?_
        refine Then_n ?_
        refine VW_region ?_
        refine VOps_cons rfl rfl (V_move rfl ?_)
        refine VOps_cons rfl rfl (V_add rfl rfl (by omega) ?_)
        refine VOps_cons rfl rfl (V_assign rfl ?_)
        refine VOps_nil ?_
        refine InBlock_n (Then_n ?_)
        refine VW_region ?_
        refine VOps_cons rfl rfl (V_move rfl ?_)
        refine VOps_cons rfl rfl (V_add rfl rfl (by omega) ?_)
        refine VOps_cons rfl rfl (V_assign rfl ?_)
        refine VOps_nil ?_
        refine Then_n ?_
        exact ⟨(i + 1, j + 1, cur.set i v), (by (try simp only []); omega), (by first | exact hA.keep hr h29 | exact hA.skip hr h29), ⟨rfl, rfl, rfl, rfl, trivial⟩, (Drops.drop (Drops.keepE (by first | rfl | (rw [List.map_set, patV_eq]; rfl)) (Drops.refl _)))⟩
      · skip
        refine VW_skip ?_
        refine InBlock_n (Then_n ?_)
        refine VW_region ?_
        refine VOps_cons rfl rfl (V_move rfl ?_)
        refine VOps_cons rfl rfl (V_add rfl rfl (by omega) ?_)
        refine VOps_cons rfl rfl (V_assign rfl ?_)
        refine VOps_nil ?_
        refine Then_n ?_
        exact ⟨(i, j + 1, cur), (by (try simp only []); omega), (by first | exact hA.keep hr h29 | exact hA.skip hr h29), ⟨rfl, rfl, rfl, rfl, trivial⟩, (Drops.drop (Drops.keepE (by first | rfl | (rw [List.map_set, patV_eq]; rfl)) (Drops.refl _)))⟩
    · skip
      obtain ⟨hfin, hil⟩ := hA.fin (by omega)
      refine VW_exit ?_
      refine Then_e (Then_e (InBlock_hit ?_))
      refine Then_n ?_
      refine VW_seq ?_
      refine VW_region ?_
      refine VOps_cons rfl rfl (V_move rfl ?_)
      refine VOps_cons rfl rfl (V_move rfl ?_)
      refine VOps_cons rfl rfl (V_slice_rawFrom VT.sl25 rfl rfl (by omega) (by omega) (by omega) (by omega) ?_)
      refine VOps_cons rfl rfl (V_clear_row 0 VT.sl25 (by decide) rfl rfl (by rw [List.length_append, hfl, List.length_map, Int.toNat_natCast]; omega) (fun r11 rest11 => ?_))
      refine VOps_nil ?_
      refine Then_n ?_
      refine VW_seq ?_
      refine VW_region ?_
      refine VOps_cons rfl rfl (V_move rfl ?_)
      refine VOps_cons rfl rfl (V_move rfl ?_)
      refine VOps_cons rfl rfl (V_slice_rawTo VT.sl25 rfl rfl (by omega) (by omega) ?_)
      refine VOps_cons rfl rfl (V_assign rfl ?_)
      refine VOps_nil ?_
      refine Then_n ?_
      refine VW_ret ?_
      refine VRet_one rfl (.tmp rfl) ?_
      refine ⟨_, Drops.refl _, rest11, by rw [← hil]; simp, ?_⟩
      rw [← hfin]
      simp only [List.set_cons_zero]
      rw [Nat.zero_add, Int.toNat_natCast, flat_take (pats_fit cur) (by simp; omega), List.map_take]


end Go.Proofs.Ytmjeaagpcmfnpaa.W4
