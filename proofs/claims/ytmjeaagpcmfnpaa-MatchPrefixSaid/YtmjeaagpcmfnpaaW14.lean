/- Walks, printed by walk.py. -/
import Derived.Test.YtmjeaagpcmfnpaaVT
import Derived.Test.YtmjeaagpcmfnpaaVDA
import Derived.Test.YtmjeaagpcmfnpaaVB
import Derived.Test.YtmjeaagpcmfnpaaVD8
import Derived.Test.YtmjeaagpcmfnpaaW1
set_option linter.unusedVariables false
set_option linter.unusedSimpArgs false
namespace Go.Proofs.Ytmjeaagpcmfnpaa.W14
open Go.VL Go.PM Go.Proofs.Ytmjeaagpcmfnpaa Go.Proofs.Ytmjeaagpcmfnpaa.W1
set_option maxRecDepth 100000 in
theorem hasInt_c (l : List Nat) (n : Nat) : VPure Try.prog 14 [natsX l, .int n] (.bool (decide (n ∈ l))) := by
  refine V_start (nt := 17) Try.func14 rfl rfl rfl ?_
  refine VW_seq ?_
  refine VW_region ?_
  refine VOps_cons rfl rfl (V_assign rfl ?_)
  refine VOps_nil ?_
  refine Then_n ?_
  refine VW_seq ?_
  refine VW_seq ?_
  refine VW_region ?_
  refine VOps_cons rfl rfl (V_move rfl ?_)
  refine VOps_cons rfl rfl (V_lenN (n := l.length) Try.underlying32 rfl (by simp) (fun hl8 => ?_))
  refine VOps_cons rfl rfl (V_move rfl ?_)
  refine VOps_nil ?_
  refine Then_n ?_
  refine VW_block ?_
  refine VW_loopF (ι := Nat) (fun k => l.length - k) (fun k => [(1, some (.int n)), (7, some (natsX l)), (8, some (.int l.length)), (9, some (.int k))]) (fun k => []) (fun k => k ≤ l.length ∧ n ∉ l.take k) 0 ⟨Nat.zero_le _, by simp⟩ ⟨rfl, rfl, rfl, rfl, trivial⟩ (Drops.nil _) ?_
  rintro k hA
  change k ≤ l.length ∧ n ∉ l.take k at hA
  obtain ⟨hk, hn⟩ := hA
  refine VW_seq ?_
  refine VW_region ?_
  refine VOps_cons rfl rfl (V_bin rfl rfl rfl ?_)
  refine VOps_nil ?_
  refine Then_n ?_
  refine VW_seq ?_
  refine VW_condP rfl (fun h10 => ?_) (fun h10 => ?_)
  · skip
    obtain ⟨x, hx⟩ := get_of_lt l k h10
    refine VW_skip ?_
    refine Then_n ?_
    refine VW_seq ?_
    refine VW_block ?_
    refine VW_seq ?_
    refine VW_region ?_
    refine VOps_cons rfl rfl (V_indexAddr (el := V.int x) VT.sl32 rfl rfl (by omega) (get_nat hx) (fun a11 => ?_))
    refine VOps_cons rfl rfl (V_load_ep VT.ty3 rfl rfl ?_)
    refine VOps_cons rfl rfl (V_assign rfl ?_)
    refine VOps_nil ?_
    refine Then_n ?_
    refine VW_seq ?_
    refine VW_region ?_
    refine VOps_cons rfl rfl (V_move rfl ?_)
    refine VOps_cons rfl rfl (V_move rfl ?_)
    refine VOps_cons rfl rfl (V_bin rfl rfl rfl ?_)
    refine VOps_nil ?_
    refine Then_n ?_
    refine VW_condEq rfl (fun h15 => ?_) (fun h15 => ?_)
    · skip
      refine VW_seq ?_
      refine VW_region ?_
      refine VOps_cons rfl rfl (V_assign rfl ?_)
      refine VOps_nil ?_
      refine Then_n ?_
      refine VW_ret ?_
      refine InBlock_r (Then_r (Then_r (InBlock_r (Then_r (VRet_one rfl (.tmp rfl) ?_)))))
      have hm : n ∈ l := by have := List.mem_of_getElem? hx; rwa [show x = n by omega] at this
      rw [decide_eq_true hm]
    · skip
      refine VW_skip ?_
      refine InBlock_n (Then_n ?_)
      refine VW_region ?_
      refine VOps_cons rfl rfl (V_add rfl rfl (by omega) ?_)
      refine VOps_cons rfl rfl (V_move rfl ?_)
      refine VOps_nil ?_
      refine Then_n ?_
      exact ⟨k + 1, (by (try simp only []); omega), ⟨by omega, by rw [take_snoc hx, List.mem_append, List.mem_singleton]; rintro (h | h); exact hn h; exact h15 (by rw [h])⟩, ⟨rfl, rfl, rfl, rfl, trivial⟩, (Drops.nil _)⟩
  · skip
    have hke : k = l.length := by omega
    subst hke
    rw [List.take_length] at hn
    refine VW_exit ?_
    refine Then_e (Then_e (InBlock_hit ?_))
    refine Then_n ?_
    refine VW_seq ?_
    refine VW_region ?_
    refine VOps_cons rfl rfl (V_assign rfl ?_)
    refine VOps_nil ?_
    refine Then_n ?_
    refine VW_ret ?_
    refine VRet_one rfl (.tmp rfl) ?_
    rw [decide_eq_false hn]


set_option maxRecDepth 100000 in
theorem sameInts_c (l : List Nat) : VPure Try.prog 17 [natsX l, natsX l] (.bool true) := by
  refine V_start (nt := 26) Try.func17 rfl rfl rfl ?_
  refine VW_seq ?_
  refine VW_region ?_
  refine VOps_cons rfl rfl (V_assign rfl ?_)
  refine VOps_nil ?_
  refine Then_n ?_
  refine VW_seq ?_
  refine VW_seq ?_
  refine VW_region ?_
  refine VOps_cons rfl rfl (V_move rfl ?_)
  refine VOps_cons rfl rfl (V_lenN (n := l.length) Try.underlying32 rfl (by simp) (fun hl8 => ?_))
  refine VOps_cons rfl rfl (V_move rfl ?_)
  refine VOps_cons rfl rfl (V_lenN (n := l.length) Try.underlying32 rfl (by simp) (fun hl10 => ?_))
  refine VOps_cons rfl rfl (V_bin rfl rfl rfl ?_)
  refine VOps_nil ?_
  refine Then_n ?_
  refine VW_condNe rfl (fun h11 => ?_) (fun h11 => ?_)
  · exact absurd rfl h11
  · skip
    refine VW_skip ?_
    refine Then_n ?_
    refine VW_seq ?_
    refine VW_seq ?_
    refine VW_region ?_
    refine VOps_cons rfl rfl (V_move rfl ?_)
    refine VOps_cons rfl rfl (V_lenN (n := l.length) Try.underlying32 rfl (by simp) (fun hl13 => ?_))
    refine VOps_cons rfl rfl (V_move rfl ?_)
    refine VOps_nil ?_
    refine Then_n ?_
    refine VW_block ?_
    refine VW_loopF (ι := Nat) (fun k => l.length - k) (fun k => [(1, some (natsX l)), (12, some (natsX l)), (13, some (.int l.length)), (14, some (.int k))]) (fun k => []) (fun k => k ≤ l.length) 0 (Nat.zero_le _) ⟨rfl, rfl, rfl, rfl, trivial⟩ (Drops.nil _) ?_
    rintro k hk
    change k ≤ l.length at hk
    refine VW_seq ?_
    refine VW_region ?_
    refine VOps_cons rfl rfl (V_bin rfl rfl rfl ?_)
    refine VOps_nil ?_
    refine Then_n ?_
    refine VW_seq ?_
    refine VW_condP rfl (fun h15 => ?_) (fun h15 => ?_)
    · skip
      obtain ⟨x, hx⟩ := get_of_lt l k h15
      refine VW_skip ?_
      refine Then_n ?_
      refine VW_seq ?_
      refine VW_block ?_
      refine VW_seq ?_
      refine VW_region ?_
      refine VOps_cons rfl rfl (V_move rfl ?_)
      refine VOps_cons rfl rfl (V_indexAddr (el := V.int x) VT.sl32 rfl rfl (by omega) (get_nat hx) (fun a17 => ?_))
      refine VOps_cons rfl rfl (V_load_ep VT.ty3 rfl rfl ?_)
      refine VOps_cons rfl rfl (V_assign rfl ?_)
      refine VOps_cons rfl rfl (V_assign rfl ?_)
      refine VOps_nil ?_
      refine Then_n ?_
      refine VW_seq ?_
      refine VW_region ?_
      refine VOps_cons rfl rfl (V_move rfl ?_)
      refine VOps_cons rfl rfl (V_move rfl ?_)
      refine VOps_cons rfl rfl (V_indexAddr (el := V.int x) VT.sl32 rfl rfl (by omega) (get_nat hx) (fun a21 => ?_))
      refine VOps_cons rfl rfl (V_load_ep VT.ty3 rfl rfl ?_)
      refine VOps_cons rfl rfl (V_move rfl ?_)
      refine VOps_cons rfl rfl (V_bin rfl rfl rfl ?_)
      refine VOps_nil ?_
      refine Then_n ?_
      refine VW_condNe rfl (fun h24 => ?_) (fun h24 => ?_)
      · exact absurd rfl h24
      · skip
        refine VW_skip ?_
        refine InBlock_n (Then_n ?_)
        refine VW_region ?_
        refine VOps_cons rfl rfl (V_add rfl rfl (by omega) ?_)
        refine VOps_cons rfl rfl (V_move rfl ?_)
        refine VOps_nil ?_
        refine Then_n ?_
        exact ⟨k + 1, (by (try simp only []); omega), (by omega), ⟨rfl, rfl, rfl, rfl, trivial⟩, (Drops.nil _)⟩
    · skip
      refine VW_exit ?_
      refine Then_e (Then_e (InBlock_hit ?_))
      refine Then_n ?_
      refine VW_seq ?_
      refine VW_region ?_
      refine VOps_cons rfl rfl (V_assign rfl ?_)
      refine VOps_nil ?_
      refine Then_n ?_
      refine VW_ret ?_
      refine VRet_one rfl (.tmp rfl) ?_
      rfl


set_option maxRecDepth 100000 in
theorem samePats_step (n : Nat) (ih : ∀ l, cL l < n → VPure Try.prog 16 [patsX l, patsX l] (.bool true)) (l : List Pat) (h : cL l < n + 1) : VPure Try.prog 16 [patsX l, patsX l] (.bool true) := by
  refine V_start (nt := 52) Try.func16 rfl rfl rfl ?_
  refine VW_seq ?_
  refine VW_region ?_
  refine VOps_cons rfl rfl (V_assign rfl ?_)
  refine VOps_nil ?_
  refine Then_n ?_
  refine VW_seq ?_
  refine VW_seq ?_
  refine VW_region ?_
  refine VOps_cons rfl rfl (V_move rfl ?_)
  refine VOps_cons rfl rfl (V_lenN (n := l.length) Try.underlying25 rfl (by simp) (fun hl9 => ?_))
  refine VOps_cons rfl rfl (V_move rfl ?_)
  refine VOps_cons rfl rfl (V_lenN (n := l.length) Try.underlying25 rfl (by simp) (fun hl11 => ?_))
  refine VOps_cons rfl rfl (V_bin rfl rfl rfl ?_)
  refine VOps_nil ?_
  refine Then_n ?_
  refine VW_condNe rfl (fun h12 => ?_) (fun h12 => ?_)
  · exact absurd rfl h12
  · skip
    refine VW_skip ?_
    refine Then_n ?_
    refine VW_seq ?_
    refine VW_seq ?_
    refine VW_region ?_
    refine VOps_cons rfl rfl (V_move rfl ?_)
    refine VOps_cons rfl rfl (V_lenN (n := l.length) Try.underlying25 rfl (by simp) (fun hl14 => ?_))
    refine VOps_cons rfl rfl (V_move rfl ?_)
    refine VOps_nil ?_
    refine Then_n ?_
    refine VW_block ?_
    refine VW_loopF (ι := Nat) (fun k => l.length - k) (fun k => [(1, some (patsX l)), (13, some (patsX l)), (14, some (.int l.length)), (15, some (.int k))]) (fun k => []) (fun k => k ≤ l.length) 0 (Nat.zero_le _) ⟨rfl, rfl, rfl, rfl, trivial⟩ (Drops.nil _) ?_
    rintro k hk
    change k ≤ l.length at hk
    refine VW_seq ?_
    refine VW_region ?_
    refine VOps_cons rfl rfl (V_bin rfl rfl rfl ?_)
    refine VOps_nil ?_
    refine Then_n ?_
    refine VW_seq ?_
    refine VW_condP rfl (fun h16 => ?_) (fun h16 => ?_)
    · skip
      obtain ⟨p, hp⟩ := get_of_lt l k h16
      have hlt := args_lt (List.mem_of_getElem? hp) h
      refine VW_skip ?_
      refine Then_n ?_
      refine VW_seq ?_
      refine VW_block ?_
      refine VW_seq ?_
      refine VW_region ?_
      refine VOps_cons rfl rfl (V_move rfl ?_)
      refine VOps_cons rfl rfl (V_indexAddr (el := patX p) VT.sl25 rfl rfl (by omega) (get_patS hp) (fun a18 => ?_))
      refine VOps_cons rfl rfl (V_load_ep_agg VT.ty30 rfl rfl ?_)
      refine VOps_cons rfl rfl (V_alloc VT.zr30 _ rfl rfl (fun g6 => ?_))
      refine VOps_cons rfl rfl (V_assign rfl ?_)
      refine VOps_cons rfl rfl (V_store_agg 0 VT.ty30 rfl rfl rfl rfl rfl ?_)
      refine VOps_nil ?_
      refine Then_n ?_
      refine VW_seq ?_
      refine VW_region ?_
      refine VOps_cons rfl rfl (V_move rfl ?_)
      refine VOps_cons rfl rfl (V_move rfl ?_)
      refine VOps_cons rfl rfl (V_indexAddr (el := patX p) VT.sl25 rfl rfl (by omega) (get_patS hp) (fun a22 => ?_))
      refine VOps_cons rfl rfl (V_load_ep_agg VT.ty30 rfl rfl ?_)
      refine VOps_cons rfl rfl (V_alloc VT.zr30 _ rfl rfl (fun g7 => ?_))
      refine VOps_cons rfl rfl (V_store_agg 0 VT.ty30 rfl rfl rfl rfl rfl ?_)
      refine VOps_nil ?_
      refine Then_n ?_
      refine VW_seq ?_
      refine VW_region ?_
      refine VOps_cons rfl rfl (V_fieldAddr VT.fa30_0 rfl ?_)
      refine VOps_cons rfl rfl (V_load 1 VT.ty3 rfl rfl rfl ?_)
      refine VOps_cons rfl rfl (V_fieldAddr VT.fa30_0 rfl ?_)
      refine VOps_cons rfl rfl (V_load 0 VT.ty3 rfl rfl rfl ?_)
      refine VOps_cons rfl rfl (V_bin rfl rfl rfl ?_)
      refine VOps_cons rfl rfl (V_move rfl ?_)
      refine VOps_split (q := 29) rfl (fun hq29 => ?_) (fun hq29 => ?_)
      · exact absurd hq29 (by simp)
      · skip
        refine VOps_cons (want_of rfl rfl rfl hq29) rfl (V_fieldAddr VT.fa30_1 rfl ?_)
        refine VOps_cons (want_of rfl rfl rfl hq29) rfl (V_load 1 VT.ty9 rfl rfl rfl ?_)
        refine VOps_cons (want_of rfl rfl rfl hq29) rfl (V_fieldAddr VT.fa30_1 rfl ?_)
        refine VOps_cons (want_of rfl rfl rfl hq29) rfl (V_load 0 VT.ty9 rfl rfl rfl ?_)
        refine VOps_cons (want_of rfl rfl rfl hq29) rfl (V_strne rfl rfl ?_)
        refine VOps_cons rfl rfl (V_pickF rfl hq29 rfl ?_)
        refine VOps_cons rfl rfl (V_move rfl ?_)
        refine VOps_split (q := 36) rfl (fun hq36 => ?_) (fun hq36 => ?_)
        · exact absurd hq36 (by simp)
        · skip
          refine VOps_cons (want_of rfl rfl rfl hq36) rfl (V_fieldAddr VT.fa30_2 rfl ?_)
          refine VOps_cons (want_of rfl rfl rfl hq36) rfl (V_load 1 VT.ty3 rfl rfl rfl ?_)
          refine VOps_cons (want_of rfl rfl rfl hq36) rfl (V_fieldAddr VT.fa30_2 rfl ?_)
          refine VOps_cons (want_of rfl rfl rfl hq36) rfl (V_load 0 VT.ty3 rfl rfl rfl ?_)
          refine VOps_cons (want_of rfl rfl rfl hq36) rfl (V_bin rfl rfl rfl ?_)
          refine VOps_cons rfl rfl (V_pickF rfl hq36 rfl ?_)
          refine VOps_cons rfl rfl (V_move rfl ?_)
          refine VOps_split (q := 43) rfl (fun hq43 => ?_) (fun hq43 => ?_)
          · exact absurd hq43 (by simp)
          · skip
            refine VOps_cons (want_of rfl rfl rfl hq43) rfl (V_fieldAddr VT.fa30_3 rfl ?_)
            refine VOps_cons (want_of rfl rfl rfl hq43) rfl (V_load 1 VT.ty25 rfl rfl rfl ?_)
            refine VOps_cons (want_of rfl rfl rfl hq43) rfl (V_fieldAddr VT.fa30_3 rfl ?_)
            refine VOps_cons (want_of rfl rfl rfl hq43) rfl (V_load 0 VT.ty25 rfl rfl rfl ?_)
            refine VOps_cons (want_of rfl rfl rfl hq43) rfl (V_callP [.tmp 45, .tmp 47] rfl rfl VT.en16 (ih p.args hlt) ?_)
            refine VOps_cons (want_of rfl rfl rfl hq43) rfl (V_not rfl ?_)
            refine VOps_cons rfl rfl (V_pickF rfl hq43 rfl ?_)
            refine VOps_nil ?_
            refine Then_n ?_
            refine VW_condF rfl (rfl) ?_
            refine VW_skip ?_
            refine InBlock_n (Then_n ?_)
            refine VW_region ?_
            refine VOps_cons rfl rfl (V_add rfl rfl (by omega) ?_)
            refine VOps_cons rfl rfl (V_move rfl ?_)
            refine VOps_nil ?_
            refine Then_n ?_
            exact ⟨k + 1, (by (try simp only []); omega), (by omega), ⟨rfl, rfl, rfl, rfl, trivial⟩, (Drops.nil _)⟩
    · skip
      refine VW_exit ?_
      refine Then_e (Then_e (InBlock_hit ?_))
      refine Then_n ?_
      refine VW_seq ?_
      refine VW_region ?_
      refine VOps_cons rfl rfl (V_assign rfl ?_)
      refine VOps_nil ?_
      refine Then_n ?_
      refine VW_ret ?_
      refine VRet_one rfl (.tmp rfl) ?_
      rfl


theorem samePats_c : ∀ (n : Nat) (l : List Pat), cL l < n → VPure Try.prog 16 [patsX l, patsX l] (.bool true)
  | 0, l, h => absurd h (Nat.not_lt_zero _)
  | n + 1, l, h => samePats_step n (fun l h => samePats_c n l h) l h

set_option maxRecDepth 100000 in
set_option maxHeartbeats 2000000 in
theorem plain_step (n : Nat) (ih : ∀ l, cL l < n → cL l ≤ 400 → VPure Try.prog 15 [patsX l] (patsX (plainL l))) (l : List Pat) (h : cL l < n + 1) (h4 : cL l ≤ 400) : VPure Try.prog 15 [patsX l] (patsX (plainL l)) := by
  refine V_start (nt := 26) Try.func15 rfl rfl rfl ?_
  refine VW_seq ?_
  refine VW_region ?_
  refine VOps_cons rfl rfl (V_assign rfl ?_)
  refine VOps_nil ?_
  refine Then_n ?_
  refine VW_seq ?_
  refine VW_region ?_
  refine VOps_cons rfl rfl (V_assign_nil 30 4 ?_)
  refine VOps_nil ?_
  refine Then_n ?_
  refine VW_seq ?_
  refine VW_seq ?_
  refine VW_region ?_
  refine VOps_cons rfl rfl (V_move rfl ?_)
  refine VOps_cons rfl rfl (V_lenN (n := l.length) Try.underlying25 rfl (by simp) (fun hl7 => ?_))
  refine VOps_cons rfl rfl (V_move rfl ?_)
  refine VOps_nil ?_
  refine Then_n ?_
  refine VW_block ?_
  refine VW_loopF (ι := Nat × Tok) (fun (k, tk) => l.length - k) (fun (k, tk) => [(3, some (.sl 4 (some tk) ((plainL (l.take k)).map patV))), (6, some (patsX l)), (7, some (.int l.length)), (8, some (.int k))]) (fun (k, tk) => [.buf tk 30 4 (plainL (l.take k)).length]) (fun (k, tk) => k ≤ l.length) (0, .nil) (by simp) ⟨rfl, rfl, rfl, rfl, trivial⟩ (Drops.buf rfl (Drops.refl _)) ?_
  rintro ⟨k, tk⟩ hk
  change k ≤ l.length at hk
  refine VW_seq ?_
  refine VW_region ?_
  refine VOps_cons rfl rfl (V_bin rfl rfl rfl ?_)
  refine VOps_nil ?_
  refine Then_n ?_
  refine VW_seq ?_
  refine VW_condP rfl (fun h9 => ?_) (fun h9 => ?_)
  · skip
    obtain ⟨p, hp⟩ := get_of_lt l k h9
    have hpm := List.mem_of_getElem? hp
    have hlt := args_lt hpm h
    have h5 := cP_mem hpm
    have h6 := cP_eq p
    have hll := len_le_cL l
    have hsn : plainL (l.take (k + 1)) = plainL (l.take k) ++ [plainP p] := by rw [take_snoc hp, plain_append, plainL, plainL]
    have hpl := plain_len (l.take k)
    rw [List.length_take] at hpl
    refine VW_skip ?_
    refine Then_n ?_
    refine VW_seq ?_
    refine VW_block ?_
    refine VW_seq ?_
    refine VW_region ?_
    refine VOps_cons rfl rfl (V_indexAddr (el := patX p) VT.sl25 rfl rfl (by omega) (get_patS hp) (fun a10 => ?_))
    refine VOps_cons rfl rfl (V_load_ep_agg VT.ty30 rfl rfl ?_)
    refine VOps_cons rfl rfl (V_alloc VT.zr30 _ rfl rfl (fun g5 => ?_))
    refine VOps_cons rfl rfl (V_store_agg 0 VT.ty30 rfl rfl rfl rfl rfl ?_)
    refine VOps_nil ?_
    refine Then_n ?_
    refine VW_seq ?_
    refine VW_seq ?_
    refine VW_region ?_
    refine VOps_cons rfl rfl (V_fieldAddr VT.fa30_0 rfl ?_)
    refine VOps_cons rfl rfl (V_load 0 VT.ty3 rfl rfl rfl ?_)
    rcases Decidable.em (p.kind = 1) with h14 | h14
    · skip
      have hpp : plainP p = .mk 0 [] 0 [] := by rw [plainP_eq, if_pos h14]
      refine VOps_cons rfl rfl (V_bin rfl rfl rfl ?_)
      refine VOps_nil ?_
      refine Then_n ?_
      refine VW_condT rfl ((decide_eq_true h14)) ?_
      refine VW_region ?_
      refine VOps_cons rfl rfl (V_build [] [] VT.st30 rfl rfl rfl rfl ?_)
      refine VOps_cons rfl rfl (V_store_agg 0 VT.ty30 rfl rfl rfl rfl rfl ?_)
      refine VOps_nil ?_
      refine Then_n ?_
      refine VW_seq ?_
      refine VW_region ?_
      refine VOps_cons rfl rfl (V_fieldAddr VT.fa30_3 rfl ?_)
      refine VOps_cons rfl rfl (VOp_as (V_load 0 VT.ty25 rfl rfl rfl ⟨rfl, rfl⟩) (V.le.nil 4) ?_)
      refine VOps_cons rfl rfl (V_callP [.tmp 17] rfl rfl VT.en15 ((ih [] (by simp only [cL]; omega) (by simp only [cL]; omega) : VPure Try.prog 15 [patsX []] (patsX (plainL [])))) ?_)
      refine VOps_cons rfl rfl (V_fieldAddr VT.fa30_3 rfl ?_)
      refine VOps_cons rfl rfl (V_store 0 VT.ty25 rfl rfl rfl rfl rfl ?_)
      refine VOps_nil ?_
      refine Then_n ?_
      refine VW_region ?_
      refine VOps_cons rfl rfl (V_move rfl ?_)
      refine VOps_cons rfl rfl (V_load_agg 0 VT.ty30 rfl rfl rfl ?_)
      refine VOps_cons rfl rfl (V_lit [.tmp 21] VT.sl25 rfl rfl rfl rfl rfl ?_)
      refine VOps_cons rfl rfl (V_appendN 1 _ VT.sl25 rfl rfl rfl (by simp) (by simp; omega) (fun t23 => ?_))
      refine VOps_cons rfl rfl (V_assign rfl ?_)
      refine VOps_nil ?_
      refine InBlock_n (Then_n ?_)
      refine VW_region ?_
      refine VOps_cons rfl rfl (V_add rfl rfl (by omega) ?_)
      refine VOps_cons rfl rfl (V_move rfl ?_)
      refine VOps_nil ?_
      refine Then_n ?_
      exact ⟨(k + 1, t23), (by (try simp only []); omega), (by omega), ⟨(by rw [hsn, List.map_append, List.map_singleton, patV_eq, hpp]; rfl), rfl, rfl, rfl, trivial⟩, (Drops.drop (Drops.buf (by rw [hsn]; simp) (Drops.refl _)))⟩
    · skip
      have hpp : plainP p = .mk p.kind p.name p.n (plainL p.args) := by rw [plainP_eq, if_neg h14]
      refine VOps_cons rfl rfl (V_bin rfl rfl rfl ?_)
      refine VOps_nil ?_
      refine Then_n ?_
      refine VW_condF rfl ((decide_eq_false h14)) ?_
      refine VW_skip ?_
      refine Then_n ?_
      refine VW_seq ?_
      refine VW_region ?_
      refine VOps_cons rfl rfl (V_fieldAddr VT.fa30_3 rfl ?_)
      refine VOps_cons rfl rfl (V_load 0 VT.ty25 rfl rfl rfl ?_)
      refine VOps_cons rfl rfl (V_callP [.tmp 17] rfl rfl VT.en15 (ih p.args hlt (by omega)) ?_)
      refine VOps_cons rfl rfl (V_fieldAddr VT.fa30_3 rfl ?_)
      refine VOps_cons rfl rfl (V_store 0 VT.ty25 rfl rfl rfl rfl rfl ?_)
      refine VOps_nil ?_
      refine Then_n ?_
      refine VW_region ?_
      refine VOps_cons rfl rfl (V_move rfl ?_)
      refine VOps_cons rfl rfl (V_load_agg 0 VT.ty30 rfl rfl rfl ?_)
      refine VOps_cons rfl rfl (V_lit [.tmp 21] VT.sl25 rfl rfl rfl rfl rfl ?_)
      refine VOps_cons rfl rfl (V_appendN 1 _ VT.sl25 rfl rfl rfl (by simp) (by simp; omega) (fun t23 => ?_))
      refine VOps_cons rfl rfl (V_assign rfl ?_)
      refine VOps_nil ?_
      refine InBlock_n (Then_n ?_)
      refine VW_region ?_
      refine VOps_cons rfl rfl (V_add rfl rfl (by omega) ?_)
      refine VOps_cons rfl rfl (V_move rfl ?_)
      refine VOps_nil ?_
      refine Then_n ?_
      exact ⟨(k + 1, t23), (by (try simp only []); omega), (by omega), ⟨(by rw [hsn, List.map_append, List.map_singleton, patV_eq, hpp]; rfl), rfl, rfl, rfl, trivial⟩, (Drops.drop (Drops.buf (by rw [hsn]; simp) (Drops.refl _)))⟩
  · skip
    refine VW_exit ?_
    refine Then_e (Then_e (InBlock_hit ?_))
    refine Then_n ?_
    refine VW_seq ?_
    refine VW_region ?_
    refine VOps_cons rfl rfl (V_move rfl ?_)
    refine VOps_cons rfl rfl (V_assign rfl ?_)
    refine VOps_nil ?_
    refine Then_n ?_
    refine VW_ret ?_
    refine VRet_one rfl (.strip rfl) ?_
    rw [take_end h9]


theorem plain_c : ∀ (n : Nat) (l : List Pat), cL l < n → cL l ≤ 400 → VPure Try.prog 15 [patsX l] (patsX (plainL l))
  | 0, l, h, _ => absurd h (Nat.not_lt_zero _)
  | n + 1, l, h, h4 => plain_step n (fun l h h4 => plain_c n l h h4) l h h4

set_option maxRecDepth 100000 in
theorem nodes_step (n : Nat) (ih : ∀ l, cL l < n → cL l ≤ 400 → VPure Try.prog 19 [patsX l] (.int (cL l))) (l : List Pat) (h : cL l < n + 1) (h4 : cL l ≤ 400) : VPure Try.prog 19 [patsX l] (.int (cL l)) := by
  refine V_start (nt := 21) Try.func19 rfl rfl rfl ?_
  refine VW_seq ?_
  refine VW_region ?_
  refine VOps_cons rfl rfl (V_assign rfl ?_)
  refine VOps_nil ?_
  refine Then_n ?_
  refine VW_seq ?_
  refine VW_region ?_
  refine VOps_cons rfl rfl (V_move rfl ?_)
  refine VOps_cons rfl rfl (V_lenN (n := l.length) Try.underlying25 rfl (by simp) (fun hl7 => ?_))
  refine VOps_cons rfl rfl (V_assign rfl ?_)
  refine VOps_nil ?_
  refine Then_n ?_
  refine VW_seq ?_
  refine VW_seq ?_
  refine VW_region ?_
  refine VOps_cons rfl rfl (V_move rfl ?_)
  refine VOps_cons rfl rfl (V_lenN (n := l.length) Try.underlying25 rfl (by simp) (fun hl9 => ?_))
  refine VOps_cons rfl rfl (V_move rfl ?_)
  refine VOps_nil ?_
  refine Then_n ?_
  refine VW_block ?_
  refine VW_loopF (ι := Nat) (fun k => l.length - k) (fun k => [(3, some (.int ((l.length : Int) + cL (l.take k) - k))), (8, some (patsX l)), (9, some (.int l.length)), (10, some (.int k))]) (fun k => []) (fun k => k ≤ l.length) 0 (Nat.zero_le _) ⟨(by simp [cL]; rfl), rfl, rfl, rfl, trivial⟩ (Drops.nil _) ?_
  rintro k hk
  change k ≤ l.length at hk
  refine VW_seq ?_
  refine VW_region ?_
  refine VOps_cons rfl rfl (V_bin rfl rfl rfl ?_)
  refine VOps_nil ?_
  refine Then_n ?_
  refine VW_seq ?_
  refine VW_condP rfl (fun h11 => ?_) (fun h11 => ?_)
  · skip
    obtain ⟨p, hp⟩ := get_of_lt l k h11
    have hpm := List.mem_of_getElem? hp
    have hlt := args_lt hpm h
    have h5 := cP_mem hpm
    have h6 := cP_eq p
    have hll := len_le_cL l
    have hct := cL_take l k
    have hsn : cL (l.take (k + 1)) = cL (l.take k) + cP p := by rw [take_snoc hp, cL_append]; simp [cL]
    refine VW_skip ?_
    refine Then_n ?_
    refine VW_seq ?_
    refine VW_block ?_
    refine VW_seq ?_
    refine VW_region ?_
    refine VOps_cons rfl rfl (V_indexAddr (el := patX p) VT.sl25 rfl rfl (by omega) (get_patS hp) (fun a12 => ?_))
    refine VOps_cons rfl rfl (V_load_ep_agg VT.ty30 rfl rfl ?_)
    refine VOps_cons rfl rfl (V_alloc VT.zr30 _ rfl rfl (fun g5 => ?_))
    refine VOps_cons rfl rfl (V_store_agg 0 VT.ty30 rfl rfl rfl rfl rfl ?_)
    refine VOps_nil ?_
    refine Then_n ?_
    refine VW_region ?_
    refine VOps_cons rfl rfl (V_move rfl ?_)
    refine VOps_cons rfl rfl (V_fieldAddr VT.fa30_3 rfl ?_)
    refine VOps_cons rfl rfl (V_load 0 VT.ty25 rfl rfl rfl ?_)
    refine VOps_cons rfl rfl (V_callP [.tmp 16] rfl rfl VT.en19 (ih p.args hlt (by omega)) ?_)
    refine VOps_cons rfl rfl (V_add rfl rfl (by omega) ?_)
    refine VOps_cons rfl rfl (V_assign rfl ?_)
    refine VOps_nil ?_
    refine InBlock_n (Then_n ?_)
    refine VW_region ?_
    refine VOps_cons rfl rfl (V_add rfl rfl (by omega) ?_)
    refine VOps_cons rfl rfl (V_move rfl ?_)
    refine VOps_nil ?_
    refine Then_n ?_
    exact ⟨k + 1, (by (try simp only []); omega), (by omega), ⟨(by rw [show ((l.length : Int) + cL (l.take (k + 1)) - ((k + 1 : Nat) : Int)) = ((l.length : Int) + cL (l.take k) - k) + cL p.args by omega]; rfl), rfl, rfl, rfl, trivial⟩, (Drops.nil _)⟩
  · skip
    have hke : k = l.length := by omega
    refine VW_exit ?_
    refine Then_e (Then_e (InBlock_hit ?_))
    refine Then_n ?_
    refine VW_seq ?_
    refine VW_region ?_
    refine VOps_cons rfl rfl (V_move rfl ?_)
    refine VOps_cons rfl rfl (V_assign rfl ?_)
    refine VOps_nil ?_
    refine Then_n ?_
    refine VW_ret ?_
    refine VRet_one rfl (.tmp rfl) ?_
    rw [hke, List.take_length]
    congr 2; omega


theorem nodes_c : ∀ (n : Nat) (l : List Pat), cL l < n → cL l ≤ 400 → VPure Try.prog 19 [patsX l] (.int (cL l))
  | 0, l, h, _ => absurd h (Nat.not_lt_zero _)
  | n + 1, l, h, h4 => nodes_step n (fun l h h4 => nodes_c n l h h4) l h h4

end Go.Proofs.Ytmjeaagpcmfnpaa.W14
