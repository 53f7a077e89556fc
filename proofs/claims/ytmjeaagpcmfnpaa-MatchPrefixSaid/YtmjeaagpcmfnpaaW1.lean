/- Walks, printed by walk.py. -/
import Derived.Test.YtmjeaagpcmfnpaaVT
import Derived.Test.YtmjeaagpcmfnpaaVDA
import Derived.Test.YtmjeaagpcmfnpaaVB
set_option linter.unusedVariables false
set_option linter.unusedSimpArgs false
namespace Go.Proofs.Ytmjeaagpcmfnpaa.W1
open Go.VL Go.PM Go.Proofs.Ytmjeaagpcmfnpaa 

theorem first_snoc (l : List (List Pat)) (p : Pat) (tl : List Pat) : first (l ++ [p :: tl]) = first l ++ (if free p then [] else [p]) := by
  unfold first
  rw [List.filterMap_append]
  by_cases hf : free p = true <;> simp [hf]
theorem first_len (rows : List (List Pat)) : (first rows).length ≤ rows.length := List.length_filterMap_le _ _

def SizeSpec (n : Nat) : Prop := ∀ (l : List Pat) (deep many : Int) (g : Nat) (T : TypeId), deep = 21 - (n : Int) → n ≤ 21 → 0 ≤ many → many ≤ 400 → VCalls Try.prog 70 [patsX l, .int deep, .ptr g 0] [.cells g T [.int many]] fun r S' => r = .bool (sizeF n l many).1 ∧ S' = [.cells g T [.int (sizeF n l many).2]]

set_option maxRecDepth 100000 in
theorem free_c (p : Pat) : VPure Try.prog 48 [patX p] (.bool (free p)) := by
  refine V_start (nt := 11) Try.func48 rfl rfl rfl ?_
  refine VW_seq ?_
  refine VW_region ?_
  refine VOps_cons rfl rfl (V_box rfl rfl (fun g1 => ?_))
  refine VOps_cons rfl rfl (V_assign rfl ?_)
  refine VOps_nil ?_
  refine Then_n ?_
  refine VW_seq ?_
  refine VW_region ?_
  refine VOps_cons rfl rfl (V_fieldAddr VT.fa30_0 rfl ?_)
  refine VOps_cons rfl rfl (V_load 0 VT.ty3 rfl rfl rfl ?_)
  refine VOps_cons rfl rfl (V_bin rfl rfl rfl ?_)
  refine VOps_cons rfl rfl (V_move rfl ?_)
  refine VOps_split (q := 6) rfl (fun hq6 => ?_) (fun hq6 => ?_)
  · skip
    refine VOps_skipU (.inl (skip_of rfl rfl rfl hq6)) rfl ?_
    refine VOps_skipU (.inl (skip_of rfl rfl rfl hq6)) rfl ?_
    refine VOps_skipU (.inl (skip_of rfl rfl rfl hq6)) rfl ?_
    refine VOps_cons rfl rfl (V_pickT rfl hq6 rfl ?_)
    refine VOps_cons rfl rfl (V_assign rfl ?_)
    refine VOps_nil ?_
    refine Then_n ?_
    refine VW_ret ?_
    refine VRet_one rfl (.tmp rfl) ?_
    have hk := hq6
    simp at hk
    simp [free, hk]
  · skip
    refine VOps_cons (want_of rfl rfl rfl hq6) rfl (V_fieldAddr VT.fa30_0 rfl ?_)
    refine VOps_cons (want_of rfl rfl rfl hq6) rfl (V_load 0 VT.ty3 rfl rfl rfl ?_)
    refine VOps_cons (want_of rfl rfl rfl hq6) rfl (V_bin rfl rfl rfl ?_)
    refine VOps_cons rfl rfl (V_pickF rfl hq6 rfl ?_)
    refine VOps_cons rfl rfl (V_assign rfl ?_)
    refine VOps_nil ?_
    refine Then_n ?_
    refine VW_ret ?_
    refine VRet_one rfl (.tmp rfl) ?_
    have hk := hq6
    simp at hk
    simp [free, hk]


set_option maxRecDepth 100000 in
theorem first_c (rows : List (List Pat)) (hne : ∀ r ∈ rows, r ≠ []) (hl : rows.length ≤ 1000000) : VPure Try.prog 42 [rowsX rows] (patsX (first rows)) := by
  refine V_start (nt := 25) Try.func42 rfl rfl rfl ?_
  refine VW_seq ?_
  refine VW_region ?_
  refine VOps_cons rfl rfl (V_assign rfl ?_)
  refine VOps_nil ?_
  refine Then_n ?_
  refine VW_seq ?_
  refine VW_region ?_
  refine VOps_cons rfl rfl (V_assign_nil 30 4 ?_)
  refine VOps_nil ?_
  refine Then_n ?_
  refine VW_seq ?_
  refine VW_seq ?_
  refine VW_region ?_
  refine VOps_cons rfl rfl (V_move rfl ?_)
  refine VOps_cons rfl rfl (V_lenN (n := rows.length) Try.underlying23 rfl (by simp) (fun hl7 => ?_))
  refine VOps_cons rfl rfl (V_move rfl ?_)
  refine VOps_nil ?_
  refine Then_n ?_
  refine VW_block ?_
  refine VW_loopF (ι := Nat × Tok) (fun (k, t) => rows.length - k) (fun (k, t) => [(3, some (.sl 4 (some t) ((first (rows.take k)).map patV))), (6, some (rowsX rows)), (7, some (.int rows.length)), (8, some (.int k))]) (fun (k, t) => [.buf t 30 4 (first (rows.take k)).length]) (fun (k, t) => k ≤ rows.length) (0, .nil) (by simp) ⟨(by simp [first]; rfl), rfl, rfl, rfl, trivial⟩ (Drops.buf (by simp [first]) (Drops.refl _)) ?_
  rintro ⟨k, t⟩ hk
  change k ≤ rows.length at hk
  refine VW_seq ?_
  refine VW_region ?_
  refine VOps_cons rfl rfl (V_bin rfl rfl rfl ?_)
  refine VOps_nil ?_
  refine Then_n ?_
  refine VW_seq ?_
  refine VW_condP rfl (fun h9 => ?_) (fun h9 => ?_)
  · skip
    obtain ⟨r, hr⟩ := get_of_lt rows k h9
    obtain ⟨p, tl, rfl⟩ := List.exists_cons_of_ne_nil (hne _ (List.mem_of_getElem? hr))
    refine VW_skip ?_
    refine Then_n ?_
    refine VW_seq ?_
    refine VW_block ?_
    refine VW_seq ?_
    refine VW_region ?_
    refine VOps_cons rfl rfl (V_indexAddr (el := patsX (p :: tl)) VT.sl23 rfl rfl (by omega) (get_mapS _ hr) (fun a10 => ?_))
    refine VOps_cons rfl rfl (V_load_ep VT.ty25 rfl rfl ?_)
    refine VOps_cons rfl rfl (V_assign rfl ?_)
    refine VOps_nil ?_
    refine Then_n ?_
    refine VW_seq ?_
    refine VW_region ?_
    refine VOps_cons rfl rfl (V_move rfl ?_)
    refine VOps_cons rfl rfl (V_indexAddr (el := patX p) VT.sl25 rfl rfl (by omega) (get_patS rfl) (fun a13 => ?_))
    refine VOps_cons rfl rfl (V_load_ep_agg VT.ty30 rfl rfl ?_)
    refine VOps_cons rfl rfl (V_callP [.tmp 14] rfl rfl VT.en48 (free_c _) ?_)
    refine VOps_cons rfl rfl (V_not rfl ?_)
    refine VOps_nil ?_
    refine Then_n ?_
    refine VW_condN rfl (fun h16 => ?_) (fun h16 => ?_)
    · skip
      refine VW_region ?_
      refine VOps_cons rfl rfl (V_move rfl ?_)
      refine VOps_cons rfl rfl (V_move rfl ?_)
      refine VOps_cons rfl rfl (V_indexAddr (el := patX p) VT.sl25 rfl rfl (by omega) (get_patS rfl) (fun a19 => ?_))
      refine VOps_cons rfl rfl (V_load_ep_agg VT.ty30 rfl rfl ?_)
      refine VOps_cons rfl rfl (V_lit [.tmp 20] VT.sl25 rfl rfl rfl rfl rfl ?_)
      refine VOps_cons rfl rfl (V_appendN 0 _ VT.sl25 rfl rfl rfl (by simp) (by have := first_len (rows.take k); simp at this ⊢; omega) (fun t22 => ?_))
      refine VOps_cons rfl rfl (V_assign rfl ?_)
      refine VOps_nil ?_
      refine InBlock_n (Then_n ?_)
      refine VW_region ?_
      refine VOps_cons rfl rfl (V_add rfl rfl (by omega) ?_)
      refine VOps_cons rfl rfl (V_move rfl ?_)
      refine VOps_nil ?_
      refine Then_n ?_
      exact ⟨(k + 1, t22), (by (try simp only []); omega), (by omega), ⟨(by rw [take_snoc hr, first_snoc]; simp [h16, patV_eq]; rfl), rfl, rfl, rfl, trivial⟩, (Drops.buf (by rw [take_snoc hr, first_snoc]; simp [h16]) (Drops.refl _))⟩
    · skip
      refine VW_skip ?_
      refine InBlock_n (Then_n ?_)
      refine VW_region ?_
      refine VOps_cons rfl rfl (V_add rfl rfl (by omega) ?_)
      refine VOps_cons rfl rfl (V_move rfl ?_)
      refine VOps_nil ?_
      refine Then_n ?_
      exact ⟨(k + 1, t), (by (try simp only []); omega), (by omega), ⟨(by rw [take_snoc hr, first_snoc]; simp [h16, patV_eq]; rfl), rfl, rfl, rfl, trivial⟩, (Drops.buf (by rw [take_snoc hr, first_snoc]; simp [h16]) (Drops.refl _))⟩
  · skip
    refine VW_exit ?_
    refine Then_e (Then_e (InBlock_hit ?_))
    refine Then_n ?_
    refine VW_seq ?_
    refine VW_region ?_
    refine VOps_cons rfl rfl (V_move rfl ?_)
    refine VOps_cons rfl rfl (V_assign rfl ?_)
    refine VOps_nil ?_
    refine Then_n ?_
    refine VW_ret ?_
    refine VRet_one rfl (.strip rfl) ?_
    rw [take_end h9]


set_option maxRecDepth 100000 in
theorem size_step (n : Nat) (ih : ∀ k, k < n → SizeSpec k) : SizeSpec n := by
  intro l deep many g T hd hn h0 h4
  refine VCalls_drops ?_
  refine V_start (nt := 39) Try.func70 rfl rfl rfl ?_
  refine VW_seq ?_
  refine VW_region ?_
  refine VOps_cons rfl rfl (V_assign rfl ?_)
  refine VOps_nil ?_
  refine Then_n ?_
  refine VW_seq ?_
  refine VW_seq ?_
  refine VW_region ?_
  refine VOps_cons rfl rfl (V_move rfl ?_)
  refine VOps_cons rfl rfl (V_bin rfl rfl rfl ?_)
  refine VOps_nil ?_
  refine Then_n ?_
  refine VW_condP rfl (fun h10 => ?_) (fun h10 => ?_)
  · skip
    have hn0 : n = 0 := by omega
    subst hn0
    refine VW_seq ?_
    refine VW_region ?_
    refine VOps_cons rfl rfl (V_move rfl ?_)
    refine VOps_cons rfl rfl (V_lenN (n := l.length) Try.underlying25 rfl (by simp) (fun hl12 => ?_))
    refine VOps_cons rfl rfl (V_bin rfl rfl rfl ?_)
    refine VOps_cons rfl rfl (V_assign rfl ?_)
    refine VOps_nil ?_
    refine Then_n ?_
    refine VW_ret ?_
    refine Then_r (VRet_one rfl (.tmp rfl) ?_)
    exact ⟨_, Drops.refl _, by simp [sizeF, natbeq], by simp [sizeF]⟩
  · skip
    obtain ⟨n, rfl⟩ : ∃ q, n = q + 1 := ⟨n - 1, by omega⟩
    refine VW_skip ?_
    refine Then_n ?_
    refine VW_seq ?_
    refine VW_seq ?_
    refine VW_region ?_
    refine VOps_cons rfl rfl (V_move rfl ?_)
    refine VOps_cons rfl rfl (V_lenN (n := l.length) Try.underlying25 rfl (by simp) (fun hl15 => ?_))
    refine VOps_cons rfl rfl (V_move rfl ?_)
    refine VOps_nil ?_
    refine Then_n ?_
    refine VW_block ?_
    refine VW_loopF (ι := Nat × Int) (fun (k, q) => l.length - k) (fun (k, q) => [(1, some (.int deep)), (2, some (.ptr g 0)), (14, some (patsX l)), (15, some (.int l.length)), (16, some (.int k))]) (fun (k, q) => [.cells g T [.int q]]) (fun (k, q) => k ≤ l.length ∧ 0 ≤ q ∧ q ≤ 400 ∧ sizeLoop (sizeF n) (l.drop k) q = sizeF (n + 1) l many) (0, many) ⟨Nat.zero_le _, h0, h4, rfl⟩ ⟨rfl, rfl, rfl, rfl, rfl, trivial⟩ (Drops.refl _) ?_
    rintro ⟨k, q⟩ hA
    change k ≤ l.length ∧ 0 ≤ q ∧ q ≤ 400 ∧ sizeLoop (sizeF n) (l.drop k) q = sizeF (n + 1) l many at hA
    obtain ⟨hk, q0, q4, hq⟩ := hA
    refine VW_seq ?_
    refine VW_region ?_
    refine VOps_cons rfl rfl (V_bin rfl rfl rfl ?_)
    refine VOps_nil ?_
    refine Then_n ?_
    refine VW_seq ?_
    refine VW_condP rfl (fun h17 => ?_) (fun h17 => ?_)
    · skip
      obtain ⟨p, hr⟩ := get_of_lt l k h17
      refine VW_skip ?_
      refine Then_n ?_
      refine VW_seq ?_
      refine VW_block ?_
      refine VW_seq ?_
      refine VW_region ?_
      refine VOps_cons rfl rfl (V_indexAddr (el := patX p) VT.sl25 rfl rfl (by omega) (get_patS hr) (fun a18 => ?_))
      refine VOps_cons rfl rfl (V_load_ep_agg VT.ty30 rfl rfl ?_)
      refine VOps_cons rfl rfl (V_alloc VT.zr30 _ rfl rfl (fun g8 => ?_))
      refine VOps_cons rfl rfl (V_store_agg 0 VT.ty30 rfl rfl rfl rfl rfl ?_)
      refine VOps_nil ?_
      refine Then_n ?_
      refine VW_seq ?_
      refine VW_region ?_
      refine VOps_cons rfl rfl (V_move rfl ?_)
      refine VOps_cons rfl rfl (V_nilCheck rfl ?_)
      refine VOps_cons rfl rfl (V_load 1 VT.ty3 rfl rfl rfl ?_)
      refine VOps_cons rfl rfl (V_add rfl rfl (by omega) ?_)
      refine VOps_cons rfl rfl (V_nilCheck rfl ?_)
      refine VOps_cons rfl rfl (V_store 1 VT.ty3 rfl rfl rfl rfl rfl ?_)
      refine VOps_nil ?_
      refine Then_n ?_
      refine VW_seq ?_
      refine VW_region ?_
      refine VOps_cons rfl rfl (V_move rfl ?_)
      refine VOps_cons rfl rfl (V_nilCheck rfl ?_)
      refine VOps_cons rfl rfl (V_load 1 VT.ty3 rfl rfl rfl ?_)
      refine VOps_cons rfl rfl (V_bin rfl rfl rfl ?_)
      refine VOps_cons rfl rfl (V_move rfl ?_)
      refine VOps_split (q := 29) rfl (fun hq29 => ?_) (fun hq29 => ?_)
      · skip
        have hm : q + 1 > 400 := by simpa using hq29
        refine VOps_skipU (.inl (skip_of rfl rfl rfl hq29)) rfl ?_
        refine VOps_skipU (.inl (skip_of rfl rfl rfl hq29)) rfl ?_
        refine VOps_skipU (.inl (skip_of rfl rfl rfl hq29)) rfl ?_
        refine VOps_skipU (.inl (skip_of rfl rfl rfl hq29)) rfl ?_
        refine VOps_skipU (.inl (skip_of rfl rfl rfl hq29)) rfl ?_
        refine VOps_skipU (.inl (skip_of rfl rfl rfl hq29)) rfl ?_
        refine VOps_skipU (.inl (skip_of rfl rfl rfl hq29)) rfl ?_
        refine VOps_cons rfl rfl (V_pickT rfl hq29 rfl ?_)
        refine VOps_nil ?_
        refine Then_n ?_
        refine VW_condT rfl rfl ?_
        refine VW_seq ?_
        refine VW_region ?_
        refine VOps_cons rfl rfl (V_assign rfl ?_)
        refine VOps_nil ?_
        refine Then_n ?_
        refine VW_ret ?_
        refine InBlock_r (Then_r (Then_r (InBlock_r (Then_r (VRet_one rfl (.tmp rfl) ?_)))))
        refine ⟨_, Drops.drop (Drops.refl _), ?_, ?_⟩ <;> rw [← hq, drop_cons hr] <;> simp [sizeLoop, hm] <;> rfl
      · skip
        have hm : ¬ q + 1 > 400 := by simpa using hq29
        have hs := sizeF_le n p.args (q + 1) (by omega) (by omega)
        refine VOps_cons (want_of rfl rfl rfl hq29) rfl (V_fieldAddr VT.fa30_3 rfl ?_)
        refine VOps_cons (want_of rfl rfl rfl hq29) rfl (V_load 0 VT.ty25 rfl rfl rfl ?_)
        refine VOps_cons (want_of rfl rfl rfl hq29) rfl (V_move rfl ?_)
        refine VOps_cons (want_of rfl rfl rfl hq29) rfl (V_add rfl rfl (by omega) ?_)
        refine VOps_cons (want_of rfl rfl rfl hq29) rfl (V_move rfl ?_)
        refine VOps_cons (want_of rfl rfl rfl hq29) rfl (V_call [.tmp 31, .tmp 33, .tmp 34] [_] _ rfl rfl VT.en70 (perm_erase (i := 1) rfl) (ih n (by omega) p.args (deep + 1) (q + 1) g T (by omega) (by omega) (by omega) (by omega)) ?_)
        rintro r Sa ⟨rfl, rfl⟩
        refine VOps_cons (want_of rfl rfl rfl hq29) rfl (V_not rfl ?_)
        refine VOps_cons rfl rfl (V_pickF rfl hq29 rfl ?_)
        refine VOps_nil ?_
        refine Then_n ?_
        refine VW_condN rfl (fun h37 => ?_) (fun h37 => ?_)
        · skip
          refine VW_seq ?_
          refine VW_region ?_
          refine VOps_cons rfl rfl (V_assign rfl ?_)
          refine VOps_nil ?_
          refine Then_n ?_
          refine VW_ret ?_
          refine InBlock_r (Then_r (Then_r (InBlock_r (Then_r (VRet_one rfl (.tmp rfl) ?_)))))
          refine ⟨_, Drops.swap (Drops.drop (Drops.refl _)), ?_, ?_⟩ <;> rw [← hq, drop_cons hr] <;> simp [sizeLoop, hm, h37]
        · skip
          refine VW_skip ?_
          refine InBlock_n (Then_n ?_)
          refine VW_region ?_
          refine VOps_cons rfl rfl (V_add rfl rfl (by omega) ?_)
          refine VOps_cons rfl rfl (V_move rfl ?_)
          refine VOps_nil ?_
          refine Then_n ?_
          have hs2 : 0 ≤ (sizeF n p.args (q + 1)).2 ∧ (sizeF n p.args (q + 1)).2 ≤ 400 ∧ sizeLoop (sizeF n) (l.drop (k + 1)) (sizeF n p.args (q + 1)).2 = sizeF (n + 1) l many := ⟨by omega, hs.2 h37, by rw [← hq, drop_cons hr]; simp [sizeLoop, hm, h37]⟩
          exact ⟨(k + 1, (sizeF n p.args (q + 1)).2), (by (try simp only []); omega), ⟨by omega, hs2⟩, ⟨rfl, rfl, rfl, rfl, rfl, trivial⟩, (Drops.keep (Drops.drop (Drops.refl _)))⟩
    · skip
      have hke : k = l.length := by omega
      subst hke
      rw [List.drop_length] at hq
      refine VW_exit ?_
      refine Then_e (Then_e (InBlock_hit ?_))
      refine Then_n ?_
      refine VW_seq ?_
      refine VW_region ?_
      refine VOps_cons rfl rfl (V_assign rfl ?_)
      refine VOps_nil ?_
      refine Then_n ?_
      refine VW_ret ?_
      refine VRet_one rfl (.tmp rfl) ?_
      refine ⟨_, Drops.refl _, ?_, ?_⟩ <;> rw [← hq] <;> simp [sizeLoop]


theorem size_c (n : Nat) : SizeSpec n := by
  induction n using Nat.strongRecOn with
  | _ n ih => exact size_step n ih

set_option maxRecDepth 100000 in
theorem dataIdx_c {l : List DataSig} {tok : Option Tok} {p : DataSig → Bool} {c : FuncId} {caps : List V} (hen : Enters Try.prog c) (hp : ∀ x ∈ l, VPure Try.prog c (dataV x :: caps) (.bool (p x))) : VPure Try.prog 91 [.sl 3 tok (l.map dataV), .clo (.func c) caps] (.int (idxOf p l)) := by
  refine V_start (nt := 19) Try.func91 rfl rfl rfl ?_
  refine VW_seq ?_
  refine VW_region ?_
  refine VOps_cons rfl rfl (V_assign rfl ?_)
  refine VOps_nil ?_
  refine Then_n ?_
  refine VW_seq ?_
  refine VW_seq ?_
  refine VW_region ?_
  refine VOps_cons rfl rfl (V_move rfl ?_)
  refine VOps_cons rfl rfl (V_lenN (n := l.length) Try.underlying22 rfl (by simp) (fun hl7 => ?_))
  refine VOps_cons rfl rfl (V_move rfl ?_)
  refine VOps_nil ?_
  refine Then_n ?_
  refine VW_block ?_
  refine VW_loopF (ι := Nat) (fun k => l.length - k) (fun k => [(0, some (.sl 3 tok (l.map dataV))), (1, some (.clo (.func c) caps)), (7, some (.int l.length)), (8, some (.int k))]) (fun k => []) (fun k => k ≤ l.length ∧ (l.take k).any p = false) 0 ⟨Nat.zero_le _, rfl⟩ ⟨rfl, rfl, rfl, rfl, trivial⟩ (Drops.refl _) ?_
  rintro k hA
  change k ≤ l.length ∧ (l.take k).any p = false at hA
  obtain ⟨hk, hany⟩ := hA
  refine VW_seq ?_
  refine VW_region ?_
  refine VOps_cons rfl rfl (V_bin rfl rfl rfl ?_)
  refine VOps_nil ?_
  refine Then_n ?_
  refine VW_seq ?_
  refine VW_condP rfl (fun h9 => ?_) (fun h9 => ?_)
  · skip
    obtain ⟨x, hr⟩ := get_of_lt l k h9
    refine VW_skip ?_
    refine Then_n ?_
    refine VW_seq ?_
    refine VW_block ?_
    refine VW_seq ?_
    refine VW_region ?_
    refine VOps_cons rfl rfl (V_move rfl ?_)
    refine VOps_cons rfl rfl (V_assign rfl ?_)
    refine VOps_nil ?_
    refine Then_n ?_
    refine VW_seq ?_
    refine VW_region ?_
    refine VOps_cons rfl rfl (V_move rfl ?_)
    refine VOps_cons rfl rfl (V_move rfl ?_)
    refine VOps_cons rfl rfl (V_move rfl ?_)
    refine VOps_cons rfl rfl (V_indexAddr (el := dataV x) VT.sl22 rfl rfl (by omega) (get_mapS _ hr) (fun a14 => ?_))
    refine VOps_cons rfl rfl (V_load_ep_agg VT.ty62 rfl rfl ?_)
    refine VOps_cons rfl rfl (V_callCloP [.tmp 15] rfl rfl rfl hen (hp x (List.mem_of_getElem? hr)) ?_)
    refine VOps_nil ?_
    refine Then_n ?_
    refine VW_cond rfl (fun h16 => ?_) (fun h16 => ?_)
    · skip
      refine VW_seq ?_
      refine VW_region ?_
      refine VOps_cons rfl rfl (V_move rfl ?_)
      refine VOps_cons rfl rfl (V_assign rfl ?_)
      refine VOps_nil ?_
      refine Then_n ?_
      refine VW_ret ?_
      refine InBlock_r (Then_r (Then_r (InBlock_r (Then_r (VRet_one rfl (.tmp rfl) ?_)))))
      rw [idxOf_at p hr hany h16]
    · skip
      refine VW_skip ?_
      refine InBlock_n (Then_n ?_)
      refine VW_region ?_
      refine VOps_cons rfl rfl (V_add rfl rfl (by omega) ?_)
      refine VOps_cons rfl rfl (V_move rfl ?_)
      refine VOps_nil ?_
      refine Then_n ?_
      exact ⟨k + 1, (by (try simp only []); omega), ⟨by omega, any_snoc hr hany h16⟩, ⟨rfl, rfl, rfl, rfl, trivial⟩, (Drops.nil _)⟩
  · skip
    refine VW_exit ?_
    refine Then_e (Then_e (InBlock_hit ?_))
    refine Then_n ?_
    refine VW_seq ?_
    refine VW_region ?_
    refine VOps_cons rfl rfl (V_assign rfl ?_)
    refine VOps_nil ?_
    refine Then_n ?_
    refine VW_ret ?_
    refine VRet_one rfl (.tmp rfl) ?_
    have hke : k = l.length := by omega
    subst hke
    rw [List.take_length] at hany
    rw [idxOf_none p hany]


set_option maxRecDepth 100000 in
theorem dataAny_c {l : List DataSig} {tok : Option Tok} {p : DataSig → Bool} {c : FuncId} {caps : List V} (hen : Enters Try.prog c) (hp : ∀ x ∈ l, VPure Try.prog c (dataV x :: caps) (.bool (p x))) : VPure Try.prog 71 [.sl 3 tok (l.map dataV), .clo (.func c) caps] (.bool (l.any p)) := by
  refine V_start (nt := 9) Try.func71 rfl rfl rfl ?_
  refine VW_seq ?_
  refine VW_region ?_
  refine VOps_cons rfl rfl (V_assign rfl ?_)
  refine VOps_nil ?_
  refine Then_n ?_
  refine VW_seq ?_
  refine VW_region ?_
  refine VOps_cons rfl rfl (V_move rfl ?_)
  refine VOps_cons rfl rfl (V_move rfl ?_)
  refine VOps_cons rfl rfl (V_callP [.tmp 5, .tmp 6] rfl rfl VT.en91 (dataIdx_c hen hp) ?_)
  refine VOps_cons rfl rfl (V_bin rfl rfl rfl ?_)
  refine VOps_cons rfl rfl (V_assign rfl ?_)
  refine VOps_nil ?_
  refine Then_n ?_
  refine VW_ret ?_
  refine VRet_one rfl (.tmp rfl) ?_
  rw [idxOf_ge]


set_option maxRecDepth 100000 in
theorem patIdx_c {l : List Pat} {tok : Option Tok} {p : Pat → Bool} {c : FuncId} {caps : List V} (hen : Enters Try.prog c) (hp : ∀ x ∈ l, VPure Try.prog c (patX x :: caps) (.bool (p x))) : VPure Try.prog 51 [.sl 4 tok (l.map patV), .clo (.func c) caps] (.int (idxOf p l)) := by
  refine V_start (nt := 19) Try.func51 rfl rfl rfl ?_
  refine VW_seq ?_
  refine VW_region ?_
  refine VOps_cons rfl rfl (V_assign rfl ?_)
  refine VOps_nil ?_
  refine Then_n ?_
  refine VW_seq ?_
  refine VW_seq ?_
  refine VW_region ?_
  refine VOps_cons rfl rfl (V_move rfl ?_)
  refine VOps_cons rfl rfl (V_lenN (n := l.length) Try.underlying25 rfl (by simp) (fun hl7 => ?_))
  refine VOps_cons rfl rfl (V_move rfl ?_)
  refine VOps_nil ?_
  refine Then_n ?_
  refine VW_block ?_
  refine VW_loopF (ι := Nat) (fun k => l.length - k) (fun k => [(0, some (.sl 4 tok (l.map patV))), (1, some (.clo (.func c) caps)), (7, some (.int l.length)), (8, some (.int k))]) (fun k => []) (fun k => k ≤ l.length ∧ (l.take k).any p = false) 0 ⟨Nat.zero_le _, rfl⟩ ⟨rfl, rfl, rfl, rfl, trivial⟩ (Drops.refl _) ?_
  rintro k hA
  change k ≤ l.length ∧ (l.take k).any p = false at hA
  obtain ⟨hk, hany⟩ := hA
  refine VW_seq ?_
  refine VW_region ?_
  refine VOps_cons rfl rfl (V_bin rfl rfl rfl ?_)
  refine VOps_nil ?_
  refine Then_n ?_
  refine VW_seq ?_
  refine VW_condP rfl (fun h9 => ?_) (fun h9 => ?_)
  · skip
    obtain ⟨x, hr⟩ := get_of_lt l k h9
    refine VW_skip ?_
    refine Then_n ?_
    refine VW_seq ?_
    refine VW_block ?_
    refine VW_seq ?_
    refine VW_region ?_
    refine VOps_cons rfl rfl (V_move rfl ?_)
    refine VOps_cons rfl rfl (V_assign rfl ?_)
    refine VOps_nil ?_
    refine Then_n ?_
    refine VW_seq ?_
    refine VW_region ?_
    refine VOps_cons rfl rfl (V_move rfl ?_)
    refine VOps_cons rfl rfl (V_move rfl ?_)
    refine VOps_cons rfl rfl (V_move rfl ?_)
    refine VOps_cons rfl rfl (V_indexAddr (el := patX x) VT.sl25 rfl rfl (by omega) (get_patS hr) (fun a14 => ?_))
    refine VOps_cons rfl rfl (V_load_ep_agg VT.ty30 rfl rfl ?_)
    refine VOps_cons rfl rfl (V_callCloP [.tmp 15] rfl rfl rfl hen (hp x (List.mem_of_getElem? hr)) ?_)
    refine VOps_nil ?_
    refine Then_n ?_
    refine VW_cond rfl (fun h16 => ?_) (fun h16 => ?_)
    · skip
      refine VW_seq ?_
      refine VW_region ?_
      refine VOps_cons rfl rfl (V_move rfl ?_)
      refine VOps_cons rfl rfl (V_assign rfl ?_)
      refine VOps_nil ?_
      refine Then_n ?_
      refine VW_ret ?_
      refine InBlock_r (Then_r (Then_r (InBlock_r (Then_r (VRet_one rfl (.tmp rfl) ?_)))))
      rw [idxOf_at p hr hany h16]
    · skip
      refine VW_skip ?_
      refine InBlock_n (Then_n ?_)
      refine VW_region ?_
      refine VOps_cons rfl rfl (V_add rfl rfl (by omega) ?_)
      refine VOps_cons rfl rfl (V_move rfl ?_)
      refine VOps_nil ?_
      refine Then_n ?_
      exact ⟨k + 1, (by (try simp only []); omega), ⟨by omega, any_snoc hr hany h16⟩, ⟨rfl, rfl, rfl, rfl, trivial⟩, (Drops.nil _)⟩
  · skip
    refine VW_exit ?_
    refine Then_e (Then_e (InBlock_hit ?_))
    refine Then_n ?_
    refine VW_seq ?_
    refine VW_region ?_
    refine VOps_cons rfl rfl (V_assign rfl ?_)
    refine VOps_nil ?_
    refine Then_n ?_
    refine VW_ret ?_
    refine VRet_one rfl (.tmp rfl) ?_
    have hke : k = l.length := by omega
    subst hke
    rw [List.take_length] at hany
    rw [idxOf_none p hany]


set_option maxRecDepth 100000 in
theorem patAny_c {l : List Pat} {tok : Option Tok} {p : Pat → Bool} {c : FuncId} {caps : List V} (hen : Enters Try.prog c) (hp : ∀ x ∈ l, VPure Try.prog c (patX x :: caps) (.bool (p x))) : VPure Try.prog 75 [.sl 4 tok (l.map patV), .clo (.func c) caps] (.bool (l.any p)) := by
  refine V_start (nt := 9) Try.func75 rfl rfl rfl ?_
  refine VW_seq ?_
  refine VW_region ?_
  refine VOps_cons rfl rfl (V_assign rfl ?_)
  refine VOps_nil ?_
  refine Then_n ?_
  refine VW_seq ?_
  refine VW_region ?_
  refine VOps_cons rfl rfl (V_move rfl ?_)
  refine VOps_cons rfl rfl (V_move rfl ?_)
  refine VOps_cons rfl rfl (V_callP [.tmp 5, .tmp 6] rfl rfl VT.en51 (patIdx_c hen hp) ?_)
  refine VOps_cons rfl rfl (V_bin rfl rfl rfl ?_)
  refine VOps_cons rfl rfl (V_assign rfl ?_)
  refine VOps_nil ?_
  refine Then_n ?_
  refine VW_ret ?_
  refine VRet_one rfl (.tmp rfl) ?_
  rw [idxOf_ge]


set_option maxRecDepth 100000 in
theorem big_c (d : DataSig) : VPure Try.prog 72 [dataV d] (.bool (decide ((d.cons.length : Int) > 256))) := by
  refine V_start (nt := 7) Try.func72 rfl rfl rfl ?_
  refine VW_seq ?_
  refine VW_region ?_
  refine VOps_cons rfl rfl (V_box rfl rfl (fun g1 => ?_))
  refine VOps_cons rfl rfl (V_assign rfl ?_)
  refine VOps_nil ?_
  refine Then_n ?_
  refine VW_seq ?_
  refine VW_region ?_
  refine VOps_cons rfl rfl (V_fieldAddr VT.fa62_2 rfl ?_)
  refine VOps_cons rfl rfl (V_load 0 VT.ty60 rfl rfl rfl ?_)
  refine VOps_cons rfl rfl (V_lenN (n := d.cons.length) Try.underlying60 rfl (by simp) (fun hl5 => ?_))
  refine VOps_cons rfl rfl (V_bin rfl rfl rfl ?_)
  refine VOps_cons rfl rfl (V_assign rfl ?_)
  refine VOps_nil ?_
  refine Then_n ?_
  refine VW_ret ?_
  refine VRet_one rfl (.tmp rfl) ?_
  rfl


set_option maxRecDepth 100000 in
theorem small_c (datas : List DataSig) (rows : List (List Pat)) : VPure Try.prog 38 [datasX datas, rowsX rows] (.bool (small datas rows)) := by
  refine V_start (nt := 31) Try.func38 rfl rfl rfl ?_
  refine VW_seq ?_
  refine VW_region ?_
  refine VOps_cons rfl rfl (V_assign rfl ?_)
  refine VOps_nil ?_
  refine Then_n ?_
  refine VW_seq ?_
  refine VW_region ?_
  refine VOps_cons rfl rfl (V_alloc VT.zr3 _ rfl rfl (fun g5 => ?_))
  refine VOps_cons rfl rfl (V_store 0 VT.ty3 rfl rfl rfl rfl rfl ?_)
  refine VOps_nil ?_
  refine Then_n ?_
  refine VW_seq ?_
  refine VW_seq ?_
  refine VW_region ?_
  refine VOps_cons rfl rfl (V_move rfl ?_)
  refine VOps_cons rfl rfl (V_lenN (n := rows.length) Try.underlying23 rfl (by simp) (fun hl9 => ?_))
  refine VOps_cons rfl rfl (V_move rfl ?_)
  refine VOps_nil ?_
  refine Then_n ?_
  refine VW_block ?_
  refine VW_loopF (ι := Nat × Int) (fun (k, q) => rows.length - k) (fun (k, q) => [(0, some (datasX datas)), (1, some (rowsX rows)), (5, some (.ptr g5 0)), (8, some (rowsX rows)), (9, some (.int rows.length)), (10, some (.int k))]) (fun (k, q) => [.cells g5 3 [.int q]]) (fun (k, q) => k ≤ rows.length ∧ 0 ≤ q ∧ q ≤ 400 ∧ small.smallRows (rows.drop k) q = small.smallRows rows 0) (0, 0) ⟨Nat.zero_le _, by omega, by omega, rfl⟩ ⟨rfl, rfl, rfl, rfl, rfl, rfl, trivial⟩ (Drops.refl _) ?_
  rintro ⟨k, q⟩ hA
  change k ≤ rows.length ∧ 0 ≤ q ∧ q ≤ 400 ∧ small.smallRows (rows.drop k) q = small.smallRows rows 0 at hA
  obtain ⟨hk, q0, q4, hq⟩ := hA
  refine VW_seq ?_
  refine VW_region ?_
  refine VOps_cons rfl rfl (V_bin rfl rfl rfl ?_)
  refine VOps_nil ?_
  refine Then_n ?_
  refine VW_seq ?_
  refine VW_condP rfl (fun h11 => ?_) (fun h11 => ?_)
  · skip
    obtain ⟨r, hr⟩ := get_of_lt rows k h11
    refine VW_skip ?_
    refine Then_n ?_
    refine VW_seq ?_
    refine VW_block ?_
    refine VW_seq ?_
    refine VW_region ?_
    refine VOps_cons rfl rfl (V_indexAddr (el := patsX r) VT.sl23 rfl rfl (by omega) (get_mapS _ hr) (fun a12 => ?_))
    refine VOps_cons rfl rfl (V_load_ep VT.ty25 rfl rfl ?_)
    refine VOps_cons rfl rfl (V_assign rfl ?_)
    refine VOps_nil ?_
    refine Then_n ?_
    refine VW_seq ?_
    refine VW_region ?_
    refine VOps_cons rfl rfl (V_move rfl ?_)
    refine VOps_cons rfl rfl (V_lenN (n := r.length) Try.underlying25 rfl (by simp) (fun hl15 => ?_))
    refine VOps_cons rfl rfl (V_bin rfl rfl rfl ?_)
    refine VOps_cons rfl rfl (V_move rfl ?_)
    refine VOps_split (q := 17) rfl (fun hq17 => ?_) (fun hq17 => ?_)
    · skip
      have hm : r.length > 16 := by simp at hq17; omega
      refine VOps_skipU (.inl (skip_of rfl rfl rfl hq17)) rfl ?_
      refine VOps_skipU (.inl (skip_of rfl rfl rfl hq17)) rfl ?_
      refine VOps_skipU (.inl (skip_of rfl rfl rfl hq17)) rfl ?_
      refine VOps_cons rfl rfl (V_pickT rfl hq17 rfl ?_)
      refine VOps_nil ?_
      refine Then_n ?_
      refine VW_condT rfl rfl ?_
      refine VW_seq ?_
      refine VW_region ?_
      refine VOps_cons rfl rfl (V_assign rfl ?_)
      refine VOps_nil ?_
      refine Then_n ?_
      refine VW_ret ?_
      refine InBlock_r (Then_r (Then_r (InBlock_r (Then_r (VRet_one rfl (.tmp rfl) ?_)))))
      unfold small
      rw [← hq, drop_cons hr]
      simp [small.smallRows, hm]
    · skip
      have hm : ¬ r.length > 16 := by simp at hq17; omega
      have hs := sizeF_le 20 r q q0 q4
      refine VOps_cons (want_of rfl rfl rfl hq17) rfl (V_move rfl ?_)
      refine VOps_cons (want_of rfl rfl rfl hq17) rfl (V_call [.tmp 18, .const (.int .i64 (1)), .tmp 5] [_] _ rfl rfl VT.en70 (perm_erase (i := 0) rfl) (size_c 20 r 1 q g5 3 (by omega) (by omega) q0 q4) ?_)
      rintro r0 Sa ⟨rfl, rfl⟩
      refine VOps_cons (want_of rfl rfl rfl hq17) rfl (V_not rfl ?_)
      refine VOps_cons rfl rfl (V_pickF rfl hq17 rfl ?_)
      refine VOps_nil ?_
      refine Then_n ?_
      refine VW_condN rfl (fun h21 => ?_) (fun h21 => ?_)
      · skip
        refine VW_seq ?_
        refine VW_region ?_
        refine VOps_cons rfl rfl (V_assign rfl ?_)
        refine VOps_nil ?_
        refine Then_n ?_
        refine VW_ret ?_
        refine InBlock_r (Then_r (Then_r (InBlock_r (Then_r (VRet_one rfl (.tmp rfl) ?_)))))
        unfold small
        rw [← hq, drop_cons hr]
        simp [small.smallRows, hm, h21]
      · skip
        refine VW_skip ?_
        refine InBlock_n (Then_n ?_)
        refine VW_region ?_
        refine VOps_cons rfl rfl (V_add rfl rfl (by omega) ?_)
        refine VOps_cons rfl rfl (V_move rfl ?_)
        refine VOps_nil ?_
        refine Then_n ?_
        have hs2 : 0 ≤ (sizeF 20 r q).2 ∧ (sizeF 20 r q).2 ≤ 400 ∧ small.smallRows (rows.drop (k + 1)) (sizeF 20 r q).2 = small.smallRows rows 0 := ⟨by omega, hs.2 h21, by rw [← hq, drop_cons hr]; simp [small.smallRows, hm, h21]⟩
        exact ⟨(k + 1, (sizeF 20 r q).2), (by (try simp only []); omega), ⟨by omega, hs2⟩, ⟨rfl, rfl, rfl, rfl, rfl, rfl, trivial⟩, (Drops.keep (Drops.refl _))⟩
  · skip
    have hke : k = rows.length := by omega
    subst hke
    rw [List.drop_length] at hq
    refine VW_exit ?_
    refine Then_e (Then_e (InBlock_hit ?_))
    refine Then_n ?_
    refine VW_seq ?_
    refine VW_region ?_
    refine VOps_cons rfl rfl (V_move rfl ?_)
    refine VOps_cons rfl rfl (V_lenN (n := rows.length) Try.underlying23 rfl (by simp) (fun hl24 => ?_))
    refine VOps_cons rfl rfl (V_bin rfl rfl rfl ?_)
    refine VOps_cons rfl rfl (V_move rfl ?_)
    refine VOps_split (q := 26) rfl (fun hq26 => ?_) (fun hq26 => ?_)
    · skip
      have hm : rows.length ≤ 64 := by simp at hq26; omega
      refine VOps_cons (want_of rfl rfl rfl hq26) rfl (V_move rfl ?_)
      refine VOps_cons (want_of rfl rfl rfl hq26) rfl (V_callP [.tmp 27, .func 72] rfl rfl VT.en71 (dataAny_c (p := fun d => decide ((d.cons.length : Int) > 256)) (caps := []) VT.en72 (fun d _ => big_c d)) ?_)
      refine VOps_cons (want_of rfl rfl rfl hq26) rfl (V_not rfl ?_)
      refine VOps_cons rfl rfl (V_pickT rfl hq26 rfl ?_)
      refine VOps_cons rfl rfl (V_assign rfl ?_)
      refine VOps_nil ?_
      refine Then_n ?_
      refine VW_ret ?_
      refine VRet_one rfl (.tmp rfl) ?_
      unfold small
      rw [← hq]
      simp [small.smallRows, hm]
    · skip
      have hm : ¬ rows.length ≤ 64 := by simp at hq26; omega
      refine VOps_skipU (.inl (skip_of rfl rfl rfl hq26)) rfl ?_
      refine VOps_skipU (.inl (skip_of rfl rfl rfl hq26)) rfl ?_
      refine VOps_skipU (.inl (skip_of rfl rfl rfl hq26)) rfl ?_
      refine VOps_cons rfl rfl (V_pickF rfl hq26 rfl ?_)
      refine VOps_cons rfl rfl (V_assign rfl ?_)
      refine VOps_nil ?_
      refine Then_n ?_
      refine VW_ret ?_
      refine VRet_one rfl (.tmp rfl) ?_
      unfold small
      rw [← hq]
      simp [small.smallRows, hm]


end Go.Proofs.Ytmjeaagpcmfnpaa.W1
