/- Walks, printed by walk.py. -/
import Derived.Test.YtmjeaagpcmfnpaaVT
import Derived.Test.YtmjeaagpcmfnpaaVDA
import Derived.Test.YtmjeaagpcmfnpaaVB
import Derived.Test.YtmjeaagpcmfnpaaVN2
import Derived.Test.YtmjeaagpcmfnpaaW16
import Derived.Test.YtmjeaagpcmfnpaaW20
set_option linter.unusedVariables false
set_option linter.unusedSimpArgs false
namespace Go.Proofs.Ytmjeaagpcmfnpaa.W23
open Go.VL Go.PM Go.Proofs.Ytmjeaagpcmfnpaa Go.Proofs.Ytmjeaagpcmfnpaa.W16 Go.Proofs.Ytmjeaagpcmfnpaa.W20

theorem any_false {α : Type} (l : List α) : (l.any fun _ => false) = false := by simp
theorem kidP {n : MNode} {y : Int} {i : Nat} {D : DataSig} {b : Bool} (h : y = -1 ↔ (i = n.names.length ∧ n.kind = 2 ∧ n.names ≠ [] ∧ n.names.length = D.cons.length)) (hb : b = true ↔ (i = n.names.length ∧ n.kind = 2 ∧ n.names ≠ [] ∧ n.names.length = D.cons.length)) : (y == -1) = b := by
  rw [Bool.eq_iff_iff, hb, ← h]
  simp

set_option maxRecDepth 100000 in
theorem neg_c (n : Int) : VPure Try.prog 61 [.int n] (.bool (decide (n < 0))) := by
  refine V_start (nt := 5) Try.func61 rfl rfl rfl ?_
  refine VW_seq ?_
  refine VW_region ?_
  refine VOps_cons rfl rfl (V_assign rfl ?_)
  refine VOps_nil ?_
  refine Then_n ?_
  refine VW_seq ?_
  refine VW_region ?_
  refine VOps_cons rfl rfl (V_move rfl ?_)
  refine VOps_cons rfl rfl (V_bin rfl rfl rfl ?_)
  refine VOps_cons rfl rfl (V_assign rfl ?_)
  refine VOps_nil ?_
  refine Then_n ?_
  refine VW_ret ?_
  refine VRet_one rfl (.tmp rfl) ?_
  rfl


set_option maxRecDepth 100000 in
theorem far_c (n : Int) : VPure Try.prog 64 [.int n] (.bool (decide (n < -1073741824) || decide (n > 1073741823))) := by
  refine V_start (nt := 9) Try.func64 rfl rfl rfl ?_
  refine VW_seq ?_
  refine VW_region ?_
  refine VOps_cons rfl rfl (V_assign rfl ?_)
  refine VOps_nil ?_
  refine Then_n ?_
  refine VW_seq ?_
  refine VW_region ?_
  refine VOps_cons rfl rfl (V_move rfl ?_)
  refine VOps_cons rfl rfl (V_bin rfl rfl rfl ?_)
  refine VOps_cons rfl rfl (V_move rfl ?_)
  refine VOps_split (q := 5) rfl (fun hq5 => ?_) (fun hq5 => ?_)
  · skip
    refine VOps_skipU (.inl (skip_of rfl rfl rfl hq5)) rfl ?_
    refine VOps_skipU (.inl (skip_of rfl rfl rfl hq5)) rfl ?_
    refine VOps_cons rfl rfl (V_pickT rfl hq5 rfl ?_)
    refine VOps_cons rfl rfl (V_assign rfl ?_)
    refine VOps_nil ?_
    refine Then_n ?_
    refine VW_ret ?_
    refine VRet_one rfl (.tmp rfl) ?_
    exact congrArg V.bool (by rw [hq5]; rfl)
  · skip
    refine VOps_cons (want_of rfl rfl rfl hq5) rfl (V_move rfl ?_)
    refine VOps_cons (want_of rfl rfl rfl hq5) rfl (V_bin rfl rfl rfl ?_)
    refine VOps_cons rfl rfl (V_pickF rfl hq5 rfl ?_)
    refine VOps_cons rfl rfl (V_assign rfl ?_)
    refine VOps_nil ?_
    refine Then_n ?_
    refine VW_ret ?_
    refine VRet_one rfl (.tmp rfl) ?_
    exact congrArg V.bool (by rw [hq5]; rfl)


set_option maxRecDepth 100000 in
theorem intsIdx_c {l : List Int} {tok : Option Tok} {p : Int → Bool} {c : FuncId} {caps : List V} (hen : Enters Try.prog c) (hp : ∀ x ∈ l, VPure Try.prog c (V.int x :: caps) (.bool (p x))) : VPure Try.prog 88 [.sl 1 tok (l.map V.int), .clo (.func c) caps] (.int (idxOf p l)) := by
  refine V_start (nt := 19) Try.func88 rfl rfl rfl ?_
  refine VW_seq ?_
  refine VW_region ?_
  refine VOps_cons rfl rfl (V_assign rfl ?_)
  refine VOps_nil ?_
  refine Then_n ?_
  refine VW_seq ?_
  refine VW_seq ?_
  refine VW_region ?_
  refine VOps_cons rfl rfl (V_move rfl ?_)
  refine VOps_cons rfl rfl (V_lenN (n := l.length) Try.underlying32 rfl (by simp) (fun hl7 => ?_))
  refine VOps_cons rfl rfl (V_move rfl ?_)
  refine VOps_nil ?_
  refine Then_n ?_
  refine VW_block ?_
  refine VW_loopF (ι := Nat) (fun k => l.length - k) (fun k => [(0, some (.sl 1 tok (l.map V.int))), (1, some (.clo (.func c) caps)), (7, some (.int l.length)), (8, some (.int k))]) (fun k => []) (fun k => k ≤ l.length ∧ (l.take k).any p = false) 0 ⟨Nat.zero_le _, rfl⟩ ⟨rfl, rfl, rfl, rfl, trivial⟩ (Drops.refl _) ?_
  rintro k hA
  change k ≤ l.length ∧ (l.take k).any p = false at hA
  obtain ⟨hk, hany⟩ := hA
  refine VW_seq ?_
  refine VW_region ?_
  refine VOps_cons rfl rfl (V_bin rfl rfl rfl ?_)
  refine VOps_nil ?_
  refine Then_n ?_
  refine VW_seq ?_
  refine VW_condP rfl (fun h9 => ?_) (fun h9 => ?_)
  · skip
    obtain ⟨x, hr⟩ := get_of_lt l k h9
    refine VW_skip ?_
    refine Then_n ?_
    refine VW_seq ?_
    refine VW_block ?_
    refine VW_seq ?_
    refine VW_region ?_
    refine VOps_cons rfl rfl (V_move rfl ?_)
    refine VOps_cons rfl rfl (V_assign rfl ?_)
    refine VOps_nil ?_
    refine Then_n ?_
    refine VW_seq ?_
    refine VW_region ?_
    refine VOps_cons rfl rfl (V_move rfl ?_)
    refine VOps_cons rfl rfl (V_move rfl ?_)
    refine VOps_cons rfl rfl (V_move rfl ?_)
    refine VOps_cons rfl rfl (V_indexAddr (el := V.int x) VT.sl32 rfl rfl (by omega) (get_int hr) (fun a14 => ?_))
    refine VOps_cons rfl rfl (V_load_ep VT.ty3 rfl rfl ?_)
    refine VOps_cons rfl rfl (V_callCloP [.tmp 15] rfl rfl rfl hen (hp x (List.mem_of_getElem? hr)) ?_)
    refine VOps_nil ?_
    refine Then_n ?_
    refine VW_cond rfl (fun h16 => ?_) (fun h16 => ?_)
    · skip
      refine VW_seq ?_
      refine VW_region ?_
      refine VOps_cons rfl rfl (V_move rfl ?_)
      refine VOps_cons rfl rfl (V_assign rfl ?_)
      refine VOps_nil ?_
      refine Then_n ?_
      refine VW_ret ?_
      refine InBlock_r (Then_r (Then_r (InBlock_r (Then_r (VRet_one rfl (.tmp rfl) ?_)))))
      rw [idxOf_at p hr hany h16]
    · skip
      refine VW_skip ?_
      refine InBlock_n (Then_n ?_)
      refine VW_region ?_
      refine VOps_cons rfl rfl (V_add rfl rfl (by omega) ?_)
      refine VOps_cons rfl rfl (V_move rfl ?_)
      refine VOps_nil ?_
      refine Then_n ?_
      exact ⟨k + 1, (by (try simp only []); omega), ⟨by omega, any_snoc hr hany h16⟩, ⟨rfl, rfl, rfl, rfl, trivial⟩, (Drops.nil _)⟩
  · skip
    have hke : k = l.length := by omega
    subst hke
    rw [List.take_length] at hany
    refine VW_exit ?_
    refine Then_e (Then_e (InBlock_hit ?_))
    refine Then_n ?_
    refine VW_seq ?_
    refine VW_region ?_
    refine VOps_cons rfl rfl (V_assign rfl ?_)
    refine VOps_nil ?_
    refine Then_n ?_
    refine VW_ret ?_
    refine VRet_one rfl (.tmp rfl) ?_
    rw [idxOf_none p hany]


set_option maxRecDepth 100000 in
theorem intsAny_c {l : List Int} {tok : Option Tok} {p : Int → Bool} {c : FuncId} {caps : List V} (hen : Enters Try.prog c) (hp : ∀ x ∈ l, VPure Try.prog c (V.int x :: caps) (.bool (p x))) : VPure Try.prog 63 [.sl 1 tok (l.map V.int), .clo (.func c) caps] (.bool (l.any p)) := by
  refine V_start (nt := 9) Try.func63 rfl rfl rfl ?_
  refine VW_seq ?_
  refine VW_region ?_
  refine VOps_cons rfl rfl (V_assign rfl ?_)
  refine VOps_nil ?_
  refine Then_n ?_
  refine VW_seq ?_
  refine VW_region ?_
  refine VOps_cons rfl rfl (V_move rfl ?_)
  refine VOps_cons rfl rfl (V_move rfl ?_)
  refine VOps_cons rfl rfl (V_callP [.tmp 5, .tmp 6] rfl rfl VT.en88 (intsIdx_c hen hp) ?_)
  refine VOps_cons rfl rfl (V_bin rfl rfl rfl ?_)
  refine VOps_cons rfl rfl (V_assign rfl ?_)
  refine VOps_nil ?_
  refine Then_n ?_
  refine VW_ret ?_
  refine VRet_one rfl (.tmp rfl) ?_
  rw [idxOf_ge]


set_option maxRecDepth 100000 in
theorem strsAIdx_c {l : List Str} {tok : Option Tok} {p : Str → Bool} {c : FuncId} {caps : List V} {o1 o2 : Own} (hen : Enters Try.prog c) (hp : ∀ x ∈ l, VKeep Try.prog c (V.str x :: caps) [o1, o2] (.bool (p x))) : VKeep Try.prog 89 [.sl 1 tok (l.map V.str), .clo (.func c) caps] [o1, o2] (.int (idxOf p l)) := by
  refine V_start (nt := 19) Try.func89 rfl rfl rfl ?_
  refine VW_seq ?_
  refine VW_region ?_
  refine VOps_cons rfl rfl (V_assign rfl ?_)
  refine VOps_nil ?_
  refine Then_n ?_
  refine VW_seq ?_
  refine VW_seq ?_
  refine VW_region ?_
  refine VOps_cons rfl rfl (V_move rfl ?_)
  refine VOps_cons rfl rfl (V_lenN (n := l.length) Try.underlying47 rfl (by simp) (fun hl7 => ?_))
  refine VOps_cons rfl rfl (V_move rfl ?_)
  refine VOps_nil ?_
  refine Then_n ?_
  refine VW_block ?_
  refine VW_loopF (ι := Nat) (fun k => l.length - k) (fun k => [(0, some (.sl 1 tok (l.map V.str))), (1, some (.clo (.func c) caps)), (7, some (.int l.length)), (8, some (.int k))]) (fun k => [o1, o2]) (fun k => k ≤ l.length ∧ (l.take k).any p = false) 0 ⟨Nat.zero_le _, rfl⟩ ⟨rfl, rfl, rfl, rfl, trivial⟩ (Drops.refl _) ?_
  rintro k hA
  change k ≤ l.length ∧ (l.take k).any p = false at hA
  obtain ⟨hk, hany⟩ := hA
  refine VW_seq ?_
  refine VW_region ?_
  refine VOps_cons rfl rfl (V_bin rfl rfl rfl ?_)
  refine VOps_nil ?_
  refine Then_n ?_
  refine VW_seq ?_
  refine VW_condP rfl (fun h9 => ?_) (fun h9 => ?_)
  · skip
    obtain ⟨x, hr⟩ := get_of_lt l k h9
    refine VW_skip ?_
    refine Then_n ?_
    refine VW_seq ?_
    refine VW_block ?_
    refine VW_seq ?_
    refine VW_region ?_
    refine VOps_cons rfl rfl (V_move rfl ?_)
    refine VOps_cons rfl rfl (V_assign rfl ?_)
    refine VOps_nil ?_
    refine Then_n ?_
    refine VW_seq ?_
    refine VW_region ?_
    refine VOps_cons rfl rfl (V_move rfl ?_)
    refine VOps_cons rfl rfl (V_move rfl ?_)
    refine VOps_cons rfl rfl (V_move rfl ?_)
    refine VOps_cons rfl rfl (V_indexAddr (el := V.str x) VT.sl47 rfl rfl (by omega) (get_str hr) (fun a14 => ?_))
    refine VOps_cons rfl rfl (V_load_ep VT.ty9 rfl rfl ?_)
    refine VOps_cons rfl rfl (V_callClo [.tmp 15] _ _ rfl rfl rfl hen (.refl _) (hp x (List.mem_of_getElem? hr)) ?_)
    rintro r Sa ⟨rfl, rfl⟩
    refine VOps_nil ?_
    refine Then_n ?_
    refine VW_cond rfl (fun h16 => ?_) (fun h16 => ?_)
    · skip
      refine VW_seq ?_
      refine VW_region ?_
      refine VOps_cons rfl rfl (V_move rfl ?_)
      refine VOps_cons rfl rfl (V_assign rfl ?_)
      refine VOps_nil ?_
      refine Then_n ?_
      refine VW_ret ?_
      refine InBlock_r (Then_r (Then_r (InBlock_r (Then_r (VRet_one rfl (.tmp rfl) ?_)))))
      rw [idxOf_at p hr hany h16]
      exact ⟨rfl, rfl⟩
    · skip
      refine VW_skip ?_
      refine InBlock_n (Then_n ?_)
      refine VW_region ?_
      refine VOps_cons rfl rfl (V_add rfl rfl (by omega) ?_)
      refine VOps_cons rfl rfl (V_move rfl ?_)
      refine VOps_nil ?_
      refine Then_n ?_
      exact ⟨k + 1, (by (try simp only []); omega), ⟨by omega, any_snoc hr hany h16⟩, ⟨rfl, rfl, rfl, rfl, trivial⟩, (Drops.keep (Drops.keep (Drops.refl _)))⟩
  · skip
    have hke : k = l.length := by omega
    subst hke
    rw [List.take_length] at hany
    refine VW_exit ?_
    refine Then_e (Then_e (InBlock_hit ?_))
    refine Then_n ?_
    refine VW_seq ?_
    refine VW_region ?_
    refine VOps_cons rfl rfl (V_assign rfl ?_)
    refine VOps_nil ?_
    refine Then_n ?_
    refine VW_ret ?_
    refine VRet_one rfl (.tmp rfl) ?_
    rw [idxOf_none p hany]
    exact ⟨rfl, rfl⟩


set_option maxRecDepth 100000 in
theorem strsAAny_c {l : List Str} {tok : Option Tok} {p : Str → Bool} {c : FuncId} {caps : List V} {o1 o2 : Own} (hen : Enters Try.prog c) (hp : ∀ x ∈ l, VKeep Try.prog c (V.str x :: caps) [o1, o2] (.bool (p x))) : VKeep Try.prog 65 [.sl 1 tok (l.map V.str), .clo (.func c) caps] [o1, o2] (.bool (l.any p)) := by
  refine V_start (nt := 9) Try.func65 rfl rfl rfl ?_
  refine VW_seq ?_
  refine VW_region ?_
  refine VOps_cons rfl rfl (V_assign rfl ?_)
  refine VOps_nil ?_
  refine Then_n ?_
  refine VW_seq ?_
  refine VW_region ?_
  refine VOps_cons rfl rfl (V_move rfl ?_)
  refine VOps_cons rfl rfl (V_move rfl ?_)
  refine VOps_cons rfl rfl (V_call [.tmp 5, .tmp 6] _ _ rfl rfl VT.en89 (.refl _) (strsAIdx_c hen hp) ?_)
  rintro r Sa ⟨rfl, rfl⟩
  refine VOps_cons rfl rfl (V_bin rfl rfl rfl ?_)
  refine VOps_cons rfl rfl (V_assign rfl ?_)
  refine VOps_nil ?_
  refine Then_n ?_
  refine VW_ret ?_
  refine VRet_one rfl (.tmp rfl) ?_
  rw [idxOf_ge]
  exact ⟨rfl, rfl⟩


set_option maxRecDepth 100000 in
theorem strsBIdx_c {l : List Str} {tok : Option Tok} {p : Str → Bool} {c : FuncId} {caps : List V} {o1 o2 o3 : Own} (hen : Enters Try.prog c) (hp : ∀ x ∈ l, VKeep Try.prog c (V.str x :: caps) [o1, o2, o3] (.bool (p x))) : VKeep Try.prog 89 [.sl 1 tok (l.map V.str), .clo (.func c) caps] [o1, o2, o3] (.int (idxOf p l)) := by
  refine V_start (nt := 19) Try.func89 rfl rfl rfl ?_
  refine VW_seq ?_
  refine VW_region ?_
  refine VOps_cons rfl rfl (V_assign rfl ?_)
  refine VOps_nil ?_
  refine Then_n ?_
  refine VW_seq ?_
  refine VW_seq ?_
  refine VW_region ?_
  refine VOps_cons rfl rfl (V_move rfl ?_)
  refine VOps_cons rfl rfl (V_lenN (n := l.length) Try.underlying47 rfl (by simp) (fun hl7 => ?_))
  refine VOps_cons rfl rfl (V_move rfl ?_)
  refine VOps_nil ?_
  refine Then_n ?_
  refine VW_block ?_
  refine VW_loopF (ι := Nat) (fun k => l.length - k) (fun k => [(0, some (.sl 1 tok (l.map V.str))), (1, some (.clo (.func c) caps)), (7, some (.int l.length)), (8, some (.int k))]) (fun k => [o1, o2, o3]) (fun k => k ≤ l.length ∧ (l.take k).any p = false) 0 ⟨Nat.zero_le _, rfl⟩ ⟨rfl, rfl, rfl, rfl, trivial⟩ (Drops.refl _) ?_
  rintro k hA
  change k ≤ l.length ∧ (l.take k).any p = false at hA
  obtain ⟨hk, hany⟩ := hA
  refine VW_seq ?_
  refine VW_region ?_
  refine VOps_cons rfl rfl (V_bin rfl rfl rfl ?_)
  refine VOps_nil ?_
  refine Then_n ?_
  refine VW_seq ?_
  refine VW_condP rfl (fun h9 => ?_) (fun h9 => ?_)
  · skip
    obtain ⟨x, hr⟩ := get_of_lt l k h9
    refine VW_skip ?_
    refine Then_n ?_
    refine VW_seq ?_
    refine VW_block ?_
    refine VW_seq ?_
    refine VW_region ?_
    refine VOps_cons rfl rfl (V_move rfl ?_)
    refine VOps_cons rfl rfl (V_assign rfl ?_)
    refine VOps_nil ?_
    refine Then_n ?_
    refine VW_seq ?_
    refine VW_region ?_
    refine VOps_cons rfl rfl (V_move rfl ?_)
    refine VOps_cons rfl rfl (V_move rfl ?_)
    refine VOps_cons rfl rfl (V_move rfl ?_)
    refine VOps_cons rfl rfl (V_indexAddr (el := V.str x) VT.sl47 rfl rfl (by omega) (get_str hr) (fun a14 => ?_))
    refine VOps_cons rfl rfl (V_load_ep VT.ty9 rfl rfl ?_)
    refine VOps_cons rfl rfl (V_callClo [.tmp 15] _ _ rfl rfl rfl hen (.refl _) (hp x (List.mem_of_getElem? hr)) ?_)
    rintro r Sa ⟨rfl, rfl⟩
    refine VOps_nil ?_
    refine Then_n ?_
    refine VW_cond rfl (fun h16 => ?_) (fun h16 => ?_)
    · skip
      refine VW_seq ?_
      refine VW_region ?_
      refine VOps_cons rfl rfl (V_move rfl ?_)
      refine VOps_cons rfl rfl (V_assign rfl ?_)
      refine VOps_nil ?_
      refine Then_n ?_
      refine VW_ret ?_
      refine InBlock_r (Then_r (Then_r (InBlock_r (Then_r (VRet_one rfl (.tmp rfl) ?_)))))
      rw [idxOf_at p hr hany h16]
      exact ⟨rfl, rfl⟩
    · skip
      refine VW_skip ?_
      refine InBlock_n (Then_n ?_)
      refine VW_region ?_
      refine VOps_cons rfl rfl (V_add rfl rfl (by omega) ?_)
      refine VOps_cons rfl rfl (V_move rfl ?_)
      refine VOps_nil ?_
      refine Then_n ?_
      exact ⟨k + 1, (by (try simp only []); omega), ⟨by omega, any_snoc hr hany h16⟩, ⟨rfl, rfl, rfl, rfl, trivial⟩, (Drops.keep (Drops.keep (Drops.keep (Drops.refl _))))⟩
  · skip
    have hke : k = l.length := by omega
    subst hke
    rw [List.take_length] at hany
    refine VW_exit ?_
    refine Then_e (Then_e (InBlock_hit ?_))
    refine Then_n ?_
    refine VW_seq ?_
    refine VW_region ?_
    refine VOps_cons rfl rfl (V_assign rfl ?_)
    refine VOps_nil ?_
    refine Then_n ?_
    refine VW_ret ?_
    refine VRet_one rfl (.tmp rfl) ?_
    rw [idxOf_none p hany]
    exact ⟨rfl, rfl⟩


set_option maxRecDepth 100000 in
theorem strsBAny_c {l : List Str} {tok : Option Tok} {p : Str → Bool} {c : FuncId} {caps : List V} {o1 o2 o3 : Own} (hen : Enters Try.prog c) (hp : ∀ x ∈ l, VKeep Try.prog c (V.str x :: caps) [o1, o2, o3] (.bool (p x))) : VKeep Try.prog 65 [.sl 1 tok (l.map V.str), .clo (.func c) caps] [o1, o2, o3] (.bool (l.any p)) := by
  refine V_start (nt := 9) Try.func65 rfl rfl rfl ?_
  refine VW_seq ?_
  refine VW_region ?_
  refine VOps_cons rfl rfl (V_assign rfl ?_)
  refine VOps_nil ?_
  refine Then_n ?_
  refine VW_seq ?_
  refine VW_region ?_
  refine VOps_cons rfl rfl (V_move rfl ?_)
  refine VOps_cons rfl rfl (V_move rfl ?_)
  refine VOps_cons rfl rfl (V_call [.tmp 5, .tmp 6] _ _ rfl rfl VT.en89 (.refl _) (strsBIdx_c hen hp) ?_)
  rintro r Sa ⟨rfl, rfl⟩
  refine VOps_cons rfl rfl (V_bin rfl rfl rfl ?_)
  refine VOps_cons rfl rfl (V_assign rfl ?_)
  refine VOps_nil ?_
  refine Then_n ?_
  refine VW_ret ?_
  refine VRet_one rfl (.tmp rfl) ?_
  rw [idxOf_ge]
  exact ⟨rfl, rfl⟩


set_option maxRecDepth 100000 in
theorem known_c {s : Str} {g3 gm : Nat} {tab : List (Str × V)} {a : Addr} {v : V} (h : kget tab s = some (.ep a v)) : VKeep Try.prog 66 [.str s, .ptr g3 0] [.cells g3 71 [.raw (.map (some gm))], .map gm (kmap kstr tab)] (.bool false) := by
  refine V_start (nt := 8) Try.func66 rfl rfl rfl ?_
  refine VW_seq ?_
  refine VW_region ?_
  refine VOps_cons rfl rfl (V_assign rfl ?_)
  refine VOps_nil ?_
  refine Then_n ?_
  refine VW_seq ?_
  refine VW_region ?_
  refine VOps_cons rfl rfl (V_load 0 VT.ty71 rfl rfl rfl ?_)
  refine VOps_cons rfl rfl (V_move rfl ?_)
  refine VOps_cons rfl rfl (V_lookup1 1 Try.underlying71 (key_str Try.underlying9) VT.zr100 rfl rfl rfl (h) ?_)
  refine VOps_cons rfl rfl (V_epEqNil Try.underlying100 rfl ?_)
  refine VOps_cons rfl rfl (V_assign rfl ?_)
  refine VOps_nil ?_
  refine Then_n ?_
  refine VW_ret ?_
  refine VRet_one rfl (.tmp rfl) ?_
  exact ⟨rfl, rfl⟩


set_option maxRecDepth 100000 in
theorem alike_c {s s0 : Str} {g3 g4 gm : Nat} {tab : List (Str × V)} {a : Addr} {u v : V} {n : MNode} (h : kget tab s = some (.ep a u)) (h0 : n.names[0]? = some s0) (h2 : kget tab s0 = some (.ep a v)) : VKeep Try.prog 69 [.str s, .ptr g3 0, .ptr g4 0] [.cells g3 71 [.raw (.map (some gm))], .cells g4 49 [.int n.kind, .int n.row, intsX n.path, strsX n.names, intsX n.words, intsX n.kids], .map gm (kmap kstr tab)] (.bool false) := by
  refine V_start (nt := 15) Try.func69 rfl rfl rfl ?_
  refine VW_seq ?_
  refine VW_region ?_
  refine VOps_cons rfl rfl (V_assign rfl ?_)
  refine VOps_nil ?_
  refine Then_n ?_
  refine VW_seq ?_
  refine VW_draw (G := Unit) [([], [1], []), ([], [0], []), ([1, 0], [5, 6], []), ([], [1], []), ([], [2], []), ([4], [9], []), ([5, 4], [10], []), ([6, 5, 4], [11], []), ([7, 6, 5, 4, 3], [8, 12], []), ([8, 7, 6, 5, 4, 3, 2, 1, 0], [7, 13], []), ([9, 8, 7, 6, 5, 4, 3, 2, 1, 0], [14], [])] [] (constSt _) [4] [4, 5, 6, 7, 8, 9, 10, 11, 12, 13, 14] rfl VT.mix (by kernel_rfl) (by kernel_rfl) ?_
  refine DrawP_consL (acc' := [_]) (eqRes _) (good0 (fun γ => Needs_f (by kernel_rfl) (fun r1 h1 => Needs_nil (vopT rfl (V_load 0 VT.ty71 h1 rfl rfl ⟨rfl, rfl⟩))))) rfl ?_
  refine DrawP_consL (acc' := [_, _]) (eqRes _) (good0 (fun γ => Needs_f (by kernel_rfl) (fun r0 h0 => Needs_nil (vopT rfl (V_move h0 ⟨rfl, rfl⟩))))) rfl ?_
  refine DrawP_consL (acc' := [_, _, _]) (eqRes _) (good0 (fun γ => Needs_w 0 (by kernel_rfl) rfl (fun r5 h5 => Needs_w 1 (by kernel_rfl) rfl (fun r6 h6 => Needs_nil (vopT rfl (V_lookup1 2 Try.underlying71 (key_str Try.underlying9) VT.zr100 h5 h6 rfl (h) ⟨rfl, rfl⟩)))))) rfl ?_
  refine DrawP_consL (acc' := [_, _, _, _]) (eqRes _) (good0 (fun γ => Needs_f (by kernel_rfl) (fun r1 h1 => Needs_nil (vopT rfl (V_load 0 VT.ty71 h1 rfl rfl ⟨rfl, rfl⟩))))) rfl ?_
  refine DrawP_consL (acc' := [_, _, _, _, _]) (eqRes _) (good0 (fun γ => Needs_f (by kernel_rfl) (fun r2 h2 => Needs_nil (vopT rfl (V_fieldAddr VT.fa49_3 h2 ⟨rfl, rfl⟩))))) rfl ?_
  refine DrawP_consL (acc' := [_, _, _, _, _, _]) (eqRes _) (good0 (fun γ => Needs_w 4 (by kernel_rfl) rfl (fun r9 h9 => Needs_nil (vopT rfl (V_load 1 VT.ty47 h9 rfl rfl ⟨rfl, rfl⟩))))) rfl ?_
  refine DrawP_consL (acc' := [_, _, _, _, _, _, _]) (epRes _) (good0 (fun γ => Needs_w 5 (by kernel_rfl) rfl (fun r10 h10 => Needs_nil (vopT rfl (V_indexAddr (el := V.str s0) VT.sl47 h10 rfl (by omega) (get_str h0) (fun a11 => ⟨⟨_, rfl⟩, rfl⟩)))))) rfl ?_
  refine DrawP_consL (acc' := [_, _, _, _, _, _, _, _]) (eqRes _) (good0 (fun γ => Needs_w 6 (by kernel_rfl) rfl (fun r11 h11 => Needs_nil (epE h11 (fun a_11 e11 => vopT rfl (V_load_ep VT.ty9 e11 rfl ⟨rfl, rfl⟩)))))) rfl ?_
  refine DrawP_consL (acc' := [_, _, _, _, _, _, _, _, _]) (eqRes _) (good0 (fun γ => Needs_w 3 (by kernel_rfl) rfl (fun r8 h8 => Needs_w 7 (by kernel_rfl) rfl (fun r12 h12 => Needs_nil (vopT rfl (V_lookup1 2 Try.underlying71 (key_str Try.underlying9) VT.zr100 h8 h12 rfl (h2) ⟨rfl, rfl⟩)))))) rfl ?_
  refine DrawP_consL (acc' := [_, _, _, _, _, _, _, _, _, _]) (eqRes _) (good0 (fun γ => Needs_w 2 (by kernel_rfl) rfl (fun r7 h7 => Needs_w 8 (by kernel_rfl) rfl (fun r13 h13 => Needs_nil (vopT rfl (V_ptrNeSame Try.underlying100 (by obtain ⟨_, i, _, _, h, _⟩ := VT.st62.all; exact ⟨i, h⟩) h7 h13 ⟨rfl, rfl⟩)))))) rfl ?_
  refine DrawP_consL (acc' := [_, _, _, _, _, _, _, _, _, _, _]) (eqRes _) (good0 (fun γ => Needs_w 9 (by kernel_rfl) rfl (fun r14 h14 => Needs_nil (vopT rfl (V_assign h14 ⟨rfl, rfl⟩))))) rfl ?_
  refine DrawP_nil (fun γ => Needs_w 10 (by kernel_rfl) rfl (fun r4 h4 => Needs_nil ?_))
  have e4 : r4 = some _ := h4
  subst e4
  clear h4
  refine Then_n ?_
  refine VW_ret ?_
  refine VRet_one rfl (.tmp rfl) ?_
  exact ⟨rfl, rfl⟩


set_option maxRecDepth 100000 in
theorem strsIndex_c (l : List Str) (tok : Option Tok) (v : Str) : VPure Try.prog 37 [.sl 1 tok (l.map V.str), .str v] (.int (idxOf (fun x => decide (v = x)) l)) := by
  refine V_start (nt := 19) Try.func37 rfl rfl rfl ?_
  refine VW_seq ?_
  refine VW_region ?_
  refine VOps_cons rfl rfl (V_assign rfl ?_)
  refine VOps_nil ?_
  refine Then_n ?_
  refine VW_seq ?_
  refine VW_seq ?_
  refine VW_region ?_
  refine VOps_cons rfl rfl (V_move rfl ?_)
  refine VOps_cons rfl rfl (V_lenN (n := l.length) Try.underlying47 rfl (by simp) (fun hl7 => ?_))
  refine VOps_cons rfl rfl (V_move rfl ?_)
  refine VOps_nil ?_
  refine Then_n ?_
  refine VW_block ?_
  refine VW_loopF (ι := Nat) (fun k => l.length - k) (fun k => [(0, some (.sl 1 tok (l.map V.str))), (1, some (.str v)), (7, some (.int l.length)), (8, some (.int k))]) (fun k => []) (fun k => k ≤ l.length ∧ (l.take k).any (fun x => decide (v = x)) = false) 0 ⟨Nat.zero_le _, rfl⟩ ⟨rfl, rfl, rfl, rfl, trivial⟩ (Drops.refl _) ?_
  rintro k hA
  change k ≤ l.length ∧ (l.take k).any (fun x => decide (v = x)) = false at hA
  obtain ⟨hk, hany⟩ := hA
  refine VW_seq ?_
  refine VW_region ?_
  refine VOps_cons rfl rfl (V_bin rfl rfl rfl ?_)
  refine VOps_nil ?_
  refine Then_n ?_
  refine VW_seq ?_
  refine VW_condP rfl (fun h9 => ?_) (fun h9 => ?_)
  · skip
    obtain ⟨x, hr⟩ := get_of_lt l k h9
    refine VW_skip ?_
    refine Then_n ?_
    refine VW_seq ?_
    refine VW_block ?_
    refine VW_seq ?_
    refine VW_region ?_
    refine VOps_cons rfl rfl (V_move rfl ?_)
    refine VOps_cons rfl rfl (V_assign rfl ?_)
    refine VOps_nil ?_
    refine Then_n ?_
    refine VW_seq ?_
    refine VW_region ?_
    refine VOps_cons rfl rfl (V_move rfl ?_)
    refine VOps_cons rfl rfl (V_move rfl ?_)
    refine VOps_cons rfl rfl (V_move rfl ?_)
    refine VOps_cons rfl rfl (V_indexAddr (el := V.str x) VT.sl47 rfl rfl (by omega) (get_str hr) (fun a14 => ?_))
    refine VOps_cons rfl rfl (V_load_ep VT.ty9 rfl rfl ?_)
    refine VOps_cons rfl rfl (V_streq rfl rfl ?_)
    refine VOps_nil ?_
    refine Then_n ?_
    refine VW_condEq rfl (fun h16 => ?_) (fun h16 => ?_)
    · skip
      refine VW_seq ?_
      refine VW_region ?_
      refine VOps_cons rfl rfl (V_move rfl ?_)
      refine VOps_cons rfl rfl (V_assign rfl ?_)
      refine VOps_nil ?_
      refine Then_n ?_
      refine VW_ret ?_
      refine InBlock_r (Then_r (Then_r (InBlock_r (Then_r (VRet_one rfl (.tmp rfl) ?_)))))
      rw [idxOf_at (fun x => decide (v = x)) hr hany (decide_eq_true h16)]
    · skip
      refine VW_skip ?_
      refine InBlock_n (Then_n ?_)
      refine VW_region ?_
      refine VOps_cons rfl rfl (V_add rfl rfl (by omega) ?_)
      refine VOps_cons rfl rfl (V_move rfl ?_)
      refine VOps_nil ?_
      refine Then_n ?_
      exact ⟨k + 1, (by (try simp only []); omega), ⟨by omega, any_snoc hr hany (decide_eq_false h16)⟩, ⟨rfl, rfl, rfl, rfl, trivial⟩, (Drops.nil _)⟩
  · skip
    have hke : k = l.length := by omega
    subst hke
    rw [List.take_length] at hany
    refine VW_exit ?_
    refine Then_e (Then_e (InBlock_hit ?_))
    refine Then_n ?_
    refine VW_seq ?_
    refine VW_region ?_
    refine VOps_cons rfl rfl (V_assign rfl ?_)
    refine VOps_nil ?_
    refine Then_n ?_
    refine VW_ret ?_
    refine VRet_one rfl (.tmp rfl) ?_
    rw [idxOf_none (fun x => decide (v = x)) hany]


set_option maxRecDepth 100000 in
theorem strsContains_c (l : List Str) (tok : Option Tok) (v : Str) : VPure Try.prog 90 [.sl 1 tok (l.map V.str), .str v] (.bool (l.any fun x => decide (v = x))) := by
  refine V_start (nt := 9) Try.func90 rfl rfl rfl ?_
  refine VW_seq ?_
  refine VW_region ?_
  refine VOps_cons rfl rfl (V_assign rfl ?_)
  refine VOps_nil ?_
  refine Then_n ?_
  refine VW_seq ?_
  refine VW_region ?_
  refine VOps_cons rfl rfl (V_move rfl ?_)
  refine VOps_cons rfl rfl (V_move rfl ?_)
  refine VOps_cons rfl rfl (V_callP [.tmp 5, .tmp 6] rfl rfl VT.en37 (strsIndex_c l tok v) ?_)
  refine VOps_cons rfl rfl (V_bin rfl rfl rfl ?_)
  refine VOps_cons rfl rfl (V_assign rfl ?_)
  refine VOps_nil ?_
  refine Then_n ?_
  refine VW_ret ?_
  refine VRet_one rfl (.tmp rfl) ?_
  rw [idxOf_ge]


set_option maxRecDepth 100000 in
theorem strsTwice_c (l : List Str) (h : l.Nodup) : VPure Try.prog 67 [.sl 1 none (l.map V.str)] (.bool false) := by
  refine V_start (nt := 18) Try.func67 rfl rfl rfl ?_
  refine VW_seq ?_
  refine VW_region ?_
  refine VOps_cons rfl rfl (V_assign rfl ?_)
  refine VOps_nil ?_
  refine Then_n ?_
  refine VW_seq ?_
  refine VW_seq ?_
  refine VW_region ?_
  refine VOps_cons rfl rfl (V_move rfl ?_)
  refine VOps_cons rfl rfl (V_lenN (n := l.length) Try.underlying47 rfl (by simp) (fun hl6 => ?_))
  refine VOps_cons rfl rfl (V_move rfl ?_)
  refine VOps_nil ?_
  refine Then_n ?_
  refine VW_block ?_
  refine VW_loopF (ι := Nat) (fun k => l.length - k) (fun k => [(0, some (.sl 1 none (l.map V.str))), (5, some (.sl 1 none (l.map V.str))), (6, some (.int l.length)), (7, some (.int k))]) (fun k => []) (fun k => k ≤ l.length) 0 (Nat.zero_le _) ⟨rfl, rfl, rfl, rfl, trivial⟩ (Drops.nil _) ?_
  rintro k hk
  change k ≤ l.length at hk
  refine VW_seq ?_
  refine VW_region ?_
  refine VOps_cons rfl rfl (V_bin rfl rfl rfl ?_)
  refine VOps_nil ?_
  refine Then_n ?_
  refine VW_seq ?_
  refine VW_condP rfl (fun h8 => ?_) (fun h8 => ?_)
  · skip
    obtain ⟨x, hx⟩ := get_of_lt l k h8
    have hno : ((l.take k).any fun y => decide (x = y)) = false := by rw [List.any_eq_false]; intro y hy; rw [decide_eq_true_eq]; rintro rfl; rw [split_at hx, List.nodup_append] at h; exact h.2.2 x hy x (List.mem_cons_self ..) rfl
    refine VW_skip ?_
    refine Then_n ?_
    refine VW_seq ?_
    refine VW_block ?_
    refine VW_seq ?_
    refine VW_region ?_
    refine VOps_cons rfl rfl (V_move rfl ?_)
    refine VOps_cons rfl rfl (V_indexAddr (el := V.str x) VT.sl47 rfl rfl (by omega) (get_str hx) (fun a10 => ?_))
    refine VOps_cons rfl rfl (V_load_ep VT.ty9 rfl rfl ?_)
    refine VOps_cons rfl rfl (V_assign rfl ?_)
    refine VOps_cons rfl rfl (V_assign rfl ?_)
    refine VOps_nil ?_
    refine Then_n ?_
    refine VW_seq ?_
    refine VW_region ?_
    refine VOps_cons rfl rfl (V_move rfl ?_)
    refine VOps_cons rfl rfl (V_move rfl ?_)
    refine VOps_cons rfl rfl (VOp_as (V_sliceTo VT.sl47 rfl rfl (by omega) (by simp; omega) ⟨rfl, rfl⟩) (V.le.of_eq (v' := .sl 1 none ((l.take k).map V.str)) (by rw [List.map_take]; rfl)) ?_)
    refine VOps_cons rfl rfl (V_move rfl ?_)
    refine VOps_cons rfl rfl (V_callP [.tmp 14, .tmp 15] rfl rfl VT.en90 (strsContains_c (l.take k) none x) ?_)
    refine VOps_nil ?_
    refine Then_n ?_
    refine VW_condF rfl (hno) ?_
    refine VW_skip ?_
    refine InBlock_n (Then_n ?_)
    refine VW_region ?_
    refine VOps_cons rfl rfl (V_add rfl rfl (by omega) ?_)
    refine VOps_cons rfl rfl (V_move rfl ?_)
    refine VOps_nil ?_
    refine Then_n ?_
    exact ⟨k + 1, (by (try simp only []); omega), (by omega), ⟨rfl, rfl, rfl, rfl, trivial⟩, (Drops.nil _)⟩
  · skip
    refine VW_exit ?_
    refine Then_e (Then_e (InBlock_hit ?_))
    refine Then_n ?_
    refine VW_seq ?_
    refine VW_region ?_
    refine VOps_cons rfl rfl (V_assign rfl ?_)
    refine VOps_nil ?_
    refine Then_n ?_
    refine VW_ret ?_
    refine VRet_one rfl (.tmp rfl) ?_
    rfl


set_option maxRecDepth 100000 in
theorem intsTwice_c (l : List Int) (h : l.Nodup) : VPure Try.prog 68 [.sl 1 none (l.map V.int)] (.bool false) := by
  refine V_start (nt := 18) Try.func68 rfl rfl rfl ?_
  refine VW_seq ?_
  refine VW_region ?_
  refine VOps_cons rfl rfl (V_assign rfl ?_)
  refine VOps_nil ?_
  refine Then_n ?_
  refine VW_seq ?_
  refine VW_seq ?_
  refine VW_region ?_
  refine VOps_cons rfl rfl (V_move rfl ?_)
  refine VOps_cons rfl rfl (V_lenN (n := l.length) Try.underlying32 rfl (by simp) (fun hl6 => ?_))
  refine VOps_cons rfl rfl (V_move rfl ?_)
  refine VOps_nil ?_
  refine Then_n ?_
  refine VW_block ?_
  refine VW_loopF (ι := Nat) (fun k => l.length - k) (fun k => [(0, some (.sl 1 none (l.map V.int))), (5, some (.sl 1 none (l.map V.int))), (6, some (.int l.length)), (7, some (.int k))]) (fun k => []) (fun k => k ≤ l.length) 0 (Nat.zero_le _) ⟨rfl, rfl, rfl, rfl, trivial⟩ (Drops.nil _) ?_
  rintro k hk
  change k ≤ l.length at hk
  refine VW_seq ?_
  refine VW_region ?_
  refine VOps_cons rfl rfl (V_bin rfl rfl rfl ?_)
  refine VOps_nil ?_
  refine Then_n ?_
  refine VW_seq ?_
  refine VW_condP rfl (fun h8 => ?_) (fun h8 => ?_)
  · skip
    obtain ⟨x, hx⟩ := get_of_lt l k h8
    have hno : ((l.take k).any fun y => decide (x = y)) = false := by rw [List.any_eq_false]; intro y hy; rw [decide_eq_true_eq]; rintro rfl; rw [split_at hx, List.nodup_append] at h; exact h.2.2 x hy x (List.mem_cons_self ..) rfl
    refine VW_skip ?_
    refine Then_n ?_
    refine VW_seq ?_
    refine VW_block ?_
    refine VW_seq ?_
    refine VW_region ?_
    refine VOps_cons rfl rfl (V_move rfl ?_)
    refine VOps_cons rfl rfl (V_indexAddr (el := V.int x) VT.sl32 rfl rfl (by omega) (get_int hx) (fun a10 => ?_))
    refine VOps_cons rfl rfl (V_load_ep VT.ty3 rfl rfl ?_)
    refine VOps_cons rfl rfl (V_assign rfl ?_)
    refine VOps_cons rfl rfl (V_assign rfl ?_)
    refine VOps_nil ?_
    refine Then_n ?_
    refine VW_seq ?_
    refine VW_region ?_
    refine VOps_cons rfl rfl (V_move rfl ?_)
    refine VOps_cons rfl rfl (V_move rfl ?_)
    refine VOps_cons rfl rfl (VOp_as (V_sliceTo VT.sl32 rfl rfl (by omega) (by simp; omega) ⟨rfl, rfl⟩) (V.le.of_eq (v' := .sl 1 none ((l.take k).map V.int)) (by rw [List.map_take]; rfl)) ?_)
    refine VOps_cons rfl rfl (V_move rfl ?_)
    refine VOps_cons rfl rfl (V_callP [.tmp 14, .tmp 15] rfl rfl VT.en83 (intsContains_c (l.take k) none x) ?_)
    refine VOps_nil ?_
    refine Then_n ?_
    refine VW_condF rfl (hno) ?_
    refine VW_skip ?_
    refine InBlock_n (Then_n ?_)
    refine VW_region ?_
    refine VOps_cons rfl rfl (V_add rfl rfl (by omega) ?_)
    refine VOps_cons rfl rfl (V_move rfl ?_)
    refine VOps_nil ?_
    refine Then_n ?_
    exact ⟨k + 1, (by (try simp only []); omega), (by omega), ⟨rfl, rfl, rfl, rfl, trivial⟩, (Drops.nil _)⟩
  · skip
    refine VW_exit ?_
    refine Then_e (Then_e (InBlock_hit ?_))
    refine Then_n ?_
    refine VW_seq ?_
    refine VW_region ?_
    refine VOps_cons rfl rfl (V_assign rfl ?_)
    refine VOps_nil ?_
    refine Then_n ?_
    refine VW_ret ?_
    refine VRet_one rfl (.tmp rfl) ?_
    rfl


end Go.Proofs.Ytmjeaagpcmfnpaa.W23
