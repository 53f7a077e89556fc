/- Walks, printed by walk.py. -/
import Derived.Test.YtmjeaagpcmfnpaaVT
import Derived.Test.YtmjeaagpcmfnpaaVDA
import Derived.Test.YtmjeaagpcmfnpaaVB
import Derived.Test.YtmjeaagpcmfnpaaVN5
import Derived.Test.YtmjeaagpcmfnpaaW9
import Derived.Test.YtmjeaagpcmfnpaaW10
import Derived.Test.YtmjeaagpcmfnpaaW16
import Derived.Test.YtmjeaagpcmfnpaaW20
import Derived.Test.YtmjeaagpcmfnpaaW21
import Derived.Test.YtmjeaagpcmfnpaaW23
import Derived.Test.YtmjeaagpcmfnpaaW24
set_option linter.unusedVariables false
set_option linter.unusedSimpArgs false
namespace Go.Proofs.Ytmjeaagpcmfnpaa.W25
open Go.VL Go.PM Go.Proofs.Ytmjeaagpcmfnpaa Go.Proofs.Ytmjeaagpcmfnpaa.W9 Go.Proofs.Ytmjeaagpcmfnpaa.W10 Go.Proofs.Ytmjeaagpcmfnpaa.W16 Go.Proofs.Ytmjeaagpcmfnpaa.W20 Go.Proofs.Ytmjeaagpcmfnpaa.W21 Go.Proofs.Ytmjeaagpcmfnpaa.W23 Go.Proofs.Ytmjeaagpcmfnpaa.W24

theorem atG_cons {v : Pat} {cur : List Pat} {y : Int} {ys : List Int} {p : Pat} (h : atG v cur (y :: ys) = some p) : ∃ q, cur[y.toNat]? = some q ∧ atG q q.args ys = some p := by
  rw [atG] at h
  cases hq : cur[y.toNat]? with
  | none => rw [hq] at h; cases h
  | some q => rw [hq] at h; exact ⟨q, rfl, h⟩
theorem run_cases {t : List MNode} {vals : List Pat} {k : Nat} {r : Int} (h : RunP t vals k r) : ∃ n, t[k]? = some n ∧ ((n.kind = 0 ∧ r = -1) ∨ (n.kind = 1 ∧ r = n.row) ∨
    (n.kind = 3 ∧ ∃ (p : Pat) (j : Nat), atF vals n.path = some p ∧ p.kind = 2 ∧ n.kids[pickI (idxOf (fun x => decide (p.n = x)) n.words) n.kids.length]? = some (j : Int) ∧ j < k ∧ RunP t vals j r) ∨
    (n.kind = 2 ∧ ∃ (p : Pat) (j : Nat), atF vals n.path = some p ∧ p.kind = 3 ∧ n.kids[pickI (idxOf (fun x => decide (p.name = x)) n.names) n.kids.length]? = some (j : Int) ∧ j < k ∧ RunP t vals j r)) := by
  cases h with
  | fail h1 h2 => exact ⟨_, h1, .inl ⟨h2, rfl⟩⟩
  | row h1 h2 => exact ⟨_, h1, .inr (.inl ⟨h2, rfl⟩)⟩
  | word h1 h2 h3 h4 h5 h6 h7 => exact ⟨_, h1, .inr (.inr (.inl ⟨h2, _, _, h3, h4, h5, h6, h7⟩))⟩
  | con h1 h2 h3 h4 h5 h6 h7 => exact ⟨_, h1, .inr (.inr (.inr ⟨h2, _, _, h3, h4, h5, h6, h7⟩))⟩
theorem pick_lo {i : Int} {l : List Int} {j : Int} (hi : i < 0) (h : l[pickI i l.length]? = some j) : l[((l.length : Int) - 1).toNat]? = some j := by
  rw [pickI, if_pos hi] at h
  rwa [show ((l.length : Int) - 1).toNat = l.length - 1 by omega]
theorem pick_hi {i : Int} {l : List Int} {j : Int} (hi : ¬ i < 0) (h : l[pickI i l.length]? = some j) : l[i.toNat]? = some j := by
  rwa [pickI, if_neg hi] at h
theorem get_len {l : List Int} {i : Nat} {j : Int} (h : l[i]? = some j) : 0 < l.length := by
  have := (List.getElem?_eq_some_iff.1 h).1
  omega

set_option maxRecDepth 100000 in
set_option maxHeartbeats 2000000 in
theorem known_step (n : Nat) (ih : ∀ l, cL l < n → VPure Try.prog 25 [patsX l] (.bool (knownL l))) (l : List Pat) (h : cL l < n + 1) : VPure Try.prog 25 [patsX l] (.bool (knownL l)) := by
 refine V_start (nt := 26) Try.func25 rfl rfl rfl ?_
 refine VW_seq ?_
 refine VW_region ?_
 refine VOps_cons rfl rfl (V_assign rfl ?_)
 refine VOps_nil ?_
 refine Then_n ?_
 refine VW_seq ?_
 refine VW_seq ?_
 refine VW_region ?_
 refine VOps_cons rfl rfl (V_move rfl ?_)
 refine VOps_cons rfl rfl (V_lenN (n := l.length) Try.underlying25 rfl (by simp) (fun hl6 => ?_))
 refine VOps_cons rfl rfl (V_move rfl ?_)
 refine VOps_nil ?_
 refine Then_n ?_
 refine VW_block ?_
 refine VW_loopF (ι := Nat) (fun k => l.length - k) (fun k => [(5, some (patsX l)), (6, some (.int l.length)), (7, some (.int k))]) (fun k => []) (fun k => k ≤ l.length ∧ knownL (l.drop k) = knownL l) 0 ⟨Nat.zero_le _, rfl⟩ ⟨rfl, rfl, rfl, trivial⟩ (Drops.nil _) ?_
 rintro k hA
 change k ≤ l.length ∧ knownL (l.drop k) = knownL l at hA
 obtain ⟨hk, hq⟩ := hA
 refine VW_seq ?_
 refine VW_region ?_
 refine VOps_cons rfl rfl (V_bin rfl rfl rfl ?_)
 refine VOps_nil ?_
 refine Then_n ?_
 refine VW_seq ?_
 refine VW_condP rfl (fun h8 => ?_) (fun h8 => ?_)
 ·
  obtain ⟨p, hp⟩ := get_of_lt l k h8
  have hlt := args_lt (List.mem_of_getElem? hp) h
  have hst : knownP p = false → knownL l = false := fun e => by rw [← hq, drop_cons hp, knownL, e, Bool.false_and]
  refine VW_skip ?_
  refine Then_n ?_
  refine VW_seq ?_
  refine VW_block ?_
  refine VW_seq ?_
  refine VW_region ?_
  refine VOps_cons rfl rfl (V_indexAddr (el := patX p) VT.sl25 rfl rfl (by omega) (get_patS hp) (fun a9 => ?_))
  refine VOps_cons rfl rfl (V_load_ep_agg VT.ty30 rfl rfl ?_)
  refine VOps_cons rfl rfl (V_alloc VT.zr30 _ rfl rfl (fun g4 => ?_))
  refine VOps_cons rfl rfl (V_store_agg 0 VT.ty30 rfl rfl rfl rfl rfl ?_)
  refine VOps_nil ?_
  refine Then_n ?_
  refine VW_seq ?_
  refine VW_region ?_
  refine VOps_cons rfl rfl (V_fieldAddr VT.fa30_0 rfl ?_)
  refine VOps_cons rfl rfl (V_load 0 VT.ty3 rfl rfl rfl ?_)
  refine VOps_cons rfl rfl (V_bin rfl rfl rfl ?_)
  refine VOps_cons rfl rfl (V_move rfl ?_)
  refine VOps_split (q := 14) rfl (fun hq14 => ?_) (fun hq14 => ?_)
  ·
   have h2 : p.kind ≠ 2 := by simpa using hq14
   refine VOps_cons (want_of rfl rfl rfl hq14) rfl (V_fieldAddr VT.fa30_0 rfl ?_)
   refine VOps_cons (want_of rfl rfl rfl hq14) rfl (V_load 0 VT.ty3 rfl rfl rfl ?_)
   refine VOps_cons (want_of rfl rfl rfl hq14) rfl (V_bin rfl rfl rfl ?_)
   refine VOps_cons rfl rfl (V_pickT rfl hq14 rfl ?_)
   refine VOps_cons rfl rfl (V_move rfl ?_)
   refine VOps_split (q := 19) rfl (fun hq19 => ?_) (fun hq19 => ?_)
   ·
    have h23 : p.kind ≠ 2 ∧ p.kind ≠ 3 := by first | exact ⟨h2, by simpa using hq19⟩ | exact absurd hq19 (by simp)
    refine VOps_skipU (.inl (skip_of rfl rfl rfl hq19)) rfl ?_
    refine VOps_skipU (.inl (skip_of rfl rfl rfl hq19)) rfl ?_
    refine VOps_skipU (.inl (skip_of rfl rfl rfl hq19)) rfl ?_
    refine VOps_skipU (.inl (skip_of rfl rfl rfl hq19)) rfl ?_
    refine VOps_cons rfl rfl (V_pickT rfl hq19 rfl ?_)
    refine VOps_nil ?_
    refine Then_n ?_
    refine VW_condT rfl rfl ?_
    refine VW_seq ?_
    refine VW_region ?_
    refine VOps_cons rfl rfl (V_assign rfl ?_)
    refine VOps_nil ?_
    refine Then_n ?_
    refine VW_ret ?_
    refine InBlock_r (Then_r (Then_r (InBlock_r (Then_r (VRet_one rfl (.tmp rfl) ?_)))))
    first | (rw [hst (by rw [knownP_eq, decide_eq_false h23.1, decide_eq_false h23.2]; rfl)]; done) | (rw [hst (by rw [knownP_eq, hbad, Bool.and_false])]; done) | (rw [← hq])
   ·
    have h23 : p.kind = 2 ∨ p.kind = 3 := by first | exact .inl h2 | exact .inr (by simpa using hq19)
    refine VOps_cons (want_of rfl rfl rfl hq19) rfl (V_fieldAddr VT.fa30_3 rfl ?_)
    refine VOps_cons (want_of rfl rfl rfl hq19) rfl (V_load 0 VT.ty25 rfl rfl rfl ?_)
    refine VOps_cons (want_of rfl rfl rfl hq19) rfl (V_callP [.tmp 21] rfl rfl VT.en25 (ih p.args hlt) ?_)
    refine VOps_cons (want_of rfl rfl rfl hq19) rfl (V_not rfl ?_)
    refine VOps_cons rfl rfl (V_pickF rfl hq19 rfl ?_)
    refine VOps_nil ?_
    refine Then_n ?_
    refine VW_condN rfl (fun h24 => ?_) (fun h24 => ?_)
    ·
     have hbad : knownL p.args = false := by simpa using h24
     refine VW_seq ?_
     refine VW_region ?_
     refine VOps_cons rfl rfl (V_assign rfl ?_)
     refine VOps_nil ?_
     refine Then_n ?_
     refine VW_ret ?_
     refine InBlock_r (Then_r (Then_r (InBlock_r (Then_r (VRet_one rfl (.tmp rfl) ?_)))))
     first | (rw [hst (by rw [knownP_eq, decide_eq_false h23.1, decide_eq_false h23.2]; rfl)]; done) | (rw [hst (by rw [knownP_eq, hbad, Bool.and_false])]; done) | (rw [← hq])
    ·
     have e : knownL p.args = true := by simpa using h24
     have hkp : knownP p = true := by rw [knownP_eq, e]; rcases h23 with h | h <;> simp [h]
     refine VW_skip ?_
     refine InBlock_n (Then_n ?_)
     refine VW_region ?_
     refine VOps_cons rfl rfl (V_add rfl rfl (by omega) ?_)
     refine VOps_cons rfl rfl (V_move rfl ?_)
     refine VOps_nil ?_
     refine Then_n ?_
     exact ⟨k + 1, (by (try simp only []); omega), ⟨by omega, by rw [← hq, drop_cons hp, knownL, hkp, Bool.true_and]⟩, ⟨rfl, rfl, rfl, trivial⟩, (Drops.nil _)⟩
  ·
   have h2 : p.kind = 2 := by simpa using hq14
   have h23 : p.kind = 2 ∨ p.kind = 3 := .inl h2
   refine VOps_skipU (.inl (skip_of rfl rfl rfl hq14)) rfl ?_
   refine VOps_skipU (.inl (skip_of rfl rfl rfl hq14)) rfl ?_
   refine VOps_skipU (.inl (skip_of rfl rfl rfl hq14)) rfl ?_
   refine VOps_cons rfl rfl (V_pickF rfl hq14 rfl ?_)
   refine VOps_cons rfl rfl (V_move rfl ?_)
   refine VOps_cons (want_of rfl rfl rfl rfl) rfl (V_fieldAddr VT.fa30_3 rfl ?_)
   refine VOps_cons (want_of rfl rfl rfl rfl) rfl (V_load 0 VT.ty25 rfl rfl rfl ?_)
   refine VOps_cons (want_of rfl rfl rfl rfl) rfl (V_callP [.tmp 21] rfl rfl VT.en25 (ih p.args hlt) ?_)
   refine VOps_cons (want_of rfl rfl rfl rfl) rfl (V_not rfl ?_)
   refine VOps_cons rfl rfl (V_pickF rfl rfl rfl ?_)
   refine VOps_nil ?_
   refine Then_n ?_
   refine VW_condN rfl (fun h24 => ?_) (fun h24 => ?_)
   ·
    have hbad : knownL p.args = false := by simpa using h24
    refine VW_seq ?_
    refine VW_region ?_
    refine VOps_cons rfl rfl (V_assign rfl ?_)
    refine VOps_nil ?_
    refine Then_n ?_
    refine VW_ret ?_
    refine InBlock_r (Then_r (Then_r (InBlock_r (Then_r (VRet_one rfl (.tmp rfl) ?_)))))
    first | (rw [hst (by rw [knownP_eq, decide_eq_false h23.1, decide_eq_false h23.2]; rfl)]; done) | (rw [hst (by rw [knownP_eq, hbad, Bool.and_false])]; done) | (rw [← hq])
   ·
    have e : knownL p.args = true := by simpa using h24
    have hkp : knownP p = true := by rw [knownP_eq, e]; rcases h23 with h | h <;> simp [h]
    refine VW_skip ?_
    refine InBlock_n (Then_n ?_)
    refine VW_region ?_
    refine VOps_cons rfl rfl (V_add rfl rfl (by omega) ?_)
    refine VOps_cons rfl rfl (V_move rfl ?_)
    refine VOps_nil ?_
    refine Then_n ?_
    exact ⟨k + 1, (by (try simp only []); omega), ⟨by omega, by rw [← hq, drop_cons hp, knownL, hkp, Bool.true_and]⟩, ⟨rfl, rfl, rfl, trivial⟩, (Drops.nil _)⟩
 ·
  have hke : k = l.length := by omega
  subst hke
  rw [List.drop_length, knownL] at hq
  refine VW_exit ?_
  refine Then_e (Then_e (InBlock_hit ?_))
  refine Then_n ?_
  refine VW_seq ?_
  refine VW_region ?_
  refine VOps_cons rfl rfl (V_assign rfl ?_)
  refine VOps_nil ?_
  refine Then_n ?_
  refine VW_ret ?_
  refine VRet_one rfl (.tmp rfl) ?_
  first | (rw [hst (by rw [knownP_eq, decide_eq_false h23.1, decide_eq_false h23.2]; rfl)]; done) | (rw [hst (by rw [knownP_eq, hbad, Bool.and_false])]; done) | (rw [← hq])


theorem knownL_c : ∀ (n : Nat) (l : List Pat), cL l < n → VPure Try.prog 25 [patsX l] (.bool (knownL l))
  | 0, l, h => absurd h (Nat.not_lt_zero _)
  | n + 1, l, h => known_step n (fun l h => knownL_c n l h) l h

set_option maxRecDepth 100000 in
set_option maxHeartbeats 2000000 in
theorem at_c (vals : List Pat) (path : List Int) (hnn : ∀ x ∈ path, 0 ≤ x) (p : Pat) (h : atF vals path = some p) : VPure Try.prog 35 [patsX vals, intsX path] (.tup [patX p, .bool true]) := by
 refine V_start (nt := 28) Try.func35 rfl rfl rfl ?_
 refine VW_seq ?_
 refine VW_region ?_
 refine VOps_cons rfl rfl (V_alloc VT.zr30 _ rfl rfl (fun g4 => ?_))
 refine VOps_cons rfl rfl (V_assign rfl ?_)
 refine VOps_nil ?_
 refine Then_n ?_
 refine VW_seq ?_
 refine VW_region ?_
 refine VOps_cons rfl rfl (V_alloc VT.zr30 _ rfl rfl (fun g6 => ?_))
 refine VOps_nil ?_
 refine Then_n ?_
 refine VW_cells 0 (ls' := [.int 0, .str [], .int 0, patsX []]) rfl ⟨V.le.refl _, rfl, V.le.refl _, rfl, V.le.refl _, rfl, V.le.nil 4, rfl, trivial⟩ ?_
 refine VW_seq ?_
 refine VW_seq ?_
 refine VW_region ?_
 refine VOps_cons rfl rfl (V_move rfl ?_)
 refine VOps_cons rfl rfl (V_lenN (n := path.length) Try.underlying32 rfl (by simp) (fun hl10 => ?_))
 refine VOps_cons rfl rfl (V_move rfl ?_)
 refine VOps_nil ?_
 refine Then_n ?_
 refine VW_block ?_
 refine VW_loopF (ι := Nat × Pat × List Pat) (fun (i, v, cur) => path.length - i) (fun (i, v, cur) => [(0, some (patsX cur)), (4, some (.ptr g4 0)), (6, some (.ptr g6 0)), (9, some (intsX path)), (10, some (.int path.length)), (11, some (.int i))]) (fun (i, v, cur) => [.cells g6 30 [.int v.kind, .str v.name, .int v.n, patsX v.args], .cells g4 30 VT.zs30]) (fun (i, v, cur) => i ≤ path.length ∧ atG v cur (path.drop i) = some p) (0, anyP, vals) ⟨Nat.zero_le _, h⟩ ⟨rfl, rfl, rfl, rfl, rfl, rfl, trivial⟩ (Drops.keepE rfl (Drops.keep (Drops.refl _))) ?_
 rintro ⟨i, v, cur⟩ hA
 change i ≤ path.length ∧ atG v cur (path.drop i) = some p at hA
 obtain ⟨hi, hq⟩ := hA
 refine VW_seq ?_
 refine VW_region ?_
 refine VOps_cons rfl rfl (V_bin rfl rfl rfl ?_)
 refine VOps_nil ?_
 refine Then_n ?_
 refine VW_seq ?_
 refine VW_condP rfl (fun h12 => ?_) (fun h12 => ?_)
 ·
  obtain ⟨y, hy⟩ := get_of_lt path i h12
  have hy0 := hnn y (List.mem_of_getElem? hy)
  rw [drop_cons hy] at hq
  obtain ⟨q, hcq, hq2⟩ := atG_cons hq
  have hcl := (List.getElem?_eq_some_iff.1 hcq).1
  refine VW_skip ?_
  refine Then_n ?_
  refine VW_seq ?_
  refine VW_block ?_
  refine VW_seq ?_
  refine VW_region ?_
  refine VOps_cons rfl rfl (V_indexAddr (el := V.int y) VT.sl32 rfl rfl (by omega) (get_int hy) (fun a13 => ?_))
  refine VOps_cons rfl rfl (V_load_ep VT.ty3 rfl rfl ?_)
  refine VOps_cons rfl rfl (V_assign rfl ?_)
  refine VOps_nil ?_
  refine Then_n ?_
  refine VW_seq ?_
  refine VW_seq ?_
  refine VW_region ?_
  refine VOps_cons rfl rfl (V_move rfl ?_)
  refine VOps_cons rfl rfl (V_move rfl ?_)
  refine VOps_cons rfl rfl (V_lenN (n := cur.length) Try.underlying25 rfl (by simp) (fun hl17 => ?_))
  refine VOps_cons rfl rfl (V_bin rfl rfl rfl ?_)
  refine VOps_nil ?_
  refine Then_n ?_
  refine VW_condP rfl (fun h18 => ?_) (fun h18 => ?_)
  · omega
  ·
   refine VW_skip ?_
   refine Then_n ?_
   refine VW_seq ?_
   refine VW_region ?_
   refine VOps_cons rfl rfl (V_move rfl ?_)
   refine VOps_cons rfl rfl (V_move rfl ?_)
   refine VOps_cons rfl rfl (V_indexAddr (el := patX q) VT.sl25 rfl rfl (by omega) (get_patS hcq) (fun a22 => ?_))
   refine VOps_cons rfl rfl (V_load_ep_agg VT.ty30 rfl rfl ?_)
   refine VOps_cons rfl rfl (V_store_agg 0 VT.ty30 rfl rfl rfl rfl rfl ?_)
   refine VOps_nil ?_
   refine Then_n ?_
   refine VW_region ?_
   refine VOps_cons rfl rfl (V_fieldAddr VT.fa30_3 rfl ?_)
   refine VOps_cons rfl rfl (V_load 0 VT.ty25 rfl rfl rfl ?_)
   refine VOps_cons rfl rfl (V_assign rfl ?_)
   refine VOps_nil ?_
   refine InBlock_n (Then_n ?_)
   refine VW_region ?_
   refine VOps_cons rfl rfl (V_add rfl rfl (by omega) ?_)
   refine VOps_cons rfl rfl (V_move rfl ?_)
   refine VOps_nil ?_
   refine Then_n ?_
   exact ⟨(i + 1, q, q.args), (by (try simp only []); omega), ⟨by omega, hq2⟩, ⟨rfl, rfl, rfl, rfl, rfl, rfl, trivial⟩, (Drops.keepE rfl (Drops.keep (Drops.refl _)))⟩
 ·
  have hie : i = path.length := by omega
  subst hie
  rw [List.drop_length, atG] at hq
  injection hq with hq
  subst hq
  refine VW_exit ?_
  refine Then_e (Then_e (InBlock_hit ?_))
  refine Then_n ?_
  refine VW_seq ?_
  refine VW_region ?_
  refine VOps_cons rfl rfl (V_load_agg 0 VT.ty30 rfl rfl rfl ?_)
  refine VOps_cons rfl rfl (V_store_agg 1 VT.ty30 rfl rfl rfl rfl rfl ?_)
  refine VOps_cons rfl rfl (V_assign rfl ?_)
  refine VOps_nil ?_
  refine Then_n ?_
  refine VW_ret ?_
  refine VRet_many rfl rfl (.cons (.agg (i := 1) VT.ty30 rfl rfl rfl) (.cons (.tmp rfl) (.nil))) ?_
  rfl


set_option maxRecDepth 100000 in
set_option maxHeartbeats 8000000 in
theorem run_c (ds : List DataSig) (t : Tab) (hb : buildF 0 ds [] = some t) (l : List MNode) (h0 : l.length ≠ 0) (h4 : l.length ≤ 4096) (hnod : ∀ (k : Nat) n, l[k]? = some n → NodeP t ds n ∧ ∀ y ∈ n.kids, y < (k : Int)) (vals : List Pat) (r : Int) (hr : RunP l vals (l.length - 1) r) : VPure Try.prog 26 [datasX ds, nodesX l, patsX vals] (.tup [.int r, .int 0]) := by
 refine V_start (nt := 76) Try.func26 rfl rfl rfl ?_
 refine VW_seq ?_
 refine VW_region ?_
 refine VOps_cons rfl rfl (V_assign rfl ?_)
 refine VOps_cons rfl rfl (V_assign rfl ?_)
 refine VOps_nil ?_
 refine Then_n ?_
 refine VW_seq ?_
 refine VW_seq ?_
 refine VW_region ?_
 refine VOps_cons rfl rfl (V_move rfl ?_)
 refine VOps_cons rfl rfl (V_move rfl ?_)
 refine VOps_cons rfl rfl (V_callP [.tmp 14, .tmp 15] rfl rfl VT.en22 (mcheck_c ds t hb l h0 h4 hnod) ?_)
 refine VOps_cons rfl rfl (V_assign rfl ?_)
 refine VOps_nil ?_
 refine Then_n ?_
 refine VW_seq ?_
 refine VW_region ?_
 refine VOps_cons rfl rfl (V_move rfl ?_)
 refine VOps_cons rfl rfl (V_bin rfl rfl rfl ?_)
 refine VOps_nil ?_
 refine Then_n ?_
 refine VW_condF rfl (rfl) ?_
 refine VW_skip ?_
 refine Then_n ?_
 refine VW_seq ?_
 refine VW_region ?_
 refine VOps_cons rfl rfl (V_move rfl ?_)
 refine VOps_cons rfl rfl (V_lenN (n := l.length) Try.underlying40 rfl (by simp) (fun hl21 => ?_))
 refine VOps_cons rfl rfl (V_sub rfl rfl (by omega) ?_)
 refine VOps_cons rfl rfl (V_assign rfl ?_)
 refine VOps_nil ?_
 refine Then_n ?_
 refine VW_block ?_
 refine VW_loopF (ι := Nat) (fun k => k) (fun k => [(1, some (nodesX l)), (2, some (patsX vals)), (9, some (.int k))]) (fun k => []) (fun k => RunP l vals k r) (l.length - 1) hr ⟨rfl, rfl, (congrArg (fun z => some (V.int z)) (by omega)), trivial⟩ (Drops.nil _) ?_
 rintro k hA
 change RunP l vals k r at hA
 obtain ⟨n, hn, hcase⟩ := run_cases hA
 obtain ⟨hnp, _⟩ := hnod k n hn
 refine VW_block ?_
 refine VW_seq ?_
 refine VW_region ?_
 refine VOps_cons rfl rfl (V_move rfl ?_)
 refine VOps_cons rfl rfl (V_move rfl ?_)
 refine VOps_cons rfl rfl (V_indexAddr (el := nodeX n) VT.sl40 rfl rfl (by omega) (get_mapS _ hn) (fun a25 => ?_))
 refine VOps_cons rfl rfl (V_load_ep_agg VT.ty49 rfl rfl ?_)
 refine VOps_cons rfl rfl (V_alloc VT.zr49 _ rfl rfl (fun g10 => ?_))
 refine VOps_cons rfl rfl (V_store_agg 0 VT.ty49 rfl rfl rfl rfl rfl ?_)
 refine VOps_nil ?_
 refine Then_n ?_
 refine VW_seq ?_
 refine VW_seq ?_
 refine VW_region ?_
 refine VOps_cons rfl rfl (V_fieldAddr VT.fa49_0 rfl ?_)
 rcases hcase with ⟨hk, hrr⟩ | ⟨hk, hrr⟩ | ⟨hk, p, j, hat, hpk, hkid, hjk, hrun2⟩ | ⟨hk, p, j, hat, hpk, hkid, hjk, hrun2⟩
 ·
  refine VOps_cons rfl rfl (V_load 0 VT.ty3 rfl rfl rfl ?_)
  refine VOps_nil ?_
  refine Then_n ?_
  refine VW_block ?_
  refine VW_seq ?_
  refine VW_region ?_
  refine VOps_cons rfl rfl (V_bin rfl rfl rfl ?_)
  refine VOps_cons rfl rfl (V_assign rfl ?_)
  refine VOps_nil ?_
  refine Then_n ?_
  refine VW_condT rfl ((by rw [hk]; rfl)) ?_
  refine VW_seq ?_
  refine VW_region ?_
  refine VOps_cons rfl rfl (V_assign rfl ?_)
  refine VOps_cons rfl rfl (V_assign rfl ?_)
  refine VOps_nil ?_
  refine Then_n ?_
  refine VW_ret ?_
  refine InBlock_r (Then_r (InBlock_r (Then_r (InBlock_r (VRet_many rfl rfl (.cons (.tmp rfl) (.cons (.tmp rfl) (.nil))) ?_)))))
  rw [hrr]
 ·
  refine VOps_cons rfl rfl (V_load 0 VT.ty3 rfl rfl rfl ?_)
  refine VOps_nil ?_
  refine Then_n ?_
  refine VW_block ?_
  refine VW_seq ?_
  refine VW_region ?_
  refine VOps_cons rfl rfl (V_bin rfl rfl rfl ?_)
  refine VOps_cons rfl rfl (V_assign rfl ?_)
  refine VOps_nil ?_
  refine Then_n ?_
  refine VW_condF rfl ((by rw [hk]; rfl)) ?_
  refine VW_seq ?_
  refine VW_region ?_
  refine VOps_cons rfl rfl (V_bin rfl rfl rfl ?_)
  refine VOps_cons rfl rfl (V_assign rfl ?_)
  refine VOps_nil ?_
  refine Then_n ?_
  refine VW_condT rfl ((by rw [hk]; rfl)) ?_
  refine VW_seq ?_
  refine VW_region ?_
  refine VOps_cons rfl rfl (V_fieldAddr VT.fa49_1 rfl ?_)
  refine VOps_cons rfl rfl (V_load 0 VT.ty3 rfl rfl rfl ?_)
  refine VOps_cons rfl rfl (V_assign rfl ?_)
  refine VOps_cons rfl rfl (V_assign rfl ?_)
  refine VOps_nil ?_
  refine Then_n ?_
  refine VW_ret ?_
  refine InBlock_r (Then_r (InBlock_r (Then_r (InBlock_r (VRet_many rfl rfl (.cons (.tmp rfl) (.cons (.tmp rfl) (.nil))) ?_)))))
  rw [hrr]
 ·
  refine VOps_cons rfl rfl (V_load 0 VT.ty3 rfl rfl rfl ?_)
  refine VOps_nil ?_
  refine Then_n ?_
  refine VW_block ?_
  refine VW_seq ?_
  refine VW_region ?_
  refine VOps_cons rfl rfl (V_bin rfl rfl rfl ?_)
  refine VOps_cons rfl rfl (V_assign rfl ?_)
  refine VOps_nil ?_
  refine Then_n ?_
  refine VW_condF rfl ((by rw [hk]; rfl)) ?_
  refine VW_seq ?_
  refine VW_region ?_
  refine VOps_cons rfl rfl (V_bin rfl rfl rfl ?_)
  refine VOps_cons rfl rfl (V_assign rfl ?_)
  refine VOps_nil ?_
  refine Then_n ?_
  refine VW_condF rfl ((by rw [hk]; rfl)) ?_
  refine VW_skip ?_
  refine InBlock_n (Then_n ?_)
  refine VW_seq ?_
  refine VW_region ?_
  refine VOps_cons rfl rfl (V_move rfl ?_)
  refine VOps_cons rfl rfl (V_fieldAddr VT.fa49_2 rfl ?_)
  refine VOps_cons rfl rfl (V_load 0 VT.ty32 rfl rfl rfl ?_)
  refine VOps_cons rfl rfl (V_callP [.tmp 36, .tmp 38] rfl rfl VT.en35 (at_c vals n.path hnp.path p hat) ?_)
  refine VOps_cons rfl rfl (V_move rfl ?_)
  refine VOps_cons rfl rfl (V_extract rfl rfl ?_)
  refine VOps_cons rfl rfl (V_extract rfl rfl ?_)
  refine VOps_cons rfl rfl (V_alloc VT.zr30 _ rfl rfl (fun g11 => ?_))
  refine VOps_cons rfl rfl (V_store_agg 0 VT.ty30 rfl rfl rfl rfl rfl ?_)
  refine VOps_cons rfl rfl (V_assign rfl ?_)
  refine VOps_nil ?_
  refine Then_n ?_
  refine VW_seq ?_
  refine VW_seq ?_
  refine VW_region ?_
  refine VOps_cons rfl rfl (V_move rfl ?_)
  refine VOps_cons rfl rfl (V_not rfl ?_)
  refine VOps_nil ?_
  refine Then_n ?_
  refine VW_condF rfl (rfl) ?_
  refine VW_skip ?_
  refine Then_n ?_
  refine VW_seq ?_
  refine VW_region ?_
  refine VOps_cons rfl rfl (V_assign rfl ?_)
  refine VOps_nil ?_
  refine Then_n ?_
  refine VW_seq ?_
  refine VW_seq ?_
  refine VW_region ?_
  refine VOps_cons rfl rfl (V_fieldAddr VT.fa49_0 rfl ?_)
  refine VOps_cons rfl rfl (V_load 1 VT.ty3 rfl rfl rfl ?_)
  refine VOps_cons rfl rfl (V_bin rfl rfl rfl ?_)
  refine VOps_nil ?_
  refine Then_n ?_
  refine VW_condT rfl ((by rw [hk]; rfl)) ?_
  refine VW_seq ?_
  refine VW_seq ?_
  refine VW_region ?_
  refine VOps_cons rfl rfl (V_fieldAddr VT.fa30_0 rfl ?_)
  refine VOps_cons rfl rfl (V_load 0 VT.ty3 rfl rfl rfl ?_)
  refine VOps_cons rfl rfl (V_bin rfl rfl rfl ?_)
  refine VOps_nil ?_
  refine Then_n ?_
  refine VW_condF rfl ((by rw [hpk]; rfl)) ?_
  refine VW_skip ?_
  refine Then_n ?_
  refine VW_region ?_
  refine VOps_cons rfl rfl (V_fieldAddr VT.fa49_4 rfl ?_)
  refine VOps_cons rfl rfl (V_load 1 VT.ty32 rfl rfl rfl ?_)
  refine VOps_cons rfl rfl (V_fieldAddr VT.fa30_2 rfl ?_)
  refine VOps_cons rfl rfl (V_load 0 VT.ty3 rfl rfl rfl ?_)
  refine VOps_cons rfl rfl (V_callP [.tmp 51, .tmp 53] rfl rfl VT.en36 (intsIndex_c n.words none p.n) ?_)
  refine VOps_cons rfl rfl (V_assign rfl ?_)
  refine VOps_nil ?_
  refine Then_n ?_
  refine VW_seq ?_
  refine VW_seq ?_
  refine VW_region ?_
  refine VOps_cons rfl rfl (V_move rfl ?_)
  refine VOps_cons rfl rfl (V_bin rfl rfl rfl ?_)
  refine VOps_nil ?_
  refine Then_n ?_
  refine VW_condP rfl (fun h64 => ?_) (fun h64 => ?_)
  ·
   have hki := pick_lo h64 hkid
   have hkl := get_len hki
   refine VW_region ?_
   refine VOps_cons rfl rfl (V_fieldAddr VT.fa49_5 rfl ?_)
   refine VOps_cons rfl rfl (V_load 1 VT.ty32 rfl rfl rfl ?_)
   refine VOps_cons rfl rfl (V_lenN (n := n.kids.length) Try.underlying32 rfl (by simp) (fun hl67 => ?_))
   refine VOps_cons rfl rfl (V_sub rfl rfl (by omega) ?_)
   refine VOps_cons rfl rfl (V_assign rfl ?_)
   refine VOps_nil ?_
   refine Then_n ?_
   refine VW_seq ?_
   refine VW_region ?_
   refine VOps_cons rfl rfl (V_fieldAddr VT.fa49_5 rfl ?_)
   refine VOps_cons rfl rfl (V_load 1 VT.ty32 rfl rfl rfl ?_)
   refine VOps_cons rfl rfl (V_move rfl ?_)
   refine VOps_cons rfl rfl (V_indexAddr (el := V.int j) VT.sl32 rfl rfl (by omega) (get_int hki) (fun a72 => ?_))
   refine VOps_cons rfl rfl (V_load_ep VT.ty3 rfl rfl ?_)
   refine VOps_cons rfl rfl (V_assign rfl ?_)
   refine VOps_nil ?_
   refine Then_n ?_
   refine VW_seq ?_
   refine VW_region ?_
   refine VOps_cons rfl rfl (V_move rfl ?_)
   refine VOps_cons rfl rfl (V_bin rfl rfl rfl ?_)
   refine VOps_nil ?_
   refine Then_n ?_
   refine VW_condP rfl (fun h75 => ?_) (fun h75 => ?_)
   · omega
   ·
    refine VW_skip ?_
    refine InBlock_n (Then_n ?_)
    exact ⟨j, (by (try simp only []); omega), hrun2, ⟨rfl, rfl, rfl, trivial⟩, (Drops.nil _)⟩
  ·
   have hki := pick_hi h64 hkid
   refine VW_skip ?_
   refine Then_n ?_
   refine VW_seq ?_
   refine VW_region ?_
   refine VOps_cons rfl rfl (V_fieldAddr VT.fa49_5 rfl ?_)
   refine VOps_cons rfl rfl (V_load 1 VT.ty32 rfl rfl rfl ?_)
   refine VOps_cons rfl rfl (V_move rfl ?_)
   refine VOps_cons rfl rfl (V_indexAddr (el := V.int j) VT.sl32 rfl rfl (by omega) (get_int hki) (fun a72 => ?_))
   refine VOps_cons rfl rfl (V_load_ep VT.ty3 rfl rfl ?_)
   refine VOps_cons rfl rfl (V_assign rfl ?_)
   refine VOps_nil ?_
   refine Then_n ?_
   refine VW_seq ?_
   refine VW_region ?_
   refine VOps_cons rfl rfl (V_move rfl ?_)
   refine VOps_cons rfl rfl (V_bin rfl rfl rfl ?_)
   refine VOps_nil ?_
   refine Then_n ?_
   refine VW_condP rfl (fun h75 => ?_) (fun h75 => ?_)
   · omega
   ·
    refine VW_skip ?_
    refine InBlock_n (Then_n ?_)
    exact ⟨j, (by (try simp only []); omega), hrun2, ⟨rfl, rfl, rfl, trivial⟩, (Drops.nil _)⟩
 ·
  refine VOps_cons rfl rfl (V_load 0 VT.ty3 rfl rfl rfl ?_)
  refine VOps_nil ?_
  refine Then_n ?_
  refine VW_block ?_
  refine VW_seq ?_
  refine VW_region ?_
  refine VOps_cons rfl rfl (V_bin rfl rfl rfl ?_)
  refine VOps_cons rfl rfl (V_assign rfl ?_)
  refine VOps_nil ?_
  refine Then_n ?_
  refine VW_condF rfl ((by rw [hk]; rfl)) ?_
  refine VW_seq ?_
  refine VW_region ?_
  refine VOps_cons rfl rfl (V_bin rfl rfl rfl ?_)
  refine VOps_cons rfl rfl (V_assign rfl ?_)
  refine VOps_nil ?_
  refine Then_n ?_
  refine VW_condF rfl ((by rw [hk]; rfl)) ?_
  refine VW_skip ?_
  refine InBlock_n (Then_n ?_)
  refine VW_seq ?_
  refine VW_region ?_
  refine VOps_cons rfl rfl (V_move rfl ?_)
  refine VOps_cons rfl rfl (V_fieldAddr VT.fa49_2 rfl ?_)
  refine VOps_cons rfl rfl (V_load 0 VT.ty32 rfl rfl rfl ?_)
  refine VOps_cons rfl rfl (V_callP [.tmp 36, .tmp 38] rfl rfl VT.en35 (at_c vals n.path hnp.path p hat) ?_)
  refine VOps_cons rfl rfl (V_move rfl ?_)
  refine VOps_cons rfl rfl (V_extract rfl rfl ?_)
  refine VOps_cons rfl rfl (V_extract rfl rfl ?_)
  refine VOps_cons rfl rfl (V_alloc VT.zr30 _ rfl rfl (fun g11 => ?_))
  refine VOps_cons rfl rfl (V_store_agg 0 VT.ty30 rfl rfl rfl rfl rfl ?_)
  refine VOps_cons rfl rfl (V_assign rfl ?_)
  refine VOps_nil ?_
  refine Then_n ?_
  refine VW_seq ?_
  refine VW_seq ?_
  refine VW_region ?_
  refine VOps_cons rfl rfl (V_move rfl ?_)
  refine VOps_cons rfl rfl (V_not rfl ?_)
  refine VOps_nil ?_
  refine Then_n ?_
  refine VW_condF rfl (rfl) ?_
  refine VW_skip ?_
  refine Then_n ?_
  refine VW_seq ?_
  refine VW_region ?_
  refine VOps_cons rfl rfl (V_assign rfl ?_)
  refine VOps_nil ?_
  refine Then_n ?_
  refine VW_seq ?_
  refine VW_seq ?_
  refine VW_region ?_
  refine VOps_cons rfl rfl (V_fieldAddr VT.fa49_0 rfl ?_)
  refine VOps_cons rfl rfl (V_load 1 VT.ty3 rfl rfl rfl ?_)
  refine VOps_cons rfl rfl (V_bin rfl rfl rfl ?_)
  refine VOps_nil ?_
  refine Then_n ?_
  refine VW_condF rfl ((by rw [hk]; rfl)) ?_
  refine VW_seq ?_
  refine VW_seq ?_
  refine VW_region ?_
  refine VOps_cons rfl rfl (V_fieldAddr VT.fa30_0 rfl ?_)
  refine VOps_cons rfl rfl (V_load 0 VT.ty3 rfl rfl rfl ?_)
  refine VOps_cons rfl rfl (V_bin rfl rfl rfl ?_)
  refine VOps_nil ?_
  refine Then_n ?_
  refine VW_condF rfl ((by rw [hpk]; rfl)) ?_
  refine VW_skip ?_
  refine Then_n ?_
  refine VW_region ?_
  refine VOps_cons rfl rfl (V_fieldAddr VT.fa49_3 rfl ?_)
  refine VOps_cons rfl rfl (V_load 1 VT.ty47 rfl rfl rfl ?_)
  refine VOps_cons rfl rfl (V_fieldAddr VT.fa30_1 rfl ?_)
  refine VOps_cons rfl rfl (V_load 0 VT.ty9 rfl rfl rfl ?_)
  refine VOps_cons rfl rfl (V_callP [.tmp 59, .tmp 61] rfl rfl VT.en37 (strsIndex_c n.names none p.name) ?_)
  refine VOps_cons rfl rfl (V_assign rfl ?_)
  refine VOps_nil ?_
  refine Then_n ?_
  refine VW_seq ?_
  refine VW_seq ?_
  refine VW_region ?_
  refine VOps_cons rfl rfl (V_move rfl ?_)
  refine VOps_cons rfl rfl (V_bin rfl rfl rfl ?_)
  refine VOps_nil ?_
  refine Then_n ?_
  refine VW_condP rfl (fun h64 => ?_) (fun h64 => ?_)
  ·
   have hki := pick_lo h64 hkid
   have hkl := get_len hki
   refine VW_region ?_
   refine VOps_cons rfl rfl (V_fieldAddr VT.fa49_5 rfl ?_)
   refine VOps_cons rfl rfl (V_load 1 VT.ty32 rfl rfl rfl ?_)
   refine VOps_cons rfl rfl (V_lenN (n := n.kids.length) Try.underlying32 rfl (by simp) (fun hl67 => ?_))
   refine VOps_cons rfl rfl (V_sub rfl rfl (by omega) ?_)
   refine VOps_cons rfl rfl (V_assign rfl ?_)
   refine VOps_nil ?_
   refine Then_n ?_
   refine VW_seq ?_
   refine VW_region ?_
   refine VOps_cons rfl rfl (V_fieldAddr VT.fa49_5 rfl ?_)
   refine VOps_cons rfl rfl (V_load 1 VT.ty32 rfl rfl rfl ?_)
   refine VOps_cons rfl rfl (V_move rfl ?_)
   refine VOps_cons rfl rfl (V_indexAddr (el := V.int j) VT.sl32 rfl rfl (by omega) (get_int hki) (fun a72 => ?_))
   refine VOps_cons rfl rfl (V_load_ep VT.ty3 rfl rfl ?_)
   refine VOps_cons rfl rfl (V_assign rfl ?_)
   refine VOps_nil ?_
   refine Then_n ?_
   refine VW_seq ?_
   refine VW_region ?_
   refine VOps_cons rfl rfl (V_move rfl ?_)
   refine VOps_cons rfl rfl (V_bin rfl rfl rfl ?_)
   refine VOps_nil ?_
   refine Then_n ?_
   refine VW_condP rfl (fun h75 => ?_) (fun h75 => ?_)
   · omega
   ·
    refine VW_skip ?_
    refine InBlock_n (Then_n ?_)
    exact ⟨j, (by (try simp only []); omega), hrun2, ⟨rfl, rfl, rfl, trivial⟩, (Drops.nil _)⟩
  ·
   have hki := pick_hi h64 hkid
   refine VW_skip ?_
   refine Then_n ?_
   refine VW_seq ?_
   refine VW_region ?_
   refine VOps_cons rfl rfl (V_fieldAddr VT.fa49_5 rfl ?_)
   refine VOps_cons rfl rfl (V_load 1 VT.ty32 rfl rfl rfl ?_)
   refine VOps_cons rfl rfl (V_move rfl ?_)
   refine VOps_cons rfl rfl (V_indexAddr (el := V.int j) VT.sl32 rfl rfl (by omega) (get_int hki) (fun a72 => ?_))
   refine VOps_cons rfl rfl (V_load_ep VT.ty3 rfl rfl ?_)
   refine VOps_cons rfl rfl (V_assign rfl ?_)
   refine VOps_nil ?_
   refine Then_n ?_
   refine VW_seq ?_
   refine VW_region ?_
   refine VOps_cons rfl rfl (V_move rfl ?_)
   refine VOps_cons rfl rfl (V_bin rfl rfl rfl ?_)
   refine VOps_nil ?_
   refine Then_n ?_
   refine VW_condP rfl (fun h75 => ?_) (fun h75 => ?_)
   · omega
   ·
    refine VW_skip ?_
    refine InBlock_n (Then_n ?_)
    exact ⟨j, (by (try simp only []); omega), hrun2, ⟨rfl, rfl, rfl, trivial⟩, (Drops.nil _)⟩


set_option maxRecDepth 100000 in
set_option maxHeartbeats 16000000 in
theorem matchPrefix_c (ds : List DataSig) (hz : Sized ds) (rows : List (List Pat)) (hrb : rows.length * 24 ≤ 140737488351232) (vals : List Pat) (n : Int) : VPure Try.prog 10 [datasX ds, rowsX rows, patsX vals, .int n] (.bool true) := by
 have hK := knownL_c (cL vals + 1) vals (Nat.lt_succ_self _)
 have hCk := Check_c ds (rows ++ [vals])
 refine V_start (nt := 103) Try.func10 rfl rfl rfl ?_
 refine VW_seq ?_
 refine VW_region ?_
 refine VOps_cons rfl rfl (V_assign rfl ?_)
 refine VOps_nil ?_
 refine Then_n ?_
 refine VW_seq ?_
 refine VW_seq ?_
 refine VW_region ?_
 refine VOps_cons rfl rfl (V_callP [] rfl rfl VT.en11 (work_c) ?_)
 refine VOps_cons rfl rfl (V_not rfl ?_)
 refine VOps_nil ?_
 refine Then_n ?_
 refine VW_condF rfl (rfl) ?_
 refine VW_skip ?_
 refine Then_n ?_
 refine VW_seq ?_
 refine VW_seq ?_
 refine VW_region ?_
 refine VOps_cons rfl rfl (V_move rfl ?_)
 refine VOps_cons rfl rfl (V_lenN (n := rows.length) Try.underlying23 rfl (by simp) (fun hl20 => ?_))
 refine VOps_cons rfl rfl (V_bin rfl rfl rfl ?_)
 refine VOps_cons rfl rfl (V_move rfl ?_)
 refine VOps_split (q := 22) rfl (fun hq22 => ?_) (fun hq22 => ?_)
 ·
  refine VOps_skipU (.inl (skip_of rfl rfl rfl hq22)) rfl ?_
  refine VOps_skipU (.inl (skip_of rfl rfl rfl hq22)) rfl ?_
  refine VOps_skipU (.inl (skip_of rfl rfl rfl hq22)) rfl ?_
  refine VOps_skipU (.inl (skip_of rfl rfl rfl hq22)) rfl ?_
  refine VOps_skipU (.inl (skip_of rfl rfl rfl hq22)) rfl ?_
  refine VOps_skipU (.inl (skip_of rfl rfl rfl hq22)) rfl ?_
  refine VOps_skipU (.inl (skip_of rfl rfl rfl hq22)) rfl ?_
  refine VOps_skipU (.inl (skip_of rfl rfl rfl hq22)) rfl ?_
  refine VOps_skipU (.inl (skip_of rfl rfl rfl hq22)) rfl ?_
  refine VOps_cons rfl rfl (V_pickT rfl hq22 rfl ?_)
  refine VOps_nil ?_
  refine Then_n ?_
  refine VW_condT rfl rfl ?_
  refine VW_seq ?_
  refine VW_region ?_
  refine VOps_cons rfl rfl (V_assign rfl ?_)
  refine VOps_nil ?_
  refine Then_n ?_
  refine VW_ret ?_
  refine Then_r (VRet_one rfl (.tmp rfl) ?_)
  first | rfl | (exact congrArg V.bool (decide_eq_true (by omega))) | (exfalso; omega)
 ·
  have hrl : rows.length ≠ 0 := by simpa using hq22
  refine VOps_cons (want_of rfl rfl rfl hq22) rfl (V_move rfl ?_)
  refine VOps_cons (want_of rfl rfl rfl hq22) rfl (V_lit0 [] VT.sl23 rfl rfl rfl rfl rfl rfl ?_)
  refine VOps_cons (want_of rfl rfl rfl hq22) rfl (V_move rfl ?_)
  refine VOps_cons (want_of rfl rfl rfl hq22) rfl (V_append0 VT.sl23 rfl rfl (by simp; omega) (fun t26 => ?_))
  refine VOps_cons (want_of rfl rfl rfl hq22) rfl (V_move rfl ?_)
  refine VOps_cons (want_of rfl rfl rfl hq22) rfl (V_lit [.tmp 27] VT.sl23 rfl rfl rfl rfl rfl ?_)
  refine VOps_cons (want_of rfl rfl rfl hq22) rfl (V_appendEnd 0 _ VT.sl23 rfl rfl rfl (by simp) (by simp; omega) (zs := (rows ++ [vals]).map patsX) (by simp) ?_)
  refine VOps_cons (want_of rfl rfl rfl hq22) rfl (V_callP [.tmp 23, .tmp 29] rfl rfl VT.en24 (hCk) ?_)
  refine VOps_cons (want_of rfl rfl rfl hq22) rfl (V_bin rfl rfl rfl ?_)
  refine VOps_cons rfl rfl (V_pickF rfl hq22 rfl ?_)
  refine VOps_nil ?_
  refine Then_n ?_
  refine VW_condNe rfl (fun h32 => ?_) (fun h32 => ?_)
  ·
   refine VW_seq ?_
   refine VW_region ?_
   refine VOps_cons rfl rfl (V_assign rfl ?_)
   refine VOps_nil ?_
   refine Then_n ?_
   refine VW_ret ?_
   refine Then_r (VRet_one rfl (.tmp rfl) ?_)
   first | rfl | (exact congrArg V.bool (decide_eq_true (by omega))) | (exfalso; omega)
  ·
   have hck : checkF ds (rows ++ [vals]) = 0 := by simpa using h32
   have hrne : rows ≠ [] := fun e => hrl (by rw [e]; rfl)
   have hrows : rows.length ≤ 64 := by obtain ⟨t, hb⟩ := check_build hck; have := (check_parts hck hb).1.rows; simp at this; omega
   obtain ⟨m, hm⟩ : ∃ m : Nat, m = (n.tmod (rows.length + 1)).natAbs := ⟨_, rfl⟩
   have hml : m ≤ rows.length := by have h1 := Int.natAbs_tmod n (rows.length + 1); have h2 : n.natAbs % ((rows.length : Int) + 1).natAbs < ((rows.length : Int) + 1).natAbs := Nat.mod_lt _ (by omega); omega
   have hC1 := compile_c ds hz (rows.take m)
   have hC2 := compile_c ds hz rows
   refine VW_skip ?_
   refine Then_n ?_
   refine VW_cutF [(0, some (datasX ds)), (1, some (rowsX rows)), (2, some (patsX vals)), (3, some (.int m))] [] ?_ ?_
   ·
    refine VW_seq ?_
    refine VW_region ?_
    refine VOps_cons rfl rfl (V_move rfl ?_)
    refine VOps_cons rfl rfl (V_move rfl ?_)
    refine VOps_cons rfl rfl (V_lenN (n := rows.length) Try.underlying23 rfl (by simp) (fun hl35 => ?_))
    refine VOps_cons rfl rfl (V_add rfl rfl (by omega) ?_)
    refine VOps_cons rfl rfl (V_rem rfl rfl (by omega) ?_)
    refine VOps_cons rfl rfl (V_assign rfl ?_)
    refine VOps_nil ?_
    refine Then_n ?_
    refine VW_seq ?_
    refine VW_region ?_
    refine VOps_cons rfl rfl (V_move rfl ?_)
    refine VOps_cons rfl rfl (V_bin rfl rfl rfl ?_)
    refine VOps_nil ?_
    refine Then_n ?_
    refine VW_condP rfl (fun h39 => ?_) (fun h39 => ?_)
    ·
     refine VW_region ?_
     refine VOps_cons rfl rfl (V_move rfl ?_)
     refine VOps_cons rfl rfl (VOp_as (V_neg rfl ⟨rfl, rfl⟩) (V.le.of_eq (v' := .int m) (congrArg V.int (by rw [IntWalk.i64_in _ (by omega)]; omega))) ?_)
     refine VOps_cons rfl rfl (V_assign rfl ?_)
     refine VOps_nil ?_
     refine Then_n ?_
     exact ⟨⟨rfl, rfl, rfl, (by first | rfl | exact congrArg (fun z => some (V.int z)) (by omega)), trivial⟩, (Drops.nil _)⟩
    ·
     refine VW_skip ?_
     refine Then_n ?_
     exact ⟨⟨rfl, rfl, rfl, (by first | rfl | exact congrArg (fun z => some (V.int z)) (by omega)), trivial⟩, (Drops.nil _)⟩
   ·
    refine VW_seq ?_
    refine VW_region ?_
    refine VOps_cons rfl rfl (V_move rfl ?_)
    refine VOps_cons rfl rfl (V_move rfl ?_)
    refine VOps_cons rfl rfl (V_move rfl ?_)
    refine VOps_cons rfl rfl (VOp_as (V_sliceTo VT.sl23 rfl rfl (by omega) (by simp; omega) ⟨rfl, rfl⟩) (V.le.of_eq (v' := rowsX (rows.take m)) (by rw [rowsX, List.map_take]; rfl)) ?_)
    refine VOps_cons rfl rfl (V_callP [.tmp 43, .tmp 46] rfl rfl VT.en18 (hC1) ?_)
    refine VOps_cons rfl rfl (V_move rfl ?_)
    refine VOps_cons rfl rfl (V_extract rfl rfl ?_)
    refine VOps_cons rfl rfl (V_extract rfl rfl ?_)
    refine VOps_cons rfl rfl (V_assign rfl ?_)
    refine VOps_cons rfl rfl (V_assign rfl ?_)
    refine VOps_nil ?_
    refine Then_n ?_
    refine VW_seq ?_
    refine VW_region ?_
    refine VOps_cons rfl rfl (V_move rfl ?_)
    refine VOps_cons rfl rfl (V_move rfl ?_)
    refine VOps_cons rfl rfl (V_callP [.tmp 51, .tmp 52] rfl rfl VT.en18 (hC2) ?_)
    refine VOps_cons rfl rfl (V_move rfl ?_)
    refine VOps_cons rfl rfl (V_extract rfl rfl ?_)
    refine VOps_cons rfl rfl (V_extract rfl rfl ?_)
    refine VOps_cons rfl rfl (V_assign rfl ?_)
    refine VOps_cons rfl rfl (V_assign rfl ?_)
    refine VOps_nil ?_
    refine Then_n ?_
    refine VW_seq ?_
    refine VW_seq ?_
    refine VW_region ?_
    refine VOps_cons rfl rfl (V_move rfl ?_)
    refine VOps_cons rfl rfl (V_bin rfl rfl rfl ?_)
    refine VOps_cons rfl rfl (V_move rfl ?_)
    refine VOps_split (q := 58) rfl (fun hq58 => ?_) (fun hq58 => ?_)
    ·
     refine VOps_skipU (.inl (skip_of rfl rfl rfl hq58)) rfl ?_
     refine VOps_skipU (.inl (skip_of rfl rfl rfl hq58)) rfl ?_
     refine VOps_cons rfl rfl (V_pickT rfl hq58 rfl ?_)
     refine VOps_cons rfl rfl (V_move rfl ?_)
     refine VOps_skipU (.inl (skip_of rfl rfl rfl rfl)) rfl ?_
     refine VOps_skipU (.inl (skip_of rfl rfl rfl rfl)) rfl ?_
     refine VOps_skipU (.inl (skip_of rfl rfl rfl rfl)) rfl ?_
     refine VOps_cons rfl rfl (V_pickT rfl rfl rfl ?_)
     refine VOps_nil ?_
     refine Then_n ?_
     refine VW_condT rfl rfl ?_
     refine VW_seq ?_
     refine VW_region ?_
     refine VOps_cons rfl rfl (V_assign rfl ?_)
     refine VOps_nil ?_
     refine Then_n ?_
     refine VW_ret ?_
     refine Then_r (VRet_one rfl (.tmp rfl) ?_)
     first | rfl | (exact congrArg V.bool (decide_eq_true (by omega))) | (exfalso; omega)
    ·
     have he1 : (compOut ds (rows.take m)).2 = 0 := by simpa using hq58
     refine VOps_cons (want_of rfl rfl rfl hq58) rfl (V_move rfl ?_)
     refine VOps_cons (want_of rfl rfl rfl hq58) rfl (V_bin rfl rfl rfl ?_)
     refine VOps_cons rfl rfl (V_pickF rfl hq58 rfl ?_)
     refine VOps_cons rfl rfl (V_move rfl ?_)
     refine VOps_split (q := 62) rfl (fun hq62 => ?_) (fun hq62 => ?_)
     ·
      refine VOps_skipU (.inl (skip_of rfl rfl rfl hq62)) rfl ?_
      refine VOps_skipU (.inl (skip_of rfl rfl rfl hq62)) rfl ?_
      refine VOps_skipU (.inl (skip_of rfl rfl rfl hq62)) rfl ?_
      refine VOps_cons rfl rfl (V_pickT rfl hq62 rfl ?_)
      refine VOps_nil ?_
      refine Then_n ?_
      refine VW_condT rfl rfl ?_
      refine VW_seq ?_
      refine VW_region ?_
      refine VOps_cons rfl rfl (V_assign rfl ?_)
      refine VOps_nil ?_
      refine Then_n ?_
      refine VW_ret ?_
      refine Then_r (VRet_one rfl (.tmp rfl) ?_)
      first | rfl | (exact congrArg V.bool (decide_eq_true (by omega))) | (exfalso; omega)
     ·
      have he2 : (compOut ds rows).2 = 0 := by first | (simpa using hq62; done) | exact absurd hq62 (by simp)
      refine VOps_cons (want_of rfl rfl rfl hq62) rfl (V_move rfl ?_)
      refine VOps_cons (want_of rfl rfl rfl hq62) rfl (V_callP [.tmp 63] rfl rfl VT.en25 (hK) ?_)
      refine VOps_cons (want_of rfl rfl rfl hq62) rfl (V_not rfl ?_)
      refine VOps_cons rfl rfl (V_pickF rfl hq62 rfl ?_)
      refine VOps_nil ?_
      refine Then_n ?_
      refine VW_condN rfl (fun h66 => ?_) (fun h66 => ?_)
      ·
       refine VW_seq ?_
       refine VW_region ?_
       refine VOps_cons rfl rfl (V_assign rfl ?_)
       refine VOps_nil ?_
       refine Then_n ?_
       refine VW_ret ?_
       refine Then_r (VRet_one rfl (.tmp rfl) ?_)
       first | rfl | (exact congrArg V.bool (decide_eq_true (by omega))) | (exfalso; omega)
      ·
       have hkn : knownL vals = true := by simpa using h66
       obtain ⟨a, b, hra, hrb, hab⟩ := prefix_law hz hrne hml hck hkn he1 he2
       obtain ⟨t1, hb1, g1, g2, g3, _⟩ := once_law hz he1
       obtain ⟨t2, hb2, k1, k2, k3, _⟩ := once_law hz he2
       have hR1 := run_c ds t1 hb1 _ g1 g2 g3 vals a hra
       have hR2 := run_c ds t2 hb2 _ k1 k2 k3 vals b hrb
       refine VW_skip ?_
       refine Then_n ?_
       refine VW_seq ?_
       refine VW_region ?_
       refine VOps_cons rfl rfl (V_move rfl ?_)
       refine VOps_cons rfl rfl (V_move rfl ?_)
       refine VOps_cons rfl rfl (V_move rfl ?_)
       refine VOps_cons rfl rfl (V_callP [.tmp 68, .tmp 69, .tmp 70] rfl rfl VT.en26 (hR1) ?_)
       refine VOps_cons rfl rfl (V_move rfl ?_)
       refine VOps_cons rfl rfl (V_extract rfl rfl ?_)
       refine VOps_cons rfl rfl (V_extract rfl rfl ?_)
       refine VOps_cons rfl rfl (V_assign rfl ?_)
       refine VOps_cons rfl rfl (V_assign rfl ?_)
       refine VOps_nil ?_
       refine Then_n ?_
       refine VW_seq ?_
       refine VW_region ?_
       refine VOps_cons rfl rfl (V_move rfl ?_)
       refine VOps_cons rfl rfl (V_move rfl ?_)
       refine VOps_cons rfl rfl (V_move rfl ?_)
       refine VOps_cons rfl rfl (V_callP [.tmp 75, .tmp 76, .tmp 77] rfl rfl VT.en26 (hR2) ?_)
       refine VOps_cons rfl rfl (V_move rfl ?_)
       refine VOps_cons rfl rfl (V_extract rfl rfl ?_)
       refine VOps_cons rfl rfl (V_extract rfl rfl ?_)
       refine VOps_cons rfl rfl (V_assign rfl ?_)
       refine VOps_cons rfl rfl (V_assign rfl ?_)
       refine VOps_nil ?_
       refine Then_n ?_
       refine VW_seq ?_
       refine VW_seq ?_
       refine VW_region ?_
       refine VOps_cons rfl rfl (V_move rfl ?_)
       refine VOps_cons rfl rfl (V_bin rfl rfl rfl ?_)
       refine VOps_cons rfl rfl (V_move rfl ?_)
       refine VOps_split (q := 83) rfl (fun hq83 => ?_) (fun hq83 => ?_)
       · exact absurd hq83 (by simp)
       ·
        refine VOps_cons (want_of rfl rfl rfl hq83) rfl (V_move rfl ?_)
        refine VOps_cons (want_of rfl rfl rfl hq83) rfl (V_bin rfl rfl rfl ?_)
        refine VOps_cons rfl rfl (V_pickF rfl hq83 rfl ?_)
        refine VOps_nil ?_
        refine Then_n ?_
        refine VW_condF rfl (rfl) ?_
        refine VW_skip ?_
        refine Then_n ?_
        refine VW_seq ?_
        refine VW_region ?_
        refine VOps_cons rfl rfl (V_move rfl ?_)
        refine VOps_cons rfl rfl (V_move rfl ?_)
        refine VOps_cons rfl rfl (V_bin rfl rfl rfl ?_)
        refine VOps_cons rfl rfl (V_move rfl ?_)
        refine VOps_split (q := 90) rfl (fun hq90 => ?_) (fun hq90 => ?_)
        ·
         have h90 : a = b := by simpa using hq90
         refine VOps_skipU (.inl (skip_of rfl rfl rfl hq90)) rfl ?_
         refine VOps_skipU (.inl (skip_of rfl rfl rfl hq90)) rfl ?_
         refine VOps_skipU (.inl (skip_of rfl rfl rfl hq90)) rfl ?_
         refine VOps_skipU (.inr ⟨_, _, 93, rfl, rfl, rfl⟩) rfl ?_
         refine VOps_skipU (.inr ⟨_, _, 93, rfl, rfl, rfl⟩) rfl ?_
         refine VOps_skipU (.inr ⟨_, _, 93, rfl, rfl, rfl⟩) rfl ?_
         refine VOps_skipU (.inr ⟨_, _, 96, rfl, rfl, rfl⟩) rfl ?_
         refine VOps_skipU (.inr ⟨_, _, 96, rfl, rfl, rfl⟩) rfl ?_
         refine VOps_skipU (.inr ⟨_, _, 96, rfl, rfl, rfl⟩) rfl ?_
         refine VOps_skipU (.inr ⟨_, _, 93, rfl, rfl, rfl⟩) rfl ?_
         refine VOps_skipU (.inl (skip_of rfl rfl rfl hq90)) rfl ?_
         refine VOps_cons rfl rfl (V_pickT rfl hq90 rfl ?_)
         refine VOps_cons rfl rfl (V_assign rfl ?_)
         refine VOps_nil ?_
         refine Then_n ?_
         refine VW_ret ?_
         refine VRet_one rfl (.tmp rfl) ?_
         first | rfl | (exact congrArg V.bool (decide_eq_true (by omega))) | (exfalso; omega)
        ·
         have h90 : a ≠ b := by simpa using hq90
         refine VOps_cons (want_of rfl rfl rfl hq90) rfl (V_move rfl ?_)
         refine VOps_cons (want_of rfl rfl rfl hq90) rfl (V_bin rfl rfl rfl ?_)
         refine VOps_cons (want_of rfl rfl rfl hq90) rfl (V_move rfl ?_)
         refine VOps_split (q := 93) rfl (fun hq93 => ?_) (fun hq93 => ?_)
         ·
          have h93 : a = -1 := by simpa using hq93
          refine VOps_cons (want_of rfl rfl rfl hq93) rfl (V_move rfl ?_)
          refine VOps_cons (want_of rfl rfl rfl hq93) rfl (V_bin rfl rfl rfl ?_)
          refine VOps_cons (want_of rfl rfl rfl hq93) rfl (V_move rfl ?_)
          refine VOps_split (q := 96) rfl (fun hq96 => ?_) (fun hq96 => ?_)
          ·
           have h96 : b = -1 := by simpa using hq96
           refine VOps_skipU (.inl (skip_of rfl rfl rfl hq96)) rfl ?_
           refine VOps_skipU (.inl (skip_of rfl rfl rfl hq96)) rfl ?_
           refine VOps_skipU (.inl (skip_of rfl rfl rfl hq96)) rfl ?_
           refine VOps_cons (want_of rfl rfl rfl hq93) rfl (V_pickT rfl hq96 rfl ?_)
           refine VOps_cons (want_of rfl rfl rfl hq90) rfl (V_pickT rfl hq93 rfl ?_)
           refine VOps_cons rfl rfl (V_pickF rfl hq90 rfl ?_)
           refine VOps_cons rfl rfl (V_assign rfl ?_)
           refine VOps_nil ?_
           refine Then_n ?_
           refine VW_ret ?_
           refine VRet_one rfl (.tmp rfl) ?_
           first | rfl | (exact congrArg V.bool (decide_eq_true (by omega))) | (exfalso; omega)
          ·
           have h96 : b ≠ -1 := by simpa using hq96
           refine VOps_cons (want_of rfl rfl rfl hq96) rfl (V_move rfl ?_)
           refine VOps_cons (want_of rfl rfl rfl hq96) rfl (V_move rfl ?_)
           refine VOps_cons (want_of rfl rfl rfl hq96) rfl (V_bin rfl rfl rfl ?_)
           refine VOps_cons (want_of rfl rfl rfl hq93) rfl (V_pickF rfl hq96 rfl ?_)
           refine VOps_cons (want_of rfl rfl rfl hq90) rfl (V_pickT rfl hq93 rfl ?_)
           refine VOps_cons rfl rfl (V_pickF rfl hq90 rfl ?_)
           refine VOps_cons rfl rfl (V_assign rfl ?_)
           refine VOps_nil ?_
           refine Then_n ?_
           refine VW_ret ?_
           refine VRet_one rfl (.tmp rfl) ?_
           first | rfl | (exact congrArg V.bool (decide_eq_true (by omega))) | (exfalso; omega)
         ·
          have h93 : a ≠ -1 := by simpa using hq93
          refine VOps_skipU (.inl (skip_of rfl rfl rfl hq93)) rfl ?_
          refine VOps_skipU (.inl (skip_of rfl rfl rfl hq93)) rfl ?_
          refine VOps_skipU (.inl (skip_of rfl rfl rfl hq93)) rfl ?_
          refine VOps_skipU (.inr ⟨_, _, 96, rfl, rfl, rfl⟩) rfl ?_
          refine VOps_skipU (.inr ⟨_, _, 96, rfl, rfl, rfl⟩) rfl ?_
          refine VOps_skipU (.inr ⟨_, _, 96, rfl, rfl, rfl⟩) rfl ?_
          refine VOps_skipU (.inl (skip_of rfl rfl rfl hq93)) rfl ?_
          refine VOps_cons (want_of rfl rfl rfl hq90) rfl (V_pickF rfl hq93 rfl ?_)
          refine VOps_cons rfl rfl (V_pickF rfl hq90 rfl ?_)
          refine VOps_cons rfl rfl (V_assign rfl ?_)
          refine VOps_nil ?_
          refine Then_n ?_
          refine VW_ret ?_
          refine VRet_one rfl (.tmp rfl) ?_
          first | rfl | (exact congrArg V.bool (decide_eq_true (by omega))) | (exfalso; omega)


end Go.Proofs.Ytmjeaagpcmfnpaa.W25
