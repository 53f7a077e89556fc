/- Walks, printed by walk.py. -/
import Derived.Test.YtmioemdikgdpkaaVT
import Derived.Test.YtmioemdikgdpkaaS2
import Derived.Test.YtmioemdikgdpkaaS3
import Derived.Test.YtmioemdikgdpkaaX1
import Derived.Test.YtmioemdikgdpkaaX2
set_option linter.unusedVariables false
set_option linter.unusedSimpArgs false
namespace Go.Proofs.Ytmioemdikgdpkaa.X3
open Go.VL Go.SM Go.Proofs.Ytmioemdikgdpkaa Go.Proofs.Ytmioemdikgdpkaa.X1 Go.Proofs.Ytmioemdikgdpkaa.X2

def rowL (l : List BSet) : List V := (l.map setV).flatMap V.leaves
theorem rowL_nil (l : List BSet) : rowL l = (l.map setV).flatMap V.leaves ++ [] := (List.append_nil _).symm
theorem sets_fit (l : List BSet) : ∀ x ∈ l.map setV, x.leaves.length = 2 := fun x hx => by
  obtain ⟨s, _, rfl⟩ := List.mem_map.1 hx
  rfl
theorem sets_fits (l : List BSet) : ∀ x ∈ l.map setV, x.fits 2 = true ∧ ((∃ ls, x = .agg ls) ∨ x.leaf = true) := fun x hx => by
  obtain ⟨s, _, rfl⟩ := List.mem_map.1 hx
  exact ⟨rfl, .inl ⟨_, rfl⟩⟩
theorem rowL_set (l : List BSet) (k : Nat) (s : BSet) : (((l.map setV).set k (setV s)).flatMap V.leaves ++ []) = rowL (l.set k s) := by rw [List.append_nil, rowL, List.map_set]
theorem get_setV {l : List BSet} {k : Nat} (h : k < l.length) : (l.map setV)[k]? = some (setV (l[k]?.getD noSet)) := by
  rw [List.getElem?_map, List.getElem?_eq_getElem h]
  rfl
theorem at_setV {d : Dom} {k : Nat} (h : k < d.over.length) : (d.over.map setV)[k]? = some (.agg [.u64 (d.at k).1, .u64 (d.at k).2]) := get_setV h
theorem all_rep {n : Nat} {l : List BSet} {s : BSet} (hl : l.length = n) (h : ∀ j, j < n → l[j]? = some s) : l = List.replicate n s := by
  apply List.ext_getElem?
  intro j
  rw [List.getElem?_replicate]
  split
  · rename_i hj; exact h j hj
  · rename_i hj; exact List.getElem?_eq_none (by omega)

set_option maxRecDepth 100000 in
set_option maxHeartbeats 8000000 in
theorem dominators_c (name : Int) (bs : List SBlock) (h0 : 0 < bs.length) (hn : bs.length ≤ 128) (hE : ∀ b ∈ bs, ∀ e ∈ b.term.to, 1 ≤ e.block ∧ e.block < bs.length) : VPure Try.prog 84 [.agg [.int name, blocksX bs]] (.tup [setsX (domF bs).over, setV (domF bs).seen]) := by
 refine V_start (nt := 106) Try.func84 rfl rfl rfl ?_
 refine VW_seq ?_
 refine VW_region ?_
 refine VOps_cons rfl rfl (V_box rfl rfl (fun g1 => ?_))
 refine VOps_cons rfl rfl (V_assign rfl ?_)
 refine VOps_cons rfl rfl (V_alloc VT.zr138 _ rfl rfl (fun g3 => ?_))
 refine VOps_nil ?_
 refine Then_n ?_
 refine VW_seq ?_
 refine VW_region ?_
 refine VOps_cons rfl rfl (V_alloc VT.zr138 _ rfl rfl (fun g4 => ?_))
 refine VOps_nil ?_
 refine Then_n ?_
 refine VW_seq ?_
 refine VW_seq ?_
 refine VW_region ?_
 refine VOps_cons rfl rfl (V_fieldAddr VT.fa37_1 rfl ?_)
 refine VOps_cons rfl rfl (V_load 2 VT.ty35 rfl rfl rfl ?_)
 refine VOps_cons rfl rfl (V_lenN (n := bs.length) Try.underlying35 rfl (by simp) (fun hl17 => ?_))
 refine VOps_cons rfl rfl (V_move rfl ?_)
 refine VOps_nil ?_
 refine Then_n ?_
 refine VW_block ?_
 refine VW_loopF (ι := Nat) (fun k => bs.length - k) (fun k => [(1, some (.ptr g1 0)), (3, some (.ptr g3 0)), (4, some (.ptr g4 0)), (17, some (.int bs.length)), (18, some (.int k))]) (fun k => [.cells g4 138 [V.u64 (allSet k).1, V.u64 (allSet k).2], .cells g3 138 VT.zs138, .cells g1 37 [.int name, blocksX bs]]) (fun k => k ≤ bs.length) 0 (Nat.zero_le _) ⟨rfl, rfl, rfl, rfl, rfl, trivial⟩ (Drops.keepE rfl (Drops.keep (Drops.keep (Drops.refl _)))) ?_
 rintro k hk
 change k ≤ bs.length at hk
 refine VW_seq ?_
 refine VW_region ?_
 refine VOps_cons rfl rfl (V_bin rfl rfl rfl ?_)
 refine VOps_nil ?_
 refine Then_n ?_
 refine VW_seq ?_
 refine VW_condP rfl (fun h19 => ?_) (fun h19 => ?_)
 ·
  refine VW_skip ?_
  refine Then_n ?_
  refine VW_seq ?_
  refine VW_block ?_
  refine VW_seq ?_
  refine VW_region ?_
  refine VOps_cons rfl rfl (V_move rfl ?_)
  refine VOps_cons rfl rfl (V_assign rfl ?_)
  refine VOps_nil ?_
  refine Then_n ?_
  refine VW_region ?_
  refine VOps_cons rfl rfl (V_load_agg 0 VT.ty138 rfl rfl rfl ?_)
  refine VOps_cons rfl rfl (V_move rfl ?_)
  refine VOps_cons rfl rfl (V_callP [.tmp 21, .tmp 22] rfl rfl VT.en103 (with_n (allSet k) k (by omega)) ?_)
  refine VOps_cons rfl rfl (V_store_agg 0 VT.ty138 rfl rfl rfl rfl rfl ?_)
  refine VOps_nil ?_
  refine InBlock_n (Then_n ?_)
  refine VW_region ?_
  refine VOps_cons rfl rfl (V_add rfl rfl (by omega) ?_)
  refine VOps_cons rfl rfl (V_move rfl ?_)
  refine VOps_nil ?_
  refine Then_n ?_
  exact ⟨k + 1, (by (try simp only []); omega), (by omega), ⟨rfl, rfl, rfl, rfl, rfl, trivial⟩, (Drops.keepE rfl (Drops.keep (Drops.keep (Drops.refl _))))⟩
 ·
  have hke : k = bs.length := by omega
  subst hke
  refine VW_exit ?_
  refine Then_e (Then_e (InBlock_hit ?_))
  refine Then_n ?_
  refine VW_seq ?_
  refine VW_region ?_
  refine VOps_cons rfl rfl (V_fieldAddr VT.fa37_1 rfl ?_)
  refine VOps_cons rfl rfl (V_load 2 VT.ty35 rfl rfl rfl ?_)
  refine VOps_cons rfl rfl (V_lenN (n := bs.length) Try.underlying35 rfl (by simp) (fun hl27 => ?_))
  refine VOps_cons rfl rfl (V_makeRow (setV noSet) (fun m => ⟨rfl, _, rfl, by simp [Go.VL.RepL, Rep]; exact ⟨rfl, rfl⟩⟩) rfl VT.sl135 rfl rfl (by omega) (by omega) (fun g28 => ?_))
  refine VOps_cons rfl rfl (V_assign rfl ?_)
  refine VOps_nil ?_
  refine Then_n ?_
  refine VW_seq ?_
  refine VW_seq ?_
  refine VW_region ?_
  refine VOps_cons rfl rfl (V_move rfl ?_)
  refine VOps_cons rfl rfl (V_len_raw Try.underlying135 rfl ?_)
  refine VOps_cons rfl rfl (V_move rfl ?_)
  refine VOps_nil ?_
  refine Then_n ?_
  refine VW_block ?_
  refine VW_loopF (ι := Nat × List BSet) (fun (k, l) => bs.length - k) (fun (k, l) => [(1, some (.ptr g1 0)), (3, some (.ptr g3 0)), (4, some (.ptr g4 0)), (6, some (.raw (.slice (some ⟨g28, 0, none⟩) bs.length bs.length))), (29, some (.raw (.slice (some ⟨g28, 0, none⟩) bs.length bs.length))), (30, some (.int bs.length)), (31, some (.int k))]) (fun (k, l) => [.cells g28 138 (rowL l), .cells g4 138 [V.u64 (allSet bs.length).1, V.u64 (allSet bs.length).2], .cells g3 138 VT.zs138, .cells g1 37 [.int name, blocksX bs]]) (fun (k, l) => k ≤ bs.length ∧ l.length = bs.length ∧ ∀ j, j < k → l[j]? = some (allSet bs.length)) (0, List.replicate bs.length noSet) ⟨Nat.zero_le _, List.length_replicate, fun j hj => absurd hj (Nat.not_lt_zero _)⟩ ⟨rfl, rfl, rfl, rfl, rfl, rfl, rfl, trivial⟩ (Drops.keepE (by rw [rowL, List.map_replicate]; rfl) (Drops.keep (Drops.keep (Drops.keep (Drops.refl _))))) ?_
  rintro ⟨k, l⟩ hA
  change k ≤ bs.length ∧ l.length = bs.length ∧ ∀ j, j < k → l[j]? = some (allSet bs.length) at hA
  obtain ⟨hk, hl, hal⟩ := hA
  refine VW_seq ?_
  refine VW_region ?_
  refine VOps_cons rfl rfl (V_bin rfl rfl rfl ?_)
  refine VOps_nil ?_
  refine Then_n ?_
  refine VW_seq ?_
  refine VW_condP rfl (fun h32 => ?_) (fun h32 => ?_)
  ·
   refine VW_skip ?_
   refine Then_n ?_
   refine VW_seq ?_
   refine VW_block ?_
   refine VW_seq ?_
   refine VW_region ?_
   refine VOps_cons rfl rfl (V_move rfl ?_)
   refine VOps_cons rfl rfl (V_assign rfl ?_)
   refine VOps_nil ?_
   refine Then_n ?_
   refine VW_region ?_
   refine VOps_cons rfl rfl (V_move rfl ?_)
   refine VOps_cons rfl rfl (V_move rfl ?_)
   refine VOps_cons rfl rfl (V_load_agg 1 VT.ty138 rfl rfl rfl ?_)
   refine VOps_cons rfl rfl (V_indexAddr_row VT.sl135 rfl rfl (by omega) (by omega) ?_)
   refine VOps_cons rfl rfl (V_store_elem 0 k VT.ty138 rfl (by simp) rfl rfl rfl (rowL_nil _) (sets_fit _) (by rw [List.length_map]; omega) ?_)
   refine VOps_nil ?_
   refine InBlock_n (Then_n ?_)
   refine VW_region ?_
   refine VOps_cons rfl rfl (V_add rfl rfl (by omega) ?_)
   refine VOps_cons rfl rfl (V_move rfl ?_)
   refine VOps_nil ?_
   refine Then_n ?_
   exact ⟨(k + 1, l.set k (allSet bs.length)), (by (try simp only []); omega), ⟨by omega, by rw [List.length_set]; exact hl, fun j hj => by rw [List.getElem?_set]; split; exact if_pos (by omega); exact hal j (by omega)⟩, ⟨rfl, rfl, rfl, rfl, rfl, rfl, rfl, trivial⟩, (Drops.keepE (congrArg (Own.cells g28 138) (rowL_set l k (allSet bs.length))) (Drops.keep (Drops.keep (Drops.keep (Drops.refl _)))))⟩
  ·
   have hke : k = bs.length := by omega
   subst hke
   have hrep := all_rep hl hal
   subst hrep
   refine VW_exit ?_
   refine Then_e (Then_e (InBlock_hit ?_))
   refine Then_n ?_
   refine VW_seq ?_
   refine VW_region ?_
   refine VOps_cons rfl rfl (V_move rfl ?_)
   refine VOps_cons rfl rfl (V_buildArr [] [] VT.at138 rfl rfl rfl rfl ?_)
   refine VOps_cons rfl rfl (V_callP [.tmp 40, .const (.int .i64 (0))] rfl rfl VT.en103 (with_n noSet 0 (by omega)) ?_)
   refine VOps_cons rfl rfl (V_indexAddr_row VT.sl135 rfl rfl (by omega) (by omega) ?_)
   refine VOps_cons rfl rfl (V_store_elem 0 0 VT.ty138 rfl (by simp) rfl rfl rfl (rowL_nil _) (sets_fit _) (by rw [List.length_map, List.length_replicate]; omega) ?_)
   refine VOps_nil ?_
   refine Then_n ?_
   refine VW_seq ?_
   refine VW_region ?_
   refine VOps_cons rfl rfl (V_buildArr [] [] VT.at138 rfl rfl rfl rfl ?_)
   refine VOps_cons rfl rfl (V_callP [.tmp 43, .const (.int .i64 (0))] rfl rfl VT.en103 (with_n noSet 0 (by omega)) ?_)
   refine VOps_cons rfl rfl (V_alloc VT.zr138 _ rfl rfl (fun g8 => ?_))
   refine VOps_cons rfl rfl (V_store_agg 0 VT.ty138 rfl rfl rfl rfl rfl ?_)
   refine VOps_nil ?_
   refine Then_n ?_
   refine VW_seq ?_
   refine VW_seq ?_
   refine VW_region ?_
   refine VOps_cons rfl rfl (V_assign rfl ?_)
   refine VOps_nil ?_
   refine Then_n ?_
   refine VW_block ?_
   refine VW_loopF (ι := Nat × Dom) (fun (m, d) => m) (fun (m, d) => [(1, some (.ptr g1 0)), (3, some (.ptr g3 0)), (6, some (.raw (.slice (some ⟨g28, 0, none⟩) bs.length bs.length))), (8, some (.ptr g8 0)), (9, some (.bool d.again))]) (fun (m, d) => [.cells g8 138 [V.u64 d.seen.1, V.u64 d.seen.2], .cells g28 138 (rowL d.over), .cells g3 138 VT.zs138, .cells g1 37 [.int name, blocksX bs]]) (fun (m, d) => domIter bs m d = domF bs ∧ DomOk bs.length d ∧ weight bs.length d + (if d.again then 1 else 0) ≤ m) (domFuel bs.length, domStart bs.length) ⟨rfl, start_ok h0 hn, by have := start_w bs.length; have e : (domStart bs.length).again = true := rfl; rw [e, if_pos rfl]; unfold domFuel; omega⟩ ⟨rfl, rfl, rfl, rfl, rfl, trivial⟩ (Drops.keepE rfl (Drops.keepE (congrArg (Own.cells g28 138) (rowL_set (List.replicate bs.length (allSet bs.length)) 0 (BSet.with noSet 0))) (Drops.drop (Drops.keep (Drops.keep (Drops.refl _)))))) ?_
   rintro ⟨m, d⟩ hA
   change domIter bs m d = domF bs ∧ DomOk bs.length d ∧ weight bs.length d + (if d.again then 1 else 0) ≤ m at hA
   obtain ⟨hit, hok, hw⟩ := hA
   refine VW_seq ?_
   refine VW_seq ?_
   refine VW_region ?_
   refine VOps_cons rfl rfl (V_move rfl ?_)
   refine VOps_nil ?_
   refine Then_n ?_
   refine VW_cond rfl (fun h45 => ?_) (fun h45 => ?_)
   ·
    obtain ⟨m', rfl, hit2, hok', hw'⟩ := round hok hE hw h45
    have hit' := hit2.symm.trans hit
    refine VW_skip ?_
    refine Then_n ?_
    refine VW_block ?_
    refine VW_seq ?_
    refine VW_region ?_
    refine VOps_cons rfl rfl (V_assign rfl ?_)
    refine VOps_nil ?_
    refine Then_n ?_
    refine VW_seq ?_
    refine VW_region ?_
    refine VOps_cons rfl rfl (V_fieldAddr VT.fa37_1 rfl ?_)
    refine VOps_cons rfl rfl (V_load 3 VT.ty35 rfl rfl rfl ?_)
    refine VOps_cons rfl rfl (V_lenN (n := bs.length) Try.underlying35 rfl (by simp) (fun hl48 => ?_))
    refine VOps_cons rfl rfl (V_move rfl ?_)
    refine VOps_nil ?_
    refine Then_n ?_
    refine VW_block ?_
    refine VW_loopF (ι := Nat × Dom) (fun (k, c) => bs.length - k) (fun (k, c) => [(1, some (.ptr g1 0)), (3, some (.ptr g3 0)), (6, some (.raw (.slice (some ⟨g28, 0, none⟩) bs.length bs.length))), (8, some (.ptr g8 0)), (9, some (.bool c.again)), (47, some (blocksX bs)), (48, some (.int bs.length)), (49, some (.int k))]) (fun (k, c) => [.cells g8 138 [V.u64 c.seen.1, V.u64 c.seen.2], .cells g28 138 (rowL c.over), .cells g3 138 VT.zs138, .cells g1 37 [.int name, blocksX bs]]) (fun (k, c) => k ≤ bs.length ∧ domPass k (bs.drop k) c = domPass 0 bs { d with again := false } ∧ DomOk bs.length c) (0, { d with again := false }) ⟨Nat.zero_le _, rfl, ⟨hok.len, hok.le, hok.self⟩⟩ ⟨rfl, rfl, rfl, rfl, rfl, rfl, rfl, rfl, trivial⟩ (Drops.keep (Drops.keep (Drops.keep (Drops.keep (Drops.refl _))))) ?_
    rintro ⟨k, c⟩ hA2
    change k ≤ bs.length ∧ domPass k (bs.drop k) c = domPass 0 bs { d with again := false } ∧ DomOk bs.length c at hA2
    obtain ⟨hk, hps, hokc⟩ := hA2
    refine VW_seq ?_
    refine VW_region ?_
    refine VOps_cons rfl rfl (V_bin rfl rfl rfl ?_)
    refine VOps_nil ?_
    refine Then_n ?_
    refine VW_seq ?_
    refine VW_condP rfl (fun h50 => ?_) (fun h50 => ?_)
    ·
     obtain ⟨b, hb⟩ := get_of_lt bs k h50
     refine VW_skip ?_
     refine Then_n ?_
     refine VW_seq ?_
     refine VW_block ?_
     refine VW_seq ?_
     refine VW_region ?_
     refine VOps_cons rfl rfl (V_move rfl ?_)
     refine VOps_cons rfl rfl (V_indexAddr (el := blockV b) VT.sl35 rfl rfl (by omega) (get_mapS _ hb) (fun a52 => ?_))
     refine VOps_cons rfl rfl (V_load_ep_agg VT.ty34 rfl rfl ?_)
     refine VOps_cons rfl rfl (V_alloc VT.zr34 _ rfl rfl (fun g11 => ?_))
     refine VOps_cons rfl rfl (V_assign rfl ?_)
     refine VOps_cons rfl rfl (V_store_agg 0 VT.ty34 rfl rfl rfl rfl rfl ?_)
     refine VOps_nil ?_
     refine Then_n ?_
     refine VW_seq ?_
     refine VW_seq ?_
     refine VW_region ?_
     refine VOps_cons rfl rfl (V_load_agg 1 VT.ty138 rfl rfl rfl ?_)
     refine VOps_cons rfl rfl (V_move rfl ?_)
     refine VOps_cons rfl rfl (V_callP [.tmp 54, .tmp 55] rfl rfl VT.en86 (has_n c.seen k (by omega)) ?_)
     refine VOps_cons rfl rfl (V_not rfl ?_)
     refine VOps_nil ?_
     refine Then_n ?_
     refine VW_condN rfl (fun h57 => ?_) (fun h57 => ?_)
     ·
      have hskip : domBlock c k b = c := by rw [domBlock, if_neg (by rw [h57]; decide)]
      refine VW_exit ?_
      refine Then_e (InBlock_hit ?_)
      refine Then_n ?_
      refine VW_region ?_
      refine VOps_cons rfl rfl (V_add rfl rfl (by omega) ?_)
      refine VOps_cons rfl rfl (V_move rfl ?_)
      refine VOps_nil ?_
      refine Then_n ?_
      exact ⟨(k + 1, domBlock c k b), (by (try simp only []); omega), ⟨by omega, by rw [← hps, drop_cons hb, domPass], (block_w (by omega) hokc (hE b (List.mem_of_getElem? hb))).1⟩, ⟨rfl, rfl, rfl, rfl, (by first | rfl | rw [hskip]; rfl), rfl, rfl, rfl, trivial⟩, (Drops.drop (Drops.keepE (by first | rfl | rw [hskip]) (Drops.keepE (by first | rfl | rw [hskip]) (Drops.keep (Drops.keep (Drops.refl _))))))⟩
     ·
      have hgo : domBlock c k b = b.term.to.foldl (domEdge k) c := by rw [domBlock, if_pos h57]
      have hEb := hE b (List.mem_of_getElem? hb)
      refine VW_skip ?_
      refine Then_n ?_
      refine VW_seq ?_
      refine VW_region ?_
      refine VOps_cons rfl rfl (V_fieldAddr VT.fa34_2 rfl ?_)
      refine VOps_cons rfl rfl (V_fieldAddr VT.fa32_4 rfl ?_)
      refine VOps_cons rfl rfl (V_load 0 VT.ty30 rfl rfl rfl ?_)
      refine VOps_cons rfl rfl (V_lenN (n := b.term.to.length) Try.underlying30 rfl (by simp) (fun hl61 => ?_))
      refine VOps_cons rfl rfl (V_move rfl ?_)
      refine VOps_nil ?_
      refine Then_n ?_
      refine VW_block ?_
      refine VW_loopF (ι := Nat × Dom) (fun (j, f) => b.term.to.length - j) (fun (j, f) => [(1, some (.ptr g1 0)), (3, some (.ptr g3 0)), (6, some (.raw (.slice (some ⟨g28, 0, none⟩) bs.length bs.length))), (8, some (.ptr g8 0)), (9, some (.bool f.again)), (10, some (.int k)), (47, some (blocksX bs)), (48, some (.int bs.length)), (49, some (.int k)), (60, some (edgesX b.term.to)), (61, some (.int b.term.to.length)), (62, some (.int j))]) (fun (j, f) => [.cells g8 138 [V.u64 f.seen.1, V.u64 f.seen.2], .cells g28 138 (rowL f.over), .cells g3 138 VT.zs138, .cells g1 37 [.int name, blocksX bs]]) (fun (j, f) => j ≤ b.term.to.length ∧ (b.term.to.drop j).foldl (domEdge k) f = domBlock c k b ∧ DomOk bs.length f) (0, c) ⟨Nat.zero_le _, hgo.symm, hokc⟩ ⟨rfl, rfl, rfl, rfl, rfl, rfl, rfl, rfl, rfl, rfl, rfl, rfl, trivial⟩ (Drops.drop (Drops.keep (Drops.keep (Drops.keep (Drops.keep (Drops.refl _)))))) ?_
      rintro ⟨j, f⟩ hA3
      change j ≤ b.term.to.length ∧ (b.term.to.drop j).foldl (domEdge k) f = domBlock c k b ∧ DomOk bs.length f at hA3
      obtain ⟨hj, hfo, hokf⟩ := hA3
      refine VW_seq ?_
      refine VW_region ?_
      refine VOps_cons rfl rfl (V_bin rfl rfl rfl ?_)
      refine VOps_nil ?_
      refine Then_n ?_
      refine VW_seq ?_
      refine VW_condP rfl (fun h63 => ?_) (fun h63 => ?_)
      ·
       obtain ⟨x, hx⟩ := get_of_lt b.term.to j h63
       obtain ⟨hx1, hx2⟩ := hEb x (List.mem_of_getElem? hx)
       have hfl := hokf.len
       refine VW_skip ?_
       refine Then_n ?_
       refine VW_seq ?_
       refine VW_block ?_
       refine VW_seq ?_
       refine VW_region ?_
       refine VOps_cons rfl rfl (V_indexAddr (el := edgeV x) VT.sl30 rfl rfl (by omega) (get_mapS _ hx) (fun a64 => ?_))
       refine VOps_cons rfl rfl (V_load_ep_agg VT.ty29 rfl rfl ?_)
       refine VOps_cons rfl rfl (V_alloc VT.zr29 _ rfl rfl (fun g13 => ?_))
       refine VOps_cons rfl rfl (V_store_agg 0 VT.ty29 rfl rfl rfl rfl rfl ?_)
       refine VOps_nil ?_
       refine Then_n ?_
       refine VW_seq ?_
       refine VW_draw (G := Nat) [([], [6], []), ([], [13], []), ([1], [67], []), ([2, 1, 0], [66, 68], []), ([3, 2, 1, 0], [69], []), ([], [6], []), ([], [10], []), ([6, 5], [71, 72], []), ([7, 6, 5], [73], []), ([8, 7, 6, 5, 4, 3, 2, 1, 0], [70, 74], []), ([], [13], []), ([10], [76], []), ([11, 10, 9, 8, 7, 6, 5, 4, 3, 2, 1, 0], [75, 77], []), ([], [], [0]), ([13, 12, 11, 10, 9, 8, 7, 6, 5, 4, 3, 2, 1, 0], [14, 78], [])] [13, 14] (twoSt _ (fun g14 => .cells g14 138 VT.zs138 :: [.cells g13 29 [.int x.block, intsX x.args], .cells g8 138 [V.u64 f.seen.1, V.u64 f.seen.2], .cells g28 138 (rowL f.over), .cells g3 138 VT.zs138, .cells g1 37 [.int name, blocksX bs]]) (fun g14 _ => .cells g14 138 [V.u64 (((f.at x.block.toNat).both (f.at k)).with x.block.toNat).1, V.u64 (((f.at x.block.toNat).both (f.at k)).with x.block.toNat).2] :: [.cells g13 29 [.int x.block, intsX x.args], .cells g8 138 [V.u64 f.seen.1, V.u64 f.seen.2], .cells g28 138 (rowL f.over), .cells g3 138 VT.zs138, .cells g1 37 [.int name, blocksX bs]])) [14] [14, 66, 67, 68, 69, 70, 71, 72, 73, 74, 75, 76, 77, 78] rfl VT.mix (by kernel_rfl) (by kernel_rfl) ?_
       refine DrawP_consL (acc' := [_]) (eqRes _) (goodS rfl rfl ⟨(fun γ => Needs_f (by kernel_rfl) (fun r6 h6 => Needs_nil (vopT rfl (V_move h6 ⟨rfl, rfl⟩)))), (fun γ => Needs_f (by kernel_rfl) (fun r6 h6 => Needs_nil (vopT rfl (V_move h6 ⟨rfl, rfl⟩)))), trivial⟩) rfl ?_
       refine DrawP_consL (acc' := [_, _]) (eqRes _) (goodS rfl rfl ⟨(fun γ => Needs_f (by kernel_rfl) (fun r13 h13 => Needs_nil (vopT rfl (V_fieldAddr VT.fa29_0 h13 ⟨rfl, rfl⟩)))), (fun γ => Needs_f (by kernel_rfl) (fun r13 h13 => Needs_nil (vopT rfl (V_fieldAddr VT.fa29_0 h13 ⟨rfl, rfl⟩)))), trivial⟩) rfl ?_
       refine DrawP_consL (acc' := [_, _, _]) (eqRes _) (goodS rfl rfl ⟨(fun γ => Needs_w 1 (by kernel_rfl) rfl (fun r67 h67 => Needs_nil (vopT rfl (V_load 0 VT.ty3 h67 rfl rfl ⟨rfl, rfl⟩)))), (fun γ => Needs_w 1 (by kernel_rfl) rfl (fun r67 h67 => Needs_nil (vopT rfl (V_load 1 VT.ty3 h67 rfl rfl ⟨rfl, rfl⟩)))), trivial⟩) rfl ?_
       refine DrawP_consL (acc' := [_, _, _, _]) (eqRes _) (goodS rfl rfl ⟨(fun γ => Needs_w 0 (by kernel_rfl) rfl (fun r66 h66 => Needs_w 2 (by kernel_rfl) rfl (fun r68 h68 => Needs_nil (vopT rfl (V_indexAddr_row VT.sl135 h66 h68 (by omega) (by omega) ⟨rfl, rfl⟩))))), (fun γ => Needs_w 0 (by kernel_rfl) rfl (fun r66 h66 => Needs_w 2 (by kernel_rfl) rfl (fun r68 h68 => Needs_nil (vopT rfl (V_indexAddr_row VT.sl135 h66 h68 (by omega) (by omega) ⟨rfl, rfl⟩))))), trivial⟩) rfl ?_
       refine DrawP_consL (acc' := [_, _, _, _, _]) (eqRes _) (goodS rfl rfl ⟨(fun γ => Needs_w 3 (by kernel_rfl) rfl (fun r69 h69 => Needs_nil (vopT rfl (V_load_elem 2 x.block.toNat VT.ty138 h69 (by simp) rfl (rowL_nil _) (sets_fit _) (at_setV (by omega)) ⟨rfl, rfl⟩)))), (fun γ => Needs_w 3 (by kernel_rfl) rfl (fun r69 h69 => Needs_nil (vopT rfl (V_load_elem 3 x.block.toNat VT.ty138 h69 (by simp) rfl (rowL_nil _) (sets_fit _) (at_setV (by omega)) ⟨rfl, rfl⟩)))), trivial⟩) rfl ?_
       refine DrawP_consL (acc' := [_, _, _, _, _, _]) (eqRes _) (goodS rfl rfl ⟨(fun γ => Needs_f (by kernel_rfl) (fun r6 h6 => Needs_nil (vopT rfl (V_move h6 ⟨rfl, rfl⟩)))), (fun γ => Needs_f (by kernel_rfl) (fun r6 h6 => Needs_nil (vopT rfl (V_move h6 ⟨rfl, rfl⟩)))), trivial⟩) rfl ?_
       refine DrawP_consL (acc' := [_, _, _, _, _, _, _]) (eqRes _) (goodS rfl rfl ⟨(fun γ => Needs_f (by kernel_rfl) (fun r10 h10 => Needs_nil (vopT rfl (V_move h10 ⟨rfl, rfl⟩)))), (fun γ => Needs_f (by kernel_rfl) (fun r10 h10 => Needs_nil (vopT rfl (V_move h10 ⟨rfl, rfl⟩)))), trivial⟩) rfl ?_
       refine DrawP_consL (acc' := [_, _, _, _, _, _, _, _]) (eqRes _) (goodS rfl rfl ⟨(fun γ => Needs_w 5 (by kernel_rfl) rfl (fun r71 h71 => Needs_w 6 (by kernel_rfl) rfl (fun r72 h72 => Needs_nil (vopT rfl (V_indexAddr_row VT.sl135 h71 h72 (by omega) (by omega) ⟨rfl, rfl⟩))))), (fun γ => Needs_w 5 (by kernel_rfl) rfl (fun r71 h71 => Needs_w 6 (by kernel_rfl) rfl (fun r72 h72 => Needs_nil (vopT rfl (V_indexAddr_row VT.sl135 h71 h72 (by omega) (by omega) ⟨rfl, rfl⟩))))), trivial⟩) rfl ?_
       refine DrawP_consL (acc' := [_, _, _, _, _, _, _, _, _]) (eqRes _) (goodS rfl rfl ⟨(fun γ => Needs_w 7 (by kernel_rfl) rfl (fun r73 h73 => Needs_nil (vopT rfl (V_load_elem 2 k VT.ty138 h73 (by simp) rfl (rowL_nil _) (sets_fit _) (at_setV (by omega)) ⟨rfl, rfl⟩)))), (fun γ => Needs_w 7 (by kernel_rfl) rfl (fun r73 h73 => Needs_nil (vopT rfl (V_load_elem 3 k VT.ty138 h73 (by simp) rfl (rowL_nil _) (sets_fit _) (at_setV (by omega)) ⟨rfl, rfl⟩)))), trivial⟩) rfl ?_
       refine DrawP_consL (acc' := [_, _, _, _, _, _, _, _, _, _]) (eqRes _) (goodS rfl rfl ⟨(fun γ => Needs_w 4 (by kernel_rfl) rfl (fun r70 h70 => Needs_w 8 (by kernel_rfl) rfl (fun r74 h74 => Needs_nil (vopT rfl (V_callP [.tmp 70, .tmp 74] rfl (evs_cons h70 (evs_cons h74 evs_nil)) VT.en104 (both_c (f.at x.block.toNat) (f.at k)) ⟨rfl, rfl⟩))))), (fun γ => Needs_w 4 (by kernel_rfl) rfl (fun r70 h70 => Needs_w 8 (by kernel_rfl) rfl (fun r74 h74 => Needs_nil (vopT rfl (V_callP [.tmp 70, .tmp 74] rfl (evs_cons h70 (evs_cons h74 evs_nil)) VT.en104 (both_c (f.at x.block.toNat) (f.at k)) ⟨rfl, rfl⟩))))), trivial⟩) rfl ?_
       refine DrawP_consL (acc' := [_, _, _, _, _, _, _, _, _, _, _]) (eqRes _) (goodS rfl rfl ⟨(fun γ => Needs_f (by kernel_rfl) (fun r13 h13 => Needs_nil (vopT rfl (V_fieldAddr VT.fa29_0 h13 ⟨rfl, rfl⟩)))), (fun γ => Needs_f (by kernel_rfl) (fun r13 h13 => Needs_nil (vopT rfl (V_fieldAddr VT.fa29_0 h13 ⟨rfl, rfl⟩)))), trivial⟩) rfl ?_
       refine DrawP_consL (acc' := [_, _, _, _, _, _, _, _, _, _, _, _]) (eqRes _) (goodS rfl rfl ⟨(fun γ => Needs_w 10 (by kernel_rfl) rfl (fun r76 h76 => Needs_nil (vopT rfl (V_load 0 VT.ty3 h76 rfl rfl ⟨rfl, rfl⟩)))), (fun γ => Needs_w 10 (by kernel_rfl) rfl (fun r76 h76 => Needs_nil (vopT rfl (V_load 1 VT.ty3 h76 rfl rfl ⟨rfl, rfl⟩)))), trivial⟩) rfl ?_
       refine DrawP_consL (acc' := [_, _, _, _, _, _, _, _, _, _, _, _, _]) (eqRes _) (goodS rfl rfl ⟨(fun γ => Needs_w 9 (by kernel_rfl) rfl (fun r75 h75 => Needs_w 11 (by kernel_rfl) rfl (fun r77 h77 => Needs_nil (vopT rfl (V_callP [.tmp 75, .tmp 77] rfl (evs_cons h75 (evs_cons h77 evs_nil)) VT.en103 (with_c ((f.at x.block.toNat).both (f.at k)) x.block (by omega) (by omega)) ⟨rfl, rfl⟩))))), (fun γ => Needs_w 9 (by kernel_rfl) rfl (fun r75 h75 => Needs_w 11 (by kernel_rfl) rfl (fun r77 h77 => Needs_nil (vopT rfl (V_callP [.tmp 75, .tmp 77] rfl (evs_cons h75 (evs_cons h77 evs_nil)) VT.en103 (with_c ((f.at x.block.toNat).both (f.at k)) x.block (by omega) (by omega)) ⟨rfl, rfl⟩))))), trivial⟩) rfl ?_
       refine DrawP_consL (acc' := [_, _, _, _, _, _, _, _, _, _, _, _, _, _]) (oneRes (fun g14 => .ptr g14 0)) (goodU 0 rfl (fun γ => Needs_nil (vopT rfl (V_alloc VT.zr138 _ rfl rfl (fun g14 => ⟨g14, ⟨g14, rfl, rfl⟩, rfl⟩))))) rfl ?_
       refine DrawP_consL (acc' := [_, _, _, _, _, _, _, _, _, _, _, _, _, _, _]) anyRes (goodU 1 rfl (fun γ => Needs_w 13 (by kernel_rfl) rfl (fun r14 h14 => Needs_w 12 (by kernel_rfl) rfl (fun r78 h78 => Needs_nil (oneE h14 (fun e14 => vopT rfl (V_store_agg 0 VT.ty138 e14 h78 rfl rfl rfl ⟨default, trivial, rfl⟩))))))) rfl ?_
       refine DrawP_nil (fun γ => Needs_w 13 (by kernel_rfl) rfl (fun r14 h14 => Needs_nil ?_))
       have e14 : r14 = some _ := oneY h14
       subst e14
       clear h14
       refine Then_n ?_
       let g14 : Nat := γ 0
       refine VW_seq ?_
       rcases Bool.eq_false_or_eq_true ((!(((((f.at x.block.toNat).both (f.at k)).with x.block.toNat)).1 == (f.at x.block.toNat).1 && ((((f.at x.block.toNat).both (f.at k)).with x.block.toNat)).2 == (f.at x.block.toNat).2))) with hq86 | hq86
       ·
        refine VW_draw (G := Unit) [([], [14], []), ([], [6], []), ([], [13], []), ([2], [81], []), ([3, 2, 1], [80, 82], []), ([4, 3, 2, 1], [83], []), ([5, 4, 3, 2, 1, 0], [79, 84], []), ([6, 5, 4, 3, 2, 1, 0], [85], []), ([7, 6, 5, 4, 3, 2, 1, 0], [8, 86], []), ([7, 6, 5, 4, 3, 2, 1, 0], [13, 86], []), ([9, 7, 6, 5, 4, 3, 2, 1, 0], [88, 86], []), ([10, 9, 8, 7, 6, 5, 4, 3, 2, 1, 0], [87, 89, 86], []), ([11, 10, 9, 8, 7, 6, 5, 4, 3, 2, 1, 0], [90, 86], []), ([12, 11, 10, 9, 8, 7, 6, 5, 4, 3, 2, 1, 0], [86, 91], [])] [] (constSt _) [92] [79, 80, 81, 82, 83, 84, 85, 86, 87, 88, 89, 90, 91, 92] rfl VT.mix (by kernel_rfl) (by kernel_rfl) ?_
        refine DrawP_consL (acc' := [_]) (eqRes _) (good0 (fun γ => Needs_f (by kernel_rfl) (fun r14 h14 => Needs_nil (vopT rfl (V_load_agg 0 VT.ty138 h14 rfl rfl ⟨rfl, rfl⟩))))) rfl ?_
        refine DrawP_consL (acc' := [_, _]) (eqRes _) (good0 (fun γ => Needs_f (by kernel_rfl) (fun r6 h6 => Needs_nil (vopT rfl (V_move h6 ⟨rfl, rfl⟩))))) rfl ?_
        refine DrawP_consL (acc' := [_, _, _]) (eqRes _) (good0 (fun γ => Needs_f (by kernel_rfl) (fun r13 h13 => Needs_nil (vopT rfl (V_fieldAddr VT.fa29_0 h13 ⟨rfl, rfl⟩))))) rfl ?_
        refine DrawP_consL (acc' := [_, _, _, _]) (eqRes _) (good0 (fun γ => Needs_w 2 (by kernel_rfl) rfl (fun r81 h81 => Needs_nil (vopT rfl (V_load 1 VT.ty3 h81 rfl rfl ⟨rfl, rfl⟩))))) rfl ?_
        refine DrawP_consL (acc' := [_, _, _, _, _]) (eqRes _) (good0 (fun γ => Needs_w 1 (by kernel_rfl) rfl (fun r80 h80 => Needs_w 3 (by kernel_rfl) rfl (fun r82 h82 => Needs_nil (vopT rfl (V_indexAddr_row VT.sl135 h80 h82 (by omega) (by omega) ⟨rfl, rfl⟩)))))) rfl ?_
        refine DrawP_consL (acc' := [_, _, _, _, _, _]) (eqRes _) (good0 (fun γ => Needs_w 4 (by kernel_rfl) rfl (fun r83 h83 => Needs_nil (vopT rfl (V_load_elem 3 x.block.toNat VT.ty138 h83 (by simp) rfl (rowL_nil _) (sets_fit _) (at_setV (by omega)) ⟨rfl, rfl⟩))))) rfl ?_
        refine DrawP_consL (acc' := [_, _, _, _, _, _, _]) (eqRes _) (good0 (fun γ => Needs_w 0 (by kernel_rfl) rfl (fun r79 h79 => Needs_w 5 (by kernel_rfl) rfl (fun r84 h84 => Needs_nil (vopT rfl (V_neSet Try.underlying138 Try.underlying136 VT.se138 (by kernel_rfl) h79 h84 ⟨rfl, rfl⟩)))))) rfl ?_
        refine DrawP_consL (acc' := [_, _, _, _, _, _, _, _]) (eqRes _) (good0 (fun γ => Needs_w 6 (by kernel_rfl) rfl (fun r85 h85 => Needs_nil (vopT rfl (V_move h85 ⟨rfl, rfl⟩))))) rfl ?_
        refine DrawP_consL (acc' := [_, _, _, _, _, _, _, _, _]) (eqRes _) (good0 (fun γ => Needs_f (by kernel_rfl) (fun r8 h8 => Needs_w 7 (by kernel_rfl) rfl (fun r86 h86 => Needs_nil (vopF (skip_of rfl rfl h86 hq86) ⟨rfl, rfl⟩))))) rfl ?_
        refine DrawP_consL (acc' := [_, _, _, _, _, _, _, _, _, _]) (eqRes _) (good0 (fun γ => Needs_f (by kernel_rfl) (fun r13 h13 => Needs_w 7 (by kernel_rfl) rfl (fun r86 h86 => Needs_nil (vopF (skip_of rfl rfl h86 hq86) ⟨rfl, rfl⟩))))) rfl ?_
        refine DrawP_consL (acc' := [_, _, _, _, _, _, _, _, _, _, _]) (eqRes _) (good0 (fun γ => Needs_w 9 (by kernel_rfl) rfl (fun r88 h88 => Needs_w 7 (by kernel_rfl) rfl (fun r86 h86 => Needs_nil (vopF (skip_of rfl rfl h86 hq86) ⟨rfl, rfl⟩))))) rfl ?_
        refine DrawP_consL (acc' := [_, _, _, _, _, _, _, _, _, _, _, _]) (eqRes _) (good0 (fun γ => Needs_w 8 (by kernel_rfl) rfl (fun r87 h87 => Needs_w 10 (by kernel_rfl) rfl (fun r89 h89 => Needs_w 7 (by kernel_rfl) rfl (fun r86 h86 => Needs_nil (vopF (skip_of rfl rfl h86 hq86) ⟨rfl, rfl⟩)))))) rfl ?_
        refine DrawP_consL (acc' := [_, _, _, _, _, _, _, _, _, _, _, _, _]) (eqRes _) (good0 (fun γ => Needs_w 11 (by kernel_rfl) rfl (fun r90 h90 => Needs_w 7 (by kernel_rfl) rfl (fun r86 h86 => Needs_nil (vopF (skip_of rfl rfl h86 hq86) ⟨rfl, rfl⟩))))) rfl ?_
        refine DrawP_consL (acc' := [_, _, _, _, _, _, _, _, _, _, _, _, _, _]) (eqRes _) (good0 (fun γ => Needs_w 7 (by kernel_rfl) rfl (fun r86 h86 => Needs_w 12 (by kernel_rfl) rfl (fun r91 h91 => Needs_nil (vopT rfl (V_pickT h86 hq86 rfl ⟨rfl, rfl⟩)))))) rfl ?_
        refine DrawP_nil (fun γ => Needs_w 13 (by kernel_rfl) rfl (fun r92 h92 => Needs_nil ?_))
        have e92 : r92 = some _ := h92
        subst e92
        clear h92
        refine Then_n ?_
        refine VW_condT rfl rfl ?_
        have hne : (((f.at x.block.toNat).both (f.at k)).with x.block.toNat) ≠ f.at x.block.toNat := fun e => by rw [e] at hq86; simp at hq86
        have hde : domEdge k f x = ⟨f.over.set x.block.toNat (((f.at x.block.toNat).both (f.at k)).with x.block.toNat), f.seen.with x.block.toNat, true⟩ := by unfold domEdge; exact if_pos (.inl hne)
        refine VW_draw (G := Unit) [([], [6], []), ([], [13], []), ([1], [94], []), ([], [14], []), ([], [8], []), ([], [13], []), ([5], [98], []), ([6, 5, 4], [97, 99], []), ([7, 6, 5, 4, 3, 2, 1, 0], [93, 95], []), ([8, 7, 6, 5, 4, 3, 2, 1, 0], [101, 96], []), ([9, 8, 7, 6, 5, 4, 3, 2, 1, 0], [8, 100], []), ([10, 9, 8, 7, 6, 5, 4, 3, 2, 1, 0], [], [])] [9, 10] (twoSt _ (fun _ => [.cells g14 138 [V.u64 (((f.at x.block.toNat).both (f.at k)).with x.block.toNat).1, V.u64 (((f.at x.block.toNat).both (f.at k)).with x.block.toNat).2], .cells g13 29 [.int x.block, intsX x.args], .cells g8 138 [V.u64 f.seen.1, V.u64 f.seen.2], .cells g28 138 (((f.over.map setV).set x.block.toNat (.agg [V.u64 (((f.at x.block.toNat).both (f.at k)).with x.block.toNat).1, V.u64 (((f.at x.block.toNat).both (f.at k)).with x.block.toNat).2])).flatMap V.leaves ++ []), .cells g3 138 VT.zs138, .cells g1 37 [.int name, blocksX bs]]) (fun _ _ => [.cells g14 138 [V.u64 (((f.at x.block.toNat).both (f.at k)).with x.block.toNat).1, V.u64 (((f.at x.block.toNat).both (f.at k)).with x.block.toNat).2], .cells g13 29 [.int x.block, intsX x.args], .cells g8 138 [V.u64 (f.seen.with x.block.toNat).1, V.u64 (f.seen.with x.block.toNat).2], .cells g28 138 (((f.over.map setV).set x.block.toNat (.agg [V.u64 (((f.at x.block.toNat).both (f.at k)).with x.block.toNat).1, V.u64 (((f.at x.block.toNat).both (f.at k)).with x.block.toNat).2])).flatMap V.leaves ++ []), .cells g3 138 VT.zs138, .cells g1 37 [.int name, blocksX bs]])) [9] [9, 93, 94, 95, 96, 97, 98, 99, 100, 101] rfl VT.mix (by kernel_rfl) (by kernel_rfl) ?_
        refine DrawP_consL (acc' := [_]) (eqRes _) (goodS rfl rfl ⟨(fun γ => Needs_f (by kernel_rfl) (fun r6 h6 => Needs_nil (vopT rfl (V_move h6 ⟨rfl, rfl⟩)))), trivial⟩) rfl ?_
        refine DrawP_consL (acc' := [_, _]) (eqRes _) (goodS rfl rfl ⟨(fun γ => Needs_f (by kernel_rfl) (fun r13 h13 => Needs_nil (vopT rfl (V_fieldAddr VT.fa29_0 h13 ⟨rfl, rfl⟩)))), trivial⟩) rfl ?_
        refine DrawP_consL (acc' := [_, _, _]) (eqRes _) (goodS rfl rfl ⟨(fun γ => Needs_w 1 (by kernel_rfl) rfl (fun r94 h94 => Needs_nil (vopT rfl (V_load 1 VT.ty3 h94 rfl rfl ⟨rfl, rfl⟩)))), trivial⟩) rfl ?_
        refine DrawP_consL (acc' := [_, _, _, _]) (eqRes _) (goodS rfl rfl ⟨(fun γ => Needs_f (by kernel_rfl) (fun r14 h14 => Needs_nil (vopT rfl (V_load_agg 0 VT.ty138 h14 rfl rfl ⟨rfl, rfl⟩)))), trivial⟩) rfl ?_
        refine DrawP_consL (acc' := [_, _, _, _, _]) (eqRes _) (goodS rfl rfl ⟨(fun γ => Needs_f (by kernel_rfl) (fun r8 h8 => Needs_nil (vopT rfl (V_load_agg 2 VT.ty138 h8 rfl rfl ⟨rfl, rfl⟩)))), trivial⟩) rfl ?_
        refine DrawP_consL (acc' := [_, _, _, _, _, _]) (eqRes _) (goodS rfl rfl ⟨(fun γ => Needs_f (by kernel_rfl) (fun r13 h13 => Needs_nil (vopT rfl (V_fieldAddr VT.fa29_0 h13 ⟨rfl, rfl⟩)))), trivial⟩) rfl ?_
        refine DrawP_consL (acc' := [_, _, _, _, _, _, _]) (eqRes _) (goodS rfl rfl ⟨(fun γ => Needs_w 5 (by kernel_rfl) rfl (fun r98 h98 => Needs_nil (vopT rfl (V_load 1 VT.ty3 h98 rfl rfl ⟨rfl, rfl⟩)))), trivial⟩) rfl ?_
        refine DrawP_consL (acc' := [_, _, _, _, _, _, _, _]) (eqRes _) (goodS rfl rfl ⟨(fun γ => Needs_w 4 (by kernel_rfl) rfl (fun r97 h97 => Needs_w 6 (by kernel_rfl) rfl (fun r99 h99 => Needs_nil (vopT rfl (V_callP [.tmp 97, .tmp 99] rfl (evs_cons h97 (evs_cons h99 evs_nil)) VT.en103 (with_c f.seen x.block (by omega) (by omega)) ⟨rfl, rfl⟩))))), trivial⟩) rfl ?_
        refine DrawP_consL (acc' := [_, _, _, _, _, _, _, _, _]) (eqRes _) (goodS rfl rfl ⟨(fun γ => Needs_w 0 (by kernel_rfl) rfl (fun r93 h93 => Needs_w 2 (by kernel_rfl) rfl (fun r95 h95 => Needs_nil (vopT rfl (V_indexAddr_row VT.sl135 h93 h95 (by omega) (by omega) ⟨rfl, rfl⟩))))), trivial⟩) rfl ?_
        refine DrawP_consL (acc' := [_, _, _, _, _, _, _, _, _, _]) anyRes (goodU 0 rfl (fun γ => Needs_w 8 (by kernel_rfl) rfl (fun r101 h101 => Needs_w 3 (by kernel_rfl) rfl (fun r96 h96 => Needs_nil (vopT rfl (V_store_elem 3 x.block.toNat VT.ty138 h101 (by simp) h96 rfl rfl (rowL_nil _) (sets_fit _) (by rw [List.length_map]; omega) ⟨default, trivial, rfl⟩)))))) rfl ?_
        refine DrawP_consL (acc' := [_, _, _, _, _, _, _, _, _, _, _]) anyRes (goodU 1 rfl (fun γ => Needs_f (by kernel_rfl) (fun r8 h8 => Needs_w 7 (by kernel_rfl) rfl (fun r100 h100 => Needs_nil (vopT rfl (V_store_agg 2 VT.ty138 h8 h100 rfl rfl rfl ⟨default, trivial, rfl⟩)))))) rfl ?_
        refine DrawP_consL (acc' := [_, _, _, _, _, _, _, _, _, _, _, _]) (eqRes _) (goodS rfl rfl ⟨(fun γ => Needs_nil (vopT rfl (V_assign rfl ⟨rfl, rfl⟩))), trivial⟩) rfl ?_
        refine DrawP_nil (fun γ => Needs_w 11 (by kernel_rfl) rfl (fun r9 h9 => Needs_nil ?_))
        have e9 : r9 = some _ := h9
        subst e9
        clear h9
        refine InBlock_n (Then_n ?_)
        refine VW_region ?_
        refine VOps_cons rfl rfl (V_add rfl rfl (by omega) ?_)
        refine VOps_cons rfl rfl (V_move rfl ?_)
        refine VOps_nil ?_
        refine Then_n ?_
        exact ⟨(j + 1, domEdge k f x), (by (try simp only []); omega), ⟨by omega, by rw [← hfo, drop_cons hx, List.foldl_cons], (domEdge_w hokf (by omega) hx1 hx2).1⟩, ⟨rfl, rfl, rfl, rfl, (by rw [hde]; first | done | rfl), rfl, rfl, rfl, rfl, rfl, rfl, rfl, trivial⟩, (Drops.drop (Drops.drop (Drops.keepE (by rw [hde]) (Drops.keepE (by rw [hde]; first | done | rfl | exact congrArg (Own.cells g28 138) (rowL_set _ _ _)) (Drops.keep (Drops.keep (Drops.refl _)))))))⟩
       ·
        refine VW_draw (G := Unit) [([], [14], []), ([], [6], []), ([], [13], []), ([2], [81], []), ([3, 2, 1], [80, 82], []), ([4, 3, 2, 1], [83], []), ([5, 4, 3, 2, 1, 0], [79, 84], []), ([6, 5, 4, 3, 2, 1, 0], [85], []), ([7, 6, 5, 4, 3, 2, 1, 0], [8, 86], []), ([7, 6, 5, 4, 3, 2, 1, 0], [13, 86], []), ([9, 7, 6, 5, 4, 3, 2, 1, 0], [88, 86], []), ([10, 9, 8, 7, 6, 5, 4, 3, 2, 1, 0], [87, 89, 86], []), ([11, 10, 9, 8, 7, 6, 5, 4, 3, 2, 1, 0], [90, 86], []), ([12, 11, 10, 9, 8, 7, 6, 5, 4, 3, 2, 1, 0], [86, 91], [])] [] (constSt _) [92] [79, 80, 81, 82, 83, 84, 85, 86, 87, 88, 89, 90, 91, 92] rfl VT.mix (by kernel_rfl) (by kernel_rfl) ?_
        refine DrawP_consL (acc' := [_]) (eqRes _) (good0 (fun γ => Needs_f (by kernel_rfl) (fun r14 h14 => Needs_nil (vopT rfl (V_load_agg 0 VT.ty138 h14 rfl rfl ⟨rfl, rfl⟩))))) rfl ?_
        refine DrawP_consL (acc' := [_, _]) (eqRes _) (good0 (fun γ => Needs_f (by kernel_rfl) (fun r6 h6 => Needs_nil (vopT rfl (V_move h6 ⟨rfl, rfl⟩))))) rfl ?_
        refine DrawP_consL (acc' := [_, _, _]) (eqRes _) (good0 (fun γ => Needs_f (by kernel_rfl) (fun r13 h13 => Needs_nil (vopT rfl (V_fieldAddr VT.fa29_0 h13 ⟨rfl, rfl⟩))))) rfl ?_
        refine DrawP_consL (acc' := [_, _, _, _]) (eqRes _) (good0 (fun γ => Needs_w 2 (by kernel_rfl) rfl (fun r81 h81 => Needs_nil (vopT rfl (V_load 1 VT.ty3 h81 rfl rfl ⟨rfl, rfl⟩))))) rfl ?_
        refine DrawP_consL (acc' := [_, _, _, _, _]) (eqRes _) (good0 (fun γ => Needs_w 1 (by kernel_rfl) rfl (fun r80 h80 => Needs_w 3 (by kernel_rfl) rfl (fun r82 h82 => Needs_nil (vopT rfl (V_indexAddr_row VT.sl135 h80 h82 (by omega) (by omega) ⟨rfl, rfl⟩)))))) rfl ?_
        refine DrawP_consL (acc' := [_, _, _, _, _, _]) (eqRes _) (good0 (fun γ => Needs_w 4 (by kernel_rfl) rfl (fun r83 h83 => Needs_nil (vopT rfl (V_load_elem 3 x.block.toNat VT.ty138 h83 (by simp) rfl (rowL_nil _) (sets_fit _) (at_setV (by omega)) ⟨rfl, rfl⟩))))) rfl ?_
        refine DrawP_consL (acc' := [_, _, _, _, _, _, _]) (eqRes _) (good0 (fun γ => Needs_w 0 (by kernel_rfl) rfl (fun r79 h79 => Needs_w 5 (by kernel_rfl) rfl (fun r84 h84 => Needs_nil (vopT rfl (V_neSet Try.underlying138 Try.underlying136 VT.se138 (by kernel_rfl) h79 h84 ⟨rfl, rfl⟩)))))) rfl ?_
        refine DrawP_consL (acc' := [_, _, _, _, _, _, _, _]) (eqRes _) (good0 (fun γ => Needs_w 6 (by kernel_rfl) rfl (fun r85 h85 => Needs_nil (vopT rfl (V_move h85 ⟨rfl, rfl⟩))))) rfl ?_
        refine DrawP_consL (acc' := [_, _, _, _, _, _, _, _, _]) (eqRes _) (good0 (fun γ => Needs_f (by kernel_rfl) (fun r8 h8 => Needs_w 7 (by kernel_rfl) rfl (fun r86 h86 => Needs_nil (vopT (want_of rfl rfl h86 hq86) (V_load_agg 2 VT.ty138 h8 rfl rfl ⟨rfl, rfl⟩)))))) rfl ?_
        refine DrawP_consL (acc' := [_, _, _, _, _, _, _, _, _, _]) (eqRes _) (good0 (fun γ => Needs_f (by kernel_rfl) (fun r13 h13 => Needs_w 7 (by kernel_rfl) rfl (fun r86 h86 => Needs_nil (vopT (want_of rfl rfl h86 hq86) (V_fieldAddr VT.fa29_0 h13 ⟨rfl, rfl⟩)))))) rfl ?_
        refine DrawP_consL (acc' := [_, _, _, _, _, _, _, _, _, _, _]) (eqRes _) (good0 (fun γ => Needs_w 9 (by kernel_rfl) rfl (fun r88 h88 => Needs_w 7 (by kernel_rfl) rfl (fun r86 h86 => Needs_nil (vopT (want_of rfl rfl h86 hq86) (V_load 1 VT.ty3 h88 rfl rfl ⟨rfl, rfl⟩)))))) rfl ?_
        refine DrawP_consL (acc' := [_, _, _, _, _, _, _, _, _, _, _, _]) (eqRes _) (good0 (fun γ => Needs_w 8 (by kernel_rfl) rfl (fun r87 h87 => Needs_w 10 (by kernel_rfl) rfl (fun r89 h89 => Needs_w 7 (by kernel_rfl) rfl (fun r86 h86 => Needs_nil (vopT (want_of rfl rfl h86 hq86) (V_callP [.tmp 87, .tmp 89] rfl (evs_cons h87 (evs_cons h89 evs_nil)) VT.en86 (has_c f.seen x.block (by omega) (by omega)) ⟨rfl, rfl⟩))))))) rfl ?_
        refine DrawP_consL (acc' := [_, _, _, _, _, _, _, _, _, _, _, _, _]) (eqRes _) (good0 (fun γ => Needs_w 11 (by kernel_rfl) rfl (fun r90 h90 => Needs_w 7 (by kernel_rfl) rfl (fun r86 h86 => Needs_nil (vopT (want_of rfl rfl h86 hq86) (V_not h90 ⟨rfl, rfl⟩)))))) rfl ?_
        refine DrawP_consL (acc' := [_, _, _, _, _, _, _, _, _, _, _, _, _, _]) (eqRes _) (good0 (fun γ => Needs_w 7 (by kernel_rfl) rfl (fun r86 h86 => Needs_w 12 (by kernel_rfl) rfl (fun r91 h91 => Needs_nil (vopT rfl (V_pickF h86 hq86 h91 ⟨rfl, rfl⟩)))))) rfl ?_
        refine DrawP_nil (fun γ => Needs_w 13 (by kernel_rfl) rfl (fun r92 h92 => Needs_nil ?_))
        have e92 : r92 = some _ := h92
        subst e92
        clear h92
        refine Then_n ?_
        refine VW_condN rfl (fun h92 => ?_) (fun h92 => ?_)
        ·
         have hde : domEdge k f x = ⟨f.over.set x.block.toNat (((f.at x.block.toNat).both (f.at k)).with x.block.toNat), f.seen.with x.block.toNat, true⟩ := by unfold domEdge; exact if_pos (.inr h92)
         refine VW_draw (G := Unit) [([], [6], []), ([], [13], []), ([1], [94], []), ([], [14], []), ([], [8], []), ([], [13], []), ([5], [98], []), ([6, 5, 4], [97, 99], []), ([7, 6, 5, 4, 3, 2, 1, 0], [93, 95], []), ([8, 7, 6, 5, 4, 3, 2, 1, 0], [101, 96], []), ([9, 8, 7, 6, 5, 4, 3, 2, 1, 0], [8, 100], []), ([10, 9, 8, 7, 6, 5, 4, 3, 2, 1, 0], [], [])] [9, 10] (twoSt _ (fun _ => [.cells g14 138 [V.u64 (((f.at x.block.toNat).both (f.at k)).with x.block.toNat).1, V.u64 (((f.at x.block.toNat).both (f.at k)).with x.block.toNat).2], .cells g13 29 [.int x.block, intsX x.args], .cells g8 138 [V.u64 f.seen.1, V.u64 f.seen.2], .cells g28 138 (((f.over.map setV).set x.block.toNat (.agg [V.u64 (((f.at x.block.toNat).both (f.at k)).with x.block.toNat).1, V.u64 (((f.at x.block.toNat).both (f.at k)).with x.block.toNat).2])).flatMap V.leaves ++ []), .cells g3 138 VT.zs138, .cells g1 37 [.int name, blocksX bs]]) (fun _ _ => [.cells g14 138 [V.u64 (((f.at x.block.toNat).both (f.at k)).with x.block.toNat).1, V.u64 (((f.at x.block.toNat).both (f.at k)).with x.block.toNat).2], .cells g13 29 [.int x.block, intsX x.args], .cells g8 138 [V.u64 (f.seen.with x.block.toNat).1, V.u64 (f.seen.with x.block.toNat).2], .cells g28 138 (((f.over.map setV).set x.block.toNat (.agg [V.u64 (((f.at x.block.toNat).both (f.at k)).with x.block.toNat).1, V.u64 (((f.at x.block.toNat).both (f.at k)).with x.block.toNat).2])).flatMap V.leaves ++ []), .cells g3 138 VT.zs138, .cells g1 37 [.int name, blocksX bs]])) [9] [9, 93, 94, 95, 96, 97, 98, 99, 100, 101] rfl VT.mix (by kernel_rfl) (by kernel_rfl) ?_
         refine DrawP_consL (acc' := [_]) (eqRes _) (goodS rfl rfl ⟨(fun γ => Needs_f (by kernel_rfl) (fun r6 h6 => Needs_nil (vopT rfl (V_move h6 ⟨rfl, rfl⟩)))), trivial⟩) rfl ?_
         refine DrawP_consL (acc' := [_, _]) (eqRes _) (goodS rfl rfl ⟨(fun γ => Needs_f (by kernel_rfl) (fun r13 h13 => Needs_nil (vopT rfl (V_fieldAddr VT.fa29_0 h13 ⟨rfl, rfl⟩)))), trivial⟩) rfl ?_
         refine DrawP_consL (acc' := [_, _, _]) (eqRes _) (goodS rfl rfl ⟨(fun γ => Needs_w 1 (by kernel_rfl) rfl (fun r94 h94 => Needs_nil (vopT rfl (V_load 1 VT.ty3 h94 rfl rfl ⟨rfl, rfl⟩)))), trivial⟩) rfl ?_
         refine DrawP_consL (acc' := [_, _, _, _]) (eqRes _) (goodS rfl rfl ⟨(fun γ => Needs_f (by kernel_rfl) (fun r14 h14 => Needs_nil (vopT rfl (V_load_agg 0 VT.ty138 h14 rfl rfl ⟨rfl, rfl⟩)))), trivial⟩) rfl ?_
         refine DrawP_consL (acc' := [_, _, _, _, _]) (eqRes _) (goodS rfl rfl ⟨(fun γ => Needs_f (by kernel_rfl) (fun r8 h8 => Needs_nil (vopT rfl (V_load_agg 2 VT.ty138 h8 rfl rfl ⟨rfl, rfl⟩)))), trivial⟩) rfl ?_
         refine DrawP_consL (acc' := [_, _, _, _, _, _]) (eqRes _) (goodS rfl rfl ⟨(fun γ => Needs_f (by kernel_rfl) (fun r13 h13 => Needs_nil (vopT rfl (V_fieldAddr VT.fa29_0 h13 ⟨rfl, rfl⟩)))), trivial⟩) rfl ?_
         refine DrawP_consL (acc' := [_, _, _, _, _, _, _]) (eqRes _) (goodS rfl rfl ⟨(fun γ => Needs_w 5 (by kernel_rfl) rfl (fun r98 h98 => Needs_nil (vopT rfl (V_load 1 VT.ty3 h98 rfl rfl ⟨rfl, rfl⟩)))), trivial⟩) rfl ?_
         refine DrawP_consL (acc' := [_, _, _, _, _, _, _, _]) (eqRes _) (goodS rfl rfl ⟨(fun γ => Needs_w 4 (by kernel_rfl) rfl (fun r97 h97 => Needs_w 6 (by kernel_rfl) rfl (fun r99 h99 => Needs_nil (vopT rfl (V_callP [.tmp 97, .tmp 99] rfl (evs_cons h97 (evs_cons h99 evs_nil)) VT.en103 (with_c f.seen x.block (by omega) (by omega)) ⟨rfl, rfl⟩))))), trivial⟩) rfl ?_
         refine DrawP_consL (acc' := [_, _, _, _, _, _, _, _, _]) (eqRes _) (goodS rfl rfl ⟨(fun γ => Needs_w 0 (by kernel_rfl) rfl (fun r93 h93 => Needs_w 2 (by kernel_rfl) rfl (fun r95 h95 => Needs_nil (vopT rfl (V_indexAddr_row VT.sl135 h93 h95 (by omega) (by omega) ⟨rfl, rfl⟩))))), trivial⟩) rfl ?_
         refine DrawP_consL (acc' := [_, _, _, _, _, _, _, _, _, _]) anyRes (goodU 0 rfl (fun γ => Needs_w 8 (by kernel_rfl) rfl (fun r101 h101 => Needs_w 3 (by kernel_rfl) rfl (fun r96 h96 => Needs_nil (vopT rfl (V_store_elem 3 x.block.toNat VT.ty138 h101 (by simp) h96 rfl rfl (rowL_nil _) (sets_fit _) (by rw [List.length_map]; omega) ⟨default, trivial, rfl⟩)))))) rfl ?_
         refine DrawP_consL (acc' := [_, _, _, _, _, _, _, _, _, _, _]) anyRes (goodU 1 rfl (fun γ => Needs_f (by kernel_rfl) (fun r8 h8 => Needs_w 7 (by kernel_rfl) rfl (fun r100 h100 => Needs_nil (vopT rfl (V_store_agg 2 VT.ty138 h8 h100 rfl rfl rfl ⟨default, trivial, rfl⟩)))))) rfl ?_
         refine DrawP_consL (acc' := [_, _, _, _, _, _, _, _, _, _, _, _]) (eqRes _) (goodS rfl rfl ⟨(fun γ => Needs_nil (vopT rfl (V_assign rfl ⟨rfl, rfl⟩))), trivial⟩) rfl ?_
         refine DrawP_nil (fun γ => Needs_w 11 (by kernel_rfl) rfl (fun r9 h9 => Needs_nil ?_))
         have e9 : r9 = some _ := h9
         subst e9
         clear h9
         refine InBlock_n (Then_n ?_)
         refine VW_region ?_
         refine VOps_cons rfl rfl (V_add rfl rfl (by omega) ?_)
         refine VOps_cons rfl rfl (V_move rfl ?_)
         refine VOps_nil ?_
         refine Then_n ?_
         exact ⟨(j + 1, domEdge k f x), (by (try simp only []); omega), ⟨by omega, by rw [← hfo, drop_cons hx, List.foldl_cons], (domEdge_w hokf (by omega) hx1 hx2).1⟩, ⟨rfl, rfl, rfl, rfl, (by rw [hde]; first | done | rfl), rfl, rfl, rfl, rfl, rfl, rfl, rfl, trivial⟩, (Drops.drop (Drops.drop (Drops.keepE (by rw [hde]) (Drops.keepE (by rw [hde]; first | done | rfl | exact congrArg (Own.cells g28 138) (rowL_set _ _ _)) (Drops.keep (Drops.keep (Drops.refl _)))))))⟩
        ·
         have heq : (((f.at x.block.toNat).both (f.at k)).with x.block.toNat) = f.at x.block.toNat := by simp at hq86; exact Prod.ext hq86.1 hq86.2
         have hde : domEdge k f x = f := by unfold domEdge; exact if_neg (fun h => h.elim (fun h => h heq) (fun h => by rw [h92] at h; cases h))
         refine VW_skip ?_
         refine InBlock_n (Then_n ?_)
         refine VW_region ?_
         refine VOps_cons rfl rfl (V_add rfl rfl (by omega) ?_)
         refine VOps_cons rfl rfl (V_move rfl ?_)
         refine VOps_nil ?_
         refine Then_n ?_
         exact ⟨(j + 1, domEdge k f x), (by (try simp only []); omega), ⟨by omega, by rw [← hfo, drop_cons hx, List.foldl_cons], (domEdge_w hokf (by omega) hx1 hx2).1⟩, ⟨rfl, rfl, rfl, rfl, (by rw [hde]; first | done | rfl), rfl, rfl, rfl, rfl, rfl, rfl, rfl, trivial⟩, (Drops.drop (Drops.drop (Drops.keepE (by rw [hde]) (Drops.keepE (by rw [hde]; first | done | rfl | exact congrArg (Own.cells g28 138) (rowL_set _ _ _)) (Drops.keep (Drops.keep (Drops.refl _)))))))⟩
      ·
       have hje : j = b.term.to.length := by omega
       subst hje
       rw [List.drop_length, List.foldl_nil] at hfo
       have hskip := hfo.symm
       refine VW_exit ?_
       refine Then_e (Then_e (InBlock_hit ?_))
       refine InBlock_n (Then_n ?_)
       refine VW_region ?_
       refine VOps_cons rfl rfl (V_add rfl rfl (by omega) ?_)
       refine VOps_cons rfl rfl (V_move rfl ?_)
       refine VOps_nil ?_
       refine Then_n ?_
       exact ⟨(k + 1, domBlock c k b), (by (try simp only []); omega), ⟨by omega, by rw [← hps, drop_cons hb, domPass], (block_w (by omega) hokc (hE b (List.mem_of_getElem? hb))).1⟩, ⟨rfl, rfl, rfl, rfl, (by first | rfl | rw [hskip]; rfl), rfl, rfl, rfl, trivial⟩, (Drops.keepE (by first | rfl | rw [hskip]) (Drops.keepE (by first | rfl | rw [hskip]) (Drops.keep (Drops.keep (Drops.refl _)))))⟩
    ·
     have hke : k = bs.length := by omega
     subst hke
     rw [List.drop_length, domPass] at hps
     subst hps
     refine VW_exit ?_
     refine Then_e (Then_e (InBlock_hit ?_))
     refine InBlock_n (Then_n ?_)
     exact ⟨(m', domPass 0 bs { d with again := false }), (by (try simp only []); omega), ⟨hit', hok', hw'⟩, ⟨rfl, rfl, rfl, rfl, rfl, trivial⟩, (Drops.keep (Drops.keep (Drops.keep (Drops.keep (Drops.refl _)))))⟩
   ·
    have hdf : domF bs = d := by rw [← hit]; cases m <;> simp [domIter, h45]
    refine VW_exit ?_
    refine Then_e (Then_e (InBlock_hit ?_))
    refine Then_n ?_
    refine VW_freeze 1 (q := 6) (rest := []) (d.over.map setV) rfl rfl (rowL_nil _) (by simp [hok.len]) (Nat.le_refl _) (by simp only [maxLen]; omega) (sets_fits _) ?_
    refine VW_seq ?_
    refine VW_draw (G := Unit) [([], [6], []), ([], [8], []), ([0], [104], []), ([2, 1, 0], [3, 105], [])] [3] (setSt _ 1 (fun _ => .cells g3 138 [V.u64 d.seen.1, V.u64 d.seen.2])) [2] [2, 104, 105] rfl VT.mix (by kernel_rfl) (by kernel_rfl) ?_
    refine DrawP_consL (acc' := [_]) (eqRes _) (goodS rfl rfl ⟨(fun γ => Needs_f (by kernel_rfl) (fun r6 h6 => Needs_nil (vopT rfl (V_move h6 ⟨rfl, rfl⟩)))), trivial⟩) rfl ?_
    refine DrawP_consL (acc' := [_, _]) (eqRes _) (goodS rfl rfl ⟨(fun γ => Needs_f (by kernel_rfl) (fun r8 h8 => Needs_nil (vopT rfl (V_load_agg 0 VT.ty138 h8 rfl rfl ⟨rfl, rfl⟩)))), trivial⟩) rfl ?_
    refine DrawP_consL (acc' := [_, _, _]) (eqRes _) (goodS rfl rfl ⟨(fun γ => Needs_w 0 (by kernel_rfl) rfl (fun r104 h104 => Needs_nil (vopT rfl (V_assign h104 ⟨rfl, rfl⟩)))), trivial⟩) rfl ?_
    refine DrawP_consL (acc' := [_, _, _, _]) anyRes (goodU1 rfl (fun γ => Needs_f (by kernel_rfl) (fun r3 h3 => Needs_w 1 (by kernel_rfl) rfl (fun r105 h105 => Needs_nil (vopT rfl (V_store_agg 1 VT.ty138 h3 h105 rfl rfl rfl ⟨default, trivial, rfl⟩)))))) rfl ?_
    refine DrawP_nil (fun γ => Needs_w 2 (by kernel_rfl) rfl (fun r2 h2 => Needs_nil ?_))
    have e2 : r2 = some _ := h2
    subst e2
    clear h2
    refine Then_n ?_
    refine VW_ret ?_
    refine VRet_many rfl rfl (.cons (.tmp rfl) (.cons (.agg (i := 1) VT.ty138 rfl rfl rfl) (.nil))) ?_
    rw [hdf]
    rfl


set_option maxRecDepth 100000 in
set_option maxHeartbeats 8000000 in
theorem fine_c (gc gm c1 c2 c3 c4 c5 : Nat) (name : Int) (bs : List SBlock) (d : Defs) (o : Dom) (k : Nat) (a v : Int) (hk : k < o.over.length) (hn : o.over.length ≤ 128) (hd : ∀ p, dget d v = some p → 0 ≤ p.1 ∧ p.1 < 128) : VKeep Try.prog 85 [.int v, .ptr c1 0, .ptr c2 0, .ptr c3 0, .ptr c4 0, .ptr c5 0] [.cells c1 105 [.ptr gc 0], .cells c2 3 [.int k], .cells c3 3 [.int a], .cells c4 135 [setsX o.over], .cells c5 138 [V.u64 o.seen.1, V.u64 o.seen.2], .cells gc 108 [.int name, blocksX bs, .raw (.map (some gm))], .map gm (kmap kint (encD d))] (.bool (fineF d o k a v)) := by
 refine VKeep.drops ?_
 have hr := fineF.eq_def d o k a v
 refine V_start (nt := 53) Try.func85 rfl rfl rfl ?_
 refine VW_seq ?_
 refine VW_region ?_
 refine VOps_cons rfl rfl (V_assign rfl ?_)
 refine VOps_nil ?_
 refine Then_n ?_
 refine VW_seq ?_
 refine VW_region ?_
 refine VOps_cons rfl rfl (V_load 0 VT.ty105 rfl rfl rfl ?_)
 refine VOps_cons rfl rfl (V_nilCheck rfl ?_)
 refine VOps_cons rfl rfl (V_fieldAddr VT.fa108_1 rfl ?_)
 refine VOps_cons rfl rfl (V_load 5 VT.ty106 rfl rfl rfl ?_)
 refine VOps_cons rfl rfl (V_move rfl ?_)
 refine VOps_cons rfl rfl (V_lookupDOk 6 (.agg VT.zs132) (fun m => ⟨rfl, _, rfl, by simp [Go.VL.RepL, VT.zs132, Rep]⟩) Try.underlying106 (key_int Try.underlying3) VT.zr132 rfl rfl rfl ?_)
 refine VOps_cons rfl rfl (V_move rfl ?_)
 refine VOps_cons rfl rfl (VOp_as (V_extract rfl rfl ⟨rfl, rfl⟩) (V.le.of_eq (kget_or d v)) ?_)
 refine VOps_cons rfl rfl (VOp_as (V_extract rfl rfl ⟨rfl, rfl⟩) (V.le.of_eq (congrArg V.bool (kget_some d v))) ?_)
 refine VOps_cons rfl rfl (V_alloc VT.zr132 _ rfl rfl (fun g8 => ?_))
 refine VOps_cons rfl rfl (V_store_agg 0 VT.ty132 rfl rfl rfl rfl rfl ?_)
 refine VOps_cons rfl rfl (V_assign rfl ?_)
 refine VOps_nil ?_
 refine Then_n ?_
 refine VW_seq ?_
 rcases Bool.eq_false_or_eq_true ((dget d v).isSome) with hq20 | hq20
 ·
  obtain ⟨p, hp⟩ := Option.isSome_iff_exists.1 hq20
  have hpd := hd p hp
  have hpp : ((dget d v).getD (0, 0)) = p := by rw [hp]; rfl
  rw [hp] at hr
  rcases Bool.eq_false_or_eq_true ((((dget d v).getD (0, 0)).1 == (k : Int))) with hq25 | hq25
  ·
   rcases Bool.eq_false_or_eq_true ((decide (((dget d v).getD (0, 0)).2 ≤ a))) with hq31 | hq31
   ·
    refine VW_draw (G := Unit) [([], [9], []), ([0], [19], []), ([1, 0], [8, 20], []), ([2, 1, 0], [21, 20], []), ([1, 0], [2, 20], []), ([4, 3, 2, 1, 0], [22, 23, 20], []), ([5, 4, 3, 2, 1, 0], [24, 20], []), ([6, 5, 4, 3, 2, 1, 0], [8, 25], []), ([7, 6, 5, 4, 3, 2, 1, 0], [26, 25], []), ([6, 5, 4, 3, 2, 1, 0], [3, 25], []), ([9, 8, 7, 6, 5, 4, 3, 2, 1, 0], [27, 28, 25], []), ([10, 9, 8, 7, 6, 5, 4, 3, 2, 1, 0], [25, 29, 20], []), ([11, 10, 9, 8, 7, 6, 5, 4, 3, 2, 1, 0], [30, 20], []), ([12, 11, 10, 9, 8, 7, 6, 5, 4, 3, 2, 1, 0], [8, 31], []), ([13, 12, 11, 10, 9, 8, 7, 6, 5, 4, 3, 2, 1, 0], [32, 31], []), ([12, 11, 10, 9, 8, 7, 6, 5, 4, 3, 2, 1, 0], [2, 31], []), ([15, 14, 13, 12, 11, 10, 9, 8, 7, 6, 5, 4, 3, 2, 1, 0], [33, 34, 31], []), ([16, 15, 14, 13, 12, 11, 10, 9, 8, 7, 6, 5, 4, 3, 2, 1, 0], [35, 31], []), ([17, 16, 15, 14, 13, 12, 11, 10, 9, 8, 7, 6, 5, 4, 3, 2, 1, 0], [4, 36], []), ([17, 16, 15, 14, 13, 12, 11, 10, 9, 8, 7, 6, 5, 4, 3, 2, 1, 0], [2, 36], []), ([19, 18, 17, 16, 15, 14, 13, 12, 11, 10, 9, 8, 7, 6, 5, 4, 3, 2, 1, 0], [37, 38, 36], []), ([20, 19, 18, 17, 16, 15, 14, 13, 12, 11, 10, 9, 8, 7, 6, 5, 4, 3, 2, 1, 0], [39, 36], []), ([17, 16, 15, 14, 13, 12, 11, 10, 9, 8, 7, 6, 5, 4, 3, 2, 1, 0], [8, 36], []), ([22, 17, 16, 15, 14, 13, 12, 11, 10, 9, 8, 7, 6, 5, 4, 3, 2, 1, 0], [41, 36], []), ([23, 22, 21, 20, 19, 18, 17, 16, 15, 14, 13, 12, 11, 10, 9, 8, 7, 6, 5, 4, 3, 2, 1, 0], [40, 42, 36], []), ([24, 23, 22, 21, 20, 19, 18, 17, 16, 15, 14, 13, 12, 11, 10, 9, 8, 7, 6, 5, 4, 3, 2, 1, 0], [36, 43, 31], []), ([25, 24, 23, 22, 21, 20, 19, 18, 17, 16, 15, 14, 13, 12, 11, 10, 9, 8, 7, 6, 5, 4, 3, 2, 1, 0], [31, 44, 20], []), ([26, 25, 24, 23, 22, 21, 20, 19, 18, 17, 16, 15, 14, 13, 12, 11, 10, 9, 8, 7, 6, 5, 4, 3, 2, 1, 0], [45, 20], []), ([27, 26, 25, 24, 23, 22, 21, 20, 19, 18, 17, 16, 15, 14, 13, 12, 11, 10, 9, 8, 7, 6, 5, 4, 3, 2, 1, 0], [5, 46], []), ([27, 26, 25, 24, 23, 22, 21, 20, 19, 18, 17, 16, 15, 14, 13, 12, 11, 10, 9, 8, 7, 6, 5, 4, 3, 2, 1, 0], [2, 46], []), ([29, 28, 27, 26, 25, 24, 23, 22, 21, 20, 19, 18, 17, 16, 15, 14, 13, 12, 11, 10, 9, 8, 7, 6, 5, 4, 3, 2, 1, 0], [47, 48, 46], []), ([30, 29, 28, 27, 26, 25, 24, 23, 22, 21, 20, 19, 18, 17, 16, 15, 14, 13, 12, 11, 10, 9, 8, 7, 6, 5, 4, 3, 2, 1, 0], [49, 46], []), ([31, 30, 29, 28, 27, 26, 25, 24, 23, 22, 21, 20, 19, 18, 17, 16, 15, 14, 13, 12, 11, 10, 9, 8, 7, 6, 5, 4, 3, 2, 1, 0], [46, 50, 20], []), ([32, 31, 30, 29, 28, 27, 26, 25, 24, 23, 22, 21, 20, 19, 18, 17, 16, 15, 14, 13, 12, 11, 10, 9, 8, 7, 6, 5, 4, 3, 2, 1, 0], [20, 51], []), ([33, 32, 31, 30, 29, 28, 27, 26, 25, 24, 23, 22, 21, 20, 19, 18, 17, 16, 15, 14, 13, 12, 11, 10, 9, 8, 7, 6, 5, 4, 3, 2, 1, 0], [52], [])] [] (constSt _) [7] [7, 19, 20, 21, 22, 23, 24, 25, 26, 27, 28, 29, 30, 31, 32, 33, 34, 35, 36, 37, 38, 39, 40, 41, 42, 43, 44, 45, 46, 47, 48, 49, 50, 51, 52] rfl VT.mix (by kernel_rfl) (by kernel_rfl) ?_
    refine DrawP_consL (acc' := [_]) (eqRes _) (good0 (fun γ => Needs_f (by kernel_rfl) (fun r9 h9 => Needs_nil (vopT rfl (V_move h9 ⟨rfl, rfl⟩))))) rfl ?_
    refine DrawP_consL (acc' := [_, _]) (eqRes _) (good0 (fun γ => Needs_w 0 (by kernel_rfl) rfl (fun r19 h19 => Needs_nil (vopT rfl (V_move h19 ⟨rfl, rfl⟩))))) rfl ?_
    refine DrawP_consL (acc' := [_, _, _]) (eqRes _) (good0 (fun γ => Needs_f (by kernel_rfl) (fun r8 h8 => Needs_w 1 (by kernel_rfl) rfl (fun r20 h20 => Needs_nil (vopT (want_of rfl rfl h20 hq20) (V_fieldAddr VT.fa132_0 h8 ⟨rfl, rfl⟩)))))) rfl ?_
    refine DrawP_consL (acc' := [_, _, _, _]) (eqRes _) (good0 (fun γ => Needs_w 2 (by kernel_rfl) rfl (fun r21 h21 => Needs_w 1 (by kernel_rfl) rfl (fun r20 h20 => Needs_nil (vopT (want_of rfl rfl h20 hq20) (V_load 0 VT.ty3 h21 rfl rfl ⟨rfl, rfl⟩)))))) rfl ?_
    refine DrawP_consL (acc' := [_, _, _, _, _]) (eqRes _) (good0 (fun γ => Needs_f (by kernel_rfl) (fun r2 h2 => Needs_w 1 (by kernel_rfl) rfl (fun r20 h20 => Needs_nil (vopT (want_of rfl rfl h20 hq20) (V_load 2 VT.ty3 h2 rfl rfl ⟨rfl, rfl⟩)))))) rfl ?_
    refine DrawP_consL (acc' := [_, _, _, _, _, _]) (eqRes _) (good0 (fun γ => Needs_w 3 (by kernel_rfl) rfl (fun r22 h22 => Needs_w 4 (by kernel_rfl) rfl (fun r23 h23 => Needs_w 1 (by kernel_rfl) rfl (fun r20 h20 => Needs_nil (vopT (want_of rfl rfl h20 hq20) (V_bin h22 h23 rfl ⟨rfl, rfl⟩))))))) rfl ?_
    refine DrawP_consL (acc' := [_, _, _, _, _, _, _]) (eqRes _) (good0 (fun γ => Needs_w 5 (by kernel_rfl) rfl (fun r24 h24 => Needs_w 1 (by kernel_rfl) rfl (fun r20 h20 => Needs_nil (vopT (want_of rfl rfl h20 hq20) (V_move h24 ⟨rfl, rfl⟩)))))) rfl ?_
    refine DrawP_consL (acc' := [_, _, _, _, _, _, _, _]) (eqRes _) (good0 (fun γ => Needs_f (by kernel_rfl) (fun r8 h8 => Needs_w 6 (by kernel_rfl) rfl (fun r25 h25 => Needs_nil (vopT (want_of rfl rfl h25 hq25) (V_fieldAddr VT.fa132_1 h8 ⟨rfl, rfl⟩)))))) rfl ?_
    refine DrawP_consL (acc' := [_, _, _, _, _, _, _, _, _]) (eqRes _) (good0 (fun γ => Needs_w 7 (by kernel_rfl) rfl (fun r26 h26 => Needs_w 6 (by kernel_rfl) rfl (fun r25 h25 => Needs_nil (vopT (want_of rfl rfl h25 hq25) (V_load 0 VT.ty3 h26 rfl rfl ⟨rfl, rfl⟩)))))) rfl ?_
    refine DrawP_consL (acc' := [_, _, _, _, _, _, _, _, _, _]) (eqRes _) (good0 (fun γ => Needs_f (by kernel_rfl) (fun r3 h3 => Needs_w 6 (by kernel_rfl) rfl (fun r25 h25 => Needs_nil (vopT (want_of rfl rfl h25 hq25) (V_load 3 VT.ty3 h3 rfl rfl ⟨rfl, rfl⟩)))))) rfl ?_
    refine DrawP_consL (acc' := [_, _, _, _, _, _, _, _, _, _, _]) (eqRes _) (good0 (fun γ => Needs_w 8 (by kernel_rfl) rfl (fun r27 h27 => Needs_w 9 (by kernel_rfl) rfl (fun r28 h28 => Needs_w 6 (by kernel_rfl) rfl (fun r25 h25 => Needs_nil (vopT (want_of rfl rfl h25 hq25) (V_bin h27 h28 rfl ⟨rfl, rfl⟩))))))) rfl ?_
    refine DrawP_consL (acc' := [_, _, _, _, _, _, _, _, _, _, _, _]) (eqRes _) (good0 (fun γ => Needs_w 6 (by kernel_rfl) rfl (fun r25 h25 => Needs_w 10 (by kernel_rfl) rfl (fun r29 h29 => Needs_w 1 (by kernel_rfl) rfl (fun r20 h20 => Needs_nil (vopT (want_of rfl rfl h20 hq20) (V_pickT h25 hq25 h29 ⟨rfl, rfl⟩))))))) rfl ?_
    refine DrawP_consL (acc' := [_, _, _, _, _, _, _, _, _, _, _, _, _]) (eqRes _) (good0 (fun γ => Needs_w 11 (by kernel_rfl) rfl (fun r30 h30 => Needs_w 1 (by kernel_rfl) rfl (fun r20 h20 => Needs_nil (vopT (want_of rfl rfl h20 hq20) (V_move h30 ⟨rfl, rfl⟩)))))) rfl ?_
    refine DrawP_consL (acc' := [_, _, _, _, _, _, _, _, _, _, _, _, _, _]) (eqRes _) (good0 (fun γ => Needs_f (by kernel_rfl) (fun r8 h8 => Needs_w 12 (by kernel_rfl) rfl (fun r31 h31 => Needs_nil (vopF (skip_of rfl rfl h31 hq31) ⟨rfl, rfl⟩))))) rfl ?_
    refine DrawP_consL (acc' := [_, _, _, _, _, _, _, _, _, _, _, _, _, _, _]) (eqRes _) (good0 (fun γ => Needs_w 13 (by kernel_rfl) rfl (fun r32 h32 => Needs_w 12 (by kernel_rfl) rfl (fun r31 h31 => Needs_nil (vopF (skip_of rfl rfl h31 hq31) ⟨rfl, rfl⟩))))) rfl ?_
    refine DrawP_consL (acc' := [_, _, _, _, _, _, _, _, _, _, _, _, _, _, _, _]) (eqRes _) (good0 (fun γ => Needs_f (by kernel_rfl) (fun r2 h2 => Needs_w 12 (by kernel_rfl) rfl (fun r31 h31 => Needs_nil (vopF (skip_of rfl rfl h31 hq31) ⟨rfl, rfl⟩))))) rfl ?_
    refine DrawP_consL (acc' := [_, _, _, _, _, _, _, _, _, _, _, _, _, _, _, _, _]) (eqRes _) (good0 (fun γ => Needs_w 14 (by kernel_rfl) rfl (fun r33 h33 => Needs_w 15 (by kernel_rfl) rfl (fun r34 h34 => Needs_w 12 (by kernel_rfl) rfl (fun r31 h31 => Needs_nil (vopF (skip_of rfl rfl h31 hq31) ⟨rfl, rfl⟩)))))) rfl ?_
    refine DrawP_consL (acc' := [_, _, _, _, _, _, _, _, _, _, _, _, _, _, _, _, _, _]) (eqRes _) (good0 (fun γ => Needs_w 16 (by kernel_rfl) rfl (fun r35 h35 => Needs_w 12 (by kernel_rfl) rfl (fun r31 h31 => Needs_nil (vopF (skip_of rfl rfl h31 hq31) ⟨rfl, rfl⟩))))) rfl ?_
    refine DrawP_consL (acc' := [_, _, _, _, _, _, _, _, _, _, _, _, _, _, _, _, _, _, _]) (eqRes _) (good0 (fun γ => Needs_f (by kernel_rfl) (fun r4 h4 => Needs_w 17 (by kernel_rfl) rfl (fun r36 h36 => Needs_nil (vopU rfl rfl h36 ⟨rfl, rfl⟩))))) rfl ?_
    refine DrawP_consL (acc' := [_, _, _, _, _, _, _, _, _, _, _, _, _, _, _, _, _, _, _, _]) (eqRes _) (good0 (fun γ => Needs_f (by kernel_rfl) (fun r2 h2 => Needs_w 17 (by kernel_rfl) rfl (fun r36 h36 => Needs_nil (vopU rfl rfl h36 ⟨rfl, rfl⟩))))) rfl ?_
    refine DrawP_consL (acc' := [_, _, _, _, _, _, _, _, _, _, _, _, _, _, _, _, _, _, _, _, _]) (eqRes _) (good0 (fun γ => Needs_w 18 (by kernel_rfl) rfl (fun r37 h37 => Needs_w 19 (by kernel_rfl) rfl (fun r38 h38 => Needs_w 17 (by kernel_rfl) rfl (fun r36 h36 => Needs_nil (vopU rfl rfl h36 ⟨rfl, rfl⟩)))))) rfl ?_
    refine DrawP_consL (acc' := [_, _, _, _, _, _, _, _, _, _, _, _, _, _, _, _, _, _, _, _, _, _]) (eqRes _) (good0 (fun γ => Needs_w 20 (by kernel_rfl) rfl (fun r39 h39 => Needs_w 17 (by kernel_rfl) rfl (fun r36 h36 => Needs_nil (vopU rfl rfl h36 ⟨rfl, rfl⟩))))) rfl ?_
    refine DrawP_consL (acc' := [_, _, _, _, _, _, _, _, _, _, _, _, _, _, _, _, _, _, _, _, _, _, _]) (eqRes _) (good0 (fun γ => Needs_f (by kernel_rfl) (fun r8 h8 => Needs_w 17 (by kernel_rfl) rfl (fun r36 h36 => Needs_nil (vopU rfl rfl h36 ⟨rfl, rfl⟩))))) rfl ?_
    refine DrawP_consL (acc' := [_, _, _, _, _, _, _, _, _, _, _, _, _, _, _, _, _, _, _, _, _, _, _, _]) (eqRes _) (good0 (fun γ => Needs_w 22 (by kernel_rfl) rfl (fun r41 h41 => Needs_w 17 (by kernel_rfl) rfl (fun r36 h36 => Needs_nil (vopU rfl rfl h36 ⟨rfl, rfl⟩))))) rfl ?_
    refine DrawP_consL (acc' := [_, _, _, _, _, _, _, _, _, _, _, _, _, _, _, _, _, _, _, _, _, _, _, _, _]) (eqRes _) (good0 (fun γ => Needs_w 21 (by kernel_rfl) rfl (fun r40 h40 => Needs_w 23 (by kernel_rfl) rfl (fun r42 h42 => Needs_w 17 (by kernel_rfl) rfl (fun r36 h36 => Needs_nil (vopU rfl rfl h36 ⟨rfl, rfl⟩)))))) rfl ?_
    refine DrawP_consL (acc' := [_, _, _, _, _, _, _, _, _, _, _, _, _, _, _, _, _, _, _, _, _, _, _, _, _, _]) (eqRes _) (good0 (fun γ => Needs_w 17 (by kernel_rfl) rfl (fun r36 h36 => Needs_w 24 (by kernel_rfl) rfl (fun r43 h43 => Needs_w 12 (by kernel_rfl) rfl (fun r31 h31 => Needs_nil (vopF (skip_of rfl rfl h31 hq31) ⟨rfl, rfl⟩)))))) rfl ?_
    refine DrawP_consL (acc' := [_, _, _, _, _, _, _, _, _, _, _, _, _, _, _, _, _, _, _, _, _, _, _, _, _, _, _]) (eqRes _) (good0 (fun γ => Needs_w 12 (by kernel_rfl) rfl (fun r31 h31 => Needs_w 25 (by kernel_rfl) rfl (fun r44 h44 => Needs_w 1 (by kernel_rfl) rfl (fun r20 h20 => Needs_nil (vopT (want_of rfl rfl h20 hq20) (V_pickT h31 hq31 rfl ⟨rfl, rfl⟩))))))) rfl ?_
    refine DrawP_consL (acc' := [_, _, _, _, _, _, _, _, _, _, _, _, _, _, _, _, _, _, _, _, _, _, _, _, _, _, _, _]) (eqRes _) (good0 (fun γ => Needs_w 26 (by kernel_rfl) rfl (fun r45 h45 => Needs_w 1 (by kernel_rfl) rfl (fun r20 h20 => Needs_nil (vopT (want_of rfl rfl h20 hq20) (V_move h45 ⟨rfl, rfl⟩)))))) rfl ?_
    refine DrawP_consL (acc' := [_, _, _, _, _, _, _, _, _, _, _, _, _, _, _, _, _, _, _, _, _, _, _, _, _, _, _, _, _]) (eqRes _) (good0 (fun γ => Needs_f (by kernel_rfl) (fun r5 h5 => Needs_w 27 (by kernel_rfl) rfl (fun r46 h46 => Needs_nil (vopF (skip_of rfl rfl h46 rfl) ⟨rfl, rfl⟩))))) rfl ?_
    refine DrawP_consL (acc' := [_, _, _, _, _, _, _, _, _, _, _, _, _, _, _, _, _, _, _, _, _, _, _, _, _, _, _, _, _, _]) (eqRes _) (good0 (fun γ => Needs_f (by kernel_rfl) (fun r2 h2 => Needs_w 27 (by kernel_rfl) rfl (fun r46 h46 => Needs_nil (vopF (skip_of rfl rfl h46 rfl) ⟨rfl, rfl⟩))))) rfl ?_
    refine DrawP_consL (acc' := [_, _, _, _, _, _, _, _, _, _, _, _, _, _, _, _, _, _, _, _, _, _, _, _, _, _, _, _, _, _, _]) (eqRes _) (good0 (fun γ => Needs_w 28 (by kernel_rfl) rfl (fun r47 h47 => Needs_w 29 (by kernel_rfl) rfl (fun r48 h48 => Needs_w 27 (by kernel_rfl) rfl (fun r46 h46 => Needs_nil (vopF (skip_of rfl rfl h46 rfl) ⟨rfl, rfl⟩)))))) rfl ?_
    refine DrawP_consL (acc' := [_, _, _, _, _, _, _, _, _, _, _, _, _, _, _, _, _, _, _, _, _, _, _, _, _, _, _, _, _, _, _, _]) (eqRes _) (good0 (fun γ => Needs_w 30 (by kernel_rfl) rfl (fun r49 h49 => Needs_w 27 (by kernel_rfl) rfl (fun r46 h46 => Needs_nil (vopF (skip_of rfl rfl h46 rfl) ⟨rfl, rfl⟩))))) rfl ?_
    refine DrawP_consL (acc' := [_, _, _, _, _, _, _, _, _, _, _, _, _, _, _, _, _, _, _, _, _, _, _, _, _, _, _, _, _, _, _, _, _]) (eqRes _) (good0 (fun γ => Needs_w 27 (by kernel_rfl) rfl (fun r46 h46 => Needs_w 31 (by kernel_rfl) rfl (fun r50 h50 => Needs_w 1 (by kernel_rfl) rfl (fun r20 h20 => Needs_nil (vopT (want_of rfl rfl h20 hq20) (V_pickT h46 rfl rfl ⟨rfl, rfl⟩))))))) rfl ?_
    refine DrawP_consL (acc' := [_, _, _, _, _, _, _, _, _, _, _, _, _, _, _, _, _, _, _, _, _, _, _, _, _, _, _, _, _, _, _, _, _, _]) (eqRes _) (good0 (fun γ => Needs_w 1 (by kernel_rfl) rfl (fun r20 h20 => Needs_w 32 (by kernel_rfl) rfl (fun r51 h51 => Needs_nil (vopT rfl (V_pickT h20 hq20 h51 ⟨rfl, rfl⟩)))))) rfl ?_
    refine DrawP_consL (acc' := [_, _, _, _, _, _, _, _, _, _, _, _, _, _, _, _, _, _, _, _, _, _, _, _, _, _, _, _, _, _, _, _, _, _, _]) (eqRes _) (good0 (fun γ => Needs_w 33 (by kernel_rfl) rfl (fun r52 h52 => Needs_nil (vopT rfl (V_assign h52 ⟨rfl, rfl⟩))))) rfl ?_
    refine DrawP_nil (fun γ => Needs_w 34 (by kernel_rfl) rfl (fun r7 h7 => Needs_nil ?_))
    have e7 : r7 = some _ := h7
    subst e7
    clear h7
    refine Then_n ?_
    refine VW_ret ?_
    refine VRet_one rfl (.tmp rfl) ?_
    refine ⟨congrArg V.bool ?_, Drops.drop (Drops.refl _)⟩
    rw [hr]
    try rw [hpp]
    first | (simp_all; done) | (simp_all; omega) | (rw [hpp] at *; simp_all; done)
   ·
    rcases Bool.eq_false_or_eq_true ((((dget d v).getD (0, 0)).1 != (k : Int))) with hq36 | hq36
    ·
     rcases Bool.eq_false_or_eq_true (((o.at k).has ((dget d v).getD (0, 0)).1.toNat)) with hq46 | hq46
     ·
      refine VW_draw (G := Unit) [([], [9], []), ([0], [19], []), ([1, 0], [8, 20], []), ([2, 1, 0], [21, 20], []), ([1, 0], [2, 20], []), ([4, 3, 2, 1, 0], [22, 23, 20], []), ([5, 4, 3, 2, 1, 0], [24, 20], []), ([6, 5, 4, 3, 2, 1, 0], [8, 25], []), ([7, 6, 5, 4, 3, 2, 1, 0], [26, 25], []), ([6, 5, 4, 3, 2, 1, 0], [3, 25], []), ([9, 8, 7, 6, 5, 4, 3, 2, 1, 0], [27, 28, 25], []), ([10, 9, 8, 7, 6, 5, 4, 3, 2, 1, 0], [25, 29, 20], []), ([11, 10, 9, 8, 7, 6, 5, 4, 3, 2, 1, 0], [30, 20], []), ([12, 11, 10, 9, 8, 7, 6, 5, 4, 3, 2, 1, 0], [8, 31], []), ([13, 12, 11, 10, 9, 8, 7, 6, 5, 4, 3, 2, 1, 0], [32, 31], []), ([12, 11, 10, 9, 8, 7, 6, 5, 4, 3, 2, 1, 0], [2, 31], []), ([15, 14, 13, 12, 11, 10, 9, 8, 7, 6, 5, 4, 3, 2, 1, 0], [33, 34, 31], []), ([16, 15, 14, 13, 12, 11, 10, 9, 8, 7, 6, 5, 4, 3, 2, 1, 0], [35, 31], []), ([17, 16, 15, 14, 13, 12, 11, 10, 9, 8, 7, 6, 5, 4, 3, 2, 1, 0], [4, 36], []), ([17, 16, 15, 14, 13, 12, 11, 10, 9, 8, 7, 6, 5, 4, 3, 2, 1, 0], [2, 36], []), ([19, 18, 17, 16, 15, 14, 13, 12, 11, 10, 9, 8, 7, 6, 5, 4, 3, 2, 1, 0], [37, 38, 36], []), ([20, 19, 18, 17, 16, 15, 14, 13, 12, 11, 10, 9, 8, 7, 6, 5, 4, 3, 2, 1, 0], [39, 36], []), ([17, 16, 15, 14, 13, 12, 11, 10, 9, 8, 7, 6, 5, 4, 3, 2, 1, 0], [8, 36], []), ([22, 17, 16, 15, 14, 13, 12, 11, 10, 9, 8, 7, 6, 5, 4, 3, 2, 1, 0], [41, 36], []), ([23, 22, 21, 20, 19, 18, 17, 16, 15, 14, 13, 12, 11, 10, 9, 8, 7, 6, 5, 4, 3, 2, 1, 0], [40, 42, 36], []), ([24, 23, 22, 21, 20, 19, 18, 17, 16, 15, 14, 13, 12, 11, 10, 9, 8, 7, 6, 5, 4, 3, 2, 1, 0], [36, 43, 31], []), ([25, 24, 23, 22, 21, 20, 19, 18, 17, 16, 15, 14, 13, 12, 11, 10, 9, 8, 7, 6, 5, 4, 3, 2, 1, 0], [31, 44, 20], []), ([26, 25, 24, 23, 22, 21, 20, 19, 18, 17, 16, 15, 14, 13, 12, 11, 10, 9, 8, 7, 6, 5, 4, 3, 2, 1, 0], [45, 20], []), ([27, 26, 25, 24, 23, 22, 21, 20, 19, 18, 17, 16, 15, 14, 13, 12, 11, 10, 9, 8, 7, 6, 5, 4, 3, 2, 1, 0], [5, 46], []), ([27, 26, 25, 24, 23, 22, 21, 20, 19, 18, 17, 16, 15, 14, 13, 12, 11, 10, 9, 8, 7, 6, 5, 4, 3, 2, 1, 0], [2, 46], []), ([29, 28, 27, 26, 25, 24, 23, 22, 21, 20, 19, 18, 17, 16, 15, 14, 13, 12, 11, 10, 9, 8, 7, 6, 5, 4, 3, 2, 1, 0], [47, 48, 46], []), ([30, 29, 28, 27, 26, 25, 24, 23, 22, 21, 20, 19, 18, 17, 16, 15, 14, 13, 12, 11, 10, 9, 8, 7, 6, 5, 4, 3, 2, 1, 0], [49, 46], []), ([31, 30, 29, 28, 27, 26, 25, 24, 23, 22, 21, 20, 19, 18, 17, 16, 15, 14, 13, 12, 11, 10, 9, 8, 7, 6, 5, 4, 3, 2, 1, 0], [46, 50, 20], []), ([32, 31, 30, 29, 28, 27, 26, 25, 24, 23, 22, 21, 20, 19, 18, 17, 16, 15, 14, 13, 12, 11, 10, 9, 8, 7, 6, 5, 4, 3, 2, 1, 0], [20, 51], []), ([33, 32, 31, 30, 29, 28, 27, 26, 25, 24, 23, 22, 21, 20, 19, 18, 17, 16, 15, 14, 13, 12, 11, 10, 9, 8, 7, 6, 5, 4, 3, 2, 1, 0], [52], [])] [] (constSt _) [7] [7, 19, 20, 21, 22, 23, 24, 25, 26, 27, 28, 29, 30, 31, 32, 33, 34, 35, 36, 37, 38, 39, 40, 41, 42, 43, 44, 45, 46, 47, 48, 49, 50, 51, 52] rfl VT.mix (by kernel_rfl) (by kernel_rfl) ?_
      refine DrawP_consL (acc' := [_]) (eqRes _) (good0 (fun γ => Needs_f (by kernel_rfl) (fun r9 h9 => Needs_nil (vopT rfl (V_move h9 ⟨rfl, rfl⟩))))) rfl ?_
      refine DrawP_consL (acc' := [_, _]) (eqRes _) (good0 (fun γ => Needs_w 0 (by kernel_rfl) rfl (fun r19 h19 => Needs_nil (vopT rfl (V_move h19 ⟨rfl, rfl⟩))))) rfl ?_
      refine DrawP_consL (acc' := [_, _, _]) (eqRes _) (good0 (fun γ => Needs_f (by kernel_rfl) (fun r8 h8 => Needs_w 1 (by kernel_rfl) rfl (fun r20 h20 => Needs_nil (vopT (want_of rfl rfl h20 hq20) (V_fieldAddr VT.fa132_0 h8 ⟨rfl, rfl⟩)))))) rfl ?_
      refine DrawP_consL (acc' := [_, _, _, _]) (eqRes _) (good0 (fun γ => Needs_w 2 (by kernel_rfl) rfl (fun r21 h21 => Needs_w 1 (by kernel_rfl) rfl (fun r20 h20 => Needs_nil (vopT (want_of rfl rfl h20 hq20) (V_load 0 VT.ty3 h21 rfl rfl ⟨rfl, rfl⟩)))))) rfl ?_
      refine DrawP_consL (acc' := [_, _, _, _, _]) (eqRes _) (good0 (fun γ => Needs_f (by kernel_rfl) (fun r2 h2 => Needs_w 1 (by kernel_rfl) rfl (fun r20 h20 => Needs_nil (vopT (want_of rfl rfl h20 hq20) (V_load 2 VT.ty3 h2 rfl rfl ⟨rfl, rfl⟩)))))) rfl ?_
      refine DrawP_consL (acc' := [_, _, _, _, _, _]) (eqRes _) (good0 (fun γ => Needs_w 3 (by kernel_rfl) rfl (fun r22 h22 => Needs_w 4 (by kernel_rfl) rfl (fun r23 h23 => Needs_w 1 (by kernel_rfl) rfl (fun r20 h20 => Needs_nil (vopT (want_of rfl rfl h20 hq20) (V_bin h22 h23 rfl ⟨rfl, rfl⟩))))))) rfl ?_
      refine DrawP_consL (acc' := [_, _, _, _, _, _, _]) (eqRes _) (good0 (fun γ => Needs_w 5 (by kernel_rfl) rfl (fun r24 h24 => Needs_w 1 (by kernel_rfl) rfl (fun r20 h20 => Needs_nil (vopT (want_of rfl rfl h20 hq20) (V_move h24 ⟨rfl, rfl⟩)))))) rfl ?_
      refine DrawP_consL (acc' := [_, _, _, _, _, _, _, _]) (eqRes _) (good0 (fun γ => Needs_f (by kernel_rfl) (fun r8 h8 => Needs_w 6 (by kernel_rfl) rfl (fun r25 h25 => Needs_nil (vopT (want_of rfl rfl h25 hq25) (V_fieldAddr VT.fa132_1 h8 ⟨rfl, rfl⟩)))))) rfl ?_
      refine DrawP_consL (acc' := [_, _, _, _, _, _, _, _, _]) (eqRes _) (good0 (fun γ => Needs_w 7 (by kernel_rfl) rfl (fun r26 h26 => Needs_w 6 (by kernel_rfl) rfl (fun r25 h25 => Needs_nil (vopT (want_of rfl rfl h25 hq25) (V_load 0 VT.ty3 h26 rfl rfl ⟨rfl, rfl⟩)))))) rfl ?_
      refine DrawP_consL (acc' := [_, _, _, _, _, _, _, _, _, _]) (eqRes _) (good0 (fun γ => Needs_f (by kernel_rfl) (fun r3 h3 => Needs_w 6 (by kernel_rfl) rfl (fun r25 h25 => Needs_nil (vopT (want_of rfl rfl h25 hq25) (V_load 3 VT.ty3 h3 rfl rfl ⟨rfl, rfl⟩)))))) rfl ?_
      refine DrawP_consL (acc' := [_, _, _, _, _, _, _, _, _, _, _]) (eqRes _) (good0 (fun γ => Needs_w 8 (by kernel_rfl) rfl (fun r27 h27 => Needs_w 9 (by kernel_rfl) rfl (fun r28 h28 => Needs_w 6 (by kernel_rfl) rfl (fun r25 h25 => Needs_nil (vopT (want_of rfl rfl h25 hq25) (V_bin h27 h28 rfl ⟨rfl, rfl⟩))))))) rfl ?_
      refine DrawP_consL (acc' := [_, _, _, _, _, _, _, _, _, _, _, _]) (eqRes _) (good0 (fun γ => Needs_w 6 (by kernel_rfl) rfl (fun r25 h25 => Needs_w 10 (by kernel_rfl) rfl (fun r29 h29 => Needs_w 1 (by kernel_rfl) rfl (fun r20 h20 => Needs_nil (vopT (want_of rfl rfl h20 hq20) (V_pickT h25 hq25 h29 ⟨rfl, rfl⟩))))))) rfl ?_
      refine DrawP_consL (acc' := [_, _, _, _, _, _, _, _, _, _, _, _, _]) (eqRes _) (good0 (fun γ => Needs_w 11 (by kernel_rfl) rfl (fun r30 h30 => Needs_w 1 (by kernel_rfl) rfl (fun r20 h20 => Needs_nil (vopT (want_of rfl rfl h20 hq20) (V_move h30 ⟨rfl, rfl⟩)))))) rfl ?_
      refine DrawP_consL (acc' := [_, _, _, _, _, _, _, _, _, _, _, _, _, _]) (eqRes _) (good0 (fun γ => Needs_f (by kernel_rfl) (fun r8 h8 => Needs_w 12 (by kernel_rfl) rfl (fun r31 h31 => Needs_nil (vopT (want_of rfl rfl h31 hq31) (V_fieldAddr VT.fa132_0 h8 ⟨rfl, rfl⟩)))))) rfl ?_
      refine DrawP_consL (acc' := [_, _, _, _, _, _, _, _, _, _, _, _, _, _, _]) (eqRes _) (good0 (fun γ => Needs_w 13 (by kernel_rfl) rfl (fun r32 h32 => Needs_w 12 (by kernel_rfl) rfl (fun r31 h31 => Needs_nil (vopT (want_of rfl rfl h31 hq31) (V_load 0 VT.ty3 h32 rfl rfl ⟨rfl, rfl⟩)))))) rfl ?_
      refine DrawP_consL (acc' := [_, _, _, _, _, _, _, _, _, _, _, _, _, _, _, _]) (eqRes _) (good0 (fun γ => Needs_f (by kernel_rfl) (fun r2 h2 => Needs_w 12 (by kernel_rfl) rfl (fun r31 h31 => Needs_nil (vopT (want_of rfl rfl h31 hq31) (V_load 2 VT.ty3 h2 rfl rfl ⟨rfl, rfl⟩)))))) rfl ?_
      refine DrawP_consL (acc' := [_, _, _, _, _, _, _, _, _, _, _, _, _, _, _, _, _]) (eqRes _) (good0 (fun γ => Needs_w 14 (by kernel_rfl) rfl (fun r33 h33 => Needs_w 15 (by kernel_rfl) rfl (fun r34 h34 => Needs_w 12 (by kernel_rfl) rfl (fun r31 h31 => Needs_nil (vopT (want_of rfl rfl h31 hq31) (V_bin h33 h34 rfl ⟨rfl, rfl⟩))))))) rfl ?_
      refine DrawP_consL (acc' := [_, _, _, _, _, _, _, _, _, _, _, _, _, _, _, _, _, _]) (eqRes _) (good0 (fun γ => Needs_w 16 (by kernel_rfl) rfl (fun r35 h35 => Needs_w 12 (by kernel_rfl) rfl (fun r31 h31 => Needs_nil (vopT (want_of rfl rfl h31 hq31) (V_move h35 ⟨rfl, rfl⟩)))))) rfl ?_
      refine DrawP_consL (acc' := [_, _, _, _, _, _, _, _, _, _, _, _, _, _, _, _, _, _, _]) (eqRes _) (good0 (fun γ => Needs_f (by kernel_rfl) (fun r4 h4 => Needs_w 17 (by kernel_rfl) rfl (fun r36 h36 => Needs_nil (vopT (want_of rfl rfl h36 hq36) (V_load 4 VT.ty135 h4 rfl rfl ⟨rfl, rfl⟩)))))) rfl ?_
      refine DrawP_consL (acc' := [_, _, _, _, _, _, _, _, _, _, _, _, _, _, _, _, _, _, _, _]) (eqRes _) (good0 (fun γ => Needs_f (by kernel_rfl) (fun r2 h2 => Needs_w 17 (by kernel_rfl) rfl (fun r36 h36 => Needs_nil (vopT (want_of rfl rfl h36 hq36) (V_load 2 VT.ty3 h2 rfl rfl ⟨rfl, rfl⟩)))))) rfl ?_
      refine DrawP_consL (acc' := [_, _, _, _, _, _, _, _, _, _, _, _, _, _, _, _, _, _, _, _, _]) (epRes _) (good0 (fun γ => Needs_w 18 (by kernel_rfl) rfl (fun r37 h37 => Needs_w 19 (by kernel_rfl) rfl (fun r38 h38 => Needs_w 17 (by kernel_rfl) rfl (fun r36 h36 => Needs_nil (vopT (want_of rfl rfl h36 hq36) (V_indexAddr (el := setV (o.at k)) VT.sl135 h37 h38 (by omega) (get_setV hk) (fun a39 => ⟨⟨_, rfl⟩, rfl⟩)))))))) rfl ?_
      refine DrawP_consL (acc' := [_, _, _, _, _, _, _, _, _, _, _, _, _, _, _, _, _, _, _, _, _, _]) (eqRes _) (good0 (fun γ => Needs_w 20 (by kernel_rfl) rfl (fun r39 h39 => Needs_w 17 (by kernel_rfl) rfl (fun r36 h36 => Needs_nil (epE h39 (fun a_39 e39 => vopT (want_of rfl rfl h36 hq36) (V_load_ep_agg VT.ty138 e39 rfl ⟨rfl, rfl⟩))))))) rfl ?_
      refine DrawP_consL (acc' := [_, _, _, _, _, _, _, _, _, _, _, _, _, _, _, _, _, _, _, _, _, _, _]) (eqRes _) (good0 (fun γ => Needs_f (by kernel_rfl) (fun r8 h8 => Needs_w 17 (by kernel_rfl) rfl (fun r36 h36 => Needs_nil (vopT (want_of rfl rfl h36 hq36) (V_fieldAddr VT.fa132_0 h8 ⟨rfl, rfl⟩)))))) rfl ?_
      refine DrawP_consL (acc' := [_, _, _, _, _, _, _, _, _, _, _, _, _, _, _, _, _, _, _, _, _, _, _, _]) (eqRes _) (good0 (fun γ => Needs_w 22 (by kernel_rfl) rfl (fun r41 h41 => Needs_w 17 (by kernel_rfl) rfl (fun r36 h36 => Needs_nil (vopT (want_of rfl rfl h36 hq36) (V_load 0 VT.ty3 h41 rfl rfl ⟨rfl, rfl⟩)))))) rfl ?_
      refine DrawP_consL (acc' := [_, _, _, _, _, _, _, _, _, _, _, _, _, _, _, _, _, _, _, _, _, _, _, _, _]) (eqRes _) (good0 (fun γ => Needs_w 21 (by kernel_rfl) rfl (fun r40 h40 => Needs_w 23 (by kernel_rfl) rfl (fun r42 h42 => Needs_w 17 (by kernel_rfl) rfl (fun r36 h36 => Needs_nil (vopT (want_of rfl rfl h36 hq36) (V_callP [.tmp 40, .tmp 42] rfl (evs_cons h40 (evs_cons h42 evs_nil)) VT.en86 (has_c (o.at k) ((dget d v).getD (0, 0)).1 (by rw [hpp]; exact hpd.1) (by rw [hpp]; exact hpd.2)) ⟨rfl, rfl⟩))))))) rfl ?_
      refine DrawP_consL (acc' := [_, _, _, _, _, _, _, _, _, _, _, _, _, _, _, _, _, _, _, _, _, _, _, _, _, _]) (eqRes _) (good0 (fun γ => Needs_w 17 (by kernel_rfl) rfl (fun r36 h36 => Needs_w 24 (by kernel_rfl) rfl (fun r43 h43 => Needs_w 12 (by kernel_rfl) rfl (fun r31 h31 => Needs_nil (vopT (want_of rfl rfl h31 hq31) (V_pickT h36 hq36 h43 ⟨rfl, rfl⟩))))))) rfl ?_
      refine DrawP_consL (acc' := [_, _, _, _, _, _, _, _, _, _, _, _, _, _, _, _, _, _, _, _, _, _, _, _, _, _, _]) (eqRes _) (good0 (fun γ => Needs_w 12 (by kernel_rfl) rfl (fun r31 h31 => Needs_w 25 (by kernel_rfl) rfl (fun r44 h44 => Needs_w 1 (by kernel_rfl) rfl (fun r20 h20 => Needs_nil (vopT (want_of rfl rfl h20 hq20) (V_pickF h31 hq31 h44 ⟨rfl, rfl⟩))))))) rfl ?_
      refine DrawP_consL (acc' := [_, _, _, _, _, _, _, _, _, _, _, _, _, _, _, _, _, _, _, _, _, _, _, _, _, _, _, _]) (eqRes _) (good0 (fun γ => Needs_w 26 (by kernel_rfl) rfl (fun r45 h45 => Needs_w 1 (by kernel_rfl) rfl (fun r20 h20 => Needs_nil (vopT (want_of rfl rfl h20 hq20) (V_move h45 ⟨rfl, rfl⟩)))))) rfl ?_
      refine DrawP_consL (acc' := [_, _, _, _, _, _, _, _, _, _, _, _, _, _, _, _, _, _, _, _, _, _, _, _, _, _, _, _, _]) (eqRes _) (good0 (fun γ => Needs_f (by kernel_rfl) (fun r5 h5 => Needs_w 27 (by kernel_rfl) rfl (fun r46 h46 => Needs_nil (vopF (skip_of rfl rfl h46 hq46) ⟨rfl, rfl⟩))))) rfl ?_
      refine DrawP_consL (acc' := [_, _, _, _, _, _, _, _, _, _, _, _, _, _, _, _, _, _, _, _, _, _, _, _, _, _, _, _, _, _]) (eqRes _) (good0 (fun γ => Needs_f (by kernel_rfl) (fun r2 h2 => Needs_w 27 (by kernel_rfl) rfl (fun r46 h46 => Needs_nil (vopF (skip_of rfl rfl h46 hq46) ⟨rfl, rfl⟩))))) rfl ?_
      refine DrawP_consL (acc' := [_, _, _, _, _, _, _, _, _, _, _, _, _, _, _, _, _, _, _, _, _, _, _, _, _, _, _, _, _, _, _]) (eqRes _) (good0 (fun γ => Needs_w 28 (by kernel_rfl) rfl (fun r47 h47 => Needs_w 29 (by kernel_rfl) rfl (fun r48 h48 => Needs_w 27 (by kernel_rfl) rfl (fun r46 h46 => Needs_nil (vopF (skip_of rfl rfl h46 hq46) ⟨rfl, rfl⟩)))))) rfl ?_
      refine DrawP_consL (acc' := [_, _, _, _, _, _, _, _, _, _, _, _, _, _, _, _, _, _, _, _, _, _, _, _, _, _, _, _, _, _, _, _]) (eqRes _) (good0 (fun γ => Needs_w 30 (by kernel_rfl) rfl (fun r49 h49 => Needs_w 27 (by kernel_rfl) rfl (fun r46 h46 => Needs_nil (vopF (skip_of rfl rfl h46 hq46) ⟨rfl, rfl⟩))))) rfl ?_
      refine DrawP_consL (acc' := [_, _, _, _, _, _, _, _, _, _, _, _, _, _, _, _, _, _, _, _, _, _, _, _, _, _, _, _, _, _, _, _, _]) (eqRes _) (good0 (fun γ => Needs_w 27 (by kernel_rfl) rfl (fun r46 h46 => Needs_w 31 (by kernel_rfl) rfl (fun r50 h50 => Needs_w 1 (by kernel_rfl) rfl (fun r20 h20 => Needs_nil (vopT (want_of rfl rfl h20 hq20) (V_pickT h46 hq46 rfl ⟨rfl, rfl⟩))))))) rfl ?_
      refine DrawP_consL (acc' := [_, _, _, _, _, _, _, _, _, _, _, _, _, _, _, _, _, _, _, _, _, _, _, _, _, _, _, _, _, _, _, _, _, _]) (eqRes _) (good0 (fun γ => Needs_w 1 (by kernel_rfl) rfl (fun r20 h20 => Needs_w 32 (by kernel_rfl) rfl (fun r51 h51 => Needs_nil (vopT rfl (V_pickT h20 hq20 h51 ⟨rfl, rfl⟩)))))) rfl ?_
      refine DrawP_consL (acc' := [_, _, _, _, _, _, _, _, _, _, _, _, _, _, _, _, _, _, _, _, _, _, _, _, _, _, _, _, _, _, _, _, _, _, _]) (eqRes _) (good0 (fun γ => Needs_w 33 (by kernel_rfl) rfl (fun r52 h52 => Needs_nil (vopT rfl (V_assign h52 ⟨rfl, rfl⟩))))) rfl ?_
      refine DrawP_nil (fun γ => Needs_w 34 (by kernel_rfl) rfl (fun r7 h7 => Needs_nil ?_))
      have e7 : r7 = some _ := h7
      subst e7
      clear h7
      refine Then_n ?_
      refine VW_ret ?_
      refine VRet_one rfl (.tmp rfl) ?_
      refine ⟨congrArg V.bool ?_, Drops.drop (Drops.refl _)⟩
      rw [hr]
      try rw [hpp]
      first | (simp_all; done) | (simp_all; omega) | (rw [hpp] at *; simp_all; done)
     ·
      refine VW_draw (G := Unit) [([], [9], []), ([0], [19], []), ([1, 0], [8, 20], []), ([2, 1, 0], [21, 20], []), ([1, 0], [2, 20], []), ([4, 3, 2, 1, 0], [22, 23, 20], []), ([5, 4, 3, 2, 1, 0], [24, 20], []), ([6, 5, 4, 3, 2, 1, 0], [8, 25], []), ([7, 6, 5, 4, 3, 2, 1, 0], [26, 25], []), ([6, 5, 4, 3, 2, 1, 0], [3, 25], []), ([9, 8, 7, 6, 5, 4, 3, 2, 1, 0], [27, 28, 25], []), ([10, 9, 8, 7, 6, 5, 4, 3, 2, 1, 0], [25, 29, 20], []), ([11, 10, 9, 8, 7, 6, 5, 4, 3, 2, 1, 0], [30, 20], []), ([12, 11, 10, 9, 8, 7, 6, 5, 4, 3, 2, 1, 0], [8, 31], []), ([13, 12, 11, 10, 9, 8, 7, 6, 5, 4, 3, 2, 1, 0], [32, 31], []), ([12, 11, 10, 9, 8, 7, 6, 5, 4, 3, 2, 1, 0], [2, 31], []), ([15, 14, 13, 12, 11, 10, 9, 8, 7, 6, 5, 4, 3, 2, 1, 0], [33, 34, 31], []), ([16, 15, 14, 13, 12, 11, 10, 9, 8, 7, 6, 5, 4, 3, 2, 1, 0], [35, 31], []), ([17, 16, 15, 14, 13, 12, 11, 10, 9, 8, 7, 6, 5, 4, 3, 2, 1, 0], [4, 36], []), ([17, 16, 15, 14, 13, 12, 11, 10, 9, 8, 7, 6, 5, 4, 3, 2, 1, 0], [2, 36], []), ([19, 18, 17, 16, 15, 14, 13, 12, 11, 10, 9, 8, 7, 6, 5, 4, 3, 2, 1, 0], [37, 38, 36], []), ([20, 19, 18, 17, 16, 15, 14, 13, 12, 11, 10, 9, 8, 7, 6, 5, 4, 3, 2, 1, 0], [39, 36], []), ([17, 16, 15, 14, 13, 12, 11, 10, 9, 8, 7, 6, 5, 4, 3, 2, 1, 0], [8, 36], []), ([22, 17, 16, 15, 14, 13, 12, 11, 10, 9, 8, 7, 6, 5, 4, 3, 2, 1, 0], [41, 36], []), ([23, 22, 21, 20, 19, 18, 17, 16, 15, 14, 13, 12, 11, 10, 9, 8, 7, 6, 5, 4, 3, 2, 1, 0], [40, 42, 36], []), ([24, 23, 22, 21, 20, 19, 18, 17, 16, 15, 14, 13, 12, 11, 10, 9, 8, 7, 6, 5, 4, 3, 2, 1, 0], [36, 43, 31], []), ([25, 24, 23, 22, 21, 20, 19, 18, 17, 16, 15, 14, 13, 12, 11, 10, 9, 8, 7, 6, 5, 4, 3, 2, 1, 0], [31, 44, 20], []), ([26, 25, 24, 23, 22, 21, 20, 19, 18, 17, 16, 15, 14, 13, 12, 11, 10, 9, 8, 7, 6, 5, 4, 3, 2, 1, 0], [45, 20], []), ([27, 26, 25, 24, 23, 22, 21, 20, 19, 18, 17, 16, 15, 14, 13, 12, 11, 10, 9, 8, 7, 6, 5, 4, 3, 2, 1, 0], [5, 46], []), ([27, 26, 25, 24, 23, 22, 21, 20, 19, 18, 17, 16, 15, 14, 13, 12, 11, 10, 9, 8, 7, 6, 5, 4, 3, 2, 1, 0], [2, 46], []), ([29, 28, 27, 26, 25, 24, 23, 22, 21, 20, 19, 18, 17, 16, 15, 14, 13, 12, 11, 10, 9, 8, 7, 6, 5, 4, 3, 2, 1, 0], [47, 48, 46], []), ([30, 29, 28, 27, 26, 25, 24, 23, 22, 21, 20, 19, 18, 17, 16, 15, 14, 13, 12, 11, 10, 9, 8, 7, 6, 5, 4, 3, 2, 1, 0], [49, 46], []), ([31, 30, 29, 28, 27, 26, 25, 24, 23, 22, 21, 20, 19, 18, 17, 16, 15, 14, 13, 12, 11, 10, 9, 8, 7, 6, 5, 4, 3, 2, 1, 0], [46, 50, 20], []), ([32, 31, 30, 29, 28, 27, 26, 25, 24, 23, 22, 21, 20, 19, 18, 17, 16, 15, 14, 13, 12, 11, 10, 9, 8, 7, 6, 5, 4, 3, 2, 1, 0], [20, 51], []), ([33, 32, 31, 30, 29, 28, 27, 26, 25, 24, 23, 22, 21, 20, 19, 18, 17, 16, 15, 14, 13, 12, 11, 10, 9, 8, 7, 6, 5, 4, 3, 2, 1, 0], [52], [])] [] (constSt _) [7] [7, 19, 20, 21, 22, 23, 24, 25, 26, 27, 28, 29, 30, 31, 32, 33, 34, 35, 36, 37, 38, 39, 40, 41, 42, 43, 44, 45, 46, 47, 48, 49, 50, 51, 52] rfl VT.mix (by kernel_rfl) (by kernel_rfl) ?_
      refine DrawP_consL (acc' := [_]) (eqRes _) (good0 (fun γ => Needs_f (by kernel_rfl) (fun r9 h9 => Needs_nil (vopT rfl (V_move h9 ⟨rfl, rfl⟩))))) rfl ?_
      refine DrawP_consL (acc' := [_, _]) (eqRes _) (good0 (fun γ => Needs_w 0 (by kernel_rfl) rfl (fun r19 h19 => Needs_nil (vopT rfl (V_move h19 ⟨rfl, rfl⟩))))) rfl ?_
      refine DrawP_consL (acc' := [_, _, _]) (eqRes _) (good0 (fun γ => Needs_f (by kernel_rfl) (fun r8 h8 => Needs_w 1 (by kernel_rfl) rfl (fun r20 h20 => Needs_nil (vopT (want_of rfl rfl h20 hq20) (V_fieldAddr VT.fa132_0 h8 ⟨rfl, rfl⟩)))))) rfl ?_
      refine DrawP_consL (acc' := [_, _, _, _]) (eqRes _) (good0 (fun γ => Needs_w 2 (by kernel_rfl) rfl (fun r21 h21 => Needs_w 1 (by kernel_rfl) rfl (fun r20 h20 => Needs_nil (vopT (want_of rfl rfl h20 hq20) (V_load 0 VT.ty3 h21 rfl rfl ⟨rfl, rfl⟩)))))) rfl ?_
      refine DrawP_consL (acc' := [_, _, _, _, _]) (eqRes _) (good0 (fun γ => Needs_f (by kernel_rfl) (fun r2 h2 => Needs_w 1 (by kernel_rfl) rfl (fun r20 h20 => Needs_nil (vopT (want_of rfl rfl h20 hq20) (V_load 2 VT.ty3 h2 rfl rfl ⟨rfl, rfl⟩)))))) rfl ?_
      refine DrawP_consL (acc' := [_, _, _, _, _, _]) (eqRes _) (good0 (fun γ => Needs_w 3 (by kernel_rfl) rfl (fun r22 h22 => Needs_w 4 (by kernel_rfl) rfl (fun r23 h23 => Needs_w 1 (by kernel_rfl) rfl (fun r20 h20 => Needs_nil (vopT (want_of rfl rfl h20 hq20) (V_bin h22 h23 rfl ⟨rfl, rfl⟩))))))) rfl ?_
      refine DrawP_consL (acc' := [_, _, _, _, _, _, _]) (eqRes _) (good0 (fun γ => Needs_w 5 (by kernel_rfl) rfl (fun r24 h24 => Needs_w 1 (by kernel_rfl) rfl (fun r20 h20 => Needs_nil (vopT (want_of rfl rfl h20 hq20) (V_move h24 ⟨rfl, rfl⟩)))))) rfl ?_
      refine DrawP_consL (acc' := [_, _, _, _, _, _, _, _]) (eqRes _) (good0 (fun γ => Needs_f (by kernel_rfl) (fun r8 h8 => Needs_w 6 (by kernel_rfl) rfl (fun r25 h25 => Needs_nil (vopT (want_of rfl rfl h25 hq25) (V_fieldAddr VT.fa132_1 h8 ⟨rfl, rfl⟩)))))) rfl ?_
      refine DrawP_consL (acc' := [_, _, _, _, _, _, _, _, _]) (eqRes _) (good0 (fun γ => Needs_w 7 (by kernel_rfl) rfl (fun r26 h26 => Needs_w 6 (by kernel_rfl) rfl (fun r25 h25 => Needs_nil (vopT (want_of rfl rfl h25 hq25) (V_load 0 VT.ty3 h26 rfl rfl ⟨rfl, rfl⟩)))))) rfl ?_
      refine DrawP_consL (acc' := [_, _, _, _, _, _, _, _, _, _]) (eqRes _) (good0 (fun γ => Needs_f (by kernel_rfl) (fun r3 h3 => Needs_w 6 (by kernel_rfl) rfl (fun r25 h25 => Needs_nil (vopT (want_of rfl rfl h25 hq25) (V_load 3 VT.ty3 h3 rfl rfl ⟨rfl, rfl⟩)))))) rfl ?_
      refine DrawP_consL (acc' := [_, _, _, _, _, _, _, _, _, _, _]) (eqRes _) (good0 (fun γ => Needs_w 8 (by kernel_rfl) rfl (fun r27 h27 => Needs_w 9 (by kernel_rfl) rfl (fun r28 h28 => Needs_w 6 (by kernel_rfl) rfl (fun r25 h25 => Needs_nil (vopT (want_of rfl rfl h25 hq25) (V_bin h27 h28 rfl ⟨rfl, rfl⟩))))))) rfl ?_
      refine DrawP_consL (acc' := [_, _, _, _, _, _, _, _, _, _, _, _]) (eqRes _) (good0 (fun γ => Needs_w 6 (by kernel_rfl) rfl (fun r25 h25 => Needs_w 10 (by kernel_rfl) rfl (fun r29 h29 => Needs_w 1 (by kernel_rfl) rfl (fun r20 h20 => Needs_nil (vopT (want_of rfl rfl h20 hq20) (V_pickT h25 hq25 h29 ⟨rfl, rfl⟩))))))) rfl ?_
      refine DrawP_consL (acc' := [_, _, _, _, _, _, _, _, _, _, _, _, _]) (eqRes _) (good0 (fun γ => Needs_w 11 (by kernel_rfl) rfl (fun r30 h30 => Needs_w 1 (by kernel_rfl) rfl (fun r20 h20 => Needs_nil (vopT (want_of rfl rfl h20 hq20) (V_move h30 ⟨rfl, rfl⟩)))))) rfl ?_
      refine DrawP_consL (acc' := [_, _, _, _, _, _, _, _, _, _, _, _, _, _]) (eqRes _) (good0 (fun γ => Needs_f (by kernel_rfl) (fun r8 h8 => Needs_w 12 (by kernel_rfl) rfl (fun r31 h31 => Needs_nil (vopT (want_of rfl rfl h31 hq31) (V_fieldAddr VT.fa132_0 h8 ⟨rfl, rfl⟩)))))) rfl ?_
      refine DrawP_consL (acc' := [_, _, _, _, _, _, _, _, _, _, _, _, _, _, _]) (eqRes _) (good0 (fun γ => Needs_w 13 (by kernel_rfl) rfl (fun r32 h32 => Needs_w 12 (by kernel_rfl) rfl (fun r31 h31 => Needs_nil (vopT (want_of rfl rfl h31 hq31) (V_load 0 VT.ty3 h32 rfl rfl ⟨rfl, rfl⟩)))))) rfl ?_
      refine DrawP_consL (acc' := [_, _, _, _, _, _, _, _, _, _, _, _, _, _, _, _]) (eqRes _) (good0 (fun γ => Needs_f (by kernel_rfl) (fun r2 h2 => Needs_w 12 (by kernel_rfl) rfl (fun r31 h31 => Needs_nil (vopT (want_of rfl rfl h31 hq31) (V_load 2 VT.ty3 h2 rfl rfl ⟨rfl, rfl⟩)))))) rfl ?_
      refine DrawP_consL (acc' := [_, _, _, _, _, _, _, _, _, _, _, _, _, _, _, _, _]) (eqRes _) (good0 (fun γ => Needs_w 14 (by kernel_rfl) rfl (fun r33 h33 => Needs_w 15 (by kernel_rfl) rfl (fun r34 h34 => Needs_w 12 (by kernel_rfl) rfl (fun r31 h31 => Needs_nil (vopT (want_of rfl rfl h31 hq31) (V_bin h33 h34 rfl ⟨rfl, rfl⟩))))))) rfl ?_
      refine DrawP_consL (acc' := [_, _, _, _, _, _, _, _, _, _, _, _, _, _, _, _, _, _]) (eqRes _) (good0 (fun γ => Needs_w 16 (by kernel_rfl) rfl (fun r35 h35 => Needs_w 12 (by kernel_rfl) rfl (fun r31 h31 => Needs_nil (vopT (want_of rfl rfl h31 hq31) (V_move h35 ⟨rfl, rfl⟩)))))) rfl ?_
      refine DrawP_consL (acc' := [_, _, _, _, _, _, _, _, _, _, _, _, _, _, _, _, _, _, _]) (eqRes _) (good0 (fun γ => Needs_f (by kernel_rfl) (fun r4 h4 => Needs_w 17 (by kernel_rfl) rfl (fun r36 h36 => Needs_nil (vopT (want_of rfl rfl h36 hq36) (V_load 4 VT.ty135 h4 rfl rfl ⟨rfl, rfl⟩)))))) rfl ?_
      refine DrawP_consL (acc' := [_, _, _, _, _, _, _, _, _, _, _, _, _, _, _, _, _, _, _, _]) (eqRes _) (good0 (fun γ => Needs_f (by kernel_rfl) (fun r2 h2 => Needs_w 17 (by kernel_rfl) rfl (fun r36 h36 => Needs_nil (vopT (want_of rfl rfl h36 hq36) (V_load 2 VT.ty3 h2 rfl rfl ⟨rfl, rfl⟩)))))) rfl ?_
      refine DrawP_consL (acc' := [_, _, _, _, _, _, _, _, _, _, _, _, _, _, _, _, _, _, _, _, _]) (epRes _) (good0 (fun γ => Needs_w 18 (by kernel_rfl) rfl (fun r37 h37 => Needs_w 19 (by kernel_rfl) rfl (fun r38 h38 => Needs_w 17 (by kernel_rfl) rfl (fun r36 h36 => Needs_nil (vopT (want_of rfl rfl h36 hq36) (V_indexAddr (el := setV (o.at k)) VT.sl135 h37 h38 (by omega) (get_setV hk) (fun a39 => ⟨⟨_, rfl⟩, rfl⟩)))))))) rfl ?_
      refine DrawP_consL (acc' := [_, _, _, _, _, _, _, _, _, _, _, _, _, _, _, _, _, _, _, _, _, _]) (eqRes _) (good0 (fun γ => Needs_w 20 (by kernel_rfl) rfl (fun r39 h39 => Needs_w 17 (by kernel_rfl) rfl (fun r36 h36 => Needs_nil (epE h39 (fun a_39 e39 => vopT (want_of rfl rfl h36 hq36) (V_load_ep_agg VT.ty138 e39 rfl ⟨rfl, rfl⟩))))))) rfl ?_
      refine DrawP_consL (acc' := [_, _, _, _, _, _, _, _, _, _, _, _, _, _, _, _, _, _, _, _, _, _, _]) (eqRes _) (good0 (fun γ => Needs_f (by kernel_rfl) (fun r8 h8 => Needs_w 17 (by kernel_rfl) rfl (fun r36 h36 => Needs_nil (vopT (want_of rfl rfl h36 hq36) (V_fieldAddr VT.fa132_0 h8 ⟨rfl, rfl⟩)))))) rfl ?_
      refine DrawP_consL (acc' := [_, _, _, _, _, _, _, _, _, _, _, _, _, _, _, _, _, _, _, _, _, _, _, _]) (eqRes _) (good0 (fun γ => Needs_w 22 (by kernel_rfl) rfl (fun r41 h41 => Needs_w 17 (by kernel_rfl) rfl (fun r36 h36 => Needs_nil (vopT (want_of rfl rfl h36 hq36) (V_load 0 VT.ty3 h41 rfl rfl ⟨rfl, rfl⟩)))))) rfl ?_
      refine DrawP_consL (acc' := [_, _, _, _, _, _, _, _, _, _, _, _, _, _, _, _, _, _, _, _, _, _, _, _, _]) (eqRes _) (good0 (fun γ => Needs_w 21 (by kernel_rfl) rfl (fun r40 h40 => Needs_w 23 (by kernel_rfl) rfl (fun r42 h42 => Needs_w 17 (by kernel_rfl) rfl (fun r36 h36 => Needs_nil (vopT (want_of rfl rfl h36 hq36) (V_callP [.tmp 40, .tmp 42] rfl (evs_cons h40 (evs_cons h42 evs_nil)) VT.en86 (has_c (o.at k) ((dget d v).getD (0, 0)).1 (by rw [hpp]; exact hpd.1) (by rw [hpp]; exact hpd.2)) ⟨rfl, rfl⟩))))))) rfl ?_
      refine DrawP_consL (acc' := [_, _, _, _, _, _, _, _, _, _, _, _, _, _, _, _, _, _, _, _, _, _, _, _, _, _]) (eqRes _) (good0 (fun γ => Needs_w 17 (by kernel_rfl) rfl (fun r36 h36 => Needs_w 24 (by kernel_rfl) rfl (fun r43 h43 => Needs_w 12 (by kernel_rfl) rfl (fun r31 h31 => Needs_nil (vopT (want_of rfl rfl h31 hq31) (V_pickT h36 hq36 h43 ⟨rfl, rfl⟩))))))) rfl ?_
      refine DrawP_consL (acc' := [_, _, _, _, _, _, _, _, _, _, _, _, _, _, _, _, _, _, _, _, _, _, _, _, _, _, _]) (eqRes _) (good0 (fun γ => Needs_w 12 (by kernel_rfl) rfl (fun r31 h31 => Needs_w 25 (by kernel_rfl) rfl (fun r44 h44 => Needs_w 1 (by kernel_rfl) rfl (fun r20 h20 => Needs_nil (vopT (want_of rfl rfl h20 hq20) (V_pickF h31 hq31 h44 ⟨rfl, rfl⟩))))))) rfl ?_
      refine DrawP_consL (acc' := [_, _, _, _, _, _, _, _, _, _, _, _, _, _, _, _, _, _, _, _, _, _, _, _, _, _, _, _]) (eqRes _) (good0 (fun γ => Needs_w 26 (by kernel_rfl) rfl (fun r45 h45 => Needs_w 1 (by kernel_rfl) rfl (fun r20 h20 => Needs_nil (vopT (want_of rfl rfl h20 hq20) (V_move h45 ⟨rfl, rfl⟩)))))) rfl ?_
      refine DrawP_consL (acc' := [_, _, _, _, _, _, _, _, _, _, _, _, _, _, _, _, _, _, _, _, _, _, _, _, _, _, _, _, _]) (eqRes _) (good0 (fun γ => Needs_f (by kernel_rfl) (fun r5 h5 => Needs_w 27 (by kernel_rfl) rfl (fun r46 h46 => Needs_nil (vopT (want_of rfl rfl h46 hq46) (V_load_agg 5 VT.ty138 h5 rfl rfl ⟨rfl, rfl⟩)))))) rfl ?_
      refine DrawP_consL (acc' := [_, _, _, _, _, _, _, _, _, _, _, _, _, _, _, _, _, _, _, _, _, _, _, _, _, _, _, _, _, _]) (eqRes _) (good0 (fun γ => Needs_f (by kernel_rfl) (fun r2 h2 => Needs_w 27 (by kernel_rfl) rfl (fun r46 h46 => Needs_nil (vopT (want_of rfl rfl h46 hq46) (V_load 2 VT.ty3 h2 rfl rfl ⟨rfl, rfl⟩)))))) rfl ?_
      refine DrawP_consL (acc' := [_, _, _, _, _, _, _, _, _, _, _, _, _, _, _, _, _, _, _, _, _, _, _, _, _, _, _, _, _, _, _]) (eqRes _) (good0 (fun γ => Needs_w 28 (by kernel_rfl) rfl (fun r47 h47 => Needs_w 29 (by kernel_rfl) rfl (fun r48 h48 => Needs_w 27 (by kernel_rfl) rfl (fun r46 h46 => Needs_nil (vopT (want_of rfl rfl h46 hq46) (V_callP [.tmp 47, .tmp 48] rfl (evs_cons h47 (evs_cons h48 evs_nil)) VT.en86 (has_n o.seen k (by omega)) ⟨rfl, rfl⟩))))))) rfl ?_
      refine DrawP_consL (acc' := [_, _, _, _, _, _, _, _, _, _, _, _, _, _, _, _, _, _, _, _, _, _, _, _, _, _, _, _, _, _, _, _]) (eqRes _) (good0 (fun γ => Needs_w 30 (by kernel_rfl) rfl (fun r49 h49 => Needs_w 27 (by kernel_rfl) rfl (fun r46 h46 => Needs_nil (vopT (want_of rfl rfl h46 hq46) (V_not h49 ⟨rfl, rfl⟩)))))) rfl ?_
      refine DrawP_consL (acc' := [_, _, _, _, _, _, _, _, _, _, _, _, _, _, _, _, _, _, _, _, _, _, _, _, _, _, _, _, _, _, _, _, _]) (eqRes _) (good0 (fun γ => Needs_w 27 (by kernel_rfl) rfl (fun r46 h46 => Needs_w 31 (by kernel_rfl) rfl (fun r50 h50 => Needs_w 1 (by kernel_rfl) rfl (fun r20 h20 => Needs_nil (vopT (want_of rfl rfl h20 hq20) (V_pickF h46 hq46 h50 ⟨rfl, rfl⟩))))))) rfl ?_
      refine DrawP_consL (acc' := [_, _, _, _, _, _, _, _, _, _, _, _, _, _, _, _, _, _, _, _, _, _, _, _, _, _, _, _, _, _, _, _, _, _]) (eqRes _) (good0 (fun γ => Needs_w 1 (by kernel_rfl) rfl (fun r20 h20 => Needs_w 32 (by kernel_rfl) rfl (fun r51 h51 => Needs_nil (vopT rfl (V_pickT h20 hq20 h51 ⟨rfl, rfl⟩)))))) rfl ?_
      refine DrawP_consL (acc' := [_, _, _, _, _, _, _, _, _, _, _, _, _, _, _, _, _, _, _, _, _, _, _, _, _, _, _, _, _, _, _, _, _, _, _]) (eqRes _) (good0 (fun γ => Needs_w 33 (by kernel_rfl) rfl (fun r52 h52 => Needs_nil (vopT rfl (V_assign h52 ⟨rfl, rfl⟩))))) rfl ?_
      refine DrawP_nil (fun γ => Needs_w 34 (by kernel_rfl) rfl (fun r7 h7 => Needs_nil ?_))
      have e7 : r7 = some _ := h7
      subst e7
      clear h7
      refine Then_n ?_
      refine VW_ret ?_
      refine VRet_one rfl (.tmp rfl) ?_
      refine ⟨congrArg V.bool ?_, Drops.drop (Drops.refl _)⟩
      rw [hr]
      try rw [hpp]
      first | (simp_all; done) | (simp_all; omega) | (rw [hpp] at *; simp_all; done)
    ·
     refine VW_draw (G := Unit) [([], [9], []), ([0], [19], []), ([1, 0], [8, 20], []), ([2, 1, 0], [21, 20], []), ([1, 0], [2, 20], []), ([4, 3, 2, 1, 0], [22, 23, 20], []), ([5, 4, 3, 2, 1, 0], [24, 20], []), ([6, 5, 4, 3, 2, 1, 0], [8, 25], []), ([7, 6, 5, 4, 3, 2, 1, 0], [26, 25], []), ([6, 5, 4, 3, 2, 1, 0], [3, 25], []), ([9, 8, 7, 6, 5, 4, 3, 2, 1, 0], [27, 28, 25], []), ([10, 9, 8, 7, 6, 5, 4, 3, 2, 1, 0], [25, 29, 20], []), ([11, 10, 9, 8, 7, 6, 5, 4, 3, 2, 1, 0], [30, 20], []), ([12, 11, 10, 9, 8, 7, 6, 5, 4, 3, 2, 1, 0], [8, 31], []), ([13, 12, 11, 10, 9, 8, 7, 6, 5, 4, 3, 2, 1, 0], [32, 31], []), ([12, 11, 10, 9, 8, 7, 6, 5, 4, 3, 2, 1, 0], [2, 31], []), ([15, 14, 13, 12, 11, 10, 9, 8, 7, 6, 5, 4, 3, 2, 1, 0], [33, 34, 31], []), ([16, 15, 14, 13, 12, 11, 10, 9, 8, 7, 6, 5, 4, 3, 2, 1, 0], [35, 31], []), ([17, 16, 15, 14, 13, 12, 11, 10, 9, 8, 7, 6, 5, 4, 3, 2, 1, 0], [4, 36], []), ([17, 16, 15, 14, 13, 12, 11, 10, 9, 8, 7, 6, 5, 4, 3, 2, 1, 0], [2, 36], []), ([19, 18, 17, 16, 15, 14, 13, 12, 11, 10, 9, 8, 7, 6, 5, 4, 3, 2, 1, 0], [37, 38, 36], []), ([20, 19, 18, 17, 16, 15, 14, 13, 12, 11, 10, 9, 8, 7, 6, 5, 4, 3, 2, 1, 0], [39, 36], []), ([17, 16, 15, 14, 13, 12, 11, 10, 9, 8, 7, 6, 5, 4, 3, 2, 1, 0], [8, 36], []), ([22, 17, 16, 15, 14, 13, 12, 11, 10, 9, 8, 7, 6, 5, 4, 3, 2, 1, 0], [41, 36], []), ([23, 22, 21, 20, 19, 18, 17, 16, 15, 14, 13, 12, 11, 10, 9, 8, 7, 6, 5, 4, 3, 2, 1, 0], [40, 42, 36], []), ([24, 23, 22, 21, 20, 19, 18, 17, 16, 15, 14, 13, 12, 11, 10, 9, 8, 7, 6, 5, 4, 3, 2, 1, 0], [36, 43, 31], []), ([25, 24, 23, 22, 21, 20, 19, 18, 17, 16, 15, 14, 13, 12, 11, 10, 9, 8, 7, 6, 5, 4, 3, 2, 1, 0], [31, 44, 20], []), ([26, 25, 24, 23, 22, 21, 20, 19, 18, 17, 16, 15, 14, 13, 12, 11, 10, 9, 8, 7, 6, 5, 4, 3, 2, 1, 0], [45, 20], []), ([27, 26, 25, 24, 23, 22, 21, 20, 19, 18, 17, 16, 15, 14, 13, 12, 11, 10, 9, 8, 7, 6, 5, 4, 3, 2, 1, 0], [5, 46], []), ([27, 26, 25, 24, 23, 22, 21, 20, 19, 18, 17, 16, 15, 14, 13, 12, 11, 10, 9, 8, 7, 6, 5, 4, 3, 2, 1, 0], [2, 46], []), ([29, 28, 27, 26, 25, 24, 23, 22, 21, 20, 19, 18, 17, 16, 15, 14, 13, 12, 11, 10, 9, 8, 7, 6, 5, 4, 3, 2, 1, 0], [47, 48, 46], []), ([30, 29, 28, 27, 26, 25, 24, 23, 22, 21, 20, 19, 18, 17, 16, 15, 14, 13, 12, 11, 10, 9, 8, 7, 6, 5, 4, 3, 2, 1, 0], [49, 46], []), ([31, 30, 29, 28, 27, 26, 25, 24, 23, 22, 21, 20, 19, 18, 17, 16, 15, 14, 13, 12, 11, 10, 9, 8, 7, 6, 5, 4, 3, 2, 1, 0], [46, 50, 20], []), ([32, 31, 30, 29, 28, 27, 26, 25, 24, 23, 22, 21, 20, 19, 18, 17, 16, 15, 14, 13, 12, 11, 10, 9, 8, 7, 6, 5, 4, 3, 2, 1, 0], [20, 51], []), ([33, 32, 31, 30, 29, 28, 27, 26, 25, 24, 23, 22, 21, 20, 19, 18, 17, 16, 15, 14, 13, 12, 11, 10, 9, 8, 7, 6, 5, 4, 3, 2, 1, 0], [52], [])] [] (constSt _) [7] [7, 19, 20, 21, 22, 23, 24, 25, 26, 27, 28, 29, 30, 31, 32, 33, 34, 35, 36, 37, 38, 39, 40, 41, 42, 43, 44, 45, 46, 47, 48, 49, 50, 51, 52] rfl VT.mix (by kernel_rfl) (by kernel_rfl) ?_
     refine DrawP_consL (acc' := [_]) (eqRes _) (good0 (fun γ => Needs_f (by kernel_rfl) (fun r9 h9 => Needs_nil (vopT rfl (V_move h9 ⟨rfl, rfl⟩))))) rfl ?_
     refine DrawP_consL (acc' := [_, _]) (eqRes _) (good0 (fun γ => Needs_w 0 (by kernel_rfl) rfl (fun r19 h19 => Needs_nil (vopT rfl (V_move h19 ⟨rfl, rfl⟩))))) rfl ?_
     refine DrawP_consL (acc' := [_, _, _]) (eqRes _) (good0 (fun γ => Needs_f (by kernel_rfl) (fun r8 h8 => Needs_w 1 (by kernel_rfl) rfl (fun r20 h20 => Needs_nil (vopT (want_of rfl rfl h20 hq20) (V_fieldAddr VT.fa132_0 h8 ⟨rfl, rfl⟩)))))) rfl ?_
     refine DrawP_consL (acc' := [_, _, _, _]) (eqRes _) (good0 (fun γ => Needs_w 2 (by kernel_rfl) rfl (fun r21 h21 => Needs_w 1 (by kernel_rfl) rfl (fun r20 h20 => Needs_nil (vopT (want_of rfl rfl h20 hq20) (V_load 0 VT.ty3 h21 rfl rfl ⟨rfl, rfl⟩)))))) rfl ?_
     refine DrawP_consL (acc' := [_, _, _, _, _]) (eqRes _) (good0 (fun γ => Needs_f (by kernel_rfl) (fun r2 h2 => Needs_w 1 (by kernel_rfl) rfl (fun r20 h20 => Needs_nil (vopT (want_of rfl rfl h20 hq20) (V_load 2 VT.ty3 h2 rfl rfl ⟨rfl, rfl⟩)))))) rfl ?_
     refine DrawP_consL (acc' := [_, _, _, _, _, _]) (eqRes _) (good0 (fun γ => Needs_w 3 (by kernel_rfl) rfl (fun r22 h22 => Needs_w 4 (by kernel_rfl) rfl (fun r23 h23 => Needs_w 1 (by kernel_rfl) rfl (fun r20 h20 => Needs_nil (vopT (want_of rfl rfl h20 hq20) (V_bin h22 h23 rfl ⟨rfl, rfl⟩))))))) rfl ?_
     refine DrawP_consL (acc' := [_, _, _, _, _, _, _]) (eqRes _) (good0 (fun γ => Needs_w 5 (by kernel_rfl) rfl (fun r24 h24 => Needs_w 1 (by kernel_rfl) rfl (fun r20 h20 => Needs_nil (vopT (want_of rfl rfl h20 hq20) (V_move h24 ⟨rfl, rfl⟩)))))) rfl ?_
     refine DrawP_consL (acc' := [_, _, _, _, _, _, _, _]) (eqRes _) (good0 (fun γ => Needs_f (by kernel_rfl) (fun r8 h8 => Needs_w 6 (by kernel_rfl) rfl (fun r25 h25 => Needs_nil (vopT (want_of rfl rfl h25 hq25) (V_fieldAddr VT.fa132_1 h8 ⟨rfl, rfl⟩)))))) rfl ?_
     refine DrawP_consL (acc' := [_, _, _, _, _, _, _, _, _]) (eqRes _) (good0 (fun γ => Needs_w 7 (by kernel_rfl) rfl (fun r26 h26 => Needs_w 6 (by kernel_rfl) rfl (fun r25 h25 => Needs_nil (vopT (want_of rfl rfl h25 hq25) (V_load 0 VT.ty3 h26 rfl rfl ⟨rfl, rfl⟩)))))) rfl ?_
     refine DrawP_consL (acc' := [_, _, _, _, _, _, _, _, _, _]) (eqRes _) (good0 (fun γ => Needs_f (by kernel_rfl) (fun r3 h3 => Needs_w 6 (by kernel_rfl) rfl (fun r25 h25 => Needs_nil (vopT (want_of rfl rfl h25 hq25) (V_load 3 VT.ty3 h3 rfl rfl ⟨rfl, rfl⟩)))))) rfl ?_
     refine DrawP_consL (acc' := [_, _, _, _, _, _, _, _, _, _, _]) (eqRes _) (good0 (fun γ => Needs_w 8 (by kernel_rfl) rfl (fun r27 h27 => Needs_w 9 (by kernel_rfl) rfl (fun r28 h28 => Needs_w 6 (by kernel_rfl) rfl (fun r25 h25 => Needs_nil (vopT (want_of rfl rfl h25 hq25) (V_bin h27 h28 rfl ⟨rfl, rfl⟩))))))) rfl ?_
     refine DrawP_consL (acc' := [_, _, _, _, _, _, _, _, _, _, _, _]) (eqRes _) (good0 (fun γ => Needs_w 6 (by kernel_rfl) rfl (fun r25 h25 => Needs_w 10 (by kernel_rfl) rfl (fun r29 h29 => Needs_w 1 (by kernel_rfl) rfl (fun r20 h20 => Needs_nil (vopT (want_of rfl rfl h20 hq20) (V_pickT h25 hq25 h29 ⟨rfl, rfl⟩))))))) rfl ?_
     refine DrawP_consL (acc' := [_, _, _, _, _, _, _, _, _, _, _, _, _]) (eqRes _) (good0 (fun γ => Needs_w 11 (by kernel_rfl) rfl (fun r30 h30 => Needs_w 1 (by kernel_rfl) rfl (fun r20 h20 => Needs_nil (vopT (want_of rfl rfl h20 hq20) (V_move h30 ⟨rfl, rfl⟩)))))) rfl ?_
     refine DrawP_consL (acc' := [_, _, _, _, _, _, _, _, _, _, _, _, _, _]) (eqRes _) (good0 (fun γ => Needs_f (by kernel_rfl) (fun r8 h8 => Needs_w 12 (by kernel_rfl) rfl (fun r31 h31 => Needs_nil (vopT (want_of rfl rfl h31 hq31) (V_fieldAddr VT.fa132_0 h8 ⟨rfl, rfl⟩)))))) rfl ?_
     refine DrawP_consL (acc' := [_, _, _, _, _, _, _, _, _, _, _, _, _, _, _]) (eqRes _) (good0 (fun γ => Needs_w 13 (by kernel_rfl) rfl (fun r32 h32 => Needs_w 12 (by kernel_rfl) rfl (fun r31 h31 => Needs_nil (vopT (want_of rfl rfl h31 hq31) (V_load 0 VT.ty3 h32 rfl rfl ⟨rfl, rfl⟩)))))) rfl ?_
     refine DrawP_consL (acc' := [_, _, _, _, _, _, _, _, _, _, _, _, _, _, _, _]) (eqRes _) (good0 (fun γ => Needs_f (by kernel_rfl) (fun r2 h2 => Needs_w 12 (by kernel_rfl) rfl (fun r31 h31 => Needs_nil (vopT (want_of rfl rfl h31 hq31) (V_load 2 VT.ty3 h2 rfl rfl ⟨rfl, rfl⟩)))))) rfl ?_
     refine DrawP_consL (acc' := [_, _, _, _, _, _, _, _, _, _, _, _, _, _, _, _, _]) (eqRes _) (good0 (fun γ => Needs_w 14 (by kernel_rfl) rfl (fun r33 h33 => Needs_w 15 (by kernel_rfl) rfl (fun r34 h34 => Needs_w 12 (by kernel_rfl) rfl (fun r31 h31 => Needs_nil (vopT (want_of rfl rfl h31 hq31) (V_bin h33 h34 rfl ⟨rfl, rfl⟩))))))) rfl ?_
     refine DrawP_consL (acc' := [_, _, _, _, _, _, _, _, _, _, _, _, _, _, _, _, _, _]) (eqRes _) (good0 (fun γ => Needs_w 16 (by kernel_rfl) rfl (fun r35 h35 => Needs_w 12 (by kernel_rfl) rfl (fun r31 h31 => Needs_nil (vopT (want_of rfl rfl h31 hq31) (V_move h35 ⟨rfl, rfl⟩)))))) rfl ?_
     refine DrawP_consL (acc' := [_, _, _, _, _, _, _, _, _, _, _, _, _, _, _, _, _, _, _]) (eqRes _) (good0 (fun γ => Needs_f (by kernel_rfl) (fun r4 h4 => Needs_w 17 (by kernel_rfl) rfl (fun r36 h36 => Needs_nil (vopF (skip_of rfl rfl h36 hq36) ⟨rfl, rfl⟩))))) rfl ?_
     refine DrawP_consL (acc' := [_, _, _, _, _, _, _, _, _, _, _, _, _, _, _, _, _, _, _, _]) (eqRes _) (good0 (fun γ => Needs_f (by kernel_rfl) (fun r2 h2 => Needs_w 17 (by kernel_rfl) rfl (fun r36 h36 => Needs_nil (vopF (skip_of rfl rfl h36 hq36) ⟨rfl, rfl⟩))))) rfl ?_
     refine DrawP_consL (acc' := [_, _, _, _, _, _, _, _, _, _, _, _, _, _, _, _, _, _, _, _, _]) (eqRes _) (good0 (fun γ => Needs_w 18 (by kernel_rfl) rfl (fun r37 h37 => Needs_w 19 (by kernel_rfl) rfl (fun r38 h38 => Needs_w 17 (by kernel_rfl) rfl (fun r36 h36 => Needs_nil (vopF (skip_of rfl rfl h36 hq36) ⟨rfl, rfl⟩)))))) rfl ?_
     refine DrawP_consL (acc' := [_, _, _, _, _, _, _, _, _, _, _, _, _, _, _, _, _, _, _, _, _, _]) (eqRes _) (good0 (fun γ => Needs_w 20 (by kernel_rfl) rfl (fun r39 h39 => Needs_w 17 (by kernel_rfl) rfl (fun r36 h36 => Needs_nil (vopF (skip_of rfl rfl h36 hq36) ⟨rfl, rfl⟩))))) rfl ?_
     refine DrawP_consL (acc' := [_, _, _, _, _, _, _, _, _, _, _, _, _, _, _, _, _, _, _, _, _, _, _]) (eqRes _) (good0 (fun γ => Needs_f (by kernel_rfl) (fun r8 h8 => Needs_w 17 (by kernel_rfl) rfl (fun r36 h36 => Needs_nil (vopF (skip_of rfl rfl h36 hq36) ⟨rfl, rfl⟩))))) rfl ?_
     refine DrawP_consL (acc' := [_, _, _, _, _, _, _, _, _, _, _, _, _, _, _, _, _, _, _, _, _, _, _, _]) (eqRes _) (good0 (fun γ => Needs_w 22 (by kernel_rfl) rfl (fun r41 h41 => Needs_w 17 (by kernel_rfl) rfl (fun r36 h36 => Needs_nil (vopF (skip_of rfl rfl h36 hq36) ⟨rfl, rfl⟩))))) rfl ?_
     refine DrawP_consL (acc' := [_, _, _, _, _, _, _, _, _, _, _, _, _, _, _, _, _, _, _, _, _, _, _, _, _]) (eqRes _) (good0 (fun γ => Needs_w 21 (by kernel_rfl) rfl (fun r40 h40 => Needs_w 23 (by kernel_rfl) rfl (fun r42 h42 => Needs_w 17 (by kernel_rfl) rfl (fun r36 h36 => Needs_nil (vopF (skip_of rfl rfl h36 hq36) ⟨rfl, rfl⟩)))))) rfl ?_
     refine DrawP_consL (acc' := [_, _, _, _, _, _, _, _, _, _, _, _, _, _, _, _, _, _, _, _, _, _, _, _, _, _]) (eqRes _) (good0 (fun γ => Needs_w 17 (by kernel_rfl) rfl (fun r36 h36 => Needs_w 24 (by kernel_rfl) rfl (fun r43 h43 => Needs_w 12 (by kernel_rfl) rfl (fun r31 h31 => Needs_nil (vopT (want_of rfl rfl h31 hq31) (V_pickF h36 hq36 rfl ⟨rfl, rfl⟩))))))) rfl ?_
     refine DrawP_consL (acc' := [_, _, _, _, _, _, _, _, _, _, _, _, _, _, _, _, _, _, _, _, _, _, _, _, _, _, _]) (eqRes _) (good0 (fun γ => Needs_w 12 (by kernel_rfl) rfl (fun r31 h31 => Needs_w 25 (by kernel_rfl) rfl (fun r44 h44 => Needs_w 1 (by kernel_rfl) rfl (fun r20 h20 => Needs_nil (vopT (want_of rfl rfl h20 hq20) (V_pickF h31 hq31 h44 ⟨rfl, rfl⟩))))))) rfl ?_
     refine DrawP_consL (acc' := [_, _, _, _, _, _, _, _, _, _, _, _, _, _, _, _, _, _, _, _, _, _, _, _, _, _, _, _]) (eqRes _) (good0 (fun γ => Needs_w 26 (by kernel_rfl) rfl (fun r45 h45 => Needs_w 1 (by kernel_rfl) rfl (fun r20 h20 => Needs_nil (vopT (want_of rfl rfl h20 hq20) (V_move h45 ⟨rfl, rfl⟩)))))) rfl ?_
     refine DrawP_consL (acc' := [_, _, _, _, _, _, _, _, _, _, _, _, _, _, _, _, _, _, _, _, _, _, _, _, _, _, _, _, _]) (eqRes _) (good0 (fun γ => Needs_f (by kernel_rfl) (fun r5 h5 => Needs_w 27 (by kernel_rfl) rfl (fun r46 h46 => Needs_nil (vopT (want_of rfl rfl h46 rfl) (V_load_agg 5 VT.ty138 h5 rfl rfl ⟨rfl, rfl⟩)))))) rfl ?_
     refine DrawP_consL (acc' := [_, _, _, _, _, _, _, _, _, _, _, _, _, _, _, _, _, _, _, _, _, _, _, _, _, _, _, _, _, _]) (eqRes _) (good0 (fun γ => Needs_f (by kernel_rfl) (fun r2 h2 => Needs_w 27 (by kernel_rfl) rfl (fun r46 h46 => Needs_nil (vopT (want_of rfl rfl h46 rfl) (V_load 2 VT.ty3 h2 rfl rfl ⟨rfl, rfl⟩)))))) rfl ?_
     refine DrawP_consL (acc' := [_, _, _, _, _, _, _, _, _, _, _, _, _, _, _, _, _, _, _, _, _, _, _, _, _, _, _, _, _, _, _]) (eqRes _) (good0 (fun γ => Needs_w 28 (by kernel_rfl) rfl (fun r47 h47 => Needs_w 29 (by kernel_rfl) rfl (fun r48 h48 => Needs_w 27 (by kernel_rfl) rfl (fun r46 h46 => Needs_nil (vopT (want_of rfl rfl h46 rfl) (V_callP [.tmp 47, .tmp 48] rfl (evs_cons h47 (evs_cons h48 evs_nil)) VT.en86 (has_n o.seen k (by omega)) ⟨rfl, rfl⟩))))))) rfl ?_
     refine DrawP_consL (acc' := [_, _, _, _, _, _, _, _, _, _, _, _, _, _, _, _, _, _, _, _, _, _, _, _, _, _, _, _, _, _, _, _]) (eqRes _) (good0 (fun γ => Needs_w 30 (by kernel_rfl) rfl (fun r49 h49 => Needs_w 27 (by kernel_rfl) rfl (fun r46 h46 => Needs_nil (vopT (want_of rfl rfl h46 rfl) (V_not h49 ⟨rfl, rfl⟩)))))) rfl ?_
     refine DrawP_consL (acc' := [_, _, _, _, _, _, _, _, _, _, _, _, _, _, _, _, _, _, _, _, _, _, _, _, _, _, _, _, _, _, _, _, _]) (eqRes _) (good0 (fun γ => Needs_w 27 (by kernel_rfl) rfl (fun r46 h46 => Needs_w 31 (by kernel_rfl) rfl (fun r50 h50 => Needs_w 1 (by kernel_rfl) rfl (fun r20 h20 => Needs_nil (vopT (want_of rfl rfl h20 hq20) (V_pickF h46 rfl h50 ⟨rfl, rfl⟩))))))) rfl ?_
     refine DrawP_consL (acc' := [_, _, _, _, _, _, _, _, _, _, _, _, _, _, _, _, _, _, _, _, _, _, _, _, _, _, _, _, _, _, _, _, _, _]) (eqRes _) (good0 (fun γ => Needs_w 1 (by kernel_rfl) rfl (fun r20 h20 => Needs_w 32 (by kernel_rfl) rfl (fun r51 h51 => Needs_nil (vopT rfl (V_pickT h20 hq20 h51 ⟨rfl, rfl⟩)))))) rfl ?_
     refine DrawP_consL (acc' := [_, _, _, _, _, _, _, _, _, _, _, _, _, _, _, _, _, _, _, _, _, _, _, _, _, _, _, _, _, _, _, _, _, _, _]) (eqRes _) (good0 (fun γ => Needs_w 33 (by kernel_rfl) rfl (fun r52 h52 => Needs_nil (vopT rfl (V_assign h52 ⟨rfl, rfl⟩))))) rfl ?_
     refine DrawP_nil (fun γ => Needs_w 34 (by kernel_rfl) rfl (fun r7 h7 => Needs_nil ?_))
     have e7 : r7 = some _ := h7
     subst e7
     clear h7
     refine Then_n ?_
     refine VW_ret ?_
     refine VRet_one rfl (.tmp rfl) ?_
     refine ⟨congrArg V.bool ?_, Drops.drop (Drops.refl _)⟩
     rw [hr]
     try rw [hpp]
     first | (simp_all; done) | (simp_all; omega) | (rw [hpp] at *; simp_all; done)
  ·
   rcases Bool.eq_false_or_eq_true ((((dget d v).getD (0, 0)).1 != (k : Int))) with hq36 | hq36
   ·
    rcases Bool.eq_false_or_eq_true (((o.at k).has ((dget d v).getD (0, 0)).1.toNat)) with hq46 | hq46
    ·
     refine VW_draw (G := Unit) [([], [9], []), ([0], [19], []), ([1, 0], [8, 20], []), ([2, 1, 0], [21, 20], []), ([1, 0], [2, 20], []), ([4, 3, 2, 1, 0], [22, 23, 20], []), ([5, 4, 3, 2, 1, 0], [24, 20], []), ([6, 5, 4, 3, 2, 1, 0], [8, 25], []), ([7, 6, 5, 4, 3, 2, 1, 0], [26, 25], []), ([6, 5, 4, 3, 2, 1, 0], [3, 25], []), ([9, 8, 7, 6, 5, 4, 3, 2, 1, 0], [27, 28, 25], []), ([10, 9, 8, 7, 6, 5, 4, 3, 2, 1, 0], [25, 29, 20], []), ([11, 10, 9, 8, 7, 6, 5, 4, 3, 2, 1, 0], [30, 20], []), ([12, 11, 10, 9, 8, 7, 6, 5, 4, 3, 2, 1, 0], [8, 31], []), ([13, 12, 11, 10, 9, 8, 7, 6, 5, 4, 3, 2, 1, 0], [32, 31], []), ([12, 11, 10, 9, 8, 7, 6, 5, 4, 3, 2, 1, 0], [2, 31], []), ([15, 14, 13, 12, 11, 10, 9, 8, 7, 6, 5, 4, 3, 2, 1, 0], [33, 34, 31], []), ([16, 15, 14, 13, 12, 11, 10, 9, 8, 7, 6, 5, 4, 3, 2, 1, 0], [35, 31], []), ([17, 16, 15, 14, 13, 12, 11, 10, 9, 8, 7, 6, 5, 4, 3, 2, 1, 0], [4, 36], []), ([17, 16, 15, 14, 13, 12, 11, 10, 9, 8, 7, 6, 5, 4, 3, 2, 1, 0], [2, 36], []), ([19, 18, 17, 16, 15, 14, 13, 12, 11, 10, 9, 8, 7, 6, 5, 4, 3, 2, 1, 0], [37, 38, 36], []), ([20, 19, 18, 17, 16, 15, 14, 13, 12, 11, 10, 9, 8, 7, 6, 5, 4, 3, 2, 1, 0], [39, 36], []), ([17, 16, 15, 14, 13, 12, 11, 10, 9, 8, 7, 6, 5, 4, 3, 2, 1, 0], [8, 36], []), ([22, 17, 16, 15, 14, 13, 12, 11, 10, 9, 8, 7, 6, 5, 4, 3, 2, 1, 0], [41, 36], []), ([23, 22, 21, 20, 19, 18, 17, 16, 15, 14, 13, 12, 11, 10, 9, 8, 7, 6, 5, 4, 3, 2, 1, 0], [40, 42, 36], []), ([24, 23, 22, 21, 20, 19, 18, 17, 16, 15, 14, 13, 12, 11, 10, 9, 8, 7, 6, 5, 4, 3, 2, 1, 0], [36, 43, 31], []), ([25, 24, 23, 22, 21, 20, 19, 18, 17, 16, 15, 14, 13, 12, 11, 10, 9, 8, 7, 6, 5, 4, 3, 2, 1, 0], [31, 44, 20], []), ([26, 25, 24, 23, 22, 21, 20, 19, 18, 17, 16, 15, 14, 13, 12, 11, 10, 9, 8, 7, 6, 5, 4, 3, 2, 1, 0], [45, 20], []), ([27, 26, 25, 24, 23, 22, 21, 20, 19, 18, 17, 16, 15, 14, 13, 12, 11, 10, 9, 8, 7, 6, 5, 4, 3, 2, 1, 0], [5, 46], []), ([27, 26, 25, 24, 23, 22, 21, 20, 19, 18, 17, 16, 15, 14, 13, 12, 11, 10, 9, 8, 7, 6, 5, 4, 3, 2, 1, 0], [2, 46], []), ([29, 28, 27, 26, 25, 24, 23, 22, 21, 20, 19, 18, 17, 16, 15, 14, 13, 12, 11, 10, 9, 8, 7, 6, 5, 4, 3, 2, 1, 0], [47, 48, 46], []), ([30, 29, 28, 27, 26, 25, 24, 23, 22, 21, 20, 19, 18, 17, 16, 15, 14, 13, 12, 11, 10, 9, 8, 7, 6, 5, 4, 3, 2, 1, 0], [49, 46], []), ([31, 30, 29, 28, 27, 26, 25, 24, 23, 22, 21, 20, 19, 18, 17, 16, 15, 14, 13, 12, 11, 10, 9, 8, 7, 6, 5, 4, 3, 2, 1, 0], [46, 50, 20], []), ([32, 31, 30, 29, 28, 27, 26, 25, 24, 23, 22, 21, 20, 19, 18, 17, 16, 15, 14, 13, 12, 11, 10, 9, 8, 7, 6, 5, 4, 3, 2, 1, 0], [20, 51], []), ([33, 32, 31, 30, 29, 28, 27, 26, 25, 24, 23, 22, 21, 20, 19, 18, 17, 16, 15, 14, 13, 12, 11, 10, 9, 8, 7, 6, 5, 4, 3, 2, 1, 0], [52], [])] [] (constSt _) [7] [7, 19, 20, 21, 22, 23, 24, 25, 26, 27, 28, 29, 30, 31, 32, 33, 34, 35, 36, 37, 38, 39, 40, 41, 42, 43, 44, 45, 46, 47, 48, 49, 50, 51, 52] rfl VT.mix (by kernel_rfl) (by kernel_rfl) ?_
     refine DrawP_consL (acc' := [_]) (eqRes _) (good0 (fun γ => Needs_f (by kernel_rfl) (fun r9 h9 => Needs_nil (vopT rfl (V_move h9 ⟨rfl, rfl⟩))))) rfl ?_
     refine DrawP_consL (acc' := [_, _]) (eqRes _) (good0 (fun γ => Needs_w 0 (by kernel_rfl) rfl (fun r19 h19 => Needs_nil (vopT rfl (V_move h19 ⟨rfl, rfl⟩))))) rfl ?_
     refine DrawP_consL (acc' := [_, _, _]) (eqRes _) (good0 (fun γ => Needs_f (by kernel_rfl) (fun r8 h8 => Needs_w 1 (by kernel_rfl) rfl (fun r20 h20 => Needs_nil (vopT (want_of rfl rfl h20 hq20) (V_fieldAddr VT.fa132_0 h8 ⟨rfl, rfl⟩)))))) rfl ?_
     refine DrawP_consL (acc' := [_, _, _, _]) (eqRes _) (good0 (fun γ => Needs_w 2 (by kernel_rfl) rfl (fun r21 h21 => Needs_w 1 (by kernel_rfl) rfl (fun r20 h20 => Needs_nil (vopT (want_of rfl rfl h20 hq20) (V_load 0 VT.ty3 h21 rfl rfl ⟨rfl, rfl⟩)))))) rfl ?_
     refine DrawP_consL (acc' := [_, _, _, _, _]) (eqRes _) (good0 (fun γ => Needs_f (by kernel_rfl) (fun r2 h2 => Needs_w 1 (by kernel_rfl) rfl (fun r20 h20 => Needs_nil (vopT (want_of rfl rfl h20 hq20) (V_load 2 VT.ty3 h2 rfl rfl ⟨rfl, rfl⟩)))))) rfl ?_
     refine DrawP_consL (acc' := [_, _, _, _, _, _]) (eqRes _) (good0 (fun γ => Needs_w 3 (by kernel_rfl) rfl (fun r22 h22 => Needs_w 4 (by kernel_rfl) rfl (fun r23 h23 => Needs_w 1 (by kernel_rfl) rfl (fun r20 h20 => Needs_nil (vopT (want_of rfl rfl h20 hq20) (V_bin h22 h23 rfl ⟨rfl, rfl⟩))))))) rfl ?_
     refine DrawP_consL (acc' := [_, _, _, _, _, _, _]) (eqRes _) (good0 (fun γ => Needs_w 5 (by kernel_rfl) rfl (fun r24 h24 => Needs_w 1 (by kernel_rfl) rfl (fun r20 h20 => Needs_nil (vopT (want_of rfl rfl h20 hq20) (V_move h24 ⟨rfl, rfl⟩)))))) rfl ?_
     refine DrawP_consL (acc' := [_, _, _, _, _, _, _, _]) (eqRes _) (good0 (fun γ => Needs_f (by kernel_rfl) (fun r8 h8 => Needs_w 6 (by kernel_rfl) rfl (fun r25 h25 => Needs_nil (vopF (skip_of rfl rfl h25 hq25) ⟨rfl, rfl⟩))))) rfl ?_
     refine DrawP_consL (acc' := [_, _, _, _, _, _, _, _, _]) (eqRes _) (good0 (fun γ => Needs_w 7 (by kernel_rfl) rfl (fun r26 h26 => Needs_w 6 (by kernel_rfl) rfl (fun r25 h25 => Needs_nil (vopF (skip_of rfl rfl h25 hq25) ⟨rfl, rfl⟩))))) rfl ?_
     refine DrawP_consL (acc' := [_, _, _, _, _, _, _, _, _, _]) (eqRes _) (good0 (fun γ => Needs_f (by kernel_rfl) (fun r3 h3 => Needs_w 6 (by kernel_rfl) rfl (fun r25 h25 => Needs_nil (vopF (skip_of rfl rfl h25 hq25) ⟨rfl, rfl⟩))))) rfl ?_
     refine DrawP_consL (acc' := [_, _, _, _, _, _, _, _, _, _, _]) (eqRes _) (good0 (fun γ => Needs_w 8 (by kernel_rfl) rfl (fun r27 h27 => Needs_w 9 (by kernel_rfl) rfl (fun r28 h28 => Needs_w 6 (by kernel_rfl) rfl (fun r25 h25 => Needs_nil (vopF (skip_of rfl rfl h25 hq25) ⟨rfl, rfl⟩)))))) rfl ?_
     refine DrawP_consL (acc' := [_, _, _, _, _, _, _, _, _, _, _, _]) (eqRes _) (good0 (fun γ => Needs_w 6 (by kernel_rfl) rfl (fun r25 h25 => Needs_w 10 (by kernel_rfl) rfl (fun r29 h29 => Needs_w 1 (by kernel_rfl) rfl (fun r20 h20 => Needs_nil (vopT (want_of rfl rfl h20 hq20) (V_pickF h25 hq25 rfl ⟨rfl, rfl⟩))))))) rfl ?_
     refine DrawP_consL (acc' := [_, _, _, _, _, _, _, _, _, _, _, _, _]) (eqRes _) (good0 (fun γ => Needs_w 11 (by kernel_rfl) rfl (fun r30 h30 => Needs_w 1 (by kernel_rfl) rfl (fun r20 h20 => Needs_nil (vopT (want_of rfl rfl h20 hq20) (V_move h30 ⟨rfl, rfl⟩)))))) rfl ?_
     refine DrawP_consL (acc' := [_, _, _, _, _, _, _, _, _, _, _, _, _, _]) (eqRes _) (good0 (fun γ => Needs_f (by kernel_rfl) (fun r8 h8 => Needs_w 12 (by kernel_rfl) rfl (fun r31 h31 => Needs_nil (vopT (want_of rfl rfl h31 rfl) (V_fieldAddr VT.fa132_0 h8 ⟨rfl, rfl⟩)))))) rfl ?_
     refine DrawP_consL (acc' := [_, _, _, _, _, _, _, _, _, _, _, _, _, _, _]) (eqRes _) (good0 (fun γ => Needs_w 13 (by kernel_rfl) rfl (fun r32 h32 => Needs_w 12 (by kernel_rfl) rfl (fun r31 h31 => Needs_nil (vopT (want_of rfl rfl h31 rfl) (V_load 0 VT.ty3 h32 rfl rfl ⟨rfl, rfl⟩)))))) rfl ?_
     refine DrawP_consL (acc' := [_, _, _, _, _, _, _, _, _, _, _, _, _, _, _, _]) (eqRes _) (good0 (fun γ => Needs_f (by kernel_rfl) (fun r2 h2 => Needs_w 12 (by kernel_rfl) rfl (fun r31 h31 => Needs_nil (vopT (want_of rfl rfl h31 rfl) (V_load 2 VT.ty3 h2 rfl rfl ⟨rfl, rfl⟩)))))) rfl ?_
     refine DrawP_consL (acc' := [_, _, _, _, _, _, _, _, _, _, _, _, _, _, _, _, _]) (eqRes _) (good0 (fun γ => Needs_w 14 (by kernel_rfl) rfl (fun r33 h33 => Needs_w 15 (by kernel_rfl) rfl (fun r34 h34 => Needs_w 12 (by kernel_rfl) rfl (fun r31 h31 => Needs_nil (vopT (want_of rfl rfl h31 rfl) (V_bin h33 h34 rfl ⟨rfl, rfl⟩))))))) rfl ?_
     refine DrawP_consL (acc' := [_, _, _, _, _, _, _, _, _, _, _, _, _, _, _, _, _, _]) (eqRes _) (good0 (fun γ => Needs_w 16 (by kernel_rfl) rfl (fun r35 h35 => Needs_w 12 (by kernel_rfl) rfl (fun r31 h31 => Needs_nil (vopT (want_of rfl rfl h31 rfl) (V_move h35 ⟨rfl, rfl⟩)))))) rfl ?_
     refine DrawP_consL (acc' := [_, _, _, _, _, _, _, _, _, _, _, _, _, _, _, _, _, _, _]) (eqRes _) (good0 (fun γ => Needs_f (by kernel_rfl) (fun r4 h4 => Needs_w 17 (by kernel_rfl) rfl (fun r36 h36 => Needs_nil (vopT (want_of rfl rfl h36 hq36) (V_load 4 VT.ty135 h4 rfl rfl ⟨rfl, rfl⟩)))))) rfl ?_
     refine DrawP_consL (acc' := [_, _, _, _, _, _, _, _, _, _, _, _, _, _, _, _, _, _, _, _]) (eqRes _) (good0 (fun γ => Needs_f (by kernel_rfl) (fun r2 h2 => Needs_w 17 (by kernel_rfl) rfl (fun r36 h36 => Needs_nil (vopT (want_of rfl rfl h36 hq36) (V_load 2 VT.ty3 h2 rfl rfl ⟨rfl, rfl⟩)))))) rfl ?_
     refine DrawP_consL (acc' := [_, _, _, _, _, _, _, _, _, _, _, _, _, _, _, _, _, _, _, _, _]) (epRes _) (good0 (fun γ => Needs_w 18 (by kernel_rfl) rfl (fun r37 h37 => Needs_w 19 (by kernel_rfl) rfl (fun r38 h38 => Needs_w 17 (by kernel_rfl) rfl (fun r36 h36 => Needs_nil (vopT (want_of rfl rfl h36 hq36) (V_indexAddr (el := setV (o.at k)) VT.sl135 h37 h38 (by omega) (get_setV hk) (fun a39 => ⟨⟨_, rfl⟩, rfl⟩)))))))) rfl ?_
     refine DrawP_consL (acc' := [_, _, _, _, _, _, _, _, _, _, _, _, _, _, _, _, _, _, _, _, _, _]) (eqRes _) (good0 (fun γ => Needs_w 20 (by kernel_rfl) rfl (fun r39 h39 => Needs_w 17 (by kernel_rfl) rfl (fun r36 h36 => Needs_nil (epE h39 (fun a_39 e39 => vopT (want_of rfl rfl h36 hq36) (V_load_ep_agg VT.ty138 e39 rfl ⟨rfl, rfl⟩))))))) rfl ?_
     refine DrawP_consL (acc' := [_, _, _, _, _, _, _, _, _, _, _, _, _, _, _, _, _, _, _, _, _, _, _]) (eqRes _) (good0 (fun γ => Needs_f (by kernel_rfl) (fun r8 h8 => Needs_w 17 (by kernel_rfl) rfl (fun r36 h36 => Needs_nil (vopT (want_of rfl rfl h36 hq36) (V_fieldAddr VT.fa132_0 h8 ⟨rfl, rfl⟩)))))) rfl ?_
     refine DrawP_consL (acc' := [_, _, _, _, _, _, _, _, _, _, _, _, _, _, _, _, _, _, _, _, _, _, _, _]) (eqRes _) (good0 (fun γ => Needs_w 22 (by kernel_rfl) rfl (fun r41 h41 => Needs_w 17 (by kernel_rfl) rfl (fun r36 h36 => Needs_nil (vopT (want_of rfl rfl h36 hq36) (V_load 0 VT.ty3 h41 rfl rfl ⟨rfl, rfl⟩)))))) rfl ?_
     refine DrawP_consL (acc' := [_, _, _, _, _, _, _, _, _, _, _, _, _, _, _, _, _, _, _, _, _, _, _, _, _]) (eqRes _) (good0 (fun γ => Needs_w 21 (by kernel_rfl) rfl (fun r40 h40 => Needs_w 23 (by kernel_rfl) rfl (fun r42 h42 => Needs_w 17 (by kernel_rfl) rfl (fun r36 h36 => Needs_nil (vopT (want_of rfl rfl h36 hq36) (V_callP [.tmp 40, .tmp 42] rfl (evs_cons h40 (evs_cons h42 evs_nil)) VT.en86 (has_c (o.at k) ((dget d v).getD (0, 0)).1 (by rw [hpp]; exact hpd.1) (by rw [hpp]; exact hpd.2)) ⟨rfl, rfl⟩))))))) rfl ?_
     refine DrawP_consL (acc' := [_, _, _, _, _, _, _, _, _, _, _, _, _, _, _, _, _, _, _, _, _, _, _, _, _, _]) (eqRes _) (good0 (fun γ => Needs_w 17 (by kernel_rfl) rfl (fun r36 h36 => Needs_w 24 (by kernel_rfl) rfl (fun r43 h43 => Needs_w 12 (by kernel_rfl) rfl (fun r31 h31 => Needs_nil (vopT (want_of rfl rfl h31 rfl) (V_pickT h36 hq36 h43 ⟨rfl, rfl⟩))))))) rfl ?_
     refine DrawP_consL (acc' := [_, _, _, _, _, _, _, _, _, _, _, _, _, _, _, _, _, _, _, _, _, _, _, _, _, _, _]) (eqRes _) (good0 (fun γ => Needs_w 12 (by kernel_rfl) rfl (fun r31 h31 => Needs_w 25 (by kernel_rfl) rfl (fun r44 h44 => Needs_w 1 (by kernel_rfl) rfl (fun r20 h20 => Needs_nil (vopT (want_of rfl rfl h20 hq20) (V_pickF h31 rfl h44 ⟨rfl, rfl⟩))))))) rfl ?_
     refine DrawP_consL (acc' := [_, _, _, _, _, _, _, _, _, _, _, _, _, _, _, _, _, _, _, _, _, _, _, _, _, _, _, _]) (eqRes _) (good0 (fun γ => Needs_w 26 (by kernel_rfl) rfl (fun r45 h45 => Needs_w 1 (by kernel_rfl) rfl (fun r20 h20 => Needs_nil (vopT (want_of rfl rfl h20 hq20) (V_move h45 ⟨rfl, rfl⟩)))))) rfl ?_
     refine DrawP_consL (acc' := [_, _, _, _, _, _, _, _, _, _, _, _, _, _, _, _, _, _, _, _, _, _, _, _, _, _, _, _, _]) (eqRes _) (good0 (fun γ => Needs_f (by kernel_rfl) (fun r5 h5 => Needs_w 27 (by kernel_rfl) rfl (fun r46 h46 => Needs_nil (vopF (skip_of rfl rfl h46 hq46) ⟨rfl, rfl⟩))))) rfl ?_
     refine DrawP_consL (acc' := [_, _, _, _, _, _, _, _, _, _, _, _, _, _, _, _, _, _, _, _, _, _, _, _, _, _, _, _, _, _]) (eqRes _) (good0 (fun γ => Needs_f (by kernel_rfl) (fun r2 h2 => Needs_w 27 (by kernel_rfl) rfl (fun r46 h46 => Needs_nil (vopF (skip_of rfl rfl h46 hq46) ⟨rfl, rfl⟩))))) rfl ?_
     refine DrawP_consL (acc' := [_, _, _, _, _, _, _, _, _, _, _, _, _, _, _, _, _, _, _, _, _, _, _, _, _, _, _, _, _, _, _]) (eqRes _) (good0 (fun γ => Needs_w 28 (by kernel_rfl) rfl (fun r47 h47 => Needs_w 29 (by kernel_rfl) rfl (fun r48 h48 => Needs_w 27 (by kernel_rfl) rfl (fun r46 h46 => Needs_nil (vopF (skip_of rfl rfl h46 hq46) ⟨rfl, rfl⟩)))))) rfl ?_
     refine DrawP_consL (acc' := [_, _, _, _, _, _, _, _, _, _, _, _, _, _, _, _, _, _, _, _, _, _, _, _, _, _, _, _, _, _, _, _]) (eqRes _) (good0 (fun γ => Needs_w 30 (by kernel_rfl) rfl (fun r49 h49 => Needs_w 27 (by kernel_rfl) rfl (fun r46 h46 => Needs_nil (vopF (skip_of rfl rfl h46 hq46) ⟨rfl, rfl⟩))))) rfl ?_
     refine DrawP_consL (acc' := [_, _, _, _, _, _, _, _, _, _, _, _, _, _, _, _, _, _, _, _, _, _, _, _, _, _, _, _, _, _, _, _, _]) (eqRes _) (good0 (fun γ => Needs_w 27 (by kernel_rfl) rfl (fun r46 h46 => Needs_w 31 (by kernel_rfl) rfl (fun r50 h50 => Needs_w 1 (by kernel_rfl) rfl (fun r20 h20 => Needs_nil (vopT (want_of rfl rfl h20 hq20) (V_pickT h46 hq46 rfl ⟨rfl, rfl⟩))))))) rfl ?_
     refine DrawP_consL (acc' := [_, _, _, _, _, _, _, _, _, _, _, _, _, _, _, _, _, _, _, _, _, _, _, _, _, _, _, _, _, _, _, _, _, _]) (eqRes _) (good0 (fun γ => Needs_w 1 (by kernel_rfl) rfl (fun r20 h20 => Needs_w 32 (by kernel_rfl) rfl (fun r51 h51 => Needs_nil (vopT rfl (V_pickT h20 hq20 h51 ⟨rfl, rfl⟩)))))) rfl ?_
     refine DrawP_consL (acc' := [_, _, _, _, _, _, _, _, _, _, _, _, _, _, _, _, _, _, _, _, _, _, _, _, _, _, _, _, _, _, _, _, _, _, _]) (eqRes _) (good0 (fun γ => Needs_w 33 (by kernel_rfl) rfl (fun r52 h52 => Needs_nil (vopT rfl (V_assign h52 ⟨rfl, rfl⟩))))) rfl ?_
     refine DrawP_nil (fun γ => Needs_w 34 (by kernel_rfl) rfl (fun r7 h7 => Needs_nil ?_))
     have e7 : r7 = some _ := h7
     subst e7
     clear h7
     refine Then_n ?_
     refine VW_ret ?_
     refine VRet_one rfl (.tmp rfl) ?_
     refine ⟨congrArg V.bool ?_, Drops.drop (Drops.refl _)⟩
     rw [hr]
     try rw [hpp]
     first | (simp_all; done) | (simp_all; omega) | (rw [hpp] at *; simp_all; done)
    ·
     refine VW_draw (G := Unit) [([], [9], []), ([0], [19], []), ([1, 0], [8, 20], []), ([2, 1, 0], [21, 20], []), ([1, 0], [2, 20], []), ([4, 3, 2, 1, 0], [22, 23, 20], []), ([5, 4, 3, 2, 1, 0], [24, 20], []), ([6, 5, 4, 3, 2, 1, 0], [8, 25], []), ([7, 6, 5, 4, 3, 2, 1, 0], [26, 25], []), ([6, 5, 4, 3, 2, 1, 0], [3, 25], []), ([9, 8, 7, 6, 5, 4, 3, 2, 1, 0], [27, 28, 25], []), ([10, 9, 8, 7, 6, 5, 4, 3, 2, 1, 0], [25, 29, 20], []), ([11, 10, 9, 8, 7, 6, 5, 4, 3, 2, 1, 0], [30, 20], []), ([12, 11, 10, 9, 8, 7, 6, 5, 4, 3, 2, 1, 0], [8, 31], []), ([13, 12, 11, 10, 9, 8, 7, 6, 5, 4, 3, 2, 1, 0], [32, 31], []), ([12, 11, 10, 9, 8, 7, 6, 5, 4, 3, 2, 1, 0], [2, 31], []), ([15, 14, 13, 12, 11, 10, 9, 8, 7, 6, 5, 4, 3, 2, 1, 0], [33, 34, 31], []), ([16, 15, 14, 13, 12, 11, 10, 9, 8, 7, 6, 5, 4, 3, 2, 1, 0], [35, 31], []), ([17, 16, 15, 14, 13, 12, 11, 10, 9, 8, 7, 6, 5, 4, 3, 2, 1, 0], [4, 36], []), ([17, 16, 15, 14, 13, 12, 11, 10, 9, 8, 7, 6, 5, 4, 3, 2, 1, 0], [2, 36], []), ([19, 18, 17, 16, 15, 14, 13, 12, 11, 10, 9, 8, 7, 6, 5, 4, 3, 2, 1, 0], [37, 38, 36], []), ([20, 19, 18, 17, 16, 15, 14, 13, 12, 11, 10, 9, 8, 7, 6, 5, 4, 3, 2, 1, 0], [39, 36], []), ([17, 16, 15, 14, 13, 12, 11, 10, 9, 8, 7, 6, 5, 4, 3, 2, 1, 0], [8, 36], []), ([22, 17, 16, 15, 14, 13, 12, 11, 10, 9, 8, 7, 6, 5, 4, 3, 2, 1, 0], [41, 36], []), ([23, 22, 21, 20, 19, 18, 17, 16, 15, 14, 13, 12, 11, 10, 9, 8, 7, 6, 5, 4, 3, 2, 1, 0], [40, 42, 36], []), ([24, 23, 22, 21, 20, 19, 18, 17, 16, 15, 14, 13, 12, 11, 10, 9, 8, 7, 6, 5, 4, 3, 2, 1, 0], [36, 43, 31], []), ([25, 24, 23, 22, 21, 20, 19, 18, 17, 16, 15, 14, 13, 12, 11, 10, 9, 8, 7, 6, 5, 4, 3, 2, 1, 0], [31, 44, 20], []), ([26, 25, 24, 23, 22, 21, 20, 19, 18, 17, 16, 15, 14, 13, 12, 11, 10, 9, 8, 7, 6, 5, 4, 3, 2, 1, 0], [45, 20], []), ([27, 26, 25, 24, 23, 22, 21, 20, 19, 18, 17, 16, 15, 14, 13, 12, 11, 10, 9, 8, 7, 6, 5, 4, 3, 2, 1, 0], [5, 46], []), ([27, 26, 25, 24, 23, 22, 21, 20, 19, 18, 17, 16, 15, 14, 13, 12, 11, 10, 9, 8, 7, 6, 5, 4, 3, 2, 1, 0], [2, 46], []), ([29, 28, 27, 26, 25, 24, 23, 22, 21, 20, 19, 18, 17, 16, 15, 14, 13, 12, 11, 10, 9, 8, 7, 6, 5, 4, 3, 2, 1, 0], [47, 48, 46], []), ([30, 29, 28, 27, 26, 25, 24, 23, 22, 21, 20, 19, 18, 17, 16, 15, 14, 13, 12, 11, 10, 9, 8, 7, 6, 5, 4, 3, 2, 1, 0], [49, 46], []), ([31, 30, 29, 28, 27, 26, 25, 24, 23, 22, 21, 20, 19, 18, 17, 16, 15, 14, 13, 12, 11, 10, 9, 8, 7, 6, 5, 4, 3, 2, 1, 0], [46, 50, 20], []), ([32, 31, 30, 29, 28, 27, 26, 25, 24, 23, 22, 21, 20, 19, 18, 17, 16, 15, 14, 13, 12, 11, 10, 9, 8, 7, 6, 5, 4, 3, 2, 1, 0], [20, 51], []), ([33, 32, 31, 30, 29, 28, 27, 26, 25, 24, 23, 22, 21, 20, 19, 18, 17, 16, 15, 14, 13, 12, 11, 10, 9, 8, 7, 6, 5, 4, 3, 2, 1, 0], [52], [])] [] (constSt _) [7] [7, 19, 20, 21, 22, 23, 24, 25, 26, 27, 28, 29, 30, 31, 32, 33, 34, 35, 36, 37, 38, 39, 40, 41, 42, 43, 44, 45, 46, 47, 48, 49, 50, 51, 52] rfl VT.mix (by kernel_rfl) (by kernel_rfl) ?_
     refine DrawP_consL (acc' := [_]) (eqRes _) (good0 (fun γ => Needs_f (by kernel_rfl) (fun r9 h9 => Needs_nil (vopT rfl (V_move h9 ⟨rfl, rfl⟩))))) rfl ?_
     refine DrawP_consL (acc' := [_, _]) (eqRes _) (good0 (fun γ => Needs_w 0 (by kernel_rfl) rfl (fun r19 h19 => Needs_nil (vopT rfl (V_move h19 ⟨rfl, rfl⟩))))) rfl ?_
     refine DrawP_consL (acc' := [_, _, _]) (eqRes _) (good0 (fun γ => Needs_f (by kernel_rfl) (fun r8 h8 => Needs_w 1 (by kernel_rfl) rfl (fun r20 h20 => Needs_nil (vopT (want_of rfl rfl h20 hq20) (V_fieldAddr VT.fa132_0 h8 ⟨rfl, rfl⟩)))))) rfl ?_
     refine DrawP_consL (acc' := [_, _, _, _]) (eqRes _) (good0 (fun γ => Needs_w 2 (by kernel_rfl) rfl (fun r21 h21 => Needs_w 1 (by kernel_rfl) rfl (fun r20 h20 => Needs_nil (vopT (want_of rfl rfl h20 hq20) (V_load 0 VT.ty3 h21 rfl rfl ⟨rfl, rfl⟩)))))) rfl ?_
     refine DrawP_consL (acc' := [_, _, _, _, _]) (eqRes _) (good0 (fun γ => Needs_f (by kernel_rfl) (fun r2 h2 => Needs_w 1 (by kernel_rfl) rfl (fun r20 h20 => Needs_nil (vopT (want_of rfl rfl h20 hq20) (V_load 2 VT.ty3 h2 rfl rfl ⟨rfl, rfl⟩)))))) rfl ?_
     refine DrawP_consL (acc' := [_, _, _, _, _, _]) (eqRes _) (good0 (fun γ => Needs_w 3 (by kernel_rfl) rfl (fun r22 h22 => Needs_w 4 (by kernel_rfl) rfl (fun r23 h23 => Needs_w 1 (by kernel_rfl) rfl (fun r20 h20 => Needs_nil (vopT (want_of rfl rfl h20 hq20) (V_bin h22 h23 rfl ⟨rfl, rfl⟩))))))) rfl ?_
     refine DrawP_consL (acc' := [_, _, _, _, _, _, _]) (eqRes _) (good0 (fun γ => Needs_w 5 (by kernel_rfl) rfl (fun r24 h24 => Needs_w 1 (by kernel_rfl) rfl (fun r20 h20 => Needs_nil (vopT (want_of rfl rfl h20 hq20) (V_move h24 ⟨rfl, rfl⟩)))))) rfl ?_
     refine DrawP_consL (acc' := [_, _, _, _, _, _, _, _]) (eqRes _) (good0 (fun γ => Needs_f (by kernel_rfl) (fun r8 h8 => Needs_w 6 (by kernel_rfl) rfl (fun r25 h25 => Needs_nil (vopF (skip_of rfl rfl h25 hq25) ⟨rfl, rfl⟩))))) rfl ?_
     refine DrawP_consL (acc' := [_, _, _, _, _, _, _, _, _]) (eqRes _) (good0 (fun γ => Needs_w 7 (by kernel_rfl) rfl (fun r26 h26 => Needs_w 6 (by kernel_rfl) rfl (fun r25 h25 => Needs_nil (vopF (skip_of rfl rfl h25 hq25) ⟨rfl, rfl⟩))))) rfl ?_
     refine DrawP_consL (acc' := [_, _, _, _, _, _, _, _, _, _]) (eqRes _) (good0 (fun γ => Needs_f (by kernel_rfl) (fun r3 h3 => Needs_w 6 (by kernel_rfl) rfl (fun r25 h25 => Needs_nil (vopF (skip_of rfl rfl h25 hq25) ⟨rfl, rfl⟩))))) rfl ?_
     refine DrawP_consL (acc' := [_, _, _, _, _, _, _, _, _, _, _]) (eqRes _) (good0 (fun γ => Needs_w 8 (by kernel_rfl) rfl (fun r27 h27 => Needs_w 9 (by kernel_rfl) rfl (fun r28 h28 => Needs_w 6 (by kernel_rfl) rfl (fun r25 h25 => Needs_nil (vopF (skip_of rfl rfl h25 hq25) ⟨rfl, rfl⟩)))))) rfl ?_
     refine DrawP_consL (acc' := [_, _, _, _, _, _, _, _, _, _, _, _]) (eqRes _) (good0 (fun γ => Needs_w 6 (by kernel_rfl) rfl (fun r25 h25 => Needs_w 10 (by kernel_rfl) rfl (fun r29 h29 => Needs_w 1 (by kernel_rfl) rfl (fun r20 h20 => Needs_nil (vopT (want_of rfl rfl h20 hq20) (V_pickF h25 hq25 rfl ⟨rfl, rfl⟩))))))) rfl ?_
     refine DrawP_consL (acc' := [_, _, _, _, _, _, _, _, _, _, _, _, _]) (eqRes _) (good0 (fun γ => Needs_w 11 (by kernel_rfl) rfl (fun r30 h30 => Needs_w 1 (by kernel_rfl) rfl (fun r20 h20 => Needs_nil (vopT (want_of rfl rfl h20 hq20) (V_move h30 ⟨rfl, rfl⟩)))))) rfl ?_
     refine DrawP_consL (acc' := [_, _, _, _, _, _, _, _, _, _, _, _, _, _]) (eqRes _) (good0 (fun γ => Needs_f (by kernel_rfl) (fun r8 h8 => Needs_w 12 (by kernel_rfl) rfl (fun r31 h31 => Needs_nil (vopT (want_of rfl rfl h31 rfl) (V_fieldAddr VT.fa132_0 h8 ⟨rfl, rfl⟩)))))) rfl ?_
     refine DrawP_consL (acc' := [_, _, _, _, _, _, _, _, _, _, _, _, _, _, _]) (eqRes _) (good0 (fun γ => Needs_w 13 (by kernel_rfl) rfl (fun r32 h32 => Needs_w 12 (by kernel_rfl) rfl (fun r31 h31 => Needs_nil (vopT (want_of rfl rfl h31 rfl) (V_load 0 VT.ty3 h32 rfl rfl ⟨rfl, rfl⟩)))))) rfl ?_
     refine DrawP_consL (acc' := [_, _, _, _, _, _, _, _, _, _, _, _, _, _, _, _]) (eqRes _) (good0 (fun γ => Needs_f (by kernel_rfl) (fun r2 h2 => Needs_w 12 (by kernel_rfl) rfl (fun r31 h31 => Needs_nil (vopT (want_of rfl rfl h31 rfl) (V_load 2 VT.ty3 h2 rfl rfl ⟨rfl, rfl⟩)))))) rfl ?_
     refine DrawP_consL (acc' := [_, _, _, _, _, _, _, _, _, _, _, _, _, _, _, _, _]) (eqRes _) (good0 (fun γ => Needs_w 14 (by kernel_rfl) rfl (fun r33 h33 => Needs_w 15 (by kernel_rfl) rfl (fun r34 h34 => Needs_w 12 (by kernel_rfl) rfl (fun r31 h31 => Needs_nil (vopT (want_of rfl rfl h31 rfl) (V_bin h33 h34 rfl ⟨rfl, rfl⟩))))))) rfl ?_
     refine DrawP_consL (acc' := [_, _, _, _, _, _, _, _, _, _, _, _, _, _, _, _, _, _]) (eqRes _) (good0 (fun γ => Needs_w 16 (by kernel_rfl) rfl (fun r35 h35 => Needs_w 12 (by kernel_rfl) rfl (fun r31 h31 => Needs_nil (vopT (want_of rfl rfl h31 rfl) (V_move h35 ⟨rfl, rfl⟩)))))) rfl ?_
     refine DrawP_consL (acc' := [_, _, _, _, _, _, _, _, _, _, _, _, _, _, _, _, _, _, _]) (eqRes _) (good0 (fun γ => Needs_f (by kernel_rfl) (fun r4 h4 => Needs_w 17 (by kernel_rfl) rfl (fun r36 h36 => Needs_nil (vopT (want_of rfl rfl h36 hq36) (V_load 4 VT.ty135 h4 rfl rfl ⟨rfl, rfl⟩)))))) rfl ?_
     refine DrawP_consL (acc' := [_, _, _, _, _, _, _, _, _, _, _, _, _, _, _, _, _, _, _, _]) (eqRes _) (good0 (fun γ => Needs_f (by kernel_rfl) (fun r2 h2 => Needs_w 17 (by kernel_rfl) rfl (fun r36 h36 => Needs_nil (vopT (want_of rfl rfl h36 hq36) (V_load 2 VT.ty3 h2 rfl rfl ⟨rfl, rfl⟩)))))) rfl ?_
     refine DrawP_consL (acc' := [_, _, _, _, _, _, _, _, _, _, _, _, _, _, _, _, _, _, _, _, _]) (epRes _) (good0 (fun γ => Needs_w 18 (by kernel_rfl) rfl (fun r37 h37 => Needs_w 19 (by kernel_rfl) rfl (fun r38 h38 => Needs_w 17 (by kernel_rfl) rfl (fun r36 h36 => Needs_nil (vopT (want_of rfl rfl h36 hq36) (V_indexAddr (el := setV (o.at k)) VT.sl135 h37 h38 (by omega) (get_setV hk) (fun a39 => ⟨⟨_, rfl⟩, rfl⟩)))))))) rfl ?_
     refine DrawP_consL (acc' := [_, _, _, _, _, _, _, _, _, _, _, _, _, _, _, _, _, _, _, _, _, _]) (eqRes _) (good0 (fun γ => Needs_w 20 (by kernel_rfl) rfl (fun r39 h39 => Needs_w 17 (by kernel_rfl) rfl (fun r36 h36 => Needs_nil (epE h39 (fun a_39 e39 => vopT (want_of rfl rfl h36 hq36) (V_load_ep_agg VT.ty138 e39 rfl ⟨rfl, rfl⟩))))))) rfl ?_
     refine DrawP_consL (acc' := [_, _, _, _, _, _, _, _, _, _, _, _, _, _, _, _, _, _, _, _, _, _, _]) (eqRes _) (good0 (fun γ => Needs_f (by kernel_rfl) (fun r8 h8 => Needs_w 17 (by kernel_rfl) rfl (fun r36 h36 => Needs_nil (vopT (want_of rfl rfl h36 hq36) (V_fieldAddr VT.fa132_0 h8 ⟨rfl, rfl⟩)))))) rfl ?_
     refine DrawP_consL (acc' := [_, _, _, _, _, _, _, _, _, _, _, _, _, _, _, _, _, _, _, _, _, _, _, _]) (eqRes _) (good0 (fun γ => Needs_w 22 (by kernel_rfl) rfl (fun r41 h41 => Needs_w 17 (by kernel_rfl) rfl (fun r36 h36 => Needs_nil (vopT (want_of rfl rfl h36 hq36) (V_load 0 VT.ty3 h41 rfl rfl ⟨rfl, rfl⟩)))))) rfl ?_
     refine DrawP_consL (acc' := [_, _, _, _, _, _, _, _, _, _, _, _, _, _, _, _, _, _, _, _, _, _, _, _, _]) (eqRes _) (good0 (fun γ => Needs_w 21 (by kernel_rfl) rfl (fun r40 h40 => Needs_w 23 (by kernel_rfl) rfl (fun r42 h42 => Needs_w 17 (by kernel_rfl) rfl (fun r36 h36 => Needs_nil (vopT (want_of rfl rfl h36 hq36) (V_callP [.tmp 40, .tmp 42] rfl (evs_cons h40 (evs_cons h42 evs_nil)) VT.en86 (has_c (o.at k) ((dget d v).getD (0, 0)).1 (by rw [hpp]; exact hpd.1) (by rw [hpp]; exact hpd.2)) ⟨rfl, rfl⟩))))))) rfl ?_
     refine DrawP_consL (acc' := [_, _, _, _, _, _, _, _, _, _, _, _, _, _, _, _, _, _, _, _, _, _, _, _, _, _]) (eqRes _) (good0 (fun γ => Needs_w 17 (by kernel_rfl) rfl (fun r36 h36 => Needs_w 24 (by kernel_rfl) rfl (fun r43 h43 => Needs_w 12 (by kernel_rfl) rfl (fun r31 h31 => Needs_nil (vopT (want_of rfl rfl h31 rfl) (V_pickT h36 hq36 h43 ⟨rfl, rfl⟩))))))) rfl ?_
     refine DrawP_consL (acc' := [_, _, _, _, _, _, _, _, _, _, _, _, _, _, _, _, _, _, _, _, _, _, _, _, _, _, _]) (eqRes _) (good0 (fun γ => Needs_w 12 (by kernel_rfl) rfl (fun r31 h31 => Needs_w 25 (by kernel_rfl) rfl (fun r44 h44 => Needs_w 1 (by kernel_rfl) rfl (fun r20 h20 => Needs_nil (vopT (want_of rfl rfl h20 hq20) (V_pickF h31 rfl h44 ⟨rfl, rfl⟩))))))) rfl ?_
     refine DrawP_consL (acc' := [_, _, _, _, _, _, _, _, _, _, _, _, _, _, _, _, _, _, _, _, _, _, _, _, _, _, _, _]) (eqRes _) (good0 (fun γ => Needs_w 26 (by kernel_rfl) rfl (fun r45 h45 => Needs_w 1 (by kernel_rfl) rfl (fun r20 h20 => Needs_nil (vopT (want_of rfl rfl h20 hq20) (V_move h45 ⟨rfl, rfl⟩)))))) rfl ?_
     refine DrawP_consL (acc' := [_, _, _, _, _, _, _, _, _, _, _, _, _, _, _, _, _, _, _, _, _, _, _, _, _, _, _, _, _]) (eqRes _) (good0 (fun γ => Needs_f (by kernel_rfl) (fun r5 h5 => Needs_w 27 (by kernel_rfl) rfl (fun r46 h46 => Needs_nil (vopT (want_of rfl rfl h46 hq46) (V_load_agg 5 VT.ty138 h5 rfl rfl ⟨rfl, rfl⟩)))))) rfl ?_
     refine DrawP_consL (acc' := [_, _, _, _, _, _, _, _, _, _, _, _, _, _, _, _, _, _, _, _, _, _, _, _, _, _, _, _, _, _]) (eqRes _) (good0 (fun γ => Needs_f (by kernel_rfl) (fun r2 h2 => Needs_w 27 (by kernel_rfl) rfl (fun r46 h46 => Needs_nil (vopT (want_of rfl rfl h46 hq46) (V_load 2 VT.ty3 h2 rfl rfl ⟨rfl, rfl⟩)))))) rfl ?_
     refine DrawP_consL (acc' := [_, _, _, _, _, _, _, _, _, _, _, _, _, _, _, _, _, _, _, _, _, _, _, _, _, _, _, _, _, _, _]) (eqRes _) (good0 (fun γ => Needs_w 28 (by kernel_rfl) rfl (fun r47 h47 => Needs_w 29 (by kernel_rfl) rfl (fun r48 h48 => Needs_w 27 (by kernel_rfl) rfl (fun r46 h46 => Needs_nil (vopT (want_of rfl rfl h46 hq46) (V_callP [.tmp 47, .tmp 48] rfl (evs_cons h47 (evs_cons h48 evs_nil)) VT.en86 (has_n o.seen k (by omega)) ⟨rfl, rfl⟩))))))) rfl ?_
     refine DrawP_consL (acc' := [_, _, _, _, _, _, _, _, _, _, _, _, _, _, _, _, _, _, _, _, _, _, _, _, _, _, _, _, _, _, _, _]) (eqRes _) (good0 (fun γ => Needs_w 30 (by kernel_rfl) rfl (fun r49 h49 => Needs_w 27 (by kernel_rfl) rfl (fun r46 h46 => Needs_nil (vopT (want_of rfl rfl h46 hq46) (V_not h49 ⟨rfl, rfl⟩)))))) rfl ?_
     refine DrawP_consL (acc' := [_, _, _, _, _, _, _, _, _, _, _, _, _, _, _, _, _, _, _, _, _, _, _, _, _, _, _, _, _, _, _, _, _]) (eqRes _) (good0 (fun γ => Needs_w 27 (by kernel_rfl) rfl (fun r46 h46 => Needs_w 31 (by kernel_rfl) rfl (fun r50 h50 => Needs_w 1 (by kernel_rfl) rfl (fun r20 h20 => Needs_nil (vopT (want_of rfl rfl h20 hq20) (V_pickF h46 hq46 h50 ⟨rfl, rfl⟩))))))) rfl ?_
     refine DrawP_consL (acc' := [_, _, _, _, _, _, _, _, _, _, _, _, _, _, _, _, _, _, _, _, _, _, _, _, _, _, _, _, _, _, _, _, _, _]) (eqRes _) (good0 (fun γ => Needs_w 1 (by kernel_rfl) rfl (fun r20 h20 => Needs_w 32 (by kernel_rfl) rfl (fun r51 h51 => Needs_nil (vopT rfl (V_pickT h20 hq20 h51 ⟨rfl, rfl⟩)))))) rfl ?_
     refine DrawP_consL (acc' := [_, _, _, _, _, _, _, _, _, _, _, _, _, _, _, _, _, _, _, _, _, _, _, _, _, _, _, _, _, _, _, _, _, _, _]) (eqRes _) (good0 (fun γ => Needs_w 33 (by kernel_rfl) rfl (fun r52 h52 => Needs_nil (vopT rfl (V_assign h52 ⟨rfl, rfl⟩))))) rfl ?_
     refine DrawP_nil (fun γ => Needs_w 34 (by kernel_rfl) rfl (fun r7 h7 => Needs_nil ?_))
     have e7 : r7 = some _ := h7
     subst e7
     clear h7
     refine Then_n ?_
     refine VW_ret ?_
     refine VRet_one rfl (.tmp rfl) ?_
     refine ⟨congrArg V.bool ?_, Drops.drop (Drops.refl _)⟩
     rw [hr]
     try rw [hpp]
     first | (simp_all; done) | (simp_all; omega) | (rw [hpp] at *; simp_all; done)
   ·
    refine VW_draw (G := Unit) [([], [9], []), ([0], [19], []), ([1, 0], [8, 20], []), ([2, 1, 0], [21, 20], []), ([1, 0], [2, 20], []), ([4, 3, 2, 1, 0], [22, 23, 20], []), ([5, 4, 3, 2, 1, 0], [24, 20], []), ([6, 5, 4, 3, 2, 1, 0], [8, 25], []), ([7, 6, 5, 4, 3, 2, 1, 0], [26, 25], []), ([6, 5, 4, 3, 2, 1, 0], [3, 25], []), ([9, 8, 7, 6, 5, 4, 3, 2, 1, 0], [27, 28, 25], []), ([10, 9, 8, 7, 6, 5, 4, 3, 2, 1, 0], [25, 29, 20], []), ([11, 10, 9, 8, 7, 6, 5, 4, 3, 2, 1, 0], [30, 20], []), ([12, 11, 10, 9, 8, 7, 6, 5, 4, 3, 2, 1, 0], [8, 31], []), ([13, 12, 11, 10, 9, 8, 7, 6, 5, 4, 3, 2, 1, 0], [32, 31], []), ([12, 11, 10, 9, 8, 7, 6, 5, 4, 3, 2, 1, 0], [2, 31], []), ([15, 14, 13, 12, 11, 10, 9, 8, 7, 6, 5, 4, 3, 2, 1, 0], [33, 34, 31], []), ([16, 15, 14, 13, 12, 11, 10, 9, 8, 7, 6, 5, 4, 3, 2, 1, 0], [35, 31], []), ([17, 16, 15, 14, 13, 12, 11, 10, 9, 8, 7, 6, 5, 4, 3, 2, 1, 0], [4, 36], []), ([17, 16, 15, 14, 13, 12, 11, 10, 9, 8, 7, 6, 5, 4, 3, 2, 1, 0], [2, 36], []), ([19, 18, 17, 16, 15, 14, 13, 12, 11, 10, 9, 8, 7, 6, 5, 4, 3, 2, 1, 0], [37, 38, 36], []), ([20, 19, 18, 17, 16, 15, 14, 13, 12, 11, 10, 9, 8, 7, 6, 5, 4, 3, 2, 1, 0], [39, 36], []), ([17, 16, 15, 14, 13, 12, 11, 10, 9, 8, 7, 6, 5, 4, 3, 2, 1, 0], [8, 36], []), ([22, 17, 16, 15, 14, 13, 12, 11, 10, 9, 8, 7, 6, 5, 4, 3, 2, 1, 0], [41, 36], []), ([23, 22, 21, 20, 19, 18, 17, 16, 15, 14, 13, 12, 11, 10, 9, 8, 7, 6, 5, 4, 3, 2, 1, 0], [40, 42, 36], []), ([24, 23, 22, 21, 20, 19, 18, 17, 16, 15, 14, 13, 12, 11, 10, 9, 8, 7, 6, 5, 4, 3, 2, 1, 0], [36, 43, 31], []), ([25, 24, 23, 22, 21, 20, 19, 18, 17, 16, 15, 14, 13, 12, 11, 10, 9, 8, 7, 6, 5, 4, 3, 2, 1, 0], [31, 44, 20], []), ([26, 25, 24, 23, 22, 21, 20, 19, 18, 17, 16, 15, 14, 13, 12, 11, 10, 9, 8, 7, 6, 5, 4, 3, 2, 1, 0], [45, 20], []), ([27, 26, 25, 24, 23, 22, 21, 20, 19, 18, 17, 16, 15, 14, 13, 12, 11, 10, 9, 8, 7, 6, 5, 4, 3, 2, 1, 0], [5, 46], []), ([27, 26, 25, 24, 23, 22, 21, 20, 19, 18, 17, 16, 15, 14, 13, 12, 11, 10, 9, 8, 7, 6, 5, 4, 3, 2, 1, 0], [2, 46], []), ([29, 28, 27, 26, 25, 24, 23, 22, 21, 20, 19, 18, 17, 16, 15, 14, 13, 12, 11, 10, 9, 8, 7, 6, 5, 4, 3, 2, 1, 0], [47, 48, 46], []), ([30, 29, 28, 27, 26, 25, 24, 23, 22, 21, 20, 19, 18, 17, 16, 15, 14, 13, 12, 11, 10, 9, 8, 7, 6, 5, 4, 3, 2, 1, 0], [49, 46], []), ([31, 30, 29, 28, 27, 26, 25, 24, 23, 22, 21, 20, 19, 18, 17, 16, 15, 14, 13, 12, 11, 10, 9, 8, 7, 6, 5, 4, 3, 2, 1, 0], [46, 50, 20], []), ([32, 31, 30, 29, 28, 27, 26, 25, 24, 23, 22, 21, 20, 19, 18, 17, 16, 15, 14, 13, 12, 11, 10, 9, 8, 7, 6, 5, 4, 3, 2, 1, 0], [20, 51], []), ([33, 32, 31, 30, 29, 28, 27, 26, 25, 24, 23, 22, 21, 20, 19, 18, 17, 16, 15, 14, 13, 12, 11, 10, 9, 8, 7, 6, 5, 4, 3, 2, 1, 0], [52], [])] [] (constSt _) [7] [7, 19, 20, 21, 22, 23, 24, 25, 26, 27, 28, 29, 30, 31, 32, 33, 34, 35, 36, 37, 38, 39, 40, 41, 42, 43, 44, 45, 46, 47, 48, 49, 50, 51, 52] rfl VT.mix (by kernel_rfl) (by kernel_rfl) ?_
    refine DrawP_consL (acc' := [_]) (eqRes _) (good0 (fun γ => Needs_f (by kernel_rfl) (fun r9 h9 => Needs_nil (vopT rfl (V_move h9 ⟨rfl, rfl⟩))))) rfl ?_
    refine DrawP_consL (acc' := [_, _]) (eqRes _) (good0 (fun γ => Needs_w 0 (by kernel_rfl) rfl (fun r19 h19 => Needs_nil (vopT rfl (V_move h19 ⟨rfl, rfl⟩))))) rfl ?_
    refine DrawP_consL (acc' := [_, _, _]) (eqRes _) (good0 (fun γ => Needs_f (by kernel_rfl) (fun r8 h8 => Needs_w 1 (by kernel_rfl) rfl (fun r20 h20 => Needs_nil (vopT (want_of rfl rfl h20 hq20) (V_fieldAddr VT.fa132_0 h8 ⟨rfl, rfl⟩)))))) rfl ?_
    refine DrawP_consL (acc' := [_, _, _, _]) (eqRes _) (good0 (fun γ => Needs_w 2 (by kernel_rfl) rfl (fun r21 h21 => Needs_w 1 (by kernel_rfl) rfl (fun r20 h20 => Needs_nil (vopT (want_of rfl rfl h20 hq20) (V_load 0 VT.ty3 h21 rfl rfl ⟨rfl, rfl⟩)))))) rfl ?_
    refine DrawP_consL (acc' := [_, _, _, _, _]) (eqRes _) (good0 (fun γ => Needs_f (by kernel_rfl) (fun r2 h2 => Needs_w 1 (by kernel_rfl) rfl (fun r20 h20 => Needs_nil (vopT (want_of rfl rfl h20 hq20) (V_load 2 VT.ty3 h2 rfl rfl ⟨rfl, rfl⟩)))))) rfl ?_
    refine DrawP_consL (acc' := [_, _, _, _, _, _]) (eqRes _) (good0 (fun γ => Needs_w 3 (by kernel_rfl) rfl (fun r22 h22 => Needs_w 4 (by kernel_rfl) rfl (fun r23 h23 => Needs_w 1 (by kernel_rfl) rfl (fun r20 h20 => Needs_nil (vopT (want_of rfl rfl h20 hq20) (V_bin h22 h23 rfl ⟨rfl, rfl⟩))))))) rfl ?_
    refine DrawP_consL (acc' := [_, _, _, _, _, _, _]) (eqRes _) (good0 (fun γ => Needs_w 5 (by kernel_rfl) rfl (fun r24 h24 => Needs_w 1 (by kernel_rfl) rfl (fun r20 h20 => Needs_nil (vopT (want_of rfl rfl h20 hq20) (V_move h24 ⟨rfl, rfl⟩)))))) rfl ?_
    refine DrawP_consL (acc' := [_, _, _, _, _, _, _, _]) (eqRes _) (good0 (fun γ => Needs_f (by kernel_rfl) (fun r8 h8 => Needs_w 6 (by kernel_rfl) rfl (fun r25 h25 => Needs_nil (vopF (skip_of rfl rfl h25 hq25) ⟨rfl, rfl⟩))))) rfl ?_
    refine DrawP_consL (acc' := [_, _, _, _, _, _, _, _, _]) (eqRes _) (good0 (fun γ => Needs_w 7 (by kernel_rfl) rfl (fun r26 h26 => Needs_w 6 (by kernel_rfl) rfl (fun r25 h25 => Needs_nil (vopF (skip_of rfl rfl h25 hq25) ⟨rfl, rfl⟩))))) rfl ?_
    refine DrawP_consL (acc' := [_, _, _, _, _, _, _, _, _, _]) (eqRes _) (good0 (fun γ => Needs_f (by kernel_rfl) (fun r3 h3 => Needs_w 6 (by kernel_rfl) rfl (fun r25 h25 => Needs_nil (vopF (skip_of rfl rfl h25 hq25) ⟨rfl, rfl⟩))))) rfl ?_
    refine DrawP_consL (acc' := [_, _, _, _, _, _, _, _, _, _, _]) (eqRes _) (good0 (fun γ => Needs_w 8 (by kernel_rfl) rfl (fun r27 h27 => Needs_w 9 (by kernel_rfl) rfl (fun r28 h28 => Needs_w 6 (by kernel_rfl) rfl (fun r25 h25 => Needs_nil (vopF (skip_of rfl rfl h25 hq25) ⟨rfl, rfl⟩)))))) rfl ?_
    refine DrawP_consL (acc' := [_, _, _, _, _, _, _, _, _, _, _, _]) (eqRes _) (good0 (fun γ => Needs_w 6 (by kernel_rfl) rfl (fun r25 h25 => Needs_w 10 (by kernel_rfl) rfl (fun r29 h29 => Needs_w 1 (by kernel_rfl) rfl (fun r20 h20 => Needs_nil (vopT (want_of rfl rfl h20 hq20) (V_pickF h25 hq25 rfl ⟨rfl, rfl⟩))))))) rfl ?_
    refine DrawP_consL (acc' := [_, _, _, _, _, _, _, _, _, _, _, _, _]) (eqRes _) (good0 (fun γ => Needs_w 11 (by kernel_rfl) rfl (fun r30 h30 => Needs_w 1 (by kernel_rfl) rfl (fun r20 h20 => Needs_nil (vopT (want_of rfl rfl h20 hq20) (V_move h30 ⟨rfl, rfl⟩)))))) rfl ?_
    refine DrawP_consL (acc' := [_, _, _, _, _, _, _, _, _, _, _, _, _, _]) (eqRes _) (good0 (fun γ => Needs_f (by kernel_rfl) (fun r8 h8 => Needs_w 12 (by kernel_rfl) rfl (fun r31 h31 => Needs_nil (vopT (want_of rfl rfl h31 rfl) (V_fieldAddr VT.fa132_0 h8 ⟨rfl, rfl⟩)))))) rfl ?_
    refine DrawP_consL (acc' := [_, _, _, _, _, _, _, _, _, _, _, _, _, _, _]) (eqRes _) (good0 (fun γ => Needs_w 13 (by kernel_rfl) rfl (fun r32 h32 => Needs_w 12 (by kernel_rfl) rfl (fun r31 h31 => Needs_nil (vopT (want_of rfl rfl h31 rfl) (V_load 0 VT.ty3 h32 rfl rfl ⟨rfl, rfl⟩)))))) rfl ?_
    refine DrawP_consL (acc' := [_, _, _, _, _, _, _, _, _, _, _, _, _, _, _, _]) (eqRes _) (good0 (fun γ => Needs_f (by kernel_rfl) (fun r2 h2 => Needs_w 12 (by kernel_rfl) rfl (fun r31 h31 => Needs_nil (vopT (want_of rfl rfl h31 rfl) (V_load 2 VT.ty3 h2 rfl rfl ⟨rfl, rfl⟩)))))) rfl ?_
    refine DrawP_consL (acc' := [_, _, _, _, _, _, _, _, _, _, _, _, _, _, _, _, _]) (eqRes _) (good0 (fun γ => Needs_w 14 (by kernel_rfl) rfl (fun r33 h33 => Needs_w 15 (by kernel_rfl) rfl (fun r34 h34 => Needs_w 12 (by kernel_rfl) rfl (fun r31 h31 => Needs_nil (vopT (want_of rfl rfl h31 rfl) (V_bin h33 h34 rfl ⟨rfl, rfl⟩))))))) rfl ?_
    refine DrawP_consL (acc' := [_, _, _, _, _, _, _, _, _, _, _, _, _, _, _, _, _, _]) (eqRes _) (good0 (fun γ => Needs_w 16 (by kernel_rfl) rfl (fun r35 h35 => Needs_w 12 (by kernel_rfl) rfl (fun r31 h31 => Needs_nil (vopT (want_of rfl rfl h31 rfl) (V_move h35 ⟨rfl, rfl⟩)))))) rfl ?_
    refine DrawP_consL (acc' := [_, _, _, _, _, _, _, _, _, _, _, _, _, _, _, _, _, _, _]) (eqRes _) (good0 (fun γ => Needs_f (by kernel_rfl) (fun r4 h4 => Needs_w 17 (by kernel_rfl) rfl (fun r36 h36 => Needs_nil (vopF (skip_of rfl rfl h36 hq36) ⟨rfl, rfl⟩))))) rfl ?_
    refine DrawP_consL (acc' := [_, _, _, _, _, _, _, _, _, _, _, _, _, _, _, _, _, _, _, _]) (eqRes _) (good0 (fun γ => Needs_f (by kernel_rfl) (fun r2 h2 => Needs_w 17 (by kernel_rfl) rfl (fun r36 h36 => Needs_nil (vopF (skip_of rfl rfl h36 hq36) ⟨rfl, rfl⟩))))) rfl ?_
    refine DrawP_consL (acc' := [_, _, _, _, _, _, _, _, _, _, _, _, _, _, _, _, _, _, _, _, _]) (eqRes _) (good0 (fun γ => Needs_w 18 (by kernel_rfl) rfl (fun r37 h37 => Needs_w 19 (by kernel_rfl) rfl (fun r38 h38 => Needs_w 17 (by kernel_rfl) rfl (fun r36 h36 => Needs_nil (vopF (skip_of rfl rfl h36 hq36) ⟨rfl, rfl⟩)))))) rfl ?_
    refine DrawP_consL (acc' := [_, _, _, _, _, _, _, _, _, _, _, _, _, _, _, _, _, _, _, _, _, _]) (eqRes _) (good0 (fun γ => Needs_w 20 (by kernel_rfl) rfl (fun r39 h39 => Needs_w 17 (by kernel_rfl) rfl (fun r36 h36 => Needs_nil (vopF (skip_of rfl rfl h36 hq36) ⟨rfl, rfl⟩))))) rfl ?_
    refine DrawP_consL (acc' := [_, _, _, _, _, _, _, _, _, _, _, _, _, _, _, _, _, _, _, _, _, _, _]) (eqRes _) (good0 (fun γ => Needs_f (by kernel_rfl) (fun r8 h8 => Needs_w 17 (by kernel_rfl) rfl (fun r36 h36 => Needs_nil (vopF (skip_of rfl rfl h36 hq36) ⟨rfl, rfl⟩))))) rfl ?_
    refine DrawP_consL (acc' := [_, _, _, _, _, _, _, _, _, _, _, _, _, _, _, _, _, _, _, _, _, _, _, _]) (eqRes _) (good0 (fun γ => Needs_w 22 (by kernel_rfl) rfl (fun r41 h41 => Needs_w 17 (by kernel_rfl) rfl (fun r36 h36 => Needs_nil (vopF (skip_of rfl rfl h36 hq36) ⟨rfl, rfl⟩))))) rfl ?_
    refine DrawP_consL (acc' := [_, _, _, _, _, _, _, _, _, _, _, _, _, _, _, _, _, _, _, _, _, _, _, _, _]) (eqRes _) (good0 (fun γ => Needs_w 21 (by kernel_rfl) rfl (fun r40 h40 => Needs_w 23 (by kernel_rfl) rfl (fun r42 h42 => Needs_w 17 (by kernel_rfl) rfl (fun r36 h36 => Needs_nil (vopF (skip_of rfl rfl h36 hq36) ⟨rfl, rfl⟩)))))) rfl ?_
    refine DrawP_consL (acc' := [_, _, _, _, _, _, _, _, _, _, _, _, _, _, _, _, _, _, _, _, _, _, _, _, _, _]) (eqRes _) (good0 (fun γ => Needs_w 17 (by kernel_rfl) rfl (fun r36 h36 => Needs_w 24 (by kernel_rfl) rfl (fun r43 h43 => Needs_w 12 (by kernel_rfl) rfl (fun r31 h31 => Needs_nil (vopT (want_of rfl rfl h31 rfl) (V_pickF h36 hq36 rfl ⟨rfl, rfl⟩))))))) rfl ?_
    refine DrawP_consL (acc' := [_, _, _, _, _, _, _, _, _, _, _, _, _, _, _, _, _, _, _, _, _, _, _, _, _, _, _]) (eqRes _) (good0 (fun γ => Needs_w 12 (by kernel_rfl) rfl (fun r31 h31 => Needs_w 25 (by kernel_rfl) rfl (fun r44 h44 => Needs_w 1 (by kernel_rfl) rfl (fun r20 h20 => Needs_nil (vopT (want_of rfl rfl h20 hq20) (V_pickF h31 rfl h44 ⟨rfl, rfl⟩))))))) rfl ?_
    refine DrawP_consL (acc' := [_, _, _, _, _, _, _, _, _, _, _, _, _, _, _, _, _, _, _, _, _, _, _, _, _, _, _, _]) (eqRes _) (good0 (fun γ => Needs_w 26 (by kernel_rfl) rfl (fun r45 h45 => Needs_w 1 (by kernel_rfl) rfl (fun r20 h20 => Needs_nil (vopT (want_of rfl rfl h20 hq20) (V_move h45 ⟨rfl, rfl⟩)))))) rfl ?_
    refine DrawP_consL (acc' := [_, _, _, _, _, _, _, _, _, _, _, _, _, _, _, _, _, _, _, _, _, _, _, _, _, _, _, _, _]) (eqRes _) (good0 (fun γ => Needs_f (by kernel_rfl) (fun r5 h5 => Needs_w 27 (by kernel_rfl) rfl (fun r46 h46 => Needs_nil (vopT (want_of rfl rfl h46 rfl) (V_load_agg 5 VT.ty138 h5 rfl rfl ⟨rfl, rfl⟩)))))) rfl ?_
    refine DrawP_consL (acc' := [_, _, _, _, _, _, _, _, _, _, _, _, _, _, _, _, _, _, _, _, _, _, _, _, _, _, _, _, _, _]) (eqRes _) (good0 (fun γ => Needs_f (by kernel_rfl) (fun r2 h2 => Needs_w 27 (by kernel_rfl) rfl (fun r46 h46 => Needs_nil (vopT (want_of rfl rfl h46 rfl) (V_load 2 VT.ty3 h2 rfl rfl ⟨rfl, rfl⟩)))))) rfl ?_
    refine DrawP_consL (acc' := [_, _, _, _, _, _, _, _, _, _, _, _, _, _, _, _, _, _, _, _, _, _, _, _, _, _, _, _, _, _, _]) (eqRes _) (good0 (fun γ => Needs_w 28 (by kernel_rfl) rfl (fun r47 h47 => Needs_w 29 (by kernel_rfl) rfl (fun r48 h48 => Needs_w 27 (by kernel_rfl) rfl (fun r46 h46 => Needs_nil (vopT (want_of rfl rfl h46 rfl) (V_callP [.tmp 47, .tmp 48] rfl (evs_cons h47 (evs_cons h48 evs_nil)) VT.en86 (has_n o.seen k (by omega)) ⟨rfl, rfl⟩))))))) rfl ?_
    refine DrawP_consL (acc' := [_, _, _, _, _, _, _, _, _, _, _, _, _, _, _, _, _, _, _, _, _, _, _, _, _, _, _, _, _, _, _, _]) (eqRes _) (good0 (fun γ => Needs_w 30 (by kernel_rfl) rfl (fun r49 h49 => Needs_w 27 (by kernel_rfl) rfl (fun r46 h46 => Needs_nil (vopT (want_of rfl rfl h46 rfl) (V_not h49 ⟨rfl, rfl⟩)))))) rfl ?_
    refine DrawP_consL (acc' := [_, _, _, _, _, _, _, _, _, _, _, _, _, _, _, _, _, _, _, _, _, _, _, _, _, _, _, _, _, _, _, _, _]) (eqRes _) (good0 (fun γ => Needs_w 27 (by kernel_rfl) rfl (fun r46 h46 => Needs_w 31 (by kernel_rfl) rfl (fun r50 h50 => Needs_w 1 (by kernel_rfl) rfl (fun r20 h20 => Needs_nil (vopT (want_of rfl rfl h20 hq20) (V_pickF h46 rfl h50 ⟨rfl, rfl⟩))))))) rfl ?_
    refine DrawP_consL (acc' := [_, _, _, _, _, _, _, _, _, _, _, _, _, _, _, _, _, _, _, _, _, _, _, _, _, _, _, _, _, _, _, _, _, _]) (eqRes _) (good0 (fun γ => Needs_w 1 (by kernel_rfl) rfl (fun r20 h20 => Needs_w 32 (by kernel_rfl) rfl (fun r51 h51 => Needs_nil (vopT rfl (V_pickT h20 hq20 h51 ⟨rfl, rfl⟩)))))) rfl ?_
    refine DrawP_consL (acc' := [_, _, _, _, _, _, _, _, _, _, _, _, _, _, _, _, _, _, _, _, _, _, _, _, _, _, _, _, _, _, _, _, _, _, _]) (eqRes _) (good0 (fun γ => Needs_w 33 (by kernel_rfl) rfl (fun r52 h52 => Needs_nil (vopT rfl (V_assign h52 ⟨rfl, rfl⟩))))) rfl ?_
    refine DrawP_nil (fun γ => Needs_w 34 (by kernel_rfl) rfl (fun r7 h7 => Needs_nil ?_))
    have e7 : r7 = some _ := h7
    subst e7
    clear h7
    refine Then_n ?_
    refine VW_ret ?_
    refine VRet_one rfl (.tmp rfl) ?_
    refine ⟨congrArg V.bool ?_, Drops.drop (Drops.refl _)⟩
    rw [hr]
    try rw [hpp]
    first | (simp_all; done) | (simp_all; omega) | (rw [hpp] at *; simp_all; done)
 ·
  refine VW_draw (G := Unit) [([], [9], []), ([0], [19], []), ([1, 0], [8, 20], []), ([2, 1, 0], [21, 20], []), ([1, 0], [2, 20], []), ([4, 3, 2, 1, 0], [22, 23, 20], []), ([5, 4, 3, 2, 1, 0], [24, 20], []), ([6, 5, 4, 3, 2, 1, 0], [8, 25], []), ([7, 6, 5, 4, 3, 2, 1, 0], [26, 25], []), ([6, 5, 4, 3, 2, 1, 0], [3, 25], []), ([9, 8, 7, 6, 5, 4, 3, 2, 1, 0], [27, 28, 25], []), ([10, 9, 8, 7, 6, 5, 4, 3, 2, 1, 0], [25, 29, 20], []), ([11, 10, 9, 8, 7, 6, 5, 4, 3, 2, 1, 0], [30, 20], []), ([12, 11, 10, 9, 8, 7, 6, 5, 4, 3, 2, 1, 0], [8, 31], []), ([13, 12, 11, 10, 9, 8, 7, 6, 5, 4, 3, 2, 1, 0], [32, 31], []), ([12, 11, 10, 9, 8, 7, 6, 5, 4, 3, 2, 1, 0], [2, 31], []), ([15, 14, 13, 12, 11, 10, 9, 8, 7, 6, 5, 4, 3, 2, 1, 0], [33, 34, 31], []), ([16, 15, 14, 13, 12, 11, 10, 9, 8, 7, 6, 5, 4, 3, 2, 1, 0], [35, 31], []), ([17, 16, 15, 14, 13, 12, 11, 10, 9, 8, 7, 6, 5, 4, 3, 2, 1, 0], [4, 36], []), ([17, 16, 15, 14, 13, 12, 11, 10, 9, 8, 7, 6, 5, 4, 3, 2, 1, 0], [2, 36], []), ([19, 18, 17, 16, 15, 14, 13, 12, 11, 10, 9, 8, 7, 6, 5, 4, 3, 2, 1, 0], [37, 38, 36], []), ([20, 19, 18, 17, 16, 15, 14, 13, 12, 11, 10, 9, 8, 7, 6, 5, 4, 3, 2, 1, 0], [39, 36], []), ([17, 16, 15, 14, 13, 12, 11, 10, 9, 8, 7, 6, 5, 4, 3, 2, 1, 0], [8, 36], []), ([22, 17, 16, 15, 14, 13, 12, 11, 10, 9, 8, 7, 6, 5, 4, 3, 2, 1, 0], [41, 36], []), ([23, 22, 21, 20, 19, 18, 17, 16, 15, 14, 13, 12, 11, 10, 9, 8, 7, 6, 5, 4, 3, 2, 1, 0], [40, 42, 36], []), ([24, 23, 22, 21, 20, 19, 18, 17, 16, 15, 14, 13, 12, 11, 10, 9, 8, 7, 6, 5, 4, 3, 2, 1, 0], [36, 43, 31], []), ([25, 24, 23, 22, 21, 20, 19, 18, 17, 16, 15, 14, 13, 12, 11, 10, 9, 8, 7, 6, 5, 4, 3, 2, 1, 0], [31, 44, 20], []), ([26, 25, 24, 23, 22, 21, 20, 19, 18, 17, 16, 15, 14, 13, 12, 11, 10, 9, 8, 7, 6, 5, 4, 3, 2, 1, 0], [45, 20], []), ([27, 26, 25, 24, 23, 22, 21, 20, 19, 18, 17, 16, 15, 14, 13, 12, 11, 10, 9, 8, 7, 6, 5, 4, 3, 2, 1, 0], [5, 46], []), ([27, 26, 25, 24, 23, 22, 21, 20, 19, 18, 17, 16, 15, 14, 13, 12, 11, 10, 9, 8, 7, 6, 5, 4, 3, 2, 1, 0], [2, 46], []), ([29, 28, 27, 26, 25, 24, 23, 22, 21, 20, 19, 18, 17, 16, 15, 14, 13, 12, 11, 10, 9, 8, 7, 6, 5, 4, 3, 2, 1, 0], [47, 48, 46], []), ([30, 29, 28, 27, 26, 25, 24, 23, 22, 21, 20, 19, 18, 17, 16, 15, 14, 13, 12, 11, 10, 9, 8, 7, 6, 5, 4, 3, 2, 1, 0], [49, 46], []), ([31, 30, 29, 28, 27, 26, 25, 24, 23, 22, 21, 20, 19, 18, 17, 16, 15, 14, 13, 12, 11, 10, 9, 8, 7, 6, 5, 4, 3, 2, 1, 0], [46, 50, 20], []), ([32, 31, 30, 29, 28, 27, 26, 25, 24, 23, 22, 21, 20, 19, 18, 17, 16, 15, 14, 13, 12, 11, 10, 9, 8, 7, 6, 5, 4, 3, 2, 1, 0], [20, 51], []), ([33, 32, 31, 30, 29, 28, 27, 26, 25, 24, 23, 22, 21, 20, 19, 18, 17, 16, 15, 14, 13, 12, 11, 10, 9, 8, 7, 6, 5, 4, 3, 2, 1, 0], [52], [])] [] (constSt _) [7] [7, 19, 20, 21, 22, 23, 24, 25, 26, 27, 28, 29, 30, 31, 32, 33, 34, 35, 36, 37, 38, 39, 40, 41, 42, 43, 44, 45, 46, 47, 48, 49, 50, 51, 52] rfl VT.mix (by kernel_rfl) (by kernel_rfl) ?_
  refine DrawP_consL (acc' := [_]) (eqRes _) (good0 (fun γ => Needs_f (by kernel_rfl) (fun r9 h9 => Needs_nil (vopT rfl (V_move h9 ⟨rfl, rfl⟩))))) rfl ?_
  refine DrawP_consL (acc' := [_, _]) (eqRes _) (good0 (fun γ => Needs_w 0 (by kernel_rfl) rfl (fun r19 h19 => Needs_nil (vopT rfl (V_move h19 ⟨rfl, rfl⟩))))) rfl ?_
  refine DrawP_consL (acc' := [_, _, _]) (eqRes _) (good0 (fun γ => Needs_f (by kernel_rfl) (fun r8 h8 => Needs_w 1 (by kernel_rfl) rfl (fun r20 h20 => Needs_nil (vopF (skip_of rfl rfl h20 hq20) ⟨rfl, rfl⟩))))) rfl ?_
  refine DrawP_consL (acc' := [_, _, _, _]) (eqRes _) (good0 (fun γ => Needs_w 2 (by kernel_rfl) rfl (fun r21 h21 => Needs_w 1 (by kernel_rfl) rfl (fun r20 h20 => Needs_nil (vopF (skip_of rfl rfl h20 hq20) ⟨rfl, rfl⟩))))) rfl ?_
  refine DrawP_consL (acc' := [_, _, _, _, _]) (eqRes _) (good0 (fun γ => Needs_f (by kernel_rfl) (fun r2 h2 => Needs_w 1 (by kernel_rfl) rfl (fun r20 h20 => Needs_nil (vopF (skip_of rfl rfl h20 hq20) ⟨rfl, rfl⟩))))) rfl ?_
  refine DrawP_consL (acc' := [_, _, _, _, _, _]) (eqRes _) (good0 (fun γ => Needs_w 3 (by kernel_rfl) rfl (fun r22 h22 => Needs_w 4 (by kernel_rfl) rfl (fun r23 h23 => Needs_w 1 (by kernel_rfl) rfl (fun r20 h20 => Needs_nil (vopF (skip_of rfl rfl h20 hq20) ⟨rfl, rfl⟩)))))) rfl ?_
  refine DrawP_consL (acc' := [_, _, _, _, _, _, _]) (eqRes _) (good0 (fun γ => Needs_w 5 (by kernel_rfl) rfl (fun r24 h24 => Needs_w 1 (by kernel_rfl) rfl (fun r20 h20 => Needs_nil (vopF (skip_of rfl rfl h20 hq20) ⟨rfl, rfl⟩))))) rfl ?_
  refine DrawP_consL (acc' := [_, _, _, _, _, _, _, _]) (eqRes _) (good0 (fun γ => Needs_f (by kernel_rfl) (fun r8 h8 => Needs_w 6 (by kernel_rfl) rfl (fun r25 h25 => Needs_nil (vopU rfl rfl h25 ⟨rfl, rfl⟩))))) rfl ?_
  refine DrawP_consL (acc' := [_, _, _, _, _, _, _, _, _]) (eqRes _) (good0 (fun γ => Needs_w 7 (by kernel_rfl) rfl (fun r26 h26 => Needs_w 6 (by kernel_rfl) rfl (fun r25 h25 => Needs_nil (vopU rfl rfl h25 ⟨rfl, rfl⟩))))) rfl ?_
  refine DrawP_consL (acc' := [_, _, _, _, _, _, _, _, _, _]) (eqRes _) (good0 (fun γ => Needs_f (by kernel_rfl) (fun r3 h3 => Needs_w 6 (by kernel_rfl) rfl (fun r25 h25 => Needs_nil (vopU rfl rfl h25 ⟨rfl, rfl⟩))))) rfl ?_
  refine DrawP_consL (acc' := [_, _, _, _, _, _, _, _, _, _, _]) (eqRes _) (good0 (fun γ => Needs_w 8 (by kernel_rfl) rfl (fun r27 h27 => Needs_w 9 (by kernel_rfl) rfl (fun r28 h28 => Needs_w 6 (by kernel_rfl) rfl (fun r25 h25 => Needs_nil (vopU rfl rfl h25 ⟨rfl, rfl⟩)))))) rfl ?_
  refine DrawP_consL (acc' := [_, _, _, _, _, _, _, _, _, _, _, _]) (eqRes _) (good0 (fun γ => Needs_w 6 (by kernel_rfl) rfl (fun r25 h25 => Needs_w 10 (by kernel_rfl) rfl (fun r29 h29 => Needs_w 1 (by kernel_rfl) rfl (fun r20 h20 => Needs_nil (vopF (skip_of rfl rfl h20 hq20) ⟨rfl, rfl⟩)))))) rfl ?_
  refine DrawP_consL (acc' := [_, _, _, _, _, _, _, _, _, _, _, _, _]) (eqRes _) (good0 (fun γ => Needs_w 11 (by kernel_rfl) rfl (fun r30 h30 => Needs_w 1 (by kernel_rfl) rfl (fun r20 h20 => Needs_nil (vopF (skip_of rfl rfl h20 hq20) ⟨rfl, rfl⟩))))) rfl ?_
  refine DrawP_consL (acc' := [_, _, _, _, _, _, _, _, _, _, _, _, _, _]) (eqRes _) (good0 (fun γ => Needs_f (by kernel_rfl) (fun r8 h8 => Needs_w 12 (by kernel_rfl) rfl (fun r31 h31 => Needs_nil (vopU rfl rfl h31 ⟨rfl, rfl⟩))))) rfl ?_
  refine DrawP_consL (acc' := [_, _, _, _, _, _, _, _, _, _, _, _, _, _, _]) (eqRes _) (good0 (fun γ => Needs_w 13 (by kernel_rfl) rfl (fun r32 h32 => Needs_w 12 (by kernel_rfl) rfl (fun r31 h31 => Needs_nil (vopU rfl rfl h31 ⟨rfl, rfl⟩))))) rfl ?_
  refine DrawP_consL (acc' := [_, _, _, _, _, _, _, _, _, _, _, _, _, _, _, _]) (eqRes _) (good0 (fun γ => Needs_f (by kernel_rfl) (fun r2 h2 => Needs_w 12 (by kernel_rfl) rfl (fun r31 h31 => Needs_nil (vopU rfl rfl h31 ⟨rfl, rfl⟩))))) rfl ?_
  refine DrawP_consL (acc' := [_, _, _, _, _, _, _, _, _, _, _, _, _, _, _, _, _]) (eqRes _) (good0 (fun γ => Needs_w 14 (by kernel_rfl) rfl (fun r33 h33 => Needs_w 15 (by kernel_rfl) rfl (fun r34 h34 => Needs_w 12 (by kernel_rfl) rfl (fun r31 h31 => Needs_nil (vopU rfl rfl h31 ⟨rfl, rfl⟩)))))) rfl ?_
  refine DrawP_consL (acc' := [_, _, _, _, _, _, _, _, _, _, _, _, _, _, _, _, _, _]) (eqRes _) (good0 (fun γ => Needs_w 16 (by kernel_rfl) rfl (fun r35 h35 => Needs_w 12 (by kernel_rfl) rfl (fun r31 h31 => Needs_nil (vopU rfl rfl h31 ⟨rfl, rfl⟩))))) rfl ?_
  refine DrawP_consL (acc' := [_, _, _, _, _, _, _, _, _, _, _, _, _, _, _, _, _, _, _]) (eqRes _) (good0 (fun γ => Needs_f (by kernel_rfl) (fun r4 h4 => Needs_w 17 (by kernel_rfl) rfl (fun r36 h36 => Needs_nil (vopU rfl rfl h36 ⟨rfl, rfl⟩))))) rfl ?_
  refine DrawP_consL (acc' := [_, _, _, _, _, _, _, _, _, _, _, _, _, _, _, _, _, _, _, _]) (eqRes _) (good0 (fun γ => Needs_f (by kernel_rfl) (fun r2 h2 => Needs_w 17 (by kernel_rfl) rfl (fun r36 h36 => Needs_nil (vopU rfl rfl h36 ⟨rfl, rfl⟩))))) rfl ?_
  refine DrawP_consL (acc' := [_, _, _, _, _, _, _, _, _, _, _, _, _, _, _, _, _, _, _, _, _]) (eqRes _) (good0 (fun γ => Needs_w 18 (by kernel_rfl) rfl (fun r37 h37 => Needs_w 19 (by kernel_rfl) rfl (fun r38 h38 => Needs_w 17 (by kernel_rfl) rfl (fun r36 h36 => Needs_nil (vopU rfl rfl h36 ⟨rfl, rfl⟩)))))) rfl ?_
  refine DrawP_consL (acc' := [_, _, _, _, _, _, _, _, _, _, _, _, _, _, _, _, _, _, _, _, _, _]) (eqRes _) (good0 (fun γ => Needs_w 20 (by kernel_rfl) rfl (fun r39 h39 => Needs_w 17 (by kernel_rfl) rfl (fun r36 h36 => Needs_nil (vopU rfl rfl h36 ⟨rfl, rfl⟩))))) rfl ?_
  refine DrawP_consL (acc' := [_, _, _, _, _, _, _, _, _, _, _, _, _, _, _, _, _, _, _, _, _, _, _]) (eqRes _) (good0 (fun γ => Needs_f (by kernel_rfl) (fun r8 h8 => Needs_w 17 (by kernel_rfl) rfl (fun r36 h36 => Needs_nil (vopU rfl rfl h36 ⟨rfl, rfl⟩))))) rfl ?_
  refine DrawP_consL (acc' := [_, _, _, _, _, _, _, _, _, _, _, _, _, _, _, _, _, _, _, _, _, _, _, _]) (eqRes _) (good0 (fun γ => Needs_w 22 (by kernel_rfl) rfl (fun r41 h41 => Needs_w 17 (by kernel_rfl) rfl (fun r36 h36 => Needs_nil (vopU rfl rfl h36 ⟨rfl, rfl⟩))))) rfl ?_
  refine DrawP_consL (acc' := [_, _, _, _, _, _, _, _, _, _, _, _, _, _, _, _, _, _, _, _, _, _, _, _, _]) (eqRes _) (good0 (fun γ => Needs_w 21 (by kernel_rfl) rfl (fun r40 h40 => Needs_w 23 (by kernel_rfl) rfl (fun r42 h42 => Needs_w 17 (by kernel_rfl) rfl (fun r36 h36 => Needs_nil (vopU rfl rfl h36 ⟨rfl, rfl⟩)))))) rfl ?_
  refine DrawP_consL (acc' := [_, _, _, _, _, _, _, _, _, _, _, _, _, _, _, _, _, _, _, _, _, _, _, _, _, _]) (eqRes _) (good0 (fun γ => Needs_w 17 (by kernel_rfl) rfl (fun r36 h36 => Needs_w 24 (by kernel_rfl) rfl (fun r43 h43 => Needs_w 12 (by kernel_rfl) rfl (fun r31 h31 => Needs_nil (vopU rfl rfl h31 ⟨rfl, rfl⟩)))))) rfl ?_
  refine DrawP_consL (acc' := [_, _, _, _, _, _, _, _, _, _, _, _, _, _, _, _, _, _, _, _, _, _, _, _, _, _, _]) (eqRes _) (good0 (fun γ => Needs_w 12 (by kernel_rfl) rfl (fun r31 h31 => Needs_w 25 (by kernel_rfl) rfl (fun r44 h44 => Needs_w 1 (by kernel_rfl) rfl (fun r20 h20 => Needs_nil (vopF (skip_of rfl rfl h20 hq20) ⟨rfl, rfl⟩)))))) rfl ?_
  refine DrawP_consL (acc' := [_, _, _, _, _, _, _, _, _, _, _, _, _, _, _, _, _, _, _, _, _, _, _, _, _, _, _, _]) (eqRes _) (good0 (fun γ => Needs_w 26 (by kernel_rfl) rfl (fun r45 h45 => Needs_w 1 (by kernel_rfl) rfl (fun r20 h20 => Needs_nil (vopF (skip_of rfl rfl h20 hq20) ⟨rfl, rfl⟩))))) rfl ?_
  refine DrawP_consL (acc' := [_, _, _, _, _, _, _, _, _, _, _, _, _, _, _, _, _, _, _, _, _, _, _, _, _, _, _, _, _]) (eqRes _) (good0 (fun γ => Needs_f (by kernel_rfl) (fun r5 h5 => Needs_w 27 (by kernel_rfl) rfl (fun r46 h46 => Needs_nil (vopU rfl rfl h46 ⟨rfl, rfl⟩))))) rfl ?_
  refine DrawP_consL (acc' := [_, _, _, _, _, _, _, _, _, _, _, _, _, _, _, _, _, _, _, _, _, _, _, _, _, _, _, _, _, _]) (eqRes _) (good0 (fun γ => Needs_f (by kernel_rfl) (fun r2 h2 => Needs_w 27 (by kernel_rfl) rfl (fun r46 h46 => Needs_nil (vopU rfl rfl h46 ⟨rfl, rfl⟩))))) rfl ?_
  refine DrawP_consL (acc' := [_, _, _, _, _, _, _, _, _, _, _, _, _, _, _, _, _, _, _, _, _, _, _, _, _, _, _, _, _, _, _]) (eqRes _) (good0 (fun γ => Needs_w 28 (by kernel_rfl) rfl (fun r47 h47 => Needs_w 29 (by kernel_rfl) rfl (fun r48 h48 => Needs_w 27 (by kernel_rfl) rfl (fun r46 h46 => Needs_nil (vopU rfl rfl h46 ⟨rfl, rfl⟩)))))) rfl ?_
  refine DrawP_consL (acc' := [_, _, _, _, _, _, _, _, _, _, _, _, _, _, _, _, _, _, _, _, _, _, _, _, _, _, _, _, _, _, _, _]) (eqRes _) (good0 (fun γ => Needs_w 30 (by kernel_rfl) rfl (fun r49 h49 => Needs_w 27 (by kernel_rfl) rfl (fun r46 h46 => Needs_nil (vopU rfl rfl h46 ⟨rfl, rfl⟩))))) rfl ?_
  refine DrawP_consL (acc' := [_, _, _, _, _, _, _, _, _, _, _, _, _, _, _, _, _, _, _, _, _, _, _, _, _, _, _, _, _, _, _, _, _]) (eqRes _) (good0 (fun γ => Needs_w 27 (by kernel_rfl) rfl (fun r46 h46 => Needs_w 31 (by kernel_rfl) rfl (fun r50 h50 => Needs_w 1 (by kernel_rfl) rfl (fun r20 h20 => Needs_nil (vopF (skip_of rfl rfl h20 hq20) ⟨rfl, rfl⟩)))))) rfl ?_
  refine DrawP_consL (acc' := [_, _, _, _, _, _, _, _, _, _, _, _, _, _, _, _, _, _, _, _, _, _, _, _, _, _, _, _, _, _, _, _, _, _]) (eqRes _) (good0 (fun γ => Needs_w 1 (by kernel_rfl) rfl (fun r20 h20 => Needs_w 32 (by kernel_rfl) rfl (fun r51 h51 => Needs_nil (vopT rfl (V_pickF h20 hq20 rfl ⟨rfl, rfl⟩)))))) rfl ?_
  refine DrawP_consL (acc' := [_, _, _, _, _, _, _, _, _, _, _, _, _, _, _, _, _, _, _, _, _, _, _, _, _, _, _, _, _, _, _, _, _, _, _]) (eqRes _) (good0 (fun γ => Needs_w 33 (by kernel_rfl) rfl (fun r52 h52 => Needs_nil (vopT rfl (V_assign h52 ⟨rfl, rfl⟩))))) rfl ?_
  refine DrawP_nil (fun γ => Needs_w 34 (by kernel_rfl) rfl (fun r7 h7 => Needs_nil ?_))
  have e7 : r7 = some _ := h7
  subst e7
  clear h7
  refine Then_n ?_
  refine VW_ret ?_
  refine VRet_one rfl (.tmp rfl) ?_
  refine ⟨congrArg V.bool ?_, Drops.drop (Drops.refl _)⟩
  rw [hr]
  try rw [hpp]
  first | (simp_all; done) | (simp_all; omega) | (rw [hpp] at *; simp_all; done)


set_option maxRecDepth 100000 in
set_option maxHeartbeats 8000000 in
theorem block_c (gc gm : Nat) (name : Int) (bs : List SBlock) (k : Nat) (b : SBlock) (hb : bs[k]? = some b) (d : Defs) : VCalls Try.prog 66 [.ptr gc 0, .int k] [.cells gc 108 [.int name, blocksX bs, .raw (.map (some gm))], .map gm (kmap kint (encD d))] fun r S' => r = .int (blockF bs k b d).1 ∧ S' = [.cells gc 108 [.int name, blocksX bs, .raw (.map (some gm))], .map gm (kmap kint (encD (blockF bs k b d).2))] := by
 refine VCalls_drops ?_
 have hr := blockF.eq_def bs k b d
 refine V_start (nt := 69) Try.func66 rfl rfl rfl ?_
 refine VW_seq ?_
 refine VW_region ?_
 refine VOps_cons rfl rfl (V_assign rfl ?_)
 refine VOps_nil ?_
 refine Then_n ?_
 refine VW_seq ?_
 refine VW_region ?_
 refine VOps_cons rfl rfl (V_move rfl ?_)
 refine VOps_cons rfl rfl (V_nilCheck rfl ?_)
 refine VOps_cons rfl rfl (V_fieldAddr VT.fa108_0 rfl ?_)
 refine VOps_cons rfl rfl (V_fieldAddr VT.fa37_1 rfl ?_)
 refine VOps_cons rfl rfl (V_load 0 VT.ty35 rfl rfl rfl ?_)
 refine VOps_cons rfl rfl (V_move rfl ?_)
 refine VOps_cons rfl rfl (V_indexAddr (el := blockV b) VT.sl35 rfl rfl (by omega) (get_mapS _ hb) (fun a19 => ?_))
 refine VOps_cons rfl rfl (V_load_ep_agg VT.ty34 rfl rfl ?_)
 refine VOps_cons rfl rfl (V_alloc VT.zr34 _ rfl rfl (fun g5 => ?_))
 refine VOps_cons rfl rfl (V_store_agg 0 VT.ty34 rfl rfl rfl rfl rfl ?_)
 refine VOps_nil ?_
 refine Then_n ?_
 refine VW_seq ?_
 refine VW_seq ?_
 refine VW_region ?_
 refine VOps_cons rfl rfl (V_fieldAddr VT.fa34_0 rfl ?_)
 refine VOps_cons rfl rfl (V_load 0 VT.ty23 rfl rfl rfl ?_)
 refine VOps_cons rfl rfl (V_lenN (n := b.params.length) Try.underlying23 rfl (by simp) (fun hl23 => ?_))
 refine VOps_cons rfl rfl (V_move rfl ?_)
 refine VOps_nil ?_
 refine Then_n ?_
 refine VW_block ?_
 refine VW_loopF (ι := Nat × Defs) (fun (j, e) => b.params.length - j) (fun (j, e) => [(0, some (.ptr gc 0)), (1, some (.int k)), (5, some (.ptr g5 0)), (22, some (intsX b.params)), (23, some (.int b.params.length)), (24, some (.int j))]) (fun (j, e) => [.cells g5 34 (blockV b).leaves, .cells gc 108 [.int name, blocksX bs, .raw (.map (some gm))], .map gm (kmap kint (encD e))]) (fun (j, e) => j ≤ b.params.length ∧ paramsF k (b.params.drop j) e = paramsF k b.params d) (0, d) ⟨Nat.zero_le _, rfl⟩ ⟨rfl, rfl, rfl, rfl, rfl, rfl, trivial⟩ (Drops.keep (Drops.keep (Drops.keep (Drops.refl _)))) ?_
 rintro ⟨j, e⟩ hA
 change j ≤ b.params.length ∧ paramsF k (b.params.drop j) e = paramsF k b.params d at hA
 obtain ⟨hj, hq⟩ := hA
 refine VW_seq ?_
 refine VW_region ?_
 refine VOps_cons rfl rfl (V_bin rfl rfl rfl ?_)
 refine VOps_nil ?_
 refine Then_n ?_
 refine VW_seq ?_
 refine VW_condP rfl (fun h25 => ?_) (fun h25 => ?_)
 ·
  obtain ⟨p, hp⟩ := get_of_lt b.params j h25
  refine VW_skip ?_
  refine Then_n ?_
  refine VW_seq ?_
  refine VW_block ?_
  refine VW_seq ?_
  refine VW_region ?_
  refine VOps_cons rfl rfl (V_indexAddr (el := V.int p) VT.sl23 rfl rfl (by omega) (get_int hp) (fun a26 => ?_))
  refine VOps_cons rfl rfl (V_load_ep VT.ty3 rfl rfl ?_)
  refine VOps_cons rfl rfl (V_assign rfl ?_)
  refine VOps_nil ?_
  refine Then_n ?_
  refine VW_seq ?_
  refine VW_region ?_
  refine VOps_cons rfl rfl (V_move rfl ?_)
  refine VOps_cons rfl rfl (V_move rfl ?_)
  refine VOps_cons rfl rfl (V_move rfl ?_)
  refine VOps_cons rfl rfl (V_build [0, 1] [.tmp 30, .const (.int .i64 (0))] VT.st132 rfl rfl rfl rfl ?_)
  refine VOps_cons rfl rfl (V_call [.tmp 28, .tmp 29, .tmp 31] _ _ rfl rfl VT.en81 ((perm_erase (i := 1) rfl).trans (.cons _ ((perm_erase (i := 1) rfl).trans (.cons _ (.refl _))))) (define_c gc gm name bs p (k, 0) e) ?_)
  rintro r Sa ⟨rfl, rfl⟩
  refine VOps_cons rfl rfl (V_assign rfl ?_)
  refine VOps_nil ?_
  refine Then_n ?_
  refine VW_seq ?_
  refine VW_region ?_
  refine VOps_cons rfl rfl (V_move rfl ?_)
  refine VOps_cons rfl rfl (V_bin rfl rfl rfl ?_)
  refine VOps_nil ?_
  refine Then_n ?_
  refine VW_condNe rfl (fun h34 => ?_) (fun h34 => ?_)
  ·
   have hpe : paramsF k b.params d = defineF p (k, 0) e := by rw [← hq, drop_cons hp, paramsF, if_pos h34]
   rw [hpe, if_pos h34] at hr
   refine VW_seq ?_
   refine VW_region ?_
   refine VOps_cons rfl rfl (V_move rfl ?_)
   refine VOps_cons rfl rfl (V_assign rfl ?_)
   refine VOps_nil ?_
   refine Then_n ?_
   refine VW_ret ?_
   refine InBlock_r (Then_r (Then_r (InBlock_r (Then_r (VRet_one rfl (.tmp rfl) ?_)))))
   exact ⟨_, (Drops.keep (Drops.keep (Drops.drop (Drops.refl _)))), by rw [hr], by rw [hr]; first | done | rfl⟩
  ·
   refine VW_skip ?_
   refine InBlock_n (Then_n ?_)
   refine VW_region ?_
   refine VOps_cons rfl rfl (V_add rfl rfl (by omega) ?_)
   refine VOps_cons rfl rfl (V_move rfl ?_)
   refine VOps_nil ?_
   refine Then_n ?_
   exact ⟨(j + 1, (defineF p (k, 0) e).2), (by (try simp only []); omega), ⟨by omega, by rw [← hq, drop_cons hp, paramsF, if_neg (by rw [h34]; decide)]⟩, ⟨rfl, rfl, rfl, rfl, rfl, rfl, trivial⟩, (Drops.pick 2 rfl rfl (Drops.pick 0 rfl rfl (Drops.pick 0 rfl rfl (Drops.nil _))))⟩
 ·
  have hje : j = b.params.length := by omega
  subst hje
  rw [List.drop_length, paramsF] at hq
  rw [← hq, if_neg (show ¬ ((0 : Int) ≠ 0) by decide)] at hr
  refine VW_exit ?_
  refine Then_e (Then_e (InBlock_hit ?_))
  refine Then_n ?_
  refine VW_seq ?_
  refine VW_seq ?_
  refine VW_region ?_
  refine VOps_cons rfl rfl (V_fieldAddr VT.fa34_1 rfl ?_)
  refine VOps_cons rfl rfl (V_load 0 VT.ty27 rfl rfl rfl ?_)
  refine VOps_cons rfl rfl (V_lenN (n := b.ins.length) Try.underlying27 rfl (by simp) (fun hl39 => ?_))
  refine VOps_cons rfl rfl (V_move rfl ?_)
  refine VOps_nil ?_
  refine Then_n ?_
  refine VW_block ?_
  refine VW_loopF (ι := Nat × Defs) (fun (j, f) => b.ins.length - j) (fun (j, f) => [(0, some (.ptr gc 0)), (1, some (.int k)), (5, some (.ptr g5 0)), (38, some (inssX b.ins)), (39, some (.int b.ins.length)), (40, some (.int j))]) (fun (j, f) => [.cells g5 34 (blockV b).leaves, .cells gc 108 [.int name, blocksX bs, .raw (.map (some gm))], .map gm (kmap kint (encD f))]) (fun (j, f) => j ≤ b.ins.length ∧ inssF k j (b.ins.drop j) f = inssF k 0 b.ins e) (0, e) ⟨Nat.zero_le _, rfl⟩ ⟨rfl, rfl, rfl, rfl, rfl, rfl, trivial⟩ (Drops.keep (Drops.keep (Drops.keep (Drops.refl _)))) ?_
  rintro ⟨j, f⟩ hA2
  change j ≤ b.ins.length ∧ inssF k j (b.ins.drop j) f = inssF k 0 b.ins e at hA2
  obtain ⟨hj, hq2⟩ := hA2
  refine VW_seq ?_
  refine VW_region ?_
  refine VOps_cons rfl rfl (V_bin rfl rfl rfl ?_)
  refine VOps_nil ?_
  refine Then_n ?_
  refine VW_seq ?_
  refine VW_condP rfl (fun h41 => ?_) (fun h41 => ?_)
  ·
   obtain ⟨i, hi⟩ := get_of_lt b.ins j h41
   refine VW_skip ?_
   refine Then_n ?_
   refine VW_seq ?_
   refine VW_block ?_
   refine VW_seq ?_
   refine VW_region ?_
   refine VOps_cons rfl rfl (V_move rfl ?_)
   refine VOps_cons rfl rfl (V_indexAddr (el := insV i) VT.sl27 rfl rfl (by omega) (get_mapS _ hi) (fun a43 => ?_))
   refine VOps_cons rfl rfl (V_load_ep_agg VT.ty25 rfl rfl ?_)
   refine VOps_cons rfl rfl (V_alloc VT.zr25 _ rfl rfl (fun g10 => ?_))
   refine VOps_cons rfl rfl (V_assign rfl ?_)
   refine VOps_cons rfl rfl (V_store_agg 0 VT.ty25 rfl rfl rfl rfl rfl ?_)
   refine VOps_nil ?_
   refine Then_n ?_
   refine VW_seq ?_
   refine VW_seq ?_
   refine VW_region ?_
   refine VOps_cons rfl rfl (V_move rfl ?_)
   refine VOps_cons rfl rfl (V_fieldAddr VT.fa25_0 rfl ?_)
   refine VOps_cons rfl rfl (V_load 0 VT.ty3 rfl rfl rfl ?_)
   refine VOps_cons rfl rfl (V_move rfl ?_)
   refine VOps_cons rfl rfl (V_move rfl ?_)
   refine VOps_cons rfl rfl (V_add rfl rfl (by omega) ?_)
   refine VOps_cons rfl rfl (V_build [0, 1] [.tmp 48, .tmp 50] VT.st132 rfl rfl rfl rfl ?_)
   refine VOps_cons rfl rfl (V_call [.tmp 45, .tmp 47, .tmp 51] _ _ rfl rfl VT.en81 ((perm_erase (i := 2) rfl).trans (.cons _ ((perm_erase (i := 2) rfl).trans (.cons _ (.refl _))))) (define_c gc gm name bs i.to (k, (j : Int) + 1) f) ?_)
   rintro r Sa ⟨rfl, rfl⟩
   refine VOps_cons rfl rfl (V_assign rfl ?_)
   refine VOps_nil ?_
   refine Then_n ?_
   refine VW_seq ?_
   refine VW_region ?_
   refine VOps_cons rfl rfl (V_move rfl ?_)
   refine VOps_cons rfl rfl (V_bin rfl rfl rfl ?_)
   refine VOps_nil ?_
   refine Then_n ?_
   refine VW_condNe rfl (fun h54 => ?_) (fun h54 => ?_)
   ·
    have hpe : inssF k 0 b.ins e = defineF i.to (k, (j : Int) + 1) f := by rw [← hq2, drop_cons hi, inssF, if_pos h54]
    rw [hpe, if_pos h54] at hr
    refine VW_seq ?_
    refine VW_region ?_
    refine VOps_cons rfl rfl (V_move rfl ?_)
    refine VOps_cons rfl rfl (V_assign rfl ?_)
    refine VOps_nil ?_
    refine Then_n ?_
    refine VW_ret ?_
    refine Then_r (InBlock_r (Then_r (Then_r (InBlock_r (Then_r (VRet_one rfl (.tmp rfl) ?_))))))
    exact ⟨_, (Drops.keep (Drops.keep (Drops.drop (Drops.drop (Drops.refl _))))), by rw [hr], by rw [hr]; first | done | rfl⟩
   ·
    refine VW_skip ?_
    refine Then_n ?_
    refine VW_seq ?_
    refine VW_region ?_
    refine VOps_cons rfl rfl (V_load_agg 2 VT.ty25 rfl rfl rfl ?_)
    refine VOps_cons rfl rfl (V_callP [.tmp 56] rfl rfl VT.en82 (form_c i) ?_)
    refine VOps_cons rfl rfl (V_assign rfl ?_)
    refine VOps_nil ?_
    refine Then_n ?_
    refine VW_seq ?_
    refine VW_region ?_
    refine VOps_cons rfl rfl (V_move rfl ?_)
    refine VOps_cons rfl rfl (V_bin rfl rfl rfl ?_)
    refine VOps_nil ?_
    refine Then_n ?_
    refine VW_condNe rfl (fun h59 => ?_) (fun h59 => ?_)
    ·
     have hpe : inssF k 0 b.ins e = (formF i, (defineF i.to (k, (j : Int) + 1) f).2) := by rw [← hq2, drop_cons hi, inssF, if_neg (by rw [h54]; decide), if_pos h59]
     rw [hpe, if_pos h59] at hr
     refine VW_seq ?_
     refine VW_region ?_
     refine VOps_cons rfl rfl (V_move rfl ?_)
     refine VOps_cons rfl rfl (V_assign rfl ?_)
     refine VOps_nil ?_
     refine Then_n ?_
     refine VW_ret ?_
     refine InBlock_r (Then_r (Then_r (InBlock_r (Then_r (VRet_one rfl (.tmp rfl) ?_)))))
     exact ⟨_, (Drops.keep (Drops.keep (Drops.drop (Drops.drop (Drops.refl _))))), by rw [hr], by rw [hr]; first | done | rfl⟩
    ·
     refine VW_skip ?_
     refine InBlock_n (Then_n ?_)
     refine VW_region ?_
     refine VOps_cons rfl rfl (V_add rfl rfl (by omega) ?_)
     refine VOps_cons rfl rfl (V_move rfl ?_)
     refine VOps_nil ?_
     refine Then_n ?_
     exact ⟨(j + 1, (defineF i.to (k, (j : Int) + 1) f).2), (by (try simp only []); omega), ⟨by omega, by rw [← hq2, drop_cons hi, inssF, if_neg (by rw [h54]; decide), if_neg (by rw [h59]; decide)]; rfl⟩, ⟨rfl, rfl, rfl, rfl, rfl, rfl, trivial⟩, (Drops.pick 3 rfl rfl (Drops.pick 0 rfl rfl (Drops.pick 0 rfl rfl (Drops.nil _))))⟩
  ·
   have hje : j = b.ins.length := by omega
   subst hje
   rw [List.drop_length, inssF] at hq2
   rw [← hq2, if_neg (show ¬ ((0 : Int) ≠ 0) by decide)] at hr
   refine VW_exit ?_
   refine Then_e (Then_e (InBlock_hit ?_))
   refine Then_n ?_
   refine VW_seq ?_
   refine VW_draw (G := Unit) [([], [0], []), ([0], [62], []), ([1, 0], [63], []), ([2, 1, 0], [64], []), ([], [5], []), ([4], [66], []), ([5, 4, 3, 2, 1, 0], [65, 67], []), ([6, 5, 4, 3, 2, 1, 0], [68], [])] [] (constSt _) [4] [4, 62, 63, 64, 65, 66, 67, 68] rfl VT.mix (by kernel_rfl) (by kernel_rfl) ?_
   refine DrawP_consL (acc' := [_]) (eqRes _) (good0 (fun γ => Needs_f (by kernel_rfl) (fun r0 h0 => Needs_nil (vopT rfl (V_move h0 ⟨rfl, rfl⟩))))) rfl ?_
   refine DrawP_consL (acc' := [_, _]) (eqRes _) (good0 (fun γ => Needs_w 0 (by kernel_rfl) rfl (fun r62 h62 => Needs_nil (vopT rfl (V_nilCheck h62 ⟨rfl, rfl⟩))))) rfl ?_
   refine DrawP_consL (acc' := [_, _, _]) (eqRes _) (good0 (fun γ => Needs_w 1 (by kernel_rfl) rfl (fun r63 h63 => Needs_nil (vopT rfl (V_fieldAddr VT.fa108_0 h63 ⟨rfl, rfl⟩))))) rfl ?_
   refine DrawP_consL (acc' := [_, _, _, _]) (eqRes _) (good0 (fun γ => Needs_w 2 (by kernel_rfl) rfl (fun r64 h64 => Needs_nil (vopT rfl (V_load_agg 1 VT.ty37 h64 rfl rfl ⟨rfl, rfl⟩))))) rfl ?_
   refine DrawP_consL (acc' := [_, _, _, _, _]) (eqRes _) (good0 (fun γ => Needs_f (by kernel_rfl) (fun r5 h5 => Needs_nil (vopT rfl (V_fieldAddr VT.fa34_2 h5 ⟨rfl, rfl⟩))))) rfl ?_
   refine DrawP_consL (acc' := [_, _, _, _, _, _]) (eqRes _) (good0 (fun γ => Needs_w 4 (by kernel_rfl) rfl (fun r66 h66 => Needs_nil (vopT rfl (V_load_agg 0 VT.ty32 h66 rfl rfl ⟨rfl, rfl⟩))))) rfl ?_
   refine DrawP_consL (acc' := [_, _, _, _, _, _, _]) (eqRes _) (good0 (fun γ => Needs_w 3 (by kernel_rfl) rfl (fun r65 h65 => Needs_w 5 (by kernel_rfl) rfl (fun r67 h67 => Needs_nil (vopT rfl (V_callP [.tmp 65, .tmp 67] rfl (evs_cons h65 (evs_cons h67 evs_nil)) VT.en83 (end_c name bs b.term) ⟨rfl, rfl⟩)))))) rfl ?_
   refine DrawP_consL (acc' := [_, _, _, _, _, _, _, _]) (eqRes _) (good0 (fun γ => Needs_w 6 (by kernel_rfl) rfl (fun r68 h68 => Needs_nil (vopT rfl (V_assign h68 ⟨rfl, rfl⟩))))) rfl ?_
   refine DrawP_nil (fun γ => Needs_w 7 (by kernel_rfl) rfl (fun r4 h4 => Needs_nil ?_))
   have e4 : r4 = some _ := h4
   subst e4
   clear h4
   refine Then_n ?_
   refine VW_ret ?_
   refine VRet_one rfl (.tmp rfl) ?_
   exact ⟨_, (Drops.drop (Drops.keep (Drops.keep (Drops.refl _)))), by rw [hr], by rw [hr]; first | done | rfl⟩


end Go.Proofs.Ytmioemdikgdpkaa.X3
