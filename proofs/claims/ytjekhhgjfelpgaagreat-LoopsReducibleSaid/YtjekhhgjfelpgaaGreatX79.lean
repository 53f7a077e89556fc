import Derived.Test.YtjekhhgjfelpgaaGreatX76
import Derived.Test.YtjekhhgjfelpgaaGreatX78
set_option linter.all false
open List renaming append_nil → Ya, length_set → Yb, mem_of_getElem? → Yc, drop_length → Yd, replicate → Ye, range → Yf, length_replicate → Yg, length_map → Yh, getElem?_eq_some_iff → Yi
open Nat renaming zero_le → Yj
open Int renaming toNat_natCast → Yk
namespace Go.Proofs.YtjekhhgjfelpgaaGreat.X79
open Go.VL Go.SM Go.Proofs.YtjekhhgjfelpgaaGreat XS X1 X2 X3 X4 X5 X6 X7 X8 X9 X10 X12 X13 X14 X20 X22 X23 X25 X26 X36 X76 X77 X78
theorem Red_0 {f : SFunc} (h : funcF f = 0) : VPure Tryz.prog 15 [funcV f] (.tup [.bool (redF f), .int 0]) := by
  have h1 := Reducible_c f
  rwa [redX, if_pos h] at h1
theorem Red_e {f : SFunc} (h : funcF f ≠ 0) : VPure Tryz.prog 15 [funcV f] (.tup [.bool false, .int (funcF f)]) := by
  have h1 := Reducible_c f
  rwa [redX, if_neg h] at h1
def BigP (f : SFunc) : Prop := 128 < ((preF f).blocks.length : Int) ∨ 4096 < frAt f.blocks (freshF f.blocks) (preL f)
theorem Pre_0 {f : SFunc} (h : funcF f = 0) (hl : ¬ BigP f) : VPure Tryz.prog 9 [funcV f] (.tup [funcV (preF f), .int 0]) := by
  unfold BigP at hl
  have h1 := Preheaders_c f
  rwa [preX, if_neg (fun hn => hn h), if_neg hl] at h1
theorem Pre_big {f : SFunc} (h : funcF f = 0) (hl : BigP f) : VPure Tryz.prog 9 [funcV f] (.tup [.agg VT.zs34, .int 2]) := by
  unfold BigP at hl
  have h1 := Preheaders_c f
  rwa [preX, if_neg (fun hn => hn h), if_pos hl] at h1
theorem pre_fine {f : SFunc} (h : funcF f = 0) (hl : ¬ BigP f) : funcF (preF f) = 0 := by
  unfold BigP at hl
  exact pre_ok h (loopsOf_pre f) (by have h1 : (preF f).blocks.length ≤ 128 := by omega
                                     exact h1) (by omega)
theorem red_pre {f : SFunc} (h : funcF f = 0) (hl : ¬ BigP f) : redF (preF f) = redF f := by
  rw [Bool.eq_iff_iff, redF_iff, redF_iff]
  exact rank_pre h (loopsOf_pre f) (pre_fine h hl)
theorem leads_len (bs : List SBlock) (a : Nat) : (leadsF bs a).length = bs.length := by
  have := (roundsR_le (bs := bs) bs.length ((Ye bs.length false).set a true)).1
  rw [Yb, Yg] at this
  exact this.symm
theorem reachF_len (bs : List SBlock) : (reachF bs).length = bs.length := leads_len bs 0
theorem set_self2 {s : List Bool} {e : Nat} {x : Bool} (h : s[e]? = some x) : s.set e x = s := by
  apply List.ext_getElem?
  intro i
  rw [List.getElem?_set]
  split
  · rename_i q
    subst q
    rw [if_pos (Yi.1 h).1, h]
  · rfl
theorem lead_T {s : List Bool} {e k : Nat} (h : s[e]? = some true) : s.set e true = (if s[k]?.getD false = true then s.set e true else s) := by
  split
  · rfl
  · exact set_self2 h
theorem lead_F {s : List Bool} {e k : Nat} {x : Bool} (h : s[e]? = some false) (hk : s[k]? = some x) : s.set e x = (if s[k]?.getD false = true then s.set e true else s) := by
  rw [hk]
  cases x with
  | true => rfl
  | false => exact set_self2 h
theorem prR_T {k : Int} {n : Nat} {e : SEdge} {l : List SEdge} (h : e.block = k) : ((e :: l).filter fun e => decide (e.block = k)).map (fun _ => (n : Int)) = (n : Int) :: ((l.filter fun e => decide (e.block = k)).map fun _ => (n : Int)) := by
  rw [List.filter_cons, if_pos (decide_eq_true h)]
  rfl
theorem prR_F {k : Int} {n : Nat} {e : SEdge} {l : List SEdge} (h : ¬ e.block = k) : ((e :: l).filter fun e => decide (e.block = k)).map (fun _ => (n : Int)) = ((l.filter fun e => decide (e.block = k)).map fun _ => (n : Int)) := by
  rw [List.filter_cons, if_neg (by simpa using h)]
theorem cyc_step {f : SFunc} {k : Nat} {P : List Int} {j : Nat} {p : Int} (h : P[j]? = some p) : cycK f k (P.take (j + 1)) = (cycK f k (P.take j) || ((reachF f.blocks)[p.toNat]?.getD false && (leadsF f.blocks k)[p.toNat]?.getD false)) := by
  unfold cycK
  rw [take_snoc h, List.any_append, List.any_cons, List.any_nil, Bool.or_false]
theorem cyc_range {f : SFunc} {k : Nat} : ((Yf (k + 1)).any fun k => cycK f k (prR k 0 f.blocks)) = (((Yf k).any fun k => cycK f k (prR k 0 f.blocks)) || cycK f k (prR k 0 f.blocks)) := by
  rw [List.range_succ, List.any_append, List.any_cons, List.any_nil, Bool.or_false]
theorem not_ne (b : Bool) : ((!b) != b) = true := by cases b <;> rfl
theorem flat_falseX (n : Nat) : (Ye n (V.bool false)).flatMap V.leaves = Ye n (V.bool false) := by
  induction n with
  | zero => rfl
  | succ n ih => rw [List.replicate_succ, List.flatMap_cons, ih]; rfl
theorem get_boolX {l : List Bool} {k : Nat} {b : Bool} (h : l[k]? = some b) : (l.map V.bool)[k]? = some (V.bool b) := by rw [List.getElem?_map, h]; rfl
theorem bools_setX (l : List Bool) (k : Nat) (b : Bool) : (l.map V.bool).set k (V.bool b) ++ [] = (l.set k b).map V.bool := by rw [Ya, List.map_set]
theorem flat_boolsX (l : List Bool) : (l.map V.bool).flatMap V.leaves = l.map V.bool := by
  induction l with
  | nil => rfl
  | cons a l ih => rw [List.map_cons, List.flatMap_cons, ih]; rfl
theorem fits_boolsX (l : List Bool) : ∀ x ∈ l.map V.bool, x.fits 1 = true ∧ ((∃ ls, x = .agg ls) ∨ x.leaf = true) := fun x hx => by
  obtain ⟨n, _, rfl⟩ := List.mem_map.1 hx
  exact ⟨rfl, .inr rfl⟩
set_option maxRecDepth 100000 in
set_option maxHeartbeats 4000000 in
theorem rPreds_c {f : SFunc} (h0 : funcF f = 0) (z : Int) : VPure Tryz.prog 17 [funcV f, .int z] (intsX (prR z 0 f.blocks)) := by
 have hok := func_ok h0
 have h128 := hok.len
 refine V_start (nt := 37) Tryz.func17 rfl rfl rfl ?_
 refine Zb (Zd ?_)
 refine Zc (Zc2 rfl rfl (fun g2 => ?_))
 refine Zc (Zk rfl (Za (Zi (Zb (Zd (Zc (V_assign_nil 3 1 (Za (Zi (Zb (Zb (Zd (Zc (Zj VT.fa34_1 rfl (Zc (Zu 1 VT.ty32 rfl rfl rfl ?_))))))))))))))))
 refine Zc (Zd2 (n := f.blocks.length) Tryz.underlying32 rfl (by simp) (fun hl12 => ?_))
 refine Zc (Zl rfl (Za (Zi (Zs ?_))))
 refine Zi2 (ι := Nat × Tok × List Int) (fun (k, tok, out) => f.blocks.length - k) (fun (k, tok, out) => [(1, some (.int z)), (2, some (.ptr g2 0)), (11, some (blocksX f.blocks)), (12, some (.int f.blocks.length)), (13, some (.int k)), (5, some (.sl 1 (some tok) (out.map V.int)))]) (fun (k, tok, out) => [.buf tok 3 1 out.length, .cells g2 34 [.int f.name, blocksX f.blocks]]) (fun (k, tok, out) => k ≤ f.blocks.length ∧ out ++ prR z k (f.blocks.drop k) = prR z 0 f.blocks ∧ out.length ≤ k * 257) (0, .nil, []) ⟨Yj _, rfl, Nat.le_refl _⟩ ⟨rfl, rfl, rfl, rfl, rfl, rfl, trivial⟩ (Drops.buf (by simp) (Drops.keep (Zt2 _))) ?_
 rintro ⟨k, tok, out⟩ hA
 change k ≤ f.blocks.length ∧ out ++ prR z k (f.blocks.drop k) = prR z 0 f.blocks ∧ out.length ≤ k * 257 at hA
 obtain ⟨hk, hq, hol⟩ := hA
 refine Zb (Zd (Zc (Zj1 rfl rfl rfl (Za (Zi (Zb ?_))))))
 refine Zn1 rfl (fun h14 => ?_) (fun h14 => ?_)
 ·
  obtain ⟨b, hb⟩ := get_of_lt f.blocks k h14
  have hte := term_edges hok (Yc hb)
  rw [drop_cons hb, prR, ← List.append_assoc] at hq
  refine Zi1 (Zi (Zb (Zs (Zb (Zd (Zc (Zl rfl ?_)))))))
  refine Zc (Zz (el := blockV b) VT.sl32 rfl rfl (by omega) (get_mapS _ hb) (fun a16 => ?_))
  refine Zc (Za2 VT.ty50 rfl rfl ?_)
  refine Zc (Zb2 VT.zr50 _ rfl rfl (fun g7 => ?_))
  refine Zc (Zk rfl (Zc (Zx 0 VT.ty50 rfl rfl rfl rfl rfl (Za (Zi (Zb (Zd (Zc (Zj VT.fa50_2 rfl (Zc (Zj VT.fa47_4 rfl (Zc (Zu 0 VT.ty45 rfl rfl rfl ?_)))))))))))))
  refine Zc (Zd2 (n := b.term.to.length) Tryz.underlying45 rfl (by simp) (fun hl21 => ?_))
  refine Zc (Zl rfl (Za (Zi (Zs ?_))))
  refine Zi2 (ι := Nat × Tok × List Int) (fun (j, tok2, out2) => b.term.to.length - j) (fun (j, tok2, out2) => [(1, some (.int z)), (2, some (.ptr g2 0)), (11, some (blocksX f.blocks)), (12, some (.int f.blocks.length)), (13, some (.int k)), (5, some (.sl 1 (some tok2) (out2.map V.int))), (6, some (.int k)), (20, some (edgesX b.term.to)), (21, some (.int b.term.to.length)), (22, some (.int j))]) (fun (j, tok2, out2) => [.buf tok2 3 1 out2.length, .cells g2 34 [.int f.name, blocksX f.blocks]]) (fun (j, tok2, out2) => j ≤ b.term.to.length ∧ out2 ++ (((b.term.to.drop j).filter fun e => decide (e.block = z)).map fun _ => (k : Int)) = out ++ ((b.term.to.filter fun e => decide (e.block = z)).map fun _ => (k : Int)) ∧ out2.length ≤ k * 257 + j) (0, tok, out) ⟨Yj _, rfl, hol⟩ ⟨rfl, rfl, rfl, rfl, rfl, rfl, rfl, rfl, rfl, rfl, trivial⟩ (Drops.drop (Drops.buf (by simp) (Drops.keep (Zt2 _)))) ?_
  rintro ⟨j, tok2, out2⟩ hB
  change j ≤ b.term.to.length ∧ out2 ++ (((b.term.to.drop j).filter fun e => decide (e.block = z)).map fun _ => (k : Int)) = out ++ ((b.term.to.filter fun e => decide (e.block = z)).map fun _ => (k : Int)) ∧ out2.length ≤ k * 257 + j at hB
  obtain ⟨hj, hq2, hol3⟩ := hB
  refine Zb (Zd (Zc (Zj1 rfl rfl rfl (Za (Zi (Zb ?_))))))
  refine Zn1 rfl (fun h23 => ?_) (fun h23 => ?_)
  ·
   obtain ⟨e, he⟩ := get_of_lt b.term.to j h23
   rw [drop_cons he] at hq2
   refine Zi1 (Zi (Zb (Zs (Zb (Zd ?_)))))
   refine Zc (Zz (el := edgeV e) VT.sl45 rfl rfl (by omega) (get_mapS _ he) (fun a24 => ?_))
   refine Zc (Za2 VT.ty79 rfl rfl ?_)
   refine Zc (Zb2 VT.zr79 _ rfl rfl (fun g9 => ?_))
   refine Zc (Zx 0 VT.ty79 rfl rfl rfl rfl rfl (Za (Zi (Zb (Zd (Zc (Zj VT.fa79_0 rfl (Zc (Zu 0 VT.ty3 rfl rfl rfl (Zc (Zl rfl (Zc (Zj1 rfl rfl rfl (Za (Zi ?_)))))))))))))))
   refine Zl1 rfl (fun h29 => ?_) (fun h29 => ?_)
   ·
    rw [prR_T h29, ← List.singleton_append, ← List.append_assoc] at hq2
    have hq3 := hq2
    have hol4 : (out2 ++ [(k : Int)]).length ≤ k * 257 + (j + 1) := by rw [List.length_append, List.length_singleton]; omega
    refine Zd (Zc (Zl rfl (Zc (Zl rfl ?_))))
    refine Zc (Zk3 [.tmp 31] VT.sl41 rfl rfl rfl rfl rfl ?_)
    refine Zc (Zi3 1 _ VT.sl41 rfl rfl rfl (by simp) (by simp; omega) (fun t33 => ?_))
    refine Zc (Zk rfl (Za (Zb1 (Zi (Zd ?_)))))
    refine Zc (Zh2 rfl rfl (by omega) ?_)
    refine Zc (Zl rfl (Za (Zi ?_)))
    exact ⟨(j + 1, t33, out2 ++ [(k : Int)]), (by (try simp only []); omega), ⟨by omega, hq3, hol4⟩, ⟨rfl, rfl, rfl, rfl, rfl, (by first | rfl | (rw [List.map_append]; rfl)), rfl, rfl, rfl, rfl, trivial⟩, (Drops.drop (Drops.buf (by simp) (Drops.keep (Zt2 _))))⟩
   ·
    rw [prR_F h29] at hq2
    have hq3 := hq2
    have hol4 : out2.length ≤ k * 257 + (j + 1) := by omega
    refine Zi1 (Zb1 (Zi (Zd ?_)))
    refine Zc (Zh2 rfl rfl (by omega) ?_)
    refine Zc (Zl rfl (Za (Zi ?_)))
    exact ⟨(j + 1, tok2, out2), (by (try simp only []); omega), ⟨by omega, hq3, hol4⟩, ⟨rfl, rfl, rfl, rfl, rfl, (by first | rfl | (rw [List.map_append]; rfl)), rfl, rfl, rfl, rfl, trivial⟩, (Drops.drop (Drops.buf (by simp) (Drops.keep (Zt2 _))))⟩
  ·
   have hje : j = b.term.to.length := by omega
   subst hje
   rw [Yd, List.filter_nil, List.map_nil, Ya] at hq2
   rw [← hq2] at hq
   refine Zt (Ze1 (Ze1 (Zc1 (Zb1 (Zi (Zd ?_))))))
   refine Zc (Zh2 rfl rfl (by omega) ?_)
   refine Zc (Zl rfl (Za (Zi ?_)))
   exact ⟨(k + 1, tok2, out2), (by (try simp only []); omega), ⟨by omega, hq, by omega⟩, ⟨rfl, rfl, rfl, rfl, rfl, rfl, trivial⟩, (Drops.buf (by simp) (Drops.keep (Zt2 _)))⟩
 ·
  have hke : k = f.blocks.length := by omega
  subst hke
  rw [Yd, prR, Ya] at hq
  refine Zt (Ze1 (Ze1 (Zc1 (Zi (Zb (Zd (Zc (Zl rfl (Zc (Zk rfl (Za (Zi (Zf1 ?_)))))))))))))
  refine Zg1 rfl (.strip rfl) ?_
  rw [← hq]
  rfl
set_option maxRecDepth 100000 in
set_option maxHeartbeats 8000000 in
theorem leads_c {f : SFunc} (h0 : funcF f = 0) (a c : Nat) (ha : a < f.blocks.length) (hc : c < f.blocks.length) : VPure Tryz.prog 18 [funcV f, .int a, .int c] (.bool ((leadsF f.blocks a)[c]?.getD false)) := by
 have hok := func_ok h0
 have h128 := hok.len
 have hll := leads_len f.blocks a
 refine V_start (nt := 62) Tryz.func18 rfl rfl rfl ?_
 refine Zb (Zd ?_)
 refine Zc (Zc2 rfl rfl (fun g3 => ?_))
 refine Zc (Zk rfl (Za (Zi (Zb (Zd (Zc (Zj VT.fa34_1 rfl (Zc (Zu 0 VT.ty32 rfl rfl rfl ?_)))))))))
 refine Zc (Zd2 (n := f.blocks.length) Tryz.underlying32 rfl (by simp) (fun hl14 => ?_))
 refine Zc (V_makeRow (.raw (.bool false)) (fun m => rfl) rfl VT.sl56 rfl rfl (by omega) (by omega) (fun g15 => ?_))
 refine Zc (Zk rfl (Za (Zi ?_)))
 rw [flat_falseX, Yk]
 refine Zb (Zd (Zc (Zl rfl (Zc (Zl rfl ?_)))))
 refine Zc (Zr2 VT.sl56 rfl rfl (by omega) (by omega) ?_)
 refine Zc (Zh3 0 a VT.ty4 rfl (by simp) rfl rfl rfl (Ya _).symm (by simp; omega) ?_)
 refine Za (Zi (Zb (Zb (Zd (Zc (Zj VT.fa34_1 rfl (Zc (Zu 1 VT.ty32 rfl rfl rfl ?_))))))))
 refine Zc (Zd2 (n := f.blocks.length) Tryz.underlying32 rfl (by simp) (fun hl21 => ?_))
 refine Zc (Zl rfl (Za (Zi (Zs ?_))))
 refine Zi2 (ι := Nat × List Bool) (fun (r, s) => f.blocks.length - r) (fun (r, s) => [(2, some (.int c)), (3, some (.ptr g3 0)), (7, some (.raw (.slice (some ⟨g15, 0, none⟩) f.blocks.length f.blocks.length))), (21, some (.int f.blocks.length)), (22, some (.int r))]) (fun (r, s) => [.cells g15 4 (s.map V.bool), .cells g3 34 [.int f.name, blocksX f.blocks]]) (fun (r, s) => r ≤ f.blocks.length ∧ s.length = f.blocks.length ∧ roundsR f.blocks (f.blocks.length - r) s = (leadsF f.blocks a)) (0, (Ye f.blocks.length false).set a true) ⟨Yj _, by rw [Yb, Yg], rfl⟩ ⟨rfl, rfl, rfl, rfl, rfl, trivial⟩ (Drops.keepE (congrArg (Own.cells g15 4) (by rw [Ya, List.map_set, List.map_replicate])) (Drops.keep (Zt2 _))) ?_
 rintro ⟨r, s⟩ hA
 change r ≤ f.blocks.length ∧ s.length = f.blocks.length ∧ roundsR f.blocks (f.blocks.length - r) s = (leadsF f.blocks a) at hA
 obtain ⟨hr, hsl, hq⟩ := hA
 refine Zb (Zd (Zc (Zj1 rfl rfl rfl (Za (Zi (Zb ?_))))))
 refine Zn1 rfl (fun h23 => ?_) (fun h23 => ?_)
 ·
  obtain ⟨n, hn⟩ : ∃ n, f.blocks.length - r = n + 1 := ⟨f.blocks.length - r - 1, by omega⟩
  rw [hn, roundsR, show n = f.blocks.length - (r + 1) by omega] at hq
  refine Zi1 (Zi (Zb (Zs (Zb (Zd (Zc (Zj VT.fa34_1 rfl (Zc (Zu 1 VT.ty32 rfl rfl rfl ?_)))))))))
  refine Zc (Zd2 (n := f.blocks.length) Tryz.underlying32 rfl (by simp) (fun hl26 => ?_))
  refine Zc (Zl rfl (Za (Zi (Zs ?_))))
  refine Zi2 (ι := Nat × List Bool) (fun (k, s1) => f.blocks.length - k) (fun (k, s1) => [(2, some (.int c)), (3, some (.ptr g3 0)), (7, some (.raw (.slice (some ⟨g15, 0, none⟩) f.blocks.length f.blocks.length))), (21, some (.int f.blocks.length)), (22, some (.int r)), (25, some (blocksX f.blocks)), (26, some (.int f.blocks.length)), (27, some (.int k))]) (fun (k, s1) => [.cells g15 4 (s1.map V.bool), .cells g3 34 [.int f.name, blocksX f.blocks]]) (fun (k, s1) => k ≤ f.blocks.length ∧ s1.length = f.blocks.length ∧ blocksR k (f.blocks.drop k) s1 = blocksR 0 f.blocks s) (0, s) ⟨Yj _, hsl, rfl⟩ ⟨rfl, rfl, rfl, rfl, rfl, rfl, rfl, rfl, trivial⟩ (Drops.keep (Drops.keep (Zt2 _))) ?_
  rintro ⟨k, s1⟩ hB
  change k ≤ f.blocks.length ∧ s1.length = f.blocks.length ∧ blocksR k (f.blocks.drop k) s1 = blocksR 0 f.blocks s at hB
  obtain ⟨hk, hsl1, hq1⟩ := hB
  refine Zb (Zd (Zc (Zj1 rfl rfl rfl (Za (Zi (Zb ?_))))))
  refine Zn1 rfl (fun h28 => ?_) (fun h28 => ?_)
  ·
   obtain ⟨b, hb⟩ := get_of_lt f.blocks k h28
   rw [drop_cons hb, blocksR] at hq1
   refine Zi1 (Zi (Zb (Zs (Zb (Zd (Zc (Zl rfl ?_)))))))
   refine Zc (Zz (el := blockV b) VT.sl32 rfl rfl (by omega) (get_mapS _ hb) (fun a30 => ?_))
   refine Zc (Za2 VT.ty50 rfl rfl ?_)
   refine Zc (Zb2 VT.zr50 _ rfl rfl (fun g9 => ?_))
   refine Zc (Zk rfl (Zc (Zx 0 VT.ty50 rfl rfl rfl rfl rfl (Za (Zi (Zb (Zd (Zc (Zj VT.fa50_2 rfl (Zc (Zj VT.fa47_4 rfl (Zc (Zu 0 VT.ty45 rfl rfl rfl ?_)))))))))))))
   refine Zc (Zd2 (n := b.term.to.length) Tryz.underlying45 rfl (by simp) (fun hl35 => ?_))
   refine Zc (Zl rfl (Za (Zi (Zs ?_))))
   refine Zi2 (ι := Nat × List Bool) (fun (j, s2) => b.term.to.length - j) (fun (j, s2) => [(2, some (.int c)), (3, some (.ptr g3 0)), (7, some (.raw (.slice (some ⟨g15, 0, none⟩) f.blocks.length f.blocks.length))), (8, some (.int k)), (21, some (.int f.blocks.length)), (22, some (.int r)), (25, some (blocksX f.blocks)), (26, some (.int f.blocks.length)), (27, some (.int k)), (34, some (edgesX b.term.to)), (35, some (.int b.term.to.length)), (36, some (.int j))]) (fun (j, s2) => [.cells g15 4 (s2.map V.bool), .cells g3 34 [.int f.name, blocksX f.blocks]]) (fun (j, s2) => j ≤ b.term.to.length ∧ s2.length = f.blocks.length ∧ edgesR k (b.term.to.drop j) s2 = edgesR k b.term.to s1) (0, s1) ⟨Yj _, hsl1, rfl⟩ ⟨rfl, rfl, rfl, rfl, rfl, rfl, rfl, rfl, rfl, rfl, rfl, rfl, trivial⟩ (Drops.drop (Drops.keep (Drops.keep (Zt2 _)))) ?_
   rintro ⟨j, s2⟩ hC
   change j ≤ b.term.to.length ∧ s2.length = f.blocks.length ∧ edgesR k (b.term.to.drop j) s2 = edgesR k b.term.to s1 at hC
   obtain ⟨hj, hsl2, hq2⟩ := hC
   refine Zb (Zd (Zc (Zj1 rfl rfl rfl (Za (Zi (Zb ?_))))))
   refine Zn1 rfl (fun h37 => ?_) (fun h37 => ?_)
   ·
    obtain ⟨e, he⟩ := get_of_lt b.term.to j h37
    obtain ⟨he1, he2⟩ := hok.edges b (Yc hb) e (Yc he)
    obtain ⟨sk, hsk⟩ := get_of_lt s2 k (by omega)
    obtain ⟨se, hse⟩ := get_of_lt s2 e.block.toNat (by omega)
    rw [drop_cons he] at hq2
    change edgesR k (b.term.to.drop (j + 1)) (if s2[k]?.getD false = true then s2.set e.block.toNat true else s2) = _ at hq2
    refine Zi1 (Zi (Zb (Zs (Zb (Zd ?_)))))
    refine Zc (Zz (el := edgeV e) VT.sl45 rfl rfl (by omega) (get_mapS _ he) (fun a38 => ?_))
    refine Zc (Za2 VT.ty79 rfl rfl ?_)
    refine Zc (Zb2 VT.zr79 _ rfl rfl (fun g11 => ?_))
    refine Zc (Zx 0 VT.ty79 rfl rfl rfl rfl rfl (Za (Zi ?_)))
    rcases Bool.eq_false_or_eq_true (se) with hq48 | hq48
    ·
     have hse2 := hse
     rw [hq48] at hse2
     rw [← lead_T hse2] at hq2
     have hq3 := hq2
     refine VW_drawR (G := Unit) [([], [7], []), ([], [11], []), ([1], [41], []), ([], [7], []), ([], [11], []), ([4], [44], []), ([5, 4, 3], [43, 45], []), ([6, 5, 4, 3], [46], []), ([7, 6, 5, 4, 3], [47], []), ([8, 7, 6, 5, 4, 3], [7, 48], []), ([8, 7, 6, 5, 4, 3], [8, 48], []), ([10, 9, 8, 7, 6, 5, 4, 3], [49, 50, 48], []), ([11, 10, 9, 8, 7, 6, 5, 4, 3], [51, 48], []), ([12, 11, 10, 9, 8, 7, 6, 5, 4, 3], [48, 52], []), (dn 14, [40, 42], []), (dn 15, [54, 53], [])] [15] (setSt _ 1 (fun _ => .cells g15 4 ((s2.map V.bool).set e.block.toNat (V.bool true) ++ []))) [] [40, 41, 42, 43, 44, 45, 46, 47, 48, 49, 50, 51, 52, 53, 54] rfl VT.mix ?_
     refine Zp (Zm _) (Zo rfl rfl ⟨(fun γ => Zf (fun _ h7 => Ze (Zn rfl (Zl h7 z0)))), trivial⟩) ?_
     refine Zp (Zm _) (Zo rfl rfl ⟨(fun γ => Zf (fun _ h11 => Ze (Zn rfl (Zj VT.fa79_0 h11 z0)))), trivial⟩) ?_
     refine Zp (Zm _) (Zo rfl rfl ⟨(fun γ => Zw 1 0 rfl (fun _ h41 => Ze (Zn rfl (Zu 0 VT.ty3 h41 rfl rfl z0)))), trivial⟩) ?_
     refine Zp (Zm _) (Zo rfl rfl ⟨(fun γ => Zf (fun _ h7 => Ze (Zn rfl (Zl h7 z0)))), trivial⟩) ?_
     refine Zp (Zm _) (Zo rfl rfl ⟨(fun γ => Zf (fun _ h11 => Ze (Zn rfl (Zj VT.fa79_0 h11 z0)))), trivial⟩) ?_
     refine Zp (Zm _) (Zo rfl rfl ⟨(fun γ => Zw 4 0 rfl (fun _ h44 => Ze (Zn rfl (Zu 0 VT.ty3 h44 rfl rfl z0)))), trivial⟩) ?_
     refine Zp (Zm _) (Zo rfl rfl ⟨(fun γ => Zw 3 2 rfl (fun _ h43 => Zw 5 0 rfl (fun _ h45 => Ze (Zn rfl (Zr2 VT.sl56 h43 h45 (by omega) (by omega) z0))))), trivial⟩) ?_
     refine Zp (Zm _) (Zo rfl rfl ⟨(fun γ => Zw 6 0 rfl (fun _ h46 => Ze (Zn rfl (Zf3 1 e.block.toNat VT.ty4 h46 (by simp) rfl (Ya _).symm (get_boolX hse) z0)))), trivial⟩) ?_
     refine Zp (Zm _) (Zo rfl rfl ⟨(fun γ => Zw 7 0 rfl (fun _ h47 => Ze (Zn rfl (Zl h47 z0)))), trivial⟩) ?_
     refine Zp (Zm _) (Zo rfl rfl ⟨(fun γ => Zf (fun _ h7 => Zw 8 0 rfl (fun _ h48 => Ze (Zy2 (Zr rfl rfl h48 hq48) z0)))), trivial⟩) ?_
     refine Zp (Zm _) (Zo rfl rfl ⟨(fun γ => Zf (fun _ h8 => Zw 8 1 rfl (fun _ h48 => Ze (Zy2 (Zr rfl rfl h48 hq48) z0)))), trivial⟩) ?_
     refine Zp (Zm _) (Zo rfl rfl ⟨(fun γ => Zw 9 1 rfl (fun _ h49 => Zw 10 0 rfl (fun _ h50 => Zw 8 2 rfl (fun _ h48 => Ze (Zy2 (Zr rfl rfl h48 hq48) z0))))), trivial⟩) ?_
     refine Zp (Zm _) (Zo rfl rfl ⟨(fun γ => Zw 11 0 rfl (fun _ h51 => Zw 8 3 rfl (fun _ h48 => Ze (Zy2 (Zr rfl rfl h48 hq48) z0)))), trivial⟩) ?_
     refine Zp (Zm _) (Zo rfl rfl ⟨(fun γ => Zw 8 4 rfl (fun _ h48 => Zw 12 0 rfl (fun _ h52 => Ze (Zn rfl (Zs1 h48 hq48 rfl z0))))), trivial⟩) ?_
     refine Zp (Zm _) (Zo rfl rfl ⟨(fun γ => Zw 0 13 rfl (fun _ h40 => Zw 2 11 rfl (fun _ h42 => Ze (Zn rfl (Zr2 VT.sl56 h40 h42 (by omega) (by omega) z0))))), trivial⟩) ?_
     refine Zp Za3 (Zn2 rfl (fun γ => Zw 14 0 rfl (fun _ h54 => Zw 13 1 rfl (fun _ h53 => Ze (Zn rfl (Zh3 1 e.block.toNat VT.ty4 h54 (by simp) h53 rfl rfl (Ya _).symm (by rw [Yh]; omega) ⟨default, trivial, rfl⟩)))))) ?_
     refine DrawP_nil (fun γ => Ze ?_)
     refine Zb1 (Zi (Zd ?_))
     refine Zc (Zh2 rfl rfl (by omega) ?_)
     refine Zc (Zl rfl (Za (Zi ?_)))
     exact ⟨(j + 1, s2.set e.block.toNat true), (by (try simp only []); omega), ⟨by omega, by rw [Yb]; exact hsl2, hq3⟩, ⟨rfl, rfl, rfl, rfl, rfl, rfl, rfl, rfl, rfl, rfl, rfl, rfl, trivial⟩, (Drops.drop (Drops.keepE (congrArg (Own.cells g15 4) (bools_setX _ _ _)) (Drops.keep (Zt2 _))))⟩
    ·
     have hse2 := hse
     rw [hq48] at hse2
     rw [← lead_F hse2 hsk] at hq2
     have hq3 := hq2
     refine VW_drawR (G := Unit) [([], [7], []), ([], [11], []), ([1], [41], []), ([], [7], []), ([], [11], []), ([4], [44], []), ([5, 4, 3], [43, 45], []), ([6, 5, 4, 3], [46], []), ([7, 6, 5, 4, 3], [47], []), ([8, 7, 6, 5, 4, 3], [7, 48], []), ([8, 7, 6, 5, 4, 3], [8, 48], []), ([10, 9, 8, 7, 6, 5, 4, 3], [49, 50, 48], []), ([11, 10, 9, 8, 7, 6, 5, 4, 3], [51, 48], []), ([12, 11, 10, 9, 8, 7, 6, 5, 4, 3], [48, 52], []), (dn 14, [40, 42], []), (dn 15, [54, 53], [])] [15] (setSt _ 1 (fun _ => .cells g15 4 ((s2.map V.bool).set e.block.toNat (V.bool sk) ++ []))) [] [40, 41, 42, 43, 44, 45, 46, 47, 48, 49, 50, 51, 52, 53, 54] rfl VT.mix ?_
     refine Zp (Zm _) (Zo rfl rfl ⟨(fun γ => Zf (fun _ h7 => Ze (Zn rfl (Zl h7 z0)))), trivial⟩) ?_
     refine Zp (Zm _) (Zo rfl rfl ⟨(fun γ => Zf (fun _ h11 => Ze (Zn rfl (Zj VT.fa79_0 h11 z0)))), trivial⟩) ?_
     refine Zp (Zm _) (Zo rfl rfl ⟨(fun γ => Zw 1 0 rfl (fun _ h41 => Ze (Zn rfl (Zu 0 VT.ty3 h41 rfl rfl z0)))), trivial⟩) ?_
     refine Zp (Zm _) (Zo rfl rfl ⟨(fun γ => Zf (fun _ h7 => Ze (Zn rfl (Zl h7 z0)))), trivial⟩) ?_
     refine Zp (Zm _) (Zo rfl rfl ⟨(fun γ => Zf (fun _ h11 => Ze (Zn rfl (Zj VT.fa79_0 h11 z0)))), trivial⟩) ?_
     refine Zp (Zm _) (Zo rfl rfl ⟨(fun γ => Zw 4 0 rfl (fun _ h44 => Ze (Zn rfl (Zu 0 VT.ty3 h44 rfl rfl z0)))), trivial⟩) ?_
     refine Zp (Zm _) (Zo rfl rfl ⟨(fun γ => Zw 3 2 rfl (fun _ h43 => Zw 5 0 rfl (fun _ h45 => Ze (Zn rfl (Zr2 VT.sl56 h43 h45 (by omega) (by omega) z0))))), trivial⟩) ?_
     refine Zp (Zm _) (Zo rfl rfl ⟨(fun γ => Zw 6 0 rfl (fun _ h46 => Ze (Zn rfl (Zf3 1 e.block.toNat VT.ty4 h46 (by simp) rfl (Ya _).symm (get_boolX hse) z0)))), trivial⟩) ?_
     refine Zp (Zm _) (Zo rfl rfl ⟨(fun γ => Zw 7 0 rfl (fun _ h47 => Ze (Zn rfl (Zl h47 z0)))), trivial⟩) ?_
     refine Zp (Zm _) (Zo rfl rfl ⟨(fun γ => Zf (fun _ h7 => Zw 8 0 rfl (fun _ h48 => Ze (Zn (Zg rfl rfl h48 hq48) (Zl h7 z0))))), trivial⟩) ?_
     refine Zp (Zm _) (Zo rfl rfl ⟨(fun γ => Zf (fun _ h8 => Zw 8 1 rfl (fun _ h48 => Ze (Zn (Zg rfl rfl h48 hq48) (Zl h8 z0))))), trivial⟩) ?_
     refine Zp (Zm _) (Zo rfl rfl ⟨(fun γ => Zw 9 1 rfl (fun _ h49 => Zw 10 0 rfl (fun _ h50 => Zw 8 2 rfl (fun _ h48 => Ze (Zn (Zg rfl rfl h48 hq48) (Zr2 VT.sl56 h49 h50 (by omega) (by omega) z0)))))), trivial⟩) ?_
     refine Zp (Zm _) (Zo rfl rfl ⟨(fun γ => Zw 11 0 rfl (fun _ h51 => Zw 8 3 rfl (fun _ h48 => Ze (Zn (Zg rfl rfl h48 hq48) (Zf3 1 k VT.ty4 h51 (by simp) rfl (Ya _).symm (get_boolX hsk) z0))))), trivial⟩) ?_
     refine Zp (Zm _) (Zo rfl rfl ⟨(fun γ => Zw 8 4 rfl (fun _ h48 => Zw 12 0 rfl (fun _ h52 => Ze (Zn rfl (Zt1 h48 hq48 h52 z0))))), trivial⟩) ?_
     refine Zp (Zm _) (Zo rfl rfl ⟨(fun γ => Zw 0 13 rfl (fun _ h40 => Zw 2 11 rfl (fun _ h42 => Ze (Zn rfl (Zr2 VT.sl56 h40 h42 (by omega) (by omega) z0))))), trivial⟩) ?_
     refine Zp Za3 (Zn2 rfl (fun γ => Zw 14 0 rfl (fun _ h54 => Zw 13 1 rfl (fun _ h53 => Ze (Zn rfl (Zh3 1 e.block.toNat VT.ty4 h54 (by simp) h53 rfl rfl (Ya _).symm (by rw [Yh]; omega) ⟨default, trivial, rfl⟩)))))) ?_
     refine DrawP_nil (fun γ => Ze ?_)
     refine Zb1 (Zi (Zd ?_))
     refine Zc (Zh2 rfl rfl (by omega) ?_)
     refine Zc (Zl rfl (Za (Zi ?_)))
     exact ⟨(j + 1, s2.set e.block.toNat sk), (by (try simp only []); omega), ⟨by omega, by rw [Yb]; exact hsl2, hq3⟩, ⟨rfl, rfl, rfl, rfl, rfl, rfl, rfl, rfl, rfl, rfl, rfl, rfl, trivial⟩, (Drops.drop (Drops.keepE (congrArg (Own.cells g15 4) (bools_setX _ _ _)) (Drops.keep (Zt2 _))))⟩
   ·
    have hje : j = b.term.to.length := by omega
    subst hje
    rw [Yd] at hq2
    change s2 = _ at hq2
    rw [← hq2] at hq1
    refine Zt (Ze1 (Ze1 (Zc1 (Zb1 (Zi (Zd ?_))))))
    refine Zc (Zh2 rfl rfl (by omega) ?_)
    refine Zc (Zl rfl (Za (Zi ?_)))
    exact ⟨(k + 1, s2), (by (try simp only []); omega), ⟨by omega, hsl2, hq1⟩, ⟨rfl, rfl, rfl, rfl, rfl, rfl, rfl, rfl, trivial⟩, (Drops.keep (Drops.keep (Zt2 _)))⟩
  ·
   have hke : k = f.blocks.length := by omega
   subst hke
   rw [Yd, blocksR] at hq1
   rw [← hq1] at hq
   refine Zt (Ze1 (Ze1 (Zc1 (Zb1 (Zi (Zd ?_))))))
   refine Zc (Zh2 rfl rfl (by omega) ?_)
   refine Zc (Zl rfl (Za (Zi ?_)))
   exact ⟨(r + 1, s1), (by (try simp only []); omega), ⟨by omega, hsl1, hq⟩, ⟨rfl, rfl, rfl, rfl, rfl, trivial⟩, (Drops.keep (Drops.keep (Zt2 _)))⟩
 ·
  rw [show f.blocks.length - r = 0 by omega, roundsR] at hq
  subst hq
  obtain ⟨x, hx⟩ := get_of_lt (leadsF f.blocks a) c (by omega)
  refine Zt (Ze1 (Ze1 (Zc1 (Zi (Zb (Zd (Zc (Zl rfl (Zc (Zl rfl ?_))))))))))
  refine Zc (Zr2 VT.sl56 rfl rfl (by omega) (by omega) ?_)
  refine Zc (Zf3 0 c VT.ty4 rfl (by simp) rfl (Ya _).symm (get_boolX hx) ?_)
  refine Zc (Zk rfl (Za (Zi (Zf1 ?_))))
  refine Zg1 rfl (.tmp rfl) ?_
  rw [hx]
  rfl
set_option maxRecDepth 100000 in
theorem rWithin_c (n a b : Int) : VPure Tryz.prog 44 [.int n, .int a, .int b] (.bool (decide (n ≥ a) && decide (n ≤ b))) := by
 refine V_start (nt := 15) Tryz.func44 rfl rfl rfl ?_
 refine Zb (Zd (Zc (Zk rfl (Za (Zi (Zb (Zd (Zc (Zl rfl (Zc (Zl rfl (Zc (Zj1 rfl rfl rfl (Zc (Zl rfl ?_)))))))))))))))
 refine Zj2 (q := 10) rfl (fun hq10 => ?_) (fun hq10 => ?_)
 ·
  refine Zc (Zl rfl ?_) (Zy1 hq10)
  refine Zc (Zl rfl ?_) (Zy1 hq10)
  refine Zc (Zj1 rfl rfl rfl ?_) (Zy1 hq10)
  refine Zc (Zs1 rfl hq10 rfl ?_)
  refine Zc (Zk rfl (Za (Zi (Zf1 ?_))))
  refine Zg1 rfl (.tmp rfl) ?_
  rw [hq10]; first | done | rfl
 ·
  refine Zk1 hq10 ?_
  refine Zk1 hq10 ?_
  refine Zk1 hq10 ?_
  refine Zc (Zt1 rfl hq10 rfl ?_)
  refine Zc (Zk rfl (Za (Zi (Zf1 ?_))))
  refine Zg1 rfl (.tmp rfl) ?_
  rw [hq10]; first | done | rfl
set_option maxRecDepth 100000 in
set_option maxHeartbeats 8000000 in
theorem rReach_c {f : SFunc} (h : funcF f = 0) : VPure Tryz.prog 16 [funcV f, .int (-1)] (.sl 1 none ((reachF f.blocks).map V.bool)) := by
 have hok := func_ok h
 have hbp := hok.pos
 have h128 := hok.len
 refine V_start (nt := 73) Tryz.func16 rfl rfl rfl ?_
 refine Zb (Zd ?_)
 refine Zc (Zc2 rfl rfl (fun g2 => ?_))
 refine Zc (Zk rfl (Za (Zi (Zb (Zd (Zc (Zj VT.fa34_1 rfl (Zc (Zu 0 VT.ty32 rfl rfl rfl ?_)))))))))
 refine Zc (Zd2 (n := f.blocks.length) Tryz.underlying32 rfl (by simp) (fun hl12 => ?_))
 refine Zc (V_makeRow (.raw (.bool false)) (fun m => rfl) rfl VT.sl56 rfl rfl (by omega) (by omega) (fun g13 => ?_))
 refine Zc (Zk rfl (Za (Zi ?_)))
 rw [flat_falseX, Yk]
 refine Zb (Zb (Zd (Zc (Zl rfl (Zc (Zj1 rfl rfl rfl (Zc (Zl rfl ?_))))))))
 refine Zj2 (q := 16) rfl (fun hq16 => ?_) (fun hq16 => ?_)
 · exact absurd hq16 (by decide)
 ·
  refine Zc (Zj VT.fa34_1 rfl ?_) (Zy0 hq16)
  refine Zc (Zu 1 VT.ty32 rfl rfl rfl ?_) (Zy0 hq16)
  refine Zc (Zd2 (n := f.blocks.length) Tryz.underlying32 rfl (by simp) (fun hl19 => ?_)) (Zy0 hq16)
  refine Zc (Zj1 rfl rfl rfl ?_) (Zy0 hq16)
  refine Zc (Zt1 rfl hq16 rfl ?_)
  refine Za (Zi ?_)
  refine Zl1 rfl (fun h21 => ?_) (fun h21 => ?_)
  · omega
  ·
   refine Zi1 (Zi (Zb (Zd (Zc (Zl rfl ?_)))))
   refine Zc (Zr2 VT.sl56 rfl rfl (by omega) (by omega) ?_)
   refine Zc (Zh3 0 0 VT.ty4 rfl (by simp) rfl rfl rfl (Ya _).symm (by simp; omega) ?_)
   refine Za (Zi (Zb (Zb (Zd (Zc (Zj VT.fa34_1 rfl (Zc (Zu 1 VT.ty32 rfl rfl rfl ?_))))))))
   refine Zc (Zd2 (n := f.blocks.length) Tryz.underlying32 rfl (by simp) (fun hl27 => ?_))
   refine Zc (Zl rfl (Za (Zi (Zs ?_))))
   refine Zi2 (ι := Nat × List Bool) (fun (r, s) => f.blocks.length - r) (fun (r, s) => [(1, some (.int (-1))), (2, some (.ptr g2 0)), (5, some (.raw (.slice (some ⟨g13, 0, none⟩) f.blocks.length f.blocks.length))), (27, some (.int f.blocks.length)), (28, some (.int r))]) (fun (r, s) => [.cells g13 4 (s.map V.bool), .cells g2 34 [.int f.name, blocksX f.blocks]]) (fun (r, s) => r ≤ f.blocks.length ∧ s.length = f.blocks.length ∧ roundsR f.blocks (f.blocks.length - r) s = reachF f.blocks) (0, (Ye f.blocks.length false).set 0 true) ⟨Yj _, by rw [Yb, Yg], rfl⟩ ⟨rfl, rfl, rfl, rfl, rfl, trivial⟩ (Drops.keepE (congrArg (Own.cells g13 4) (by rw [Ya, List.map_set, List.map_replicate])) (Drops.keep (Zt2 _))) ?_
   rintro ⟨r, s⟩ hA
   change r ≤ f.blocks.length ∧ s.length = f.blocks.length ∧ roundsR f.blocks (f.blocks.length - r) s = reachF f.blocks at hA
   obtain ⟨hr, hsl, hq⟩ := hA
   refine Zb (Zd (Zc (Zj1 rfl rfl rfl (Za (Zi (Zb ?_))))))
   refine Zn1 rfl (fun h29 => ?_) (fun h29 => ?_)
   ·
    obtain ⟨n, hn⟩ : ∃ n, f.blocks.length - r = n + 1 := ⟨f.blocks.length - r - 1, by omega⟩
    rw [hn, roundsR, show n = f.blocks.length - (r + 1) by omega] at hq
    refine Zi1 (Zi (Zb (Zs (Zb (Zd (Zc (Zj VT.fa34_1 rfl (Zc (Zu 1 VT.ty32 rfl rfl rfl ?_)))))))))
    refine Zc (Zd2 (n := f.blocks.length) Tryz.underlying32 rfl (by simp) (fun hl32 => ?_))
    refine Zc (Zl rfl (Za (Zi (Zs ?_))))
    refine Zi2 (ι := Nat × List Bool) (fun (k, s1) => f.blocks.length - k) (fun (k, s1) => [(1, some (.int (-1))), (2, some (.ptr g2 0)), (5, some (.raw (.slice (some ⟨g13, 0, none⟩) f.blocks.length f.blocks.length))), (27, some (.int f.blocks.length)), (28, some (.int r)), (31, some (blocksX f.blocks)), (32, some (.int f.blocks.length)), (33, some (.int k))]) (fun (k, s1) => [.cells g13 4 (s1.map V.bool), .cells g2 34 [.int f.name, blocksX f.blocks]]) (fun (k, s1) => k ≤ f.blocks.length ∧ s1.length = f.blocks.length ∧ blocksR k (f.blocks.drop k) s1 = blocksR 0 f.blocks s) (0, s) ⟨Yj _, hsl, rfl⟩ ⟨rfl, rfl, rfl, rfl, rfl, rfl, rfl, rfl, trivial⟩ (Drops.keep (Drops.keep (Zt2 _))) ?_
    rintro ⟨k, s1⟩ hB
    change k ≤ f.blocks.length ∧ s1.length = f.blocks.length ∧ blocksR k (f.blocks.drop k) s1 = blocksR 0 f.blocks s at hB
    obtain ⟨hk, hsl1, hq1⟩ := hB
    refine Zb (Zd (Zc (Zj1 rfl rfl rfl (Za (Zi (Zb ?_))))))
    refine Zn1 rfl (fun h34 => ?_) (fun h34 => ?_)
    ·
     obtain ⟨b, hb⟩ := get_of_lt f.blocks k h34
     rw [drop_cons hb, blocksR] at hq1
     refine Zi1 (Zi (Zb (Zs (Zb (Zd (Zc (Zl rfl ?_)))))))
     refine Zc (Zz (el := blockV b) VT.sl32 rfl rfl (by omega) (get_mapS _ hb) (fun a36 => ?_))
     refine Zc (Za2 VT.ty50 rfl rfl ?_)
     refine Zc (Zb2 VT.zr50 _ rfl rfl (fun g7 => ?_))
     refine Zc (Zk rfl (Zc (Zx 0 VT.ty50 rfl rfl rfl rfl rfl (Za (Zi (Zb (Zd (Zc (Zj VT.fa50_2 rfl (Zc (Zj VT.fa47_4 rfl (Zc (Zu 0 VT.ty45 rfl rfl rfl ?_)))))))))))))
     refine Zc (Zd2 (n := b.term.to.length) Tryz.underlying45 rfl (by simp) (fun hl41 => ?_))
     refine Zc (Zl rfl (Za (Zi (Zs ?_))))
     refine Zi2 (ι := Nat × List Bool) (fun (j, s2) => b.term.to.length - j) (fun (j, s2) => [(1, some (.int (-1))), (2, some (.ptr g2 0)), (5, some (.raw (.slice (some ⟨g13, 0, none⟩) f.blocks.length f.blocks.length))), (6, some (.int k)), (27, some (.int f.blocks.length)), (28, some (.int r)), (31, some (blocksX f.blocks)), (32, some (.int f.blocks.length)), (33, some (.int k)), (40, some (edgesX b.term.to)), (41, some (.int b.term.to.length)), (42, some (.int j))]) (fun (j, s2) => [.cells g13 4 (s2.map V.bool), .cells g2 34 [.int f.name, blocksX f.blocks]]) (fun (j, s2) => j ≤ b.term.to.length ∧ s2.length = f.blocks.length ∧ edgesR k (b.term.to.drop j) s2 = edgesR k b.term.to s1) (0, s1) ⟨Yj _, hsl1, rfl⟩ ⟨rfl, rfl, rfl, rfl, rfl, rfl, rfl, rfl, rfl, rfl, rfl, rfl, trivial⟩ (Drops.drop (Drops.keep (Drops.keep (Zt2 _)))) ?_
     rintro ⟨j, s2⟩ hC
     change j ≤ b.term.to.length ∧ s2.length = f.blocks.length ∧ edgesR k (b.term.to.drop j) s2 = edgesR k b.term.to s1 at hC
     obtain ⟨hj, hsl2, hq2⟩ := hC
     refine Zb (Zd (Zc (Zj1 rfl rfl rfl (Za (Zi (Zb ?_))))))
     refine Zn1 rfl (fun h43 => ?_) (fun h43 => ?_)
     ·
      obtain ⟨e, he⟩ := get_of_lt b.term.to j h43
      obtain ⟨he1, he2⟩ := hok.edges b (Yc hb) e (Yc he)
      obtain ⟨sk, hsk⟩ := get_of_lt s2 k (by omega)
      rw [drop_cons he] at hq2
      change edgesR k (b.term.to.drop (j + 1)) (if s2[k]?.getD false = true then s2.set e.block.toNat true else s2) = _ at hq2
      rw [hsk] at hq2
      refine Zi1 (Zi (Zb (Zs (Zb (Zd ?_)))))
      refine Zc (Zz (el := edgeV e) VT.sl45 rfl rfl (by omega) (get_mapS _ he) (fun a44 => ?_))
      refine Zc (Za2 VT.ty79 rfl rfl ?_)
      refine Zc (Zb2 VT.zr79 _ rfl rfl (fun g9 => ?_))
      refine Zc (Zx 0 VT.ty79 rfl rfl rfl rfl rfl (Za (Zi (Zb (Zd (Zc (Zl rfl (Zc (Zl rfl ?_)))))))))
      refine Zc (Zr2 VT.sl56 rfl rfl (by omega) (by omega) ?_)
      refine Zc (Zf3 1 k VT.ty4 rfl (by simp) rfl (Ya _).symm (get_boolX hsk) ?_)
      refine Zc (Zl rfl ?_)
      refine Zj2 (q := 50) rfl (fun hq50 => ?_) (fun hq50 => ?_)
      ·
       rw [if_pos (show (some sk).getD false = true from hq50)] at hq2
       refine Zc (Zj VT.fa79_0 rfl ?_) (Zy1 hq50)
       refine Zc (Zu 0 VT.ty3 rfl rfl rfl ?_) (Zy1 hq50)
       refine Zc (Zl rfl ?_) (Zy1 hq50)
       refine Zc (Zj1 rfl rfl rfl ?_) (Zy1 hq50)
       refine Zc (Zs1 rfl hq50 rfl ?_)
       refine Zc (Zl rfl ?_)
       refine Zj2 (q := 56) rfl (fun hq56 => ?_) (fun hq56 => ?_)
       ·
        refine Zc (Zj VT.fa79_0 rfl ?_) (Zy1 hq56)
        refine Zc (Zu 0 VT.ty3 rfl rfl rfl ?_) (Zy1 hq56)
        refine Zc (Zj VT.fa34_1 rfl ?_) (Zy1 hq56)
        refine Zc (Zu 2 VT.ty32 rfl rfl rfl ?_) (Zy1 hq56)
        refine Zc (Zd2 (n := f.blocks.length) Tryz.underlying32 rfl (by simp) (fun hl61 => ?_)) (Zy1 hq56)
        refine Zc (Zk2 rfl rfl (by omega) ?_) (Zy1 hq56)
        refine Zc (Zx1 [.tmp 58, .const (.int .i64 (0)), .tmp 62] rfl rfl VT.en44 (rWithin_c e.block 0 ((f.blocks.length : Int) - 1)) ?_) (Zy1 hq56)
        refine Zc (Zs1 rfl hq56 rfl ?_)
        refine Za (Zi ?_)
        refine Zr1 rfl (fun h64 => ?_) (fun h64 => ?_)
        ·
         have hsl3 : (s2.set e.block.toNat true).length = f.blocks.length := by rw [Yb]; exact hsl2
         have hq3 := hq2
         refine Zd (Zc (Zl rfl (Zc (Zj VT.fa79_0 rfl (Zc (Zu 0 VT.ty3 rfl rfl rfl ?_))))))
         refine Zc (Zr2 VT.sl56 rfl rfl (by omega) (by omega) ?_)
         refine Zc (Zh3 1 e.block.toNat VT.ty4 rfl (by simp) rfl rfl rfl (Ya _).symm (by rw [Yh]; omega) ?_)
         refine Za (Zb1 (Zi (Zd ?_)))
         refine Zc (Zh2 rfl rfl (by omega) ?_)
         refine Zc (Zl rfl (Za (Zi ?_)))
         exact ⟨(j + 1, s2.set e.block.toNat true), (by (try simp only []); omega), ⟨by omega, hsl3, hq3⟩, ⟨rfl, rfl, rfl, rfl, rfl, rfl, rfl, rfl, rfl, rfl, rfl, rfl, trivial⟩, (Drops.drop (Drops.keepE (by first | rfl | exact congrArg (Own.cells g13 4) (bools_setX _ _ _)) (Drops.keep (Zt2 _))))⟩
        · have h9 : (decide (e.block ≥ 0) && decide (e.block ≤ (f.blocks.length : Int) - 1)) = true := (by rw [Bool.and_eq_true, decide_eq_true_eq, decide_eq_true_eq]; omega); rw [h9] at h64; cases h64
       · exact absurd hq56 (by simp; omega)
      ·
       rw [if_neg (show ¬ (some sk).getD false = true from by rw [hq50]; decide)] at hq2
       refine Zk1 hq50 ?_
       refine Zk1 hq50 ?_
       refine Zk1 hq50 ?_
       refine Zk1 hq50 ?_
       refine Zc (Zt1 rfl hq50 rfl ?_)
       refine Zc (Zl rfl ?_)
       refine Zk1 rfl ?_
       refine Zk1 rfl ?_
       refine Zk1 rfl ?_
       refine Zk1 rfl ?_
       refine Zk1 rfl ?_
       refine Zk1 rfl ?_
       refine Zk1 rfl ?_
       refine Zc (Zt1 rfl rfl rfl (Za (Zi ?_)))
       refine Zq1 rfl rfl ?_
       have hsl3 := hsl2
       have hq3 := hq2
       refine Zi1 (Zb1 (Zi (Zd ?_)))
       refine Zc (Zh2 rfl rfl (by omega) ?_)
       refine Zc (Zl rfl (Za (Zi ?_)))
       exact ⟨(j + 1, s2), (by (try simp only []); omega), ⟨by omega, hsl3, hq3⟩, ⟨rfl, rfl, rfl, rfl, rfl, rfl, rfl, rfl, rfl, rfl, rfl, rfl, trivial⟩, (Drops.drop (Drops.keepE (by first | rfl | exact congrArg (Own.cells g13 4) (bools_setX _ _ _)) (Drops.keep (Zt2 _))))⟩
     ·
      have hje : j = b.term.to.length := by omega
      subst hje
      rw [Yd] at hq2
      change s2 = _ at hq2
      rw [← hq2] at hq1
      refine Zt (Ze1 (Ze1 (Zc1 (Zb1 (Zi (Zd ?_))))))
      refine Zc (Zh2 rfl rfl (by omega) ?_)
      refine Zc (Zl rfl (Za (Zi ?_)))
      exact ⟨(k + 1, s2), (by (try simp only []); omega), ⟨by omega, hsl2, hq1⟩, ⟨rfl, rfl, rfl, rfl, rfl, rfl, rfl, rfl, trivial⟩, (Drops.keep (Drops.keep (Zt2 _)))⟩
    ·
     have hke : k = f.blocks.length := by omega
     subst hke
     rw [Yd, blocksR] at hq1
     rw [← hq1] at hq
     refine Zt (Ze1 (Ze1 (Zc1 (Zb1 (Zi (Zd ?_))))))
     refine Zc (Zh2 rfl rfl (by omega) ?_)
     refine Zc (Zl rfl (Za (Zi ?_)))
     exact ⟨(r + 1, s1), (by (try simp only []); omega), ⟨by omega, hsl1, hq⟩, ⟨rfl, rfl, rfl, rfl, rfl, trivial⟩, (Drops.keep (Drops.keep (Zt2 _)))⟩
   ·
    rw [show f.blocks.length - r = 0 by omega, roundsR] at hq
    refine Zt (Ze1 (Ze1 (Zc1 (Zi ?_))))
    refine VW_freeze 0 (q := 5) (rest := []) (s.map V.bool) rfl rfl (by rw [flat_boolsX, Ya]) (by simp [hsl]) (Nat.le_refl _) (by simp only [maxLen]; omega) (fits_boolsX _) ?_
    refine Zb (Zd (Zc (Zl rfl (Zc (Zk rfl (Za (Zi (Zf1 ?_))))))))
    refine Zg1 rfl (.tmp rfl) ?_
    rw [← hq]
set_option maxRecDepth 100000 in
set_option maxHeartbeats 16000000 in
theorem loopsReducible_c (f : SFunc) : VPure Tryz.prog 4 [funcV f] (.bool true) := by
 refine V_start (nt := 94) Tryz.func4 rfl rfl rfl ?_
 refine Zb (Zd ?_)
 refine Zc (Zc2 rfl rfl (fun g1 => ?_))
 refine Zc (Zk rfl (Za (Zi (Zb (Zb (Zd ?_))))))
 refine Zc (Zx1 [] rfl rfl VT.en5 (works_c) ?_)
 refine Zc (Zl2 rfl (Za (Zi ?_)))
 refine Zq1 rfl (rfl) ?_
 refine Zi1 (Zi (Zb (Zd (Zc (Zv 0 VT.ty34 rfl rfl rfl ?_)))))
 by_cases h0 : funcF f = 0
 ·
  have hok := func_ok h0
  have h128 := hok.len
  refine Zc (Zx1 [.tmp 19] rfl rfl VT.en15 (Red_0 h0) ?_)
  refine Zc (Zl rfl (Zc (Zg2 rfl rfl (Zc (Zg2 rfl rfl (Zc (Zk rfl (Zc (Zk rfl (Za (Zi (Zb (Zb (Zd (Zc (Zl rfl (Zc (Zj1 rfl rfl rfl (Za (Zi ?_))))))))))))))))))))
  refine Zm1 rfl (fun h24 => ?_) (fun h24 => ?_)
  · exact absurd rfl h24
  ·
   refine Zi1 (Zi ?_)
   refine VW_cutF [(1, some (.ptr g1 0)), (3, some (.bool (redF f)))] [.cells g1 34 [.int f.name, blocksX f.blocks]] ?_ ?_
   ·
    refine Zb (Zd (Zc (Zv 0 VT.ty34 rfl rfl rfl ?_)))
    by_cases hl : BigP f
    ·
     refine Zc (Zx1 [.tmp 28] rfl rfl VT.en9 (Pre_big h0 hl) ?_)
     refine Zc (Zl rfl (Zc (Zg2 rfl rfl (Zc (Zg2 rfl rfl ?_)))))
     refine Zc (Zb2 VT.zr34 _ rfl rfl (fun g5 => ?_))
     refine Zc (Zx 0 VT.ty34 rfl rfl rfl rfl rfl (Zc (Zk rfl (Za (Zi (Zb (Zd (Zc (Zl rfl (Zc (Zj1 rfl rfl rfl (Za (Zi ?_)))))))))))))
     refine Zl1 rfl (fun h33 => ?_) (fun h33 => ?_)
     · exact absurd h33 (by decide)
     ·
      refine Zi1 (Zi ?_)
      exact ⟨⟨rfl, rfl, trivial⟩, (Drops.drop (Drops.keep (Zt2 _)))⟩
    ·
     have g0 := pre_fine h0 hl
     have hlaw := red_pre h0 hl
     refine Zc (Zx1 [.tmp 28] rfl rfl VT.en9 (Pre_0 h0 hl) ?_)
     refine Zc (Zl rfl (Zc (Zg2 rfl rfl (Zc (Zg2 rfl rfl ?_)))))
     refine Zc (Zb2 VT.zr34 _ rfl rfl (fun g5 => ?_))
     refine Zc (Zx 0 VT.ty34 rfl rfl rfl rfl rfl (Zc (Zk rfl (Za (Zi (Zb (Zd (Zc (Zl rfl (Zc (Zj1 rfl rfl rfl (Za (Zi ?_)))))))))))))
     refine Zl1 rfl (fun h33 => ?_) (fun h33 => ?_)
     ·
      refine Zb (Zd (Zc (Zv 0 VT.ty34 rfl rfl rfl ?_)))
      refine Zc (Zx1 [.tmp 35] rfl rfl VT.en15 (Red_0 g0) ?_)
      refine Zc (Zl rfl (Zc (Zg2 rfl rfl (Zc (Zg2 rfl rfl (Zc (Zk rfl (Zc (Zk rfl (Za (Zi (Zb (Zd (Zc (Zl rfl (Zc (Zj1 rfl rfl rfl (Zc (Zl rfl ?_)))))))))))))))))))
      refine Zj2 (q := 41) rfl (fun hq41 => ?_) (fun hq41 => ?_)
      · exact absurd hq41 (by decide)
      ·
       refine Zc (Zl rfl ?_) (Zy0 hq41)
       refine Zc (Zl rfl ?_) (Zy0 hq41)
       refine Zc (V_boolne Tryz.underlying4 rfl rfl ?_) (Zy0 hq41)
       refine Zc (Zt1 rfl hq41 rfl ?_)
       refine Za (Zi ?_)
       refine Zr1 rfl (fun h45 => ?_) (fun h45 => ?_)
       · exact absurd h45 (by rw [hlaw]; simp)
       ·
        refine Zi1 (Zi ?_)
        exact ⟨⟨rfl, rfl, trivial⟩, (Drops.drop (Drops.keep (Zt2 _)))⟩
     · exact absurd rfl h33
   ·
    refine Zb (Zd (Zc (Zv 0 VT.ty34 rfl rfl rfl ?_)))
    refine Zc (Zm3 [.tmp 47] [] _ rfl rfl VT.en10 (.refl _) (Find_0 h0) ?_)
    rintro _ _ ⟨rfl, L3, hI, rfl⟩
    refine Zc (Zl rfl (Zc (Zg2 rfl rfl (Zc (Zg2 rfl rfl (Zc (Zk rfl (Zc (Zk rfl (Za (Zi (Zb (Zb (Zd (Zc (Zl rfl (Zc (Zj1 rfl rfl rfl (Zc (Zl rfl ?_))))))))))))))))))))
    refine Zj2 (q := 53) rfl (fun hq53 => ?_) (fun hq53 => ?_)
    · exact absurd hq53 (by decide)
    ·
     refine Zc (Zl rfl ?_) (Zy0 hq53)
     refine Zc (Zd2 (n := L3.length) Tryz.underlying35 rfl (by simp) (fun hl55 => ?_)) (Zy0 hq53)
     refine Zc (Zj1 rfl rfl rfl ?_) (Zy0 hq53)
     refine Zc (Zt1 rfl hq53 rfl ?_)
     refine Za (Zi ?_)
     refine Zn1 rfl (fun h57 => ?_) (fun h57 => ?_)
     ·
      refine Zb (Zd (Zc (Zl rfl (Zc (Zj1 rfl rfl rfl (Zc (Zk rfl (Za (Zi (Zf1 ?_))))))))))
      refine Zd1 (Zg1 rfl (.tmp rfl) ?_)
      first | rfl | (rw [hq, hlw]; exact congrArg V.bool (not_ne _))
     ·
      have hno : findF f = [] := by rw [← hI.1, List.length_eq_zero_iff.1 (show L3.length = 0 by omega)]; rfl
      refine Zi1 (Zi (Zb (Zd (Zc (Zk rfl (Za (Zi (Zb (Zd (Zc (Zv 0 VT.ty34 rfl rfl rfl ?_)))))))))))
      refine Zc (Zx1 [.tmp 60, .const (.int .i64 (-1))] rfl rfl VT.en16 (rReach_c h0) ?_)
      refine Zc (Zk rfl (Za (Zi (Zb (Zb (Zd (Zc (Zj VT.fa34_1 rfl (Zc (Zu 0 VT.ty32 rfl rfl rfl ?_))))))))))
      refine Zc (Zd2 (n := f.blocks.length) Tryz.underlying32 rfl (by simp) (fun hl64 => ?_))
      refine Zc (Zl rfl (Za (Zi (Zs ?_))))
      refine Zi2 (ι := Nat × Bool) (fun (k, c) => f.blocks.length - k) (fun (k, c) => [(1, some (.ptr g1 0)), (3, some (.bool (redF f))), (12, some (.sl 1 none ((reachF f.blocks).map V.bool))), (63, some (blocksX f.blocks)), (64, some (.int f.blocks.length)), (65, some (.int k)), (11, some (.bool c))]) (fun (k, c) => [.cells g1 34 [.int f.name, blocksX f.blocks]]) (fun (k, c) => k ≤ f.blocks.length ∧ c = (Yf k).any fun k => cycK f k (prR k 0 f.blocks)) (0, false) ⟨Yj _, rfl⟩ ⟨rfl, rfl, rfl, rfl, rfl, rfl, rfl, trivial⟩ (Drops.keep (Zt2 _)) ?_
      rintro ⟨k, c⟩ hA
      change k ≤ f.blocks.length ∧ c = (Yf k).any fun k => cycK f k (prR k 0 f.blocks) at hA
      obtain ⟨hk, hq⟩ := hA
      refine Zb (Zd (Zc (Zj1 rfl rfl rfl (Za (Zi (Zb ?_))))))
      refine Zn1 rfl (fun h66 => ?_) (fun h66 => ?_)
      ·
       refine Zi1 (Zi (Zb (Zs (Zb (Zd (Zc (Zl rfl (Zc (Zk rfl (Za (Zi (Zb (Zd (Zc (Zv 0 VT.ty34 rfl rfl rfl (Zc (Zl rfl ?_)))))))))))))))))
       refine Zc (Zx1 [.tmp 68, .tmp 69] rfl rfl VT.en17 (rPreds_c h0 (k : Int)) ?_)
       refine Zc (Zd2 (n := (prR (k : Int) 0 f.blocks).length) Tryz.underlying41 rfl (by simp) (fun hl71 => ?_))
       refine Zc (Zl rfl (Za (Zi (Zs ?_))))
       refine Zi2 (ι := Nat × Bool) (fun (j, c2) => (prR (k : Int) 0 f.blocks).length - j) (fun (j, c2) => [(1, some (.ptr g1 0)), (3, some (.bool (redF f))), (12, some (.sl 1 none ((reachF f.blocks).map V.bool))), (63, some (blocksX f.blocks)), (64, some (.int f.blocks.length)), (65, some (.int k)), (11, some (.bool c2)), (13, some (.int k)), (70, some (intsX (prR (k : Int) 0 f.blocks))), (71, some (.int (prR (k : Int) 0 f.blocks).length)), (72, some (.int j))]) (fun (j, c2) => [.cells g1 34 [.int f.name, blocksX f.blocks]]) (fun (j, c2) => j ≤ (prR (k : Int) 0 f.blocks).length ∧ c2 = (c || cycK f k ((prR (k : Int) 0 f.blocks).take j))) (0, c) ⟨Yj _, (Bool.or_false c).symm⟩ ⟨rfl, rfl, rfl, rfl, rfl, rfl, rfl, rfl, rfl, rfl, rfl, trivial⟩ (Drops.keep (Zt2 _)) ?_
       rintro ⟨j, c2⟩ hB
       change j ≤ (prR (k : Int) 0 f.blocks).length ∧ c2 = (c || cycK f k ((prR (k : Int) 0 f.blocks).take j)) at hB
       obtain ⟨hj, hq2⟩ := hB
       refine Zb (Zd (Zc (Zj1 rfl rfl rfl (Za (Zi (Zb ?_))))))
       refine Zn1 rfl (fun h73 => ?_) (fun h73 => ?_)
       ·
        obtain ⟨p, hp⟩ := get_of_lt (prR (k : Int) 0 f.blocks) j h73
        obtain ⟨m, b, rfl, hb, _⟩ := prR_mem.1 (Yc hp)
        rw [Nat.zero_add] at hp
        have hml := (Yi.1 hb).1
        have hrl := reachF_len f.blocks
        obtain ⟨sp, hsp⟩ := get_of_lt (reachF f.blocks) m (by omega)
        have hcs := cyc_step (f := f) (k := k) hp
        rw [Yk, hsp] at hcs
        refine Zi1 (Zi (Zb (Zs (Zb (Zd ?_)))))
        refine Zc (Zz (el := V.int (m : Int)) VT.sl41 rfl rfl (by omega) (get_int hp) (fun a74 => ?_))
        refine Zc (Zz1 VT.ty3 rfl rfl (Zc (Zk rfl (Za (Zi (Zd (Zc (Zl rfl (Zc (Zl rfl ?_))))))))))
        refine Zj2 (q := 77) rfl (fun hq77 => ?_) (fun hq77 => ?_)
        ·
         have hA3 : j + 1 ≤ (prR (k : Int) 0 f.blocks).length ∧ true = (c || cycK f k ((prR (k : Int) 0 f.blocks).take (j + 1))) := ⟨by omega, by rw [hcs, ← Bool.or_assoc, ← hq2, hq77]; rfl⟩
         refine Zk0 hq77 ?_
         refine Zk0 hq77 ?_
         refine Zk0 hq77 ?_
         refine Zk0 hq77 ?_
         refine Zk0 hq77 ?_
         refine Zh (.inr ⟨_, _, 82, rfl, rfl, rfl⟩) rfl ?_
         refine Zh (.inr ⟨_, _, 82, rfl, rfl, rfl⟩) rfl ?_
         refine Zh (.inr ⟨_, _, 82, rfl, rfl, rfl⟩) rfl ?_
         refine Zh (.inr ⟨_, _, 82, rfl, rfl, rfl⟩) rfl ?_
         refine Zk0 hq77 ?_
         refine Zc (Zs1 rfl hq77 rfl ?_)
         refine Zc (Zk rfl (Za (Zb1 (Zi (Zd ?_)))))
         refine Zc (Zh2 rfl rfl (by omega) ?_)
         refine Zc (Zl rfl (Za (Zi ?_)))
         exact ⟨(j + 1, true), (by (try simp only []); omega), hA3, ⟨rfl, rfl, rfl, rfl, rfl, rfl, rfl, rfl, rfl, rfl, rfl, trivial⟩, (Drops.keep (Zt2 _))⟩
        ·
         refine Zc (Zl rfl ?_) (Zy0 hq77)
         refine Zc (Zl rfl ?_) (Zy0 hq77)
         refine Zc (Zz (el := V.bool sp) VT.sl56 rfl rfl (by omega) (get_boolX (by rw [Yk]; exact hsp)) (fun a80 => ?_)) (Zy0 hq77)
         refine Zc (Zz1 VT.ty4 rfl rfl ?_) (Zy0 hq77)
         refine Zc (Zl rfl ?_) (Zy0 hq77)
         refine Zj2 (q := 82) rfl (fun hq82 => ?_) (fun hq82 => ?_)
         ·
          have hA3 : j + 1 ≤ (prR (k : Int) 0 f.blocks).length ∧ ((leadsF f.blocks k)[m]?.getD false) = (c || cycK f k ((prR (k : Int) 0 f.blocks).take (j + 1))) := ⟨by omega, by rw [hcs, ← Bool.or_assoc, ← hq2, hq77, hq82]; rfl⟩
          refine Zc (Zv 0 VT.ty34 rfl rfl rfl ?_) (Zy1 hq82)
          refine Zc (Zl rfl ?_) (Zy1 hq82)
          refine Zc (Zl rfl ?_) (Zy1 hq82)
          refine Zc (Zx1 [.tmp 83, .tmp 84, .tmp 85] rfl rfl VT.en18 (leads_c h0 k m (by omega) hml) ?_) (Zy1 hq82)
          refine Zc (Zs1 rfl hq82 rfl ?_) (Zy0 hq77)
          refine Zc (Zt1 rfl hq77 rfl ?_)
          refine Zc (Zk rfl (Za (Zb1 (Zi (Zd ?_)))))
          refine Zc (Zh2 rfl rfl (by omega) ?_)
          refine Zc (Zl rfl (Za (Zi ?_)))
          exact ⟨(j + 1, ((leadsF f.blocks k)[m]?.getD false)), (by (try simp only []); omega), hA3, ⟨rfl, rfl, rfl, rfl, rfl, rfl, rfl, rfl, rfl, rfl, rfl, trivial⟩, (Drops.keep (Zt2 _))⟩
         ·
          have hA3 : j + 1 ≤ (prR (k : Int) 0 f.blocks).length ∧ false = (c || cycK f k ((prR (k : Int) 0 f.blocks).take (j + 1))) := ⟨by omega, by rw [hcs, ← Bool.or_assoc, ← hq2, hq77, hq82]; rfl⟩
          refine Zk1 hq82 ?_
          refine Zk1 hq82 ?_
          refine Zk1 hq82 ?_
          refine Zk1 hq82 ?_
          refine Zc (Zt1 rfl hq82 rfl ?_) (Zy0 hq77)
          refine Zc (Zt1 rfl hq77 rfl ?_)
          refine Zc (Zk rfl (Za (Zb1 (Zi (Zd ?_)))))
          refine Zc (Zh2 rfl rfl (by omega) ?_)
          refine Zc (Zl rfl (Za (Zi ?_)))
          exact ⟨(j + 1, false), (by (try simp only []); omega), hA3, ⟨rfl, rfl, rfl, rfl, rfl, rfl, rfl, rfl, rfl, rfl, rfl, trivial⟩, (Drops.keep (Zt2 _))⟩
       ·
        have hje : j = (prR (k : Int) 0 f.blocks).length := by omega
        subst hje
        rw [List.take_length] at hq2
        refine Zt (Ze1 (Ze1 (Zc1 (Zb1 (Zi (Zd ?_))))))
        refine Zc (Zh2 rfl rfl (by omega) ?_)
        refine Zc (Zl rfl (Za (Zi ?_)))
        exact ⟨(k + 1, c2), (by (try simp only []); omega), ⟨by omega, by rw [cyc_range, ← hq]; exact hq2⟩, ⟨rfl, rfl, rfl, rfl, rfl, rfl, rfl, trivial⟩, (Drops.keep (Zt2 _))⟩
      ·
       have hke : k = f.blocks.length := by omega
       subst hke
       have hlw := cyc_law hok hno
       refine Zt (Ze1 (Ze1 (Zc1 (Zi (Zb (Zd (Zc (Zl rfl (Zc (Zl rfl ?_))))))))))
       refine Zc (V_boolne Tryz.underlying4 rfl rfl ?_)
       refine Zc (Zk rfl (Za (Zi (Zf1 ?_))))
       refine Zg1 rfl (.tmp rfl) ?_
       first | rfl | (rw [hq, hlw]; exact congrArg V.bool (not_ne _))
 ·
  refine Zc (Zx1 [.tmp 19] rfl rfl VT.en15 (Red_e h0) ?_)
  refine Zc (Zl rfl (Zc (Zg2 rfl rfl (Zc (Zg2 rfl rfl (Zc (Zk rfl (Zc (Zk rfl (Za (Zi (Zb (Zb (Zd (Zc (Zl rfl (Zc (Zj1 rfl rfl rfl (Za (Zi ?_))))))))))))))))))))
  refine Zm1 rfl (fun h24 => ?_) (fun h24 => ?_)
  ·
   refine Zb (Zd (Zc (Zl rfl (Zc (Zl2 rfl (Zc (Zk rfl (Za (Zi (Zf1 ?_))))))))))
   refine Zd1 (Zg1 rfl (.tmp rfl) ?_)
   rfl
  · exact absurd h24 h0
end Go.Proofs.YtjekhhgjfelpgaaGreat.X79
