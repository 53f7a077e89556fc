import Derived.Test.YtjekhhgjfelpgaaGreatXB
set_option linter.all false
open List renaming map_append → Ya
namespace Go.Proofs.YtjekhhgjfelpgaaGreat.X77
open Go.VL Go.SM Go.Proofs.YtjekhhgjfelpgaaGreat XS X1 X2 X3 X4 X5 X6 X7 X8 X9 X10 X12 X13 X14 X20 X22 X23
def outV (p : Nat × Nat) : V := .agg [.int (p.1 : Int), .int (p.2 : Int)]
abbrev outsX (l : List (Nat × Nat)) : V := .sl 2 none (l.map outV)
theorem get_out {l : List (Nat × Nat)} {i : Nat} {p : Nat × Nat} (h : l[i]? = some p) : (l.map outV)[i]? = some (outV p) := by rw [List.getElem?_map, h]; rfl
theorem outE_T {x : SM.Loop} {k n : Nat} {e : SEdge} {l : List SEdge} (h : isOut x k e = true) : outE x k n (e :: l) = (k, n) :: outE x k (n + 1) l := by
  rw [outE, if_pos h]
  rfl
theorem outE_F {x : SM.Loop} {k n : Nat} {e : SEdge} {l : List SEdge} (h : isOut x k e = false) : outE x k n (e :: l) = outE x k (n + 1) l := by
  rw [outE, if_neg (by rw [h]; decide)]
  rfl
theorem out_T {x : SM.Loop} {k : Nat} {e : SEdge} (h1 : e.block = x.1) (h2 : (x.2.any fun y => decide ((k : Int) = y)) = false) : isOut x k e = true := by
  unfold isOut
  rw [decide_eq_true h1, h2]
  rfl
theorem out_F {x : SM.Loop} {k : Nat} {e : SEdge} (h2 : (x.2.any fun y => decide ((k : Int) = y)) = true) : isOut x k e = false := by
  unfold isOut
  rw [h2]
  exact Bool.and_false _
theorem out_N {x : SM.Loop} {k : Nat} {e : SEdge} (h1 : ¬ e.block = x.1) : isOut x k e = false := by
  unfold isOut
  rw [decide_eq_false h1]
  rfl
set_option maxRecDepth 100000 in
set_option maxHeartbeats 4000000 in
theorem outer_c {f : SFunc} (h0 : funcF f = 0) (y : Int × List Int × Int) : VPure Tryz.prog 27 [funcV f, lpV y] (outsX (outF f (y.1, y.2.1))) := by
 have hok := func_ok h0
 have h128 := hok.len
 refine V_start (nt := 48) Tryz.func27 rfl rfl rfl ?_
 refine Zb (Zd ?_)
 refine Zc (Zc2 rfl rfl (fun g2 => ?_))
 refine Zc (Zc2 rfl rfl (fun g3 => ?_))
 refine Zc (Zk rfl (Za (Zi (Zb (Zd (Zc (V_assign_nil 76 2 (Za (Zi (Zb (Zb (Zd (Zc (Zj VT.fa34_1 rfl (Zc (Zu 2 VT.ty32 rfl rfl rfl ?_))))))))))))))))
 refine Zc (Zd2 (n := f.blocks.length) Tryz.underlying32 rfl (by simp) (fun hl12 => ?_))
 refine Zc (Zl rfl (Za (Zi (Zs ?_))))
 refine Zi2 (ι := Nat × Tok × List (Nat × Nat)) (fun (k, tok, out) => f.blocks.length - k) (fun (k, tok, out) => [(2, some (.ptr g2 0)), (3, some (.ptr g3 0)), (11, some (blocksX f.blocks)), (12, some (.int f.blocks.length)), (13, some (.int k)), (5, some (.sl 2 (some tok) (out.map outV)))]) (fun (k, tok, out) => [.buf tok 76 2 out.length, .cells g3 43 [.int y.1, intsX y.2.1, .int y.2.2], .cells g2 34 [.int f.name, blocksX f.blocks]]) (fun (k, tok, out) => k ≤ f.blocks.length ∧ out ++ outB (y.1, y.2.1) k (f.blocks.drop k) = outF f (y.1, y.2.1) ∧ out.length ≤ k * 257) (0, .nil, []) ⟨Nat.zero_le _, rfl, Nat.le_refl _⟩ ⟨rfl, rfl, rfl, rfl, rfl, rfl, trivial⟩ (Drops.buf (by simp) (Drops.keep (Drops.keep (Zt2 _)))) ?_
 rintro ⟨k, tok, out⟩ hA
 change k ≤ f.blocks.length ∧ out ++ outB (y.1, y.2.1) k (f.blocks.drop k) = outF f (y.1, y.2.1) ∧ out.length ≤ k * 257 at hA
 obtain ⟨hk, hq, hol⟩ := hA
 refine Zb (Zd (Zc (Zj1 rfl rfl rfl (Za (Zi (Zb ?_))))))
 refine Zn1 rfl (fun h14 => ?_) (fun h14 => ?_)
 ·
  obtain ⟨b, hb⟩ := get_of_lt f.blocks k h14
  have hte := term_edges hok (List.mem_of_getElem? hb)
  rw [drop_cons hb, outB, ← List.append_assoc] at hq
  refine Zi1 (Zi (Zb (Zs (Zb (Zd (Zc (Zl rfl ?_)))))))
  refine Zc (Zz (el := blockV b) VT.sl32 rfl rfl (by omega) (get_mapS _ hb) (fun a16 => ?_))
  refine Zc (Za2 VT.ty50 rfl rfl ?_)
  refine Zc (Zb2 VT.zr50 _ rfl rfl (fun g7 => ?_))
  refine Zc (Zk rfl (Zc (Zx 0 VT.ty50 rfl rfl rfl rfl rfl (Za (Zi (Zb (Zd (Zc (Zj VT.fa50_2 rfl (Zc (Zj VT.fa47_4 rfl (Zc (Zu 0 VT.ty45 rfl rfl rfl ?_)))))))))))))
  refine Zc (Zd2 (n := b.term.to.length) Tryz.underlying45 rfl (by simp) (fun hl21 => ?_))
  refine Zc (Zl rfl (Za (Zi (Zs ?_))))
  refine Zi2 (ι := Nat × Tok × List (Nat × Nat)) (fun (j, tok2, out2) => b.term.to.length - j) (fun (j, tok2, out2) => [(2, some (.ptr g2 0)), (3, some (.ptr g3 0)), (11, some (blocksX f.blocks)), (12, some (.int f.blocks.length)), (13, some (.int k)), (5, some (.sl 2 (some tok2) (out2.map outV))), (6, some (.int k)), (20, some (edgesX b.term.to)), (21, some (.int b.term.to.length)), (22, some (.int j))]) (fun (j, tok2, out2) => [.buf tok2 76 2 out2.length, .cells g3 43 [.int y.1, intsX y.2.1, .int y.2.2], .cells g2 34 [.int f.name, blocksX f.blocks]]) (fun (j, tok2, out2) => j ≤ b.term.to.length ∧ out2 ++ outE (y.1, y.2.1) k j (b.term.to.drop j) = out ++ outE (y.1, y.2.1) k 0 b.term.to ∧ out2.length ≤ k * 257 + j) (0, tok, out) ⟨Nat.zero_le _, rfl, hol⟩ ⟨rfl, rfl, rfl, rfl, rfl, rfl, rfl, rfl, rfl, rfl, trivial⟩ (Drops.drop (Drops.buf (by simp) (Drops.keep (Drops.keep (Zt2 _))))) ?_
  rintro ⟨j, tok2, out2⟩ hB
  change j ≤ b.term.to.length ∧ out2 ++ outE (y.1, y.2.1) k j (b.term.to.drop j) = out ++ outE (y.1, y.2.1) k 0 b.term.to ∧ out2.length ≤ k * 257 + j at hB
  obtain ⟨hj, hq2, hol3⟩ := hB
  refine Zb (Zd (Zc (Zj1 rfl rfl rfl (Za (Zi (Zb ?_))))))
  refine Zn1 rfl (fun h23 => ?_) (fun h23 => ?_)
  ·
   obtain ⟨e, he⟩ := get_of_lt b.term.to j h23
   rw [drop_cons he] at hq2
   refine Zi1 (Zi (Zb (Zs (Zb (Zd (Zc (Zl rfl ?_)))))))
   refine Zc (Zz (el := edgeV e) VT.sl45 rfl rfl (by omega) (get_mapS _ he) (fun a25 => ?_))
   refine Zc (Za2 VT.ty79 rfl rfl ?_)
   refine Zc (Zb2 VT.zr79 _ rfl rfl (fun g9 => ?_))
   refine Zc (Zk rfl (Zc (Zx 0 VT.ty79 rfl rfl rfl rfl rfl (Za (Zi (Zb (Zd (Zc (Zj VT.fa79_0 rfl (Zc (Zu 0 VT.ty3 rfl rfl rfl (Zc (Zj VT.fa43_0 rfl (Zc (Zu 2 VT.ty3 rfl rfl rfl (Zc (Zj1 rfl rfl rfl (Zc (Zl rfl ?_)))))))))))))))))))
   refine Zj2 (q := 32) rfl (fun hq32 => ?_) (fun hq32 => ?_)
   ·
    have hb1 : e.block = y.1 := by simpa using hq32
    refine Zc (Zj VT.fa43_1 rfl ?_) (Zy1 hq32)
    refine Zc (Zu 2 VT.ty41 rfl rfl rfl ?_) (Zy1 hq32)
    refine Zc (Zl rfl ?_) (Zy1 hq32)
    refine Zc (Zx1 [.tmp 34, .tmp 35] rfl rfl VT.en32 (intContains_c y.2.1 none (k : Int)) ?_) (Zy1 hq32)
    refine Zc (Zl2 rfl ?_) (Zy1 hq32)
    refine Zc (Zs1 rfl hq32 rfl ?_)
    refine Za (Zi ?_)
    refine Zo1 rfl (fun h38 => ?_) (fun h38 => ?_)
    ·
     rw [outE_T (out_T (x := (y.1, y.2.1)) hb1 h38), ← List.singleton_append, ← List.append_assoc] at hq2
     have hq3 := hq2
     have hol4 : (out2 ++ [(k, j)]).length ≤ k * 257 + (j + 1) := by rw [List.length_append, List.length_singleton]; omega
     refine Zd (Zc (Zl rfl (Zc (Zl rfl (Zc (Zl rfl ?_))))))
     refine Zc (V_buildArr [0, 1] [.tmp 40, .tmp 41] VT.at76 rfl rfl rfl rfl ?_)
     refine Zc (Zk3 [.tmp 42] VT.sl74 rfl rfl rfl rfl rfl ?_)
     refine Zc (Zi3 1 _ VT.sl74 rfl rfl rfl (by simp) (by simp; omega) (fun t44 => ?_))
     refine Zc (Zk rfl (Za (Zb1 (Zi (Zd ?_)))))
     refine Zc (Zh2 rfl rfl (by omega) ?_)
     refine Zc (Zl rfl (Za (Zi ?_)))
     exact ⟨(j + 1, t44, out2 ++ [(k, j)]), (by (try simp only []); omega), ⟨by omega, hq3, hol4⟩, ⟨rfl, rfl, rfl, rfl, rfl, (by first | rfl | (rw [Ya]; rfl)), rfl, rfl, rfl, rfl, trivial⟩, (Drops.drop (Drops.buf (by simp) (Drops.keep (Drops.keep (Zt2 _)))))⟩
    ·
     rw [outE_F (out_F (x := (y.1, y.2.1)) h38)] at hq2
     have hq3 := hq2
     have hol4 : out2.length ≤ k * 257 + (j + 1) := by omega
     refine Zi1 (Zb1 (Zi (Zd ?_)))
     refine Zc (Zh2 rfl rfl (by omega) ?_)
     refine Zc (Zl rfl (Za (Zi ?_)))
     exact ⟨(j + 1, tok2, out2), (by (try simp only []); omega), ⟨by omega, hq3, hol4⟩, ⟨rfl, rfl, rfl, rfl, rfl, (by first | rfl | (rw [Ya]; rfl)), rfl, rfl, rfl, rfl, trivial⟩, (Drops.drop (Drops.buf (by simp) (Drops.keep (Drops.keep (Zt2 _)))))⟩
   ·
    have hb1 : ¬ e.block = y.1 := by simpa using hq32
    rw [outE_F (out_N (x := (y.1, y.2.1)) hb1)] at hq2
    have hq3 := hq2
    have hol4 : out2.length ≤ k * 257 + (j + 1) := by omega
    refine Zk1 hq32 ?_
    refine Zk1 hq32 ?_
    refine Zk1 hq32 ?_
    refine Zk1 hq32 ?_
    refine Zk1 hq32 ?_
    refine Zc (Zt1 rfl hq32 rfl ?_)
    refine Za (Zi ?_)
    refine Zq1 rfl rfl ?_
    refine Zi1 (Zb1 (Zi (Zd ?_)))
    refine Zc (Zh2 rfl rfl (by omega) ?_)
    refine Zc (Zl rfl (Za (Zi ?_)))
    exact ⟨(j + 1, tok2, out2), (by (try simp only []); omega), ⟨by omega, hq3, hol4⟩, ⟨rfl, rfl, rfl, rfl, rfl, (by first | rfl | (rw [Ya]; rfl)), rfl, rfl, rfl, rfl, trivial⟩, (Drops.drop (Drops.buf (by simp) (Drops.keep (Drops.keep (Zt2 _)))))⟩
  ·
   have hje : j = b.term.to.length := by omega
   subst hje
   rw [List.drop_length, outE, List.append_nil] at hq2
   rw [← hq2] at hq
   refine Zt (Ze1 (Ze1 (Zc1 (Zb1 (Zi (Zd ?_))))))
   refine Zc (Zh2 rfl rfl (by omega) ?_)
   refine Zc (Zl rfl (Za (Zi ?_)))
   exact ⟨(k + 1, tok2, out2), (by (try simp only []); omega), ⟨by omega, hq, by omega⟩, ⟨rfl, rfl, rfl, rfl, rfl, rfl, trivial⟩, (Drops.buf (by simp) (Drops.keep (Drops.keep (Zt2 _))))⟩
 ·
  have hke : k = f.blocks.length := by omega
  subst hke
  rw [List.drop_length, outB, List.append_nil] at hq
  refine Zt (Ze1 (Ze1 (Zc1 (Zi (Zb (Zd (Zc (Zl rfl (Zc (Zk rfl (Za (Zi (Zf1 ?_)))))))))))))
  refine Zg1 rfl (.strip rfl) ?_
  rw [← hq]
end Go.Proofs.YtjekhhgjfelpgaaGreat.X77
