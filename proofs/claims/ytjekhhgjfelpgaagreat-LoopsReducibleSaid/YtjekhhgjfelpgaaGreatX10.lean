import Derived.Test.YtjekhhgjfelpgaaGreatX9
set_option linter.all false
namespace Go.Proofs.YtjekhhgjfelpgaaGreat.X10
open Go.VL Go.SM Go.Proofs.YtjekhhgjfelpgaaGreat X1 X2 X3 X4 X5 X6 X7 X8 X9
def sameI (a b : List Int) : Bool := decide (a = b)
def sameOut (a b : Out) : Bool := decide (a.fin = b.fin) && decide (a.value = b.value) && sameI a.out b.out
theorem take_ne {a b : List Int} {k : Nat} {x y : Int} (hx : a[k]? = some x) (hy : b[k]? = some y) (h : x ≠ y) : a ≠ b := fun e => by
  subst e
  rw [hx] at hy
  injection hy with hy
  exact h hy
theorem prefix_eq {a b : List Int} (hl : a.length = b.length) (h : a.take a.length = b.take a.length) : a = b := by
  rw [List.take_length, hl, List.take_length] at h
  exact h
set_option maxRecDepth 100000 in
theorem SameInts_c (a b : List Int) (ta tb : Option Tok) : VPure Tryz.prog 35 [.sl 1 ta (a.map V.int), .sl 1 tb (b.map V.int)] (.bool (sameI a b)) := by
 refine V_start (nt := 26) Tryz.func35 rfl rfl rfl ?_
 refine Zb (Zd (Zc (Zk rfl (Za (Zi (Zb (Zb (Zd (Zc (Zl rfl ?_))))))))))
 refine Zc (Zd2 (n := a.length) Tryz.underlying41 rfl (by simp) (fun hl8 => ?_))
 refine Zc (Zl rfl ?_)
 refine Zc (Zd2 (n := b.length) Tryz.underlying41 rfl (by simp) (fun hl10 => ?_))
 refine Zc (Zj1 rfl rfl rfl (Za (Zi ?_)))
 refine Zm1 rfl (fun h11 => ?_) (fun h11 => ?_)
 ·
  refine Zb (Zd (Zc (Zk rfl (Za (Zi (Zf1 ?_))))))
  refine Zd1 (Zg1 rfl (.tmp rfl) ?_)
  exact congrArg V.bool (decide_eq_false fun e => h11 (by rw [e])).symm
 ·
  have hll : a.length = b.length := by omega
  refine Zi1 (Zi (Zb (Zb (Zd (Zc (Zl rfl ?_))))))
  refine Zc (Zd2 (n := a.length) Tryz.underlying41 rfl (by simp) (fun hl13 => ?_))
  refine Zc (Zl rfl (Za (Zi (Zs ?_))))
  refine Zi2 (ι := Nat) (fun k => a.length - k) (fun k => [(1, some (.sl 1 tb (b.map V.int))), (12, some (.sl 1 ta (a.map V.int))), (13, some (.int a.length)), (14, some (.int k))]) (fun k => []) (fun k => k ≤ a.length ∧ a.take k = b.take k) 0 ⟨Nat.zero_le _, rfl⟩ ⟨rfl, rfl, rfl, rfl, trivial⟩ (Drops.nil _) ?_
  rintro k hA
  change k ≤ a.length ∧ a.take k = b.take k at hA
  obtain ⟨hk, hq⟩ := hA
  refine Zb (Zd (Zc (Zj1 rfl rfl rfl (Za (Zi (Zb ?_))))))
  refine Zn1 rfl (fun h15 => ?_) (fun h15 => ?_)
  ·
   obtain ⟨x, hx⟩ := get_of_lt a k h15
   obtain ⟨y, hy⟩ := get_of_lt b k (by omega)
   refine Zi1 (Zi (Zb (Zs (Zb (Zd (Zc (Zl rfl ?_)))))))
   refine Zc (Zz (el := V.int x) VT.sl41 rfl rfl (by omega) (get_int hx) (fun a17 => ?_))
   refine Zc (Zz1 VT.ty3 rfl rfl (Zc (Zk rfl (Zc (Zk rfl (Za (Zi (Zb (Zd (Zc (Zl rfl (Zc (Zl rfl ?_)))))))))))))
   refine Zc (Zz (el := V.int y) VT.sl41 rfl rfl (by omega) (get_int hy) (fun a21 => ?_))
   refine Zc (Zz1 VT.ty3 rfl rfl (Zc (Zl rfl (Zc (Zj1 rfl rfl rfl (Za (Zi ?_)))))))
   refine Zm1 rfl (fun h24 => ?_) (fun h24 => ?_)
   ·
    refine Zb (Zd (Zc (Zk rfl (Za (Zi (Zf1 ?_))))))
    refine Za1 (Zd1 (Zd1 (Za1 (Zd1 (Zg1 rfl (.tmp rfl) ?_)))))
    exact congrArg V.bool (decide_eq_false (take_ne hx hy (Ne.symm h24))).symm
   ·
    refine Zi1 (Zb1 (Zi (Zd ?_)))
    refine Zc (Zh2 rfl rfl (by omega) ?_)
    refine Zc (Zl rfl (Za (Zi ?_)))
    exact ⟨k + 1, (by (try simp only []); omega), ⟨by omega, by rw [take_snoc hx, take_snoc hy, hq, h24]⟩, ⟨rfl, rfl, rfl, rfl, trivial⟩, (Drops.nil _)⟩
  ·
   have hke : k = a.length := by omega
   subst hke
   refine Zt (Ze1 (Ze1 (Zc1 (Zi (Zb (Zd (Zc (Zk rfl (Za (Zi (Zf1 ?_)))))))))))
   refine Zg1 rfl (.tmp rfl) ?_
   exact congrArg V.bool (decide_eq_true (prefix_eq hll hq)).symm
set_option maxRecDepth 100000 in
theorem SameResult_c (a b : Out) : VPure Tryz.prog 21 [resultV a, resultV b] (.bool (sameOut a b)) := by
 refine V_start (nt := 24) Tryz.func21 rfl rfl rfl ?_
 refine Zb (Zd ?_)
 refine Zc (Zc2 rfl rfl (fun g2 => ?_))
 refine Zc (Zc2 rfl rfl (fun g3 => ?_))
 refine Zc (Zk rfl (Za (Zi (Zb (Zd (Zc (Zj VT.fa62_1 rfl (Zc (Zu 1 VT.ty3 rfl rfl rfl (Zc (Zj VT.fa62_1 rfl (Zc (Zu 0 VT.ty3 rfl rfl rfl (Zc (Zj1 rfl rfl rfl (Zc (Zl rfl ?_)))))))))))))))))
 refine Zj2 (q := 10) rfl (fun hq10 => ?_) (fun hq10 => ?_)
 ·
  refine Zc (Zj VT.fa62_2 rfl ?_) (Zy1 hq10)
  refine Zc (Zu 1 VT.ty3 rfl rfl rfl ?_) (Zy1 hq10)
  refine Zc (Zj VT.fa62_2 rfl ?_) (Zy1 hq10)
  refine Zc (Zu 0 VT.ty3 rfl rfl rfl ?_) (Zy1 hq10)
  refine Zc (Zj1 rfl rfl rfl ?_) (Zy1 hq10)
  refine Zc (Zs1 rfl hq10 rfl ?_)
  refine Zc (Zl rfl ?_)
  refine Zj2 (q := 17) rfl (fun hq17 => ?_) (fun hq17 => ?_)
  ·
   refine Zc (Zj VT.fa62_0 rfl ?_) (Zy1 hq17)
   refine Zc (Zu 1 VT.ty41 rfl rfl rfl ?_) (Zy1 hq17)
   refine Zc (Zj VT.fa62_0 rfl ?_) (Zy1 hq17)
   refine Zc (Zu 0 VT.ty41 rfl rfl rfl ?_) (Zy1 hq17)
   refine Zc (Zx1 [.tmp 19, .tmp 21] rfl rfl VT.en35 (SameInts_c a.out b.out none none) ?_) (Zy1 hq17)
   refine Zc (Zs1 rfl hq17 rfl ?_)
   refine Zc (Zk rfl (Za (Zi (Zf1 ?_))))
   refine Zg1 rfl (.tmp rfl) ?_
   refine congrArg V.bool ?_
   simp at hq10
   first | (simp [sameOut, hq10]; done) | (simp at hq17; simp [sameOut, hq10, hq17])
  ·
   refine Zk1 hq17 ?_
   refine Zk1 hq17 ?_
   refine Zk1 hq17 ?_
   refine Zk1 hq17 ?_
   refine Zk1 hq17 ?_
   refine Zc (Zt1 rfl hq17 rfl ?_)
   refine Zc (Zk rfl (Za (Zi (Zf1 ?_))))
   refine Zg1 rfl (.tmp rfl) ?_
   refine congrArg V.bool ?_
   simp at hq10
   first | (simp [sameOut, hq10]; done) | (simp at hq17; simp [sameOut, hq10, hq17])
 ·
  refine Zk1 hq10 ?_
  refine Zk1 hq10 ?_
  refine Zk1 hq10 ?_
  refine Zk1 hq10 ?_
  refine Zk1 hq10 ?_
  refine Zc (Zt1 rfl hq10 rfl ?_)
  refine Zc (Zl rfl ?_)
  refine Zk1 rfl ?_
  refine Zk1 rfl ?_
  refine Zk1 rfl ?_
  refine Zk1 rfl ?_
  refine Zk1 rfl ?_
  refine Zc (Zt1 rfl rfl rfl (Zc (Zk rfl (Za (Zi (Zf1 ?_))))))
  refine Zg1 rfl (.tmp rfl) ?_
  refine congrArg V.bool ?_
  simp at hq10
  first | (simp [sameOut, hq10]; done) | (simp at hq17; simp [sameOut, hq10, hq17])
set_option maxRecDepth 100000 in
theorem ins_c (to op n : Int) (args : List Int) : VPure Tryz.prog 46 [.int to, .int op, .int n, intsX args] (insV ⟨to, op, n, args⟩) := by
 refine V_start (nt := 14) Tryz.func46 rfl rfl rfl ?_
 refine Zb (Zd ?_)
 refine Zc (Zb2 VT.zr70 _ rfl rfl (fun g8 => ?_))
 refine Za (Zi (Zb (Zd (Zc (Zl rfl (Zc (Zl rfl (Zc (Zl rfl (Zc (Zl rfl ?_)))))))))))
 refine Zc (Zf2 [0, 1, 2, 3] [.tmp 9, .tmp 10, .tmp 11, .tmp 12] VT.st70 rfl rfl rfl rfl ?_)
 refine Zc (Zx 0 VT.ty70 rfl rfl rfl rfl rfl (Za (Zi (Zf1 ?_))))
 refine Zg1 rfl (.agg (i := 0) VT.ty70 rfl rfl rfl) ?_
 rfl
theorem ins0_c (to op n : Int) : VPure Tryz.prog 46 [.int to, .int op, .int n, V.nilSl] (insV ⟨to, op, n, []⟩) := VCalls_args (vs' := [.int to, .int op, .int n, intsX []]) ⟨V.le.refl _, rfl, V.le.refl _, rfl, V.le.refl _, rfl, V.le.nil 1, rfl, trivial⟩ (ins_c to op n [])
set_option maxRecDepth 100000 in
theorem jump_c (k : Int) (args : List Int) : VPure Tryz.prog 47 [.int k, intsX args] (termV ⟨1, 0, 0, [], [⟨k, args⟩]⟩) := by
 refine V_start (nt := 10) Tryz.func47 rfl rfl rfl ?_
 refine Zb (Zd ?_)
 refine Zc (Zb2 VT.zr47 _ rfl rfl (fun g4 => ?_))
 refine Za (Zi (Zb (Zd (Zc (Zl rfl (Zc (Zl rfl ?_)))))))
 refine Zc (Zf2 [0, 1] [.tmp 5, .tmp 6] VT.st79 rfl rfl rfl rfl ?_)
 refine Zc (Zk3 [.tmp 7] VT.sl45 rfl rfl rfl rfl rfl ?_)
 refine Zc (Zu2 (Zf2 [0, 4] [.const (.int .i64 (1)), .tmp 8] VT.st47 rfl rfl rfl rfl ⟨rfl, rfl⟩) ((V.le.agg (les_r rfl (les_r rfl (les_r rfl (les_n 1 (les_r rfl (les_0)))))) : V.le _ (termV ⟨1, 0, 0, [], [⟨k, args⟩]⟩))) ?_)
 refine Zc (Zx 0 VT.ty47 rfl rfl rfl rfl rfl (Za (Zi (Zf1 ?_))))
 refine Zg1 rfl (.agg (i := 0) VT.ty47 rfl rfl rfl) ?_
 rfl
set_option maxRecDepth 100000 in
set_option maxHeartbeats 4000000 in
theorem count_c : VPure Tryz.prog 20 [] (unitV countU) := by
 refine V_start (nt := 41) Tryz.func20 rfl rfl rfl ?_
 refine Zb (Zd ?_)
 refine Zc (Zb2 VT.zr24 _ rfl rfl (fun g0 => ?_))
 refine Za (Zi (Zb (Zd (Zc (Zk rfl (Za (Zi (Zb (Zd (Zc (Zk rfl (Za (Zi (Zb (Zd (Zc (Zl rfl ?_)))))))))))))))))
 refine Zc (V_callCloP [.const (.int .i64 (0)), .const (.int .i64 (0)), .const (.int .i64 (0)), .const _] rfl rfl rfl VT.en46 (ins0_c 0 0 0) ?_)
 refine Zc (Zk3 [.tmp 4] VT.sl48 rfl rfl rfl rfl rfl ?_)
 refine Zc (Zl rfl ?_)
 refine Zc (Zk3 [.const (.int .i64 (0))] VT.sl41 rfl rfl rfl rfl rfl ?_)
 refine Zc (V_callCloP [.const (.int .i64 (1)), .tmp 7] rfl rfl rfl VT.en47 (jump_c 1 [0]) ?_)
 refine Zc (Zu2 (Zf2 [1, 2] [.tmp 5, .tmp 8] VT.st50 rfl rfl rfl rfl ⟨rfl, rfl⟩) ((V.le.agg (les_n 1 (les_r rfl (les_r rfl (les_r rfl (les_r rfl (les_r rfl (les_r rfl (les_0)))))))) : V.le _ (blockV ⟨[], [⟨0, 0, 0, []⟩], ⟨1, 0, 0, [], [⟨1, [0]⟩]⟩⟩))) ?_)
 refine Zc (Zk3 [.const (.int .i64 (1))] VT.sl41 rfl rfl rfl rfl rfl ?_)
 refine Zc (Zl rfl ?_)
 refine Zc (V_callCloP [.const (.int .i64 (2)), .const (.int .i64 (0)), .const (.int .i64 (3)), .const _] rfl rfl rfl VT.en46 (ins0_c 2 0 3) ?_)
 refine Zc (Zl rfl ?_)
 refine Zc (Zk3 [.const (.int .i64 (1)), .const (.int .i64 (2))] VT.sl41 rfl rfl rfl rfl rfl ?_)
 refine Zc (V_callCloP [.const (.int .i64 (3)), .const (.int .i64 (6)), .const (.int .i64 (0)), .tmp 14] rfl rfl rfl VT.en46 (ins_c 3 6 0 [1, 2]) ?_)
 refine Zc (Zk3 [.tmp 12, .tmp 15] VT.sl48 rfl rfl rfl rfl rfl ?_)
 refine Zc (Zu2 (Zf2 [0] [.const (.int .i64 (2))] VT.st79 rfl rfl rfl rfl ⟨rfl, rfl⟩) ((V.le.agg (les_r rfl (les_n 1 (les_0))) : V.le _ (edgeV ⟨2, []⟩))) ?_)
 refine Zc (Zu2 (Zf2 [0] [.const (.int .i64 (3))] VT.st79 rfl rfl rfl rfl ⟨rfl, rfl⟩) ((V.le.agg (les_r rfl (les_n 1 (les_0))) : V.le _ (edgeV ⟨3, []⟩))) ?_)
 refine Zc (Zk3 [.tmp 17, .tmp 18] VT.sl45 rfl rfl rfl rfl rfl ?_)
 refine Zc (Zu2 (Zf2 [0, 1, 4] [.const (.int .i64 (2)), .const (.int .i64 (3)), .tmp 19] VT.st47 rfl rfl rfl rfl ⟨rfl, rfl⟩) ((V.le.agg (les_r rfl (les_r rfl (les_r rfl (les_n 1 (les_r rfl (les_0)))))) : V.le _ (termV ⟨2, 3, 0, [], [⟨2, []⟩, ⟨3, []⟩]⟩))) ?_)
 refine Zc (Zf2 [0, 1, 2] [.tmp 10, .tmp 16, .tmp 20] VT.st50 rfl rfl rfl rfl ?_)
 refine Zc (Zl rfl ?_)
 refine Zc (Zk3 [.const (.int .i64 (1))] VT.sl41 rfl rfl rfl rfl rfl ?_)
 refine Zc (V_callCloP [.const (.int .i64 (4)), .const (.int .i64 (15)), .const (.int .i64 (0)), .tmp 23] rfl rfl rfl VT.en46 (ins_c 4 15 0 [1]) ?_)
 refine Zc (Zl rfl ?_)
 refine Zc (V_callCloP [.const (.int .i64 (5)), .const (.int .i64 (0)), .const (.int .i64 (1)), .const _] rfl rfl rfl VT.en46 (ins0_c 5 0 1) ?_)
 refine Zc (Zl rfl ?_)
 refine Zc (Zk3 [.const (.int .i64 (1)), .const (.int .i64 (5))] VT.sl41 rfl rfl rfl rfl rfl ?_)
 refine Zc (V_callCloP [.const (.int .i64 (6)), .const (.int .i64 (1)), .const (.int .i64 (0)), .tmp 28] rfl rfl rfl VT.en46 (ins_c 6 1 0 [1, 5]) ?_)
 refine Zc (Zk3 [.tmp 24, .tmp 26, .tmp 29] VT.sl48 rfl rfl rfl rfl rfl ?_)
 refine Zc (Zl rfl ?_)
 refine Zc (Zk3 [.const (.int .i64 (6))] VT.sl41 rfl rfl rfl rfl rfl ?_)
 refine Zc (V_callCloP [.const (.int .i64 (1)), .tmp 32] rfl rfl rfl VT.en47 (jump_c 1 [6]) ?_)
 refine Zc (Zu2 (Zf2 [1, 2] [.tmp 30, .tmp 33] VT.st50 rfl rfl rfl rfl ⟨rfl, rfl⟩) ((V.le.agg (les_n 1 (les_r rfl (les_r rfl (les_r rfl (les_r rfl (les_r rfl (les_r rfl (les_0)))))))) : V.le _ (blockV ⟨[], [⟨4, 15, 0, [1]⟩, ⟨5, 0, 1, []⟩, ⟨6, 1, 0, [1, 5]⟩], ⟨1, 0, 0, [], [⟨1, [6]⟩]⟩⟩))) ?_)
 refine Zc (Zu2 (Zf2 [1] [.const (.int .i64 (1))] VT.st47 rfl rfl rfl rfl ⟨rfl, rfl⟩) ((V.le.agg (les_r rfl (les_r rfl (les_r rfl (les_n 1 (les_n 2 (les_0)))))) : V.le _ (termV ⟨0, 1, 0, [], []⟩))) ?_)
 refine Zc (Zu2 (Zf2 [2] [.tmp 35] VT.st50 rfl rfl rfl rfl ⟨rfl, rfl⟩) ((V.le.agg (les_n 1 (les_n 4 (les_r rfl (les_r rfl (les_r rfl (les_r rfl (les_r rfl (les_0)))))))) : V.le _ (blockV ⟨[], [], ⟨0, 1, 0, [], []⟩⟩))) ?_)
 refine Zc (Zk3 [.tmp 9, .tmp 21, .tmp 34, .tmp 36] VT.sl32 rfl rfl rfl rfl rfl ?_)
 refine Zc (Zf2 [0, 1] [.const (.int .i64 (-1)), .tmp 37] VT.st34 rfl rfl rfl rfl ?_)
 refine Zc (Zk3 [.tmp 38] VT.sl22 rfl rfl rfl rfl rfl ?_)
 refine Zc (Zf2 [0] [.tmp 39] VT.st24 rfl rfl rfl rfl ?_)
 refine Zc (Zx 0 VT.ty24 rfl rfl rfl rfl rfl (Za (Zi (Zf1 ?_))))
 refine Zg1 rfl (.agg (i := 0) VT.ty24 rfl rfl rfl) ?_
 rfl
set_option maxRecDepth 100000 in
theorem works_c : VPure Tryz.prog 5 [] (.bool true) := by
 refine V_start (nt := 22) Tryz.func5 rfl rfl rfl ?_
 refine Zb (Zd (Zc (Zk rfl (Za (Zi (Zb (Zd ?_)))))))
 refine Zc (Zx1 [] rfl rfl VT.en20 (count_c) ?_)
 refine Zc (Zu2 (Zx1 [.tmp 5, .const (.int .i64 (27))] rfl rfl VT.en19 (Run_c countU 27) ⟨rfl, rfl⟩) ((V.le.of_eq (by rw [works_count]) : V.le _ (.tup [resultV ⟨[0, 1, 2], 0, 3⟩, .int 27, .int 0]))) ?_)
 refine Zc (Zl rfl (Zc (Zg2 rfl rfl (Zc (Zg2 rfl rfl (Zc (Zg2 rfl rfl ?_)))))))
 refine Zc (Zb2 VT.zr62 _ rfl rfl (fun g1 => ?_))
 refine Zc (Zx 0 VT.ty62 rfl rfl rfl rfl rfl (Zc (Zk rfl (Zc (Zk rfl (Za (Zi (Zb (Zd (Zc (Zl rfl (Zc (Zj1 rfl rfl rfl (Zc (Zl rfl ?_)))))))))))))))
 refine Zc (Zl rfl ?_) (Zy1 rfl)
 refine Zc (Zj1 rfl rfl rfl ?_) (Zy1 rfl)
 refine Zc (Zs1 rfl rfl rfl (Zc (Zl rfl ?_)))
 refine Zc (Zv 0 VT.ty62 rfl rfl rfl ?_) (Zy1 rfl)
 refine Zc (Zk3 [.const (.int .i64 (0)), .const (.int .i64 (1)), .const (.int .i64 (2))] VT.sl41 rfl rfl rfl rfl rfl ?_) (Zy1 rfl)
 refine Zc (Zu2 (Zf2 [0, 2] [.tmp 18, .const (.int .i64 (3))] VT.st62 rfl rfl rfl rfl ⟨rfl, rfl⟩) ((V.le.agg (les_r rfl (les_r rfl (les_r rfl (les_0)))) : V.le _ (resultV ⟨[0, 1, 2], 0, 3⟩))) ?_) (Zy1 rfl)
 refine Zc (Zx1 [.tmp 17, .tmp 19] rfl rfl VT.en21 (SameResult_c ⟨[0, 1, 2], 0, 3⟩ ⟨[0, 1, 2], 0, 3⟩) ?_) (Zy1 rfl)
 refine Zc (Zs1 rfl rfl rfl (Zc (Zk rfl (Za (Zi (Zf1 ?_))))))
 refine Zg1 rfl (.tmp rfl) ?_
 rfl
end Go.Proofs.YtjekhhgjfelpgaaGreat.X10
