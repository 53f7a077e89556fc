import Derived.Test.YtpkbgamoboojaaaGreatVT
import Derived.Test.YtpkbgamoboojaaaGreatSY
import Derived.Test.YtpkbgamoboojaaaGreatVZ
set_option maxRecDepth 100000
set_option maxHeartbeats 4000000
open Go.VL.Drops renaming keep → Dk
set_option linter.all false
namespace Go.Proofs.YtpkbgamoboojaaaGreat.X1
open Go.VL Go.SM Go.Proofs.YtpkbgamoboojaaaGreat 
theorem i64_mod (x : Int) : IntKind.i64.wrap x % 2147483648 = x % 2147483648 := by
  simp only [IntKind.wrap, IntKind.bits, IntKind.signed, Bool.true_and, decide_eq_true_eq]
  split <;> omega
theorem wrapF_i64 (x : Int) : wrapF (IntKind.i64.wrap x) = wrapF x := by
  unfold wrapF
  have := i64_mod x
  omega
theorem wrapF_in (x : Int) : -1073741824 <= wrapF x /\ wrapF x <= 1073741823 := by unfold wrapF; omega
theorem i64_succ {a b : Nat} (hb : b <= 9223372036854775807) (ha : a <= 9223372036854775807) : ((b : Int) == IntKind.i64.wrap ((a : Int) + 1)) = ((b : Int) == (a : Int) + 1) := by
  rw [Bool.eq_iff_iff, beq_iff_eq, beq_iff_eq]
  simp only [IntKind.wrap, IntKind.bits, IntKind.signed, Bool.true_and, decide_eq_true_eq, show (2 : Int) ^ (64 - 1) = 9223372036854775808 from rfl, show (2 : Int) ^ 64 = 18446744073709551616 from rfl]
  split <;> omega
theorem tdiv_in (a b : Int) : -9223372036854775808 <= (wrapF a).tdiv (wrapF b) /\ (wrapF a).tdiv (wrapF b) <= 9223372036854775807 := by
  have h1 := wrapF_in a
  have h2 : ((wrapF a).tdiv (wrapF b)).natAbs <= (wrapF a).natAbs := by rw [Int.natAbs_tdiv]; exact Nat.div_le_self _ _
  omega
theorem within_c (n lo hi : Int) : VPure Tryz.prog 26 [.int n, .int lo, .int hi] (.bool (wi n lo hi)) := by
 refine V_start (nt := 15) Tryz.func26 rfl rfl rfl ?_
 refine Zb<|Zd<|Zc<|Zk rfl<|Za<|Zi<|Zb<|Zd<|Zc<|Zl rfl<|Zc<|Zl rfl<|Zc<|Zj1 rfl rfl rfl<|Zc<|Zl rfl<|Zj2 (q := 10) rfl (λ hq10 => ?_)<|λ hq10 => ?_
 .
  refine Zc (Zl rfl ?_)<|Zy1 hq10
  refine Zc (Zl rfl ?_)<|Zy1 hq10
  refine Zc (Zj1 rfl rfl rfl ?_)<|Zy1 hq10
  refine Zc<|Zs1 rfl hq10 rfl<|Zc<|Zk rfl<|Za<|Zi<|Zf1<|Zg1 rfl (.tmp rfl) ?_
  simp at hq10
  first | (simp [wi, hq10]; done) | (simp [wi]; omega)
 refine Zk1 hq10<|Zk1 hq10<|Zk1 hq10<|Zc<|Zt1 rfl hq10 rfl<|Zc<|Zk rfl<|Za<|Zi<|Zf1<|Zg1 rfl (.tmp rfl) ?_
 simp at hq10
 first | (simp [wi, hq10]; done) | (simp [wi]; omega)
theorem isWord_c (n : Int) : VPure Tryz.prog 116 [.int n] (.bool (isWordF n)) := by
 refine V_start (nt := 5) Tryz.func116 rfl rfl rfl ?_
 refine Zb<|Zd<|Zc<|Zk rfl<|Za<|Zi<|Zb<|Zd<|Zc<|Zl rfl<|Zc<|Zx1 [.tmp 3, .const (.int .i64 (-1073741824)), .const (.int .i64 (1073741823))] rfl rfl VT.en26 (within_c n _ _)<|Zc<|Zk rfl<|Za<|Zi<|Zf1<|Zg1 rfl (.tmp rfl) ?_
 rfl
theorem wrap_c (n : Int) : VPure Tryz.prog 126 [.int n] (.int (wrapF n)) := by
 refine V_start (nt := 7) Tryz.func126 rfl rfl rfl ?_
 refine Zb<|Zd<|Zc<|Zk rfl<|Za<|Zi<|Zb<|Zd<|Zc<|Zl rfl<|Zc<|Zj1 rfl rfl rfl<|Zc<|V_mask31 rfl rfl<|Zc<|Zk2 rfl rfl (by omega)<|Zc<|Zk rfl<|Za<|Zi<|Zf1<|Zg1 rfl (.tmp rfl) ?_
 rw [i64_mod]
 rfl
theorem add_c (a b : Int) : VPure Tryz.prog 119 [.int a, .int b] (.int (wrapF (a + b))) := by
 refine V_start (nt := 9) Tryz.func119 rfl rfl rfl ?_
 refine Zb<|Zd<|Zc<|Zk rfl<|Za<|Zi<|Zb<|Zd<|Zc<|Zl rfl<|Zc<|Zl rfl<|Zc<|Zj1 rfl rfl rfl<|Zc<|Zx1 [.tmp 7] rfl rfl VT.en126 (wrap_c _)<|Zc<|Zk rfl<|Za<|Zi<|Zf1<|Zg1 rfl (.tmp rfl) ?_
 rw [wrapF_i64]
theorem sub_c (a b : Int) : VPure Tryz.prog 120 [.int a, .int b] (.int (wrapF (a - b))) := by
 refine V_start (nt := 9) Tryz.func120 rfl rfl rfl ?_
 refine Zb<|Zd<|Zc<|Zk rfl<|Za<|Zi<|Zb<|Zd<|Zc<|Zl rfl<|Zc<|Zl rfl<|Zc<|Zj1 rfl rfl rfl<|Zc<|Zx1 [.tmp 7] rfl rfl VT.en126 (wrap_c _)<|Zc<|Zk rfl<|Za<|Zi<|Zf1<|Zg1 rfl (.tmp rfl) ?_
 rw [wrapF_i64]
theorem mul_c (a b : Int) : VPure Tryz.prog 121 [.int a, .int b] (.int (wrapF (wrapF a * wrapF b))) := by
 refine V_start (nt := 11) Tryz.func121 rfl rfl rfl ?_
 refine Zb<|Zd<|Zc<|Zk rfl<|Za<|Zi<|Zb<|Zd<|Zc<|Zl rfl<|Zc<|Zx1 [.tmp 5] rfl rfl VT.en126 (wrap_c _)<|Zc<|Zl rfl<|Zc<|Zx1 [.tmp 7] rfl rfl VT.en126 (wrap_c _)<|Zc<|Zj1 rfl rfl rfl<|Zc<|Zx1 [.tmp 9] rfl rfl VT.en126 (wrap_c _)<|Zc<|Zk rfl<|Za<|Zi<|Zf1<|Zg1 rfl (.tmp rfl) ?_
 rw [wrapF_i64]
theorem div_c (a b : Int) : VPure Tryz.prog 123 [.int a, .int b] (.tup [.int (divF a b), .int (if wrapF b = 0 then 1 else 0)]) := by
 refine V_start (nt := 15) Tryz.func123 rfl rfl rfl ?_
 refine Zb<|Zd<|Zc<|Zk rfl<|Zc<|Zk rfl<|Za<|Zi<|Zb<|Zb<|Zd<|Zc<|Zl rfl<|Zc<|Zx1 [.tmp 6] rfl rfl VT.en126 (wrap_c _)<|Zc<|Zj1 rfl rfl rfl<|Za<|Zi<|Zl1 rfl (λ h8 => ?_)<|λ h8 => ?_
 .
  refine Zb<|Zd<|Zc<|Zk rfl<|Zc<|Zk rfl<|Za<|Zi<|Zf1<|Zd1<|Zh1 rfl rfl (.cons (.tmp rfl)<|.cons (.tmp rfl)<|.nil) ?_
  rw [divF, if_pos h8, if_pos h8]
 refine Zi1<|Zi<|Zb<|Zd<|Zc<|Zl rfl<|Zc<|Zx1 [.tmp 9] rfl rfl VT.en126 (wrap_c _)<|Zc<|Zl rfl<|Zc<|Zx1 [.tmp 11] rfl rfl VT.en126 (wrap_c _)<|Zc<|V_quo rfl rfl h8 (tdiv_in a b)<|Zc<|Zx1 [.tmp 13] rfl rfl VT.en126 (wrap_c _)<|Zc<|Zk rfl<|Zc<|Zk rfl<|Za<|Zi<|Zf1<|Zh1 rfl rfl (.cons (.tmp rfl)<|.cons (.tmp rfl)<|.nil) ?_
 rw [divF, if_neg h8, if_neg h8]
theorem mod_c (a b : Int) : VPure Tryz.prog 124 [.int a, .int b] (.tup [.int (modF a b), .int (if wrapF b = 0 then 1 else 0)]) := by
 refine V_start (nt := 14) Tryz.func124 rfl rfl rfl ?_
 refine Zb<|Zd<|Zc<|Zk rfl<|Zc<|Zk rfl<|Za<|Zi<|Zb<|Zb<|Zd<|Zc<|Zl rfl<|Zc<|Zx1 [.tmp 6] rfl rfl VT.en126 (wrap_c _)<|Zc<|Zj1 rfl rfl rfl<|Za<|Zi<|Zl1 rfl (λ h8 => ?_)<|λ h8 => ?_
 .
  refine Zb<|Zd<|Zc<|Zk rfl<|Zc<|Zk rfl<|Za<|Zi<|Zf1<|Zd1<|Zh1 rfl rfl (.cons (.tmp rfl)<|.cons (.tmp rfl)<|.nil) ?_
  rw [modF, if_pos h8, if_pos h8]
 refine Zi1<|Zi<|Zb<|Zd<|Zc<|Zl rfl<|Zc<|Zx1 [.tmp 9] rfl rfl VT.en126 (wrap_c _)<|Zc<|Zl rfl<|Zc<|Zx1 [.tmp 11] rfl rfl VT.en126 (wrap_c _)<|Zc<|V_rem rfl rfl h8<|Zc<|Zk rfl<|Zc<|Zk rfl<|Za<|Zi<|Zf1<|Zh1 rfl rfl (.cons (.tmp rfl)<|.cons (.tmp rfl)<|.nil) ?_
 rw [modF, if_neg h8, if_neg h8]
theorem wordOf_c (ρ : Nat -> Nat) (n : Int) : VPure Tryz.prog 107 [.int n] (valX ρ (.word n)) := by
 refine V_start (nt := 5) Tryz.func107 rfl rfl rfl ?_
 refine Zb<|Zd<|Zc<|Zb2 VT.zr159 _ rfl rfl<|λ g2 => (Za<|Zi<|Zb<|Zd<|Zc<|Zl rfl<|Zc<|Zu2 (Zf2 [0, 1] [.const (.int .i64 (0)), .tmp 3] VT.st159 rfl rfl rfl rfl ⟨rfl, rfl⟩) (le_val ρ 0 n)<|Zc<|Zx 0 VT.ty159 rfl rfl rfl rfl rfl<|Za<|Zi<|Zf1<|Zg1 rfl (.agg (i := 0) VT.ty159 rfl rfl rfl) ?_)
 rfl
theorem truth_c (ρ : Nat -> Nat) (b : Bool) : VPure Tryz.prog 122 [.bool b] (valX ρ (truthF b)) := by
 refine V_start (nt := 6) Tryz.func122 rfl rfl rfl ?_
 refine Zb<|Zd<|Zc<|Zb2 VT.zr159 _ rfl rfl<|λ g2 => (Za<|Zi<|Zb<|Zb<|Zd<|Zc<|Zl rfl<|Za<|Zi<|Zr1 rfl (λ h3 => ?_)<|λ h3 => ?_)
 .
  refine Zb<|Zd<|Zc<|Zx1 [.const (.int .i64 (1))] rfl rfl VT.en107 (wordOf_c ρ _)<|Zc<|Zx 0 VT.ty159 rfl rfl rfl rfl rfl<|Za<|Zi<|Zf1<|Zd1<|Zg1 rfl (.agg (i := 0) VT.ty159 rfl rfl rfl) ?_
  subst h3
  rfl
 refine Zi1<|Zi<|Zb<|Zd<|Zc<|Zx1 [.const (.int .i64 (0))] rfl rfl VT.en107 (wordOf_c ρ _)<|Zc<|Zx 0 VT.ty159 rfl rfl rfl rfl rfl<|Za<|Zi<|Zf1<|Zg1 rfl (.agg (i := 0) VT.ty159 rfl rfl rfl) ?_
 subst h3
 rfl
theorem all_c (ρ : Nat -> Nat) (l : List Val) (k : Int) : VPure Tryz.prog 108 [valsX ρ l, .int k] (.bool (allK k l)) := by
 refine V_start (nt := 18) Tryz.func108 rfl rfl rfl ?_
 refine Zb<|Zd<|Zc<|Zk rfl<|Za<|Zi<|Zb<|Zb<|Zd<|Zc<|Zl rfl<|Zc<|Zd2 (n := l.length) Tryz.underlying152 rfl (by simp)<|λ hl8 => (Zc<|Zl rfl<|Za<|Zi<|Zs<|Zi2 (ι := Nat) (λ j => l.length - j) (λ j => [(1, some (.int k)), (7, some (valsX ρ l)), (8, some (.int l.length)), (9, some (.int j))]) (λ j => []) (λ j => j <= l.length /\ allK k (l.drop j) = allK k l) 0 ⟨Nat.zero_le _, rfl⟩ ⟨rfl, rfl, rfl, rfl, trivial⟩ (Drops.nil _) ?_)
 rintro j hA
 change j <= l.length /\ allK k (l.drop j) = allK k l at hA
 obtain ⟨hj, hq⟩ := hA
 refine Zb<|Zd<|Zc<|Zj1 rfl rfl rfl<|Za<|Zi<|Zb<|Zn1 rfl (λ h10 => ?_)<|λ h10 => ?_
 .
  obtain ⟨x, hx⟩ := get_of_lt l j h10
  refine Zi1<|Zi<|Zb<|Zs<|Zb<|Zd<|Zc<|Zz (el := valX ρ x) VT.sl152 rfl rfl (by omega) (get_valS hx)<|λ a11 => (Zc<|Za2 VT.ty159 rfl rfl<|Zc<|Zb2 VT.zr159 _ rfl rfl<|λ g6 => (Zc<|Zx 0 VT.ty159 rfl rfl rfl rfl rfl<|Za<|Zi<|Zb<|Zd<|Zc<|Zj VT.fa159_0 rfl<|Zc<|Zu 0 VT.ty3 rfl rfl rfl<|Zc<|Zl rfl<|Zc<|Zj1 rfl rfl rfl<|Za<|Zi<|Zm1 rfl (λ h16 => ?_)<|λ h16 => ?_))
  .
   refine Zb<|Zd<|Zc<|Zk rfl<|Za<|Zi<|Zf1<|Za1<|Zd1<|Zd1<|Za1<|Zd1<|Zg1 rfl (.tmp rfl) ?_
   rw [<- hq, drop_cons hx, allK, decide_eq_false h16, Bool.false_and]
  refine Zi1<|Zb1<|Zi<|Zd<|Zc<|Zh2 rfl rfl (by omega)<|Zc<|Zl rfl<|Za<|Zi ?_
  exact ⟨j + 1, (by (try simp only []); omega), ⟨by omega, by rw [<- hq, drop_cons hx, allK, decide_eq_true h16, Bool.true_and]⟩, ⟨rfl, rfl, rfl, rfl, trivial⟩, (Drops.nil _)⟩
 have hje : j = l.length := by omega
 subst hje
 rw [List.drop_length, allK] at hq
 refine Zt<|Ze1<|Ze1<|Zc1<|Zi<|Zb<|Zd<|Zc<|Zk rfl<|Za<|Zi<|Zf1<|Zg1 rfl (.tmp rfl) ?_
 rw [<- hq]
theorem binary_c (ρ : Nat -> Nat) (op a b : Int) : VPure Tryz.prog 109 [.int op, .int a, .int b] (.tup [valX ρ (binaryF op a b).1, .int (binaryF op a b).2]) := by
 have hr := binaryF.eq_def op a b
 refine V_start (nt := 64) Tryz.func109 rfl rfl rfl ?_
 refine Zb<|Zd<|Zc<|Zb2 VT.zr159 _ rfl rfl<|λ g6 => (Zc<|Zk rfl<|Za<|Zi<|Zb<|Zb<|Zd<|Zc<|Zl rfl<|Za<|Zi<|Zs<|Zb<|Zd<|Zc<|Zj1 rfl rfl rfl<|Zc<|Zk rfl<|Za<|Zi<|Zl1 rfl (λ h13 => ?_)<|λ h13 => ?_)
 .
  rw [if_pos h13] at hr
  refine Zb<|Zd<|Zc<|Zl rfl<|Zc<|Zl rfl<|Zc<|Zx1 [.tmp 15, .tmp 16] rfl rfl VT.en119 (add_c a b)<|Zc<|Zx1 [.tmp 17] rfl rfl VT.en107 (wordOf_c ρ _)<|Zc<|Zx 0 VT.ty159 rfl rfl rfl rfl rfl<|Zc<|Zk rfl<|Za<|Zi<|Zf1<|Za1<|Zd1<|Zh1 rfl rfl (.cons (.agg (i := 0) VT.ty159 rfl rfl rfl)<|.cons (.tmp rfl)<|.nil) ?_
  first | (rw [hr]; done) | (rw [hr]; rfl)
 rw [if_neg h13] at hr
 refine Zb<|Zd<|Zc<|Zj1 rfl rfl rfl<|Zc<|Zk rfl<|Za<|Zi<|Zl1 rfl (λ h19 => ?_)<|λ h19 => ?_
 .
  rw [if_pos h19] at hr
  refine Zb<|Zd<|Zc<|Zl rfl<|Zc<|Zl rfl<|Zc<|Zx1 [.tmp 21, .tmp 22] rfl rfl VT.en120 (sub_c a b)<|Zc<|Zx1 [.tmp 23] rfl rfl VT.en107 (wordOf_c ρ _)<|Zc<|Zx 0 VT.ty159 rfl rfl rfl rfl rfl<|Zc<|Zk rfl<|Za<|Zi<|Zf1<|Za1<|Zd1<|Zh1 rfl rfl (.cons (.agg (i := 0) VT.ty159 rfl rfl rfl)<|.cons (.tmp rfl)<|.nil) ?_
  first | (rw [hr]; done) | (rw [hr]; rfl)
 rw [if_neg h19] at hr
 refine Zb<|Zd<|Zc<|Zj1 rfl rfl rfl<|Zc<|Zk rfl<|Za<|Zi<|Zl1 rfl (λ h25 => ?_)<|λ h25 => ?_
 .
  rw [if_pos h25] at hr
  refine Zb<|Zd<|Zc<|Zl rfl<|Zc<|Zl rfl<|Zc<|Zx1 [.tmp 27, .tmp 28] rfl rfl VT.en121 (mul_c a b)<|Zc<|Zx1 [.tmp 29] rfl rfl VT.en107 (wordOf_c ρ _)<|Zc<|Zx 0 VT.ty159 rfl rfl rfl rfl rfl<|Zc<|Zk rfl<|Za<|Zi<|Zf1<|Za1<|Zd1<|Zh1 rfl rfl (.cons (.agg (i := 0) VT.ty159 rfl rfl rfl)<|.cons (.tmp rfl)<|.nil) ?_
  first | (rw [hr]; done) | (rw [hr]; rfl)
 rw [if_neg h25] at hr
 refine Zb<|Zd<|Zc<|Zj1 rfl rfl rfl<|Zc<|Zk rfl<|Za<|Zi<|Zl1 rfl (λ h31 => ?_)<|λ h31 => ?_
 .
  rw [if_pos h31] at hr
  refine Zb<|Zd<|Zc<|Zl rfl<|Zc<|Zl rfl<|Zc<|Zj1 rfl rfl rfl<|Zc<|Zx1 [.tmp 35] rfl rfl VT.en122 (truth_c ρ _)<|Zc<|Zx 0 VT.ty159 rfl rfl rfl rfl rfl<|Zc<|Zk rfl<|Za<|Zi<|Zf1<|Za1<|Zd1<|Zh1 rfl rfl (.cons (.agg (i := 0) VT.ty159 rfl rfl rfl)<|.cons (.tmp rfl)<|.nil) ?_
  first | (rw [hr]; done) | (rw [hr]; rfl)
 rw [if_neg h31] at hr
 refine Zb<|Zd<|Zc<|Zj1 rfl rfl rfl<|Zc<|Zk rfl<|Za<|Zi<|Zl1 rfl (λ h37 => ?_)<|λ h37 => ?_
 .
  rw [if_pos h37] at hr
  refine Zb<|Zd<|Zc<|Zl rfl<|Zc<|Zl rfl<|Zc<|Zj1 rfl rfl rfl<|Zc<|Zx1 [.tmp 41] rfl rfl VT.en122 (truth_c ρ _)<|Zc<|Zx 0 VT.ty159 rfl rfl rfl rfl rfl<|Zc<|Zk rfl<|Za<|Zi<|Zf1<|Za1<|Zd1<|Zh1 rfl rfl (.cons (.agg (i := 0) VT.ty159 rfl rfl rfl)<|.cons (.tmp rfl)<|.nil) ?_
  first | (rw [hr]; done) | (rw [hr]; rfl)
 rw [if_neg h37] at hr
 refine Zi1<|Zb1<|Zi<|Zb<|Zb<|Zd<|Zc<|Zl rfl<|Zc<|Zj1 rfl rfl rfl<|Za<|Zi<|Zl1 rfl (λ h44 => ?_)<|λ h44 => ?_
 .
  rw [if_pos h44] at hr
  refine Zb<|Zd<|Zc<|Zu2 (Zf2 [] [] VT.st159 rfl rfl rfl rfl ⟨rfl, rfl⟩) (le_val ρ 0 0)<|Zc<|Zx 0 VT.ty159 rfl rfl rfl rfl rfl<|Zc<|Zk rfl<|Za<|Zi<|Zf1<|Zd1<|Zh1 rfl rfl (.cons (.agg (i := 0) VT.ty159 rfl rfl rfl)<|.cons (.tmp rfl)<|.nil) ?_
  first | (rw [hr]; done) | (rw [hr]; rfl)
 rw [if_neg h44] at hr
 refine Zi1<|Zi<|Zb<|Zb<|Zd<|Zc<|Zl rfl<|Zc<|Zj1 rfl rfl rfl<|Za<|Zi<|Zl1 rfl (λ h47 => ?_)<|λ h47 => ?_
 .
  rw [if_pos h47] at hr
  refine Zb<|Zd<|Zc<|Zl rfl<|Zc<|Zl rfl<|Zc<|Zx1 [.tmp 49, .tmp 50] rfl rfl VT.en123 (div_c a b)<|Zc<|Zl rfl<|Zc<|Zg2 rfl rfl<|Zc<|Zg2 rfl rfl<|Zc<|Zk rfl<|Zc<|Zk rfl<|Za<|Zi<|Zb<|Zd<|Zc<|Zl rfl<|Zc<|Zx1 [.tmp 54] rfl rfl VT.en107 (wordOf_c ρ _)<|Zc<|Zx 0 VT.ty159 rfl rfl rfl rfl rfl<|Zc<|Zk rfl<|Za<|Zi<|Zf1<|Zd1<|Zh1 rfl rfl (.cons (.agg (i := 0) VT.ty159 rfl rfl rfl)<|.cons (.tmp rfl)<|.nil) ?_
  first | (rw [hr]; done) | (rw [hr]; rfl)
 rw [if_neg h47] at hr
 refine Zi1<|Zi<|Zb<|Zd<|Zc<|Zl rfl<|Zc<|Zl rfl<|Zc<|Zx1 [.tmp 57, .tmp 58] rfl rfl VT.en124 (mod_c a b)<|Zc<|Zl rfl<|Zc<|Zg2 rfl rfl<|Zc<|Zg2 rfl rfl<|Zc<|Zk rfl<|Zc<|Zk rfl<|Za<|Zi<|Zb<|Zd<|Zc<|Zl rfl<|Zc<|Zx1 [.tmp 62] rfl rfl VT.en107 (wordOf_c ρ _)<|Zc<|Zx 0 VT.ty159 rfl rfl rfl rfl rfl<|Zc<|Zk rfl<|Za<|Zi<|Zf1<|Zh1 rfl rfl (.cons (.agg (i := 0) VT.ty159 rfl rfl rfl)<|.cons (.tmp rfl)<|.nil) ?_
 first | (rw [hr]; done) | (rw [hr]; rfl)
theorem operands_c (i : SIns) : VPure Tryz.prog 113 [insV i] (.tup [.int (operandsF i).1, .bool (operandsF i).2]) := by
 have hr := operandsF.eq_def i
 refine V_start (nt := 47) Tryz.func113 rfl rfl rfl ?_
 refine Zb<|Zd<|Zc<|Zc2 rfl rfl<|λ g1 => (Zc<|Zk rfl<|Zc<|Zk rfl<|Za<|Zi<|Zb<|Zb<|Zd<|Zc<|Zj VT.fa38_1 rfl<|Zc<|Zu 0 VT.ty3 rfl rfl rfl<|Za<|Zi<|Zs<|Zb<|Zd<|Zc<|Zj1 rfl rfl rfl<|Zc<|Zk rfl<|Za<|Zi<|Zl1 rfl (λ h6 => ?_)<|λ h6 => ?_)
 .
  rw [if_pos h6] at hr
  refine Zb<|Zd<|Zc<|Zk rfl<|Zc<|Zk rfl<|Za<|Zi<|Zf1<|Za1<|Zd1<|Zh1 rfl rfl (.cons (.tmp rfl)<|.cons (.tmp rfl)<|.nil) ?_
  rw [hr]
  first | done | (simp at hq42; simp [hq42]; done) | (simp at hq42; simp [hq42]; rfl)
 rw [if_neg h6] at hr
 refine Zb<|VW_or (q := 8) (x := 5) [(9, 1), (10, 2), (11, 3), (12, 4), (13, 5), (14, 6), (15, 7), (16, 16), (17, 18), (18, 19), (19, 21), (20, 23)] rfl rfl rfl<|Zi<|Zr1 rfl (λ h8 => ?_)<|λ h8 => ?_
 .
  rw [if_pos (show elemJ i.op op2 = true from h8)] at hr
  refine Zb<|Zd<|Zc<|Zk rfl<|Zc<|Zk rfl<|Za<|Zi<|Zf1<|Za1<|Zd1<|Zh1 rfl rfl (.cons (.tmp rfl)<|.cons (.tmp rfl)<|.nil) ?_
  rw [hr]
  first | done | (simp at hq42; simp [hq42]; done) | (simp at hq42; simp [hq42]; rfl)
 rw [if_neg (by rw [show elemJ i.op op2 = false from h8]; exact Bool.false_ne_true)] at hr
 refine Zb<|Zd<|Zc<|Zj1 rfl rfl rfl<|Zc<|Zk rfl<|Za<|Zi<|Zl1 rfl (λ h21 => ?_)<|λ h21 => ?_
 .
  rw [if_pos h21] at hr
  refine Zb<|Zd<|Zc<|Zk rfl<|Zc<|Zk rfl<|Za<|Zi<|Zf1<|Za1<|Zd1<|Zh1 rfl rfl (.cons (.tmp rfl)<|.cons (.tmp rfl)<|.nil) ?_
  rw [hr]
  first | done | (simp at hq42; simp [hq42]; done) | (simp at hq42; simp [hq42]; rfl)
 rw [if_neg h21] at hr
 refine Zb<|VW_or (q := 23) (x := 5) [(24, 10), (25, 11), (26, 12), (27, 15), (28, 17), (29, 24)] rfl rfl rfl<|Zi<|Zr1 rfl (λ h23 => ?_)<|λ h23 => ?_
 .
  rw [if_pos (show elemJ i.op op1 = true from h23)] at hr
  refine Zb<|Zd<|Zc<|Zk rfl<|Zc<|Zk rfl<|Za<|Zi<|Zf1<|Za1<|Zd1<|Zh1 rfl rfl (.cons (.tmp rfl)<|.cons (.tmp rfl)<|.nil) ?_
  rw [hr]
  first | done | (simp at hq42; simp [hq42]; done) | (simp at hq42; simp [hq42]; rfl)
 rw [if_neg (by rw [show elemJ i.op op1 = false from h23]; exact Bool.false_ne_true)] at hr
 refine Zb<|VW_or (q := 30) (x := 5) [(31, 8), (32, 9), (33, 13), (34, 14)] rfl rfl rfl<|Zi<|Zr1 rfl (λ h30 => ?_)<|λ h30 => ?_
 .
  rw [if_pos (show elemJ i.op opAny = true from h30)] at hr
  refine Zb<|Zd<|Zc<|Zk rfl<|Zc<|Zk rfl<|Za<|Zi<|Zf1<|Za1<|Zd1<|Zh1 rfl rfl (.cons (.tmp rfl)<|.cons (.tmp rfl)<|.nil) ?_
  rw [hr]
  first | done | (simp at hq42; simp [hq42]; done) | (simp at hq42; simp [hq42]; rfl)
 rw [if_neg (by rw [show elemJ i.op opAny = false from h30]; exact Bool.false_ne_true)] at hr
 refine Zb<|Zd<|Zc<|Zj1 rfl rfl rfl<|Zc<|Zk rfl<|Za<|Zi<|Zl1 rfl (λ h35 => ?_)<|λ h35 => ?_
 .
  rw [if_pos h35] at hr
  refine Zb ?_
  rcases Bool.eq_false_or_eq_true ((i.n == (2 : Int))) with hq42 | hq42
  .
   refine VW_drawR (G := Unit) [([], [1], []), ([0], [37], []), ([], [1], []), ([2], [39], []), ([3, 2], [40], []), ([4, 3, 2], [41], []), ([5, 4, 3, 2], [1, 42], []), ([6, 5, 4, 3, 2], [43, 42], []), ([7, 6, 5, 4, 3, 2], [44, 42], []), ([8, 7, 6, 5, 4, 3, 2], [42, 45], []), (dn 6, [38], []), (dn 11, [46], [])] [] (constSt _) [2, 3] [2, 3, 37, 38, 39, 40, 41, 42, 43, 44, 45, 46] rfl VT.mix<|ZA (λ γ => Zf<|λ _ h1 => Ze<|Zn rfl<|Zj VT.fa38_2 h1 z0)<|ZA (λ γ => Zw 0 0 rfl<|λ _ h37 => Ze<|Zn rfl<|Zu 0 VT.ty3 h37 rfl rfl z0)<|ZA (λ γ => Zf<|λ _ h1 => Ze<|Zn rfl<|Zj VT.fa38_2 h1 z0)<|ZA (λ γ => Zw 2 0 rfl<|λ _ h39 => Ze<|Zn rfl<|Zu 0 VT.ty3 h39 rfl rfl z0)<|ZA (λ γ => Zw 3 0 rfl<|λ _ h40 => Ze<|Zn rfl<|Zj1 h40 rfl rfl z0)<|ZA (λ γ => Zw 4 0 rfl<|λ _ h41 => Ze<|Zn rfl<|Zl h41 z0)<|ZA (λ γ => Zf<|λ _ h1 => Zw 5 0 rfl<|λ _ h42 => Ze<|Zy2 (Zr rfl rfl h42 hq42) z0)<|ZA (λ γ => Zw 6 0 rfl<|λ _ h43 => Zw 5 1 rfl<|λ _ h42 => Ze<|Zy2 (Zr rfl rfl h42 hq42) z0)<|ZA (λ γ => Zw 7 0 rfl<|λ _ h44 => Zw 5 2 rfl<|λ _ h42 => Ze<|Zy2 (Zr rfl rfl h42 hq42) z0)<|ZA (λ γ => Zw 5 3 rfl<|λ _ h42 => Zw 8 0 rfl<|λ _ h45 => Ze<|Zn rfl<|Zs1 h42 hq42 rfl z0)<|ZA (λ γ => Zw 1 8 rfl<|λ _ h38 => Ze<|Zn rfl<|Zk h38 z0)<|ZA (λ γ => Zw 9 1 rfl<|λ _ h46 => Ze<|Zn rfl<|Zk h46 z0)<|DrawP_nil<|λ γ => Zw 10 1 rfl<|λ r2 h2 => Zw 11 0 rfl<|λ r3 h3 => Ze ?_
   have e2 : r2 = some _ := h2
   subst e2
   clear h2
   have e3 : r3 = some _ := h3
   subst e3
   clear h3
   refine Zi<|Zf1<|Za1<|Zd1<|Zh1 rfl rfl (.cons (.tmp rfl)<|.cons (.tmp rfl)<|.nil) ?_
   rw [hr]
   first | done | (simp at hq42; simp [hq42]; done) | (simp at hq42; simp [hq42]; rfl)
  refine VW_drawR (G := Unit) [([], [1], []), ([0], [37], []), ([], [1], []), ([2], [39], []), ([3, 2], [40], []), ([4, 3, 2], [41], []), ([5, 4, 3, 2], [1, 42], []), ([6, 5, 4, 3, 2], [43, 42], []), ([7, 6, 5, 4, 3, 2], [44, 42], []), ([8, 7, 6, 5, 4, 3, 2], [42, 45], []), (dn 6, [38], []), (dn 11, [46], [])] [] (constSt _) [2, 3] [2, 3, 37, 38, 39, 40, 41, 42, 43, 44, 45, 46] rfl VT.mix<|ZA (λ γ => Zf<|λ _ h1 => Ze<|Zn rfl<|Zj VT.fa38_2 h1 z0)<|ZA (λ γ => Zw 0 0 rfl<|λ _ h37 => Ze<|Zn rfl<|Zu 0 VT.ty3 h37 rfl rfl z0)<|ZA (λ γ => Zf<|λ _ h1 => Ze<|Zn rfl<|Zj VT.fa38_2 h1 z0)<|ZA (λ γ => Zw 2 0 rfl<|λ _ h39 => Ze<|Zn rfl<|Zu 0 VT.ty3 h39 rfl rfl z0)<|ZA (λ γ => Zw 3 0 rfl<|λ _ h40 => Ze<|Zn rfl<|Zj1 h40 rfl rfl z0)<|ZA (λ γ => Zw 4 0 rfl<|λ _ h41 => Ze<|Zn rfl<|Zl h41 z0)<|ZA (λ γ => Zf<|λ _ h1 => Zw 5 0 rfl<|λ _ h42 => Ze<|Zn (Zg rfl rfl h42 hq42)<|Zj VT.fa38_2 h1 z0)<|ZA (λ γ => Zw 6 0 rfl<|λ _ h43 => Zw 5 1 rfl<|λ _ h42 => Ze<|Zn (Zg rfl rfl h42 hq42)<|Zu 0 VT.ty3 h43 rfl rfl z0)<|ZA (λ γ => Zw 7 0 rfl<|λ _ h44 => Zw 5 2 rfl<|λ _ h42 => Ze<|Zn (Zg rfl rfl h42 hq42)<|Zj1 h44 rfl rfl z0)<|ZA (λ γ => Zw 5 3 rfl<|λ _ h42 => Zw 8 0 rfl<|λ _ h45 => Ze<|Zn rfl<|Zt1 h42 hq42 h45 z0)<|ZA (λ γ => Zw 1 8 rfl<|λ _ h38 => Ze<|Zn rfl<|Zk h38 z0)<|ZA (λ γ => Zw 9 1 rfl<|λ _ h46 => Ze<|Zn rfl<|Zk h46 z0)<|DrawP_nil<|λ γ => Zw 10 1 rfl<|λ r2 h2 => Zw 11 0 rfl<|λ r3 h3 => Ze ?_
  have e2 : r2 = some _ := h2
  subst e2
  clear h2
  have e3 : r3 = some _ := h3
  subst e3
  clear h3
  refine Zi<|Zf1<|Za1<|Zd1<|Zh1 rfl rfl (.cons (.tmp rfl)<|.cons (.tmp rfl)<|.nil) ?_
  rw [hr]
  first | done | (simp at hq42; simp [hq42]; done) | (simp at hq42; simp [hq42]; rfl)
 rw [if_neg h35] at hr
 refine Zi1<|Zb1<|Zi<|Zb<|Zd<|Zc<|Zk rfl<|Zc<|Zk rfl<|Za<|Zi<|Zf1<|Zh1 rfl rfl (.cons (.tmp rfl)<|.cons (.tmp rfl)<|.nil) ?_
 rw [hr]
 first | done | (simp at hq42; simp [hq42]; done) | (simp at hq42; simp [hq42]; rfl)
theorem number_c (i : SIns) : VPure Tryz.prog 114 [insV i] (.bool (numberF i)) := by
 have hr := numberF.eq_def i
 refine V_start (nt := 51) Tryz.func114 rfl rfl rfl ?_
 refine Zb<|Zd<|Zc<|Zc2 rfl rfl<|λ g1 => (Zc<|Zk rfl<|Za<|Zi<|Zb<|Zb<|Zd<|Zc<|Zj VT.fa38_1 rfl<|Zc<|Zu 0 VT.ty3 rfl rfl rfl<|Za<|Zi<|Zs<|Zb<|Zd<|Zc<|Zj1 rfl rfl rfl<|Zc<|Zk rfl<|Za<|Zi<|Zl1 rfl (λ h5 => ?_)<|λ h5 => ?_)
 .
  rw [if_pos h5] at hr
  refine Zb<|Zd<|Zc<|Zj VT.fa38_2 rfl<|Zc<|Zu 0 VT.ty3 rfl rfl rfl<|Zc<|Zx1 [.tmp 8] rfl rfl VT.en116 (isWord_c _)<|Zc<|Zk rfl<|Za<|Zi<|Zf1<|Za1<|Zd1<|Zg1 rfl (.tmp rfl) ?_
  first | (rw [hr]; done) | (rw [hr]; rfl) | (rw [hr]; refine congrArg V.bool (Bool.eq_iff_iff.2 ?_); simp_all; done) | (rw [hr]; refine congrArg V.bool (Bool.eq_iff_iff.2 ?_); simp_all; omega)
 rw [if_neg h5] at hr
 refine Zb<|Zd<|Zc<|Zj1 rfl rfl rfl<|Zc<|Zk rfl<|Za<|Zi<|Zl1 rfl (λ h10 => ?_)<|λ h10 => ?_
 .
  rw [if_pos h10] at hr
  refine Zb<|Zd<|Zc<|Zj VT.fa38_2 rfl<|Zc<|Zu 0 VT.ty3 rfl rfl rfl<|Zc<|Zx1 [.tmp 13, .const (.int .i64 (0)), .const (.int .i64 (255))] rfl rfl VT.en26 (within_c _ _ _)<|Zc<|Zk rfl<|Za<|Zi<|Zf1<|Za1<|Zd1<|Zg1 rfl (.tmp rfl) ?_
  first | (rw [hr]; done) | (rw [hr]; rfl) | (rw [hr]; refine congrArg V.bool (Bool.eq_iff_iff.2 ?_); simp_all; done) | (rw [hr]; refine congrArg V.bool (Bool.eq_iff_iff.2 ?_); simp_all; omega)
 rw [if_neg h10] at hr
 refine Zb<|Zd<|Zc<|Zj1 rfl rfl rfl<|Zc<|Zk rfl<|Za<|Zi<|Zl1 rfl (λ h15 => ?_)<|λ h15 => ?_
 .
  rw [if_pos h15] at hr
  refine Zb<|Zd<|Zc<|Zj VT.fa38_2 rfl<|Zc<|Zu 0 VT.ty3 rfl rfl rfl<|Zc<|Zx1 [.tmp 18, .const (.int .i64 (0)), .const (.int .i64 (15))] rfl rfl VT.en26 (within_c _ _ _)<|Zc<|Zk rfl<|Za<|Zi<|Zf1<|Za1<|Zd1<|Zg1 rfl (.tmp rfl) ?_
  first | (rw [hr]; done) | (rw [hr]; rfl) | (rw [hr]; refine congrArg V.bool (Bool.eq_iff_iff.2 ?_); simp_all; done) | (rw [hr]; refine congrArg V.bool (Bool.eq_iff_iff.2 ?_); simp_all; omega)
 rw [if_neg h15] at hr
 refine Zb<|VW_or (q := 20) (x := 4) [(21, 9), (22, 13)] rfl rfl rfl<|Zi<|Zr1 rfl (λ h20 => ?_)<|λ h20 => ?_
 .
  rw [if_pos (show elemJ i.op [9, 13] = true from h20)] at hr
  refine Zb<|Zd<|Zc<|Zj VT.fa38_2 rfl<|Zc<|Zu 0 VT.ty3 rfl rfl rfl<|Zc<|Zx1 [.tmp 24, .const (.int .i64 (0)), .const (.int .i64 (255))] rfl rfl VT.en26 (within_c _ _ _)<|Zc<|Zk rfl<|Za<|Zi<|Zf1<|Za1<|Zd1<|Zg1 rfl (.tmp rfl) ?_
  first | (rw [hr]; done) | (rw [hr]; rfl) | (rw [hr]; refine congrArg V.bool (Bool.eq_iff_iff.2 ?_); simp_all; done) | (rw [hr]; refine congrArg V.bool (Bool.eq_iff_iff.2 ?_); simp_all; omega)
 rw [if_neg (by rw [show elemJ i.op [9, 13] = false from h20]; exact Bool.false_ne_true)] at hr
 refine Zb<|Zd<|Zc<|Zj1 rfl rfl rfl<|Zc<|Zk rfl<|Za<|Zi<|Zl1 rfl (λ h26 => ?_)<|λ h26 => ?_
 .
  rw [if_pos h26] at hr
  refine Zb<|Zd<|Zc<|Zj VT.fa38_2 rfl<|Zc<|Zu 0 VT.ty3 rfl rfl rfl<|Zc<|Zj1 rfl rfl rfl<|Zc<|Zl rfl<|Zj2 (q := 31) rfl (λ hq31 => ?_)<|λ hq31 => ?_
  .
   refine Zk0 hq31<|Zk0 hq31<|Zk0 hq31<|Zc<|Zs1 rfl hq31 rfl<|Zc<|Zl rfl<|Zk0 rfl<|Zk0 rfl<|Zk0 rfl<|Zc<|Zs1 rfl rfl rfl<|Zc<|Zk rfl<|Za<|Zi<|Zf1<|Za1<|Zd1<|Zg1 rfl (.tmp rfl) ?_
   first | (rw [hr]; done) | (rw [hr]; rfl) | (rw [hr]; refine congrArg V.bool (Bool.eq_iff_iff.2 ?_); simp_all; done) | (rw [hr]; refine congrArg V.bool (Bool.eq_iff_iff.2 ?_); simp_all; omega)
  refine Zc (Zj VT.fa38_2 rfl ?_)<|Zy0 hq31
  refine Zc (Zu 0 VT.ty3 rfl rfl rfl ?_)<|Zy0 hq31
  refine Zc (Zj1 rfl rfl rfl ?_)<|Zy0 hq31
  refine Zc<|Zt1 rfl hq31 rfl<|Zc<|Zl rfl<|Zj2 (q := 36) rfl (λ hq36 => ?_)<|λ hq36 => ?_
  .
   refine Zk0 hq36<|Zk0 hq36<|Zk0 hq36<|Zc<|Zs1 rfl hq36 rfl<|Zc<|Zk rfl<|Za<|Zi<|Zf1<|Za1<|Zd1<|Zg1 rfl (.tmp rfl) ?_
   first | (rw [hr]; done) | (rw [hr]; rfl) | (rw [hr]; refine congrArg V.bool (Bool.eq_iff_iff.2 ?_); simp_all; done) | (rw [hr]; refine congrArg V.bool (Bool.eq_iff_iff.2 ?_); simp_all; omega)
  refine Zc (Zj VT.fa38_2 rfl ?_)<|Zy0 hq36
  refine Zc (Zu 0 VT.ty3 rfl rfl rfl ?_)<|Zy0 hq36
  refine Zc (Zj1 rfl rfl rfl ?_)<|Zy0 hq36
  refine Zc<|Zt1 rfl hq36 rfl<|Zc<|Zk rfl<|Za<|Zi<|Zf1<|Za1<|Zd1<|Zg1 rfl (.tmp rfl) ?_
  first | (rw [hr]; done) | (rw [hr]; rfl) | (rw [hr]; refine congrArg V.bool (Bool.eq_iff_iff.2 ?_); simp_all; done) | (rw [hr]; refine congrArg V.bool (Bool.eq_iff_iff.2 ?_); simp_all; omega)
 rw [if_neg h26] at hr
 refine Zb<|Zd<|Zc<|Zj1 rfl rfl rfl<|Zc<|Zk rfl<|Za<|Zi<|Zl1 rfl (λ h41 => ?_)<|λ h41 => ?_
 .
  rw [if_pos h41] at hr
  refine Zb<|Zd<|Zc<|Zj VT.fa38_2 rfl<|Zc<|Zu 0 VT.ty3 rfl rfl rfl<|Zc<|Zx1 [.tmp 44, .const (.int .i64 (0)), .const (.int .i64 (3))] rfl rfl VT.en26 (within_c _ _ _)<|Zc<|Zk rfl<|Za<|Zi<|Zf1<|Za1<|Zd1<|Zg1 rfl (.tmp rfl) ?_
  first | (rw [hr]; done) | (rw [hr]; rfl) | (rw [hr]; refine congrArg V.bool (Bool.eq_iff_iff.2 ?_); simp_all; done) | (rw [hr]; refine congrArg V.bool (Bool.eq_iff_iff.2 ?_); simp_all; omega)
 rw [if_neg h41] at hr
 refine Zb<|Zd<|Zc<|Zj1 rfl rfl rfl<|Zc<|Zk rfl<|Za<|Zi<|Zl1 rfl (λ h46 => ?_)<|λ h46 => ?_
 .
  rw [if_pos h46] at hr
  refine Zb<|Zd<|Zc<|Zk rfl<|Za<|Zi<|Zf1<|Za1<|Zd1<|Zg1 rfl (.tmp rfl) ?_
  first | (rw [hr]; done) | (rw [hr]; rfl) | (rw [hr]; refine congrArg V.bool (Bool.eq_iff_iff.2 ?_); simp_all; done) | (rw [hr]; refine congrArg V.bool (Bool.eq_iff_iff.2 ?_); simp_all; omega)
 rw [if_neg h46] at hr
 refine Zi1<|Zb1<|Zi<|Zb<|Zd<|Zc<|Zj VT.fa38_2 rfl<|Zc<|Zu 0 VT.ty3 rfl rfl rfl<|Zc<|Zj1 rfl rfl rfl<|Zc<|Zk rfl<|Za<|Zi<|Zf1<|Zg1 rfl (.tmp rfl) ?_
 first | (rw [hr]; done) | (rw [hr]; rfl) | (rw [hr]; refine congrArg V.bool (Bool.eq_iff_iff.2 ?_); simp_all; done) | (rw [hr]; refine congrArg V.bool (Bool.eq_iff_iff.2 ?_); simp_all; omega)
theorem shape_c (t : STerm) : VPure Tryz.prog 115 [termV t] (.bool (shapeF t)) := by
 have hr := shapeF.eq_def t
 refine V_start (nt := 53) Tryz.func115 rfl rfl rfl ?_
 refine Zb<|Zd<|Zc<|Zc2 rfl rfl<|λ g1 => (Zc<|Zk rfl<|Za<|Zi<|Zb<|Zd<|Zc<|Zk rfl<|Zc<|Zk rfl<|Zc<|Zk rfl<|Zc<|Zk rfl<|Za<|Zi<|Zb<|Zb<|Zd<|Zc<|Zj VT.fa42_0 rfl<|Zc<|Zu 0 VT.ty3 rfl rfl rfl<|Za<|Zi<|Zs<|Zb<|Zd<|Zc<|Zj1 rfl rfl rfl<|Zc<|Zk rfl<|Za<|Zi<|Zl1 rfl (λ h9 => ?_)<|λ h9 => ?_)
 .
  rw [if_pos h9] at hr
  refine Zd<|Zc<|Zk rfl<|Za<|Zb1<|Zi<|Zb<|Zd<|Zc<|Zj VT.fa42_4 rfl<|Zc<|Zu 0 VT.ty40 rfl rfl rfl<|Zc<|Zd2 (n := t.to.length) Tryz.underlying40 rfl (by simp)<|λ hl25 => (Zc<|Zl rfl<|Zc<|Zj1 rfl rfl rfl<|Zc<|Zl rfl<|Zj2 (q := 28) rfl (λ hq28 => ?_)<|λ hq28 => ?_)
  .
   have hq28x := hq28
   try rw [i64_succ hl25 hl19] at hq28x
   refine Zc (Zl rfl ?_)<|Zy1 hq28
   refine Zc (Zl rfl ?_)<|Zy1 hq28
   refine Zk0 rfl<|Zk0 rfl<|Zk0 rfl<|Zc (Zs1 rfl rfl rfl ?_)<|Zy1 hq28
   refine Zc<|Zs1 rfl hq28 rfl<|Zc<|Zl rfl<|Zc (Zl rfl ?_)<|Zy1 rfl
   refine Zc (Zl rfl ?_)<|Zy1 rfl
   refine Zc (Zj VT.fa42_2 rfl ?_)<|Zy0 rfl
   refine Zc (Zu 0 VT.ty3 rfl rfl rfl ?_)<|Zy0 rfl
   refine Zc (Zj1 rfl rfl rfl ?_)<|Zy0 rfl
   refine Zc (Zt1 rfl rfl rfl ?_)<|Zy1 rfl
   refine Zc<|Zs1 rfl rfl rfl<|Zc<|Zl rfl<|Zj2 (q := 44) rfl (λ hq44 => ?_)<|λ hq44 => ?_
   .
    refine Zc (Zl rfl ?_)<|Zy1 hq44
    refine Zc (Zl rfl ?_)<|Zy1 hq44
    refine Zc (Zj VT.fa42_3 rfl ?_)<|Zy0 rfl
    refine Zc (Zu 0 VT.ty36 rfl rfl rfl ?_)<|Zy0 rfl
    refine Zc (Zd2 (n := t.cases.length) Tryz.underlying36 rfl (by simp)<|λ hl49 => ?_)<|Zy0 rfl
    refine Zc (Zj1 rfl rfl rfl ?_)<|Zy0 rfl
    refine Zc (Zt1 rfl rfl rfl ?_)<|Zy1 hq44
    refine Zc<|Zs1 rfl hq44 rfl<|Zc<|Zk rfl<|Za<|Zi<|Zf1<|Zg1 rfl (.tmp rfl) ?_
    first | (rw [hr]; done) | (rw [hr]; rfl) | (rw [hr]; refine congrArg V.bool (Bool.eq_iff_iff.2 ?_); simp_all; done) | (rw [hr]; refine congrArg V.bool (Bool.eq_iff_iff.2 ?_); simp_all; omega)
   refine Zk1 hq44<|Zk1 hq44<|Zh (.inr ⟨_, _, 46, rfl, rfl, rfl⟩) rfl<|Zh (.inr ⟨_, _, 46, rfl, rfl, rfl⟩) rfl<|Zh (.inr ⟨_, _, 46, rfl, rfl, rfl⟩) rfl<|Zh (.inr ⟨_, _, 46, rfl, rfl, rfl⟩) rfl<|Zk1 hq44<|Zc<|Zt1 rfl hq44 rfl<|Zc<|Zk rfl<|Za<|Zi<|Zf1<|Zg1 rfl (.tmp rfl) ?_
   first | (rw [hr]; done) | (rw [hr]; rfl) | (rw [hr]; refine congrArg V.bool (Bool.eq_iff_iff.2 ?_); simp_all; done) | (rw [hr]; refine congrArg V.bool (Bool.eq_iff_iff.2 ?_); simp_all; omega)
  have hq28x := hq28
  try rw [i64_succ hl25 hl19] at hq28x
  refine Zk1 hq28<|Zk1 hq28<|Zh (.inr ⟨_, _, 30, rfl, rfl, rfl⟩) rfl<|Zh (.inr ⟨_, _, 30, rfl, rfl, rfl⟩) rfl<|Zh (.inr ⟨_, _, 30, rfl, rfl, rfl⟩) rfl<|Zk1 hq28<|Zc<|Zt1 rfl hq28 rfl<|Zc<|Zl rfl<|Zk1 rfl<|Zk1 rfl<|Zh (.inr ⟨_, _, 38, rfl, rfl, rfl⟩) rfl<|Zh (.inr ⟨_, _, 38, rfl, rfl, rfl⟩) rfl<|Zh (.inr ⟨_, _, 38, rfl, rfl, rfl⟩) rfl<|Zk1 rfl<|Zc<|Zt1 rfl rfl rfl<|Zc<|Zl rfl<|Zk1 rfl<|Zk1 rfl<|Zh (.inr ⟨_, _, 46, rfl, rfl, rfl⟩) rfl<|Zh (.inr ⟨_, _, 46, rfl, rfl, rfl⟩) rfl<|Zh (.inr ⟨_, _, 46, rfl, rfl, rfl⟩) rfl<|Zh (.inr ⟨_, _, 46, rfl, rfl, rfl⟩) rfl<|Zk1 rfl<|Zc<|Zt1 rfl rfl rfl<|Zc<|Zk rfl<|Za<|Zi<|Zf1<|Zg1 rfl (.tmp rfl) ?_
  first | (rw [hr]; done) | (rw [hr]; rfl) | (rw [hr]; refine congrArg V.bool (Bool.eq_iff_iff.2 ?_); simp_all; done) | (rw [hr]; refine congrArg V.bool (Bool.eq_iff_iff.2 ?_); simp_all; omega)
 rw [if_neg h9] at hr
 refine Zb<|Zd<|Zc<|Zj1 rfl rfl rfl<|Zc<|Zk rfl<|Za<|Zi<|Zl1 rfl (λ h11 => ?_)<|λ h11 => ?_
 .
  rw [if_pos h11] at hr
  refine Zd<|Zc<|Zk rfl<|Za<|Zb1<|Zi<|Zb<|Zd<|Zc<|Zj VT.fa42_4 rfl<|Zc<|Zu 0 VT.ty40 rfl rfl rfl<|Zc<|Zd2 (n := t.to.length) Tryz.underlying40 rfl (by simp)<|λ hl25 => (Zc<|Zl rfl<|Zc<|Zj1 rfl rfl rfl<|Zc<|Zl rfl<|Zj2 (q := 28) rfl (λ hq28 => ?_)<|λ hq28 => ?_)
  .
   have hq28x := hq28
   try rw [i64_succ hl25 hl19] at hq28x
   refine Zc (Zl rfl ?_)<|Zy1 hq28
   refine Zc (Zl rfl ?_)<|Zy1 hq28
   refine Zc (Zj VT.fa42_1 rfl ?_)<|Zy0 rfl
   refine Zc (Zu 0 VT.ty3 rfl rfl rfl ?_)<|Zy0 rfl
   refine Zc (Zj1 rfl rfl rfl ?_)<|Zy0 rfl
   refine Zc (Zt1 rfl rfl rfl ?_)<|Zy1 hq28
   refine Zc<|Zs1 rfl hq28 rfl<|Zc<|Zl rfl<|Zj2 (q := 36) rfl (λ hq36 => ?_)<|λ hq36 => ?_
   .
    refine Zc (Zl rfl ?_)<|Zy1 hq36
    refine Zc (Zl rfl ?_)<|Zy1 hq36
    refine Zc (Zj VT.fa42_2 rfl ?_)<|Zy0 rfl
    refine Zc (Zu 0 VT.ty3 rfl rfl rfl ?_)<|Zy0 rfl
    refine Zc (Zj1 rfl rfl rfl ?_)<|Zy0 rfl
    refine Zc (Zt1 rfl rfl rfl ?_)<|Zy1 hq36
    refine Zc<|Zs1 rfl hq36 rfl<|Zc<|Zl rfl<|Zj2 (q := 44) rfl (λ hq44 => ?_)<|λ hq44 => ?_
    .
     refine Zc (Zl rfl ?_)<|Zy1 hq44
     refine Zc (Zl rfl ?_)<|Zy1 hq44
     refine Zc (Zj VT.fa42_3 rfl ?_)<|Zy0 rfl
     refine Zc (Zu 0 VT.ty36 rfl rfl rfl ?_)<|Zy0 rfl
     refine Zc (Zd2 (n := t.cases.length) Tryz.underlying36 rfl (by simp)<|λ hl49 => ?_)<|Zy0 rfl
     refine Zc (Zj1 rfl rfl rfl ?_)<|Zy0 rfl
     refine Zc (Zt1 rfl rfl rfl ?_)<|Zy1 hq44
     refine Zc<|Zs1 rfl hq44 rfl<|Zc<|Zk rfl<|Za<|Zi<|Zf1<|Zg1 rfl (.tmp rfl) ?_
     first | (rw [hr]; done) | (rw [hr]; rfl) | (rw [hr]; refine congrArg V.bool (Bool.eq_iff_iff.2 ?_); simp_all; done) | (rw [hr]; refine congrArg V.bool (Bool.eq_iff_iff.2 ?_); simp_all; omega)
    refine Zk1 hq44<|Zk1 hq44<|Zh (.inr ⟨_, _, 46, rfl, rfl, rfl⟩) rfl<|Zh (.inr ⟨_, _, 46, rfl, rfl, rfl⟩) rfl<|Zh (.inr ⟨_, _, 46, rfl, rfl, rfl⟩) rfl<|Zh (.inr ⟨_, _, 46, rfl, rfl, rfl⟩) rfl<|Zk1 hq44<|Zc<|Zt1 rfl hq44 rfl<|Zc<|Zk rfl<|Za<|Zi<|Zf1<|Zg1 rfl (.tmp rfl) ?_
    first | (rw [hr]; done) | (rw [hr]; rfl) | (rw [hr]; refine congrArg V.bool (Bool.eq_iff_iff.2 ?_); simp_all; done) | (rw [hr]; refine congrArg V.bool (Bool.eq_iff_iff.2 ?_); simp_all; omega)
   refine Zk1 hq36<|Zk1 hq36<|Zh (.inr ⟨_, _, 38, rfl, rfl, rfl⟩) rfl<|Zh (.inr ⟨_, _, 38, rfl, rfl, rfl⟩) rfl<|Zh (.inr ⟨_, _, 38, rfl, rfl, rfl⟩) rfl<|Zk1 hq36<|Zc<|Zt1 rfl hq36 rfl<|Zc<|Zl rfl<|Zk1 rfl<|Zk1 rfl<|Zh (.inr ⟨_, _, 46, rfl, rfl, rfl⟩) rfl<|Zh (.inr ⟨_, _, 46, rfl, rfl, rfl⟩) rfl<|Zh (.inr ⟨_, _, 46, rfl, rfl, rfl⟩) rfl<|Zh (.inr ⟨_, _, 46, rfl, rfl, rfl⟩) rfl<|Zk1 rfl<|Zc<|Zt1 rfl rfl rfl<|Zc<|Zk rfl<|Za<|Zi<|Zf1<|Zg1 rfl (.tmp rfl) ?_
   first | (rw [hr]; done) | (rw [hr]; rfl) | (rw [hr]; refine congrArg V.bool (Bool.eq_iff_iff.2 ?_); simp_all; done) | (rw [hr]; refine congrArg V.bool (Bool.eq_iff_iff.2 ?_); simp_all; omega)
  have hq28x := hq28
  try rw [i64_succ hl25 hl19] at hq28x
  refine Zk1 hq28<|Zk1 hq28<|Zh (.inr ⟨_, _, 30, rfl, rfl, rfl⟩) rfl<|Zh (.inr ⟨_, _, 30, rfl, rfl, rfl⟩) rfl<|Zh (.inr ⟨_, _, 30, rfl, rfl, rfl⟩) rfl<|Zk1 hq28<|Zc<|Zt1 rfl hq28 rfl<|Zc<|Zl rfl<|Zk1 rfl<|Zk1 rfl<|Zh (.inr ⟨_, _, 38, rfl, rfl, rfl⟩) rfl<|Zh (.inr ⟨_, _, 38, rfl, rfl, rfl⟩) rfl<|Zh (.inr ⟨_, _, 38, rfl, rfl, rfl⟩) rfl<|Zk1 rfl<|Zc<|Zt1 rfl rfl rfl<|Zc<|Zl rfl<|Zk1 rfl<|Zk1 rfl<|Zh (.inr ⟨_, _, 46, rfl, rfl, rfl⟩) rfl<|Zh (.inr ⟨_, _, 46, rfl, rfl, rfl⟩) rfl<|Zh (.inr ⟨_, _, 46, rfl, rfl, rfl⟩) rfl<|Zh (.inr ⟨_, _, 46, rfl, rfl, rfl⟩) rfl<|Zk1 rfl<|Zc<|Zt1 rfl rfl rfl<|Zc<|Zk rfl<|Za<|Zi<|Zf1<|Zg1 rfl (.tmp rfl) ?_
  first | (rw [hr]; done) | (rw [hr]; rfl) | (rw [hr]; refine congrArg V.bool (Bool.eq_iff_iff.2 ?_); simp_all; done) | (rw [hr]; refine congrArg V.bool (Bool.eq_iff_iff.2 ?_); simp_all; omega)
 rw [if_neg h11] at hr
 refine Zb<|Zd<|Zc<|Zj1 rfl rfl rfl<|Zc<|Zk rfl<|Za<|Zi<|Zl1 rfl (λ h13 => ?_)<|λ h13 => ?_
 .
  rw [if_pos h13] at hr
  refine Zd<|Zc<|Zk rfl<|Zc<|Zk rfl<|Za<|Zb1<|Zi<|Zb<|Zd<|Zc<|Zj VT.fa42_4 rfl<|Zc<|Zu 0 VT.ty40 rfl rfl rfl<|Zc<|Zd2 (n := t.to.length) Tryz.underlying40 rfl (by simp)<|λ hl25 => (Zc<|Zl rfl<|Zc<|Zj1 rfl rfl rfl<|Zc<|Zl rfl<|Zj2 (q := 28) rfl (λ hq28 => ?_)<|λ hq28 => ?_)
  .
   have hq28x := hq28
   try rw [i64_succ hl25 hl19] at hq28x
   refine Zc (Zl rfl ?_)<|Zy1 hq28
   refine Zc (Zl rfl ?_)<|Zy1 hq28
   refine Zk0 rfl<|Zk0 rfl<|Zk0 rfl<|Zc (Zs1 rfl rfl rfl ?_)<|Zy1 hq28
   refine Zc<|Zs1 rfl hq28 rfl<|Zc<|Zl rfl<|Zc (Zl rfl ?_)<|Zy1 rfl
   refine Zc (Zl rfl ?_)<|Zy1 rfl
   refine Zc (Zj VT.fa42_2 rfl ?_)<|Zy0 rfl
   refine Zc (Zu 0 VT.ty3 rfl rfl rfl ?_)<|Zy0 rfl
   refine Zc (Zj1 rfl rfl rfl ?_)<|Zy0 rfl
   refine Zc (Zt1 rfl rfl rfl ?_)<|Zy1 rfl
   refine Zc<|Zs1 rfl rfl rfl<|Zc<|Zl rfl<|Zj2 (q := 44) rfl (λ hq44 => ?_)<|λ hq44 => ?_
   .
    refine Zc (Zl rfl ?_)<|Zy1 hq44
    refine Zc (Zl rfl ?_)<|Zy1 hq44
    refine Zc (Zj VT.fa42_3 rfl ?_)<|Zy0 rfl
    refine Zc (Zu 0 VT.ty36 rfl rfl rfl ?_)<|Zy0 rfl
    refine Zc (Zd2 (n := t.cases.length) Tryz.underlying36 rfl (by simp)<|λ hl49 => ?_)<|Zy0 rfl
    refine Zc (Zj1 rfl rfl rfl ?_)<|Zy0 rfl
    refine Zc (Zt1 rfl rfl rfl ?_)<|Zy1 hq44
    refine Zc<|Zs1 rfl hq44 rfl<|Zc<|Zk rfl<|Za<|Zi<|Zf1<|Zg1 rfl (.tmp rfl) ?_
    first | (rw [hr]; done) | (rw [hr]; rfl) | (rw [hr]; refine congrArg V.bool (Bool.eq_iff_iff.2 ?_); simp_all; done) | (rw [hr]; refine congrArg V.bool (Bool.eq_iff_iff.2 ?_); simp_all; omega)
   refine Zk1 hq44<|Zk1 hq44<|Zh (.inr ⟨_, _, 46, rfl, rfl, rfl⟩) rfl<|Zh (.inr ⟨_, _, 46, rfl, rfl, rfl⟩) rfl<|Zh (.inr ⟨_, _, 46, rfl, rfl, rfl⟩) rfl<|Zh (.inr ⟨_, _, 46, rfl, rfl, rfl⟩) rfl<|Zk1 hq44<|Zc<|Zt1 rfl hq44 rfl<|Zc<|Zk rfl<|Za<|Zi<|Zf1<|Zg1 rfl (.tmp rfl) ?_
   first | (rw [hr]; done) | (rw [hr]; rfl) | (rw [hr]; refine congrArg V.bool (Bool.eq_iff_iff.2 ?_); simp_all; done) | (rw [hr]; refine congrArg V.bool (Bool.eq_iff_iff.2 ?_); simp_all; omega)
  have hq28x := hq28
  try rw [i64_succ hl25 hl19] at hq28x
  refine Zk1 hq28<|Zk1 hq28<|Zh (.inr ⟨_, _, 30, rfl, rfl, rfl⟩) rfl<|Zh (.inr ⟨_, _, 30, rfl, rfl, rfl⟩) rfl<|Zh (.inr ⟨_, _, 30, rfl, rfl, rfl⟩) rfl<|Zk1 hq28<|Zc<|Zt1 rfl hq28 rfl<|Zc<|Zl rfl<|Zk1 rfl<|Zk1 rfl<|Zh (.inr ⟨_, _, 38, rfl, rfl, rfl⟩) rfl<|Zh (.inr ⟨_, _, 38, rfl, rfl, rfl⟩) rfl<|Zh (.inr ⟨_, _, 38, rfl, rfl, rfl⟩) rfl<|Zk1 rfl<|Zc<|Zt1 rfl rfl rfl<|Zc<|Zl rfl<|Zk1 rfl<|Zk1 rfl<|Zh (.inr ⟨_, _, 46, rfl, rfl, rfl⟩) rfl<|Zh (.inr ⟨_, _, 46, rfl, rfl, rfl⟩) rfl<|Zh (.inr ⟨_, _, 46, rfl, rfl, rfl⟩) rfl<|Zh (.inr ⟨_, _, 46, rfl, rfl, rfl⟩) rfl<|Zk1 rfl<|Zc<|Zt1 rfl rfl rfl<|Zc<|Zk rfl<|Za<|Zi<|Zf1<|Zg1 rfl (.tmp rfl) ?_
  first | (rw [hr]; done) | (rw [hr]; rfl) | (rw [hr]; refine congrArg V.bool (Bool.eq_iff_iff.2 ?_); simp_all; done) | (rw [hr]; refine congrArg V.bool (Bool.eq_iff_iff.2 ?_); simp_all; omega)
 rw [if_neg h13] at hr
 refine Zb<|Zd<|Zc<|Zj1 rfl rfl rfl<|Zc<|Zk rfl<|Za<|Zi<|Zl1 rfl (λ h15 => ?_)<|λ h15 => ?_
 .
  rw [if_pos h15] at hr
  refine Zd<|Zc<|Zj VT.fa42_3 rfl<|Zc<|Zu 0 VT.ty36 rfl rfl rfl<|Zc<|Zd2 (n := t.cases.length) Tryz.underlying36 rfl (by simp)<|λ hl19 => (Zc<|Zj1 rfl rfl rfl<|Zc<|Zk rfl<|Zc<|Zk rfl<|Zc<|Zk rfl<|Za<|Zb1<|Zi<|Zb<|Zd<|Zc<|Zj VT.fa42_4 rfl<|Zc<|Zu 0 VT.ty40 rfl rfl rfl<|Zc<|Zd2 (n := t.to.length) Tryz.underlying40 rfl (by simp)<|λ hl25 => (Zc<|Zl rfl<|Zc<|Zj1 rfl rfl rfl<|Zc<|Zl rfl<|Zj2 (q := 28) rfl (λ hq28 => ?_)<|λ hq28 => ?_))
  .
   have hq28x := hq28
   try rw [i64_succ hl25 hl19] at hq28x
   refine Zc (Zl rfl ?_)<|Zy1 hq28
   refine Zc (Zl rfl ?_)<|Zy1 hq28
   refine Zk0 rfl<|Zk0 rfl<|Zk0 rfl<|Zc (Zs1 rfl rfl rfl ?_)<|Zy1 hq28
   refine Zc<|Zs1 rfl hq28 rfl<|Zc<|Zl rfl<|Zc (Zl rfl ?_)<|Zy1 rfl
   refine Zc (Zl rfl ?_)<|Zy1 rfl
   refine Zc (Zj VT.fa42_2 rfl ?_)<|Zy0 rfl
   refine Zc (Zu 0 VT.ty3 rfl rfl rfl ?_)<|Zy0 rfl
   refine Zc (Zj1 rfl rfl rfl ?_)<|Zy0 rfl
   refine Zc (Zt1 rfl rfl rfl ?_)<|Zy1 rfl
   refine Zc<|Zs1 rfl rfl rfl<|Zc<|Zl rfl<|Zj2 (q := 44) rfl (λ hq44 => ?_)<|λ hq44 => ?_
   .
    refine Zc (Zl rfl ?_)<|Zy1 hq44
    refine Zc (Zl rfl ?_)<|Zy1 hq44
    refine Zk0 rfl<|Zk0 rfl<|Zk0 rfl<|Zk0 rfl<|Zc (Zs1 rfl rfl rfl ?_)<|Zy1 hq44
    refine Zc<|Zs1 rfl hq44 rfl<|Zc<|Zk rfl<|Za<|Zi<|Zf1<|Zg1 rfl (.tmp rfl) ?_
    first | (rw [hr]; done) | (rw [hr]; rfl) | (rw [hr]; refine congrArg V.bool (Bool.eq_iff_iff.2 ?_); simp_all; done) | (rw [hr]; refine congrArg V.bool (Bool.eq_iff_iff.2 ?_); simp_all; omega)
   refine Zk1 hq44<|Zk1 hq44<|Zh (.inr ⟨_, _, 46, rfl, rfl, rfl⟩) rfl<|Zh (.inr ⟨_, _, 46, rfl, rfl, rfl⟩) rfl<|Zh (.inr ⟨_, _, 46, rfl, rfl, rfl⟩) rfl<|Zh (.inr ⟨_, _, 46, rfl, rfl, rfl⟩) rfl<|Zk1 hq44<|Zc<|Zt1 rfl hq44 rfl<|Zc<|Zk rfl<|Za<|Zi<|Zf1<|Zg1 rfl (.tmp rfl) ?_
   first | (rw [hr]; done) | (rw [hr]; rfl) | (rw [hr]; refine congrArg V.bool (Bool.eq_iff_iff.2 ?_); simp_all; done) | (rw [hr]; refine congrArg V.bool (Bool.eq_iff_iff.2 ?_); simp_all; omega)
  have hq28x := hq28
  try rw [i64_succ hl25 hl19] at hq28x
  refine Zk1 hq28<|Zk1 hq28<|Zh (.inr ⟨_, _, 30, rfl, rfl, rfl⟩) rfl<|Zh (.inr ⟨_, _, 30, rfl, rfl, rfl⟩) rfl<|Zh (.inr ⟨_, _, 30, rfl, rfl, rfl⟩) rfl<|Zk1 hq28<|Zc<|Zt1 rfl hq28 rfl<|Zc<|Zl rfl<|Zk1 rfl<|Zk1 rfl<|Zh (.inr ⟨_, _, 38, rfl, rfl, rfl⟩) rfl<|Zh (.inr ⟨_, _, 38, rfl, rfl, rfl⟩) rfl<|Zh (.inr ⟨_, _, 38, rfl, rfl, rfl⟩) rfl<|Zk1 rfl<|Zc<|Zt1 rfl rfl rfl<|Zc<|Zl rfl<|Zk1 rfl<|Zk1 rfl<|Zh (.inr ⟨_, _, 46, rfl, rfl, rfl⟩) rfl<|Zh (.inr ⟨_, _, 46, rfl, rfl, rfl⟩) rfl<|Zh (.inr ⟨_, _, 46, rfl, rfl, rfl⟩) rfl<|Zh (.inr ⟨_, _, 46, rfl, rfl, rfl⟩) rfl<|Zk1 rfl<|Zc<|Zt1 rfl rfl rfl<|Zc<|Zk rfl<|Za<|Zi<|Zf1<|Zg1 rfl (.tmp rfl) ?_
  first | (rw [hr]; done) | (rw [hr]; rfl) | (rw [hr]; refine congrArg V.bool (Bool.eq_iff_iff.2 ?_); simp_all; done) | (rw [hr]; refine congrArg V.bool (Bool.eq_iff_iff.2 ?_); simp_all; omega)
 rw [if_neg h15] at hr
 refine Zb<|Zd<|Zc<|Zj1 rfl rfl rfl<|Zc<|Zk rfl<|Za<|Zi<|Zl1 rfl (λ h21 => ?_)<|λ h21 => ?_
 .
  rw [if_pos h21] at hr
  refine Zd<|Zc<|Zk rfl<|Za<|Zb1<|Zi<|Zb<|Zd<|Zc<|Zj VT.fa42_4 rfl<|Zc<|Zu 0 VT.ty40 rfl rfl rfl<|Zc<|Zd2 (n := t.to.length) Tryz.underlying40 rfl (by simp)<|λ hl25 => (Zc<|Zl rfl<|Zc<|Zj1 rfl rfl rfl<|Zc<|Zl rfl<|Zj2 (q := 28) rfl (λ hq28 => ?_)<|λ hq28 => ?_)
  .
   have hq28x := hq28
   try rw [i64_succ hl25 hl19] at hq28x
   refine Zc (Zl rfl ?_)<|Zy1 hq28
   refine Zc (Zl rfl ?_)<|Zy1 hq28
   refine Zc (Zj VT.fa42_1 rfl ?_)<|Zy0 rfl
   refine Zc (Zu 0 VT.ty3 rfl rfl rfl ?_)<|Zy0 rfl
   refine Zc (Zj1 rfl rfl rfl ?_)<|Zy0 rfl
   refine Zc (Zt1 rfl rfl rfl ?_)<|Zy1 hq28
   refine Zc<|Zs1 rfl hq28 rfl<|Zc<|Zl rfl<|Zj2 (q := 36) rfl (λ hq36 => ?_)<|λ hq36 => ?_
   .
    refine Zc (Zl rfl ?_)<|Zy1 hq36
    refine Zc (Zl rfl ?_)<|Zy1 hq36
    refine Zk0 rfl<|Zk0 rfl<|Zk0 rfl<|Zc (Zs1 rfl rfl rfl ?_)<|Zy1 hq36
    refine Zc<|Zs1 rfl hq36 rfl<|Zc<|Zl rfl<|Zc (Zl rfl ?_)<|Zy1 rfl
    refine Zc (Zl rfl ?_)<|Zy1 rfl
    refine Zc (Zj VT.fa42_3 rfl ?_)<|Zy0 rfl
    refine Zc (Zu 0 VT.ty36 rfl rfl rfl ?_)<|Zy0 rfl
    refine Zc (Zd2 (n := t.cases.length) Tryz.underlying36 rfl (by simp)<|λ hl49 => ?_)<|Zy0 rfl
    refine Zc (Zj1 rfl rfl rfl ?_)<|Zy0 rfl
    refine Zc (Zt1 rfl rfl rfl ?_)<|Zy1 rfl
    refine Zc<|Zs1 rfl rfl rfl<|Zc<|Zk rfl<|Za<|Zi<|Zf1<|Zg1 rfl (.tmp rfl) ?_
    first | (rw [hr]; done) | (rw [hr]; rfl) | (rw [hr]; refine congrArg V.bool (Bool.eq_iff_iff.2 ?_); simp_all; done) | (rw [hr]; refine congrArg V.bool (Bool.eq_iff_iff.2 ?_); simp_all; omega)
   refine Zk1 hq36<|Zk1 hq36<|Zh (.inr ⟨_, _, 38, rfl, rfl, rfl⟩) rfl<|Zh (.inr ⟨_, _, 38, rfl, rfl, rfl⟩) rfl<|Zh (.inr ⟨_, _, 38, rfl, rfl, rfl⟩) rfl<|Zk1 hq36<|Zc<|Zt1 rfl hq36 rfl<|Zc<|Zl rfl<|Zk1 rfl<|Zk1 rfl<|Zh (.inr ⟨_, _, 46, rfl, rfl, rfl⟩) rfl<|Zh (.inr ⟨_, _, 46, rfl, rfl, rfl⟩) rfl<|Zh (.inr ⟨_, _, 46, rfl, rfl, rfl⟩) rfl<|Zh (.inr ⟨_, _, 46, rfl, rfl, rfl⟩) rfl<|Zk1 rfl<|Zc<|Zt1 rfl rfl rfl<|Zc<|Zk rfl<|Za<|Zi<|Zf1<|Zg1 rfl (.tmp rfl) ?_
   first | (rw [hr]; done) | (rw [hr]; rfl) | (rw [hr]; refine congrArg V.bool (Bool.eq_iff_iff.2 ?_); simp_all; done) | (rw [hr]; refine congrArg V.bool (Bool.eq_iff_iff.2 ?_); simp_all; omega)
  have hq28x := hq28
  try rw [i64_succ hl25 hl19] at hq28x
  refine Zk1 hq28<|Zk1 hq28<|Zh (.inr ⟨_, _, 30, rfl, rfl, rfl⟩) rfl<|Zh (.inr ⟨_, _, 30, rfl, rfl, rfl⟩) rfl<|Zh (.inr ⟨_, _, 30, rfl, rfl, rfl⟩) rfl<|Zk1 hq28<|Zc<|Zt1 rfl hq28 rfl<|Zc<|Zl rfl<|Zk1 rfl<|Zk1 rfl<|Zh (.inr ⟨_, _, 38, rfl, rfl, rfl⟩) rfl<|Zh (.inr ⟨_, _, 38, rfl, rfl, rfl⟩) rfl<|Zh (.inr ⟨_, _, 38, rfl, rfl, rfl⟩) rfl<|Zk1 rfl<|Zc<|Zt1 rfl rfl rfl<|Zc<|Zl rfl<|Zk1 rfl<|Zk1 rfl<|Zh (.inr ⟨_, _, 46, rfl, rfl, rfl⟩) rfl<|Zh (.inr ⟨_, _, 46, rfl, rfl, rfl⟩) rfl<|Zh (.inr ⟨_, _, 46, rfl, rfl, rfl⟩) rfl<|Zh (.inr ⟨_, _, 46, rfl, rfl, rfl⟩) rfl<|Zk1 rfl<|Zc<|Zt1 rfl rfl rfl<|Zc<|Zk rfl<|Za<|Zi<|Zf1<|Zg1 rfl (.tmp rfl) ?_
  first | (rw [hr]; done) | (rw [hr]; rfl) | (rw [hr]; refine congrArg V.bool (Bool.eq_iff_iff.2 ?_); simp_all; done) | (rw [hr]; refine congrArg V.bool (Bool.eq_iff_iff.2 ?_); simp_all; omega)
 rw [if_neg h21] at hr
 refine Zb<|Zd<|Zc<|Zk rfl<|Za<|Zi<|Zf1<|Za1<|Zd1<|Zg1 rfl (.tmp rfl) ?_
 first | (rw [hr]; done) | (rw [hr]; rfl) | (rw [hr]; refine congrArg V.bool (Bool.eq_iff_iff.2 ?_); simp_all; done) | (rw [hr]; refine congrArg V.bool (Bool.eq_iff_iff.2 ?_); simp_all; omega)
theorem intIndex_c (l : List Int) (tok : Option Tok) (v : Int) : VPure Tryz.prog 20 [.sl 1 tok (l.map V.int), .int v] (.int (idxOf (λ x => decide (v = x)) l)) := by
 refine V_start (nt := 19) Tryz.func20 rfl rfl rfl ?_
 refine Zb<|Zd<|Zc<|Zk rfl<|Za<|Zi<|Zb<|Zb<|Zd<|Zc<|Zl rfl<|Zc<|Zd2 (n := l.length) Tryz.underlying36 rfl (by simp)<|λ hl7 => (Zc<|Zl rfl<|Za<|Zi<|Zs<|Zi2 (ι := Nat) (λ k => l.length - k) (λ k => [(0, some (.sl 1 tok (l.map V.int))), (1, some (.int v)), (7, some (.int l.length)), (8, some (.int k))]) (λ k => []) (λ k => k <= l.length /\ (l.take k).any (λ x => decide (v = x)) = false) 0 ⟨Nat.zero_le _, rfl⟩ ⟨rfl, rfl, rfl, rfl, trivial⟩ (Zt2 _) ?_)
 rintro k hA
 change k <= l.length /\ (l.take k).any (λ x => decide (v = x)) = false at hA
 obtain ⟨hk, hany⟩ := hA
 refine Zb<|Zd<|Zc<|Zj1 rfl rfl rfl<|Za<|Zi<|Zb<|Zn1 rfl (λ h9 => ?_)<|λ h9 => ?_
 .
  obtain ⟨x, hr⟩ := get_of_lt l k h9
  refine Zi1<|Zi<|Zb<|Zs<|Zb<|Zd<|Zc<|Zl rfl<|Zc<|Zk rfl<|Za<|Zi<|Zb<|Zd<|Zc<|Zl rfl<|Zc<|Zl rfl<|Zc<|Zl rfl<|Zc<|Zz (el := V.int x) VT.sl36 rfl rfl (by omega) (get_int hr)<|λ a14 => (Zc<|Zz1 VT.ty3 rfl rfl<|Zc<|Zj1 rfl rfl rfl<|Za<|Zi<|Zl1 rfl (λ h16 => ?_)<|λ h16 => ?_)
  .
   refine Zb<|Zd<|Zc<|Zl rfl<|Zc<|Zk rfl<|Za<|Zi<|Zf1<|Za1<|Zd1<|Zd1<|Za1<|Zd1<|Zg1 rfl (.tmp rfl) ?_
   rw [idxOf_at (λ x => decide (v = x)) hr hany (decide_eq_true h16)]
  refine Zi1<|Zb1<|Zi<|Zd<|Zc<|Zh2 rfl rfl (by omega)<|Zc<|Zl rfl<|Za<|Zi ?_
  exact ⟨k + 1, (by (try simp only []); omega), ⟨by omega, any_snoc hr hany (decide_eq_false h16)⟩, ⟨rfl, rfl, rfl, rfl, trivial⟩, (Drops.nil _)⟩
 have hke : k = l.length := by omega
 subst hke
 rw [List.take_length] at hany
 refine Zt<|Ze1<|Ze1<|Zc1<|Zi<|Zb<|Zd<|Zc<|Zk rfl<|Za<|Zi<|Zf1<|Zg1 rfl (.tmp rfl) ?_
 rw [idxOf_none (λ x => decide (v = x)) hany]
theorem intContains_c (l : List Int) (tok : Option Tok) (v : Int) : VPure Tryz.prog 58 [.sl 1 tok (l.map V.int), .int v] (.bool (l.any λ x => decide (v = x))) := by
 refine V_start (nt := 9) Tryz.func58 rfl rfl rfl ?_
 refine Zb<|Zd<|Zc<|Zk rfl<|Za<|Zi<|Zb<|Zd<|Zc<|Zl rfl<|Zc<|Zl rfl<|Zc<|Zx1 [.tmp 5, .tmp 6] rfl rfl VT.en20 (intIndex_c l tok v)<|Zc<|Zj1 rfl rfl rfl<|Zc<|Zk rfl<|Za<|Zi<|Zf1<|Zg1 rfl (.tmp rfl) ?_
 rw [idxOf_ge]
theorem form_c (i : SIns) : VPure Tryz.prog 98 [insV i] (.int (formF i)) := by
 have hr := formF.eq_def i
 refine V_start (nt := 68) Tryz.func98 rfl rfl rfl ?_
 refine Zb<|Zd<|Zc<|Zc2 rfl rfl<|λ g1 => (Zc<|Zk rfl<|Za<|Zi<|Zb<|Zd<|Zc<|Zv 0 VT.ty38 rfl rfl rfl<|Zc<|Zx1 [.tmp 6] rfl rfl VT.en113 (operands_c i)<|Zc<|Zl rfl<|Zc<|Zg2 rfl rfl<|Zc<|Zg2 rfl rfl<|Zc<|Zk rfl<|Zc<|Zk rfl<|Za<|Zi<|Zb<|Zs<|VW_cutF [(1, some (.ptr g1 0)), (10, some (.bool (formBad i)))] [.cells g1 38 [.int i.to, .int i.op, .int i.n, intsX i.args]] ?_ ?_)
 .
  refine Zd<|Zc<|Zl rfl<|Zc<|Zl2 rfl<|Zc<|Zl rfl<|Zj2 (q := 13) rfl (λ hq13 => ?_)<|λ hq13 => ?_
  .
   refine Zk0 hq13<|Zk0 hq13<|Zk0 hq13<|Zh (.inr ⟨_, _, 16, rfl, rfl, rfl⟩) rfl<|Zh (.inr ⟨_, _, 16, rfl, rfl, rfl⟩) rfl<|Zh (.inr ⟨_, _, 16, rfl, rfl, rfl⟩) rfl<|Zh (.inr ⟨_, _, 16, rfl, rfl, rfl⟩) rfl<|Zh (.inr ⟨_, _, 16, rfl, rfl, rfl⟩) rfl<|Zk0 hq13<|Zc<|Zs1 rfl hq13 rfl<|Zc<|Zl rfl<|Zk0 rfl<|Zk0 rfl<|Zk0 rfl<|Zk0 rfl<|Zh (.inr ⟨_, _, 28, rfl, rfl, rfl⟩) rfl<|Zh (.inr ⟨_, _, 28, rfl, rfl, rfl⟩) rfl<|Zh (.inr ⟨_, _, 28, rfl, rfl, rfl⟩) rfl<|Zh (.inr ⟨_, _, 28, rfl, rfl, rfl⟩) rfl<|Zk0 rfl<|Zc<|Zs1 rfl rfl rfl<|Zc<|Zk rfl<|Za<|Zi ?_
   exact ⟨⟨rfl, (congrArg (λ b => some (V.bool b)) (Bool.eq_iff_iff.2 (by first | (simp_all [formBad]; done) | (simp_all [formBad]; omega)))), trivial⟩, (Dk (Zt2 _))⟩
  refine Zc (Zl rfl ?_)<|Zy0 hq13
  refine Zc (Zj1 rfl rfl rfl ?_)<|Zy0 hq13
  refine Zc (Zl rfl ?_)<|Zy0 hq13
  refine Zj2 (q := 16) rfl (λ hq16 => ?_)<|λ hq16 => ?_
  .
   refine Zc (Zj VT.fa38_3 rfl ?_)<|Zy1 hq16
   refine Zc (Zu 0 VT.ty36 rfl rfl rfl ?_)<|Zy1 hq16
   refine Zc (Zd2 (n := i.args.length) Tryz.underlying36 rfl (by simp)<|λ hl19 => ?_)<|Zy1 hq16
   refine Zc (Zl rfl ?_)<|Zy1 hq16
   refine Zc (Zj1 rfl rfl rfl ?_)<|Zy1 hq16
   refine Zc (Zs1 rfl hq16 rfl ?_)<|Zy0 hq13
   refine Zc<|Zt1 rfl hq13 rfl<|Zc<|Zl rfl<|Zj2 (q := 24) rfl (λ hq24 => ?_)<|λ hq24 => ?_
   .
    refine Zk0 hq24<|Zk0 hq24<|Zk0 hq24<|Zk0 hq24<|Zh (.inr ⟨_, _, 28, rfl, rfl, rfl⟩) rfl<|Zh (.inr ⟨_, _, 28, rfl, rfl, rfl⟩) rfl<|Zh (.inr ⟨_, _, 28, rfl, rfl, rfl⟩) rfl<|Zh (.inr ⟨_, _, 28, rfl, rfl, rfl⟩) rfl<|Zk0 hq24<|Zc<|Zs1 rfl hq24 rfl<|Zc<|Zk rfl<|Za<|Zi ?_
    exact ⟨⟨rfl, (congrArg (λ b => some (V.bool b)) (Bool.eq_iff_iff.2 (by first | (simp_all [formBad]; done) | (simp_all [formBad]; omega)))), trivial⟩, (Dk (Zt2 _))⟩
   refine Zc (Zj VT.fa38_1 rfl ?_)<|Zy0 hq24
   refine Zc (Zu 0 VT.ty3 rfl rfl rfl ?_)<|Zy0 hq24
   refine Zc (Zj1 rfl rfl rfl ?_)<|Zy0 hq24
   refine Zc (Zl rfl ?_)<|Zy0 hq24
   refine Zj2 (q := 28) rfl (λ hq28 => ?_)<|λ hq28 => ?_
   .
    refine Zc (Zj VT.fa38_3 rfl ?_)<|Zy1 hq28
    refine Zc (Zu 0 VT.ty36 rfl rfl rfl ?_)<|Zy1 hq28
    refine Zc (Zd2 (n := i.args.length) Tryz.underlying36 rfl (by simp)<|λ hl31 => ?_)<|Zy1 hq28
    refine Zc (Zj1 rfl rfl rfl ?_)<|Zy1 hq28
    refine Zc (Zs1 rfl hq28 rfl ?_)<|Zy0 hq24
    refine Zc<|Zt1 rfl hq24 rfl<|Zc<|Zk rfl<|Za<|Zi ?_
    exact ⟨⟨rfl, (congrArg (λ b => some (V.bool b)) (Bool.eq_iff_iff.2 (by first | (simp_all [formBad]; done) | (simp_all [formBad]; omega)))), trivial⟩, (Dk (Zt2 _))⟩
   refine Zk1 hq28<|Zk1 hq28<|Zk1 hq28<|Zk1 hq28<|Zc (Zt1 rfl hq28 rfl ?_)<|Zy0 hq24
   refine Zc<|Zt1 rfl hq24 rfl<|Zc<|Zk rfl<|Za<|Zi ?_
   exact ⟨⟨rfl, (congrArg (λ b => some (V.bool b)) (Bool.eq_iff_iff.2 (by first | (simp_all [formBad]; done) | (simp_all [formBad]; omega)))), trivial⟩, (Dk (Zt2 _))⟩
  refine Zk1 hq16<|Zk1 hq16<|Zk1 hq16<|Zk1 hq16<|Zk1 hq16<|Zc (Zt1 rfl hq16 rfl ?_)<|Zy0 hq13
  refine Zc<|Zt1 rfl hq13 rfl<|Zc<|Zl rfl<|Zc (Zj VT.fa38_1 rfl ?_)<|Zy0 rfl
  refine Zc (Zu 0 VT.ty3 rfl rfl rfl ?_)<|Zy0 rfl
  refine Zc (Zj1 rfl rfl rfl ?_)<|Zy0 rfl
  refine Zc (Zl rfl ?_)<|Zy0 rfl
  refine Zj2 (q := 28) rfl (λ hq28 => ?_)<|λ hq28 => ?_
  .
   refine Zc (Zj VT.fa38_3 rfl ?_)<|Zy1 hq28
   refine Zc (Zu 0 VT.ty36 rfl rfl rfl ?_)<|Zy1 hq28
   refine Zc (Zd2 (n := i.args.length) Tryz.underlying36 rfl (by simp)<|λ hl31 => ?_)<|Zy1 hq28
   refine Zc (Zj1 rfl rfl rfl ?_)<|Zy1 hq28
   refine Zc (Zs1 rfl hq28 rfl ?_)<|Zy0 rfl
   refine Zc<|Zt1 rfl rfl rfl<|Zc<|Zk rfl<|Za<|Zi ?_
   exact ⟨⟨rfl, (congrArg (λ b => some (V.bool b)) (Bool.eq_iff_iff.2 (by first | (simp_all [formBad]; done) | (simp_all [formBad]; omega)))), trivial⟩, (Dk (Zt2 _))⟩
  refine Zk1 hq28<|Zk1 hq28<|Zk1 hq28<|Zk1 hq28<|Zc (Zt1 rfl hq28 rfl ?_)<|Zy0 rfl
  refine Zc<|Zt1 rfl rfl rfl<|Zc<|Zk rfl<|Za<|Zi ?_
  exact ⟨⟨rfl, (congrArg (λ b => some (V.bool b)) (Bool.eq_iff_iff.2 (by first | (simp_all [formBad]; done) | (simp_all [formBad]; omega)))), trivial⟩, (Dk (Zt2 _))⟩
 refine Zr1 rfl (λ h10 => ?_)<|λ h10 => ?_
 .
  rw [if_pos h10] at hr
  refine Zb<|Zd<|Zc<|Zk rfl<|Za<|Zi<|Zf1<|Za1<|Zd1<|Zg1 rfl (.tmp rfl) ?_
  rw [hr]
 rw [if_neg (by rw [h10]; exact Bool.false_ne_true)] at hr
 refine VW_cutF [(1, some (.ptr g1 0)), (35, some (.bool (formLarge i)))] [.cells g1 38 [.int i.to, .int i.op, .int i.n, intsX i.args]] ?_ ?_
 .
  refine Zb<|Zd<|Zc<|Zj VT.fa38_1 rfl<|Zc<|Zu 0 VT.ty3 rfl rfl rfl<|Zc<|Zj1 rfl rfl rfl<|Zc<|Zl rfl<|Zj2 (q := 39) rfl (λ hq39 => ?_)<|λ hq39 => ?_
  .
   refine Zk0 hq39<|Zk0 hq39<|Zk0 hq39<|Zc<|Zs1 rfl hq39 rfl<|Zc<|Zl rfl<|Zc (Zj VT.fa38_3 rfl ?_)<|Zy1 rfl
   refine Zc (Zu 0 VT.ty36 rfl rfl rfl ?_)<|Zy1 rfl
   refine Zc (Zd2 (n := i.args.length) Tryz.underlying36 rfl (by simp)<|λ hl47 => ?_)<|Zy1 rfl
   refine Zc (Zj1 rfl rfl rfl ?_)<|Zy1 rfl
   refine Zc<|Zs1 rfl rfl rfl<|Zc<|Zk rfl<|Za<|Zi<|Zn1 rfl (λ h35 => ?_)<|λ h35 => ?_
   .
    first | rw [if_pos (show formLarge i = true from h35)] at hr | skip
    refine Zi1<|Zi ?_
    exact ⟨⟨rfl, (congrArg (λ b => some (V.bool b)) (Bool.eq_iff_iff.2 (by first | (simp_all [formLarge]; done) | (simp_all [formLarge]; omega)))), trivial⟩, (Dk (Zt2 _))⟩
   first | rw [if_neg (by rw [show formLarge i = false from h35]; exact Bool.false_ne_true)] at hr | skip
   refine Zd<|Zc<|Zj VT.fa38_1 rfl<|Zc<|Zu 0 VT.ty3 rfl rfl rfl<|Zc<|Zj1 rfl rfl rfl<|Zc<|Zl rfl<|Zj2 (q := 53) rfl (λ hq53 => ?_)<|λ hq53 => ?_
   .
    refine Zk0 hq53<|Zk0 hq53<|Zk0 hq53<|Zc<|Zs1 rfl hq53 rfl<|Zc<|Zl rfl<|Zc (Zj VT.fa38_3 rfl ?_)<|Zy1 rfl
    refine Zc (Zu 0 VT.ty36 rfl rfl rfl ?_)<|Zy1 rfl
    refine Zc (Zd2 (n := i.args.length) Tryz.underlying36 rfl (by simp)<|λ hl61 => ?_)<|Zy1 rfl
    refine Zc (Zj1 rfl rfl rfl ?_)<|Zy1 rfl
    refine Zc<|Zs1 rfl rfl rfl<|Zc<|Zk rfl<|Za<|Zi ?_
    exact ⟨⟨rfl, (congrArg (λ b => some (V.bool b)) (Bool.eq_iff_iff.2 (by first | (simp_all [formLarge]; done) | (simp_all [formLarge]; omega)))), trivial⟩, (Dk (Zt2 _))⟩
   refine Zc (Zj VT.fa38_1 rfl ?_)<|Zy0 hq53
   refine Zc (Zu 0 VT.ty3 rfl rfl rfl ?_)<|Zy0 hq53
   refine Zc (Zj1 rfl rfl rfl ?_)<|Zy0 hq53
   refine Zc<|Zt1 rfl hq53 rfl<|Zc<|Zl rfl<|Zj2 (q := 58) rfl (λ hq58 => ?_)<|λ hq58 => ?_
   .
    refine Zc (Zj VT.fa38_3 rfl ?_)<|Zy1 hq58
    refine Zc (Zu 0 VT.ty36 rfl rfl rfl ?_)<|Zy1 hq58
    refine Zc (Zd2 (n := i.args.length) Tryz.underlying36 rfl (by simp)<|λ hl61 => ?_)<|Zy1 hq58
    refine Zc (Zj1 rfl rfl rfl ?_)<|Zy1 hq58
    refine Zc<|Zs1 rfl hq58 rfl<|Zc<|Zk rfl<|Za<|Zi ?_
    exact ⟨⟨rfl, (congrArg (λ b => some (V.bool b)) (Bool.eq_iff_iff.2 (by first | (simp_all [formLarge]; done) | (simp_all [formLarge]; omega)))), trivial⟩, (Dk (Zt2 _))⟩
   refine Zk1 hq58<|Zk1 hq58<|Zk1 hq58<|Zk1 hq58<|Zc<|Zt1 rfl hq58 rfl<|Zc<|Zk rfl<|Za<|Zi ?_
   exact ⟨⟨rfl, (congrArg (λ b => some (V.bool b)) (Bool.eq_iff_iff.2 (by first | (simp_all [formLarge]; done) | (simp_all [formLarge]; omega)))), trivial⟩, (Dk (Zt2 _))⟩
  refine Zc (Zj VT.fa38_1 rfl ?_)<|Zy0 hq39
  refine Zc (Zu 0 VT.ty3 rfl rfl rfl ?_)<|Zy0 hq39
  refine Zc (Zj1 rfl rfl rfl ?_)<|Zy0 hq39
  refine Zc<|Zt1 rfl hq39 rfl<|Zc<|Zl rfl<|Zj2 (q := 44) rfl (λ hq44 => ?_)<|λ hq44 => ?_
  .
   refine Zc (Zj VT.fa38_3 rfl ?_)<|Zy1 hq44
   refine Zc (Zu 0 VT.ty36 rfl rfl rfl ?_)<|Zy1 hq44
   refine Zc (Zd2 (n := i.args.length) Tryz.underlying36 rfl (by simp)<|λ hl47 => ?_)<|Zy1 hq44
   refine Zc (Zj1 rfl rfl rfl ?_)<|Zy1 hq44
   refine Zc<|Zs1 rfl hq44 rfl<|Zc<|Zk rfl<|Za<|Zi<|Zn1 rfl (λ h35 => ?_)<|λ h35 => ?_
   .
    first | rw [if_pos (show formLarge i = true from h35)] at hr | skip
    refine Zi1<|Zi ?_
    exact ⟨⟨rfl, (congrArg (λ b => some (V.bool b)) (Bool.eq_iff_iff.2 (by first | (simp_all [formLarge]; done) | (simp_all [formLarge]; omega)))), trivial⟩, (Dk (Zt2 _))⟩
   first | rw [if_neg (by rw [show formLarge i = false from h35]; exact Bool.false_ne_true)] at hr | skip
   refine Zd<|Zc<|Zj VT.fa38_1 rfl<|Zc<|Zu 0 VT.ty3 rfl rfl rfl<|Zc<|Zj1 rfl rfl rfl<|Zc<|Zl rfl<|Zj2 (q := 53) rfl (λ hq53 => ?_)<|λ hq53 => ?_
   .
    refine Zk0 hq53<|Zk0 hq53<|Zk0 hq53<|Zc<|Zs1 rfl hq53 rfl<|Zc<|Zl rfl<|Zc (Zj VT.fa38_3 rfl ?_)<|Zy1 rfl
    refine Zc (Zu 0 VT.ty36 rfl rfl rfl ?_)<|Zy1 rfl
    refine Zc (Zd2 (n := i.args.length) Tryz.underlying36 rfl (by simp)<|λ hl61 => ?_)<|Zy1 rfl
    refine Zc (Zj1 rfl rfl rfl ?_)<|Zy1 rfl
    refine Zc<|Zs1 rfl rfl rfl<|Zc<|Zk rfl<|Za<|Zi ?_
    exact ⟨⟨rfl, (congrArg (λ b => some (V.bool b)) (Bool.eq_iff_iff.2 (by first | (simp_all [formLarge]; done) | (simp_all [formLarge]; omega)))), trivial⟩, (Dk (Zt2 _))⟩
   refine Zc (Zj VT.fa38_1 rfl ?_)<|Zy0 hq53
   refine Zc (Zu 0 VT.ty3 rfl rfl rfl ?_)<|Zy0 hq53
   refine Zc (Zj1 rfl rfl rfl ?_)<|Zy0 hq53
   refine Zc<|Zt1 rfl hq53 rfl<|Zc<|Zl rfl<|Zj2 (q := 58) rfl (λ hq58 => ?_)<|λ hq58 => ?_
   .
    refine Zc (Zj VT.fa38_3 rfl ?_)<|Zy1 hq58
    refine Zc (Zu 0 VT.ty36 rfl rfl rfl ?_)<|Zy1 hq58
    refine Zc (Zd2 (n := i.args.length) Tryz.underlying36 rfl (by simp)<|λ hl61 => ?_)<|Zy1 hq58
    refine Zc (Zj1 rfl rfl rfl ?_)<|Zy1 hq58
    refine Zc<|Zs1 rfl hq58 rfl<|Zc<|Zk rfl<|Za<|Zi ?_
    exact ⟨⟨rfl, (congrArg (λ b => some (V.bool b)) (Bool.eq_iff_iff.2 (by first | (simp_all [formLarge]; done) | (simp_all [formLarge]; omega)))), trivial⟩, (Dk (Zt2 _))⟩
   refine Zk1 hq58<|Zk1 hq58<|Zk1 hq58<|Zk1 hq58<|Zc<|Zt1 rfl hq58 rfl<|Zc<|Zk rfl<|Za<|Zi ?_
   exact ⟨⟨rfl, (congrArg (λ b => some (V.bool b)) (Bool.eq_iff_iff.2 (by first | (simp_all [formLarge]; done) | (simp_all [formLarge]; omega)))), trivial⟩, (Dk (Zt2 _))⟩
  refine Zk1 hq44<|Zk1 hq44<|Zk1 hq44<|Zk1 hq44<|Zc<|Zt1 rfl hq44 rfl<|Zc<|Zk rfl<|Za<|Zi<|Zq1 rfl rfl<|Zd<|Zc<|Zj VT.fa38_1 rfl<|Zc<|Zu 0 VT.ty3 rfl rfl rfl<|Zc<|Zj1 rfl rfl rfl<|Zc<|Zl rfl<|Zj2 (q := 53) rfl (λ hq53 => ?_)<|λ hq53 => ?_
  .
   refine Zk0 hq53<|Zk0 hq53<|Zk0 hq53<|Zc<|Zs1 rfl hq53 rfl<|Zc<|Zl rfl<|Zc (Zj VT.fa38_3 rfl ?_)<|Zy1 rfl
   refine Zc (Zu 0 VT.ty36 rfl rfl rfl ?_)<|Zy1 rfl
   refine Zc (Zd2 (n := i.args.length) Tryz.underlying36 rfl (by simp)<|λ hl61 => ?_)<|Zy1 rfl
   refine Zc (Zj1 rfl rfl rfl ?_)<|Zy1 rfl
   refine Zc<|Zs1 rfl rfl rfl<|Zc<|Zk rfl<|Za<|Zi ?_
   exact ⟨⟨rfl, (congrArg (λ b => some (V.bool b)) (Bool.eq_iff_iff.2 (by first | (simp_all [formLarge]; done) | (simp_all [formLarge]; omega)))), trivial⟩, (Dk (Zt2 _))⟩
  refine Zc (Zj VT.fa38_1 rfl ?_)<|Zy0 hq53
  refine Zc (Zu 0 VT.ty3 rfl rfl rfl ?_)<|Zy0 hq53
  refine Zc (Zj1 rfl rfl rfl ?_)<|Zy0 hq53
  refine Zc<|Zt1 rfl hq53 rfl<|Zc<|Zl rfl<|Zj2 (q := 58) rfl (λ hq58 => ?_)<|λ hq58 => ?_
  .
   refine Zc (Zj VT.fa38_3 rfl ?_)<|Zy1 hq58
   refine Zc (Zu 0 VT.ty36 rfl rfl rfl ?_)<|Zy1 hq58
   refine Zc (Zd2 (n := i.args.length) Tryz.underlying36 rfl (by simp)<|λ hl61 => ?_)<|Zy1 hq58
   refine Zc (Zj1 rfl rfl rfl ?_)<|Zy1 hq58
   refine Zc<|Zs1 rfl hq58 rfl<|Zc<|Zk rfl<|Za<|Zi ?_
   exact ⟨⟨rfl, (congrArg (λ b => some (V.bool b)) (Bool.eq_iff_iff.2 (by first | (simp_all [formLarge]; done) | (simp_all [formLarge]; omega)))), trivial⟩, (Dk (Zt2 _))⟩
  refine Zk1 hq58<|Zk1 hq58<|Zk1 hq58<|Zk1 hq58<|Zc<|Zt1 rfl hq58 rfl<|Zc<|Zk rfl<|Za<|Zi ?_
  exact ⟨⟨rfl, (congrArg (λ b => some (V.bool b)) (Bool.eq_iff_iff.2 (by first | (simp_all [formLarge]; done) | (simp_all [formLarge]; omega)))), trivial⟩, (Dk (Zt2 _))⟩
 refine Zr1 rfl (λ h35 => ?_)<|λ h35 => ?_
 .
  first | rw [if_pos (show formLarge i = true from h35)] at hr | skip
  refine Zb<|Zd<|Zc<|Zk rfl<|Za<|Zi<|Zf1<|Za1<|Zd1<|Zg1 rfl (.tmp rfl) ?_
  rw [hr]
 first | rw [if_neg (by rw [show formLarge i = false from h35]; exact Bool.false_ne_true)] at hr | skip
 refine Zb<|Zd<|Zc<|Zv 0 VT.ty38 rfl rfl rfl<|Zc<|Zx1 [.tmp 65] rfl rfl VT.en114 (number_c i)<|Zc<|Zl2 rfl<|Zc<|Zk rfl<|Za<|Zi<|Zo1 rfl (λ h64 => ?_)<|λ h64 => ?_
 .
  rw [h64, if_neg Bool.false_ne_true] at hr
  refine Zb<|Zd<|Zc<|Zk rfl<|Za<|Zi<|Zf1<|Za1<|Zd1<|Zg1 rfl (.tmp rfl) ?_
  rw [hr]
 rw [if_pos h64] at hr
 refine Zi1<|Zb1<|Zi<|Zb<|Zd<|Zc<|Zk rfl<|Za<|Zi<|Zf1<|Zg1 rfl (.tmp rfl) ?_
 rw [hr]
end Go.Proofs.YtpkbgamoboojaaaGreat.X1
