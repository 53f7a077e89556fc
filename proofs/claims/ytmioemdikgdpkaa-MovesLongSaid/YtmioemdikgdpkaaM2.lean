/- The long program with variables: what it does, and how many steps it takes. -/
import Derived.Test.YtmioemdikgdpkaaM1
set_option linter.unusedVariables false
set_option linter.unusedSimpArgs false
namespace Go.SM
open Go.VL
def longU (n : Int) : SUnit :=
  ⟨[⟨-1, [⟨[], [⟨1, 0, n, []⟩, ⟨2, 0, 1, []⟩], ⟨1, 0, 0, [], [⟨1, []⟩]⟩⟩,
    ⟨[], [⟨5, 6, 0, [0, 1]⟩], ⟨2, 5, 0, [], [⟨2, []⟩, ⟨3, []⟩]⟩⟩,
    ⟨[], [⟨3, 1, 0, [3, 0]⟩, ⟨4, 1, 0, [0, 2]⟩, ⟨0, 100, 0, [4]⟩], ⟨1, 0, 0, [], [⟨1, []⟩]⟩⟩,
    ⟨[], [], ⟨0, 3, 0, [], []⟩⟩]⟩], 0⟩
def lB1 : SBlock := ⟨[], [⟨5, 6, 0, [0, 1]⟩], ⟨2, 5, 0, [], [⟨2, []⟩, ⟨3, []⟩]⟩⟩
def lB2 : SBlock := ⟨[], [⟨3, 1, 0, [3, 0]⟩, ⟨4, 1, 0, [0, 2]⟩, ⟨0, 100, 0, [4]⟩], ⟨1, 0, 0, [], [⟨1, []⟩]⟩⟩
def lB3 : SBlock := ⟨[], [], ⟨0, 3, 0, [], []⟩⟩
theorem long_check {n : Int} (h0 : 0 ≤ n) (h1 : n < 15000) : mcheckF (longU n) = 0 := by
  have hm : minsF ⟨1, 0, n, []⟩ = 0 := by
    have hw : isWordF n = true := by rw [isWordF, wi_iff]; omega
    simp [minsF, mvarF, formF, formBad, formLarge, operandsF, numberF, hw, elemJ, op2, op1, opAny]
  have hb : mblockF (longU n).fns.head!.blocks 0 ⟨[], [⟨1, 0, n, []⟩, ⟨2, 0, 1, []⟩], ⟨1, 0, 0, [], [⟨1, []⟩]⟩⟩ = 0 := by
    have h2 : minsF ⟨2, 0, 1, []⟩ = 0 := by decide
    have h3 : endF (longU n).fns.head!.blocks ⟨1, 0, 0, [], [⟨1, []⟩]⟩ = 0 := by rfl
    simp [mblockF, mparamsF, firstE, hm, h2, h3, mvarF]
  have hf : mfuncF (longU n).fns.head! = 0 := by
    have h1 : mblockF (longU n).fns.head!.blocks 1 ⟨[], [⟨5, 6, 0, [0, 1]⟩], ⟨2, 5, 0, [], [⟨2, []⟩, ⟨3, []⟩]⟩⟩ = 0 := by rfl
    have h2 : mblockF (longU n).fns.head!.blocks 2 ⟨[], [⟨3, 1, 0, [3, 0]⟩, ⟨4, 1, 0, [0, 2]⟩, ⟨0, 100, 0, [4]⟩], ⟨1, 0, 0, [], [⟨1, []⟩]⟩⟩ = 0 := by rfl
    have h3 : mblockF (longU n).fns.head!.blocks 3 ⟨[], [], ⟨0, 3, 0, [], []⟩⟩ = 0 := by rfl
    have hc : countIns 0 (longU n).fns.head!.blocks = 6 := by rfl
    have hp : (paramsOf (longU n).fns.head!.blocks 0).length = 0 := by rfl
    have hall : mblocksF (longU n).fns.head!.blocks 0 (longU n).fns.head!.blocks = 0 := by
      show mblocksF (longU n).fns.head!.blocks 0 [_, _, _, _] = 0
      rw [mblocksF, if_neg (by rw [hb]; decide), mblocksF, if_neg (by rw [h1]; decide), mblocksF, if_neg (by rw [h2]; decide), mblocksF, if_neg (by rw [h3]; decide), mblocksF]
    rw [mfuncF, if_neg (by show ¬ ((4 : Nat) : Int) = 0; decide), if_neg (by rw [hc, hp]; show ¬ ((128 : Int) < ((4 : Nat) : Int) ∨ _); decide), if_neg (by show ¬ ((-1 : Int) < -1 ∨ (-1 : Int) ≥ 1048576); decide), hall]
  have hc : callsF (longU n) = 0 := by rfl
  rw [mcheckF, if_neg (by show ¬ ((1 : Nat) : Int) = 0; decide), if_neg (by show ¬ (256 : Int) < ((1 : Nat) : Int); decide), if_neg (by show ¬ ((0 : Int) < 0 ∨ (0 : Int) ≥ ((1 : Nat) : Int)); decide)]
  have hfs : firstE mfuncF (longU n).fns = 0 := by
    show firstE mfuncF [(longU n).fns.head!] = 0
    rw [firstE, if_neg (by rw [hf]; decide), firstE]
  rw [hfs, if_neg (by decide), if_neg (by show ¬ (0 : Nat) > 0; decide), hc]
theorem vget_put (m : Vals) (x : Int) (v : Val) (y : Int) : vget (vput m x v) y = if x = y then v else vget m y := by
  induction m with
  | nil => rfl
  | cons p m ih =>
    obtain ⟨k, u⟩ := p
    rw [vput]
    by_cases hk : k = x
    · rw [if_pos hk, vget, vget]
      subst hk
      by_cases hy : k = y
      · rw [if_pos hy, if_pos hy]
      · rw [if_neg hy, if_neg hy, if_neg hy]
    · rw [if_neg hk, vget, vget, ih]
      by_cases hy : k = y
      · subst hy
        rw [if_pos rfl, if_neg (Ne.symm hk), if_pos rfl]
      · rw [if_neg hy, if_neg hy]
theorem wrap_id {x : Int} (h0 : -1073741824 ≤ x) (h1 : x < 1073741824) : wrapF x = x := by
  unfold wrapF
  omega
def mst (b a : Int) (v : Vals) (L : Int) : Mach := ⟨[⟨0, b, a, 0, v⟩], L, false, false, [], 0, 0, []⟩
theorem go_one (u : SUnit) {M : Mach} (ho : M.over = false) (hs : M.short = false) (h1 : 1 ≤ M.left) (k : Nat) : goF u (k + 1) M = goF u k (stepF u { M with left := M.left - 1 }) := by
  have hp : payF 1 M = { M with left := M.left - 1 } := by rw [payF, if_neg (by omega)]
  rw [goF_step ho k (by rw [hp]; exact hs), hp]
theorem go_mst (u : SUnit) {b a : Int} {v : Vals} {L : Int} (h : 0 ≤ L) (k : Nat) : goF u (k + 1) (mst b a v (L + 1)) = goF u k (stepF u (mst b a v L)) := by
  rw [go_one u rfl rfl (by show 1 ≤ L + 1; omega)]
  congr 2
  show mst b a v (L + 1 - 1) = _
  rw [show L + 1 - 1 = L by omega]
section
variable {n : Int} {v : Vals} {L : Int}
theorem s00 : stepF (longU n) (mst 0 0 v L) = mst 0 1 (vput v 1 (.word n)) L := rfl
theorem s01 : stepF (longU n) (mst 0 1 v L) = mst 0 2 (vput v 2 (.word 1)) L := rfl
theorem s02 : stepF (longU n) (mst 0 2 v L) = mst 1 0 v L := rfl
theorem stepI {b a : Int} {bl : SBlock} {i : SIns} {x : Val} (hb : blockAt (longU n) 0 b = bl) (ha : ¬ a = (bl.ins.length : Int)) (hi : bl.ins[a.toNat]? = some i) (h13 : i.op ≠ 13) (h14 : i.op ≠ 14)
    (he : ∀ M, execF i (takeF v i.args) M = (M, x, 0)) : stepF (longU n) (mst b a v L) = mst b (a + 1) (vput v i.to x) L := by
  unfold stepF mst
  dsimp only
  rw [hb, if_neg ha, hi]
  dsimp only [Option.getD_some]
  unfold insF
  dsimp only
  rw [if_neg h13, if_neg h14, he]
  dsimp only
  rw [if_neg (by decide)]
theorem exec_lt {a b : Int} (i : SIns) (ho : i.op = 6) (M : Mach) : execF i [.word a, .word b] M = (M, truthF (decide (a < b)), 0) := by
  unfold execF
  rw [if_neg (by omega), if_pos (by rw [ho]; rfl), if_neg (by simp [allK, Val.kind, Val.word]), ho]
  rfl
theorem exec_add {a b : Int} (i : SIns) (ho : i.op = 1) (M : Mach) : execF i [.word a, .word b] M = (M, .word (wrapF (a + b)), 0) := by
  unfold execF
  rw [if_neg (by omega), if_pos (by rw [ho]; rfl), if_neg (by simp [allK, Val.kind, Val.word]), ho]
  rfl
theorem exec_copy {a : Val} (i : SIns) (ho : i.op = 100) (M : Mach) : execF i [a] M = (M, a, 0) := by
  unfold execF
  rw [if_neg (by omega), if_neg (by rw [ho]; decide), if_neg (by omega), if_neg (by omega), if_neg (by rw [ho]; decide), if_neg (by rw [ho]; decide), if_pos ho]
  rfl
theorem stepT {b a : Int} {bl : SBlock} (hb : blockAt (longU n) 0 b = bl) (ha : a = (bl.ins.length : Int)) : stepF (longU n) (mst b a v L) = termF (longU n) ⟨0, b, a, 0, v⟩ bl.term [] (mst b a v L) := by
  unfold stepF mst
  dsimp only
  rw [hb, if_pos ha]
/-- What the variables hold when block 1 begins. -/
structure LongAt (n : Int) (v : Vals) (i s : Int) : Prop where
  v0 : vget v 0 = .word i
  v1 : vget v 1 = .word n
  v2 : vget v 2 = .word 1
  v3 : vget v 3 = .word s
theorem long_test {i s : Int} (h : LongAt n v i s) (hL : 0 ≤ L) (k : Nat) : goF (longU n) (k + 2) (mst 1 0 v (L + 2)) = goF (longU n) k (if i < n then mst 2 0 (vput v 5 (truthF true)) L else mst 3 0 (vput v 5 (truthF false)) L) := by
  rw [show L + 2 = L + 1 + 1 by omega, go_mst _ (by omega), stepI (bl := lB1) (x := truthF (decide (i < n))) rfl (by decide) rfl (by decide) (by decide) (fun M => by rw [show takeF v [0, 1] = [vget v 0, vget v 1] from rfl, h.v0, h.v1]; exact exec_lt _ rfl M), go_mst _ (by omega)]
  rw [stepT (b := 1) (a := 0 + 1) (bl := lB1) rfl rfl]
  have e : vget (vput v 5 (truthF (decide (i < n)))) 5 = truthF (decide (i < n)) := by rw [vget_put, if_pos rfl]
  congr 1
  unfold termF
  rw [if_neg (by decide), if_neg (by decide), if_neg (by decide)]
  dsimp only
  rw [show lB1.term.arg = 5 from rfl, e]
  by_cases hi : i < n
  · rw [if_pos hi, decide_eq_true hi, if_neg (by decide)]
    rfl
  · rw [if_neg hi, decide_eq_false hi, if_neg (by decide)]
    rfl
theorem long_body {i s : Int} (h : LongAt n v i s) (hL : 0 ≤ L) (hi : 0 ≤ i) (hi2 : i < 20000) (hs : 0 ≤ s) (hs2 : s < 400000000) (k : Nat) : ∃ v', LongAt n v' (i + 1) (s + i) ∧ goF (longU n) (k + 4) (mst 2 0 v (L + 4)) = goF (longU n) k (mst 1 0 v' L) := by
  refine ⟨vput (vput (vput v 3 (.word (s + i))) 4 (.word (i + 1))) 0 (.word (i + 1)), ⟨?_, ?_, ?_, ?_⟩, ?_⟩
  · rw [vget_put, if_pos rfl]
  · rw [vget_put, if_neg (by decide), vget_put, if_neg (by decide), vget_put, if_neg (by decide), h.v1]
  · rw [vget_put, if_neg (by decide), vget_put, if_neg (by decide), vget_put, if_neg (by decide), h.v2]
  · rw [vget_put, if_neg (by decide), vget_put, if_neg (by decide), vget_put, if_pos rfl]
  · rw [show L + 4 = L + 1 + 1 + 1 + 1 by omega, go_mst _ (by omega),
      stepI (bl := lB2) (x := .word (s + i)) rfl (by decide) rfl (by decide) (by decide) (fun M => by rw [show takeF v [3, 0] = [vget v 3, vget v 0] from rfl, h.v0, h.v3, ← wrap_id (x := s + i) (by omega) (by omega)]; exact exec_add _ rfl M),
      go_mst _ (by omega), stepI (bl := lB2) (x := .word (i + 1)) rfl (by decide) rfl (by decide) (by decide) (fun M => by
        rw [show ∀ w, takeF w [0, 2] = [vget w 0, vget w 2] from fun _ => rfl, vget_put, if_neg (by decide), vget_put, if_neg (by decide), h.v0, h.v2, ← wrap_id (x := i + 1) (by omega) (by omega)]; exact exec_add _ rfl M),
      go_mst _ (by omega), stepI (bl := lB2) (x := .word (i + 1)) rfl (by decide) rfl (by decide) (by decide) (fun M => by
        rw [show ∀ w, takeF w [4] = [vget w 4] from fun _ => rfl, vget_put, if_pos rfl]; exact exec_copy _ rfl M),
      go_mst _ (by omega), stepT (b := 2) (a := 0 + 1 + 1 + 1) (bl := lB2) rfl rfl]
    rfl
end
/-- The sum of the numbers below i. -/
def triF : Nat → Int
  | 0 => 0
  | i + 1 => triF i + i
theorem tri_two : ∀ i : Nat, 2 * triF i = (i : Int) * ((i : Int) - 1)
  | 0 => by simp [triF]
  | i + 1 => by
    rw [triF, Int.mul_add, tri_two i]
    have : ((i + 1 : Nat) : Int) * (((i + 1 : Nat) : Int) - 1) = (i : Int) * ((i : Int) - 1) + 2 * i := by
      rw [show ((i + 1 : Nat) : Int) = (i : Int) + 1 by omega, show (i : Int) + 1 - 1 = i by omega, Int.add_mul, Int.mul_sub]
      omega
    omega
theorem tri_le : ∀ i : Nat, i ≤ 15000 → 0 ≤ triF i ∧ triF i ≤ 15000 * i
  | 0, _ => by simp [triF]
  | i + 1, h => by
    have := tri_le i (by omega)
    rw [triF]
    omega
def longEnd (n : Nat) (L : Int) : Mach := ⟨[], L, false, true, [], 0, triF n, []⟩
theorem long_loop (n : Nat) (hn : n < 15000) : ∀ (d i : Nat) (v : Vals) (L : Int) (k : Nat), i + d = n → LongAt n v i (triF i) → 0 ≤ L → goF (longU n) (k + 6 * d + 3) (mst 1 0 v (L + 6 * d + 3)) = goF (longU n) k (longEnd n L)
  | 0, i, v, L, k, hd, h, hL => by
    have hin : i = n := by omega
    subst hin
    rw [show k + 6 * 0 + 3 = k + 1 + 2 by omega, show L + 6 * ((0 : Nat) : Int) + 3 = L + 1 + 2 by omega, long_test h (by omega), if_neg (by omega), go_mst _ hL, stepT (b := 3) (a := 0) (bl := lB3) rfl rfl]
    have e : vget (vput v 5 (truthF false)) 3 = .word (triF i) := by rw [vget_put, if_neg (by decide), h.v3]
    congr 1
    unfold termF
    rw [if_neg (by decide), if_neg (by decide), if_pos (show lB3.term.kind = 0 from rfl)]
    dsimp only
    rw [show lB3.term.arg = 3 from rfl, e]
    rfl
  | d + 1, i, v, L, k, hd, h, hL => by
    have ht := tri_le i (by omega)
    rw [show k + 6 * (d + 1) + 3 = k + 6 * d + 3 + 4 + 2 by omega, show L + 6 * ((d + 1 : Nat) : Int) + 3 = L + 6 * d + 3 + 4 + 2 by omega, long_test h (by omega), if_pos (by omega)]
    have h5 : LongAt n (vput v 5 (truthF true)) i (triF i) := ⟨by rw [vget_put, if_neg (by decide), h.v0], by rw [vget_put, if_neg (by decide), h.v1], by rw [vget_put, if_neg (by decide), h.v2], by rw [vget_put, if_neg (by decide), h.v3]⟩
    obtain ⟨v', h', e⟩ := long_body (L := L + 6 * d + 3) h5 (by omega) (by omega) (by omega) ht.1 (by omega) (k + 6 * d + 3)
    rw [e]
    exact long_loop n hn d (i + 1) v' L k (by omega) h' hL
theorem long_run (n : Nat) (hn : n < 15000) : performF (longU n) (6 * n + 6 : Nat) = (⟨[], 0, triF n⟩, ((6 * n + 6 : Nat) : Int), 0) := by
  have hst : startF (longU n) ((6 * n + 6 : Nat) : Int) = mst 0 0 [] ((6 * n + 6 : Nat) : Int) := rfl
  have hat : LongAt n (vput (vput [] 1 (.word n)) 2 (.word 1)) ((0 : Nat) : Int) (triF 0) := ⟨rfl, rfl, rfl, rfl⟩
  have hgo : goF (longU n) (6 * n + 6 + 1) (startF (longU n) ((6 * n + 6 : Nat) : Int)) = longEnd n 0 := by
    rw [hst, show ((6 * n + 6 : Nat) : Int) = 0 + 6 * n + 3 + 1 + 1 + 1 by omega, show 6 * n + 6 + 1 = 1 + 6 * n + 3 + 1 + 1 + 1 by omega, go_mst _ (by omega), s00, go_mst _ (by omega), s01, go_mst _ (by omega), s02,
      long_loop n hn n 0 _ 0 1 (by omega) hat (by omega)]
    rfl
  unfold performF
  rw [Int.toNat_natCast, hgo]
  dsimp only [longEnd]
  rw [if_neg (by decide), Int.sub_zero]
/-- All that the law asks of it. -/
theorem long_law (n : Nat) (hn : n < 15000) : mrunF (longU n) (6 * n + 6 : Nat) = (⟨[], 0, triF n⟩, ((6 * n + 6 : Nat) : Int), 0) ∧ (mrunF (longU n) ((6 * n + 6 : Nat) - 1)).2.2 = 13 ∧ mrunF (longU n) 1000000 = (⟨[], 0, triF n⟩, ((6 * n + 6 : Nat) : Int), 0) := by
  have hc := long_check (n := n) (by omega) (by omega)
  have hU := (mcheck_ok hc).u
  have h := long_run n hn
  have run : ∀ f : Int, 1 ≤ f → f ≤ 1000000 → mrunF (longU n) f = performF (longU n) f := fun f h1 h2 => by rw [mrunF, if_neg (fun e => e hc), if_neg (by omega)]
  obtain ⟨g1, g2⟩ := perform_fuel hU (a := (6 * n + 6 : Nat)) (b := 1000000) (by omega) (by omega) (by omega) (by rw [h])
  obtain ⟨g3, g4⟩ := perform_fuel hU (a := (6 * n + 6 : Nat)) (b := (6 * n + 6 : Nat) - 1) (by omega) (by omega) (by omega) (by rw [h])
  rw [h] at g1 g4
  dsimp only at g1 g4
  rw [run _ (by omega) (by omega), run _ (by omega) (by omega), run _ (by omega) (by omega)]
  exact ⟨h, g4 (by omega), g1 (by omega)⟩
end Go.SM
