import Derived.Test.YtmmmgamhffbkbaaS2
set_option linter.unusedVariables false
namespace Go.SM
open Go.VL
def withinF (n m : Int) : Int := if n.tmod m < 0 then n.tmod m + m else n.tmod m
theorem within_ok {n : Int} {m : Nat} (h : 0 < m) : ∃ k : Nat, withinF n m = k ∧ k < m := by
  have h1 : n.tmod m < m := Int.tmod_lt_of_pos _ (by omega)
  have h2 : -(m : Int) < n.tmod m := Int.lt_tmod_of_pos _ (by omega)
  unfold withinF
  split
  · exact ⟨(n.tmod m + m).toNat, by omega, by omega⟩
  · exact ⟨(n.tmod m).toNat, by omega, by omega⟩
end Go.SM
