/- Patterns: lists of numbers as values of the logic. -/
import Derived.Test.YtmjeaagpcmfnpaaVPA
import Derived.Test.YtmjeaagpcmfnpaaVB
set_option linter.unusedVariables false
namespace Go.PM
open Go.VL
def natsX (l : List Nat) : V := .sl 1 none (l.map fun n : Nat => V.int n)
def redV (r : List Nat × Int) : V := .tup [natsX r.1, .int r.2]
theorem get_nat {l : List Nat} {k : Nat} {x : Nat} (h : l[k]? = some x) : (l.map fun n : Nat => V.int n)[k]? = some (V.int x) := by simp [h]
theorem args_lt {l : List Pat} {p : Pat} {n : Nat} (hp : p ∈ l) (h : cL l < n + 1) : cL p.args < n := by
  have h1 := cP_mem hp
  have h2 := cP_eq p
  omega
theorem cL_append (a b : List Pat) : cL (a ++ b) = cL a + cL b := by
  induction a with
  | nil => simp [cL]
  | cons p a ih => rw [List.cons_append, cL, cL, ih]; omega
theorem cL_take (l : List Pat) (k : Nat) : cL (l.take k) ≤ cL l := by
  have h := cL_append (l.take k) (l.drop k)
  rw [List.take_append_drop] at h
  omega
end Go.PM
