/- Patterns: what Missing answers. -/
import Derived.Test.YtmjeaagpcmfnpaaVD6
set_option linter.unusedVariables false
namespace Go.PM
open Go.VL
@[irreducible] def fuel0 : Nat := 400000
theorem fuel0_eq : fuel0 = 400000 := by unfold fuel0; rfl
def missBad (rows : List (List Pat)) (c : Int) : Prop := c < 0 ∨ 16 < c ∨ (rows ≠ [] ∧ c ≠ width rows)
instance (rows : List (List Pat)) (c : Int) : Decidable (missBad rows c) := by unfold missBad; exact (inferInstanceAs (Decidable (_ ∨ _ ∨ (_ ∧ _))))
def missOut (ds : List DataSig) (rows : List (List Pat)) (c : Int) : List Pat × Int :=
  if checkF ds rows = 0 then (if missBad rows c then ([], 1) else match buildF 0 ds [] with
    | none => ([], 0)
    | some t => (bif (missF t ds fuel0 rows c.toNat).2 then (missF t ds fuel0 rows c.toNat).1 else [], 0))
  else ([], checkF ds rows)
theorem missOut_err {ds : List DataSig} {rows : List (List Pat)} {c : Int} (h : checkF ds rows ≠ 0) : missOut ds rows c = ([], checkF ds rows) := by rw [missOut, if_neg h]
theorem missOut_bad {ds : List DataSig} {rows : List (List Pat)} {c : Int} (h : checkF ds rows = 0) (hb : missBad rows c) : missOut ds rows c = ([], 1) := by rw [missOut, if_pos h, if_pos hb]
theorem missOut_ok {ds : List DataSig} {rows : List (List Pat)} {c : Int} {t : Tab} (h : checkF ds rows = 0) (hb : ¬ missBad rows c) (ht : buildF 0 ds [] = some t) : missOut ds rows c = (bif (missF t ds fuel0 rows c.toNat).2 then (missF t ds fuel0 rows c.toNat).1 else [], 0) := by rw [missOut, if_pos h, if_neg hb, ht]
structure MissPre (t : Tab) (f : Nat) (rows : List (List Pat)) (τs : List Ty) : Prop where
  ty : rowsT t τs rows
  len : rows.length ≤ 1000
  fuel : τs.length + 401 * wR rows < f
/-- Rows that pass the check have types. -/
def CheckTy (ds : List DataSig) : Prop := ∀ rows (c : Int) t, checkF ds rows = 0 → buildF 0 ds [] = some t → ¬ missBad rows c → TabOk t ds ∧ ∃ τs : List Ty, (τs.length : Int) = c ∧ MissPre t fuel0 rows τs
end Go.PM
