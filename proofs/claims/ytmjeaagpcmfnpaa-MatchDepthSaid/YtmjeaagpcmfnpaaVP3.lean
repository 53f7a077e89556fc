/- Patterns, the plain law: the fixed example. -/
import Derived.Test.YtmjeaagpcmfnpaaVP2
set_option linter.unusedVariables false
namespace Go.PM
open Go.VL
def sNil : Str := [78, 105, 108]
def sCons : Str := [67, 111, 110, 115]
def sList : Str := [76, 105, 115, 116]
def workDs (z : V) : List DataSig := [⟨sList, 0, [⟨sNil, []⟩, ⟨sCons, [z, z]⟩]⟩]
def nilP : Pat := .mk 3 sNil 0 []
def nineP : Pat := .mk 9 [] 0 []
def workTab : Tab := [(sNil, 0, 0, 0), (sCons, 0, 1, 2)]
theorem work_build (z : V) : buildF 0 (workDs z) [] = some workTab := by
  simp [workDs, buildF, addCons, tget, sNil, sCons, workTab]
theorem work_agree (f : Nat) : agreeF workTab (f + 1) [nilP] = true := by
  simp [agreeF, sameKind, agreeLoop, agreeArgs, nf, free, nilP, Pat.kind, Pat.args]
theorem work_check (z : V) : checkF (workDs z) [[nilP]] = 0 := by
  rw [checkF, work_build]
  have h1 : small (workDs z) [[nilP]] = true := by simp [small, small.smallRows, sizeF, sizeLoop, nilP, Pat.args, workDs]
  have h3 : colsLoop workTab [[nilP]] 0 1 = true := by
    rw [colsLoop, colsLoop, show colF [[nilP]] 0 = [nilP] from rfl, work_agree 400]
    rfl
  have h4 : errRows workTab [[nilP]] = 0 := by simp [errRows, patsF, nilP, patF, workTab, tget]
  have h2 : checkT workTab [[nilP]] = 0 := by
    rw [checkT, show width [[nilP]] = 1 from rfl, h3, h4]
    simp [sameLen, width]
  rw [h1]
  simpa using h2
theorem work_nine (z : V) : checkF (workDs z) [[nineP]] = 3 := by
  rw [checkF, work_build]
  have h1 : small (workDs z) [[nineP]] = true := by simp [small, small.smallRows, sizeF, sizeLoop, nineP, Pat.args, workDs]
  have h2 : checkT workTab [[nineP]] = 3 := by
    simp [checkT, sameLen, width, errRows, patsF, nineP, patF]
  rw [h1]
  simpa using h2
theorem work_miss (z : V) (f : Nat) : missF workTab (workDs z) (f + 4) [[nilP]] 1 = ([.mk 3 sCons 0 [anyP, anyP]], true) := by
  simp [missF, first, rest, free, nilP, Pat.kind, Pat.name, absentF, consAt, workTab, tget, workDs, lacks, sNil, sCons, List.find?, List.replicate]
theorem work_out (z : V) : missOut (workDs z) [[nilP]] 1 = ([.mk 3 sCons 0 [anyP, anyP]], 0) := by
  have hb : ¬ missBad [[nilP]] 1 := by
    rintro (h | h | ⟨_, h⟩)
    · omega
    · omega
    · exact h rfl
  rw [missOut_ok (work_check z) hb (work_build z)]
  have h1 : fuel0 = 399996 + 4 := by rw [fuel0_eq]
  have := work_miss z 399996
  rw [← h1] at this
  rw [show (1 : Int).toNat = 1 from rfl, this]
  rfl
theorem work_sized (z : V) : Sized (workDs z) := fun d hd k hk => by
  simp only [workDs, List.mem_singleton] at hd
  subst hd
  simp at hk
  rcases hk with rfl | rfl <;> simp
end Go.PM
namespace Go.PM
open Go.VL
/-- A row with its first and its last pattern exchanged. -/
def turn (r : List Pat) : List Pat := (r.set 0 (r.getD (r.length - 1) anyP)).set (r.length - 1) (r.getD 0 anyP)
def turnedF (ds : List DataSig) (rows : List (List Pat)) (c : Int) : Bool :=
  if (missOut ds rows c).2 ≠ 0 ∨ c < 2 then (decide ((missOut ds rows c).2 = 0) || decide (((missOut ds rows c).1.length : Int) = 0))
  else decide ((missOut ds (rows.map turn) c).2 = 0) && (decide (((missOut ds rows c).1.length : Int) > 0) == decide (((missOut ds (rows.map turn) c).1.length : Int) > 0))
theorem turn_map (r : List Pat) (a b : Pat) (ha : r.getD 0 anyP = a) (hb : r.getD (r.length - 1) anyP = b) : (turn r).map patV = ((r.map patV).set 0 (patX b)).set (r.length - 1) (patX a) := by
  unfold turn
  rw [ha, hb, List.map_set, List.map_set, patV_eq, patV_eq]
theorem set_fit {l : List V} {n i : Nat} {v : V} (h : ∀ y ∈ l, y.leaves.length = n) (hv : v.leaves.length = n) : ∀ y ∈ l.set i v, y.leaves.length = n := fun y hy => by
  rcases List.mem_or_eq_of_mem_set hy with h1 | h1
  · exact h y h1
  · rw [h1]; exact hv
theorem check_build {ds : List DataSig} {rows : List (List Pat)} (h : checkF ds rows = 0) : ∃ t, buildF 0 ds [] = some t := by
  cases hb : buildF 0 ds [] with
  | some t => exact ⟨t, rfl⟩
  | none =>
    rw [checkF, hb] at h
    by_cases hs : small ds rows = false
    · rw [if_pos hs] at h; cases h
    · rw [if_neg hs] at h; cases h
theorem row_len {ds : List DataSig} {rows : List (List Pat)} {c : Int} (h : checkF ds rows = 0) (hnb : ¬ missBad rows c) : ∀ r ∈ rows, (r.length : Int) = c := fun r hr => by
  obtain ⟨t, hb⟩ := check_build h
  rw [same_all (check_parts h hb).2.1 r hr]
  rcases Decidable.em (c = width rows) with h1 | h1
  · exact h1.symm
  · exact absurd (.inr (.inr ⟨fun e => (by rw [e] at hr; cases hr), h1⟩)) hnb
theorem miss_zero {ds : List DataSig} {rows : List (List Pat)} {c : Int} (h : (missOut ds rows c).2 = 0) : checkF ds rows = 0 ∧ ¬ missBad rows c := by
  by_cases h1 : checkF ds rows = 0
  · refine ⟨h1, fun h2 => ?_⟩
    rw [missOut_bad h1 h2] at h
    cases h
  · rw [missOut_err h1] at h
    exact absurd h h1
end Go.PM
