/- Patterns: what the table, the check and the search for missing values compute. -/
import Derived.Test.YtmjeaagpcmfnpaaVD
set_option linter.unusedVariables false
namespace Go.PM
open Go.VL

def anyP : Pat := .mk 0 [] 0 []
abbrev anysL (n : Nat) : List Pat := List.replicate n anyP
mutual
def patF (t : Tab) : Pat → Int
  | .mk k s n as => if k = 0 ∨ k = 1 then 0 else if k = 2 then (if n < -1073741824 ∨ n > 1073741823 then 4 else 0) else if k = 3 then
      (match tget t s with | none => 6 | some c => if as.length ≠ c.2.2 then 3 else patsF t as) else 3
def patsF (t : Tab) : List Pat → Int
  | [] => 0
  | p :: ps => if patF t p ≠ 0 then patF t p else patsF t ps
end
def kindF (t : Tab) (p : Pat) : Int := if p.kind = 2 then -1 else if p.kind = 3 then (match tget t p.name with | some c => c.1 | none => 0) else -2
theorem mem_size {p q : Pat} (h : q ∈ p.args) : SizeOf.sizeOf q < SizeOf.sizeOf p := by
  obtain ⟨k, s, n, as⟩ := p
  have := List.sizeOf_lt_of_mem h
  simp only [Pat.args] at this
  simp only [Pat.mk.sizeOf_spec]
  omega
def narrow (name : Str) (n : Nat) (rows : List (List Pat)) : List (List Pat) := rows.filterMap fun r => match r with
  | p :: t => if free p then some (anysL n ++ t) else if p.name = name then some (p.args ++ t) else none
  | [] => none

/-! ### A value that is absent -/
def countGE (l : List Pat) (n : Int) : Nat := l.countP fun p => decide (n ≤ p.n)
theorem countGE_mono (l : List Pat) (n : Int) : countGE l (n + 1) ≤ countGE l n :=
  List.countP_mono_left fun p _ h => by simp at h ⊢; omega
theorem countGE_lt {l : List Pat} {n : Int} (h : (l.any fun p => decide (p.n = n)) = true) : countGE l (n + 1) < countGE l n := by
  induction l with
  | nil => simp at h
  | cons p l ih =>
    have hm := countGE_mono l n
    unfold countGE at hm ih ⊢
    rw [List.countP_cons, List.countP_cons]
    by_cases hp : p.n = n
    · rw [if_neg (by simp; omega), if_pos (by simp; omega)]
      omega
    · have h2 : (l.any fun p => decide (p.n = n)) = true := by simpa [hp] using h
      have := ih h2
      by_cases h3 : n + 1 ≤ p.n
      · rw [if_pos (by simpa using h3), if_pos (by simp; omega)]
        omega
      · rw [if_neg (by simpa using h3)]
        omega
/-- The first number from n on that no pattern names. -/
def fresh (l : List Pat) (n : Int) : Int := if h : (l.any fun p => decide (p.n = n)) = true then fresh l (n + 1) else n
  termination_by countGE l n
  decreasing_by exact countGE_lt h
theorem fresh_yes {l : List Pat} {n : Int} (h : (l.any fun p => decide (p.n = n)) = true) : fresh l n = fresh l (n + 1) := by rw [fresh, dif_pos h]
theorem fresh_no {l : List Pat} {n : Int} (h : (l.any fun p => decide (p.n = n)) = false) : fresh l n = n := by rw [fresh, dif_neg (by simp [h])]
def consAt (t : Tab) (ds : List DataSig) (s : Str) : List ConSig := match tget t s with
  | some c => (match ds[c.1]? with | some d => d.cons | none => [])
  | none => []
def lacks (l : List Pat) (c : ConSig) : Bool := !l.any fun p => decide (p.name = c.name)
def absentF (t : Tab) (ds : List DataSig) : List Pat → Option Pat
  | [] => some anyP
  | p :: l => if p.kind = 2 then some (.mk 2 [] (fresh (p :: l) 0) []) else ((consAt t ds p.name).find? (lacks (p :: l))).map fun c => .mk 3 c.name 0 (anysL c.args.length)
/-! ### The search for missing values -/
def missLoop (rc : List (List Pat) → Nat → List Pat × Bool) (rows : List (List Pat)) (c : Nat) : List ConSig → List Pat × Bool
  | [] => ([], false)
  | k :: ks => bif (rc (narrow k.name k.args.length rows) (k.args.length + c)).2
    then (.mk 3 k.name 0 ((rc (narrow k.name k.args.length rows) (k.args.length + c)).1.take k.args.length) :: (rc (narrow k.name k.args.length rows) (k.args.length + c)).1.drop k.args.length, true)
    else missLoop rc rows c ks
def missF (t : Tab) (ds : List DataSig) : Nat → List (List Pat) → Nat → List Pat × Bool
  | 0, _, _ => ([], false)
  | f + 1, rows, 0 => ([], decide ((rows.length : Int) = 0))
  | f + 1, rows, c + 1 => match absentF t ds (first rows) with
    | some p => (p :: (missF t ds f (rest rows) c).1, (missF t ds f (rest rows) c).2)
    | none => missLoop (missF t ds f) rows c (consAt t ds ((first rows).headD anyP).name)
def usefulLoop (rc : List (List Pat) → List Pat → Bool) (rows : List (List Pat)) (row : List Pat) : List ConSig → Bool
  | [] => false
  | k :: ks => rc (narrow k.name k.args.length rows) (anysL k.args.length ++ row) || usefulLoop rc rows row ks
def leftF (n : Int) (rows : List (List Pat)) : List (List Pat) := rows.filterMap fun r => match r with
  | p :: t => if free p || decide (p.n = n) then some t else none
  | [] => none
def usefulF (t : Tab) (ds : List DataSig) : Nat → List (List Pat) → List Pat → Bool
  | 0, _, _ => false
  | f + 1, rows, [] => decide ((rows.length : Int) = 0)
  | f + 1, rows, p :: row => if p.kind = 3 then usefulF t ds f (narrow p.name p.args.length rows) (p.args ++ row)
    else if p.kind = 2 then usefulF t ds f (leftF p.n rows) row
    else match absentF t ds (first rows) with
      | some _ => usefulF t ds f (rest rows) row
      | none => usefulLoop (usefulF t ds f) rows row (consAt t ds ((first rows).headD anyP).name)
end Go.PM
