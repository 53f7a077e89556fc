/- Patterns: the data as the law's statement speaks of it, and how the logic sees it. -/
import Derived.Test.YtmjeaagpcmfnpaaV7
set_option linter.unusedVariables false
namespace Go.PM
open Go.VL

abbrev Str := List UInt8
structure ConSig where
  name : Str
  args : List V
structure DataSig where
  name : Str
  params : Int
  cons : List ConSig
inductive Pat where
  | mk (kind : Int) (name : Str) (n : Int) (args : List Pat)
instance : Inhabited Pat := ⟨.mk 0 [] 0 []⟩
def Pat.kind : Pat → Int | .mk k _ _ _ => k
def Pat.name : Pat → Str | .mk _ s _ _ => s
def Pat.n : Pat → Int | .mk _ _ n _ => n
def Pat.args : Pat → List Pat | .mk _ _ _ l => l

mutual
def patV : Pat → V
  | .mk k s n as => .agg [.int k, .str s, .int n, .sl 4 none (patVL as)]
def patVL : List Pat → List V
  | [] => []
  | p :: ps => patV p :: patVL ps
end
theorem patVL_map (l : List Pat) : patVL l = l.map patV := by
  induction l with
  | nil => rfl
  | cons p l ih => rw [patVL, ih]; rfl
/-- A list of patterns. -/
abbrev patsX (l : List Pat) : V := .sl 4 none (l.map patV)
/-- A pattern, opened. -/
abbrev patX (p : Pat) : V := .agg [.int p.kind, .str p.name, .int p.n, patsX p.args]
theorem patV_eq (p : Pat) : patV p = patX p := by
  obtain ⟨k, s, n, as⟩ := p
  rw [patV, patVL_map]
  rfl
abbrev rowsX (rows : List (List Pat)) : V := .sl 1 none (rows.map patsX)
def conV (c : ConSig) : V := .agg [.str c.name, .sl 4 none c.args]
def dataV (d : DataSig) : V := .agg [.str d.name, .int d.params, .sl 2 none (d.cons.map conV)]
abbrev datasX (l : List DataSig) : V := .sl 3 none (l.map dataV)

theorem get_of_lt {α : Type} (l : List α) (k : Nat) (h : (k : Int) < (l.length : Int)) : ∃ x, l[k]? = some x := ⟨l[k]'(by omega), List.getElem?_eq_getElem _⟩
theorem get_mapS {α : Type} (f : α → V) {l : List α} {k : Nat} {x : α} (h : l[k]? = some x) : (l.map f)[k]? = some (f x) := by simp [h]
theorem get_patS {l : List Pat} {k : Nat} {x : Pat} (h : l[k]? = some x) : (l.map patV)[k]? = some (patX x) := by rw [get_mapS patV h, patV_eq]
theorem take_snoc {α : Type} {l : List α} {k : Nat} {x : α} (h : l[k]? = some x) : l.take (k + 1) = l.take k ++ [x] := by
  obtain ⟨hk, rfl⟩ := List.getElem?_eq_some_iff.1 h
  exact List.take_succ_eq_append_getElem hk
theorem natbeq (n : Nat) : ((n : Int) == 0) = (n == 0) := by
  cases n <;> simp <;> omega
theorem take_end {α : Type} {l : List α} {k : Nat} (h : ¬ (k : Int) < (l.length : Int)) : l.take k = l := List.take_of_length_le (by omega)
theorem get_map {α : Type} (f : α → V) (l : List α) (k : Nat) (h : k < l.length) : (l.map f)[k]? = some (f l[k]) := by simp [h]
theorem get_pat (l : List Pat) (k : Nat) (h : k < l.length) : (l.map patV)[k]? = some (patX l[k]) := by rw [get_map patV l k h, patV_eq]

def free (p : Pat) : Bool := p.kind == 0 || p.kind == 1
def first (rows : List (List Pat)) : List Pat := rows.filterMap fun r => match r with
  | p :: _ => if free p then none else some p
  | [] => none
def rest (rows : List (List Pat)) : List (List Pat) := rows.filterMap fun r => match r with
  | p :: t => if free p then some t else none
  | [] => none

/-! ### The limits -/
def sizeLoop (rc : List Pat → Int → Bool × Int) : List Pat → Int → Bool × Int
  | [], m => (true, m)
  | p :: t, m => if m + 1 > 400 then (false, m + 1) else bif (rc p.args (m + 1)).1 then sizeLoop rc t (rc p.args (m + 1)).2 else (false, (rc p.args (m + 1)).2)
def sizeF : Nat → List Pat → Int → Bool × Int
  | 0, l, m => (l.length == 0, m)
  | n + 1, l, m => sizeLoop (sizeF n) l m
theorem sizeLoop_le {rc : List Pat → Int → Bool × Int} (h : ∀ l m, 0 ≤ m → m ≤ 400 → m ≤ (rc l m).2 ∧ ((rc l m).1 = true → (rc l m).2 ≤ 400)) : ∀ (l : List Pat) (m : Int), 0 ≤ m → m ≤ 400 → m ≤ (sizeLoop rc l m).2 ∧ ((sizeLoop rc l m).1 = true → (sizeLoop rc l m).2 ≤ 400)
  | [], m, _, h4 => ⟨Int.le_refl _, fun _ => h4⟩
  | p :: t, m, h0, h4 => by
    simp only [sizeLoop]
    by_cases hm : m + 1 > 400
    · rw [if_pos hm]
      exact ⟨by dsimp only; omega, fun h => by cases h⟩
    · rw [if_neg hm]
      have h1 := h p.args (m + 1) (by omega) (by omega)
      cases hb : (rc p.args (m + 1)).1 with
      | false => exact ⟨by simp only [cond_false]; omega, fun h => by cases h⟩
      | true =>
        have h2 := sizeLoop_le h t (rc p.args (m + 1)).2 (by omega) (h1.2 hb)
        exact ⟨by simp only [cond_true]; omega, fun h => h2.2 h⟩
theorem sizeF_le : ∀ (n : Nat) (l : List Pat) (m : Int), 0 ≤ m → m ≤ 400 → m ≤ (sizeF n l m).2 ∧ ((sizeF n l m).1 = true → (sizeF n l m).2 ≤ 400)
  | 0, l, m, _, h => ⟨Int.le_refl _, fun _ => h⟩
  | n + 1, l, m, h0, h4 => sizeLoop_le (sizeF_le n) l m h0 h4
theorem drop_cons {α : Type} {l : List α} {k : Nat} {x : α} (h : l[k]? = some x) : l.drop k = x :: l.drop (k + 1) := by
  obtain ⟨hk, rfl⟩ := List.getElem?_eq_some_iff.1 h
  exact (List.drop_eq_getElem_cons hk)
/-- Where the first is that fits; -1: none. -/
def idxOf {α : Type} (p : α → Bool) : List α → Int
  | [] => -1
  | x :: t => bif p x then 0 else (if idxOf p t < 0 then -1 else idxOf p t + 1)
theorem idxOf_at {α : Type} (p : α → Bool) : ∀ {l : List α} {k : Nat} {x : α}, l[k]? = some x → (l.take k).any p = false → p x = true → idxOf p l = k
  | y :: l, 0, x, h, _, hp => by simp at h; subst h; simp [idxOf, hp]
  | y :: l, k + 1, x, h, ha, hp => by
    simp at h ha
    have := idxOf_at p h (by simpa using ha.2) hp
    simp only [idxOf, ha.1, cond_false, this]
    rw [if_neg (by omega)]
    omega
theorem idxOf_none {α : Type} (p : α → Bool) : ∀ {l : List α}, l.any p = false → idxOf p l = -1
  | [], _ => rfl
  | y :: l, h => by
    simp at h
    have := idxOf_none p (l := l) (by simpa using h.2)
    simp [idxOf, h.1, this]
theorem idxOf_ge {α : Type} (p : α → Bool) : ∀ (l : List α), decide (idxOf p l ≥ 0) = l.any p
  | [] => rfl
  | y :: l => by
    have ih := idxOf_ge p l
    rw [List.any_cons]
    unfold idxOf
    by_cases hy : p y = true
    · simp [hy]
    · have hy' : p y = false := by simpa using hy
      rw [hy', cond_false, Bool.false_or, ← ih]
      by_cases h : idxOf p l < 0
      · rw [if_pos h]; simp; omega
      · rw [if_neg h]; simp; omega
theorem any_snoc {α : Type} {p : α → Bool} {l : List α} {k : Nat} {x : α} (h : l[k]? = some x) (ha : (l.take k).any p = false) (hp : p x = false) : (l.take (k + 1)).any p = false := by
  rw [take_snoc h, List.any_append, ha]
  simp [hp]
def small (datas : List DataSig) (rows : List (List Pat)) : Bool := smallRows rows 0 && decide (rows.length ≤ 64) && !datas.any fun d => decide ((d.cons.length : Int) > 256)
  where
  smallRows : List (List Pat) → Int → Bool
    | [], _ => true
    | r :: t, m => if r.length > 16 then false else bif (sizeF 20 r m).1 then smallRows t (sizeF 20 r m).2 else false

/-! ### The table of constructors -/
abbrev Tab := List (Str × Nat × Nat × Nat)
def tget : Tab → Str → Option (Nat × Nat × Nat)
  | [], _ => none
  | (a, v) :: t, k => if a = k then some v else tget t k
def ctV (c : Nat × Nat × Nat) : V := .agg [.int c.1, .int c.2.1, .int c.2.2]
def tabV (t : Tab) : List (Str × V) := t.map fun p => (p.1, ctV p.2)
theorem kget_tab : ∀ (t : Tab) (s : Str), kget (tabV t) s = (tget t s).map ctV
  | [], s => rfl
  | (a, v) :: t, s => by
    have ih := kget_tab t s
    simp only [tabV, List.map_cons, kget, tget] at ih ⊢
    by_cases h : a = s
    · simp [h]
    · simp [h, ih]
theorem kput_tab : ∀ (t : Tab) (s : Str) (v : Nat × Nat × Nat), tget t s = none → kput (tabV t) s (ctV v) = tabV (t ++ [(s, v)])
  | [], s, v, _ => rfl
  | (a, u) :: t, s, v, h => by
    simp only [tget] at h
    by_cases ha : a = s
    · simp [ha] at h
    · simp only [ha, if_false] at h
      have ih := kput_tab t s v h
      simp only [tabV, List.map_cons, kput, ha, if_false, List.cons_append] at ih ⊢
      rw [ih]
def addCons (k : Nat) : Nat → List ConSig → Tab → Option Tab
  | _, [], t => some t
  | n, c :: cs, t => match tget t c.name with
    | some _ => none
    | none => addCons k (n + 1) cs (t ++ [(c.name, k, n, c.args.length)])
def buildF : Nat → List DataSig → Tab → Option Tab
  | _, [], t => some t
  | k, d :: ds, t => match addCons k 0 d.cons t with
    | none => none
    | some t' => buildF (k + 1) ds t'
end Go.PM
