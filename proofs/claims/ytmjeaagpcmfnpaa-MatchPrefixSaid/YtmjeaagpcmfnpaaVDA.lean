/- Patterns: the data as the law's statement speaks of it, and how the logic sees it. -/
import Derived.Test.YtmjeaagpcmfnpaaV7
set_option linter.unusedVariables false
namespace Go.PM
open Go.VL

abbrev Str := List UInt8
structure ConSig where
  name : Str
  args : List V
structure DataSig where
  name : Str
  params : Int
  cons : List ConSig
inductive Pat where
  | mk (kind : Int) (name : Str) (n : Int) (args : List Pat)
instance : Inhabited Pat := ⟨.mk 0 [] 0 []⟩
def Pat.kind : Pat → Int | .mk k _ _ _ => k
def Pat.name : Pat → Str | .mk _ s _ _ => s
def Pat.n : Pat → Int | .mk _ _ n _ => n
def Pat.args : Pat → List Pat | .mk _ _ _ l => l

mutual
def patV : Pat → V
  | .mk k s n as => .agg [.int k, .str s, .int n, .sl 4 none (patVL as)]
def patVL : List Pat → List V
  | [] => []
  | p :: ps => patV p :: patVL ps
end
theorem patVL_map (l : List Pat) : patVL l = l.map patV := by
  induction l with
  | nil => rfl
  | cons p l ih => rw [patVL, ih]; rfl
/-- A list of patterns. -/
abbrev patsX (l : List Pat) : V := .sl 4 none (l.map patV)
/-- A pattern, opened. -/
abbrev patX (p : Pat) : V := .agg [.int p.kind, .str p.name, .int p.n, patsX p.args]
theorem patV_eq (p : Pat) : patV p = patX p := by
  obtain ⟨k, s, n, as⟩ := p
  rw [patV, patVL_map]
  rfl
abbrev rowsX (rows : List (List Pat)) : V := .sl 1 none (rows.map patsX)
def conV (c : ConSig) : V := .agg [.str c.name, .sl 4 none c.args]
def dataV (d : DataSig) : V := .agg [.str d.name, .int d.params, .sl 2 none (d.cons.map conV)]
abbrev datasX (l : List DataSig) : V := .sl 3 none (l.map dataV)

theorem get_of_lt {α : Type} (l : List α) (k : Nat) (h : (k : Int) < (l.length : Int)) : ∃ x, l[k]? = some x := ⟨l[k]'(by omega), List.getElem?_eq_getElem _⟩
theorem get_mapS {α : Type} (f : α → V) {l : List α} {k : Nat} {x : α} (h : l[k]? = some x) : (l.map f)[k]? = some (f x) := by simp [h]
theorem get_patS {l : List Pat} {k : Nat} {x : Pat} (h : l[k]? = some x) : (l.map patV)[k]? = some (patX x) := by rw [get_mapS patV h, patV_eq]
theorem take_snoc {α : Type} {l : List α} {k : Nat} {x : α} (h : l[k]? = some x) : l.take (k + 1) = l.take k ++ [x] := by
  obtain ⟨hk, rfl⟩ := List.getElem?_eq_some_iff.1 h
  exact List.take_succ_eq_append_getElem hk
theorem natbeq (n : Nat) : ((n : Int) == 0) = (n == 0) := by
  cases n <;> simp <;> omega
theorem take_end {α : Type} {l : List α} {k : Nat} (h : ¬ (k : Int) < (l.length : Int)) : l.take k = l := List.take_of_length_le (by omega)
theorem get_map {α : Type} (f : α → V) (l : List α) (k : Nat) (h : k < l.length) : (l.map f)[k]? = some (f l[k]) := by simp [h]
theorem get_pat (l : List Pat) (k : Nat) (h : k < l.length) : (l.map patV)[k]? = some (patX l[k]) := by rw [get_map patV l k h, patV_eq]

def free (p : Pat) : Bool := p.kind == 0 || p.kind == 1
def first (rows : List (List Pat)) : List Pat := rows.filterMap fun r => match r with
  | p :: _ => if free p then none else some p
  | [] => none
def rest (rows : List (List Pat)) : List (List Pat) := rows.filterMap fun r => match r with
  | p :: t => if free p then some t else none
  | [] => none

/-! ### The limits -/
def sizeLoop (rc : List Pat → Int → Bool × Int) : List Pat → Int → Bool × Int
  | [], m => (true, m)
  | p :: t, m => if m + 1 > 400 then (false, m + 1) else bif (rc p.args (m + 1)).1 then sizeLoop rc t (rc p.args (m + 1)).2 else (false, (rc p.args (m + 1)).2)
def sizeF : Nat → List Pat → Int → Bool × Int
  | 0, l, m => (l.length == 0, m)
  | n + 1, l, m => sizeLoop (sizeF n) l m
theorem sizeLoop_le {rc : List Pat → Int → Bool × Int} (h : ∀ l m, 0 ≤ m → m ≤ 400 → m ≤ (rc l m).2 ∧ ((rc l m).1 = true → (rc l m).2 ≤ 400)) : ∀ (l : List Pat) (m : Int), 0 ≤ m → m ≤ 400 → m ≤ (sizeLoop rc l m).2 ∧ ((sizeLoop rc l m).1 = true → (sizeLoop rc l m).2 ≤ 400)
  | [], m, _, h4 => ⟨Int.le_refl _, fun _ => h4⟩
  | p :: t, m, h0, h4 => by
    simp only [sizeLoop]
    by_cases hm : m + 1 > 400
    · rw [if_pos hm]
      exact ⟨by dsimp only; omega, fun h => by cases h⟩
    · rw [if_neg hm]
      have h1 := h p.args (m + 1) (by omega) (by omega)
      cases hb : (rc p.args (m + 1)).1 with
      | false => exact ⟨by simp only [cond_false]; omega, fun h => by cases h⟩
      | true =>
        have h2 := sizeLoop_le h t (rc p.args (m + 1)).2 (by omega) (h1.2 hb)
        exact ⟨by simp only [cond_true]; omega, fun h => h2.2 h⟩
theorem sizeF_le : ∀ (n : Nat) (l : List Pat) (m : Int), 0 ≤ m → m ≤ 400 → m ≤ (sizeF n l m).2 ∧ ((sizeF n l m).1 = true → (sizeF n l m).2 ≤ 400)
  | 0, l, m, _, h => ⟨Int.le_refl _, fun _ => h⟩
  | n + 1, l, m, h0, h4 => sizeLoop_le (sizeF_le n) l m h0 h4
theorem drop_cons {α : Type} {l : List α} {k : Nat} {x : α} (h : l[k]? = some x) : l.drop k = x :: l.drop (k + 1) := by
  obtain ⟨hk, rfl⟩ := List.getElem?_eq_some_iff.1 h
  exact (List.drop_eq_getElem_cons hk)
/-- Where the first is that fits; -1: none. -/
def idxOf {α : Type} (p : α → Bool) : List α → Int
  | [] => -1
  | x :: t => bif p x then 0 else (if idxOf p t < 0 then -1 else idxOf p t + 1)
theorem idxOf_at {α : Type} (p : α → Bool) : ∀ {l : List α} {k : Nat} {x : α}, l[k]? = some x → (l.take k).any p = false → p x = true → idxOf p l = k
  | y :: l, 0, x, h, _, hp => by simp at h; subst h; simp [idxOf, hp]
  | y :: l, k + 1, x, h, ha, hp => by
    simp at h ha
    have := idxOf_at p h (by simpa using ha.2) hp
    simp only [idxOf, ha.1, cond_false, this]
    rw [if_neg (by omega)]
    omega
theorem idxOf_none {α : Type} (p : α → Bool) : ∀ {l : List α}, l.any p = false → idxOf p l = -1
  | [], _ => rfl
  | y :: l, h => by
    simp at h
    have := idxOf_none p (l := l) (by simpa using h.2)
    simp [idxOf, h.1, this]
theorem idxOf_ge {α : Type} (p : α → Bool) : ∀ (l : List α), decide (idxOf p l ≥ 0) = l.any p
  | [] => rfl
  | y :: l => by
    have ih := idxOf_ge p l
    rw [List.any_cons]
    unfold idxOf
    by_cases hy : p y = true
    · simp [hy]
    · have hy' : p y = false := by simpa using hy
      rw [hy', cond_false, Bool.false_or, ← ih]
      by_cases h : idxOf p l < 0
      · rw [if_pos h]; simp; omega
      · rw [if_neg h]; simp; omega
theorem any_snoc {α : Type} {p : α → Bool} {l : List α} {k : Nat} {x : α} (h : l[k]? = some x) (ha : (l.take k).any p = false) (hp : p x = false) : (l.take (k + 1)).any p = false := by
  rw [take_snoc h, List.any_append, ha]
  simp [hp]
def small (datas : List DataSig) (rows : List (List Pat)) : Bool := smallRows rows 0 && decide (rows.length ≤ 64) && !datas.any fun d => decide ((d.cons.length : Int) > 256)
  where
  smallRows : List (List Pat) → Int → Bool
    | [], _ => true
    | r :: t, m => if r.length > 16 then false else bif (sizeF 20 r m).1 then smallRows t (sizeF 20 r m).2 else false

/-! ### The table of constructors -/
abbrev Tab := List (Str × Nat × Nat × Nat)
def tget : Tab → Str → Option (Nat × Nat × Nat)
  | [], _ => none
  | (a, v) :: t, k => if a = k then some v else tget t k
def ctV (c : Nat × Nat × Nat) : V := .agg [.int c.1, .int c.2.1, .int c.2.2]
def tabV (t : Tab) : List (Str × V) := t.map fun p => (p.1, ctV p.2)
theorem kget_tab : ∀ (t : Tab) (s : Str), kget (tabV t) s = (tget t s).map ctV
  | [], s => rfl
  | (a, v) :: t, s => by
    have ih := kget_tab t s
    simp only [tabV, List.map_cons, kget, tget] at ih ⊢
    by_cases h : a = s
    · simp [h]
    · simp [h, ih]
theorem kput_tab : ∀ (t : Tab) (s : Str) (v : Nat × Nat × Nat), tget t s = none → kput (tabV t) s (ctV v) = tabV (t ++ [(s, v)])
  | [], s, v, _ => rfl
  | (a, u) :: t, s, v, h => by
    simp only [tget] at h
    by_cases ha : a = s
    · simp [ha] at h
    · simp only [ha, if_false] at h
      have ih := kput_tab t s v h
      simp only [tabV, List.map_cons, kput, ha, if_false, List.cons_append] at ih ⊢
      rw [ih]
def addCons (k : Nat) : Nat → List ConSig → Tab → Option Tab
  | _, [], t => some t
  | n, c :: cs, t => match tget t c.name with
    | some _ => none
    | none => addCons k (n + 1) cs (t ++ [(c.name, k, n, c.args.length)])
def buildF : Nat → List DataSig → Tab → Option Tab
  | _, [], t => some t
  | k, d :: ds, t => match addCons k 0 d.cons t with
    | none => none
    | some t' => buildF (k + 1) ds t'
end Go.PM
namespace Go.PM
open Go.VL

def anyP : Pat := .mk 0 [] 0 []
abbrev anysL (n : Nat) : List Pat := List.replicate n anyP
mutual
def patF (t : Tab) : Pat → Int
  | .mk k s n as => if k = 0 ∨ k = 1 then 0 else if k = 2 then (if n < -1073741824 ∨ n > 1073741823 then 4 else 0) else if k = 3 then
      (match tget t s with | none => 6 | some c => if as.length ≠ c.2.2 then 3 else patsF t as) else 3
def patsF (t : Tab) : List Pat → Int
  | [] => 0
  | p :: ps => if patF t p ≠ 0 then patF t p else patsF t ps
end
def kindF (t : Tab) (p : Pat) : Int := if p.kind = 2 then -1 else if p.kind = 3 then (match tget t p.name with | some c => c.1 | none => 0) else -2
theorem mem_size {p q : Pat} (h : q ∈ p.args) : SizeOf.sizeOf q < SizeOf.sizeOf p := by
  obtain ⟨k, s, n, as⟩ := p
  have := List.sizeOf_lt_of_mem h
  simp only [Pat.args] at this
  simp only [Pat.mk.sizeOf_spec]
  omega
def narrow (name : Str) (n : Nat) (rows : List (List Pat)) : List (List Pat) := rows.filterMap fun r => match r with
  | p :: t => if free p then some (anysL n ++ t) else if p.name = name then some (p.args ++ t) else none
  | [] => none

/-! ### A value that is absent -/
def countGE (l : List Pat) (n : Int) : Nat := l.countP fun p => decide (n ≤ p.n)
theorem countGE_mono (l : List Pat) (n : Int) : countGE l (n + 1) ≤ countGE l n :=
  List.countP_mono_left fun p _ h => by simp at h ⊢; omega
theorem countGE_lt {l : List Pat} {n : Int} (h : (l.any fun p => decide (p.n = n)) = true) : countGE l (n + 1) < countGE l n := by
  induction l with
  | nil => simp at h
  | cons p l ih =>
    have hm := countGE_mono l n
    unfold countGE at hm ih ⊢
    rw [List.countP_cons, List.countP_cons]
    by_cases hp : p.n = n
    · rw [if_neg (by simp; omega), if_pos (by simp; omega)]
      omega
    · have h2 : (l.any fun p => decide (p.n = n)) = true := by simpa [hp] using h
      have := ih h2
      by_cases h3 : n + 1 ≤ p.n
      · rw [if_pos (by simpa using h3), if_pos (by simp; omega)]
        omega
      · rw [if_neg (by simpa using h3)]
        omega
/-- The first number from n on that no pattern names. -/
def fresh (l : List Pat) (n : Int) : Int := if h : (l.any fun p => decide (p.n = n)) = true then fresh l (n + 1) else n
  termination_by countGE l n
  decreasing_by exact countGE_lt h
theorem fresh_yes {l : List Pat} {n : Int} (h : (l.any fun p => decide (p.n = n)) = true) : fresh l n = fresh l (n + 1) := by rw [fresh, dif_pos h]
theorem fresh_no {l : List Pat} {n : Int} (h : (l.any fun p => decide (p.n = n)) = false) : fresh l n = n := by rw [fresh, dif_neg (by simp [h])]
def consAt (t : Tab) (ds : List DataSig) (s : Str) : List ConSig := match tget t s with
  | some c => (match ds[c.1]? with | some d => d.cons | none => [])
  | none => []
def lacks (l : List Pat) (c : ConSig) : Bool := !l.any fun p => decide (p.name = c.name)
def absentF (t : Tab) (ds : List DataSig) : List Pat → Option Pat
  | [] => some anyP
  | p :: l => if p.kind = 2 then some (.mk 2 [] (fresh (p :: l) 0) []) else ((consAt t ds p.name).find? (lacks (p :: l))).map fun c => .mk 3 c.name 0 (anysL c.args.length)
/-! ### The search for missing values -/
def missLoop (rc : List (List Pat) → Nat → List Pat × Bool) (rows : List (List Pat)) (c : Nat) : List ConSig → List Pat × Bool
  | [] => ([], false)
  | k :: ks => bif (rc (narrow k.name k.args.length rows) (k.args.length + c)).2
    then (.mk 3 k.name 0 ((rc (narrow k.name k.args.length rows) (k.args.length + c)).1.take k.args.length) :: (rc (narrow k.name k.args.length rows) (k.args.length + c)).1.drop k.args.length, true)
    else missLoop rc rows c ks
def missF (t : Tab) (ds : List DataSig) : Nat → List (List Pat) → Nat → List Pat × Bool
  | 0, _, _ => ([], false)
  | f + 1, rows, 0 => ([], decide ((rows.length : Int) = 0))
  | f + 1, rows, c + 1 => match absentF t ds (first rows) with
    | some p => (p :: (missF t ds f (rest rows) c).1, (missF t ds f (rest rows) c).2)
    | none => missLoop (missF t ds f) rows c (consAt t ds ((first rows).headD anyP).name)
def usefulLoop (rc : List (List Pat) → List Pat → Bool) (rows : List (List Pat)) (row : List Pat) : List ConSig → Bool
  | [] => false
  | k :: ks => rc (narrow k.name k.args.length rows) (anysL k.args.length ++ row) || usefulLoop rc rows row ks
def leftF (n : Int) (rows : List (List Pat)) : List (List Pat) := rows.filterMap fun r => match r with
  | p :: t => if free p || decide (p.n = n) then some t else none
  | [] => none
def usefulF (t : Tab) (ds : List DataSig) : Nat → List (List Pat) → List Pat → Bool
  | 0, _, _ => false
  | f + 1, rows, [] => decide ((rows.length : Int) = 0)
  | f + 1, rows, p :: row => if p.kind = 3 then usefulF t ds f (narrow p.name p.args.length rows) (p.args ++ row)
    else if p.kind = 2 then usefulF t ds f (leftF p.n rows) row
    else match absentF t ds (first rows) with
      | some _ => usefulF t ds f (rest rows) row
      | none => usefulLoop (usefulF t ds f) rows row (consAt t ds ((first rows).headD anyP).name)
end Go.PM
namespace Go.PM
open Go.VL
def nf (p : Pat) : Bool := !free p
theorem pats_fit (l : List Pat) : ∀ y ∈ l.map patV, y.leaves.length = 4 := fun y hy => by
  obtain ⟨p, _, rfl⟩ := List.mem_map.1 hy
  rw [patV_eq]
  rfl
theorem idxOf_range {α : Type} (p : α → Bool) : ∀ (l : List α), idxOf p l = -1 ∧ l.any p = false ∨ ∃ k x, idxOf p l = (k : Nat) ∧ l[k]? = some x ∧ p x = true ∧ (l.take k).any p = false
  | [] => .inl ⟨rfl, rfl⟩
  | x :: l => by
    by_cases hx : p x = true
    · exact .inr ⟨0, x, by simp [idxOf, hx], by simp, hx, by simp⟩
    · have hx' : p x = false := by simpa using hx
      rcases idxOf_range p l with ⟨h1, h2⟩ | ⟨k, y, h1, h2, h3, h4⟩
      · exact .inl ⟨by simp [idxOf, hx', h1], by simp [hx', h2]⟩
      · refine .inr ⟨k + 1, y, ?_, by simpa using h2, h3, by simp [hx']; simpa using h4⟩
        simp only [idxOf, hx', cond_false, h1]
        rw [if_neg (by omega)]
        omega
structure DelInv (l : List Pat) (i j : Nat) (cur : List Pat) : Prop where
  le : i < j
  le2 : j ≤ l.length
  len : cur.length = l.length
  done : cur.take i = (l.take j).filter nf
  left : cur.drop j = l.drop j
theorem filter_all {l : List Pat} (h : l.any free = false) : l.filter nf = l := by
  rw [List.filter_eq_self]
  intro a ha
  have := List.any_eq_false.1 h a ha
  simp [nf, this]
theorem DelInv.init {l : List Pat} {k : Nat} {x : Pat} (h1 : l[k]? = some x) (h2 : free x = true) (h3 : (l.take k).any free = false) : DelInv l k (k + 1) l := by
  have hk := (List.getElem?_eq_some_iff.1 h1).1
  refine ⟨by omega, by omega, rfl, ?_, rfl⟩
  rw [take_snoc h1, List.filter_append, filter_all h3]
  simp [nf, h2]
theorem DelInv.get {l cur : List Pat} {i j : Nat} {v : Pat} (h : DelInv l i j cur) (hv : l[j]? = some v) : cur[j]? = some v := by
  have h1 : (cur.drop j)[0]? = (l.drop j)[0]? := by rw [h.left]
  rw [List.getElem?_drop, List.getElem?_drop, Nat.add_zero] at h1
  rw [h1, hv]
theorem DelInv.keep {l cur : List Pat} {i j : Nat} {v : Pat} (h : DelInv l i j cur) (hv : l[j]? = some v) (hf : free v = false) : DelInv l (i + 1) (j + 1) (cur.set i v) := by
  have hj := (List.getElem?_eq_some_iff.1 hv).1
  have hi := h.le
  have hl := h.len
  refine ⟨by omega, by omega, by rw [List.length_set]; exact h.len, ?_, ?_⟩
  · rw [take_snoc hv, List.filter_append, ← h.done, List.take_succ_eq_append_getElem (by rw [List.length_set]; omega), List.take_set_of_le (Nat.le_refl _)]
    simp [nf, hf]
  · rw [List.drop_set_of_lt (by omega)]
    have := congrArg (List.drop 1) h.left
    rw [List.drop_drop, List.drop_drop] at this
    exact this
theorem DelInv.skip {l cur : List Pat} {i j : Nat} {v : Pat} (h : DelInv l i j cur) (hv : l[j]? = some v) (hf : free v = true) : DelInv l i (j + 1) cur := by
  have hj := (List.getElem?_eq_some_iff.1 hv).1
  have hi := h.le
  refine ⟨by omega, by omega, h.len, ?_, ?_⟩
  · rw [take_snoc hv, List.filter_append, ← h.done]
    simp [nf, hf]
  · have := congrArg (List.drop 1) h.left
    rw [List.drop_drop, List.drop_drop] at this
    exact this
theorem DelInv.fin {l cur : List Pat} {i j : Nat} (h : DelInv l i j cur) (hj : l.length ≤ j) : cur.take i = l.filter nf ∧ i = (l.filter nf).length := by
  have h1 := h.done
  rw [List.take_of_length_le hj] at h1
  refine ⟨h1, ?_⟩
  rw [← h1, List.length_take]
  have := h.le; have := h.le2; have := h.len
  omega
theorem flat_take {sz : Nat} : ∀ {xs : List V} {k : Nat} {rest : List V}, (∀ x ∈ xs, x.leaves.length = sz) → k ≤ xs.length → (xs.flatMap V.leaves ++ rest).take (k * sz) = (xs.take k).flatMap V.leaves
  | [], k, rest, _, h => by
    have : k = 0 := by simpa using h
    subst this
    simp
  | x :: xs, 0, rest, _, _ => by simp
  | x :: xs, k + 1, rest, hl, h => by
    have hx := hl x (List.mem_cons_self ..)
    have ih := flat_take (rest := rest) (k := k) (fun y hy => hl y (List.mem_cons_of_mem _ hy)) (by simpa using h)
    rw [List.flatMap_cons, List.append_assoc, Nat.succ_mul, Nat.add_comm (k * sz) sz, List.take_succ_cons, List.flatMap_cons, ← ih]
    rw [← hx, List.take_length_add_append]
theorem flat_len {sz : Nat} : ∀ {xs : List V}, (∀ x ∈ xs, x.leaves.length = sz) → (xs.flatMap V.leaves).length = xs.length * sz
  | [], _ => by simp
  | x :: xs, hl => by
    have ih := flat_len (xs := xs) fun y hy => hl y (List.mem_cons_of_mem _ hy)
    rw [List.flatMap_cons, List.length_append, ih, hl x (List.mem_cons_self ..), List.length_cons, Nat.succ_mul, Nat.add_comm]

/-! ### Columns that agree -/
def belowF (m : List Pat) (name : Str) (n : Nat) : List Pat := m.filterMap fun q => if q.name = name then some (q.args.getD n anyP) else none
def agreeArgs (rc : List Pat → Bool) (m : List Pat) (name : Str) : Nat → Nat → Bool
  | _, 0 => true
  | n, k + 1 => rc (belowF m name n) && agreeArgs rc m name (n + 1) k
def agreeLoop (rc : List Pat → Bool) (m : List Pat) : List Pat → List Pat → Bool
  | _, [] => true
  | seen, p :: ps => (seen.any (fun q => decide (q.name = p.name)) || decide (p.kind ≠ 3) || agreeArgs rc m p.name 0 p.args.length) && agreeLoop rc m (seen ++ [p]) ps
def sameKind (t : Tab) (m : List Pat) : Bool := m.all fun p => decide (kindF t p = kindF t (m.headD anyP))
def agreeF (t : Tab) : Nat → List Pat → Bool
  | 0, _ => true
  | f + 1, l => sameKind t (l.filter nf) && agreeLoop (agreeF t f) (l.filter nf) [] (l.filter nf)
end Go.PM
namespace Go.PM
open Go.VL
inductive Ty where
  | any
  | int
  | dat (d : Nat) (f : Str → Nat → Ty)
def wt (t : Tab) : Ty → Pat → Prop
  | .any, p => free p = true
  | .int, p => free p = true ∨ p.kind = 2
  | .dat d f, p => free p = true ∨ (p.kind = 3 ∧ (∃ a, tget t p.name = some (d, a, p.args.length)) ∧ p.args.length ≤ 400 ∧ ∀ i q, p.args[i]? = some q → wt t (f p.name i) q)
theorem wt_free {t : Tab} {p : Pat} (h : free p = true) : ∀ τ : Ty, wt t τ p
  | .any => h
  | .int => .inl h
  | .dat d f => .inl h
def rowT (t : Tab) : List Ty → List Pat → Prop
  | [], [] => True
  | τ :: τs, p :: r => wt t τ p ∧ rowT t τs r
  | _, _ => False
theorem rowT.len {t : Tab} : ∀ {τs : List Ty} {r : List Pat}, rowT t τs r → r.length = τs.length
  | [], [], _ => rfl
  | τ :: τs, p :: r, h => by simp [rowT.len h.2]
  | [], _ :: _, h => h.elim
  | _ :: _, [], h => h.elim
theorem rowT.append {t : Tab} : ∀ {τs σs : List Ty} {r s : List Pat}, rowT t τs r → rowT t σs s → rowT t (τs ++ σs) (r ++ s)
  | [], _, [], _, _, h => h
  | τ :: τs, _, p :: r, _, h, k => ⟨h.1, rowT.append h.2 k⟩
  | [], _, _ :: _, _, h, _ => h.elim
  | _ :: _, _, [], _, h, _ => h.elim
theorem rowT.of_get {t : Tab} : ∀ {τs : List Ty} {r : List Pat}, r.length = τs.length → (∀ (i : Nat) τ p, τs[i]? = some τ → r[i]? = some p → wt t τ p) → rowT t τs r
  | [], [], _, _ => trivial
  | τ :: τs, p :: r, h, k => ⟨k 0 τ p rfl rfl, rowT.of_get (by simpa using h) fun i τ p h1 h2 => k (i + 1) τ p (by simpa using h1) (by simpa using h2)⟩
  | [], _ :: _, h, _ => by simp at h
  | _ :: _, [], h, _ => by simp at h
theorem rowT.anys {t : Tab} (τs : List Ty) : rowT t τs (anysL τs.length) :=
  rowT.of_get (by simp) fun i τ p _ h2 => by
    have : p = anyP := by
      have := List.mem_of_getElem? h2
      exact List.eq_of_mem_replicate this
    subst this
    exact wt_free rfl τ
def argT (g : Nat → Ty) (n : Nat) : List Ty := (List.range n).map g
theorem argT_len (g : Nat → Ty) (n : Nat) : (argT g n).length = n := by simp [argT]
theorem rowT.args {t : Tab} {d : Nat} {f : Str → Nat → Ty} {p : Pat} (h : wt t (.dat d f) p) (hf : free p = false) : rowT t (argT (f p.name) p.args.length) p.args := by
  rcases h with h | ⟨_, _, _, h⟩
  · rw [h] at hf; cases hf
  · refine rowT.of_get (by simp [argT]) fun i τ q h1 h2 => ?_
    have hi := (List.getElem?_eq_some_iff.1 h2).1
    simp only [argT, List.getElem?_map, List.getElem?_range hi, Option.map_some, Option.some.injEq] at h1
    subst h1
    exact h i q h2
structure TabOk (t : Tab) (ds : List DataSig) : Prop where
  get : ∀ s c, tget t s = some c → ∃ D, ds[c.1]? = some D
  put : ∀ (d : Nat) D k, ds[d]? = some D → k ∈ D.cons → ∃ a, tget t k.name = some (d, a, k.args.length)
  small : ∀ (d : Nat) D, ds[d]? = some D → D.cons.length ≤ 1000 ∧ ∀ k ∈ D.cons, k.args.length * 56 ≤ 140737488355328
def rowsT (t : Tab) (τs : List Ty) (rows : List (List Pat)) : Prop := ∀ r ∈ rows, rowT t τs r
theorem rowsT.rest {t : Tab} {τ : Ty} {τs : List Ty} {rows : List (List Pat)} (h : rowsT t (τ :: τs) rows) : rowsT t τs (rest rows) := fun r hr => by
  obtain ⟨x, hx, hxr⟩ := List.mem_filterMap.1 hr
  have := h x hx
  cases x with
  | nil => cases hxr
  | cons p tl =>
    simp only at hxr
    split at hxr
    · injection hxr with hxr; subst hxr; exact this.2
    · cases hxr
theorem rowsT.left {t : Tab} {τ : Ty} {τs : List Ty} {rows : List (List Pat)} {n : Int} (h : rowsT t (τ :: τs) rows) : rowsT t τs (leftF n rows) := fun r hr => by
  obtain ⟨x, hx, hxr⟩ := List.mem_filterMap.1 hr
  have := h x hx
  cases x with
  | nil => cases hxr
  | cons p tl =>
    simp only at hxr
    split at hxr
    · injection hxr with hxr; subst hxr; exact this.2
    · cases hxr
theorem rowsT.narrow {t : Tab} {d a : Nat} {f : Str → Nat → Ty} {τs : List Ty} {rows : List (List Pat)} {name : Str} {n : Nat} (h : rowsT t (.dat d f :: τs) rows) (hn : tget t name = some (d, a, n)) : rowsT t (argT (f name) n ++ τs) (narrow name n rows) := fun r hr => by
  obtain ⟨x, hx, hxr⟩ := List.mem_filterMap.1 hr
  have hT := h x hx
  cases x with
  | nil => cases hxr
  | cons p tl =>
    simp only at hxr
    by_cases hf : free p = true
    · rw [if_pos hf] at hxr
      injection hxr with hxr
      subst hxr
      refine rowT.append ?_ hT.2
      have := rowT.anys (t := t) (argT (f name) n)
      rwa [argT_len] at this
    · rw [if_neg hf] at hxr
      have hf' : free p = false := by simpa using hf
      by_cases hname : p.name = name
      · rw [if_pos hname] at hxr
        injection hxr with hxr
        subst hxr
        refine rowT.append ?_ hT.2
        have h1 := rowT.args hT.1 hf'
        rcases hT.1 with h2 | ⟨_, ⟨a', h2⟩, _⟩
        · exact absurd h2 hf
        · rw [hname, hn] at h2
          injection h2 with h2
          injection h2 with _ h2
          injection h2 with _ h2
          rw [h2, ← hname]
          exact h1
      · rw [if_neg hname] at hxr
        cases hxr

/-! ### Weights -/
mutual
def wP : Pat → Nat
  | .mk k s n as => if k = 0 ∨ k = 1 then 0 else 1 + wL as
def wL : List Pat → Nat
  | [] => 0
  | p :: ps => wP p + wL ps
end
theorem wP_free {p : Pat} (h : free p = true) : wP p = 0 := by
  obtain ⟨k, s, n, as⟩ := p
  simp [free, Pat.kind] at h
  simp [wP, h]
theorem wP_con {p : Pat} (h : free p = false) : wP p = 1 + wL p.args := by
  obtain ⟨k, s, n, as⟩ := p
  simp [free, Pat.kind] at h
  simp [wP, h, Pat.args]
theorem wL_append : ∀ (a b : List Pat), wL (a ++ b) = wL a + wL b
  | [], b => by simp [wL]
  | p :: a, b => by simp [wL, wL_append a b, Nat.add_assoc]
theorem wL_anys : ∀ n, wL (anysL n) = 0
  | 0 => rfl
  | n + 1 => by
    have := wL_anys n
    simp only [anysL, List.replicate_succ, wL] at this ⊢
    rw [this, wP_free rfl]
def wR : List (List Pat) → Nat
  | [] => 0
  | r :: rows => wL r + wR rows
theorem rest_t {p : Pat} {tl : List Pat} {rows : List (List Pat)} (h : free p = true) : rest ((p :: tl) :: rows) = tl :: rest rows := by simp [rest, h]
theorem rest_f {p : Pat} {tl : List Pat} {rows : List (List Pat)} (h : free p = false) : rest ((p :: tl) :: rows) = rest rows := by simp [rest, h]
theorem left_t {p : Pat} {tl : List Pat} {rows : List (List Pat)} {n : Int} (h : (free p || decide (p.n = n)) = true) : leftF n ((p :: tl) :: rows) = tl :: leftF n rows := by
  unfold leftF
  rw [List.filterMap_cons]
  simp only [h, if_true]
theorem left_f {p : Pat} {tl : List Pat} {rows : List (List Pat)} {n : Int} (h : (free p || decide (p.n = n)) = false) : leftF n ((p :: tl) :: rows) = leftF n rows := by
  unfold leftF
  rw [List.filterMap_cons]
  simp only [h]
  rfl
theorem narrow_any {p : Pat} {tl : List Pat} {rows : List (List Pat)} {name : Str} {n : Nat} (h : free p = true) : narrow name n ((p :: tl) :: rows) = (anysL n ++ tl) :: narrow name n rows := by simp [narrow, h]
theorem narrow_hit {p : Pat} {tl : List Pat} {rows : List (List Pat)} {name : Str} {n : Nat} (h : free p = false) (k : p.name = name) : narrow name n ((p :: tl) :: rows) = (p.args ++ tl) :: narrow name n rows := by simp [narrow, h, k]
theorem narrow_off {p : Pat} {tl : List Pat} {rows : List (List Pat)} {name : Str} {n : Nat} (h : free p = false) (k : p.name ≠ name) : narrow name n ((p :: tl) :: rows) = narrow name n rows := by simp [narrow, h, k]
theorem rest_w : ∀ rows, wR (rest rows) ≤ wR rows
  | [] => Nat.le_refl _
  | [] :: rows => by
    have := rest_w rows
    simpa [rest, wR, wL] using this
  | (p :: tl) :: rows => by
    have := rest_w rows
    cases hf : free p with
    | true => rw [rest_t hf]; simp only [wR, wL]; omega
    | false => rw [rest_f hf]; simp only [wR, wL]; omega
theorem left_w (n : Int) : ∀ rows, wR (leftF n rows) ≤ wR rows
  | [] => Nat.le_refl _
  | [] :: rows => by
    have := left_w n rows
    simpa [leftF, wR, wL] using this
  | (p :: tl) :: rows => by
    have := left_w n rows
    cases hf : (free p || decide (p.n = n)) with
    | true => rw [left_t hf]; simp only [wR, wL]; omega
    | false => rw [left_f hf]; simp only [wR, wL]; omega
theorem narrow_w (name : Str) (n : Nat) : ∀ rows, wR (narrow name n rows) ≤ wR rows
  | [] => Nat.le_refl _
  | [] :: rows => by
    have := narrow_w name n rows
    simpa [narrow, wR, wL] using this
  | (p :: tl) :: rows => by
    have := narrow_w name n rows
    cases hf : free p with
    | true => rw [narrow_any hf]; simp only [wR, wL, wL_append, wL_anys]; omega
    | false =>
      have := wP_con hf
      by_cases hn : p.name = name
      · rw [narrow_hit hf hn]; simp only [wR, wL, wL_append]; omega
      · rw [narrow_off hf hn]; simp only [wR, wL]; omega
theorem narrow_w1 (name : Str) (n : Nat) {p : Pat} {tl : List Pat} (hf : free p = false) (hn : p.name = name) : ∀ rows, p :: tl ∈ rows → wR (narrow name n rows) + 1 ≤ wR rows
  | [], h => by cases h
  | r :: rows, h => by
    rcases List.mem_cons.1 h with h | h
    · subst h
      have := narrow_w name n rows
      have := wP_con hf
      rw [narrow_hit hf hn]
      simp only [wR, wL, wL_append]
      omega
    · have ih := narrow_w1 name n hf hn rows h
      have h2 := narrow_w name n [r]
      have h3 : wR (narrow name n (r :: rows)) = wR (narrow name n [r]) + wR (narrow name n rows) := by
        have key : ∀ a b, wR (a ++ b) = wR a + wR b := fun a b => by
          induction a with
          | nil => simp [wR]
          | cons x a ih => simp [wR, ih, Nat.add_assoc]
        rw [show r :: rows = [r] ++ rows from rfl, narrow, List.filterMap_append, key]
        rfl
      rw [h3]
      simp only [wR] at h2 ⊢
      omega

/-! ### When nothing is absent -/
theorem first_mem {rows : List (List Pat)} {p : Pat} (h : p ∈ first rows) : ∃ tl, p :: tl ∈ rows ∧ free p = false := by
  obtain ⟨x, hx, hxr⟩ := List.mem_filterMap.1 h
  cases x with
  | nil => cases hxr
  | cons q tl =>
    simp only at hxr
    split at hxr
    · cases hxr
    · injection hxr with hxr
      subst hxr
      rename_i hf
      exact ⟨tl, hx, by simpa using hf⟩
structure Full (t : Tab) (ds : List DataSig) (τ : Ty) (rows : List (List Pat)) (d : Nat) (f : Str → Nat → Ty) (D : DataSig) : Prop where
  ty : τ = .dat d f
  data : ds[d]? = some D
  cons : consAt t ds ((first rows).headD anyP).name = D.cons
  all : ∀ k ∈ D.cons, ∃ q tl, q :: tl ∈ rows ∧ free q = false ∧ q.name = k.name ∧ k.args.length ≤ 400 ∧ ∃ a, tget t k.name = some (d, a, k.args.length)
theorem first_head {t : Tab} {ds : List DataSig} {τ : Ty} {τs : List Ty} {rows : List (List Pat)} (hok : TabOk t ds) (hT : rowsT t (τ :: τs) rows) {p : Pat} {l : List Pat} (hl : first rows = p :: l) (hk : p.kind ≠ 2) :
    ∃ d f a D, τ = .dat d f ∧ p.kind = 3 ∧ tget t p.name = some (d, a, p.args.length) ∧ ds[d]? = some D := by
  obtain ⟨tl, hr, hf⟩ := first_mem (rows := rows) (p := p) (by rw [hl]; exact List.mem_cons_self ..)
  have hw := (hT _ hr).1
  cases τ with
  | any => rw [show wt t .any p = (free p = true) from rfl, hf] at hw; cases hw
  | int =>
    rcases hw with h | h
    · rw [hf] at h; cases h
    · exact absurd h hk
  | dat d f =>
    rcases hw with h | ⟨h1, ⟨a, h2⟩, _⟩
    · rw [hf] at h; cases h
    · obtain ⟨D, hD⟩ := hok.get _ _ h2
      exact ⟨d, f, a, D, rfl, h1, h2, hD⟩
theorem absent_none {t : Tab} {ds : List DataSig} {τ : Ty} {τs : List Ty} {rows : List (List Pat)} (hok : TabOk t ds) (hT : rowsT t (τ :: τs) rows) (h : absentF t ds (first rows) = none) : ∃ d f D, Full t ds τ rows d f D := by
  cases hl : first rows with
  | nil => rw [hl] at h; cases h
  | cons p l =>
    rw [hl] at h
    by_cases hk : p.kind = 2
    · rw [absentF, if_pos hk] at h; cases h
    rw [absentF, if_neg hk, Option.map_eq_none_iff] at h
    obtain ⟨d, f, a, D, rfl, h3, ht, hD⟩ := first_head hok hT hl hk
    have hc : consAt t ds p.name = D.cons := by simp only [consAt, ht, hD]
    rw [hc, List.find?_eq_none] at h
    refine ⟨d, f, D, rfl, hD, by rw [hl]; exact hc, fun k hkm => ?_⟩
    have h4 := h k hkm
    simp only [lacks, Bool.not_eq_true, Bool.not_eq_false', List.any_eq_true, decide_eq_true_eq] at h4
    obtain ⟨q, hq, hqn⟩ := h4
    obtain ⟨tl, hr, hf⟩ := first_mem (rows := rows) (p := q) (by rw [hl]; exact hq)
    obtain ⟨a', ha⟩ := hok.put d D k hD hkm
    refine ⟨q, tl, hr, hf, hqn, ?_, a', ha⟩
    rcases (hT _ hr).1 with h5 | ⟨_, ⟨a2, h5⟩, h6, _⟩
    · rw [hf] at h5; cases h5
    · rw [hqn, ha] at h5
      injection h5 with h5
      injection h5 with _ h5
      injection h5 with _ h5
      omega
theorem missLoop_len {rc : List (List Pat) → Nat → List Pat × Bool} {rows : List (List Pat)} {c : Nat} (h : ∀ rows c, (rc rows c).1.length ≤ c ∧ ((rc rows c).2 = true → (rc rows c).1.length = c)) : ∀ ks, (missLoop rc rows c ks).1.length ≤ c + 1 ∧ ((missLoop rc rows c ks).2 = true → (missLoop rc rows c ks).1.length = c + 1)
  | [] => ⟨Nat.zero_le _, fun h => by cases h⟩
  | k :: ks => by
    simp only [missLoop]
    cases hb : (rc (narrow k.name k.args.length rows) (k.args.length + c)).2 with
    | false => exact missLoop_len h ks
    | true =>
      have := (h (narrow k.name k.args.length rows) (k.args.length + c)).2 hb
      simp only [cond_true, List.length_cons, List.length_drop]
      exact ⟨by omega, fun _ => by omega⟩
theorem missF_len (t : Tab) (ds : List DataSig) : ∀ f rows c, (missF t ds f rows c).1.length ≤ c ∧ ((missF t ds f rows c).2 = true → (missF t ds f rows c).1.length = c)
  | 0, rows, c => ⟨Nat.zero_le _, fun h => by cases h⟩
  | f + 1, rows, 0 => ⟨Nat.le_refl _, fun _ => rfl⟩
  | f + 1, rows, c + 1 => by
    rw [missF]
    cases absentF t ds (first rows) with
    | none => exact missLoop_len (missF_len t ds f) _
    | some p =>
      have := missF_len t ds f (rest rows) c
      exact ⟨by simp only [List.length_cons]; omega, fun h => by simp only [List.length_cons]; rw [this.2 h]⟩
end Go.PM
namespace Go.PM
open Go.VL
mutual
def cP : Pat → Nat
  | .mk k s n as => 1 + cL as
def cL : List Pat → Nat
  | [] => 0
  | p :: ps => cP p + cL ps
end
theorem cP_eq (p : Pat) : cP p = 1 + cL p.args := by cases p; rw [cP]; rfl
theorem cL_get : ∀ {l : List Pat} {n : Nat} {q : Pat}, l[n]? = some q → cP q ≤ cL l
  | [], n, q, h => by simp at h
  | p :: l, 0, q, h => by simp at h; subst h; simp [cL]
  | p :: l, n + 1, q, h => by
    have := cL_get (l := l) (n := n) (q := q) (by simpa using h)
    simp only [cL]
    omega
theorem cL_filter (f : Pat → Bool) : ∀ l, cL (l.filter f) ≤ cL l
  | [] => Nat.le_refl _
  | p :: l => by
    have := cL_filter f l
    rw [List.filter_cons]
    split <;> simp only [cL] <;> omega
theorem below_snoc (l : List Pat) (q : Pat) (name : Str) (n : Nat) : belowF (l ++ [q]) name n = belowF l name n ++ (if q.name = name then [q.args.getD n anyP] else []) := by
  unfold belowF
  rw [List.filterMap_append]
  by_cases h : q.name = name <;> simp [h]
theorem below_len (m : List Pat) (name : Str) (n : Nat) : (belowF m name n).length ≤ m.length := List.length_filterMap_le _ _
theorem below_c {name : Str} {n : Nat} : ∀ {m : List Pat}, (∀ q ∈ m, q.name = name → n < q.args.length) → cL (belowF m name n) + (belowF m name n).length ≤ cL m
  | [], _ => Nat.le_refl _
  | q :: m, h => by
    have ih := below_c (m := m) fun q hq => h q (List.mem_cons_of_mem _ hq)
    by_cases hn : q.name = name
    · have hlt := h q (List.mem_cons_self ..) hn
      have h1 : belowF (q :: m) name n = q.args.getD n anyP :: belowF m name n := by simp [belowF, hn]
      have h2 : q.args[n]? = some (q.args.getD n anyP) := by simp [hlt]
      have h3 := cL_get h2
      have h4 := cP_eq q
      rw [h1]
      simp only [cL, List.length_cons]
      omega
    · have h1 : belowF (q :: m) name n = belowF m name n := by simp [belowF, hn]
      rw [h1]
      simp only [cL]
      omega
theorem below_mem {name : Str} {n : Nat} {m : List Pat} {x : Pat} (h : x ∈ belowF m name n) : ∃ q ∈ m, q.name = name ∧ x = q.args.getD n anyP := by
  obtain ⟨q, hq, hx⟩ := List.mem_filterMap.1 h
  split at hx
  · rename_i hn
    injection hx with hx
    exact ⟨q, hq, hn, hx.symm⟩
  · cases hx
theorem patsF_all {t : Tab} : ∀ {l : List Pat}, patsF t l = 0 → ∀ q ∈ l, patF t q = 0
  | [], _, q, h => by cases h
  | p :: l, h, q, hq => by
    rw [patsF] at h
    by_cases hp : patF t p = 0
    · rw [if_neg (by simpa using hp)] at h
      rcases List.mem_cons.1 hq with rfl | hq
      · exact hp
      · exact patsF_all h q hq
    · rw [if_pos hp] at h
      exact absurd h hp
theorem patF_con {t : Tab} {p : Pat} (h : patF t p = 0) (hf : free p = false) : p.kind = 2 ∨ (p.kind = 3 ∧ ∃ c, tget t p.name = some c ∧ p.args.length = c.2.2 ∧ ∀ q ∈ p.args, patF t q = 0) := by
  obtain ⟨k, s, n, as⟩ := p
  simp only [free, Pat.kind, Bool.or_eq_false_iff, beq_eq_false_iff_ne, ne_eq] at hf
  rw [patF, if_neg (by simp [hf])] at h
  by_cases h2 : k = 2
  · exact .inl h2
  · rw [if_neg h2] at h
    by_cases h3 : k = 3
    · rw [if_pos h3] at h
      refine .inr ⟨h3, ?_⟩
      simp only [Pat.name, Pat.args]
      cases hc : tget t s with
      | none => rw [hc] at h; cases h
      | some c =>
        rw [hc] at h
        by_cases hl : as.length = c.2.2
        · refine ⟨c, rfl, hl, ?_⟩
          simp [hl] at h
          exact patsF_all h
        · simp [hl] at h
    · rw [if_neg h3] at h
      cases h
theorem all_snoc {α : Type} {p : α → Bool} {l : List α} {k : Nat} {x : α} (h : l[k]? = some x) (ha : (l.take k).all p = true) (hp : p x = true) : (l.take (k + 1)).all p = true := by
  rw [take_snoc h, List.all_append, ha]
  simp [hp]
theorem sameKind_no {t : Tab} {m : List Pat} {k : Nat} {p : Pat} (h : m[k]? = some p) (hk : kindF t p ≠ kindF t (m.headD anyP)) : sameKind t m = false := by
  unfold sameKind
  rw [List.all_eq_false]
  exact ⟨p, List.mem_of_getElem? h, by simpa using hk⟩
/-- Of a column of one type: same names, as many arguments. -/
theorem same_args {t : Tab} {m : List Pat} {p q : Pat} (hs : sameKind t m = true) (hok : ∀ p ∈ m, patF t p = 0) (hf : ∀ p ∈ m, free p = false) (hp : p ∈ m) (hq : q ∈ m) (hk : p.kind = 3) (hn : q.name = p.name) :
    q.kind = 3 ∧ q.args.length = p.args.length ∧ ∀ x ∈ q.args, patF t x = 0 := by
  unfold sameKind at hs
  rw [List.all_eq_true] at hs
  have h1 := hs p hp
  have h2 := hs q hq
  simp only [decide_eq_true_eq] at h1 h2
  rcases patF_con (hok p hp) (hf p hp) with h3 | ⟨_, c, hc, hl, _⟩
  · rw [h3] at hk; cases hk
  rcases patF_con (hok q hq) (hf q hq) with h3 | ⟨h4, c', hc', hl', ha⟩
  · exfalso
    have e1 : kindF t p = c.1 := by simp [kindF, hk, hc]
    have e2 : kindF t q = -1 := by simp [kindF, h3]
    omega
  · rw [hn, hc] at hc'
    injection hc' with hc'
    subst hc'
    exact ⟨h4, by omega, ha⟩
structure AgreePre (t : Tab) (n : Nat) (l : List Pat) : Prop where
  ne : l ≠ []
  len : l.length ≤ 1000
  ok : ∀ p ∈ l, patF t p = 0
  fuel : cL l < n
theorem nf_mem {l : List Pat} {p : Pat} (h : p ∈ l.filter nf) : p ∈ l ∧ free p = false := by
  obtain ⟨h1, h2⟩ := List.mem_filter.1 h
  exact ⟨h1, by simpa [nf] using h2⟩
theorem AgreePre.below {t : Tab} {f n : Nat} {l m : List Pat} {p : Pat} (h : AgreePre t (f + 1) l) (hm : m = l.filter nf) (hs : sameKind t m = true) (hp : p ∈ m) (hk : p.kind = 3) (hn : n < p.args.length) : AgreePre t f (belowF m p.name n) := by
  have hok : ∀ p ∈ m, patF t p = 0 := fun p hp => h.ok p (nf_mem (hm ▸ hp)).1
  have hf : ∀ p ∈ m, free p = false := fun p hp => (nf_mem (hm ▸ hp)).2
  have hlen := below_len m p.name n
  have hml : m.length ≤ l.length := by rw [hm]; exact List.length_filter_le _ _
  have hpos : 0 < (belowF m p.name n).length := by
    have : p.args.getD n anyP ∈ belowF m p.name n := List.mem_filterMap.2 ⟨p, hp, by simp⟩
    exact List.length_pos_of_mem this
  have hc := below_c (name := p.name) (n := n) (m := m) fun q hq hqn => by
    have := (same_args hs hok hf hp hq hk hqn).2.1
    omega
  have hcm : cL m ≤ cL l := by rw [hm]; exact cL_filter nf l
  have := h.fuel
  have := h.len
  refine ⟨fun e => (by rw [e] at hpos; cases hpos), by omega, fun x hx => ?_, by omega⟩
  obtain ⟨q, hq, hqn, rfl⟩ := below_mem hx
  have h1 := same_args hs hok hf hp hq hk hqn
  refine h1.2.2 _ ?_
  have hl : n < q.args.length := by omega
  have : q.args[n]? = some (q.args.getD n anyP) := by simp [hl]
  exact List.mem_of_getElem? this
theorem pats_fits (l : List Pat) : ∀ y ∈ l.map patV, y.fits 4 = true ∧ ((∃ ls, y = .agg ls) ∨ y.leaf = true) := fun y hy => by
  obtain ⟨p, _, rfl⟩ := List.mem_map.1 hy
  rw [patV_eq]
  exact ⟨rfl, .inl ⟨_, rfl⟩⟩
end Go.PM
namespace Go.PM
open Go.VL
def errRows (t : Tab) : List (List Pat) → Int
  | [] => 0
  | r :: rs => if patsF t r ≠ 0 then patsF t r else errRows t rs
def colF (rows : List (List Pat)) (n : Nat) : List Pat := rows.map fun r => r.getD n anyP
def colsLoop (t : Tab) (rows : List (List Pat)) : Nat → Nat → Bool
  | _, 0 => true
  | n, k + 1 => agreeF t 401 (colF rows n) && colsLoop t rows (n + 1) k
def width (rows : List (List Pat)) : Nat := (rows.headD []).length
def sameLen (rows : List (List Pat)) (r : List Pat) : Bool := decide (r.length = width rows)
def checkT (t : Tab) (rows : List (List Pat)) : Int := if rows.all (sameLen rows) = false then 3 else if errRows t rows ≠ 0 then errRows t rows else if colsLoop t rows 0 (width rows) = false then 10 else 0
def checkF (ds : List DataSig) (rows : List (List Pat)) : Int := if small ds rows = false then 2 else match buildF 0 ds [] with
  | none => 7
  | some t => checkT t rows
def cR : List (List Pat) → Nat
  | [] => 0
  | r :: rs => cL r + cR rs
theorem sizeLoop_cL {rc : List Pat → Int → Bool × Int} (h : ∀ l m, (rc l m).1 = true → (rc l m).2 = m + cL l) : ∀ (l : List Pat) (m : Int), (sizeLoop rc l m).1 = true → (sizeLoop rc l m).2 = m + cL l
  | [], m, _ => by simp [sizeLoop, cL]
  | p :: l, m, h1 => by
    simp only [sizeLoop] at h1 ⊢
    by_cases hm : m + 1 > 400
    · rw [if_pos hm] at h1; cases h1
    rw [if_neg hm] at h1 ⊢
    cases hb : (rc p.args (m + 1)).1 with
    | false => rw [hb] at h1; cases h1
    | true =>
      rw [hb, cond_true] at h1
      have h2 := h p.args (m + 1) hb
      have h3 := sizeLoop_cL h l _ h1
      have h4 := cP_eq p
      rw [cond_true, h3, h2]
      simp only [cL]
      omega
theorem sizeF_cL : ∀ (n : Nat) (l : List Pat) (m : Int), (sizeF n l m).1 = true → (sizeF n l m).2 = m + cL l
  | 0, l, m, h => by
    have : l = [] := by simpa [sizeF] using h
    subst this
    simp [sizeF, cL]
  | n + 1, l, m, h => sizeLoop_cL (sizeF_cL n) l m h
theorem smallRows_cR : ∀ (rows : List (List Pat)) (m : Int), 0 ≤ m → m ≤ 400 → small.smallRows rows m = true → m + cR rows ≤ 400 ∧ ∀ r ∈ rows, r.length ≤ 16
  | [], m, _, h4, _ => ⟨by simpa [cR] using h4, fun r h => by cases h⟩
  | r :: rs, m, h0, h4, h => by
    simp only [small.smallRows] at h
    by_cases hl : r.length > 16
    · rw [if_pos hl] at h; cases h
    rw [if_neg hl] at h
    cases hb : (sizeF 20 r m).1 with
    | false => rw [hb] at h; cases h
    | true =>
      rw [hb, cond_true] at h
      have h1 := sizeF_cL 20 r m hb
      have h2 := sizeF_le 20 r m h0 h4
      have h3 := smallRows_cR rs _ (by omega) (h2.2 hb) h
      refine ⟨by simp only [cR]; omega, fun x hx => ?_⟩
      rcases List.mem_cons.1 hx with rfl | hx
      · omega
      · exact h3.2 x hx
structure Small (ds : List DataSig) (rows : List (List Pat)) : Prop where
  nodes : cR rows ≤ 400
  cols : ∀ r ∈ rows, r.length ≤ 16
  rows : rows.length ≤ 64
  cons : ∀ d ∈ ds, d.cons.length ≤ 256
theorem small_of {ds : List DataSig} {rows : List (List Pat)} (h : small ds rows = true) : Small ds rows := by
  unfold small at h
  simp only [Bool.and_eq_true, decide_eq_true_eq, Bool.not_eq_true', List.any_eq_false] at h
  obtain ⟨⟨h1, h2⟩, h3⟩ := h
  have h4 := smallRows_cR rows 0 (Int.le_refl _) (by omega) h1
  exact ⟨by omega, h4.2, h2, fun d hd => by have := h3 d hd; omega⟩
theorem col_c : ∀ (rows : List (List Pat)) (n : Nat), (∀ r ∈ rows, n < r.length) → cL (colF rows n) ≤ cR rows
  | [], n, _ => Nat.le_refl _
  | r :: rs, n, h => by
    have ih := col_c rs n fun r hr => h r (List.mem_cons_of_mem _ hr)
    have hlt := h r (List.mem_cons_self ..)
    have h2 : r[n]? = some (r.getD n anyP) := by simp [hlt]
    have := cL_get h2
    simp only [colF, List.map_cons, cL, cR] at ih ⊢
    omega
theorem errRows_all {t : Tab} : ∀ {rows : List (List Pat)}, errRows t rows = 0 → ∀ r ∈ rows, patsF t r = 0
  | [], _, r, h => by cases h
  | r :: rs, h, x, hx => by
    rw [errRows] at h
    by_cases hr : patsF t r = 0
    · rw [if_neg (by simpa using hr)] at h
      rcases List.mem_cons.1 hx with rfl | hx
      · exact hr
      · exact errRows_all h x hx
    · rw [if_pos hr] at h
      exact absurd h hr
theorem same_all {rows : List (List Pat)} (h : rows.all (sameLen rows) = true) : ∀ r ∈ rows, r.length = width rows := fun r hr => by
  have := List.all_eq_true.1 h r hr
  simpa [sameLen] using this
theorem agreePre_col {ds : List DataSig} {t : Tab} {rows : List (List Pat)} {n : Nat} (hs : Small ds rows) (ha : rows.all (sameLen rows) = true) (he : errRows t rows = 0) (hr : rows ≠ []) (hn : n < width rows) : AgreePre t 401 (colF rows n) := by
  have hlen : ∀ r ∈ rows, n < r.length := fun r h => by rw [same_all ha r h]; exact hn
  have h1 := col_c rows n hlen
  have h2 := hs.nodes
  have h3 := hs.rows
  refine ⟨by simpa [colF] using hr, by simp only [colF, List.length_map]; omega, fun p hp => ?_, by omega⟩
  obtain ⟨r, hrm, rfl⟩ := List.mem_map.1 hp
  have hlt := hlen r hrm
  have h4 : r[n]? = some (r.getD n anyP) := by simp [hlt]
  exact patsF_all (errRows_all he r hrm) _ (List.mem_of_getElem? h4)
theorem col_snoc (l : List (List Pat)) (r : List Pat) (n : Nat) : colF (l ++ [r]) n = colF l n ++ [r.getD n anyP] := by simp [colF]
end Go.PM
namespace Go.PM
open Go.VL
@[irreducible] def fuel0 : Nat := 400000
theorem fuel0_eq : fuel0 = 400000 := by unfold fuel0; rfl
def missBad (rows : List (List Pat)) (c : Int) : Prop := c < 0 ∨ 16 < c ∨ (rows ≠ [] ∧ c ≠ width rows)
instance (rows : List (List Pat)) (c : Int) : Decidable (missBad rows c) := by unfold missBad; exact (inferInstanceAs (Decidable (_ ∨ _ ∨ (_ ∧ _))))
def missOut (ds : List DataSig) (rows : List (List Pat)) (c : Int) : List Pat × Int :=
  if checkF ds rows = 0 then (if missBad rows c then ([], 1) else match buildF 0 ds [] with
    | none => ([], 0)
    | some t => (bif (missF t ds fuel0 rows c.toNat).2 then (missF t ds fuel0 rows c.toNat).1 else [], 0))
  else ([], checkF ds rows)
theorem missOut_err {ds : List DataSig} {rows : List (List Pat)} {c : Int} (h : checkF ds rows ≠ 0) : missOut ds rows c = ([], checkF ds rows) := by rw [missOut, if_neg h]
theorem missOut_bad {ds : List DataSig} {rows : List (List Pat)} {c : Int} (h : checkF ds rows = 0) (hb : missBad rows c) : missOut ds rows c = ([], 1) := by rw [missOut, if_pos h, if_pos hb]
theorem missOut_ok {ds : List DataSig} {rows : List (List Pat)} {c : Int} {t : Tab} (h : checkF ds rows = 0) (hb : ¬ missBad rows c) (ht : buildF 0 ds [] = some t) : missOut ds rows c = (bif (missF t ds fuel0 rows c.toNat).2 then (missF t ds fuel0 rows c.toNat).1 else [], 0) := by rw [missOut, if_pos h, if_neg hb, ht]
structure MissPre (t : Tab) (f : Nat) (rows : List (List Pat)) (τs : List Ty) : Prop where
  ty : rowsT t τs rows
  len : rows.length ≤ 1000
  fuel : τs.length + 401 * wR rows < f
/-- Rows that pass the check have types. -/
def CheckTy (ds : List DataSig) : Prop := ∀ rows (c : Int) t, checkF ds rows = 0 → buildF 0 ds [] = some t → ¬ missBad rows c → TabOk t ds ∧ ∃ τs : List Ty, (τs.length : Int) = c ∧ MissPre t fuel0 rows τs
end Go.PM
