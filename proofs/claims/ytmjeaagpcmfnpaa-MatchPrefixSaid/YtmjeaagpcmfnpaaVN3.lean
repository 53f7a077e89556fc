/- Matching, the plain law: what a compiled tree answers. -/
import Derived.Test.YtmjeaagpcmfnpaaVN2
set_option linter.unusedVariables false
namespace Go.PM
open Go.VL
mutual
def toVal : Pat → Val
  | .mk k s n as => if k = 2 then .int n else .con s (toVals as)
def toVals : List Pat → List Val
  | [] => []
  | p :: l => toVal p :: toVals l
end
theorem toVals_map : ∀ l : List Pat, toVals l = l.map toVal
  | [] => by rw [toVals]; rfl
  | p :: l => by rw [toVals, toVals_map l]; rfl
theorem toVal_int {p : Pat} (h : p.kind = 2) : toVal p = .int p.n := by
  obtain ⟨k, s, n, as⟩ := p
  rw [toVal, if_pos (show k = 2 from h)]
  rfl
theorem toVal_con {p : Pat} (h : p.kind = 3) : toVal p = .con p.name (p.args.map toVal) := by
  obtain ⟨k, s, n, as⟩ := p
  have hk : k = 3 := h
  rw [toVal, if_neg (by omega), toVals_map]
  rfl
mutual
def knownP : Pat → Bool
  | .mk k s n as => (decide (k = 2) || decide (k = 3)) && knownL as
def knownL : List Pat → Bool
  | [] => true
  | p :: l => knownP p && knownL l
end
theorem knownP_eq (p : Pat) : knownP p = ((decide (p.kind = 2) || decide (p.kind = 3)) && knownL p.args) := by
  obtain ⟨k, s, n, as⟩ := p
  rw [knownP]
  rfl
theorem knownL_mem : ∀ {l : List Pat}, knownL l = true ↔ ∀ p ∈ l, knownP p = true
  | [] => by simp [knownL]
  | p :: l => by
    rw [knownL, Bool.and_eq_true, knownL_mem]
    simp
theorem known_nf {p : Pat} (h : knownP p = true) : free p = false ∧ (p.kind = 2 ∨ p.kind = 3) ∧ knownL p.args = true := by
  rw [knownP_eq, Bool.and_eq_true, Bool.or_eq_true, decide_eq_true_eq, decide_eq_true_eq] at h
  refine ⟨?_, h.1, h.2⟩
  rcases h.1 with h | h <;> simp [free, h]
/-! ### Steps of the search for the first row -/
section
variable {t : Tab} {ds : List DataSig} {rows : List MRow} {τs : List Ty} {k : Nat} {p0 : Pat}
theorem sem_int {τ : Ty} (hT : ∀ r ∈ rows, rowT t τs r.2) (ha : AtHead t rows τs k p0 τ) (hk : p0.kind = 2) {vs : List Val} {n : Int} (hl : vs.length = τs.length) (hv : vs[k]? = some (.int n)) (o : Option Nat) : Sem (narrowM k (isInt n) 0 rows) (vs.take k ++ (vs.drop (k + 1) ++ [])) o ↔ Sem rows vs o := by
  have h2 := nf_words hT ha hk
  refine sem_narrow (as := []) hv rfl (fun r hr => by rw [(hT r hr).len, hl]) (fun r hr p hp hpf => ?_) o
  have hk2 := h2 r hr p hp hpf
  rw [if_neg (by omega)]
  refine ⟨fun hi => ⟨fun _ => rfl, fun _ => (matP_eq _ _).2 (.inr (.inl ⟨hk2, ?_⟩))⟩, fun hi hm => ?_⟩
  · have e : p.n = _ := of_decide_eq_true hi
    rw [e]
  · rcases (matP_eq _ _).1 hm with h | ⟨_, h⟩ | ⟨_, _, h, _⟩
    · rw [hpf] at h; cases h
    · injection h with h
      rw [isInt, decide_eq_false_iff_not] at hi
      exact hi h.symm
    · cases h
theorem sem_word_no {τ : Ty} (hT : ∀ r ∈ rows, rowT t τs r.2) (ha : AtHead t rows τs k p0 τ) (hk : p0.kind = 2) {vs : List Val} {n : Int} {ws : List Int} (hl : vs.length = τs.length) (hv : vs[k]? = some (.int n)) (hall : ∀ r ∈ rows, free (r.2.getD k anyP) = true ∨ wordAt k r ∈ ws) (hn : n ∉ ws) (o : Option Nat) : Sem (narrowM k (fun _ => false) 0 rows) (vs.take k ++ (vs.drop (k + 1) ++ [])) o ↔ Sem rows vs o := by
  have h2 := nf_words hT ha hk
  refine sem_narrow (as := []) hv rfl (fun r hr => by rw [(hT r hr).len, hl]) (fun r hr p hp hpf => ⟨fun h => (by cases h), fun _ hm => ?_⟩) o
  have hg : r.2.getD k anyP = p := by simp [hp]
  rcases hall r hr with h | h
  · rw [hg, hpf] at h; cases h
  · rw [wordAt, hg] at h
    rcases (matP_eq _ _).1 hm with h' | ⟨_, h'⟩ | ⟨h', _⟩
    · rw [hpf] at h'; cases h'
    · injection h' with h'; rw [h'] at hn; exact hn h
    · have := h2 r hr p hp hpf; omega
theorem con_rows {d : Nat} {g : Str → Nat → Ty} (hT : ∀ r ∈ rows, rowT t τs r.2) (ha : AtHead t rows τs k p0 (.dat d g)) : ∀ r ∈ rows, ∀ p, r.2[k]? = some p → free p = false → p.kind = 3 ∧ ∃ a, tget t p.name = some (d, a, p.args.length) := fun r hr p hp hpf => by
  rcases rowT.get (hT r hr) k _ p ha.ty hp with h | ⟨h, h', _⟩
  · rw [hpf] at h; cases h
  · exact ⟨h, h'⟩
theorem sem_con {d : Nat} {g : Str → Nat → Ty} (hT : ∀ r ∈ rows, rowT t τs r.2) (ha : AtHead t rows τs k p0 (.dat d g)) {vs as : List Val} {s : Str} {n : Nat} (hl : vs.length = τs.length) (hal : as.length = n) (hv : vs[k]? = some (.con s as)) (o : Option Nat) : Sem (narrowM k (isCon s) n rows) (vs.take k ++ (vs.drop (k + 1) ++ as)) o ↔ Sem rows vs o := by
  refine sem_narrow hv hal (fun r hr => by rw [(hT r hr).len, hl]) (fun r hr p hp hpf => ?_) o
  obtain ⟨hk3, a, ht⟩ := con_rows hT ha r hr p hp hpf
  rw [if_pos hk3]
  refine ⟨fun hi => ?_, fun hi hm => ?_⟩
  · have hn : p.name = _ := of_decide_eq_true hi
    rw [matP_eq, hn]
    constructor
    · rintro (h | ⟨_, h⟩ | ⟨_, as', h, h'⟩)
      · rw [hpf] at h; cases h
      · cases h
      · injection h with _ h; subst h; exact h'
    · intro h; exact .inr (.inr ⟨hk3, _, rfl, h⟩)
  · rw [isCon, decide_eq_false_iff_not] at hi
    rcases (matP_eq _ _).1 hm with h | ⟨_, h⟩ | ⟨_, as', h, _⟩
    · rw [hpf] at h; cases h
    · cases h
    · injection h with h _; exact hi h.symm
theorem sem_con_no {d : Nat} {g : Str → Nat → Ty} (hT : ∀ r ∈ rows, rowT t τs r.2) (ha : AtHead t rows τs k p0 (.dat d g)) {vs as : List Val} {s : Str} (hl : vs.length = τs.length) (hc : hasCon rows k s = false) (hv : vs[k]? = some (.con s as)) (o : Option Nat) : Sem (narrowM k (fun _ => false) 0 rows) (vs.take k ++ (vs.drop (k + 1) ++ [])) o ↔ Sem rows vs o := by
  refine sem_narrow (as := []) hv rfl (fun r hr => by rw [(hT r hr).len, hl]) (fun r hr p hp hpf => ⟨fun h => (by cases h), fun _ hm => ?_⟩) o
  have hg : r.2.getD k anyP = p := by simp [hp]
  rcases (matP_eq _ _).1 hm with h | ⟨_, h⟩ | ⟨_, as', h, _⟩
  · rw [hpf] at h; cases h
  · cases h
  · injection h with h _
    have := List.any_eq_false.1 hc r hr
    simp only [hg, hpf, isCon] at this
    simp [h] at this
end
/-! ### The places -/
def atG (v : Pat) (vals : List Pat) : List Int → Option Pat
  | [] => some v
  | y :: ys => match vals[y.toNat]? with
    | some p => atG p p.args ys
    | none => none
def atF (vals : List Pat) (path : List Int) : Option Pat := atG anyP vals path
theorem atG_snoc : ∀ (path : List Int) (v : Pat) (vals : List Pat) (y : Int), path ≠ [] → atG v vals (path ++ [y]) = (match atG v vals path with | some p => p.args[y.toNat]? | none => none)
  | [], v, vals, y, h => absurd rfl h
  | [x], v, vals, y, _ => by
    show atG v vals [x, y] = _
    rw [atG, atG]
    cases hx : vals[x.toNat]? with
    | none => rfl
    | some p =>
      simp only [atG]
      cases p.args[y.toNat]? <;> rfl
  | x :: x' :: path, v, vals, y, _ => by
    rw [List.cons_append, atG, atG]
    cases hx : vals[x.toNat]? with
    | none => rfl
    | some p => exact atG_snoc (x' :: path) p p.args y (by simp)
def AtL (vals : List Pat) : List (List Int) → List Pat → Prop
  | [], [] => True
  | a :: as, p :: ps => atF vals a = some p ∧ AtL vals as ps
  | _, _ => False
theorem AtL.len {vals : List Pat} : ∀ {as : List (List Int)} {ps : List Pat}, AtL vals as ps → as.length = ps.length
  | [], [], _ => rfl
  | a :: as, p :: ps, h => by simp [h.2.len]
  | [], _ :: _, h => h.elim
  | _ :: _, [], h => h.elim
theorem AtL.get {vals : List Pat} : ∀ {as : List (List Int)} {ps : List Pat} {i : Nat} {a : List Int} {p : Pat}, AtL vals as ps → as[i]? = some a → ps[i]? = some p → atF vals a = some p
  | a :: as, p :: ps, 0, _, _, h, h1, h2 => by simp at h1 h2; subst h1; subst h2; exact h.1
  | a :: as, p :: ps, i + 1, _, _, h, h1, h2 => h.2.get (i := i) (by simpa using h1) (by simpa using h2)
  | [], [], i, _, _, _, h1, _ => by simp at h1
  | [], _ :: _, _, _, _, h, _, _ => h.elim
  | _ :: _, [], _, _, _, h, _, _ => h.elim
theorem AtL.of_get {vals : List Pat} : ∀ {as : List (List Int)} {ps : List Pat}, as.length = ps.length → (∀ (i : Nat) a p, as[i]? = some a → ps[i]? = some p → atF vals a = some p) → AtL vals as ps
  | [], [], _, _ => trivial
  | a :: as, p :: ps, hl, h => ⟨h 0 a p rfl rfl, AtL.of_get (by simpa using hl) fun i a p h1 h2 => h (i + 1) a p (by simpa using h1) (by simpa using h2)⟩
  | [], _ :: _, hl, _ => by simp at hl
  | _ :: _, [], hl, _ => by simp at hl
theorem AtL.append {vals : List Pat} : ∀ {as bs : List (List Int)} {ps qs : List Pat}, AtL vals as ps → AtL vals bs qs → AtL vals (as ++ bs) (ps ++ qs)
  | [], _, [], _, _, k => k
  | a :: as, _, p :: ps, _, h, k => ⟨h.1, h.2.append k⟩
  | [], _, _ :: _, _, h, _ => h.elim
  | _ :: _, _, [], _, h, _ => h.elim
theorem AtL.take {vals : List Pat} {as : List (List Int)} {ps : List Pat} (k : Nat) (h : AtL vals as ps) : AtL vals (as.take k) (ps.take k) :=
  .of_get (by rw [List.length_take, List.length_take, h.len]) fun i a p h1 h2 => by
    rw [List.getElem?_take] at h1 h2
    split at h1
    · rename_i hlt
      rw [if_pos hlt] at h2
      exact h.get h1 h2
    · cases h1
theorem AtL.drop {vals : List Pat} {as : List (List Int)} {ps : List Pat} (k : Nat) (h : AtL vals as ps) : AtL vals (as.drop k) (ps.drop k) :=
  .of_get (by rw [List.length_drop, List.length_drop, h.len]) fun i a p h1 h2 => by
    rw [List.getElem?_drop] at h1 h2
    exact h.get h1 h2
/-- The values behind a step. -/
def newVals (k : Nat) (as vs : List Pat) : List Pat := vs.take k ++ (vs.drop (k + 1) ++ as)
theorem AtL.child {vals : List Pat} {paths : List (List Int)} {vs as : List Pat} {k many : Nat} {path : List Int} {p : Pat} (h : AtL vals paths vs) (hk : paths[k]? = some path) (hp : vs[k]? = some p) (hne : path ≠ []) (ha : as = p.args ∨ as = []) (hm : as.length = many) : AtL vals (belowM paths k many) (newVals k as vs) := by
  have hpg : paths.getD k [] = path := by simp [hk]
  unfold belowM newVals
  rw [hpg]
  refine (h.take k).append ((h.drop (k + 1)).append (.of_get (by simp [hm]) fun i a q h1 h2 => ?_))
  have hi := (List.getElem?_eq_some_iff.1 h2).1
  simp only [List.getElem?_map, List.getElem?_range (show i < many by omega), Option.map_some, Option.some.injEq] at h1
  subst h1
  have hat := h.get hk hp
  unfold atF at hat ⊢
  rw [atG_snoc path _ _ _ hne, hat]
  rcases ha with rfl | rfl
  · exact h2
  · simp at hi
/-! ### What a tree answers -/
def pickI (i : Int) (l : Nat) : Nat := if i < 0 then l - 1 else i.toNat
inductive RunP (t : List MNode) (vals : List Pat) : Nat → Int → Prop where
  | fail {k : Nat} {n : MNode} : t[k]? = some n → n.kind = 0 → RunP t vals k (-1)
  | row {k : Nat} {n : MNode} : t[k]? = some n → n.kind = 1 → RunP t vals k n.row
  | word {k j : Nat} {n : MNode} {p : Pat} {r : Int} : t[k]? = some n → n.kind = 3 → atF vals n.path = some p → p.kind = 2 → n.kids[pickI (idxOf (fun x => decide (p.n = x)) n.words) n.kids.length]? = some (j : Int) → j < k → RunP t vals j r → RunP t vals k r
  | con {k j : Nat} {n : MNode} {p : Pat} {r : Int} : t[k]? = some n → n.kind = 2 → atF vals n.path = some p → p.kind = 3 → n.kids[pickI (idxOf (fun x => decide (p.name = x)) n.names) n.kids.length]? = some (j : Int) → j < k → RunP t vals j r → RunP t vals k r
theorem RunP.mono {a b : List MNode} {vals : List Pat} (hp : a <+: b) {k : Nat} {r : Int} (h : RunP a vals k r) : RunP b vals k r := by
  have hg : ∀ {i : Nat} {n : MNode}, a[i]? = some n → b[i]? = some n := fun hi => by
    obtain ⟨c, rfl⟩ := hp
    rw [List.getElem?_append_left (List.getElem?_eq_some_iff.1 hi).1]
    exact hi
  induction h with
  | fail h1 h2 => exact .fail (hg h1) h2
  | row h1 h2 => exact .row (hg h1) h2
  | word h1 h2 h3 h4 h5 h6 _ ih => exact .word (hg h1) h2 h3 h4 h5 h6 ih
  | con h1 h2 h3 h4 h5 h6 _ ih => exact .con (hg h1) h2 h3 h4 h5 h6 ih
theorem RunP.back {a b : List MNode} {vals : List Pat} (hp : a <+: b) {k : Nat} {r : Int} (h : RunP b vals k r) : k < a.length → RunP a vals k r := by
  have hg : ∀ {i : Nat} {n : MNode}, i < a.length → b[i]? = some n → a[i]? = some n := fun hi hb => by
    obtain ⟨c, rfl⟩ := hp
    rwa [List.getElem?_append_left hi] at hb
  induction h with
  | fail h1 h2 => exact fun hk => .fail (hg hk h1) h2
  | row h1 h2 => exact fun hk => .row (hg hk h1) h2
  | word h1 h2 h3 h4 h5 h6 _ ih => exact fun hk => .word (hg hk h1) h2 h3 h4 h5 h6 (ih (by omega))
  | con h1 h2 h3 h4 h5 h6 _ ih => exact fun hk => .con (hg hk h1) h2 h3 h4 h5 h6 (ih (by omega))
def oInt : Option Nat → Int
  | none => -1
  | some k => k
/-- Which kid: one of those that were listed, or the last. -/
theorem pick_kid {α β : Type} {ys : List (β × Nat)} {f : β → α} {q : α → Bool} {z : Int} : (∃ w ∈ ys, q (f w.1) = true ∧ (ys.map (fun w => (w.2 : Int)) ++ [z])[pickI (idxOf q (ys.map fun w => f w.1)) (ys.length + 1)]? = some (w.2 : Int)) ∨
    ((∀ w ∈ ys, q (f w.1) = false) ∧ (ys.map (fun w => (w.2 : Int)) ++ [z])[pickI (idxOf q (ys.map fun w => f w.1)) (ys.length + 1)]? = some z) := by
  rcases idxOf_range q (ys.map fun w => f w.1) with ⟨h1, h2⟩ | ⟨k, x, h1, h2, h3, _⟩
  · refine .inr ⟨fun w hw => ?_, ?_⟩
    · cases hq : q (f w.1) with
      | false => rfl
      | true =>
        have : (ys.map fun w => f w.1).any q = true := List.any_eq_true.2 ⟨f w.1, List.mem_map.2 ⟨w, hw, rfl⟩, hq⟩
        rw [h2] at this
        cases this
    · rw [h1, pickI, if_pos (by decide)]
      simp
  · rw [List.getElem?_map] at h2
    cases hg : ys[k]? with
    | none => rw [hg] at h2; cases h2
    | some w =>
      rw [hg] at h2
      injection h2 with h2
      subst h2
      refine .inl ⟨w, List.mem_of_getElem? hg, h3, ?_⟩
      rw [h1, pickI, if_neg (by omega), Int.toNat_natCast]
      have hk := (List.getElem?_eq_some_iff.1 hg).1
      rw [List.getElem?_append_left (by simpa using hk), List.getElem?_map, hg]
      rfl
end Go.PM
