/- Patterns: types of columns, weights. -/
import Derived.Test.YtmjeaagpcmfnpaaVD3
set_option linter.unusedVariables false
namespace Go.PM
open Go.VL
inductive Ty where
  | any
  | int
  | dat (d : Nat) (f : Str → Nat → Ty)
def wt (t : Tab) : Ty → Pat → Prop
  | .any, p => free p = true
  | .int, p => free p = true ∨ p.kind = 2
  | .dat d f, p => free p = true ∨ (p.kind = 3 ∧ (∃ a, tget t p.name = some (d, a, p.args.length)) ∧ p.args.length ≤ 400 ∧ ∀ i q, p.args[i]? = some q → wt t (f p.name i) q)
theorem wt_free {t : Tab} {p : Pat} (h : free p = true) : ∀ τ : Ty, wt t τ p
  | .any => h
  | .int => .inl h
  | .dat d f => .inl h
def rowT (t : Tab) : List Ty → List Pat → Prop
  | [], [] => True
  | τ :: τs, p :: r => wt t τ p ∧ rowT t τs r
  | _, _ => False
theorem rowT.len {t : Tab} : ∀ {τs : List Ty} {r : List Pat}, rowT t τs r → r.length = τs.length
  | [], [], _ => rfl
  | τ :: τs, p :: r, h => by simp [rowT.len h.2]
  | [], _ :: _, h => h.elim
  | _ :: _, [], h => h.elim
theorem rowT.append {t : Tab} : ∀ {τs σs : List Ty} {r s : List Pat}, rowT t τs r → rowT t σs s → rowT t (τs ++ σs) (r ++ s)
  | [], _, [], _, _, h => h
  | τ :: τs, _, p :: r, _, h, k => ⟨h.1, rowT.append h.2 k⟩
  | [], _, _ :: _, _, h, _ => h.elim
  | _ :: _, _, [], _, h, _ => h.elim
theorem rowT.of_get {t : Tab} : ∀ {τs : List Ty} {r : List Pat}, r.length = τs.length → (∀ (i : Nat) τ p, τs[i]? = some τ → r[i]? = some p → wt t τ p) → rowT t τs r
  | [], [], _, _ => trivial
  | τ :: τs, p :: r, h, k => ⟨k 0 τ p rfl rfl, rowT.of_get (by simpa using h) fun i τ p h1 h2 => k (i + 1) τ p (by simpa using h1) (by simpa using h2)⟩
  | [], _ :: _, h, _ => by simp at h
  | _ :: _, [], h, _ => by simp at h
theorem rowT.anys {t : Tab} (τs : List Ty) : rowT t τs (anysL τs.length) :=
  rowT.of_get (by simp) fun i τ p _ h2 => by
    have : p = anyP := by
      have := List.mem_of_getElem? h2
      exact List.eq_of_mem_replicate this
    subst this
    exact wt_free rfl τ
def argT (g : Nat → Ty) (n : Nat) : List Ty := (List.range n).map g
theorem argT_len (g : Nat → Ty) (n : Nat) : (argT g n).length = n := by simp [argT]
theorem rowT.args {t : Tab} {d : Nat} {f : Str → Nat → Ty} {p : Pat} (h : wt t (.dat d f) p) (hf : free p = false) : rowT t (argT (f p.name) p.args.length) p.args := by
  rcases h with h | ⟨_, _, _, h⟩
  · rw [h] at hf; cases hf
  · refine rowT.of_get (by simp [argT]) fun i τ q h1 h2 => ?_
    have hi := (List.getElem?_eq_some_iff.1 h2).1
    simp only [argT, List.getElem?_map, List.getElem?_range hi, Option.map_some, Option.some.injEq] at h1
    subst h1
    exact h i q h2
structure TabOk (t : Tab) (ds : List DataSig) : Prop where
  get : ∀ s c, tget t s = some c → ∃ D, ds[c.1]? = some D
  put : ∀ (d : Nat) D k, ds[d]? = some D → k ∈ D.cons → ∃ a, tget t k.name = some (d, a, k.args.length)
  small : ∀ (d : Nat) D, ds[d]? = some D → D.cons.length ≤ 1000 ∧ ∀ k ∈ D.cons, k.args.length * 56 ≤ 140737488355328
def rowsT (t : Tab) (τs : List Ty) (rows : List (List Pat)) : Prop := ∀ r ∈ rows, rowT t τs r
theorem rowsT.rest {t : Tab} {τ : Ty} {τs : List Ty} {rows : List (List Pat)} (h : rowsT t (τ :: τs) rows) : rowsT t τs (rest rows) := fun r hr => by
  obtain ⟨x, hx, hxr⟩ := List.mem_filterMap.1 hr
  have := h x hx
  cases x with
  | nil => cases hxr
  | cons p tl =>
    simp only at hxr
    split at hxr
    · injection hxr with hxr; subst hxr; exact this.2
    · cases hxr
theorem rowsT.left {t : Tab} {τ : Ty} {τs : List Ty} {rows : List (List Pat)} {n : Int} (h : rowsT t (τ :: τs) rows) : rowsT t τs (leftF n rows) := fun r hr => by
  obtain ⟨x, hx, hxr⟩ := List.mem_filterMap.1 hr
  have := h x hx
  cases x with
  | nil => cases hxr
  | cons p tl =>
    simp only at hxr
    split at hxr
    · injection hxr with hxr; subst hxr; exact this.2
    · cases hxr
theorem rowsT.narrow {t : Tab} {d a : Nat} {f : Str → Nat → Ty} {τs : List Ty} {rows : List (List Pat)} {name : Str} {n : Nat} (h : rowsT t (.dat d f :: τs) rows) (hn : tget t name = some (d, a, n)) : rowsT t (argT (f name) n ++ τs) (narrow name n rows) := fun r hr => by
  obtain ⟨x, hx, hxr⟩ := List.mem_filterMap.1 hr
  have hT := h x hx
  cases x with
  | nil => cases hxr
  | cons p tl =>
    simp only at hxr
    by_cases hf : free p = true
    · rw [if_pos hf] at hxr
      injection hxr with hxr
      subst hxr
      refine rowT.append ?_ hT.2
      have := rowT.anys (t := t) (argT (f name) n)
      rwa [argT_len] at this
    · rw [if_neg hf] at hxr
      have hf' : free p = false := by simpa using hf
      by_cases hname : p.name = name
      · rw [if_pos hname] at hxr
        injection hxr with hxr
        subst hxr
        refine rowT.append ?_ hT.2
        have h1 := rowT.args hT.1 hf'
        rcases hT.1 with h2 | ⟨_, ⟨a', h2⟩, _⟩
        · exact absurd h2 hf
        · rw [hname, hn] at h2
          injection h2 with h2
          injection h2 with _ h2
          injection h2 with _ h2
          rw [h2, ← hname]
          exact h1
      · rw [if_neg hname] at hxr
        cases hxr

/-! ### Weights -/
mutual
def wP : Pat → Nat
  | .mk k s n as => if k = 0 ∨ k = 1 then 0 else 1 + wL as
def wL : List Pat → Nat
  | [] => 0
  | p :: ps => wP p + wL ps
end
theorem wP_free {p : Pat} (h : free p = true) : wP p = 0 := by
  obtain ⟨k, s, n, as⟩ := p
  simp [free, Pat.kind] at h
  simp [wP, h]
theorem wP_con {p : Pat} (h : free p = false) : wP p = 1 + wL p.args := by
  obtain ⟨k, s, n, as⟩ := p
  simp [free, Pat.kind] at h
  simp [wP, h, Pat.args]
theorem wL_append : ∀ (a b : List Pat), wL (a ++ b) = wL a + wL b
  | [], b => by simp [wL]
  | p :: a, b => by simp [wL, wL_append a b, Nat.add_assoc]
theorem wL_anys : ∀ n, wL (anysL n) = 0
  | 0 => rfl
  | n + 1 => by
    have := wL_anys n
    simp only [anysL, List.replicate_succ, wL] at this ⊢
    rw [this, wP_free rfl]
def wR : List (List Pat) → Nat
  | [] => 0
  | r :: rows => wL r + wR rows
theorem rest_t {p : Pat} {tl : List Pat} {rows : List (List Pat)} (h : free p = true) : rest ((p :: tl) :: rows) = tl :: rest rows := by simp [rest, h]
theorem rest_f {p : Pat} {tl : List Pat} {rows : List (List Pat)} (h : free p = false) : rest ((p :: tl) :: rows) = rest rows := by simp [rest, h]
theorem left_t {p : Pat} {tl : List Pat} {rows : List (List Pat)} {n : Int} (h : (free p || decide (p.n = n)) = true) : leftF n ((p :: tl) :: rows) = tl :: leftF n rows := by
  unfold leftF
  rw [List.filterMap_cons]
  simp only [h, if_true]
theorem left_f {p : Pat} {tl : List Pat} {rows : List (List Pat)} {n : Int} (h : (free p || decide (p.n = n)) = false) : leftF n ((p :: tl) :: rows) = leftF n rows := by
  unfold leftF
  rw [List.filterMap_cons]
  simp only [h]
  rfl
theorem narrow_any {p : Pat} {tl : List Pat} {rows : List (List Pat)} {name : Str} {n : Nat} (h : free p = true) : narrow name n ((p :: tl) :: rows) = (anysL n ++ tl) :: narrow name n rows := by simp [narrow, h]
theorem narrow_hit {p : Pat} {tl : List Pat} {rows : List (List Pat)} {name : Str} {n : Nat} (h : free p = false) (k : p.name = name) : narrow name n ((p :: tl) :: rows) = (p.args ++ tl) :: narrow name n rows := by simp [narrow, h, k]
theorem narrow_off {p : Pat} {tl : List Pat} {rows : List (List Pat)} {name : Str} {n : Nat} (h : free p = false) (k : p.name ≠ name) : narrow name n ((p :: tl) :: rows) = narrow name n rows := by simp [narrow, h, k]
theorem rest_w : ∀ rows, wR (rest rows) ≤ wR rows
  | [] => Nat.le_refl _
  | [] :: rows => by
    have := rest_w rows
    simpa [rest, wR, wL] using this
  | (p :: tl) :: rows => by
    have := rest_w rows
    cases hf : free p with
    | true => rw [rest_t hf]; simp only [wR, wL]; omega
    | false => rw [rest_f hf]; simp only [wR, wL]; omega
theorem left_w (n : Int) : ∀ rows, wR (leftF n rows) ≤ wR rows
  | [] => Nat.le_refl _
  | [] :: rows => by
    have := left_w n rows
    simpa [leftF, wR, wL] using this
  | (p :: tl) :: rows => by
    have := left_w n rows
    cases hf : (free p || decide (p.n = n)) with
    | true => rw [left_t hf]; simp only [wR, wL]; omega
    | false => rw [left_f hf]; simp only [wR, wL]; omega
theorem narrow_w (name : Str) (n : Nat) : ∀ rows, wR (narrow name n rows) ≤ wR rows
  | [] => Nat.le_refl _
  | [] :: rows => by
    have := narrow_w name n rows
    simpa [narrow, wR, wL] using this
  | (p :: tl) :: rows => by
    have := narrow_w name n rows
    cases hf : free p with
    | true => rw [narrow_any hf]; simp only [wR, wL, wL_append, wL_anys]; omega
    | false =>
      have := wP_con hf
      by_cases hn : p.name = name
      · rw [narrow_hit hf hn]; simp only [wR, wL, wL_append]; omega
      · rw [narrow_off hf hn]; simp only [wR, wL]; omega
theorem narrow_w1 (name : Str) (n : Nat) {p : Pat} {tl : List Pat} (hf : free p = false) (hn : p.name = name) : ∀ rows, p :: tl ∈ rows → wR (narrow name n rows) + 1 ≤ wR rows
  | [], h => by cases h
  | r :: rows, h => by
    rcases List.mem_cons.1 h with h | h
    · subst h
      have := narrow_w name n rows
      have := wP_con hf
      rw [narrow_hit hf hn]
      simp only [wR, wL, wL_append]
      omega
    · have ih := narrow_w1 name n hf hn rows h
      have h2 := narrow_w name n [r]
      have h3 : wR (narrow name n (r :: rows)) = wR (narrow name n [r]) + wR (narrow name n rows) := by
        have key : ∀ a b, wR (a ++ b) = wR a + wR b := fun a b => by
          induction a with
          | nil => simp [wR]
          | cons x a ih => simp [wR, ih, Nat.add_assoc]
        rw [show r :: rows = [r] ++ rows from rfl, narrow, List.filterMap_append, key]
        rfl
      rw [h3]
      simp only [wR] at h2 ⊢
      omega

/-! ### When nothing is absent -/
theorem first_mem {rows : List (List Pat)} {p : Pat} (h : p ∈ first rows) : ∃ tl, p :: tl ∈ rows ∧ free p = false := by
  obtain ⟨x, hx, hxr⟩ := List.mem_filterMap.1 h
  cases x with
  | nil => cases hxr
  | cons q tl =>
    simp only at hxr
    split at hxr
    · cases hxr
    · injection hxr with hxr
      subst hxr
      rename_i hf
      exact ⟨tl, hx, by simpa using hf⟩
structure Full (t : Tab) (ds : List DataSig) (τ : Ty) (rows : List (List Pat)) (d : Nat) (f : Str → Nat → Ty) (D : DataSig) : Prop where
  ty : τ = .dat d f
  data : ds[d]? = some D
  cons : consAt t ds ((first rows).headD anyP).name = D.cons
  all : ∀ k ∈ D.cons, ∃ q tl, q :: tl ∈ rows ∧ free q = false ∧ q.name = k.name ∧ k.args.length ≤ 400 ∧ ∃ a, tget t k.name = some (d, a, k.args.length)
theorem first_head {t : Tab} {ds : List DataSig} {τ : Ty} {τs : List Ty} {rows : List (List Pat)} (hok : TabOk t ds) (hT : rowsT t (τ :: τs) rows) {p : Pat} {l : List Pat} (hl : first rows = p :: l) (hk : p.kind ≠ 2) :
    ∃ d f a D, τ = .dat d f ∧ p.kind = 3 ∧ tget t p.name = some (d, a, p.args.length) ∧ ds[d]? = some D := by
  obtain ⟨tl, hr, hf⟩ := first_mem (rows := rows) (p := p) (by rw [hl]; exact List.mem_cons_self ..)
  have hw := (hT _ hr).1
  cases τ with
  | any => rw [show wt t .any p = (free p = true) from rfl, hf] at hw; cases hw
  | int =>
    rcases hw with h | h
    · rw [hf] at h; cases h
    · exact absurd h hk
  | dat d f =>
    rcases hw with h | ⟨h1, ⟨a, h2⟩, _⟩
    · rw [hf] at h; cases h
    · obtain ⟨D, hD⟩ := hok.get _ _ h2
      exact ⟨d, f, a, D, rfl, h1, h2, hD⟩
theorem absent_none {t : Tab} {ds : List DataSig} {τ : Ty} {τs : List Ty} {rows : List (List Pat)} (hok : TabOk t ds) (hT : rowsT t (τ :: τs) rows) (h : absentF t ds (first rows) = none) : ∃ d f D, Full t ds τ rows d f D := by
  cases hl : first rows with
  | nil => rw [hl] at h; cases h
  | cons p l =>
    rw [hl] at h
    by_cases hk : p.kind = 2
    · rw [absentF, if_pos hk] at h; cases h
    rw [absentF, if_neg hk, Option.map_eq_none_iff] at h
    obtain ⟨d, f, a, D, rfl, h3, ht, hD⟩ := first_head hok hT hl hk
    have hc : consAt t ds p.name = D.cons := by simp only [consAt, ht, hD]
    rw [hc, List.find?_eq_none] at h
    refine ⟨d, f, D, rfl, hD, by rw [hl]; exact hc, fun k hkm => ?_⟩
    have h4 := h k hkm
    simp only [lacks, Bool.not_eq_true, Bool.not_eq_false', List.any_eq_true, decide_eq_true_eq] at h4
    obtain ⟨q, hq, hqn⟩ := h4
    obtain ⟨tl, hr, hf⟩ := first_mem (rows := rows) (p := q) (by rw [hl]; exact hq)
    obtain ⟨a', ha⟩ := hok.put d D k hD hkm
    refine ⟨q, tl, hr, hf, hqn, ?_, a', ha⟩
    rcases (hT _ hr).1 with h5 | ⟨_, ⟨a2, h5⟩, h6, _⟩
    · rw [hf] at h5; cases h5
    · rw [hqn, ha] at h5
      injection h5 with h5
      injection h5 with _ h5
      injection h5 with _ h5
      omega
theorem missLoop_len {rc : List (List Pat) → Nat → List Pat × Bool} {rows : List (List Pat)} {c : Nat} (h : ∀ rows c, (rc rows c).1.length ≤ c ∧ ((rc rows c).2 = true → (rc rows c).1.length = c)) : ∀ ks, (missLoop rc rows c ks).1.length ≤ c + 1 ∧ ((missLoop rc rows c ks).2 = true → (missLoop rc rows c ks).1.length = c + 1)
  | [] => ⟨Nat.zero_le _, fun h => by cases h⟩
  | k :: ks => by
    simp only [missLoop]
    cases hb : (rc (narrow k.name k.args.length rows) (k.args.length + c)).2 with
    | false => exact missLoop_len h ks
    | true =>
      have := (h (narrow k.name k.args.length rows) (k.args.length + c)).2 hb
      simp only [cond_true, List.length_cons, List.length_drop]
      exact ⟨by omega, fun _ => by omega⟩
theorem missF_len (t : Tab) (ds : List DataSig) : ∀ f rows c, (missF t ds f rows c).1.length ≤ c ∧ ((missF t ds f rows c).2 = true → (missF t ds f rows c).1.length = c)
  | 0, rows, c => ⟨Nat.zero_le _, fun h => by cases h⟩
  | f + 1, rows, 0 => ⟨Nat.le_refl _, fun _ => rfl⟩
  | f + 1, rows, c + 1 => by
    rw [missF]
    cases absentF t ds (first rows) with
    | none => exact missLoop_len (missF_len t ds f) _
    | some p =>
      have := missF_len t ds f (rest rows) c
      exact ⟨by simp only [List.length_cons]; omega, fun h => by simp only [List.length_cons]; rw [this.2 h]⟩
end Go.PM
