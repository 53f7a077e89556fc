/- Patterns: agreement of columns, laws that the walk needs. -/
import Derived.Test.YtmjeaagpcmfnpaaVD4
set_option linter.unusedVariables false
namespace Go.PM
open Go.VL
mutual
def cP : Pat → Nat
  | .mk k s n as => 1 + cL as
def cL : List Pat → Nat
  | [] => 0
  | p :: ps => cP p + cL ps
end
theorem cP_eq (p : Pat) : cP p = 1 + cL p.args := by cases p; rw [cP]; rfl
theorem cL_get : ∀ {l : List Pat} {n : Nat} {q : Pat}, l[n]? = some q → cP q ≤ cL l
  | [], n, q, h => by simp at h
  | p :: l, 0, q, h => by simp at h; subst h; simp [cL]
  | p :: l, n + 1, q, h => by
    have := cL_get (l := l) (n := n) (q := q) (by simpa using h)
    simp only [cL]
    omega
theorem cL_filter (f : Pat → Bool) : ∀ l, cL (l.filter f) ≤ cL l
  | [] => Nat.le_refl _
  | p :: l => by
    have := cL_filter f l
    rw [List.filter_cons]
    split <;> simp only [cL] <;> omega
theorem below_snoc (l : List Pat) (q : Pat) (name : Str) (n : Nat) : belowF (l ++ [q]) name n = belowF l name n ++ (if q.name = name then [q.args.getD n anyP] else []) := by
  unfold belowF
  rw [List.filterMap_append]
  by_cases h : q.name = name <;> simp [h]
theorem below_len (m : List Pat) (name : Str) (n : Nat) : (belowF m name n).length ≤ m.length := List.length_filterMap_le _ _
theorem below_c {name : Str} {n : Nat} : ∀ {m : List Pat}, (∀ q ∈ m, q.name = name → n < q.args.length) → cL (belowF m name n) + (belowF m name n).length ≤ cL m
  | [], _ => Nat.le_refl _
  | q :: m, h => by
    have ih := below_c (m := m) fun q hq => h q (List.mem_cons_of_mem _ hq)
    by_cases hn : q.name = name
    · have hlt := h q (List.mem_cons_self ..) hn
      have h1 : belowF (q :: m) name n = q.args.getD n anyP :: belowF m name n := by simp [belowF, hn]
      have h2 : q.args[n]? = some (q.args.getD n anyP) := by simp [hlt]
      have h3 := cL_get h2
      have h4 := cP_eq q
      rw [h1]
      simp only [cL, List.length_cons]
      omega
    · have h1 : belowF (q :: m) name n = belowF m name n := by simp [belowF, hn]
      rw [h1]
      simp only [cL]
      omega
theorem below_mem {name : Str} {n : Nat} {m : List Pat} {x : Pat} (h : x ∈ belowF m name n) : ∃ q ∈ m, q.name = name ∧ x = q.args.getD n anyP := by
  obtain ⟨q, hq, hx⟩ := List.mem_filterMap.1 h
  split at hx
  · rename_i hn
    injection hx with hx
    exact ⟨q, hq, hn, hx.symm⟩
  · cases hx
theorem patsF_all {t : Tab} : ∀ {l : List Pat}, patsF t l = 0 → ∀ q ∈ l, patF t q = 0
  | [], _, q, h => by cases h
  | p :: l, h, q, hq => by
    rw [patsF] at h
    by_cases hp : patF t p = 0
    · rw [if_neg (by simpa using hp)] at h
      rcases List.mem_cons.1 hq with rfl | hq
      · exact hp
      · exact patsF_all h q hq
    · rw [if_pos hp] at h
      exact absurd h hp
theorem patF_con {t : Tab} {p : Pat} (h : patF t p = 0) (hf : free p = false) : p.kind = 2 ∨ (p.kind = 3 ∧ ∃ c, tget t p.name = some c ∧ p.args.length = c.2.2 ∧ ∀ q ∈ p.args, patF t q = 0) := by
  obtain ⟨k, s, n, as⟩ := p
  simp only [free, Pat.kind, Bool.or_eq_false_iff, beq_eq_false_iff_ne, ne_eq] at hf
  rw [patF, if_neg (by simp [hf])] at h
  by_cases h2 : k = 2
  · exact .inl h2
  · rw [if_neg h2] at h
    by_cases h3 : k = 3
    · rw [if_pos h3] at h
      refine .inr ⟨h3, ?_⟩
      simp only [Pat.name, Pat.args]
      cases hc : tget t s with
      | none => rw [hc] at h; cases h
      | some c =>
        rw [hc] at h
        by_cases hl : as.length = c.2.2
        · refine ⟨c, rfl, hl, ?_⟩
          simp [hl] at h
          exact patsF_all h
        · simp [hl] at h
    · rw [if_neg h3] at h
      cases h
theorem all_snoc {α : Type} {p : α → Bool} {l : List α} {k : Nat} {x : α} (h : l[k]? = some x) (ha : (l.take k).all p = true) (hp : p x = true) : (l.take (k + 1)).all p = true := by
  rw [take_snoc h, List.all_append, ha]
  simp [hp]
theorem sameKind_no {t : Tab} {m : List Pat} {k : Nat} {p : Pat} (h : m[k]? = some p) (hk : kindF t p ≠ kindF t (m.headD anyP)) : sameKind t m = false := by
  unfold sameKind
  rw [List.all_eq_false]
  exact ⟨p, List.mem_of_getElem? h, by simpa using hk⟩
/-- Of a column of one type: same names, as many arguments. -/
theorem same_args {t : Tab} {m : List Pat} {p q : Pat} (hs : sameKind t m = true) (hok : ∀ p ∈ m, patF t p = 0) (hf : ∀ p ∈ m, free p = false) (hp : p ∈ m) (hq : q ∈ m) (hk : p.kind = 3) (hn : q.name = p.name) :
    q.kind = 3 ∧ q.args.length = p.args.length ∧ ∀ x ∈ q.args, patF t x = 0 := by
  unfold sameKind at hs
  rw [List.all_eq_true] at hs
  have h1 := hs p hp
  have h2 := hs q hq
  simp only [decide_eq_true_eq] at h1 h2
  rcases patF_con (hok p hp) (hf p hp) with h3 | ⟨_, c, hc, hl, _⟩
  · rw [h3] at hk; cases hk
  rcases patF_con (hok q hq) (hf q hq) with h3 | ⟨h4, c', hc', hl', ha⟩
  · exfalso
    have e1 : kindF t p = c.1 := by simp [kindF, hk, hc]
    have e2 : kindF t q = -1 := by simp [kindF, h3]
    omega
  · rw [hn, hc] at hc'
    injection hc' with hc'
    subst hc'
    exact ⟨h4, by omega, ha⟩
structure AgreePre (t : Tab) (n : Nat) (l : List Pat) : Prop where
  ne : l ≠ []
  len : l.length ≤ 1000
  ok : ∀ p ∈ l, patF t p = 0
  fuel : cL l < n
theorem nf_mem {l : List Pat} {p : Pat} (h : p ∈ l.filter nf) : p ∈ l ∧ free p = false := by
  obtain ⟨h1, h2⟩ := List.mem_filter.1 h
  exact ⟨h1, by simpa [nf] using h2⟩
theorem AgreePre.below {t : Tab} {f n : Nat} {l m : List Pat} {p : Pat} (h : AgreePre t (f + 1) l) (hm : m = l.filter nf) (hs : sameKind t m = true) (hp : p ∈ m) (hk : p.kind = 3) (hn : n < p.args.length) : AgreePre t f (belowF m p.name n) := by
  have hok : ∀ p ∈ m, patF t p = 0 := fun p hp => h.ok p (nf_mem (hm ▸ hp)).1
  have hf : ∀ p ∈ m, free p = false := fun p hp => (nf_mem (hm ▸ hp)).2
  have hlen := below_len m p.name n
  have hml : m.length ≤ l.length := by rw [hm]; exact List.length_filter_le _ _
  have hpos : 0 < (belowF m p.name n).length := by
    have : p.args.getD n anyP ∈ belowF m p.name n := List.mem_filterMap.2 ⟨p, hp, by simp⟩
    exact List.length_pos_of_mem this
  have hc := below_c (name := p.name) (n := n) (m := m) fun q hq hqn => by
    have := (same_args hs hok hf hp hq hk hqn).2.1
    omega
  have hcm : cL m ≤ cL l := by rw [hm]; exact cL_filter nf l
  have := h.fuel
  have := h.len
  refine ⟨fun e => (by rw [e] at hpos; cases hpos), by omega, fun x hx => ?_, by omega⟩
  obtain ⟨q, hq, hqn, rfl⟩ := below_mem hx
  have h1 := same_args hs hok hf hp hq hk hqn
  refine h1.2.2 _ ?_
  have hl : n < q.args.length := by omega
  have : q.args[n]? = some (q.args.getD n anyP) := by simp [hl]
  exact List.mem_of_getElem? this
theorem pats_fits (l : List Pat) : ∀ y ∈ l.map patV, y.fits 4 = true ∧ ((∃ ls, y = .agg ls) ∨ y.leaf = true) := fun y hy => by
  obtain ⟨p, _, rfl⟩ := List.mem_map.1 hy
  rw [patV_eq]
  exact ⟨rfl, .inl ⟨_, rfl⟩⟩
end Go.PM
