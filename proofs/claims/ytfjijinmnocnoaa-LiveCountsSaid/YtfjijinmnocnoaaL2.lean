/- Package live as functions: what is live; a value that is live at the first place of block 0 is one of its parameters. -/
import Derived.Test.YtfjijinmnocnoaaL1
set_option linter.unusedVariables false
set_option linter.unusedSimpArgs false
namespace Go.SM
open Go.VL
def setsF (o : List Bool) (l : List Int) : List Bool := l.foldl (fun s a => s.set a.toNat true) o
def backI : List SIns → List Bool → List Bool
  | [], s => s
  | i :: l, s => backI l (setsF (s.set i.to.toNat false) i.args)
def backF (b : SBlock) (s : List Bool) : List Bool := backI b.ins.reverse s
def edgeV1 (ps : List Int) : Nat → List Bool → List Bool → List Bool
  | _, [], o => o
  | v, is :: l, o => edgeV1 ps (v + 1) l (if (is && !(ps.any fun x => decide ((v : Int) = x))) = true then o.set v true else o)
abbrev Sets := List (Option (List Bool))
def setAt (s : Sets) (k : Nat) : List Bool := (s[k]?.getD none).getD []
def edgesV (bs : List SBlock) (first : Sets) : List SEdge → List Bool → List Bool
  | [], o => o
  | e :: l, o => edgesV bs first l (edgeV1 (paramsOf bs e.block) 0 (setAt first e.block.toNat) o)
def argsV : List SEdge → List Bool → List Bool
  | [], o => o
  | e :: l, o => argsV l (setsF o e.args)
def termV1 (t : STerm) (o : List Bool) : List Bool := if t.kind ≠ 1 ∧ t.kind ≠ 4 then o.set t.arg.toNat true else o
def lastF (bs : List SBlock) (many : Nat) (t : STerm) (first : Sets) : List Bool := argsV t.to (termV1 t (edgesV bs first t.to (List.replicate many false)))
structure LState where
  behind : Sets
  first : Sets
  again : Bool
def liveNode (bs : List SBlock) (many : Nat) (s : LState) (k : Nat) : LState :=
  let b := bs[k]?.getD default
  let nx := lastF bs many b.term s.first
  if s.behind[k]?.getD none = some nx then s else ⟨s.behind.set k (some nx), s.first.set k (some (backF b nx)), true⟩
def livePass (bs : List SBlock) (many : Nat) : Nat → LState → LState
  | 0, s => s
  | k + 1, s => livePass bs many k (liveNode bs many s k)
def liveIter (bs : List SBlock) (many : Nat) : Nat → LState → LState
  | 0, s => s
  | n + 1, s => if s.again then liveIter bs many n (livePass bs many bs.length { s with again := false }) else s
def liveStart (n : Nat) : LState := ⟨List.replicate n none, List.replicate n none, true⟩
def liveF (bs : List SBlock) (many : Nat) : LState := liveIter bs many (bs.length * (many + 1) + 2) (liveStart bs.length)
/-! ### Members -/
def Mem1 (s : List Bool) (v : Nat) : Prop := s[v]? = some true
theorem mem_set_true {s : List Bool} {k v : Nat} : Mem1 (s.set k true) v ↔ Mem1 s v ∨ v = k ∧ v < s.length := by
  unfold Mem1
  rw [List.getElem?_set]
  by_cases h : k = v
  · subst h
    rw [if_pos rfl]
    by_cases hl : k < s.length
    · rw [if_pos hl]; simp [hl]
    · rw [if_neg hl, List.getElem?_eq_none (by omega)]; simp [hl]
  · rw [if_neg h]
    constructor
    · exact .inl
    · rintro (h1 | ⟨h1, _⟩)
      · exact h1
      · exact absurd h1.symm h
theorem mem_set_false {s : List Bool} {k v : Nat} : Mem1 (s.set k false) v ↔ Mem1 s v ∧ v ≠ k := by
  unfold Mem1
  rw [List.getElem?_set]
  by_cases h : k = v
  · subst h
    rw [if_pos rfl]
    split <;> simp
  · rw [if_neg h]
    simp [Ne.symm h]
theorem sets_len : ∀ (l : List Int) (o : List Bool), (setsF o l).length = o.length
  | [], o => rfl
  | a :: l, o => by
    show (setsF (o.set a.toNat true) l).length = _
    rw [sets_len, List.length_set]
theorem mem_sets {v : Nat} : ∀ (l : List Int) (o : List Bool), Mem1 (setsF o l) v ↔ Mem1 o v ∨ v < o.length ∧ ∃ a ∈ l, a.toNat = v
  | [], o => by simp [setsF]
  | a :: l, o => by
    show Mem1 (setsF (o.set a.toNat true) l) v ↔ _
    rw [mem_sets, mem_set_true, List.length_set]
    constructor
    · rintro ((h | ⟨h, h2⟩) | ⟨h, b, hb, e⟩)
      · exact .inl h
      · exact .inr ⟨h2, a, List.mem_cons_self .., h.symm⟩
      · exact .inr ⟨h, b, List.mem_cons_of_mem _ hb, e⟩
    · rintro (h | ⟨h, b, hb, e⟩)
      · exact .inl (.inl h)
      · rcases List.mem_cons.1 hb with rfl | hb
        · exact .inl (.inr ⟨e.symm, h⟩)
        · exact .inr ⟨h, b, hb, e⟩
theorem back_len : ∀ (l : List SIns) (s : List Bool), (backI l s).length = s.length
  | [], s => rfl
  | i :: l, s => by rw [backI, back_len, sets_len, List.length_set]
theorem edge1_len (ps : List Int) : ∀ (l : List Bool) (v : Nat) (o : List Bool), (edgeV1 ps v l o).length = o.length
  | [], v, o => rfl
  | is :: l, v, o => by
    rw [edgeV1, edge1_len]
    split
    · rw [List.length_set]
    · rfl
theorem edges_len (bs : List SBlock) (first : Sets) : ∀ (l : List SEdge) (o : List Bool), (edgesV bs first l o).length = o.length
  | [], o => rfl
  | e :: l, o => by rw [edgesV, edges_len, edge1_len]
theorem args_len : ∀ (l : List SEdge) (o : List Bool), (argsV l o).length = o.length
  | [], o => rfl
  | e :: l, o => by rw [argsV, args_len, sets_len]
theorem term1_len (t : STerm) (o : List Bool) : (termV1 t o).length = o.length := by
  unfold termV1
  split
  · rw [List.length_set]
  · rfl
theorem last_len (bs : List SBlock) (many : Nat) (t : STerm) (first : Sets) : (lastF bs many t first).length = many := by
  rw [lastF, args_len, term1_len, edges_len, List.length_replicate]
theorem mem_edge1 (ps : List Int) {v : Nat} : ∀ (l : List Bool) (w : Nat) (o : List Bool), Mem1 (edgeV1 ps w l o) v ↔ Mem1 o v ∨ v < o.length ∧ w ≤ v ∧ Mem1 l (v - w) ∧ (v : Int) ∉ ps
  | [], w, o => by simp [edgeV1, Mem1]
  | is :: l, w, o => by
    rw [edgeV1, mem_edge1]
    have hany : (ps.any fun x => decide ((w : Int) = x)) = true ↔ (w : Int) ∈ ps := by
      rw [List.any_eq_true]
      constructor
      · rintro ⟨x, hx, e⟩; rwa [of_decide_eq_true e]
      · intro h; exact ⟨_, h, decide_eq_true rfl⟩
    have step : ∀ {u : Nat}, Mem1 (is :: l) u ↔ (u = 0 ∧ is = true) ∨ (1 ≤ u ∧ Mem1 l (u - 1)) := fun {u} => by
      unfold Mem1
      cases u with
      | zero => simp
      | succ u => simp
    rw [step]
    by_cases hc : (is && !(ps.any fun x => decide ((w : Int) = x))) = true
    · rw [if_pos hc, mem_set_true, List.length_set]
      rw [Bool.and_eq_true, Bool.not_eq_true', ← Bool.not_eq_true, hany] at hc
      constructor
      · rintro ((h | ⟨rfl, h⟩) | ⟨h1, h2, h3, h4⟩)
        · exact .inl h
        · exact .inr ⟨h, Nat.le_refl _, .inl ⟨by omega, hc.1⟩, hc.2⟩
        · exact .inr ⟨h1, by omega, .inr ⟨by omega, by rwa [show v - w - 1 = v - (w + 1) by omega]⟩, h4⟩
      · rintro (h | ⟨h1, h2, h3 | h3, h4⟩)
        · exact .inl (.inl h)
        · exact .inl (.inr ⟨by omega, h1⟩)
        · exact .inr ⟨h1, by omega, by rw [show v - (w + 1) = v - w - 1 by omega]; exact h3.2, h4⟩
    · rw [if_neg hc]
      constructor
      · rintro (h | ⟨h1, h2, h3, h4⟩)
        · exact .inl h
        · exact .inr ⟨h1, by omega, .inr ⟨by omega, by rwa [show v - w - 1 = v - (w + 1) by omega]⟩, h4⟩
      · rintro (h | ⟨h1, h2, h3 | h3, h4⟩)
        · exact .inl h
        · exfalso
          have : v = w := by omega
          subst this
          refine hc ?_
          rw [Bool.and_eq_true, Bool.not_eq_true', ← Bool.not_eq_true, hany]
          exact ⟨h3.2, h4⟩
        · exact .inr ⟨h1, by omega, by rw [show v - (w + 1) = v - w - 1 by omega]; exact h3.2, h4⟩
theorem mem_edges (bs : List SBlock) (first : Sets) {v : Nat} : ∀ (l : List SEdge) (o : List Bool), Mem1 (edgesV bs first l o) v ↔ Mem1 o v ∨ v < o.length ∧ ∃ e ∈ l, Mem1 (setAt first e.block.toNat) v ∧ (v : Int) ∉ paramsOf bs e.block
  | [], o => by simp [edgesV]
  | e :: l, o => by
    rw [edgesV, mem_edges, mem_edge1, edge1_len, Nat.sub_zero]
    constructor
    · rintro ((h | ⟨h1, _, h3, h4⟩) | ⟨h1, x, hx, h2⟩)
      · exact .inl h
      · exact .inr ⟨h1, e, List.mem_cons_self .., h3, h4⟩
      · exact .inr ⟨h1, x, List.mem_cons_of_mem _ hx, h2⟩
    · rintro (h | ⟨h1, x, hx, h2⟩)
      · exact .inl (.inl h)
      · rcases List.mem_cons.1 hx with rfl | hx
        · exact .inl (.inr ⟨h1, Nat.zero_le _, h2.1, h2.2⟩)
        · exact .inr ⟨h1, x, hx, h2⟩
theorem mem_args {v : Nat} : ∀ (l : List SEdge) (o : List Bool), Mem1 (argsV l o) v ↔ Mem1 o v ∨ v < o.length ∧ ∃ e ∈ l, ∃ a ∈ e.args, a.toNat = v
  | [], o => by simp [argsV]
  | e :: l, o => by
    rw [argsV, mem_args, mem_sets, sets_len]
    constructor
    · rintro ((h | ⟨h1, h2⟩) | ⟨h1, x, hx, h2⟩)
      · exact .inl h
      · exact .inr ⟨h1, e, List.mem_cons_self .., h2⟩
      · exact .inr ⟨h1, x, List.mem_cons_of_mem _ hx, h2⟩
    · rintro (h | ⟨h1, x, hx, h2⟩)
      · exact .inl (.inl h)
      · rcases List.mem_cons.1 hx with rfl | hx
        · exact .inl (.inr ⟨h1, h2⟩)
        · exact .inr ⟨h1, x, hx, h2⟩
/-- What a terminator itself uses. -/
def TermUse (t : STerm) (v : Nat) : Prop := (t.kind ≠ 1 ∧ t.kind ≠ 4) ∧ t.arg.toNat = v ∨ ∃ e ∈ t.to, ∃ a ∈ e.args, a.toNat = v
theorem mem_last (bs : List SBlock) (many : Nat) (t : STerm) (first : Sets) (v : Nat) : Mem1 (lastF bs many t first) v ↔ v < many ∧ (TermUse t v ∨ ∃ e ∈ t.to, Mem1 (setAt first e.block.toNat) v ∧ (v : Int) ∉ paramsOf bs e.block) := by
  rw [lastF, mem_args, term1_len, edges_len, List.length_replicate]
  have h0 : ¬ Mem1 (List.replicate many false) v := by
    unfold Mem1
    rw [List.getElem?_replicate]
    split <;> simp
  have ht : Mem1 (termV1 t (edgesV bs first t.to (List.replicate many false))) v ↔ Mem1 (edgesV bs first t.to (List.replicate many false)) v ∨ (t.kind ≠ 1 ∧ t.kind ≠ 4) ∧ t.arg.toNat = v ∧ v < many := by
    unfold termV1
    split
    · rename_i hc
      rw [mem_set_true, edges_len, List.length_replicate]
      constructor
      · rintro (h | ⟨h1, h2⟩)
        · exact .inl h
        · exact .inr ⟨hc, h1.symm, h2⟩
      · rintro (h | ⟨_, h1, h2⟩)
        · exact .inl h
        · exact .inr ⟨h1.symm, h2⟩
    · rename_i hc
      constructor
      · exact .inl
      · rintro (h | ⟨h, _⟩)
        · exact h
        · exact absurd h hc
  rw [ht, mem_edges, List.length_replicate]
  unfold TermUse
  constructor
  · rintro (((h | ⟨h1, h2⟩) | ⟨h1, h2, h3⟩) | ⟨h1, h2⟩)
    · exact absurd h h0
    · exact ⟨h1, .inr h2⟩
    · exact ⟨h3, .inl (.inl ⟨h1, h2⟩)⟩
    · exact ⟨h1, .inl (.inr h2)⟩
  · rintro ⟨h1, (⟨h2, h3⟩ | h2) | h2⟩
    · exact .inl (.inr ⟨h2, h3, h1⟩)
    · exact .inr ⟨h1, h2⟩
    · exact .inl (.inl (.inr ⟨h1, h2⟩))
/-- A use that no definition in the list stands before. -/
def Exp (l : List SIns) (v : Nat) : Prop := ∃ (j : Nat) (i : SIns), l[j]? = some i ∧ (∃ a ∈ i.args, a.toNat = v) ∧ ∀ (j' : Nat) (x : SIns), j' < j → l[j']? = some x → x.to.toNat ≠ v
theorem Exp.append {l : List SIns} {v : Nat} (h : Exp l v) (m : List SIns) : Exp (l ++ m) v := by
  obtain ⟨j, i, h1, h2, h3⟩ := h
  have hj := (List.getElem?_eq_some_iff.1 h1).1
  exact ⟨j, i, by rw [List.getElem?_append_left hj]; exact h1, h2, fun j' x hlt hx => h3 j' x hlt (by rwa [List.getElem?_append_left (by omega)] at hx)⟩
theorem mem_back {v : Nat} : ∀ (r : List SIns) (s : List Bool), Mem1 (backI r s) v → Exp r.reverse v ∨ Mem1 s v ∧ ∀ x ∈ r, x.to.toNat ≠ v
  | [], s, h => .inr ⟨h, fun x hx => by cases hx⟩
  | i :: r, s, h => by
    rw [backI] at h
    rw [List.reverse_cons]
    rcases mem_back r _ h with h | ⟨h, hr⟩
    · exact .inl (h.append _)
    · rw [mem_sets, mem_set_false] at h
      rcases h with ⟨h1, h2⟩ | ⟨_, h2⟩
      · refine .inr ⟨h1, fun x hx => ?_⟩
        rcases List.mem_cons.1 hx with rfl | hx
        · exact Ne.symm h2
        · exact hr x hx
      · refine .inl ⟨r.length, i, by rw [List.getElem?_append_right (by simp)]; simp, h2, fun j' x hlt hx => ?_⟩
        rw [List.getElem?_append_left (by simpa using hlt)] at hx
        exact hr x (by simpa using List.mem_of_getElem? hx)
theorem back_mono {s t : List Bool} (hl : s.length = t.length) : ∀ (r : List SIns), (∀ v, Mem1 s v → Mem1 t v) → ∀ v, Mem1 (backI r s) v → Mem1 (backI r t) v
  | [], h => h
  | i :: r, h => by
    rw [backI, backI]
    refine back_mono (by rw [sets_len, sets_len, List.length_set, List.length_set, hl]) r fun v hv => ?_
    rw [mem_sets, mem_set_false, List.length_set] at hv ⊢
    rw [← hl]
    exact hv.imp (fun hv => ⟨h v hv.1, hv.2⟩) id
/-! ### Ways to uses -/
inductive LiveIn (bs : List SBlock) (v : Nat) : Nat → Prop where
  | use {k : Nat} {b : SBlock} : bs[k]? = some b → Exp b.ins v → LiveIn bs v k
  | term {k : Nat} {b : SBlock} : bs[k]? = some b → (∀ x ∈ b.ins, x.to.toNat ≠ v) → TermUse b.term v → LiveIn bs v k
  | pass {k : Nat} {b : SBlock} {e : SEdge} : bs[k]? = some b → (∀ x ∈ b.ins, x.to.toNat ≠ v) → e ∈ b.term.to → (v : Int) ∉ paramsOf bs e.block → LiveIn bs v e.block.toNat → LiveIn bs v k
theorem live_back {bs : List SBlock} {many k : Nat} {b : SBlock} {first : Sets} {v : Nat} (hf : ∀ k, Mem1 (setAt first k) v → LiveIn bs v k) (hb : bs[k]? = some b) (h : Mem1 (backF b (lastF bs many b.term first)) v) : LiveIn bs v k := by
  rcases mem_back _ _ h with h | ⟨h, hn⟩
  · rw [List.reverse_reverse] at h
    exact .use hb h
  · have hn : ∀ x ∈ b.ins, x.to.toNat ≠ v := fun x hx => hn x (List.mem_reverse.2 hx)
    rcases ((mem_last ..).1 h).2 with h | ⟨e, he, h1, h2⟩
    · exact .term hb hn h
    · exact .pass hb hn he h2 (hf _ h1)
theorem setAt_set {s : Sets} {k j : Nat} {l : List Bool} (h : k < s.length) : setAt (s.set k (some l)) j = if k = j then l else setAt s j := by
  unfold setAt
  rw [List.getElem?_set]
  split
  · rename_i e
    subst e
    first | rfl | (rw [if_pos h]; rfl)
  · rfl
end Go.SM
