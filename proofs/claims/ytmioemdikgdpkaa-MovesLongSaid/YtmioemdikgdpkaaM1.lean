/- Package moves as functions: the check of programs with variables, and their execution. -/
import Derived.Test.YtmioemdikgdpkaaS8
set_option linter.unusedVariables false
set_option linter.unusedSimpArgs false
namespace Go.SM
open Go.VL
def mvarF (v : Int) : Bool := decide (v ≥ 0) && decide (v < 4096)
def minsF (i : SIns) : Int :=
  if (!mvarF i.to || i.args.any fun a => !mvarF a) = true then 4 else if i.op ≠ 100 then formF i else if (i.args.length : Int) ≠ 1 then 3 else if i.n ≠ 0 then 4 else 0
def mparamsF : List Int → List Int → Int
  | _, [] => 0
  | done, v :: l => if mvarF v = false then 4 else if (done.any fun x => decide (v = x)) = true then 7 else mparamsF (done ++ [v]) l
def mblockF (bs : List SBlock) (k : Nat) (b : SBlock) : Int :=
  if (0 : Int) < k ∧ 0 < (b.params.length : Int) then 3 else if mparamsF [] b.params ≠ 0 then mparamsF [] b.params else if firstE minsF b.ins ≠ 0 then firstE minsF b.ins
  else if endF bs b.term ≠ 0 then endF bs b.term else if mvarF b.term.arg = false then 4 else 0
def mblocksF (bs : List SBlock) : Nat → List SBlock → Int
  | _, [] => 0
  | k, b :: l => if mblockF bs k b ≠ 0 then mblockF bs k b else mblocksF bs (k + 1) l
def mfuncF (f : SFunc) : Int :=
  if (f.blocks.length : Int) = 0 then 3
  else if 128 < (f.blocks.length : Int) ∨ 4096 < countIns 0 f.blocks ∨ 6 < ((paramsOf f.blocks 0).length : Int) then 2
  else if f.name < -1 ∨ f.name ≥ 1048576 then 4
  else mblocksF f.blocks 0 f.blocks
def mcheckF (u : SUnit) : Int :=
  if (u.fns.length : Int) = 0 then 3 else if 256 < (u.fns.length : Int) then 2 else if u.main < 0 ∨ u.main ≥ (u.fns.length : Int) then 4
  else if firstE mfuncF u.fns ≠ 0 then firstE mfuncF u.fns
  else if (entryOf u u.main).length > 0 then 3 else callsF u
def mrunF (u : SUnit) (fuel : Int) : Out × Int × Int :=
  if mcheckF u ≠ 0 then (⟨[], 0, 0⟩, 0, mcheckF u) else if fuel < 1 ∨ fuel > 1000000 then (⟨[], 0, 0⟩, 0, 4) else performF u fuel
theorem firstE_zero {α : Type} {f : α → Int} : ∀ {l : List α}, firstE f l = 0 → ∀ x ∈ l, f x = 0
  | [], _, x, hx => by cases hx
  | y :: l, h, x, hx => by
    rw [firstE] at h
    split at h
    · rename_i hy; exact absurd h hy
    · rename_i hy
      rcases List.mem_cons.1 hx with rfl | hx
      · exact Classical.not_not.1 hy
      · exact firstE_zero h x hx
structure MBlockOk (bs : List SBlock) (k : Nat) (b : SBlock) : Prop where
  params : 0 < k → b.params = []
  vars : mparamsF [] b.params = 0
  ins : ∀ i ∈ b.ins, minsF i = 0
  term : endF bs b.term = 0
  arg : mvarF b.term.arg = true
theorem mblock_ok {bs : List SBlock} {k : Nat} {b : SBlock} (h : mblockF bs k b = 0) : MBlockOk bs k b := by
  unfold mblockF at h
  split at h
  · cases h
  · rename_i h1
    split at h
    · rename_i h2; exact absurd h h2
    · rename_i h2
      split at h
      · rename_i h3; exact absurd h h3
      · rename_i h3
        split at h
        · rename_i h4; exact absurd h h4
        · rename_i h4
          split at h
          · cases h
          · rename_i h5
            refine ⟨fun hk => ?_, Classical.not_not.1 h2, firstE_zero (Classical.not_not.1 h3), Classical.not_not.1 h4, by simpa using h5⟩
            apply List.length_eq_zero_iff.1
            omega
theorem mblocks_ok {bs : List SBlock} : ∀ {l : List SBlock} {k : Nat}, mblocksF bs k l = 0 → ∀ (j : Nat) (b : SBlock), l[j]? = some b → MBlockOk bs (k + j) b
  | [], k, _, j, b, hb => by simp at hb
  | c :: l, k, h, j, b, hb => by
    rw [mblocksF] at h
    split at h
    · rename_i hc; exact absurd h hc
    · rename_i hc
      cases j with
      | zero =>
        simp at hb
        subst hb
        exact mblock_ok (Classical.not_not.1 hc)
      | succ j =>
        simp at hb
        have := mblocks_ok h j b hb
        rwa [show k + 1 + j = k + (j + 1) by omega] at this
structure MFuncOk (f : SFunc) : Prop where
  pos : 0 < f.blocks.length
  len : f.blocks.length ≤ 128
  params : (paramsOf f.blocks 0).length ≤ 6
  name : -1 ≤ f.name ∧ f.name < 1048576
  block : ∀ (k : Nat) (b : SBlock), f.blocks[k]? = some b → MBlockOk f.blocks k b
theorem mfunc_ok {f : SFunc} (h : mfuncF f = 0) : MFuncOk f := by
  unfold mfuncF at h
  split at h
  · cases h
  · rename_i h1
    split at h
    · cases h
    · rename_i h2
      split at h
      · cases h
      · rename_i h3
        refine ⟨by omega, by omega, by omega, by omega, fun k b hb => ?_⟩
        have := mblocks_ok h k b hb
        rwa [Nat.zero_add] at this
theorem MFuncOk.ne {f : SFunc} (h : MFuncOk f) : f.blocks ≠ [] := fun e => by have := h.pos; rw [e] at this; simp at this
structure MUnitOk (u : SUnit) : Prop where
  many : u.fns.length ≤ 256
  main : 0 ≤ u.main ∧ u.main < u.fns.length
  fns : ∀ f ∈ u.fns, MFuncOk f
  entry : entryOf u u.main = []
  calls : ∀ f ∈ u.fns, ∀ b ∈ f.blocks, ∀ i ∈ b.ins, callF u i = 0
theorem mcheck_ok {u : SUnit} (h : mcheckF u = 0) : MUnitOk u := by
  unfold mcheckF at h
  split at h
  · cases h
  · split at h
    · cases h
    · split at h
      · cases h
      · split at h
        · rename_i h4; exact absurd h h4
        · rename_i h1 h2 h3 h4
          split at h
          · cases h
          · rename_i h5
            have hc := firstE_zero h
            exact ⟨by omega, by omega, fun f hf => mfunc_ok (firstE_zero (Classical.not_not.1 h4) f hf), List.length_eq_zero_iff.1 (by omega), fun f hf b hb i hi => firstE_zero (firstE_zero (hc f hf) b hb) i hi⟩
theorem mterm_ok {f : SFunc} (h : MFuncOk f) {b : SBlock} {k : Nat} (hb : f.blocks[k]? = some b) : TermOk f b.term := by
  have he := endF_ok (h.block k b hb).term
  have hs := he.shape
  unfold shapeF at hs
  refine ⟨fun h1 => ?_, fun h2 => ?_, fun h0 h1 h2 h4 => ?_, fun e hm => ?_⟩
  · rw [if_neg (by omega), if_pos h1] at hs
    simp at hs
    omega
  · rw [if_neg (by omega), if_neg (by omega), if_pos h2] at hs
    simp at hs
    omega
  · rw [if_neg h0, if_neg h1, if_neg h2] at hs
    split at hs
    · simp at hs; omega
    · first | cases hs | (rw [if_neg h4] at hs; cases hs)
  · obtain ⟨e1, e2, e3⟩ := he.edges e hm
    obtain ⟨c, hc⟩ := get_of_lt f.blocks e.block.toNat (by omega)
    rw [paramsOf_get hc] at e3
    have hp := (h.block _ c hc).params (by omega)
    exact ⟨by omega, ⟨c, hc, e3⟩, by rw [e3, hp]; simp⟩
theorem mins_ok {u : SUnit} {i : SIns} (h : minsF i = 0) (hc : callF u i = 0) : InsOk u i := by
  unfold minsF at h
  split at h
  · cases h
  · split at h
    · exact ins_ok_of h hc
    · rename_i h2
      have h2 := Classical.not_not.1 h2
      split at h
      · cases h
      · rename_i h3
        have h3 : i.args.length = 1 := by omega
        refine ⟨fun _ _ => ⟨by rw [h2]; rfl, by omega, fun h => ?_, fun _ => h3, fun h => ?_, fun h => ?_⟩, fun h => ?_, fun h => ?_, fun h => ?_, by omega⟩
        · rw [h2] at h; cases h
        all_goals omega
theorem MUnitOk.u {u : SUnit} (h : MUnitOk u) : UOk u :=
  ⟨h.main, h.entry, fun f hf => (h.fns f hf).ne, fun f hf b hb => by
    obtain ⟨k, hk⟩ := List.getElem?_of_mem hb
    exact mterm_ok (h.fns f hf) hk, fun f hf b hb i hi => by
    obtain ⟨k, hk⟩ := List.getElem?_of_mem hb
    exact mins_ok (((h.fns f hf).block k b hk).ins i hi) (h.calls f hf b hb i hi)⟩
end Go.SM
