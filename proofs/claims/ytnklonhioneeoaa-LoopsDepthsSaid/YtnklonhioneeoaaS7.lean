import Derived.Test.YtnklonhioneeoaaS6
set_option linter.unusedVariables false
set_option linter.unusedSimpArgs false
namespace Go.SM
open Go.VL
def dkeys (d : Defs) : List Int := d.map (·.1)
def defsP (k : Int) (ps : List Int) : Defs := ps.map fun p => (p, k, 0)
def defsI (k : Int) : Int → List SIns → Defs
  | _, [] => []
  | n, i :: is => (i.to, k, n + 1) :: defsI k (n + 1) is
def defsB (k : Int) (b : SBlock) : Defs := defsP k b.params ++ defsI k 0 b.ins
def defsL : Int → List SBlock → Defs
  | _, [] => []
  | k, b :: l => defsB k b ++ defsL (k + 1) l
structure DKeys (d : Defs) : Prop where
  nodup : (dkeys d).Nodup
  range : ∀ v ∈ dkeys d, 0 ≤ v ∧ v ≤ 4095
theorem dget_none {v : Int} : ∀ {d : Defs}, dget d v = none ↔ v ∉ dkeys d
  | [] => by simp [dget, dkeys]
  | (k, p) :: d => by
    have ih := dget_none (v := v) (d := d)
    rw [dget]
    split
    · rename_i h; subst h; simp [dkeys]
    · rename_i h
      rw [ih]
      simp [dkeys]
      exact fun h1 h2 => h h2.symm
theorem defineF_zero {v : Int} {p : Int × Int} {d : Defs} (h : (defineF v p d).1 = 0) (hd : DKeys d) : (defineF v p d).2 = d ++ [(v, p)] ∧ DKeys (d ++ [(v, p)]) := by
  unfold defineF at h ⊢
  split at h
  · cases h
  · rename_i h1
    split at h
    · cases h
    · rename_i h2
      rw [if_neg h1, if_neg h2]
      refine ⟨rfl, ?_, ?_⟩
      · have hn : dget d v = none := by
          cases hg : dget d v with
          | none => rfl
          | some x => rw [hg] at h2; simp at h2
        have := dget_none.1 hn
        rw [dkeys, List.map_append]
        refine List.nodup_append.2 ⟨hd.nodup, by simp, fun a ha b hb e => ?_⟩
        simp at hb
        subst hb e
        exact this ha
      · intro x hx
        rw [dkeys, List.map_append] at hx
        rcases List.mem_append.1 hx with hx | hx
        · exact hd.range x hx
        · simp at hx
          subst hx
          have h1 : wi x 0 4095 = true := by simpa using h1
          exact wi_iff.1 h1
theorem paramsF_zero {k : Int} : ∀ (ps : List Int) {d : Defs}, (paramsF k ps d).1 = 0 → DKeys d → (paramsF k ps d).2 = d ++ defsP k ps ∧ DKeys (d ++ defsP k ps)
  | [], d, _, hd => by simp [paramsF, defsP, hd]
  | p :: ps, d, h, hd => by
    rw [paramsF] at h ⊢
    split at h
    · rename_i hc; exact absurd h hc
    · rename_i hc
      rw [if_neg hc]
      obtain ⟨e1, h1⟩ := defineF_zero (Classical.not_not.1 hc) hd
      rw [e1] at h ⊢
      have := paramsF_zero ps h h1
      simpa [defsP] using this
theorem inssF_zero {k : Int} : ∀ (l : List SIns) (n : Int) {d : Defs}, (inssF k n l d).1 = 0 → DKeys d → (inssF k n l d).2 = d ++ defsI k n l ∧ DKeys (d ++ defsI k n l)
  | [], n, d, _, hd => by simp [inssF, defsI, hd]
  | i :: l, n, d, h, hd => by
    rw [inssF] at h ⊢
    split at h
    · rename_i hc; exact absurd h hc
    · rename_i hc
      rw [if_neg hc]
      obtain ⟨e1, h1⟩ := defineF_zero (Classical.not_not.1 hc) hd
      split at h
      · rename_i hf; exact absurd h hf
      · rename_i hf
        rw [if_neg hf]
        rw [e1] at h ⊢
        have := inssF_zero l (n + 1) h h1
        simpa [defsI] using this
theorem blockF_zero {bs : List SBlock} {k : Int} {b : SBlock} {d : Defs} (h : (blockF bs k b d).1 = 0) (hd : DKeys d) : (blockF bs k b d).2 = d ++ defsB k b ∧ DKeys (d ++ defsB k b) := by
  unfold blockF at h ⊢
  split at h
  · rename_i hc; exact absurd h hc
  · rename_i hc
    rw [if_neg hc]
    obtain ⟨e1, h1⟩ := paramsF_zero b.params (Classical.not_not.1 hc) hd
    split at h
    · rename_i hc2; exact absurd h hc2
    · rename_i hc2
      rw [if_neg hc2]
      rw [e1] at hc2 ⊢
      have := inssF_zero b.ins 0 (Classical.not_not.1 hc2) h1
      simpa [defsB] using this
theorem blocksF_zero {bs : List SBlock} : ∀ (l : List SBlock) (k : Int) {d : Defs}, (blocksF bs k l d).1 = 0 → DKeys d → (blocksF bs k l d).2 = d ++ defsL k l ∧ DKeys (d ++ defsL k l)
  | [], k, d, _, hd => by simp [blocksF, defsL, hd]
  | b :: l, k, d, h, hd => by
    rw [blocksF] at h ⊢
    split at h
    · rename_i hc; exact absurd h hc
    · rename_i hc
      rw [if_neg hc]
      obtain ⟨e1, h1⟩ := blockF_zero (Classical.not_not.1 hc) hd
      rw [e1] at h ⊢
      have := blocksF_zero l (k + 1) h h1
      simpa [defsL] using this
theorem dkeys_nil : DKeys [] := ⟨List.nodup_nil, fun v hv => by cases hv⟩
theorem FuncOk.defs {f : SFunc} (h : FuncOk f) : (blocksF f.blocks 0 f.blocks []).2 = defsL 0 f.blocks ∧ DKeys (defsL 0 f.blocks) := by simpa using blocksF_zero f.blocks 0 h.blocks dkeys_nil
theorem FuncOk.keys {f : SFunc} (h : FuncOk f) : DKeys (defsL 0 f.blocks) := h.defs.2
theorem dkeys_append (a b : Defs) : dkeys (a ++ b) = dkeys a ++ dkeys b := List.map_append
theorem dkeys_defsP (k : Int) (ps : List Int) : dkeys (defsP k ps) = ps := by simp [dkeys, defsP, List.map_map, Function.comp_def]
theorem dkeys_defsI (k : Int) : ∀ (n : Int) (l : List SIns), dkeys (defsI k n l) = l.map (·.to)
  | n, [] => rfl
  | n, i :: l => by rw [defsI]; show i.to :: dkeys (defsI k (n + 1) l) = _; rw [dkeys_defsI k (n + 1) l]; rfl
theorem dkeys_defsL : ∀ (k : Int) (l : List SBlock), dkeys (defsL k l) = l.flatMap fun b => b.params ++ b.ins.map (·.to)
  | k, [] => rfl
  | k, b :: l => by rw [defsL, dkeys_append, dkeys_defsL (k + 1) l, defsB, dkeys_append, dkeys_defsP, dkeys_defsI]; rfl
theorem nodup_4096 {l : List Int} (h : l.Nodup) (hr : ∀ v ∈ l, 0 ≤ v ∧ v ≤ 4095) : l.length ≤ 4096 := by
  have := h.length_le_of_subset (l₂ := (List.range 4096).map Int.ofNat) fun v hv => by
    have := hr v hv
    exact List.mem_map.2 ⟨v.toNat, List.mem_range.2 (by omega), by show ((v.toNat : Nat) : Int) = v; omega⟩
  simpa using this
theorem FuncOk.block_params {f : SFunc} (h : FuncOk f) {b : SBlock} (hb : b ∈ f.blocks) : b.params.Nodup ∧ (∀ v ∈ b.params, 0 ≤ v ∧ v ≤ 4095) ∧ b.params.length ≤ 4096 := by
  have hk := h.keys
  have hn := hk.nodup
  have hr := hk.range
  rw [dkeys_defsL] at hn hr
  have hsub : List.Sublist b.params (f.blocks.flatMap fun b => b.params ++ b.ins.map (·.to)) := by
    obtain ⟨l1, l2, e⟩ := List.append_of_mem hb
    rw [e, List.flatMap_append, List.flatMap_cons]
    exact ((List.sublist_append_left _ _).trans (List.sublist_append_left _ _)).trans (List.sublist_append_right _ _)
  have h1 := hn.sublist hsub
  have h2 := fun v hv => hr v (hsub.subset hv)
  exact ⟨h1, h2, nodup_4096 h1 h2⟩
theorem paramsOf_get {bs : List SBlock} {k : Int} {b : SBlock} (h : bs[k.toNat]? = some b) : paramsOf bs k = b.params := by rw [paramsOf, h]; rfl
theorem term_ok_of {f : SFunc} (h : FuncOk f) {b : SBlock} (hb : b ∈ f.blocks) : TermOk f b.term := by
  have he := endF_ok (h.block hb).2
  have hs := he.shape
  unfold shapeF at hs
  refine ⟨fun h1 => ?_, fun h2 => ?_, fun h0 h1 h2 h4 => ?_, fun e hm => ?_⟩
  · rw [if_neg (by omega), if_pos h1] at hs
    simp at hs
    omega
  · rw [if_neg (by omega), if_neg (by omega), if_pos h2] at hs
    simp at hs
    omega
  · rw [if_neg h0, if_neg h1, if_neg h2] at hs
    split at hs
    · simp at hs; omega
    · first | cases hs | (rw [if_neg h4] at hs; cases hs)
  · obtain ⟨e1, e2, e3⟩ := he.edges e hm
    obtain ⟨c, hc⟩ := get_of_lt f.blocks e.block.toNat (by omega)
    rw [paramsOf_get hc] at e3
    exact ⟨by omega, ⟨c, hc, e3⟩, by rw [e3]; exact (h.block_params (List.mem_of_getElem? hc)).2.2⟩
theorem form_ok {i : SIns} (h : formF i = 0) : formBad i = false ∧ formLarge i = false ∧ numberF i = true := by
  unfold formF at h
  split at h
  · cases h
  · rename_i h1
    split at h
    · cases h
    · rename_i h2
      split at h
      · rename_i h3; exact ⟨by simpa using h1, by simpa using h2, h3⟩
      · cases h
theorem elem_iff (x : Int) : ∀ l : List Int, elemJ x l = true ↔ x ∈ l
  | [] => by simp [elemJ]
  | y :: l => by
    have := elem_iff x l
    simp [elemJ, this]
structure FormOk (i : SIns) : Prop where
  known : i.op ∈ [0, 1, 2, 3, 4, 5, 6, 7, 8, 9, 10, 11, 12, 13, 14, 15, 16, 17, 18, 19, 20, 21, 22, 23, 24]
  none : i.op = 0 → i.args.length = 0
  two : i.op ∈ op2 → i.args.length = 2
  one : i.op ∈ op1 → i.args.length = 1
  three : i.op = 20 → i.args.length = 3
  pack : i.op = 22 → (i.args.length : Int) = i.n ∧ (i.n = 2 ∨ i.n = 4)
  app : i.op = 14 → 1 ≤ i.args.length
  num : numberF i = true
  many : i.args.length ≤ 16
theorem operands_cases (i : SIns) : (i.op = 0 ∧ operandsF i = (0, true)) ∨ (i.op ∈ op2 ∧ operandsF i = (2, true)) ∨ (i.op = 20 ∧ operandsF i = (3, true)) ∨ (i.op ∈ op1 ∧ operandsF i = (1, true)) ∨ (i.op ∈ opAny ∧ operandsF i = (-1, true)) ∨
    (i.op = 22 ∧ operandsF i = (i.n, decide (i.n = 2) || decide (i.n = 4))) ∨ operandsF i = (0, false) := by
  unfold operandsF
  split
  · rename_i h; exact .inl ⟨h, rfl⟩
  · split
    · rename_i h; exact .inr (.inl ⟨(elem_iff _ _).1 h, rfl⟩)
    · split
      · rename_i h; exact .inr (.inr (.inl ⟨h, rfl⟩))
      · split
        · rename_i h; exact .inr (.inr (.inr (.inl ⟨(elem_iff _ _).1 h, rfl⟩)))
        · split
          · rename_i h; exact .inr (.inr (.inr (.inr (.inl ⟨(elem_iff _ _).1 h, rfl⟩))))
          · split
            · rename_i h; exact .inr (.inr (.inr (.inr (.inr (.inl ⟨h, rfl⟩)))))
            · exact .inr (.inr (.inr (.inr (.inr (.inr rfl)))))
theorem form_of {i : SIns} (h : formF i = 0) : FormOk i := by
  obtain ⟨hb, hl, hn⟩ := form_ok h
  unfold formBad at hb
  unfold formLarge at hl
  simp only [Bool.or_eq_false_iff, Bool.not_eq_false', Bool.and_eq_false_iff, decide_eq_false_iff_not] at hb hl
  obtain ⟨⟨hk, hm⟩, ha⟩ := hb
  rcases operands_cases i with ⟨h1, e⟩ | ⟨h1, e⟩ | ⟨h1, e⟩ | ⟨h1, e⟩ | ⟨h1, e⟩ | ⟨h1, e⟩ | e <;> rw [e] at hk hm
  · simp at hm
    refine ⟨?_, ?_, ?_, ?_, ?_, ?_, ?_, hn, ?_⟩ <;> simp_all [op2, op1]
  · simp only [op2, List.mem_cons, List.not_mem_nil, or_false] at h1
    refine ⟨?_, ?_, ?_, ?_, ?_, ?_, ?_, hn, ?_⟩ <;> first | omega | (simp only [op1, op2, List.mem_cons, List.not_mem_nil, or_false]; omega)
  · refine ⟨?_, ?_, ?_, ?_, ?_, ?_, ?_, hn, ?_⟩ <;> first | omega | (simp only [op1, op2, List.mem_cons, List.not_mem_nil, or_false]; omega)
  · simp only [op1, List.mem_cons, List.not_mem_nil, or_false] at h1
    refine ⟨?_, ?_, ?_, ?_, ?_, ?_, ?_, hn, ?_⟩ <;> first | omega | (simp only [op1, op2, List.mem_cons, List.not_mem_nil, or_false]; omega)
  · simp only [opAny, List.mem_cons, List.not_mem_nil, or_false] at h1
    refine ⟨?_, ?_, ?_, ?_, ?_, ?_, ?_, hn, ?_⟩ <;> first | omega | (simp only [op1, op2, List.mem_cons, List.not_mem_nil, or_false]; omega)
  · simp at hk
    refine ⟨?_, ?_, ?_, ?_, ?_, ?_, ?_, hn, ?_⟩ <;> first | omega | (simp only [op1, op2, List.mem_cons, List.not_mem_nil, or_false]; omega)
  · cases hk
theorem number_nn {i : SIns} (h : numberF i = true) (ho : i.op = 11 ∨ i.op = 24) : 0 ≤ i.n := by
  unfold numberF at h
  rcases ho with ho | ho
  · rw [if_neg (by omega), if_neg (by omega), if_pos ho] at h
    exact (wi_iff.1 h).1
  · have e : elemJ i.op [9, 13] = false := by simp [elemJ, ho]
    rw [if_neg (by omega), if_neg (by omega), if_neg (by omega), if_neg (by rw [e]; decide), if_neg (by omega), if_pos ho] at h
    exact (wi_iff.1 h).1
theorem ins_ok_of {u : SUnit} {i : SIns} (h : formF i = 0) (hc : callF u i = 0) : InsOk u i := by
  have hf := form_of h
  have hk := hf.known
  have hm := hf.many
  have two := hf.two
  have one := hf.one
  have h3 := hf.three
  have hp := hf.pack
  have hz := hf.none
  simp only [op1, op2, List.mem_cons, List.not_mem_nil, or_false] at hk two one
  have callc : i.op = 13 ∨ i.op = 9 → 0 ≤ i.n ∧ i.n < u.fns.length ∧ (i.op = 13 → (entryOf u i.n).length = i.args.length) := fun ho => by
    unfold callF at hc
    rw [if_neg (by omega)] at hc
    split at hc
    · cases hc
    · split at hc
      · cases hc
      · rename_i h1 h2
        refine ⟨form_n h ho, by omega, fun h13 => ?_⟩
        apply Classical.byContradiction
        intro hne
        exact h2 (.inl ⟨h13, hne⟩)
  refine ⟨fun h13 h14 => ⟨?_, by omega, fun ht => ?_, fun ho => ?_, h3, fun ho => number_nn hf.num ho⟩, fun h13 => ?_, hf.app, fun h9 => ?_, by omega⟩
  · rw [elem_iff]
    simp only [List.mem_cons, List.not_mem_nil, or_false]
    omega
  · rw [elem_iff] at ht
    simp only [List.mem_cons, List.not_mem_nil, or_false] at ht
    omega
  · rw [elem_iff] at ho
    simp only [List.mem_cons, List.not_mem_nil, or_false] at ho
    omega
  · have := callc (.inl h13)
    exact ⟨this.1, this.2.1, this.2.2 h13⟩
  · have := callc (.inr h9)
    exact ⟨this.1, this.2.1⟩
structure UnitOk (u : SUnit) : Prop where
  pos : 0 < u.fns.length
  len : u.fns.length ≤ 256
  main : 0 ≤ u.main ∧ u.main < u.fns.length
  fns : ∀ f ∈ u.fns, FuncOk f
  entry : entryOf u u.main = []
  calls : ∀ f ∈ u.fns, ∀ b ∈ f.blocks, ∀ i ∈ b.ins, callF u i = 0
theorem unit_of {u : SUnit} (h : unitF u = 0) : UnitOk u := by
  unfold unitF at h
  split at h
  · cases h
  · rename_i h1
    split at h
    · cases h
    · rename_i h2
      split at h
      · cases h
      · rename_i h3
        split at h
        · rename_i hc; exact absurd h hc
        · rename_i hc
          split at h
          · cases h
          · rename_i h5
            have h3 : wi u.main 0 (u.fns.length - 1) = true := by simpa using h3
            have h3 := wi_iff.1 h3
            have h4 := firstE_ok (Classical.not_not.1 hc)
            refine ⟨by omega, by omega, ⟨h3.1, by omega⟩, fun f hf => func_ok (h4 f hf), ?_, fun f hf b hb i hi => ?_⟩
            · cases he : entryOf u u.main with
              | nil => rfl
              | cons a l => rw [he] at h5; simp at h5
            · exact firstE_ok (firstE_ok (firstE_ok h f hf) b hb) i hi
theorem UnitOk.u {u : SUnit} (h : UnitOk u) : UOk u :=
  ⟨h.main, h.entry, fun f hf => (h.fns f hf).ne, fun f hf b hb => term_ok_of (h.fns f hf) hb, fun f hf b hb i hi => ins_ok_of (((h.fns f hf).block hb).1 i hi) (h.calls f hf b hb i hi)⟩
theorem start_ok' {u : SUnit} (hU : UOk u) {fuel : Int} (h0 : 0 ≤ fuel) (h1 : fuel ≤ 1000000) : MOk u (startF u fuel) := by
  have hm : MOk u ⟨[], fuel, false, false, [], 0, 0, []⟩ := ⟨fun f hf => (by cases hf), fun l hl => (by cases hl), Nat.zero_le _, h0, (by show fuel + (0 : Nat) ≤ 1000001; omega)⟩
  exact enter_ok hU hm (by show fuel + (0 : Nat) ≤ 1000000; omega) hU.main.1 hU.main.2 fun a ha => (by cases ha)
theorem alloc_left (a b : Val) (M : Mach) : (allocF a b M).1.left ≤ M.left := by
  have hp : ∀ n : Int, 0 ≤ n → (payF n M).left ≤ M.left := fun n hn => by unfold payF; split <;> dsimp only <;> omega
  unfold allocF
  split
  · exact Int.le_refl _
  · split
    · exact Int.le_refl _
    · rename_i h
      split <;> exact hp _ (by omega)
theorem effect_left (i : SIns) (args : List Val) (M : Mach) : (effectF i args M).1.left ≤ M.left := by
  have hs : ∀ v l, (setArr M v l).left ≤ M.left := fun v l => by unfold setArr; split <;> exact Int.le_refl _
  unfold effectF
  split
  · split
    · exact Int.le_refl _
    · split <;> exact Int.le_refl _
  · split
    · exact alloc_left _ _ _
    · split
      · split
        · exact Int.le_refl _
        · split <;> exact Int.le_refl _
      · split
        · exact Int.le_refl _
        · split
          · exact Int.le_refl _
          · split
            · exact Int.le_refl _
            · split
              · exact Int.le_refl _
              · exact hs _ _
theorem exec_left (i : SIns) (args : List Val) (M : Mach) : (execF i args M).1.left ≤ M.left := by
  unfold execF
  split
  · exact Int.le_refl _
  · split
    · split <;> exact Int.le_refl _
    · split
      · exact Int.le_refl _
      · split
        · exact Int.le_refl _
        · split
          · exact Int.le_refl _
          · split
            · exact Int.le_refl _
            · split
              · exact Int.le_refl _
              · exact effect_left _ _ _
theorem term_left (u : SUnit) (f : MFrame) (t : STerm) (fs : List MFrame) (M : Mach) : (termF u f t fs M).left = M.left := by
  unfold termF
  split
  · rfl
  · split
    · rfl
    · split
      · unfold leaveF
        split <;> rfl
      · split <;> rfl
theorem step_left (u : SUnit) (M : Mach) : (stepF u M).left ≤ M.left := by
  unfold stepF
  split
  · exact Int.le_refl _
  · dsimp only
    split
    · rw [term_left]; exact Int.le_refl _
    · unfold insF
      dsimp only
      split
      · exact Int.le_refl _
      · split
        · split <;> exact Int.le_refl _
        · split <;> exact exec_left _ _ _
theorem goF_over {u : SUnit} {M : Mach} (h : M.over = true) : ∀ k, goF u k M = M
  | 0 => rfl
  | k + 1 => by rw [goF, if_pos h]
theorem goF_short {u : SUnit} {M : Mach} (h : M.over = false) (k : Nat) (hs : (payF 1 M).short = true) : goF u (k + 1) M = payF 1 M := by rw [goF, if_neg (by rw [h]; decide), if_pos hs]
theorem goF_step {u : SUnit} {M : Mach} (h : M.over = false) (k : Nat) (hs : (payF 1 M).short = false) : goF u (k + 1) M = goF u k (stepF u (payF 1 M)) := by rw [goF, if_neg (by rw [h]; decide), if_neg (by rw [hs]; decide)]
theorem payF_ok {M : Mach} (hs : (payF 1 M).short = false) : payF 1 M = { M with left := M.left - 1 } ∧ 1 ≤ M.left := by
  unfold payF at hs ⊢
  split at hs
  · cases hs
  · rename_i h
    rw [if_neg h]
    exact ⟨rfl, by omega⟩
theorem MOk.paid {u : SUnit} {M : Mach} (h : MOk u M) (h1 : 1 ≤ M.left) : MOk u { M with left := M.left - 1 } := ⟨h.frames, h.heap, h.out, by show 0 ≤ M.left - 1; omega, by have := h.left; show M.left - 1 + (M.stack.length : Int) ≤ 1000001; omega⟩
theorem paid_next {u : SUnit} (hU : UOk u) {M : Mach} (hM : MOk u M) (h1 : 1 ≤ M.left) (ho : M.over = false) (hne : M.stack ≠ []) {k : Nat} (hk : M.left + 1 ≤ ((k + 1 : Nat) : Int)) : (stepF u { M with left := M.left - 1 }).over = true ∨ (stepF u { M with left := M.left - 1 }).stack ≠ [] ∧ (stepF u { M with left := M.left - 1 }).left + 1 ≤ k := by
  obtain ⟨f, fs, hst⟩ := List.exists_cons_of_ne_nil hne
  rcases step_stack (M := { M with left := M.left - 1 }) hU (hM.paid h1) hst ho with h | h
  · exact .inl h
  · have := step_left u { M with left := M.left - 1 }
    exact .inr ⟨h, by dsimp only at this; omega⟩
end Go.SM
