/- Package ssa as functions: how executions end; how fuel counts. -/
import Derived.Test.YtaklonfdckgdbaaS7
set_option linter.unusedVariables false
set_option linter.unusedSimpArgs false
namespace Go.SM
open Go.VL
/-! ### How an execution ends -/
def Fin (M : Mach) : Prop := 0 ≤ M.fin ∧ M.fin ≤ 6 ∧ (M.fin = 0 ∨ M.value = 0)
def TrapOk (u : SUnit) : Prop := ∀ f ∈ u.fns, ∀ b ∈ f.blocks, b.term.kind = 4 → 1 ≤ b.term.n ∧ b.term.n ≤ 6
theorem UnitOk.traps {u : SUnit} (h : UnitOk u) : TrapOk u := fun f hf b hb hk => (endF_ok ((h.fns f hf).block hb).2).trap hk
theorem binary_trap (op a b : Int) : 0 ≤ (binaryF op a b).2 ∧ (binaryF op a b).2 ≤ 6 := by
  unfold binaryF
  repeat' split
  all_goals (dsimp only; omega)
theorem object_trap (i : SIns) (args : List Val) : 0 ≤ (objectF i args).2 ∧ (objectF i args).2 ≤ 6 := by
  unfold objectF
  dsimp only
  repeat' split
  all_goals (dsimp only; omega)
theorem vector_trap (i : SIns) (args : List Val) : 0 ≤ (vectorF i args).2 ∧ (vectorF i args).2 ≤ 6 := by
  unfold vectorF
  repeat' split
  all_goals (dsimp only; omega)
theorem alloc_trap (a b : Val) (M : Mach) : 0 ≤ (allocF a b M).2.2 ∧ (allocF a b M).2.2 ≤ 6 := by
  unfold allocF
  repeat' split
  all_goals (dsimp only; omega)
theorem effect_trap (i : SIns) (args : List Val) (M : Mach) : 0 ≤ (effectF i args M).2.2 ∧ (effectF i args M).2.2 ≤ 6 := by
  unfold effectF
  split
  · repeat' split
    all_goals (dsimp only; omega)
  · split
    · exact alloc_trap _ _ _
    · repeat' split
      all_goals (dsimp only; omega)
theorem exec_trap (i : SIns) (args : List Val) (M : Mach) : 0 ≤ (execF i args M).2.2 ∧ (execF i args M).2.2 ≤ 6 := by
  unfold execF
  split
  · dsimp only; omega
  · split
    · split
      · dsimp only; omega
      · exact binary_trap _ _ _
    · split
      · dsimp only; omega
      · split
        · dsimp only; omega
        · split
          · exact object_trap _ _
          · split
            · exact vector_trap _ _
            · split
              · dsimp only; omega
              · exact effect_trap _ _ _
theorem alloc_keeps (a b : Val) (M : Mach) : (allocF a b M).1.fin = M.fin ∧ (allocF a b M).1.value = M.value := by
  have hp : ∀ n, (payF n M).fin = M.fin ∧ (payF n M).value = M.value := fun n => by unfold payF; split <;> exact ⟨rfl, rfl⟩
  unfold allocF
  split
  · exact ⟨rfl, rfl⟩
  · split
    · exact ⟨rfl, rfl⟩
    · split <;> exact hp _
theorem effect_keeps (i : SIns) (args : List Val) (M : Mach) : (effectF i args M).1.fin = M.fin ∧ (effectF i args M).1.value = M.value := by
  have hs : ∀ v l, (setArr M v l).fin = M.fin ∧ (setArr M v l).value = M.value := fun v l => by unfold setArr; split <;> exact ⟨rfl, rfl⟩
  unfold effectF
  split
  · split
    · exact ⟨rfl, rfl⟩
    · split <;> exact ⟨rfl, rfl⟩
  · split
    · exact alloc_keeps _ _ _
    · split
      · split
        · exact ⟨rfl, rfl⟩
        · split <;> exact ⟨rfl, rfl⟩
      · split
        · exact ⟨rfl, rfl⟩
        · split
          · exact ⟨rfl, rfl⟩
          · split
            · exact ⟨rfl, rfl⟩
            · split
              · exact ⟨rfl, rfl⟩
              · exact hs _ _
theorem exec_keeps (i : SIns) (args : List Val) (M : Mach) : (execF i args M).1.fin = M.fin ∧ (execF i args M).1.value = M.value := by
  unfold execF
  split
  · exact ⟨rfl, rfl⟩
  · split
    · split <;> exact ⟨rfl, rfl⟩
    · split
      · exact ⟨rfl, rfl⟩
      · split
        · exact ⟨rfl, rfl⟩
        · split
          · exact ⟨rfl, rfl⟩
          · split
            · exact ⟨rfl, rfl⟩
            · split
              · exact ⟨rfl, rfl⟩
              · exact effect_keeps _ _ _
theorem Fin.stop {M : Mach} {e n : Int} (h0 : 0 ≤ e) (h6 : e ≤ 6) (hv : e = 0 ∨ n = 0) : Fin (stopF e n M) := ⟨h0, h6, hv⟩
theorem step_fin {u : SUnit} (ht : TrapOk u) {M : Mach} (h : MOk u M) (hf : Fin M) : Fin (stepF u M) := by
  unfold stepF
  split
  · exact hf
  · rename_i f fs hst
    dsimp only
    have hfo := h.frames f (by rw [hst]; exact List.mem_cons_self ..)
    obtain ⟨F, b, hF, hb, hat0, hat⟩ := hfo.code
    have hblk : blockAt u f.fn f.block = b := by rw [blockAt, hF]; simp [hb]
    rw [hblk]
    split
    · unfold termF
      split
      · rename_i h4
        have := ht F (List.mem_of_getElem? hF) b (List.mem_of_getElem? hb) h4
        exact Fin.stop (by omega) this.2 (.inr rfl)
      · split
        · exact hf
        · split
          · unfold leaveF
            split
            · exact hf
            · exact Fin.stop (by omega) (by omega) (.inl rfl)
          · split
            · exact Fin.stop (by omega) (by omega) (.inr rfl)
            · exact hf
    · unfold insF
      dsimp only
      split
      · exact hf
      · split
        · split
          · exact hf
          · exact Fin.stop (by omega) (by omega) (.inr rfl)
        · split
          · have := exec_trap (b.ins[f.at_.toNat]?.getD default) (takeF f.vals (b.ins[f.at_.toNat]?.getD default).args) { M with stack := { f with at_ := f.at_ + 1 } :: fs }
            exact ⟨this.1, this.2, .inr rfl⟩
          · have := exec_keeps (b.ins[f.at_.toNat]?.getD default) (takeF f.vals (b.ins[f.at_.toNat]?.getD default).args) { M with stack := { f with at_ := f.at_ + 1 } :: fs }
            unfold Fin
            dsimp only
            rw [this.1, this.2]
            exact hf
/-- What holds ahead of each step holds at the end. -/
theorem goF_ind {u : SUnit} (P : Mach → Prop) (hp : ∀ M, P M → M.over = false → (payF 1 M).short = true → P (payF 1 M)) (hs : ∀ M, P M → M.over = false → 1 ≤ M.left → P (stepF u { M with left := M.left - 1 })) : ∀ (k : Nat) (M : Mach), P M → P (goF u k M)
  | 0, M, h => h
  | k + 1, M, h => by
    cases ho : M.over with
    | true => rw [goF_over ho]; exact h
    | false =>
      cases hsh : (payF 1 M).short with
      | true => rw [goF_short ho k hsh]; exact hp M h ho hsh
      | false =>
        have := payF_ok hsh
        rw [goF_step ho k hsh, this.1]
        exact goF_ind P hp hs k _ (hs M h ho this.2)
theorem payF_keeps (n : Int) (M : Mach) : (payF n M).out = M.out ∧ (payF n M).fin = M.fin ∧ (payF n M).value = M.value ∧ (payF n M).stack = M.stack ∧ (payF n M).heap = M.heap := by
  unfold payF; split <;> exact ⟨rfl, rfl, rfl, rfl, rfl⟩
theorem payF_short_left {M : Mach} (h : (payF 1 M).short = true) (hs : M.short = false) : payF 1 M = { M with short := true, over := true } := by
  unfold payF at h ⊢
  split at h
  · rename_i hc; rw [if_pos hc]
  · rw [hs] at h; cases h
def Good (u : SUnit) (M : Mach) : Prop := MOk u M ∧ (M.over = true ∨ M.stack ≠ [])
theorem good_step {u : SUnit} (hU : UOk u) {M : Mach} (h : Good u M) (ho : M.over = false) (h1 : 1 ≤ M.left) : Good u (stepF u { M with left := M.left - 1 }) := by
  obtain ⟨hM, hov⟩ := h
  have hne := hov.resolve_left (by rw [ho]; decide)
  obtain ⟨f, fs, hst⟩ := List.exists_cons_of_ne_nil hne
  have hl := hM.left
  have hm : MOk u { M with left := M.left - 1 } := hM.paid h1
  exact ⟨step_ok hU hm (by show M.left - 1 + (M.stack.length : Int) ≤ 1000000; omega), step_stack (M := { M with left := M.left - 1 }) hU hm hst ho⟩
theorem good_pay {u : SUnit} {M : Mach} (h : Good u M) (ho : M.over = false) (hs : (payF 1 M).short = true) : Good u (payF 1 M) := by
  obtain ⟨hM, hov⟩ := h
  unfold payF
  split
  · exact ⟨⟨hM.frames, hM.heap, hM.out, hM.left0, hM.left⟩, .inl rfl⟩
  · rename_i hc
    exact ⟨hM.paid (by omega), hov⟩
theorem good_start {u : SUnit} (hU : UOk u) {fuel : Int} (h0 : 0 ≤ fuel) (h1 : fuel ≤ 1000000) : Good u (startF u fuel) := ⟨start_ok' hU h0 h1, .inr (by simp [startF, enterF])⟩
theorem good_go {u : SUnit} (hU : UOk u) {fuel : Int} (h0 : 0 ≤ fuel) (h1 : fuel ≤ 1000000) (k : Nat) : Good u (goF u k (startF u fuel)) :=
  goF_ind (Good u) (fun M h ho hs => good_pay h ho hs) (fun M h ho h1 => good_step hU h ho h1) k _ (good_start hU h0 h1)
theorem goF_left (u : SUnit) : ∀ (k : Nat) (M : Mach), (goF u k M).left ≤ M.left
  | 0, M => Int.le_refl _
  | k + 1, M => by
    cases ho : M.over with
    | true => rw [goF_over ho]; exact Int.le_refl _
    | false =>
      cases hsh : (payF 1 M).short with
      | true =>
        rw [goF_short ho k hsh]
        unfold payF
        split <;> dsimp only <;> omega
      | false =>
        have := payF_ok hsh
        rw [goF_step ho k hsh, this.1]
        have h1 := goF_left u k (stepF u { M with left := M.left - 1 })
        have h2 := step_left u { M with left := M.left - 1 }
        dsimp only at h2
        omega
theorem go_first (u : SUnit) {M : Mach} (ho : M.over = false) (hs : M.short = false) (h1 : 1 ≤ M.left) (k : Nat) : (goF u (k + 1) M).left ≤ M.left - 1 := by
  have hsf : (payF 1 M).short = false := by
    unfold payF
    rw [if_neg (by omega)]
    exact hs
  rw [goF_step ho k hsf, (payF_ok hsf).1]
  have h1 := goF_left u k (stepF u { M with left := M.left - 1 })
  have h2 := step_left u { M with left := M.left - 1 }
  dsimp only at h2
  omega
/-- The law of SsaEnds. -/
theorem ends_law (u : SUnit) (fuel : Int) : ((runF u fuel).2.2 ≠ 0 → (runF u fuel).2.1 = 0 ∧ (runF u fuel).1 = ⟨[], 0, 0⟩) ∧
    ((runF u fuel).2.2 = 0 → (runF u fuel).1.out.length ≤ 1000 ∧ 0 ≤ (runF u fuel).1.fin ∧ (runF u fuel).1.fin ≤ 6 ∧ ((runF u fuel).1.fin = 0 ∨ (runF u fuel).1.value = 0) ∧ 1 ≤ (runF u fuel).2.1) := by
  unfold runF
  split
  · rename_i h; exact ⟨fun _ => ⟨rfl, rfl⟩, fun h' => absurd h' h⟩
  · rename_i hu
    split
    · exact ⟨fun _ => ⟨rfl, rfl⟩, fun h' => by cases h'⟩
    · rename_i hw
      have hu := unit_of (Classical.not_not.1 hu)
      have hw : wi fuel 1 1000000 = true := by simpa using hw
      have hw := wi_iff.1 hw
      unfold performF
      dsimp only
      split
      · exact ⟨fun _ => ⟨rfl, rfl⟩, fun h' => by cases h'⟩
      · rename_i hsh
        refine ⟨fun h' => absurd rfl h', fun _ => ?_⟩
        have hg := good_go hu.u (fuel := fuel) (by omega) hw.2 (fuel.toNat + 1)
        have hP : Fin (goF u (fuel.toNat + 1) (startF u fuel)) := (goF_ind (fun M => Good u M ∧ Fin M) (fun M h ho hs => ⟨good_pay h.1 ho hs, by
          have := payF_keeps 1 M
          unfold Fin
          rw [this.2.1, this.2.2.1]
          exact h.2⟩) (fun M h ho h1 => ⟨good_step hu.u h.1 ho h1, step_fin hu.traps (h.1.1.paid h1) h.2⟩) (fuel.toNat + 1) (startF u fuel) ⟨good_start hu.u (by omega) hw.2, (by show (0 : Int) ≤ 0; decide), (by show (0 : Int) ≤ 6; decide), .inl rfl⟩).2
        refine ⟨hg.1.out, hP.1, hP.2.1, hP.2.2, ?_⟩
        have := go_first u (M := startF u fuel) rfl rfl (by show 1 ≤ fuel; omega) fuel.toNat
        have e : (startF u fuel).left = fuel := rfl
        dsimp only
        omega
/-! ### Fuel -/
def addL (d : Int) (M : Mach) : Mach := { M with left := M.left + d }
theorem alloc_addL (a b : Val) (M : Mach) (d : Int) (hs : M.short = false) (h : (allocF a b M).1.short = false) :
    (0 ≤ (allocF a b M).1.left + d → 0 ≤ M.left + d → allocF a b (addL d M) = (addL d (allocF a b M).1, (allocF a b M).2)) ∧ (0 ≤ M.left + d → (allocF a b M).1.left + d < 0 → (allocF a b (addL d M)).1.short = true ∧ (allocF a b (addL d M)).1.over = true ∧ (allocF a b (addL d M)).2.2 = 0) := by
  unfold allocF at h ⊢
  split at h
  · rename_i h1
    rw [if_pos h1, if_pos h1]
    exact ⟨fun _ _ => rfl, fun h2 h3 => by dsimp only at h3; omega⟩
  · rename_i h1
    rw [if_neg h1, if_neg h1]
    split at h
    · rename_i h2
      rw [if_pos h2, if_pos h2]
      exact ⟨fun _ _ => rfl, fun h2 h3 => by dsimp only at h3; omega⟩
    · rename_i h2
      rw [if_neg h2, if_neg h2]
      split at h
      · rename_i h3; rw [h3] at h; cases h
      · rename_i h3
        rw [if_neg h3]
        have hp : payF a.n M = { M with left := M.left - a.n } := by
          unfold payF at h3 ⊢
          split at h3
          · exact absurd rfl h3
          · rename_i hc; rw [if_neg hc]
        rw [hp]
        dsimp only
        constructor
        · intro h4 h5
          have hq : payF a.n (addL d M) = { M with left := M.left + d - a.n } := by
            unfold payF
            rw [if_neg (by show ¬ M.left + d < a.n; omega)]
            rfl
          rw [hq, if_neg (by show ¬ M.short = true; rw [hs]; decide)]
          unfold addL
          simp only [Prod.mk.injEq, Mach.mk.injEq, true_and, and_true]
          omega
        · intro h4 h5
          have hq : payF a.n (addL d M) = { addL d M with short := true, over := true } := by
            unfold payF
            rw [if_pos (by show M.left + d < a.n; omega)]
          rw [hq, if_pos rfl]
          exact ⟨rfl, rfl, rfl⟩
theorem exec_addL_ne (i : SIns) (args : List Val) (M : Mach) (d : Int) (h16 : i.op ≠ 16) : execF i args (addL d M) = (addL d (execF i args M).1, (execF i args M).2) ∧ (execF i args M).1.left = M.left ∧ (execF i args M).1.short = M.short ∧ (execF i args M).1.over = M.over := by
  have hs : ∀ v l, setArr (addL d M) v l = addL d (setArr M v l) := fun v l => by unfold setArr; split <;> rfl
  have hs2 : ∀ v l, (setArr M v l).left = M.left ∧ (setArr M v l).short = M.short ∧ (setArr M v l).over = M.over := fun v l => by unfold setArr; split <;> exact ⟨rfl, rfl, rfl⟩
  have ha : ∀ v, arrOf (addL d M) v = arrOf M v := fun v => rfl
  have ho : (addL d M).out = M.out := rfl
  have key : effectF i args (addL d M) = (addL d (effectF i args M).1, (effectF i args M).2) ∧ (effectF i args M).1.left = M.left ∧ (effectF i args M).1.short = M.short ∧ (effectF i args M).1.over = M.over := by
    unfold effectF
    rw [ha, ho, if_neg h16, if_neg h16]
    split
    · split
      · exact ⟨rfl, rfl, rfl, rfl⟩
      · split <;> exact ⟨rfl, rfl, rfl, rfl⟩
    · split
      · split
        · exact ⟨rfl, rfl, rfl, rfl⟩
        · split <;> exact ⟨rfl, rfl, rfl, rfl⟩
      · split
        · exact ⟨rfl, rfl, rfl, rfl⟩
        · split
          · exact ⟨rfl, rfl, rfl, rfl⟩
          · split
            · exact ⟨rfl, rfl, rfl, rfl⟩
            · split
              · exact ⟨rfl, rfl, rfl, rfl⟩
              · exact ⟨by rw [hs], hs2 _ _⟩
  unfold execF
  split
  · exact ⟨rfl, rfl, rfl, rfl⟩
  · split
    · split <;> exact ⟨rfl, rfl, rfl, rfl⟩
    · split
      · exact ⟨rfl, rfl, rfl, rfl⟩
      · split
        · exact ⟨rfl, rfl, rfl, rfl⟩
        · split
          · exact ⟨rfl, rfl, rfl, rfl⟩
          · split
            · exact ⟨rfl, rfl, rfl, rfl⟩
            · split
              · exact ⟨rfl, rfl, rfl, rfl⟩
              · exact key
theorem exec_16 {i : SIns} (args : List Val) (M : Mach) (h : i.op = 16) : execF i args M = allocF (argAt args 0) (argAt args 1) M := by
  unfold execF effectF
  simp [h, elemJ]
theorem exec_addL (i : SIns) (args : List Val) (M : Mach) (d : Int) (hs : M.short = false) (h : (execF i args M).1.short = false) (hd : 0 ≤ M.left + d) :
    (0 ≤ (execF i args M).1.left + d → execF i args (addL d M) = (addL d (execF i args M).1, (execF i args M).2)) ∧ ((execF i args M).1.left + d < 0 → (execF i args (addL d M)).1.short = true ∧ (execF i args (addL d M)).1.over = true ∧ (execF i args (addL d M)).2.2 = 0) := by
  by_cases h16 : i.op = 16
  · rw [exec_16 args M h16] at h ⊢
    rw [exec_16 args (addL d M) h16]
    have := alloc_addL (argAt args 0) (argAt args 1) M d hs h
    exact ⟨fun h1 => this.1 h1 hd, fun h1 => this.2 hd h1⟩
  · have := exec_addL_ne i args M d h16
    exact ⟨fun _ => this.1, fun h1 => by rw [this.2.1] at h1; omega⟩
theorem exec_short {i : SIns} {args : List Val} {M : Mach} (hs : M.short = false) (h : (execF i args M).1.short = true) : (execF i args M).1.over = true ∧ (execF i args M).2.2 = 0 := by
  by_cases h16 : i.op = 16
  · rw [exec_16 args M h16] at h ⊢
    unfold allocF at h ⊢
    split at h
    · rw [hs] at h; cases h
    · rename_i h1
      rw [if_neg h1]
      split at h
      · rw [hs] at h; cases h
      · rename_i h2
        rw [if_neg h2]
        split at h
        · rename_i h3
          rw [if_pos h3]
          unfold payF at h3 ⊢
          split at h3
          · rename_i hc; rw [if_pos hc]; exact ⟨rfl, rfl⟩
          · rw [hs] at h3; cases h3
        · rename_i h3
          exact absurd h h3
  · have := (exec_addL_ne i args M 0 h16).2.2.1
    rw [this, hs] at h
    cases h
theorem term_addL (u : SUnit) (f : MFrame) (t : STerm) (fs : List MFrame) (M : Mach) (d : Int) : termF u f t fs (addL d M) = addL d (termF u f t fs M) ∧ (termF u f t fs M).left = M.left ∧ (termF u f t fs M).short = M.short := by
  unfold termF
  split
  · exact ⟨rfl, rfl, rfl⟩
  · split
    · exact ⟨rfl, rfl, rfl⟩
    · split
      · unfold leaveF
        cases fs <;> exact ⟨rfl, rfl, rfl⟩
      · split <;> exact ⟨rfl, rfl, rfl⟩
theorem step_addL {u : SUnit} {M : Mach} {d : Int} (hs : M.short = false) (h : (stepF u M).short = false) (hd : 0 ≤ M.left + d) :
    (0 ≤ (stepF u M).left + d → stepF u (addL d M) = addL d (stepF u M)) ∧ ((stepF u M).left + d < 0 → (stepF u (addL d M)).short = true ∧ (stepF u (addL d M)).over = true) := by
  unfold stepF at h ⊢
  cases hst : M.stack with
  | nil =>
    have h2 : (addL d M).stack = [] := hst
    rw [h2]
    exact ⟨fun _ => rfl, fun h3 => by dsimp only at h3; omega⟩
  | cons f fs =>
    have h2 : (addL d M).stack = f :: fs := hst
    rw [h2]
    rw [hst] at h
    dsimp only at h ⊢
    split
    · have := term_addL u f (blockAt u f.fn f.block).term fs M d
      exact ⟨fun _ => this.1, fun h3 => by rw [this.2.1] at h3; omega⟩
    · rename_i hne
      rw [if_neg hne] at h
      have e : ({ addL d M with stack := { f with at_ := f.at_ + 1 } :: fs } : Mach) = addL d { M with stack := { f with at_ := f.at_ + 1 } :: fs } := rfl
      rw [e]
      generalize hM1 : ({ M with stack := { f with at_ := f.at_ + 1 } :: fs } : Mach) = M1 at h ⊢
      have hs1 : M1.short = false := by rw [← hM1]; exact hs
      have hd1 : 0 ≤ M1.left + d := by rw [← hM1]; exact hd
      generalize (blockAt u f.fn f.block).ins[f.at_.toNat]?.getD default = i at h ⊢
      unfold insF at h ⊢
      dsimp only at h ⊢
      split
      · exact ⟨fun _ => rfl, fun h3 => by have h3 : M1.left + d < 0 := h3; omega⟩
      · rename_i h13
        rw [if_neg h13] at h
        split
        · split
          · exact ⟨fun _ => rfl, fun h3 => by have h3 : M1.left + d < 0 := h3; omega⟩
          · exact ⟨fun _ => rfl, fun h3 => by have h3 : M1.left + d < 0 := h3; omega⟩
        · rename_i h14
          rw [if_neg h14] at h
          have hsh : (execF i (takeF f.vals i.args) M1).1.short = false := by
            split at h <;> exact h
          have := exec_addL i (takeF f.vals i.args) M1 d hs1 hsh hd1
          constructor
          · intro h3
            have h4 : 0 ≤ (execF i (takeF f.vals i.args) M1).1.left + d := by split at h3 <;> exact h3
            rw [this.1 h4]
            dsimp only
            split <;> rfl
          · intro h3
            have h4 : (execF i (takeF f.vals i.args) M1).1.left + d < 0 := by split at h3 <;> exact h3
            have h5 := this.2 h4
            rw [if_neg (by rw [h5.2.2]; decide)]
            exact ⟨h5.1, h5.2.1⟩
theorem step_short {u : SUnit} {M : Mach} (hs : M.short = false) (h : (stepF u M).short = true) : (stepF u M).over = true := by
  unfold stepF at h ⊢
  cases hst : M.stack with
  | nil => rw [hst] at h; dsimp only at h; rw [hs] at h; cases h
  | cons f fs =>
    rw [hst] at h
    dsimp only at h ⊢
    split at h
    · rename_i hc
      rw [(term_addL u f (blockAt u f.fn f.block).term fs M 0).2.2, hs] at h
      cases h
    · rename_i hne
      rw [if_neg hne]
      generalize hM1 : ({ M with stack := { f with at_ := f.at_ + 1 } :: fs } : Mach) = M1 at h ⊢
      have hs1 : M1.short = false := by rw [← hM1]; exact hs
      generalize (blockAt u f.fn f.block).ins[f.at_.toNat]?.getD default = i at h ⊢
      unfold insF at h ⊢
      dsimp only at h ⊢
      split at h
      · have h : M1.short = true := h
        rw [hs1] at h; cases h
      · rename_i h13
        rw [if_neg h13]
        split at h
        · rename_i h14
          rw [if_pos h14]
          split at h
          · have h : M1.short = true := h
            rw [hs1] at h; cases h
          · rename_i hc
            rw [if_neg hc]
            rfl
        · rename_i h14
          rw [if_neg h14]
          split at h
          · rename_i hc; rw [if_pos hc]; rfl
          · rename_i hc
            rw [if_neg hc]
            exact (exec_short hs1 h).1
theorem go_addL {u : SUnit} {d : Int} : ∀ (k : Nat) (M : Mach), M.short = false → M.over = false → (goF u k M).over = true → (goF u k M).short = false → 0 ≤ M.left + d → ∀ k' : Nat, M.left + d + 1 ≤ k' →
    (0 ≤ (goF u k M).left + d → goF u k' (addL d M) = addL d (goF u k M)) ∧ ((goF u k M).left + d < 0 → (goF u k' (addL d M)).short = true)
  | 0, M, _, ho, h, _, _, _, _ => by
    have h : M.over = true := h
    rw [ho] at h
    cases h
  | k + 1, M, hs, ho, hov, hsh, hd, k', hk => by
    obtain ⟨k', rfl⟩ : ∃ j, k' = j + 1 := ⟨k' - 1, by omega⟩
    have hoA : (addL d M).over = false := ho
    cases hp : (payF 1 M).short with
    | true =>
      rw [goF_short ho k hp] at hsh
      rw [hp] at hsh
      cases hsh
    | false =>
      obtain ⟨e1, hl1⟩ := payF_ok hp
      rw [goF_step ho k hp, e1] at hov hsh ⊢
      have hle := goF_left u k (stepF u { M with left := M.left - 1 })
      have hst := step_left u { M with left := M.left - 1 }
      dsimp only at hst
      by_cases hz : M.left + d < 1
      · have hpA : (payF 1 (addL d M)).short = true := by
          unfold payF
          rw [if_pos (by show M.left + d < 1; exact hz)]
        rw [goF_short hoA k' hpA]
        exact ⟨fun h => by omega, fun _ => hpA⟩
      · have hpA : (payF 1 (addL d M)).short = false := by
          unfold payF
          rw [if_neg (by show ¬ M.left + d < 1; exact hz)]
          exact hs
        have e2 := (payF_ok hpA).1
        have e3 : ({ addL d M with left := (addL d M).left - 1 } : Mach) = addL d { M with left := M.left - 1 } := by
          unfold addL
          simp only [Mach.mk.injEq, true_and, and_true]
          omega
        rw [goF_step hoA k' hpA, e2, e3]
        have hs1 : ({ M with left := M.left - 1 } : Mach).short = false := hs
        have hd1 : 0 ≤ ({ M with left := M.left - 1 } : Mach).left + d := by dsimp only; omega
        generalize hM1 : ({ M with left := M.left - 1 } : Mach) = M1 at *
        have hl2 : M1.left = M.left - 1 := by rw [← hM1]
        cases ho2 : (stepF u M1).over with
        | true =>
          rw [goF_over ho2] at hov hsh ⊢
          have := step_addL (d := d) hs1 hsh hd1
          constructor
          · intro h
            rw [this.1 h]
            exact goF_over (M := addL d (stepF u M1)) ho2 _
          · intro h
            have := this.2 h
            rw [goF_over this.2]
            exact this.1
        | false =>
          have hs2 : (stepF u M1).short = false := by
            cases hx : (stepF u M1).short with
            | false => rfl
            | true => rw [step_short hs1 hx] at ho2; cases ho2
          have := step_addL (d := d) hs1 hs2 hd1
          by_cases hz2 : (stepF u M1).left + d < 0
          · have h5 := this.2 hz2
            rw [goF_over h5.2]
            exact ⟨fun h => by omega, fun _ => h5.1⟩
          · rw [this.1 (by omega)]
            exact go_addL k (stepF u M1) hs2 ho2 hov hsh (by omega) k' (by omega)
theorem goF_end {u : SUnit} (hU : UOk u) : ∀ (k : Nat) (M : Mach), Good u M → (M.over = false → M.short = false) → M.left + 1 ≤ k → (goF u k M).over = true
  | 0, M, hg, _, h => by have := hg.1.left0; omega
  | k + 1, M, hg, hso, h => by
    cases ho : M.over with
    | true => rw [goF_over ho]; exact ho
    | false =>
      cases hp : (payF 1 M).short with
      | true =>
        rw [goF_short ho k hp, payF_short_left hp (hso ho)]
      | false =>
        obtain ⟨e, h1⟩ := payF_ok hp
        rw [goF_step ho k hp, e]
        have := step_left u { M with left := M.left - 1 }
        dsimp only at this
        refine goF_end hU k _ (good_step hU hg ho h1) (fun h2 => ?_) (by omega)
        cases hx : (stepF u { M with left := M.left - 1 }).short with
        | false => rfl
        | true =>
          have := step_short (M := { M with left := M.left - 1 }) (hso ho) hx
          rw [h2] at this
          cases this
theorem start_addL (u : SUnit) (a d : Int) : addL d (startF u a) = startF u (a + d) := rfl
theorem run_perform {u : SUnit} (hu : unitF u = 0) {f : Int} (h1 : 1 ≤ f) (h2 : f ≤ 1000000) : runF u f = performF u f := by
  unfold runF
  rw [if_neg (by rw [hu]; decide), if_neg (by rw [wi_iff.2 ⟨h1, h2⟩]; decide)]
theorem run_ok {u : SUnit} {f : Int} (h : (runF u f).2.2 = 0) : unitF u = 0 ∧ 1 ≤ f ∧ f ≤ 1000000 := by
  unfold runF at h
  split at h
  · rename_i hc; exact absurd h hc
  · rename_i hc
    split at h
    · cases h
    · rename_i hw
      have hw : wi f 1 1000000 = true := by simpa using hw
      exact ⟨Classical.not_not.1 hc, wi_iff.1 hw⟩
theorem perform_eq (u : SUnit) (f : Int) : performF u f = if (goF u (f.toNat + 1) (startF u f)).short then (⟨[], 0, 0⟩, 0, 13) else (⟨(goF u (f.toNat + 1) (startF u f)).out, (goF u (f.toNat + 1) (startF u f)).fin, (goF u (f.toNat + 1) (startF u f)).value⟩, f - (goF u (f.toNat + 1) (startF u f)).left, 0) := rfl
/-- How executions with other fuel follow from one that ends. -/
theorem perform_fuel {u : SUnit} (hU : UOk u) {a b : Int} (ha : 1 ≤ a) (ha2 : a ≤ 1000000) (hb : 0 ≤ b) (h : (performF u a).2.2 = 0) : ((performF u a).2.1 ≤ b → performF u b = performF u a) ∧ (b < (performF u a).2.1 → (performF u b).2.2 = 13) := by
  have hov := goF_end hU (a.toNat + 1) (startF u a) (good_start hU (by omega) ha2) (fun _ => rfl) (by show a + 1 ≤ _; omega)
  rw [perform_eq] at h ⊢
  rw [perform_eq u b]
  split at h
  · cases h
  · rename_i hsh
    have hsh : (goF u (a.toNat + 1) (startF u a)).short = false := by simpa using hsh
    rw [if_neg (by rw [hsh]; decide)]
    have key := go_addL (d := b - a) (a.toNat + 1) (startF u a) rfl rfl hov hsh (by show 0 ≤ a + (b - a); omega) (b.toNat + 1) (by show a + (b - a) + 1 ≤ _; omega)
    rw [start_addL, show a + (b - a) = b by omega] at key
    generalize goF u (a.toNat + 1) (startF u a) = Mf at *
    constructor
    · intro h1
      dsimp only at h1
      rw [key.1 (by omega)]
      rw [if_neg (by show ¬ Mf.short = true; rw [hsh]; decide)]
      show (_, b - (Mf.left + (b - a)), (0 : Int)) = (_, a - Mf.left, 0)
      rw [show b - (Mf.left + (b - a)) = a - Mf.left by omega]
      rfl
    · intro h1
      dsimp only at h1
      rw [if_pos (key.2 (by omega))]
/-- The law of SsaFuel. -/
theorem fuel_law (u : SUnit) (h : (runF u 2000).2.2 = 0) : (runF u 2000).2.1 ≤ 2000 ∧ runF u (runF u 2000).2.1 = ((runF u 2000).1, (runF u 2000).2.1, 0) ∧ ((runF u 2000).2.1 ≠ 1 → (runF u ((runF u 2000).2.1 - 1)).2.2 = 13) := by
  have hn := ((ends_law u 2000).2 h).2.2.2.2
  obtain ⟨hu, _, _⟩ := run_ok h
  have hU := (unit_of hu).u
  have e2 : runF u 2000 = performF u 2000 := run_perform hu (by omega) (by omega)
  rw [e2] at h hn ⊢
  have hl := (good_go hU (fuel := 2000) (by omega) (by omega) 2001).1.left0
  have h2 : (performF u 2000).2.1 ≤ 2000 := by
    rw [perform_eq]
    split
    · show (0 : Int) ≤ 2000; decide
    · show (2000 : Int) - (goF u 2001 (startF u 2000)).left ≤ 2000; omega
  rw [run_perform hu hn (by omega)]
  refine ⟨h2, ?_, fun h1 => ?_⟩
  · rw [(perform_fuel hU (a := 2000) (b := (performF u 2000).2.1) (by omega) (by omega) (by omega) h).1 (Int.le_refl _)]
    conv => rhs; rw [← h]
  · rw [run_perform hu (by omega) (by omega)]
    exact (perform_fuel hU (a := 2000) (b := (performF u 2000).2.1 - 1) (by omega) (by omega) (by omega) h).2 (by omega)
end Go.SM
