import Derived.Test.YtjekhhgjfelpgaaVE
set_option linter.unusedVariables false
set_option linter.unusedSimpArgs false
namespace Go.VL
section
variable {G : Type} (ops : List Oper) (F0 : Fr) (ps : List DP) (un : List Nat) (St : List Nat → (Nat → G) → Store)
end
section
variable {G : Type} {ops : List Oper} {F0 : Fr} {ps : List DP} {un : List Nat} {nt : Nat} {ws : List Nat}
structure CheckedM (ops : List Oper) (ps : List DP) (un : List Nat) (nt : Nat) (ws : List Nat) : Prop where
  dst : ∀ (i : Nat) (o : Oper), ops[i]? = some o → dstOk nt o.dst = true
  wr : ∀ (i : Nat) (o : Oper) (d : Nat), ops[i]? = some o → o.dst = some d → d ∈ ws
  edge : ∀ (i : Nat) (o : Oper), ops[i]? = some o → ∀ e ∈ o.after, Region.binds .any e = true → e.on < i ∧ e.on ∈ (dpAt ps i).1
  pre : ∀ (i : Nat) (o : Oper), ops[i]? = some o → ∀ k ∈ (dpAt ps i).1, k < i ∧ ∃ e ∈ o.after, Region.binds .any e = true ∧ (k = e.on ∨ k ∈ (dpAt ps e.on).1)
  ord : ∀ (i : Nat) (o : Oper), ops[i]? = some o → ∀ s, s ∈ (dpAt ps i).2.1 ∨ o.dst = some s → ∀ k, k < ops.length → k ≠ i → isDst ops k s = true → k ∈ (dpAt ps i).1 ∨ i ∈ (dpAt ps k).1
  js : ∀ (i : Nat) (o : Oper), ops[i]? = some o → ∀ j ∈ (dpAt ps i).2.2, ∃ u, un[j]? = some u ∧ (u = i ∨ u ∈ (dpAt ps i).1)
  ulen : ∀ u ∈ un, u < ops.length
  uinj : ∀ (q q' u : Nat), un[q]? = some u → un[q']? = some u → q = q'
  desc : ∀ i, ((dpAt ps i).1).Pairwise (· > ·)
end
section
variable {G : Type} {P : Program} {nt : Nat} {ops : List Oper} {F0 : Fr} {S0 : Store}
structure DInvM (ops : List Oper) (F0 : Fr) (S0 : Store) (nt : Nat) (ps : List DP) (un : List Nat) (St : List Nat → (Nat → G) → Store) (full : List (DRes G)) (m0 : Mem) (w0 : World) (listed : Array Bool) (γ : Nat → G) (dn : Nat → Bool) (m : Mem) (w : World) (a : Act) : Prop where
  size : listed.size = ops.length
  closed : ∀ k, lis listed k → ∀ k' ∈ (dpAt ps k).1, lis listed k'
  stage : ∀ (p u : Nat), un[p]? = some u → (lis listed u ↔ dn p = true)
  defers : a.defers = []
  tmps : a.tmps.size = nt
  look : ∀ s, ∃ r, lookS ops F0 ps full γ s (lis listed) r ∧ ∀ v, r = some v → Rep m v (a.tmps.getD s undef)
  step : Step m0 S0 w0 m (St ((List.range un.length).filter dn) γ) w
variable {ps : List DP} {un : List Nat} {St : List Nat → (Nat → G) → Store} {full : List (DRes G)} {m0 : Mem} {w0 : World} {ws : List Nat}
theorem DInvM.next (C : CheckedM ops ps un nt ws) {listed : Array Bool} {γ γ2 : Nat → G} {dn dn2 : Nat → Bool} {m m2 : Mem} {w w2 : World} {a : Act} {i : Nat} {o : Oper} {R : DRes G} {r : Option V} {u : Value} (h : DInvM ops F0 S0 nt ps un St full m0 w0 listed γ dn m w a)
    (ho : ops[i]? = some o) (hni : ¬ lis listed i) (hpre : ∀ k ∈ (dpAt ps i).1, lis listed k) (hR : full[i]? = some R) (hres : R ((dpAt ps i).2.2.map γ2) r) (hru : RepO m2 r u) (hg : ∀ j, dn j = true → γ2 j = γ j)
    (hstage : ∀ (p u : Nat), un[p]? = some u → ((lis listed u ∨ u = i) ↔ dn2 p = true)) (hst : Step m (St ((List.range un.length).filter dn) γ) w m2 (St ((List.range un.length).filter dn2) γ2) w2) :
    DInvM ops F0 S0 nt ps un St full m0 w0 (listed.setIfInBounds i true) γ2 dn2 m2 w2 (a.put o.dst u) := by
  have hi : i < listed.size := by rw [h.size]; exact (List.getElem?_eq_some_iff.1 ho).1
  have hjs : ∀ k o', ops[k]? = some o' → lis listed k → (dpAt ps k).2.2.map γ2 = (dpAt ps k).2.2.map γ := fun k o' ho' hk => by
    apply List.map_congr_left
    intro j hj
    obtain ⟨u', hu', hor⟩ := C.js k o' ho' j hj
    have hlu : lis listed u' := by
      rcases hor with rfl | hp
      · exact hk
      · exact h.closed k hk u' hp
    exact hg j ((h.stage j u' hu').1 hlu)
  refine ⟨by simpa using h.size, ?_, ?_, ?_, ?_, ?_, h.step.trans hst⟩
  · intro k hk k' hk'
    rw [lis_set hi] at hk ⊢
    rcases hk with hk | rfl
    · exact .inl (h.closed k hk k' hk')
    · exact .inl (hpre k' hk')
  · intro p u' hu'
    rw [lis_set hi]
    exact hstage p u' hu'
  · cases hd : o.dst <;> exact h.defers
  · cases hd : o.dst with
    | none => exact h.tmps
    | some d => simp [Act.put, h.tmps]
  · intro s
    by_cases hd : o.dst = some s
    · refine ⟨r, .inl ⟨i, R, (lis_set hi).2 (.inr rfl), (isDst_of ho).2 hd, fun k' hk' hd' => ?_, by rw [nth_eq]; exact hR, hres⟩, fun v hv => ?_⟩
      · rcases (lis_set hi).1 hk' with hk | rfl
        · by_cases hki : k' = i
          · omega
          · rcases C.ord i o ho s (.inr hd) k' (by have := lis_lt hk; rw [h.size] at this; exact this) hki hd' with h1 | h1
            · exact Nat.le_of_lt (C.pre i o ho k' h1).1
            · exact absurd (h.closed k' hk i h1) hni
        · exact Nat.le_refl _
      · subst hv
        have hs : s < a.tmps.size := by
          have := C.dst i o ho
          rw [hd] at this
          rw [h.tmps]
          exact Nat.le_of_ble_eq_true (n := s + 1) this
        rw [hd]
        have hru' : Rep m2 v u := hru
        simpa [Act.put, hs] using hru'
    · obtain ⟨r', hl, hv⟩ := h.look s
      refine ⟨r', ?_, fun v hv' => ?_⟩
      · rcases hl with ⟨k, R', hk, hdk, hm, hn, hR'⟩ | ⟨hk, hr⟩
        · have hkn : k < ops.length := by have := lis_lt hk; rw [h.size] at this; exact this
          refine .inl ⟨k, R', (lis_set hi).2 (.inl hk), hdk, fun k' hk' hd' => ?_, hn, ?_⟩
          · rcases (lis_set hi).1 hk' with hk'' | rfl
            · exact hm k' hk'' hd'
            · exact absurd ((isDst_of ho).1 hd') hd
          · rw [hjs k _ (List.getElem?_eq_getElem hkn) hk]
            exact hR'
        · refine .inr ⟨fun k hk' => ?_, hr⟩
          rcases (lis_set hi).1 hk' with hk'' | rfl
          · exact hk k hk''
          · rw [← Bool.not_eq_true]
            exact fun hd' => hd ((isDst_of ho).1 hd')
      · have := Rep.mono hst.mono _ _ (hv v hv')
        cases hdd : o.dst with
        | none => exact this
        | some d =>
          have hne : d ≠ s := fun e => hd (by rw [hdd, e])
          simpa [Act.put, Array.getElem?_setIfInBounds_ne hne] using this
theorem Needs.mono {acc : List (DRes G)} {γ : Nat → G} {pre : List Nat} : ∀ {slots : List Nat} {k k' : Fr → Prop}, Needs ops F0 ps acc γ pre slots k → (∀ F, k F → k' F) → Needs ops F0 ps acc γ pre slots k'
  | [], k, k', h, hk => hk _ h
  | s :: t, k, k', h, hk => fun r hr => Needs.mono (h r hr) fun F => hk _
theorem VOpG.mono {o : Oper} {F : Fr} {S : Store} {K K' : Option V → Store → Prop} (h : VOpG ops P nt o F S K) (hk : ∀ r S', K r S' → K' r S') : VOpG ops P nt o F S K' := by
  obtain ⟨b, h1, h2, h3⟩ := h
  exact ⟨b, h1, fun hb => (h2 hb).mono hk, fun hb => hk _ _ (h3 hb)⟩
variable {i : Nat} {o : Oper} {acc : List (DRes G)} {R : DRes G}
end
end Go.VL
