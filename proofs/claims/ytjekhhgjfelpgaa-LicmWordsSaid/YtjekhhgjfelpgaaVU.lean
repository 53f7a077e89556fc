import Derived.Test.YtjekhhgjfelpgaaVO
set_option linter.unusedVariables false
namespace Go.VL
def Own.thin (e : Own) : Prop := ∃ g T ls, e = .cells g T ls ∧ ∀ v ∈ ls, ∃ x, v = V.raw x
theorem repL_thin {m m' : Mem} : ∀ {ls : List V} {us : List Value}, (∀ v ∈ ls, ∃ x, v = V.raw x) → RepL m ls us → RepL m' ls us
  | [], us, _, h => h
  | v :: ls, us, hv, ⟨u, us', e, r, k⟩ => by
    obtain ⟨x, rfl⟩ := hv v (List.mem_cons_self ..)
    exact ⟨u, us', e, r, repL_thin (fun y hy => hv y (List.mem_cons_of_mem _ hy)) k⟩
theorem VCalls.borrow {P : Program} {f : FuncId} {args args' : List V} {S : Store} {R : V → Store → Prop} {g n cap sz : Nat} {T : TypeId} {ls rest : List V} (xs : List V) (h : VCalls P f args' S R)
    (hls : ls = xs.flatMap V.leaves ++ rest) (hn : xs.length = n) (hcap : n ≤ cap) (hm : cap ≤ maxLen) (hx : ∀ x ∈ xs, x.fits sz = true ∧ ((∃ ls, x = .agg ls) ∨ x.leaf = true))
    (harg : ∀ m us, Rep m (.sl sz none xs) (.slice (some ⟨g, 0, none⟩) n cap) → RepL m args us → RepL m args' us)
    (hR : ∀ r S', R r S' → (∀ m m' u, Rep m r u → Rep m' r u) ∧ ∀ e ∈ S', Own.thin e) :
    VCalls P f args (.cells g T ls :: S) fun r S' => ∃ S1, R r S1 ∧ S' = .cells g T ls :: S1 := by
  intro m w us hu hw
  obtain ⟨hall, ⟨cs, hh, hr⟩, hnone⟩ := own_cells hw (i := 0) rfl
  have hsub : Sub m (m.frozen g cs.toList) := fun b o v hv => by
    unfold Mem.frozen
    by_cases hb : b = g
    · subst hb; rw [hnone o] at hv; cases hv
    · rw [if_neg hb]; exact hv
  have hne : ∀ b o, b ≠ g → m.frozen g cs.toList b o = m b o := fun b o hb => by unfold Mem.frozen; rw [if_neg hb]
  have hnd := hw.nodup
  have hdom : dom (Own.cells g T ls :: S) = g :: dom S := rfl
  rw [hdom] at hnd
  have hgS := (List.nodup_cons.1 hnd).1
  have hw1 : WRel (m.frozen g cs.toList) S w := by
    refine ⟨fun b o v hv => ?_, (List.nodup_cons.1 hnd).2, fun e he => ?_⟩
    · unfold Mem.frozen at hv
      by_cases hb : b = g
      · subst hb
        rw [if_pos rfl] at hv
        exact cell_at hh hv
      · rw [if_neg hb] at hv
        exact hw.agree b o v hv
    · refine Own.holds_kept (hw.holds e (List.mem_cons_of_mem _ he)) hsub (fun _ _ => rfl) fun g' hg' o v hv => ?_
      have hne : g' ≠ g := fun h => hgS (by rw [← h]; exact List.mem_filterMap.2 ⟨e, he, hg'⟩)
      unfold Mem.frozen at hv
      rwa [if_neg hne] at hv
  have hrep : Rep (m.frozen g cs.toList) (.sl sz none xs) (.slice (some ⟨g, 0, none⟩) n cap) := by
    rw [hls] at hr
    have h1 := hr.take (xs.flatMap V.leaves).length
    rw [List.take_left' rfl] at h1
    have hF := (repL_flat_repF h1 hx).mono hsub
    refine ⟨_, cap, by rw [hn], by rw [hn]; exact hcap, hm, trivial, .inr ⟨g, 0, rfl, hF.els fun j u hu => ?_⟩⟩
    unfold Mem.frozen
    rw [if_pos rfl, Nat.zero_add]
    rw [List.getElem?_take] at hu
    split at hu
    · exact hu
    · cases hu
  refine (h _ w us (harg _ us hrep (RepL.mono hsub _ _ hu)) hw1).mono fun e w' ⟨r, S', m', u, k, he, hr', st⟩ => ?_
  obtain ⟨k1, k2⟩ := hR r S' k
  have hg : g < w.heap.size := (Array.getElem?_eq_some_iff.1 hh).1
  have hgS' : g ∉ dom S' := fun hm => by
    rcases st.domn g hm with h | h
    · exact hgS h
    · omega
  have hheap : w'.heap[g]? = w.heap[g]? := st.heap g hg hgS
  obtain ⟨m2, hm2⟩ : ∃ m2 : Mem, m2 = fun b o => if b = g then none else m' b o := ⟨_, rfl⟩
  have hin : ∀ b o v, m2 b o = some v → b ≠ g ∧ m' b o = some v := fun b o v hv => by
    rw [hm2] at hv
    dsimp only at hv
    by_cases hb : b = g
    · rw [if_pos hb] at hv; cases hv
    · rw [if_neg hb] at hv; exact ⟨hb, hv⟩
  have hsub2 : Sub m m2 := fun b o v hv => by
    have hb : b ≠ g := fun e => by subst e; rw [hnone o] at hv; cases hv
    rw [hm2]
    dsimp only
    rw [if_neg hb]
    exact st.mono b o v (by rw [hne b o hb]; exact hv)
  have hnone2 : ∀ g' o, m' g' o = none → m2 g' o = none := fun g' o h0 => by
    cases hc : m2 g' o with
    | none => rfl
    | some v => rw [(hin g' o v hc).2] at h0; cases h0
  refine ⟨r, .cells g T ls :: S', m2, u, ⟨S', k, rfl⟩, he, k1 _ _ _ hr', ⟨⟨fun b o v hv => st.rel.agree b o v (hin b o v hv).2, ?_, fun e' he' => ?_⟩, st.os, st.tape, st.output, st.size, fun b hb hbS => st.heap b hb (fun hm => hbS (List.mem_cons_of_mem _ hm)), hsub2, fun b o v hv => ?_, fun b hb => ?_⟩⟩
  · show (g :: dom S').Nodup
    exact List.nodup_cons.2 ⟨hgS', st.rel.nodup⟩
  · rcases List.mem_cons.1 he' with rfl | he'
    · exact ⟨hall, ⟨cs, by rw [hheap]; exact hh, RepL.mono hsub2 _ _ hr⟩, fun o => by rw [hm2]; exact if_pos rfl⟩
    · obtain ⟨g2, T2, ls2, rfl, hraw⟩ := k2 e' he'
      obtain ⟨a1, ⟨cs2, a2, a3⟩, a4⟩ := st.rel.holds _ he'
      exact ⟨a1, ⟨cs2, a2, repL_thin hraw a3⟩, fun o => hnone2 g2 o (a4 o)⟩
  · obtain ⟨hb, hv⟩ := hin b o v hv
    rcases st.only b o v hv with h | h | h
    · exact .inl (by rw [← hne b o hb]; exact h)
    · exact .inr (.inl (List.mem_cons_of_mem _ h))
    · exact .inr (.inr h)
  · rcases List.mem_cons.1 (show b ∈ g :: dom S' from hb) with rfl | hb
    · exact .inl (List.mem_cons_self ..)
    · rcases st.domn b hb with h | h
      · exact .inl (List.mem_cons_of_mem _ h)
      · exact .inr h
end Go.VL
