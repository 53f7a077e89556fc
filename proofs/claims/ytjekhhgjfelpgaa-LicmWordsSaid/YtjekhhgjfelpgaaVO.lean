import Derived.Test.YtjekhhgjfelpgaaVM
set_option linter.unusedVariables false
namespace Go.VL
theorem RepEls.conv {m : Mem} {sz b : Nat} : ∀ {xs ys : List V} {off : Nat}, xs.length = ys.length → (∀ (p : Nat) (x y : V), xs[p]? = some x → ys[p]? = some y → ∀ u, Rep m x u → Rep m y u) → RepEls m sz b off xs → RepEls m sz b off ys
  | [], [], _, _, _, _ => trivial
  | [], y :: ys, _, h, _, _ => by simp at h
  | x :: xs, [], _, h, _, _ => by simp at h
  | x :: xs, y :: ys, off, h, hc, ⟨⟨u, r, l, o, t⟩, k⟩ => ⟨⟨u, hc 0 x y rfl rfl u r, l, o, t⟩, RepEls.conv (by simpa using h) (fun p x' y' hx hy => hc (p + 1) x' y' (by simpa using hx) (by simpa using hy)) k⟩
theorem Rep_sl_conv {m : Mem} {sz : Nat} {tok : Option Tok} {xs ys : List V} {u : Value} (hl : xs.length = ys.length) (hc : ∀ (p : Nat) (x y : V), xs[p]? = some x → ys[p]? = some y → ∀ u, Rep m x u → Rep m y u) (h : Rep m (.sl sz tok xs) u) : Rep m (.sl sz tok ys) u := by
  obtain ⟨A, cap, e, l, hm, t, r⟩ := h
  refine ⟨A, cap, by rw [← hl]; exact e, by rw [← hl]; exact l, hm, t, ?_⟩
  rcases r with r | ⟨b, off, ea, re⟩
  · left
    subst r
    exact List.length_eq_zero_iff.1 hl.symm
  · exact .inr ⟨b, off, ea, re.conv hl hc⟩
section
variable {P : Program} {nt : Nat} {F : Fr} {S : Store} {K : Option V → Store → Prop}
variable {d : Option Tmp} {ty : TypeId} {pos : String} {af : Array Edge} {gd : Option (Nat × Bool)}
theorem V_append0D {t e sz bytes : Nat} {z : Value} {s x : Operand} {tx : Option Tok} {ys : List V} (ht : SliceTy P t e sz bytes z) (hs : F.ev s = some (.sl sz (some .zero) [])) (hx : F.ev x = some (.sl sz tx ys))
    (hb : ys.length * bytes ≤ 140737488355328) (hk : K (some (.sl sz none ys)) S) :
    VOp P nt ⟨d, .call ⟨.builtin .append, #[s, x], #[t, t]⟩, ty, pos, af, gd⟩ F S K := by
  have h1 : VOp P nt ⟨d, .call ⟨.builtin .append, #[s, x], #[t, t]⟩, ty, pos, af, gd⟩ F S fun r S' => ∃ tok, r = some (.sl sz (some tok) ys) ∧ S' = S :=
    VOp.drops (V_append0 (K := fun r S' => ∃ tok, r = some (.sl sz (some tok) ys) ∧ S' = .buf tok e sz ys.length :: S) ht hs hx hb fun t => ⟨t, rfl, rfl⟩) fun r S' ⟨tok, e1, e2⟩ => ⟨S, by rw [e2]; exact .drop (.refl _), tok, e1, rfl⟩
  intro m w a KK QQ hf hw hK
  refine h1 m w a KK QQ hf hw fun r S' m' w' u ⟨tok, h1, h2⟩ hru st => ?_
  subst h1
  subst h2
  exact hK _ _ m' w' u hk (V.le.strip _ _ hru) st
end
def fourSt {G : Type} (A : Store) (B : G → Store) (C : G → G → Store) (D : G → G → G → Store) : Nat → List G → Store
  | 0, _ => A
  | 1, [x] => B x
  | 2, [x, y] => C x y
  | 3, [x, y, z] => D x y z
  | _, _ => []
section
variable {P : Program} {nt : Nat} {F : Fr} {S : Store} {Q : Exit → Fr → Store → Prop}
theorem VW_freezeS (i k j : Nat) {g n cap sz gc szb : Nat} {T Tc : TypeId} {ls rest lc : List V} {tok : Option Tok} {ys ys' : List V} (xs : List V) {c : Code} (hS : S[i]? = some (.cells g T ls)) (hC : (S.eraseIdx i)[k]? = some (.cells gc Tc lc)) (hj : lc[j]? = some (.sl szb tok ys))
    (hls : ls = xs.flatMap V.leaves ++ rest) (hn : xs.length = n) (hcap : n ≤ cap) (hm : cap ≤ maxLen)
    (hx : ∀ x ∈ xs, x.fits sz = true ∧ ((∃ ls, x = .agg ls) ∨ x.leaf = true))
    (hl : ys.length = ys'.length) (hc : ∀ m, Rep m (.sl sz none xs) (.slice (some ⟨g, 0, none⟩) n cap) → ∀ (p : Nat) (y y' : V), ys[p]? = some y → ys'[p]? = some y' → ∀ u, Rep m y u → Rep m y' u)
    (h : VW P nt c Q F ((S.eraseIdx i).set k (.cells gc Tc (lc.set j (.sl szb tok ys'))))) : VW P nt c Q F S := by
  intro m w a QQ hf hw hK
  obtain ⟨hall, ⟨cs, hh, hr⟩, hnone⟩ := own_cells hw hS
  have hw2 := hw.perm (perm_erase hS)
  have hsub : Sub m (m.frozen g cs.toList) := fun b o v hv => by
    unfold Mem.frozen
    by_cases hb : b = g
    · subst hb; rw [hnone o] at hv; cases hv
    · rw [if_neg hb]; exact hv
  have hst : Step m S w (m.frozen g cs.toList) (S.eraseIdx i) w := by
    have hnd := hw2.nodup
    have hdom : dom (Own.cells g T ls :: S.eraseIdx i) = g :: dom (S.eraseIdx i) := rfl
    rw [hdom] at hnd
    have hgS : g ∈ dom S := List.mem_filterMap.2 ⟨_, List.mem_of_getElem? hS, rfl⟩
    refine ⟨⟨fun b o v hv => ?_, (List.nodup_cons.1 hnd).2, fun e he => ?_⟩, rfl, rfl, rfl, Nat.le_refl _, fun _ _ _ => rfl, hsub, fun b o v hv => ?_, fun b hb => .inl ?_⟩
    · unfold Mem.frozen at hv
      by_cases hb : b = g
      · subst hb
        rw [if_pos rfl] at hv
        exact cell_at hh hv
      · rw [if_neg hb] at hv
        exact hw.agree b o v hv
    · refine Own.holds_kept (hw2.holds e (List.mem_cons_of_mem _ he)) hsub (fun _ _ => rfl) fun g' hg' o v hv => ?_
      have hne : g' ≠ g := fun h => (List.nodup_cons.1 hnd).1 (by rw [← h]; exact List.mem_filterMap.2 ⟨e, he, hg'⟩)
      unfold Mem.frozen at hv
      rwa [if_neg hne] at hv
    · unfold Mem.frozen at hv
      by_cases hb : b = g
      · exact .inr (.inl (hb ▸ hgS))
      · rw [if_neg hb] at hv
        exact .inl hv
    · have : b ∈ dom (Own.cells g T ls :: S.eraseIdx i) := List.mem_cons_of_mem _ hb
      exact (dom_perm (perm_erase hS)).mem_iff.2 this
  have hrep : Rep (m.frozen g cs.toList) (.sl sz none xs) (.slice (some ⟨g, 0, none⟩) n cap) := by
    rw [hls] at hr
    have h1 := hr.take (xs.flatMap V.leaves).length
    rw [List.take_left' rfl] at h1
    have hF := (repL_flat_repF h1 hx).mono hsub
    refine ⟨_, cap, by rw [hn], by rw [hn]; exact hcap, hm, trivial, .inr ⟨g, 0, rfl, hF.els fun j u hu => ?_⟩⟩
    unfold Mem.frozen
    rw [if_pos rfl, Nat.zero_add]
    rw [List.getElem?_take] at hu
    split at hu
    · exact hu
    · cases hu
  have hd : dom ((S.eraseIdx i).set k (.cells gc Tc (lc.set j (.sl szb tok ys')))) = dom (S.eraseIdx i) := dom_set hC rfl
  have hst2 : Step m S w (m.frozen g cs.toList) ((S.eraseIdx i).set k (.cells gc Tc (lc.set j (.sl szb tok ys')))) w := by
    refine ⟨⟨hst.rel.agree, by rw [hd]; exact hst.rel.nodup, fun e he => ?_⟩, rfl, rfl, rfl, Nat.le_refl _, fun _ _ _ => rfl, hsub, hst.only, fun b hb => hst.domn b (by rw [← hd]; exact hb)⟩
    rcases List.mem_or_eq_of_mem_set he with he | rfl
    · exact hst.rel.holds e he
    · obtain ⟨hal, ⟨cc, hh2, hr2⟩, hn2⟩ := own_cells hst.rel hC
      refine ⟨?_, ⟨cc, hh2, ?_⟩, hn2⟩
      · rw [List.all_eq_true] at hal ⊢
        intro y hy
        rcases List.mem_or_eq_of_mem_set hy with hy | rfl
        · exact hal y hy
        · rfl
      · obtain ⟨u, hu, hu2⟩ := hr2.get hj
        have h3 := hr2.set j (Rep_sl_conv hl (hc _ hrep) hu2)
        have : cc.toList.set j u = cc.toList := by
          obtain ⟨hl, he⟩ := List.getElem?_eq_some_iff.1 hu
          rw [← he]
          exact List.set_getElem_self ..
        rwa [this] at h3
  refine h _ w a QQ ⟨hf.defers, hf.size, fun j v hv => Rep.mono hsub _ _ (hf.get j v hv)⟩ hst2.rel fun e F' S' m' w' a' k hf' st => hK e F' S' m' w' a' k hf' (hst2.trans st)
end
end Go.VL
