import Derived.Test.YtmmmgamhffbkbaaVO
set_option linter.unusedVariables false
namespace Go.VL
def rL (sz : Nat) : Option XRow → V
  | none => .sl sz none []
  | some r => .raw (.slice (some ⟨r.g, 0, none⟩) r.xs.length r.cap)
def rOwn (T : TypeId) (sz : Nat) : Option XRow → Own
  | none => .buf .nil T sz 0
  | some r => .cells r.g T (r.xs.flatMap V.leaves ++ r.rest)
theorem rL_leaf (sz : Nat) (o : Option XRow) : (rL sz o).leaf = true := by cases o <;> rfl
section
variable {P : Program} {nt : Nat} {F : Fr} {S : Store} {K : Option V → Store → Prop}
variable {d : Option Tmp} {ty : TypeId} {pos : String} {af : Array Edge} {gd : Option (Nat × Bool)}
theorem V_append0R {t e sz bytes : Nat} {z : Value} {s x : Operand} {tx : Option Tok} {ys : List V} (ht : SliceTy P t e sz bytes z) (hz1 : ∀ c ∈ z.cells.toList, c.oneCell' = true) (hs : F.ev s = some (.sl sz (some .zero) [])) (hx : F.ev x = some (.sl sz tx ys))
    (hb : ys.length * bytes ≤ 140737488355328) (hflat : ∀ y ∈ ys, y.flat = true) (hk : ∀ o, xl o = ys → xOk sz o → K (some (rL sz o)) (rOwn e sz o :: S)) :
    VOp P nt ⟨d, .call ⟨.builtin .append, #[s, x], #[t, t]⟩, ty, pos, af, gd⟩ F S K := by
  by_cases h : ys = []
  · subst h
    intro m w ac KK QQ hf hw hK
    have hst := WRel.nilBuf hw e sz .nil (.inl rfl)
    exact V_append0D (S := .buf .nil e sz 0 :: S) (K := K) ht hs hx hb (hk none rfl trivial) m w ac KK QQ hf hst.rel fun r S' m' w' u hr hru st => hK r S' m' w' u hr hru (hst.trans st)
  · refine V_appendRowG (v := .sl sz (some .zero) []) ht hz1 hs (fun m u hu => ?_) hx (List.length_pos_iff.2 h) hb hflat fun g cap rest h1 h2 h3 => hk (some ⟨g, cap, ys, rest⟩) rfl ⟨h1, h2, h3⟩
    obtain ⟨A, cap, e, _, _, ht, _⟩ := hu
    have ht : cap = 0 := ht
    subst ht
    exact ⟨A, e⟩
end
section
variable {P : Program} {nt : Nat} {F : Fr} {S : Store} {Q : Exit → Fr → Store → Prop}
theorem set_same {α : Type} {l : List α} {j : Nat} {x : α} (h : l[j]? = some x) : l.set j x = l := by
  obtain ⟨hl, he⟩ := List.getElem?_eq_some_iff.1 h
  rw [← he]
  exact List.set_getElem_self ..
theorem VW_freezeL (k j : Nat) {gc sz : Nat} {T Tc : TypeId} {lc : List V} {o : Option XRow} {R : Store} {c : Code} (hp : S.Perm (rOwn T sz o :: R)) (hC : R[k]? = some (.cells gc Tc lc)) (hj : lc[j]? = some (rL sz o)) (hok : xOk sz o)
    (hx : ∀ x ∈ xl o, x.fits sz = true ∧ ((∃ ls, x = .agg ls) ∨ x.leaf = true)) (h : VW P nt c Q F (R.set k (.cells gc Tc (lc.set j (.sl sz none (xl o)))))) : VW P nt c Q F S := by
  refine VW_perm hp ?_
  cases o with
  | none =>
    have e : lc.set j (.sl sz none (xl none)) = lc := set_same hj
    rw [e, set_same hC] at h
    exact VW_drops (.drop (.refl _)) h
  | some r => exact VW_freezeC 0 k j (rest := r.rest) r.xs rfl hC hj rfl rfl hok.1 hok.2.1 hx h
theorem VW_freezeX (k j : Nat) {gc sz : Nat} {T Tc : TypeId} {lc : List V} {o : Option XRow} {R : Store} {c : Code} (hp : S.Perm (xOwn T o ++ R)) (hC : R[k]? = some (.cells gc Tc lc)) (hj : lc[j]? = some (xLeaf o)) (hok : xOk sz o)
    (hx : ∀ x ∈ xl o, x.fits sz = true ∧ ((∃ ls, x = .agg ls) ∨ x.leaf = true)) (h : VW P nt c Q F (R.set k (.cells gc Tc (lc.set j (.sl sz none (xl o)))))) : VW P nt c Q F S := by
  refine VW_perm hp ?_
  cases o with
  | none => exact VW_cellAt k j hC hj (V.le.nil sz) rfl h
  | some r => exact VW_freezeC 0 k j (rest := r.rest) r.xs rfl hC hj rfl rfl hok.1 hok.2.1 hx h
end
end Go.VL
