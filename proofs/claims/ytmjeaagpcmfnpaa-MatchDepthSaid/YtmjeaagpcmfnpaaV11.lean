/- V-logic, part 11: lists made anew and appended to at once. -/
import Derived.Test.YtmjeaagpcmfnpaaV10
set_option linter.unusedVariables false
set_option linter.unusedSimpArgs false
namespace Go.VL
section
variable {P : Program} {nt : Nat} {F : Fr} {S : Store} {Q : Exit → Fr → Store → Prop} {K : Option V → Store → Prop}
variable {d : Option Tmp} {ty : TypeId} {pos : String} {af : Array Edge} {gd : Option (Nat × Bool)}
theorem VOp_weak {o : Oper} {K' : Option V → Store → Prop} (h : VOp P nt o F S K') (hk : ∀ r S', K' r S' → ∃ v v' T, r = some v ∧ V.le v v' ∧ Drops S' T ∧ K (some v') T) : VOp P nt o F S K := by
  intro m w a KK QQ hf hw hK
  refine h m w a KK QQ hf hw fun r S' m' w' u hr hru st => ?_
  obtain ⟨v, v', T, rfl, hle, hd, hk'⟩ := hk r S' hr
  exact hK _ T m' w' u hk' (hle _ _ hru) (st.trans (hd.step st.rel))
/-- An empty literal. -/
theorem V_lit0 {t e sz bytes : Nat} {z : Value} {n : Nat} {parts : Array (Nat × Operand)} (ps : List Operand) {vs : List V} (ht : SliceTy P t e sz bytes z) (hp : parts.toList = idx 0 ps) (hn : ps.length = n) (hn24 : Nat.ble (n * sz) 16777216 = true)
    (hv : evs F ps = some vs) (hfit : vs.all (V.fits sz) = true) (h0 : n = 0) (hk : K (some (.sl sz (some .zero) vs)) S) : VOp P nt ⟨d, .buildSlice t n parts, ty, pos, af, gd⟩ F S K := by
  intro m w ac KK QQ hf hw hK
  obtain ⟨cs, h1, h2, h3, hrun⟩ := lit_run (d := d) (ty := ty) (pos := pos) (af := af) (gd := gd) (w := w) ht hp hn hn24 hf hv hfit
  have hle := Nat.le_of_ble_eq_true hn24
  have hpos := ht.pos.1
  have hnl : n ≤ 16777216 := Nat.le_trans (Nat.le_mul_of_pos_right n hpos) hle
  unfold Oper.wp
  rw [hrun]
  refine hK _ S (m.new w.heap.size cs) _ _ hk ?_ (Step.allocImm hw)
  refine ⟨some ⟨w.heap.size, 0, none⟩, n, by rw [h2], by omega, by simp only [maxLen]; omega, h0, .inr ⟨_, _, rfl, ?_⟩⟩
  exact (h1.mono (Mem.sub_new hw cs)).els (Mem.at_new m _ cs)
/-- append to it. -/
theorem V_append0 {t e sz bytes : Nat} {z : Value} {s x : Operand} {tx : Option Tok} {ys : List V} (ht : SliceTy P t e sz bytes z) (hs : F.ev s = some (.sl sz (some .zero) [])) (hx : F.ev x = some (.sl sz tx ys))
    (hb : ys.length * bytes ≤ 140737488355328) (hk : ∀ tok', K (some (.sl sz (some tok') ys)) (.buf tok' e sz ys.length :: S)) :
    VOp P nt ⟨d, .call ⟨.builtin .append, #[s, x], #[t, t]⟩, ty, pos, af, gd⟩ F S K := by
  intro m w ac KK QQ hf hw hK
  have hst := WRel.nilBuf hw e sz .zero (.inr rfl)
  exact V_append (S := .buf .zero e sz 0 :: S) 0 ht hs hx rfl (by simpa using hb) hk m w ac KK QQ hf hst.rel fun r S' m' w' u hr hru st => hK r S' m' w' u hr hru (hst.trans st)
theorem erase_set {α : Type} {e : α} : ∀ (l : List α) (i : Nat), (l.set i e).eraseIdx i = l.eraseIdx i
  | [], _ => rfl
  | a :: l, 0 => rfl
  | a :: l, i + 1 => by rw [List.set_cons_succ, List.eraseIdx_cons_succ, List.eraseIdx_cons_succ, erase_set l i]
/-- append for the last time. -/
theorem V_appendEnd (i n : Nat) {t e sz bytes : Nat} {z : Value} {s x : Operand} {tok : Tok} {tx : Option Tok} {xs ys : List V} (ht : SliceTy P t e sz bytes z) (hs : F.ev s = some (.sl sz (some tok) xs)) (hx : F.ev x = some (.sl sz tx ys))
    (hS : S[i]? = some (.buf tok e sz n)) (hn : n = xs.length) (hb : (xs.length + ys.length) * bytes ≤ 140737488355328) {zs : List V} (hz : xs ++ ys = zs) (hk : K (some (.sl sz none zs)) (S.eraseIdx i)) :
    VOp P nt ⟨d, .call ⟨.builtin .append, #[s, x], #[t, t]⟩, ty, pos, af, gd⟩ F S K := by
  subst hz
  refine VOp_weak (K' := fun r S' => ∃ tok', r = some (.sl sz (some tok') (xs ++ ys)) ∧ S' = S.set i (.buf tok' e sz (xs ++ ys).length)) (V_appendN i n ht hs hx hS hn hb fun tok' => ⟨tok', rfl, rfl⟩) fun r S' ⟨tok', h1, h2⟩ => ?_
  refine ⟨_, _, S.eraseIdx i, h1, V.le.strip, ?_, hk⟩
  subst h2
  have hi : (S.set i (.buf tok' e sz (xs ++ ys).length))[i]? = some (.buf tok' e sz (xs ++ ys).length) := by
    have := (List.getElem?_eq_some_iff.1 hS).1
    simp [this]
  have hp := perm_erase hi
  rw [erase_set] at hp
  exact ⟨[_], hp⟩
/-- make, not to be written. -/
theorem V_makeImm {t e sz bytes : Nat} {z : Value} {l c : Operand} {n : Int} (zv : V) (hz : ∀ m, Rep m zv z) (hzf : zv.fits sz = true) (ht : SliceTy P t e sz bytes z) (hl : F.ev l = some (.int n)) (hc : F.ev c = some (.int n)) (h0 : 0 ≤ n) (hb : n * bytes ≤ 281474976710656)
    (hk : K (some (.sl sz none (List.replicate n.toNat zv))) S) : VOp P nt ⟨d, .makeSlice t l c, ty, pos, af, gd⟩ F S K := by
  refine VOp_weak (K' := fun r S' => ∃ tok', r = some (.sl sz (some tok') (List.replicate n.toNat zv)) ∧ S' = .buf tok' e sz n.toNat :: S) (V_make zv hz hzf ht hl hc h0 hb fun tok' => ⟨tok', rfl, rfl⟩) fun r S' ⟨tok', h1, h2⟩ => ?_
  subst h2
  exact ⟨_, _, S, h1, V.le.strip, Drops.drop (Drops.refl _), hk⟩
end
end Go.VL
