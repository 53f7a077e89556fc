/- V-logic, part 12: calls that answer a list to be appended to; cells seen with less. -/
import Derived.Test.YtmjeaagpcmfnpaaV11
set_option linter.unusedVariables false
set_option linter.unusedSimpArgs false
namespace Go.VL
section
variable {P : Program} {nt : Nat} {F : Fr} {S : Store} {Q : Exit → Fr → Store → Prop} {K : Option V → Store → Prop}
variable {d : Option Tmp} {ty : TypeId} {pos : String} {af : Array Edge} {gd : Option (Nat × Bool)}
/-- A call whose answer is a list of its own, which may be appended to. -/
def VList (P : Program) (f : FuncId) (args : List V) (T sz : Nat) (xs : List V) : Prop := VCalls P f args [] fun r S' => ∃ tok, r = .sl sz (some tok) xs ∧ S' = [.buf tok T sz xs.length]
theorem V_callBuf {f : FuncId} {args : Array Operand} {ats : Array TypeId} (xs : List Operand) {vs ys : List V} {T sz : Nat} (ha : args.toList = xs) (hv : evs F xs = some vs) (hen : Enters P f) (hc : VList P f vs T sz ys)
    (hk : ∀ tok, K (some (.sl sz (some tok) ys)) (.buf tok T sz ys.length :: S)) : VOp P nt ⟨d, .call ⟨.value (.func f), args, ats⟩, ty, pos, af, gd⟩ F S K :=
  V_call xs [] S ha hv hen (.refl _) hc fun r' Sa' ⟨tok, h1, h2⟩ => by subst h1; subst h2; exact hk tok
theorem VList.pure {f : FuncId} {args : List V} {T sz : Nat} {xs : List V} (h : VList P f args T sz xs) : VCalls P f args [] fun r S' => ∃ tok, r = .sl sz (some tok) xs ∧ S' = [.buf tok T sz xs.length] := h
theorem Drops.pick {S T : Store} (i : Nat) {e e' : Own} (hS : S[i]? = some e) (he : e = e') (h : Drops (S.eraseIdx i) T) : Drops S (e' :: T) := by
  obtain ⟨R, hp⟩ := h
  subst he
  exact ⟨R, (perm_erase hS).trans ((hp.cons e).trans List.perm_middle.symm)⟩
theorem Drops.pickBuf {S T : Store} (i : Nat) {t : Tok} {E sz n n' : Nat} (hS : S[i]? = some (.buf t E sz n)) (he : n = n') (h : Drops (S.eraseIdx i) T) : Drops S (.buf t E sz n' :: T) := Drops.pick i hS (by rw [he]) h
/-- A call that leaves a store of which a token is told. -/
def VTok (P : Program) (f : FuncId) (args : List V) (S : Store) (r : V) (St : Tok → Store) : Prop := VCalls P f args S fun r' S' => ∃ tk, r' = r ∧ S' = St tk
theorem V_callTok {f : FuncId} {args : Array Operand} {ats : Array TypeId} (xs : List Operand) {vs : List V} (Sa Sb : Store) {r : V} {St : Tok → Store} (ha : args.toList = xs) (hv : evs F xs = some vs) (hen : Enters P f) (hp : S.Perm (Sa ++ Sb)) (hc : VTok P f vs Sa r St)
    (hk : ∀ tk, K (some r) (St tk ++ Sb)) : VOp P nt ⟨d, .call ⟨.value (.func f), args, ats⟩, ty, pos, af, gd⟩ F S K :=
  V_call xs Sa Sb ha hv hen hp hc fun r' Sa' ⟨tok, h1, h2⟩ => by subst h1; subst h2; exact hk tok
def threeSt {G : Type} (A : Store) (B : G → Store) (C : G → G → Store) (D : G → G → G → Store) : Nat → List G → Store
  | 0, _ => A
  | 1, [x] => B x
  | 2, [x, y] => C x y
  | 3, [x, y, z] => D x y z
  | _, _ => []
/-- Both ways of a branch meet again: the frame and the store behind it. -/
theorem VW_cutF {x y : Code} (F1 : Fr) (S1 : Store) (h1 : VW P nt x (Then (fun F' S' => Fr.sub F1 F' ∧ Drops S' S1) Q) F S) (h2 : VW P nt y Q F1 S1) : VW P nt (.seq x y) Q F S :=
  VW_cut _ h1 fun F' S' ⟨hs, R, hp⟩ => VW.weaken hs hp (VW.drop h2)
/-- The nil slice is an empty list that may be appended to. -/
theorem V.le.nilTok (sz : Nat) : V.le V.nilSl (.sl sz (some .nil) []) := fun m u h => ⟨none, 0, h, Nat.le_refl _, Nat.zero_le _, ⟨rfl, rfl⟩, .inl rfl⟩
/-- A cell's contents seen with less. -/
theorem VW_cells (i : Nat) {g : Nat} {T : TypeId} {ls ls' : List V} {c : Code} (hS : S[i]? = some (.cells g T ls)) (hle : V.les ls ls') (h : VW P nt c Q F (S.set i (.cells g T ls'))) : VW P nt c Q F S := by
  intro m w a QQ hf hw hK
  have hd : dom (S.set i (.cells g T ls')) = dom S := dom_set hS rfl
  have hrel : WRel m (S.set i (.cells g T ls')) w := by
    refine ⟨hw.agree, by rw [hd]; exact hw.nodup, fun e he => ?_⟩
    rcases mem_set_cases he with he | he
    · rw [he]
      obtain ⟨_, ⟨cs, h1, h2⟩, h3⟩ := hw.holds _ (List.mem_of_getElem? hS)
      exact ⟨(hle.repL h2).2, ⟨cs, h1, (hle.repL h2).1⟩, h3⟩
    · exact hw.holds e he
  have hst : Step m S w m (S.set i (.cells g T ls')) w := ⟨hrel, rfl, rfl, rfl, Nat.le_refl _, fun _ _ _ => rfl, Sub.refl m, fun _ _ _ h => .inl h, fun b hb => .inl (by rw [hd] at hb; exact hb)⟩
  exact h m w a QQ hf hrel fun e F' S' m' w' a' hq hf' st => hK e F' S' m' w' a' hq hf' (hst.trans st)
/-- An empty list that may be appended to stands in the store for nothing. -/
theorem VW_nilBuf (T sz : Nat) {c : Code} (h : VW P nt c Q F (.buf .nil T sz 0 :: S)) : VW P nt c Q F S := by
  intro m w a QQ hf hw hK
  have hst := WRel.nilBuf hw T sz .nil (.inl rfl)
  exact h m w a QQ hf hst.rel fun e F' S' m' w' a' hq hf' st => hK e F' S' m' w' a' hq hf' (hst.trans st)
end
end Go.VL
