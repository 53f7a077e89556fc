/- V-logic, part 10: bools compared. -/
import Derived.Test.YtmjeaagpcmfnpaaV9
set_option linter.unusedVariables false
namespace Go.VL
section
variable {P : Program} {nt : Nat} {F : Fr} {S : Store} {K : Option V → Store → Prop}
variable {d : Option Tmp} {ty : TypeId} {pos : String} {af : Array Edge} {gd : Option (Nat × Bool)}
theorem run_equalIn_boolV (w : World) (n : Nat) (t : TypeId) (x y : Bool) (hu : P.underlying t = some .bool) : (Op.equalIn (n + 1) t (.bool x) (.bool y)).run P w = .ok (x == y) w := by
  rw [Op.equalIn]
  simp [run_underlying hu]
theorem run_equal_bool (w : World) (t : TypeId) (x y : Bool) (hu : P.underlying t = some .bool) : (Op.equal t (.bool x) (.bool y)).run P w = .ok (x == y) w := by
  simp [Op.equal, Op.maxDepth, run_equalIn_boolV w 9999 t x y hu]
theorem V_booleq {t t2 : TypeId} {x y : Operand} {a b : Bool} (hu : P.underlying t = some .bool) (hx : F.ev x = some (.bool a)) (hy : F.ev y = some (.bool b)) (hk : K (some (.bool (a == b))) S) :
    VOp P nt ⟨d, .binOp .eql t x y t2, ty, pos, af, gd⟩ F S K := by
  refine VOp_pure (some (.bool (a == b))) (fun m w ac hf hw => ?_) hk
  have ha : ac.eval x = .bool a := hf.ev hx
  have hb : ac.eval y = .bool b := hf.ev hy
  refine ⟨.bool (a == b), ?_, rfl⟩
  simp only [execOp, ha, hb, Sem.run_bind]
  simp [eqGuard, binOp, run_equal_bool w t a b hu]
end
end Go.VL
