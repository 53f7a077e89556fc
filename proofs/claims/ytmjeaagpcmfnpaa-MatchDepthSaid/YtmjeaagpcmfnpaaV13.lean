/- V-logic, part 13: pointers compared with nil. -/
import Derived.Test.YtmjeaagpcmfnpaaV12
import Derived.Laws.Pointers
set_option linter.unusedVariables false
namespace Go.VL
section
variable {P : Program} {nt : Nat} {F : Fr} {S : Store} {K : Option V → Store → Prop}
variable {d : Option Tmp} {ty : TypeId} {pos : String} {af : Array Edge} {gd : Option (Nat × Bool)}
theorem ptr_pointee {t e : TypeId} (ht : P.underlying t = some (.pointer e)) : P.underlying t = some (.pointer (P.pointee t)) := by
  simp only [Program.pointee, ht]
theorem V_nilNeNil {t t2 e : TypeId} {x : Operand} (ht : P.underlying t = some (.pointer e)) (hx : F.ev x = some (.raw (.pointer none))) (hk : K (some (.bool false)) S) :
    VOp P nt ⟨d, .binOp .neq t x (.const (.pointer none)) t2, ty, pos, af, gd⟩ F S K := by
  refine VOp_pure (some (.bool false)) (fun m w ac hf hw => ?_) hk
  have ha : ac.eval x = .pointer none := hf.ev hx
  refine ⟨.bool false, ?_, rfl⟩
  have hg : (eqGuard .neq t x (.const (.pointer none)) (.pointer none) (.pointer none)).run P w = .ok () w := rfl
  simp only [execOp, ha, BigFrame.eval_const, Sem.run_bind, hg, Result.andThen_ok, run_neq_pointer_nil w t none (ptr_pointee ht)]
  rfl
theorem V_epNeNil {t t2 e : TypeId} {x : Operand} {a : Addr} {v : V} (ht : P.underlying t = some (.pointer e)) (hx : F.ev x = some (.ep a v)) (hk : K (some (.bool true)) S) :
    VOp P nt ⟨d, .binOp .neq t x (.const (.pointer none)) t2, ty, pos, af, gd⟩ F S K := by
  refine VOp_pure (some (.bool true)) (fun m w ac hf hw => ?_) hk
  have ha : ac.eval x = .pointer (some a) := (hf.ev hx).1
  refine ⟨.bool true, ?_, rfl⟩
  have hg : (eqGuard .neq t x (.const (.pointer none)) (.pointer (some a)) (.pointer none)).run P w = .ok () w := rfl
  simp only [execOp, ha, BigFrame.eval_const, Sem.run_bind, hg, Result.andThen_ok, run_neq_pointer_nil w t (some a) (ptr_pointee ht)]
  rfl
theorem V_nilEqNil {t t2 e : TypeId} {x : Operand} (ht : P.underlying t = some (.pointer e)) (hx : F.ev x = some (.raw (.pointer none))) (hk : K (some (.bool true)) S) :
    VOp P nt ⟨d, .binOp .eql t x (.const (.pointer none)) t2, ty, pos, af, gd⟩ F S K := by
  refine VOp_pure (some (.bool true)) (fun m w ac hf hw => ?_) hk
  have ha : ac.eval x = .pointer none := hf.ev hx
  refine ⟨.bool true, ?_, rfl⟩
  have hg : (eqGuard .eql t x (.const (.pointer none)) (.pointer none) (.pointer none)).run P w = .ok () w := rfl
  simp only [execOp, ha, BigFrame.eval_const, Sem.run_bind, hg, Result.andThen_ok, run_eql_pointer_nil w t none (ptr_pointee ht)]
  rfl
theorem V_epEqNil {t t2 e : TypeId} {x : Operand} {a : Addr} {v : V} (ht : P.underlying t = some (.pointer e)) (hx : F.ev x = some (.ep a v)) (hk : K (some (.bool false)) S) :
    VOp P nt ⟨d, .binOp .eql t x (.const (.pointer none)) t2, ty, pos, af, gd⟩ F S K := by
  refine VOp_pure (some (.bool false)) (fun m w ac hf hw => ?_) hk
  have ha : ac.eval x = .pointer (some a) := (hf.ev hx).1
  refine ⟨.bool false, ?_, rfl⟩
  have hg : (eqGuard .eql t x (.const (.pointer none)) (.pointer (some a)) (.pointer none)).run P w = .ok () w := rfl
  simp only [execOp, ha, BigFrame.eval_const, Sem.run_bind, hg, Result.andThen_ok, run_eql_pointer_nil w t (some a) (ptr_pointee ht)]
  rfl
end
end Go.VL
