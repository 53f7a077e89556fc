import Derived.Test.YtjekhhgjfelpgaaGreatVO
set_option linter.all false
namespace Go.VL
section
variable {P : Program} {nt : Nat} {F : Fr} {S : Store} {K : Option V → Store → Prop}
variable {d : Option Tmp} {ty : TypeId} {pos : String} {af : Array Edge} {gd : Option (Nat × Bool)}
end
section
variable {P : Program} {nt : Nat} {F : Fr} {S : Store} {Q : Exit → Fr → Store → Prop}
theorem VW_freezeX (k j : Nat) {gc sz : Nat} {T Tc : TypeId} {lc : List V} {o : Option XRow} {R : Store} {c : Code} (hp : S.Perm (xOwn T o ++ R)) (hC : R[k]? = some (.cells gc Tc lc)) (hj : lc[j]? = some (xLeaf o)) (hok : xOk sz o)
  (hx : ∀ x ∈ xl o, x.fits sz = true ∧ ((∃ ls, x = .agg ls) ∨ x.leaf = true)) (h : VW P nt c Q F (R.set k (.cells gc Tc (lc.set j (.sl sz none (xl o)))))) : VW P nt c Q F S := by
 refine VW_perm hp ?_
 cases o with
 | none => exact VW_cellAt k j hC hj (V.le.nil sz) rfl h
 | some r => exact VW_freezeC 0 k j (rest := r.rest) r.xs rfl hC hj rfl rfl hok.1 hok.2.1 hx h
end
end Go.VL
