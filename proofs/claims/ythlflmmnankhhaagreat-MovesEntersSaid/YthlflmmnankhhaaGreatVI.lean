import Derived.Test.YthlflmmnankhhaaGreatVH
set_option linter.all false
namespace Go.VL
section
variable {P : Program} {nt : Nat} {F : Fr} {S : Store} {K : Option V -> Store -> Prop}
variable {d : Option Tmp} {ty : TypeId} {pos : String} {af : Array Edge} {gd : Option (Nat × Bool)}
theorem VCalls.frame {f : FuncId} {vs : List V} {Sa : Store} {R : V -> Store -> Prop} (Sb : Store) (hc : VCalls P f vs Sa R) : VCalls P f vs (Sa ++ Sb) λ r S' => ∃ S1, R r S1 /\ S' = S1 ++ Sb :=
 λ m w us hu hw => (hc m w us hu hw.left).mono λ e w' ⟨r, S', m', u, hR, he, hr, st⟩ => ⟨r, S' ++ Sb, m', u, ⟨S', hR, rfl⟩, he, hr, Step.frame hw st⟩
theorem VKeep.frame {f : FuncId} {vs : List V} {Sa : Store} {r : V} (Sb : Store) (hc : VKeep P f vs Sa r) : VKeep P f vs (Sa ++ Sb) r :=
 (VCalls.frame Sb hc).mono λ r' S' ⟨S1, ⟨h1, h2⟩, h3⟩ => ⟨h1, by rw [h3, h2]⟩
theorem VPure.keep {f : FuncId} {vs : List V} {r : V} (S : Store) (hc : VPure P f vs r) : VKeep P f vs S r := by
 have h := (VCalls.frame S (VCalls.forget (R := λ r' _ => r' = r) hc))
 rw [List.nil_append] at h
 exact h.mono λ r' S' ⟨S1, ⟨h1, h2⟩, h3⟩ => ⟨h1, by rw [h3, h2, List.nil_append]⟩
end
end Go.VL
