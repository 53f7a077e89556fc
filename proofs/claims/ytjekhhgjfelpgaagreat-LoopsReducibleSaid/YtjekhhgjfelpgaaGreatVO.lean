import Derived.Test.YtjekhhgjfelpgaaGreatVM
set_option linter.all false
namespace Go.VL
theorem RepEls.conv {m : Mem} {sz b : Nat} : ∀ {xs ys : List V} {off : Nat}, xs.length = ys.length → (∀ (p : Nat) (x y : V), xs[p]? = some x → ys[p]? = some y → ∀ u, Rep m x u → Rep m y u) → RepEls m sz b off xs → RepEls m sz b off ys
 | [], [], _, _, _, _ => trivial
 | [], y :: ys, _, h, _, _ => by simp at h
 | x :: xs, [], _, h, _, _ => by simp at h
 | x :: xs, y :: ys, off, h, hc, ⟨⟨u, r, l, o, t⟩, k⟩ => ⟨⟨u, hc 0 x y rfl rfl u r, l, o, t⟩, RepEls.conv (by simpa using h) (fun p x' y' hx hy => hc (p + 1) x' y' (by simpa using hx) (by simpa using hy)) k⟩
section
variable {P : Program} {nt : Nat} {F : Fr} {S : Store} {K : Option V → Store → Prop}
variable {d : Option Tmp} {ty : TypeId} {pos : String} {af : Array Edge} {gd : Option (Nat × Bool)}
end
section
variable {P : Program} {nt : Nat} {F : Fr} {S : Store} {Q : Exit → Fr → Store → Prop}
end
end Go.VL
