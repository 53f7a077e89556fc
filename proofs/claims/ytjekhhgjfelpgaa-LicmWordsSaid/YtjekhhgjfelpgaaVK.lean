import Derived.Test.YtjekhhgjfelpgaaVJ
import Derived.Shelf.Slices.SearchI
import Derived.Shelf.Slices.In.SortNone
set_option linter.unusedVariables false
namespace Go.VL
structure XRow where
  g : Nat
  cap : Nat
  xs : List V
  rest : List V
def xl : Option XRow → List V
  | none => []
  | some r => r.xs
def xLeaf : Option XRow → V
  | none => V.nilSl
  | some r => .raw (.slice (some ⟨r.g, 0, none⟩) r.xs.length r.cap)
def xOwn (T : TypeId) : Option XRow → Store
  | none => []
  | some r => [.cells r.g T (r.xs.flatMap V.leaves ++ r.rest)]
def xOk (sz : Nat) : Option XRow → Prop
  | none => True
  | some r => r.xs.length ≤ r.cap ∧ r.cap ≤ maxLen ∧ (r.xs.flatMap V.leaves ++ r.rest).length = r.cap * sz
theorem flat_len {sz : Nat} : ∀ {xs : List V}, (∀ x ∈ xs, x.leaves.length = sz) → (xs.flatMap V.leaves).length = xs.length * sz
  | [], _ => by simp
  | x :: xs, h => by
    rw [List.flatMap_cons, List.length_append, h x (List.mem_cons_self ..), flat_len fun y hy => h y (List.mem_cons_of_mem _ hy), List.length_cons, Nat.succ_mul]
    omega
section
variable {P : Program} {nt : Nat} {F : Fr} {S : Store} {K : Option V → Store → Prop}
variable {d : Option Tmp} {ty : TypeId} {pos : String} {af : Array Edge} {gd : Option (Nat × Bool)}
theorem VOp.permL {o : Oper} {S' : Store} (h : VOp P nt o F S' K) (hp : S.Perm S') : VOp P nt o F S K :=
  fun m w a KK QQ hf hw hK => h m w a KK QQ hf (hw.perm hp) fun r S1 m1 w1 u k hr st => hK r S1 m1 w1 u k hr (st.permL hp)
theorem V_appendO {t e sz bytes : Nat} {z : Value} {s x : Operand} {o : Option XRow} {R : Store} {tx : Option Tok} {ys : List V} (ht : SliceTy P t e sz bytes z) (hz1 : ∀ c ∈ z.cells.toList, c.oneCell' = true) (hs : F.ev s = some (xLeaf o)) (hx : F.ev x = some (.sl sz tx ys))
    (hp : S.Perm (xOwn e o ++ R)) (hok : xOk sz o) (hfl : ∀ v ∈ xl o, v.leaves.length = sz) (hne : o = none → ys ≠ []) (hb : ((xl o).length + ys.length) * bytes ≤ 140737488355328) (hflat : ∀ y ∈ ys, y.flat = true)
    (hk : ∀ o', xl o' = xl o ++ ys → xOk sz o' → o' ≠ none → K (some (xLeaf o')) (xOwn e o' ++ R)) :
    VOp P nt ⟨d, .call ⟨.builtin .append, #[s, x], #[t, t]⟩, ty, pos, af, gd⟩ F S K := by
  refine VOp.permL ?_ hp
  cases o with
  | none =>
    have hl := List.length_pos_iff.2 (hne rfl)
    have hb : ys.length * bytes ≤ 140737488355328 := by have h9 := hb; change (0 + ys.length) * bytes ≤ _ at h9; rwa [Nat.zero_add] at h9
    refine V_appendRowL ht hz1 (A := none) hs hx hl hb hflat fun g cap rest h1 h2 h3 => ?_
    exact hk (some ⟨g, cap, ys, rest⟩) rfl ⟨h1, h2, h3⟩ (by simp)
  | some r =>
    obtain ⟨h1, h2, h3⟩ := hok
    refine V_appendRaw 0 ht hz1 hs hx rfl h3 h1 h2 hb hflat fun g cap rest k1 k2 k3 => ?_
    have hlen : (r.xs.flatMap V.leaves).length = r.xs.length * sz := flat_len hfl
    have htk : (r.xs.flatMap V.leaves ++ r.rest).take (r.xs.length * sz) = r.xs.flatMap V.leaves := by rw [← hlen, List.take_left]
    have h4 := hk (some ⟨g, cap, r.xs ++ ys, rest⟩) rfl ⟨by rw [List.length_append]; exact k1, k2, by
      rw [List.flatMap_append, List.append_assoc]
      rw [htk] at k3
      exact k3⟩ (by simp)
    rw [htk]
    have e1 : xOwn e (some ⟨g, cap, r.xs ++ ys, rest⟩) ++ R = .cells g e (r.xs.flatMap V.leaves ++ (ys.flatMap V.leaves ++ rest)) :: R := by
      show (.cells g e ((r.xs ++ ys).flatMap V.leaves ++ rest)) :: R = _
      rw [List.flatMap_append, List.append_assoc]
    rw [e1] at h4
    have e2 : xLeaf (some ⟨g, cap, r.xs ++ ys, rest⟩) = .raw (.slice (some ⟨g, 0, none⟩) (r.xs.length + ys.length) cap) := by
      show V.raw (.slice (some ⟨g, 0, none⟩) (r.xs ++ ys).length cap) = _
      rw [List.length_append]
    rw [e2] at h4
    exact h4
end
section
variable {P : Program} {nt : Nat} {F : Fr} {S : Store} {Q : Exit → Fr → Store → Prop}
end
section
variable {P : Program}
end
end Go.VL
