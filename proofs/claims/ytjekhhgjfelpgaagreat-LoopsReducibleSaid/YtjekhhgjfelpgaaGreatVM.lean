import Derived.Test.YtjekhhgjfelpgaaGreatVK
set_option linter.all false
namespace Go.VL
open Classical in
noncomputable def nrmX (sz : Nat) (xs : List V) (o : Option XRow) : Option XRow := if xl o = xs ∧ xOk sz o then o else some ⟨0, xs.length, xs, []⟩
theorem nrmX_ok {sz : Nat} {xs : List V} (hfl : ∀ v ∈ xs, v.leaves.length = sz) (hl : xs.length ≤ maxLen) (o : Option XRow) : xl (nrmX sz xs o) = xs ∧ xOk sz (nrmX sz xs o) := by
 unfold nrmX
 split
 ·assumption
 ·exact ⟨rfl, Nat.le_refl _, hl, by rw [List.append_nil]; exact flat_len hfl⟩
theorem nrmX_eq {sz : Nat} {xs : List V} {o : Option XRow} (h1 : xl o = xs) (h2 : xOk sz o) : nrmX sz xs o = o := if_pos ⟨h1, h2⟩
theorem pullC (l : List Own) {C Y : Store} : (l ++ (C ++ Y)).Perm (C ++ (l ++ Y)) := by
 rw [← List.append_assoc, ← List.append_assoc]
 exact List.perm_append_comm.append_right _
theorem pullL (l : List Own) {x : Own} {Y Y2 : Store} (h : Y.Perm (x :: Y2)) : (l ++ Y).Perm (x :: (l ++ Y2)) := (h.append_left l).trans List.perm_middle
section
variable {P : Program} {nt : Nat} {F : Fr} {S : Store} {K : Option V → Store → Prop}
variable {d : Option Tmp} {ty : TypeId} {pos : String} {af : Array Edge} {gd : Option (Nat × Bool)}
theorem V_appendOT {t e sz bytes : Nat} {z : Value} {s x : Operand} {o : Option XRow} (R : Store) (T : Option XRow → Store) {tx : Option Tok} {ys : List V} (ht : SliceTy P t e sz bytes z) (hz1 : ∀ c ∈ z.cells.toList, c.oneCell' = true) (hs : F.ev s = some (xLeaf o)) (hx : F.ev x = some (.sl sz tx ys))
  (hp : S.Perm (xOwn e o ++ R)) (hT : ∀ o', (xOwn e o' ++ R).Perm (T o')) (hok : xOk sz o) (hfl : ∀ v ∈ xl o, v.leaves.length = sz) (hne : o = none → ys ≠ []) (hb : ((xl o).length + ys.length) * bytes ≤ 140737488355328) (hflat : ∀ y ∈ ys, y.flat = true)
  (hk : ∀ o', xl o' = xl o ++ ys → xOk sz o' → o' ≠ none → K (some (xLeaf o')) (T o')) :
  VOp P nt ⟨d, .call ⟨.builtin .append, #[s, x], #[t, t]⟩, ty, pos, af, gd⟩ F S K :=
 VOp.drops (V_appendO (K := fun r S' => ∃ o', xl o' = xl o ++ ys ∧ xOk sz o' ∧ o' ≠ none ∧ r = some (xLeaf o') ∧ S' = xOwn e o' ++ R) ht hz1 hs hx hp hok hfl hne hb hflat fun o' h1 h2 h3 => ⟨o', h1, h2, h3, rfl, rfl⟩)
  fun r S' ⟨o', h1, h2, h3, e1, e2⟩ => ⟨T o', by rw [e2]; exact Drops.of_perm (hT o'), by rw [e1]; exact hk o' h1 h2 h3⟩
end
section
variable {P : Program} {nt : Nat} {F : Fr} {S : Store} {Q : Exit → Fr → Store → Prop}
theorem les_same : ∀ {ls : List V}, ls.all V.leaf = true → V.les ls ls
 | [], _ => trivial
 | x :: ls, h => by
  rw [List.all_cons, Bool.and_eq_true] at h
  exact ⟨V.le.refl _, h.1, les_same h.2⟩
theorem les_set : ∀ {ls : List V} {j : Nat} {v v' : V}, ls.all V.leaf = true → ls[j]? = some v → V.le v v' → v'.leaf = true → V.les ls (ls.set j v')
 | [], j, v, v', _, hj, _, _ => by simp at hj
 | x :: ls, 0, v, v', h, hj, hle, hl => by
  rw [List.all_cons, Bool.and_eq_true] at h
  have hj : x = v := by simpa using hj
  subst hj
  exact ⟨hle, hl, les_same h.2⟩
 | x :: ls, j + 1, v, v', h, hj, hle, hl => by
  rw [List.all_cons, Bool.and_eq_true] at h
  exact ⟨V.le.refl _, h.1, les_set h.2 (by simpa using hj) hle hl⟩
theorem VW_cellAt (i j : Nat) {g : Nat} {T : TypeId} {ls : List V} {v v' : V} {c : Code} (hS : S[i]? = some (.cells g T ls)) (hj : ls[j]? = some v) (hle : V.le v v') (hl : v'.leaf = true) (h : VW P nt c Q F (S.set i (.cells g T (ls.set j v')))) : VW P nt c Q F S := by
 intro m w a QQ hf hw hK
 obtain ⟨hall, _, _⟩ := own_cells hw hS
 exact VW_cells i hS (les_set hall hj hle hl) h m w a QQ hf hw hK
end
theorem drops_append {A B : Store} (C : Store) (h : Drops A B) : Drops (C ++ A) (C ++ B) := by
 induction C with
 | nil => exact h
 | cons c C ih => exact .keep ih
end Go.VL
