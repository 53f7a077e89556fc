import Derived.Test.YtpkbgamoboojaaaGreatVY2
import Derived.ChangeArms
import Derived.DataReads
import GoSem.ClaimJoined
set_option linter.all false
open List renaming all_append → Ya, getElem?_eq_some_iff → Yb
namespace Go.VL
section
variable {H : Type} {enc : TypeId × Value -> H} {P : Program} {W : World} {spare : Nat -> Bool} {held : Bool}
def memOf (W : World) : Mem := λ b o => W.cell? ⟨b, o, none⟩
theorem memOf_rel (W : World) : WRel (memOf W) [] W := ⟨λ _ _ _ h => h, by simp [dom], λ e h => by cases h⟩
def RC (m : Mem) (v : V) (cs : List Value) : Prop := ∃ u, Rep m v u /\ u.cells.toList = cs /\ ∀ c ∈ cs, c.oneCell' = true
theorem cells_of {a : Addr} {n : Nat} {cs : List Value} (h : W.cells? 0 a n = some cs) : cs.length = n /\ ∀ j, j < n -> W.cell? (a.add j) = cs[j]? := by
 unfold World.cells? at h
 rw [if_pos (Nat.zero_le _)] at h
 refine ⟨by simpa using mapM_some_length h, λ j hj => mapM_some_get h j j (by simp [hj])⟩
theorem repEls_of {m : Mem} {sz b : Nat} : ∀ {xs : List V} {off : Nat}, (∀ (i : Nat) x, xs[i]? = some x -> ∃ u, Rep m x u /\ u.cells.size = sz /\ (∀ c ∈ u.cells.toList, c.oneCell' = true) /\ At m b (off + i * sz) u.cells.toList) -> RepEls m sz b off xs
 | [], off, _ => trivial
 | x :: xs, off, h => by
  refine ⟨?_, repEls_of λ i y hy => ?_⟩
  .have := h 0 x rfl
   rwa [Nat.zero_mul, Nat.add_zero] at this
  have := h (i + 1) y (by simpa using hy)
  rwa [show off + (i + 1) * sz = off + sz + i * sz by rw [Nat.succ_mul]; omega] at this
theorem wAll_get {e : TypeId} {B : Nat} : ∀ {l : List (DataW H)}, (DataW.weightsAll P e l).all (· <= B) = true -> ∀ d ∈ l, (d.weights P e).all (· <= B) = true
 | [], _, d, h => by cases h
 | x :: l, h, d, hd => by
  rw [DataW.weightsAll, Ya, Bool.and_eq_true] at h
  rcases List.mem_cons.1 hd with rfl | hd
  .exact h.1
  exact wAll_get h.2 d hd
theorem wEach_get {B : Nat} : ∀ {ts : List TypeId} {l : List (DataW H)}, (DataW.weightsEach P ts l).all (· <= B) = true -> ∀ (i : Nat) t d, ts[i]? = some t -> l[i]? = some d -> (d.weights P t).all (· <= B) = true
 | [], l, _, i, t, d, h1, _ => by simp at h1
 | t :: ts, [], _, i, _, d, _, h2 => by simp at h2
 | t :: ts, x :: l, h, i, t', d, h1, h2 => by
  rw [DataW.weightsEach, Ya, Bool.and_eq_true] at h
  cases i with
  | zero => simp at h1 h2; subst h1; subst h2; exact h.1
  | succ i => exact wEach_get h.2 i t' d (by simpa using h1) (by simpa using h2)
theorem open_sl {α : Type} [Inhabited α] {t e sz B fuel : Nat} {cs : List Value} {x : DataW H × List MemPlace} (g : α -> V) (hu : P.underlying t = some (.slice e)) (hc : P.cellsOf e = sz) (hs0 : 0 < sz)
  (h : DataW.trod enc P W 0 spare held fuel t cs = some x) (hw : (x.1.weights P t).all (· <= B) = true)
  (elem : ∀ n cs' y, n < fuel -> DataW.trod enc P W 0 spare held n e cs' = some y -> (y.1.weights P e).all (· <= B) = true -> ∃ a, RC (memOf W) (g a) cs') :
  ∃ (l : List α) (v : Value), cs = [v] /\ v.oneCell' = true /\ Rep (memOf W) (.sl sz none (l.map g)) v /\ l.length * P.bytesOf e <= B := by
 rcases DataW.trod_slice hu h with ⟨rfl, rfl⟩ | ⟨a, len, cap, elems, rest, n, rfl, rfl, rfl, hb, hl, hm, hlen, hel, _, _⟩
 .exact ⟨[], _, rfl, rfl, ⟨none, 0, rfl, Nat.le_refl _, Nat.zero_le _, trivial, .inl rfl⟩, by simp⟩
 have hw' := hw
 simp only [DataW.weights, hu, List.all_cons, Ya, Bool.and_eq_true, decide_eq_true_eq, List.length_map] at hw'
 obtain ⟨hw1, hw2, _⟩ := hw'
 have hex : ∀ i, ∃ y : α, i < len -> ∃ cs', W.cells? 0 (a.add (i * sz)) sz = some cs' /\ RC (memOf W) (g y) cs' := λ i => by
  by_cases hi : i < len
  .have h1 := hel i hi
   have h2 : elems[i]? = some (elems[i]'(by omega)) := List.getElem?_eq_getElem _
   rw [h2, hc] at h1
   obtain ⟨cs', h3, h4⟩ := Option.bind_eq_some_iff.1 h1
   obtain ⟨y, hy⟩ := elem n cs' _ (Nat.lt_succ_self _) h4 (wAll_get hw2 _ (List.mem_map.2 ⟨_, List.getElem_mem _, rfl⟩))
   exact ⟨y, λ _ => ⟨cs', h3, hy⟩⟩
  exact ⟨default, λ h => absurd h hi⟩
 refine ⟨(List.range len).map λ i => Classical.choose (hex i), _, rfl, rfl, ⟨some a, cap, by simp, by simpa using hl, hm, trivial, ?_⟩, ?_⟩
 .rcases Nat.eq_zero_or_pos len with h0 | h0
  .subst h0
   exact .inl rfl
  right
  obtain ⟨b, off, spot⟩ := a
  have hspot : spot = none := by
   obtain ⟨cs', h3, _⟩ := Classical.choose_spec (hex 0) h0
   obtain ⟨h5, h6⟩ := cells_of h3
   have h7 := h6 0 hs0
   have h8 : cs'[0]? = some (cs'[0]'(by omega)) := List.getElem?_eq_getElem _
   rw [h8] at h7
   unfold World.cell? at h7
   split at h7
   .split at h7
    .cases h7
    rename_i hh
    simpa [Addr.add] using hh
   cases h7
  subst hspot
  refine ⟨b, off, rfl, repEls_of λ i x hx => ?_⟩
  have hi : i < len := by have := (Yb.1 hx).1; simpa using this
  simp only [List.map_map, List.getElem?_map, List.getElem?_range hi, Option.map_some, Option.some.injEq, Function.comp] at hx
  subst hx
  obtain ⟨cs', h3, u, h4, h5, h6⟩ := Classical.choose_spec (hex i) hi
  obtain ⟨h7, h8⟩ := cells_of h3
  refine ⟨u, h4, by rw [<- Array.length_toList, h5, h7], by rw [h5]; exact h6, ?_⟩
  rw [h5]
  intro j c hj
  have hjl : j < sz := by have := (Yb.1 hj).1; omega
  have := h8 j hjl
  rw [addr_add, addr_add] at this
  rw [hj] at this
  exact this
 rw [List.length_map, List.length_range]
 have : len * P.bytesOf e <= (elems.length + rest.length) * P.bytesOf e := Nat.mul_le_mul_right _ (by omega)
 omega
end
end Go.VL
