/- Walks, printed by walk.py. -/
import Derived.Test.YtaklonfdckgdbaaVT
import Derived.Test.YtaklonfdckgdbaaS2
import Derived.Test.YtaklonfdckgdbaaXS
import Derived.Test.YtaklonfdckgdbaaD5
import Derived.Test.YtaklonfdckgdbaaX1
import Derived.Test.YtaklonfdckgdbaaX2
import Derived.Test.YtaklonfdckgdbaaX3
import Derived.Test.YtaklonfdckgdbaaX4
import Derived.Test.YtaklonfdckgdbaaX5
import Derived.Test.YtaklonfdckgdbaaX6
import Derived.Test.YtaklonfdckgdbaaX7
import Derived.Test.YtaklonfdckgdbaaX8
import Derived.Test.YtaklonfdckgdbaaX9
import Derived.Test.YtaklonfdckgdbaaX10
import Derived.Test.YtaklonfdckgdbaaXW
import Derived.Test.YtaklonfdckgdbaaX12
import Derived.Test.YtaklonfdckgdbaaX13
import Derived.Test.YtaklonfdckgdbaaX14
import Derived.Test.YtaklonfdckgdbaaX20
set_option linter.unusedVariables false
set_option linter.unusedSimpArgs false
namespace Go.Proofs.Ytaklonfdckgdbaa.X21
open Go.VL Go.SM Go.Proofs.Ytaklonfdckgdbaa Go.Proofs.Ytaklonfdckgdbaa.XS Go.Proofs.Ytaklonfdckgdbaa.X1 Go.Proofs.Ytaklonfdckgdbaa.X2 Go.Proofs.Ytaklonfdckgdbaa.X3 Go.Proofs.Ytaklonfdckgdbaa.X4 Go.Proofs.Ytaklonfdckgdbaa.X5 Go.Proofs.Ytaklonfdckgdbaa.X6 Go.Proofs.Ytaklonfdckgdbaa.X7 Go.Proofs.Ytaklonfdckgdbaa.X8 Go.Proofs.Ytaklonfdckgdbaa.X9 Go.Proofs.Ytaklonfdckgdbaa.X10 Go.Proofs.Ytaklonfdckgdbaa.XW Go.Proofs.Ytaklonfdckgdbaa.X12 Go.Proofs.Ytaklonfdckgdbaa.X13 Go.Proofs.Ytaklonfdckgdbaa.X14 Go.Proofs.Ytaklonfdckgdbaa.X20

/-- A block's row of numbers: it is nil, or lies in a block of memory of its own. -/
structure IRow where
  g : Nat
  cap : Nat
  l : List Int
  rest : List V
abbrev IRows := List (Option IRow)
def il : Option IRow → List Int
  | none => []
  | some r => r.l
def iLeaf : Option IRow → V
  | none => V.nilSl
  | some r => .raw (.slice (some ⟨r.g, 0, none⟩) r.l.length r.cap)
abbrev rowC (r : IRow) : Own := .cells r.g 3 (r.l.map V.int ++ r.rest)
def iOwn : Option IRow → Store
  | none => []
  | some r => [rowC r]
def LOk (n : Nat) (l : List Int) : Prop := l.Nodup ∧ ∀ x ∈ l, 0 ≤ x ∧ x < (n : Int)
def iOk (n : Nat) : Option IRow → Prop
  | none => True
  | some r => r.l ≠ [] ∧ r.l.length ≤ r.cap ∧ r.cap ≤ maxLen ∧ (r.l.map V.int ++ r.rest).length = r.cap * 1 ∧ LOk n r.l
theorem lok_len {n : Nat} {l : List Int} (h : LOk n l) : l.length ≤ n := by
  have h1 := nodup_lt (l := l.map Int.toNat) (n := n) ?_ fun v hv => by
    obtain ⟨x, hx, rfl⟩ := List.mem_map.1 hv
    have := h.2 x hx
    omega
  · simpa using h1
  · rw [List.Nodup, List.pairwise_map]
    refine List.Pairwise.imp_of_mem (fun {a c} ha hc hne e => hne ?_) h.1
    have h1 := h.2 a ha
    have h2 := h.2 c hc
    omega
theorem lok_add {n : Nat} {l : List Int} {x : Int} (h : LOk n l) (hx : (l.any fun y => decide (x = y)) = false) (h0 : 0 ≤ x ∧ x < (n : Int)) : LOk n (l ++ [x]) := by
  refine ⟨List.nodup_append.2 ⟨h.1, by simp, fun a ha b hb => ?_⟩, fun y hy => ?_⟩
  · rw [List.mem_singleton.1 hb]
    intro e
    have := List.any_eq_false.1 hx a ha
    simp [e] at this
  · rcases List.mem_append.1 hy with hy | hy
    · exact h.2 y hy
    · rw [List.mem_singleton.1 hy]; exact h0
theorem rows_split {rows : IRows} {w : Nat} {o : Option IRow} (h : rows[w]? = some o) (o' : Option IRow) : (rows.flatMap iOwn).Perm (iOwn o ++ (rows.set w none).flatMap iOwn) ∧ (iOwn o' ++ (rows.set w none).flatMap iOwn).Perm ((rows.set w o').flatMap iOwn) := by
  obtain ⟨hw, he⟩ := List.getElem?_eq_some_iff.1 h
  have h1 : rows = rows.take w ++ o :: rows.drop (w + 1) := by
    conv => lhs; rw [← List.take_append_drop w rows, drop_cons h]
  have h2 : ∀ x, rows.set w x = rows.take w ++ x :: rows.drop (w + 1) := fun x => by rw [List.set_eq_take_append_cons_drop, if_pos hw]
  have h3 : (rows.set w none).flatMap iOwn = (rows.take w).flatMap iOwn ++ (rows.drop (w + 1)).flatMap iOwn := by
    rw [h2, List.flatMap_append, List.flatMap_cons]
    rfl
  have h4 : ∀ x : Option IRow, (iOwn x ++ ((rows.take w).flatMap iOwn ++ (rows.drop (w + 1)).flatMap iOwn)).Perm ((rows.take w ++ x :: rows.drop (w + 1)).flatMap iOwn) := fun x => by
    rw [List.flatMap_append, List.flatMap_cons, ← List.append_assoc, ← List.append_assoc]
    exact List.perm_append_comm.append_right _
  refine ⟨?_, ?_⟩
  · rw [h3]
    conv => lhs; rw [h1]
    exact (h4 o).symm
  · rw [h3, h2]
    exact h4 o'
theorem front5 {a b c d e x : Own} {Y Y2 : Store} (h : Y.Perm (x :: Y2)) : (a :: b :: c :: d :: e :: Y).Perm (x :: a :: b :: c :: d :: e :: Y2) :=
  (((((h.cons e).cons d).cons c).cons b).cons a).trans (List.perm_middle (l₁ := [a, b, c, d, e]))
theorem back5 {a b c d e x : Own} {Y Y2 : Store} (h : (x :: Y2).Perm Y) : (x :: a :: b :: c :: d :: e :: Y2).Perm (a :: b :: c :: d :: e :: Y) := (front5 h.symm).symm
theorem same5 {a b c d e : Own} {Y Y2 : Store} (h : Y.Perm Y2) : (a :: b :: c :: d :: e :: Y).Perm (a :: b :: c :: d :: e :: Y2) := (((((h.cons e).cons d).cons c).cons b).cons a)
theorem leaf_set (rows : IRows) (w : Nat) (o : Option IRow) : (rows.map iLeaf).set w (iLeaf o) ++ [] = (rows.set w o).map iLeaf := by rw [List.append_nil, List.map_set]
theorem leaf_same {rows : IRows} {w : Nat} {o o' : Option IRow} (h : rows[w]? = some o) (he : iLeaf o = iLeaf o') : rows.map iLeaf = (rows.set w o').map iLeaf := by
  obtain ⟨hw, hg⟩ := List.getElem?_eq_some_iff.1 h
  rw [List.map_set, ← he, ← hg]
  have h2 : (rows.map iLeaf)[w]'(by simpa using hw) = iLeaf rows[w] := List.getElem_map ..
  rw [← h2, List.set_getElem_self]
theorem il_get {rows : IRows} {w : Nat} {o : Option IRow} (h : rows[w]? = some o) : (rows.map il)[w]?.getD [] = il o := by rw [List.getElem?_map, h]; rfl
theorem il_set {rows : IRows} {w : Nat} {x : Int} {o o' : Option IRow} (h : rows[w]? = some o) (hn : ((il o).any fun y => decide (x = y)) = false) (he : il o' = il o ++ [x]) : (rows.set w o').map il = addR (rows.map il) w x := by
  rw [addR, il_get h, if_neg (by rw [hn]; decide), List.map_set, he]
theorem il_has {rows : IRows} {w : Nat} {x : Int} {o : Option IRow} (h : rows[w]? = some o) (hn : ((il o).any fun y => decide (x = y)) = true) : rows.map il = addR (rows.map il) w x := by
  rw [addR, il_get h, if_pos hn]
theorem rows_ok_set {n : Nat} {rows : IRows} {w : Nat} {o : Option IRow} (h : ∀ x ∈ rows, iOk n x) (ho : iOk n o) : ∀ x ∈ rows.set w o, iOk n x := fun x hx => by
  rcases List.mem_or_eq_of_mem_set hx with hx | rfl
  · exact h x hx
  · exact ho
def nrm (n : Nat) (x : Nat × Nat × List V) : Nat × Nat × List V := if n ≤ x.2.1 ∧ x.2.1 ≤ maxLen ∧ n + x.2.2.length = x.2.1 * 1 then x else (x.1, n, [])
theorem nrm_ok {n : Nat} (hn : n ≤ maxLen) (x : Nat × Nat × List V) : n ≤ (nrm n x).2.1 ∧ (nrm n x).2.1 ≤ maxLen ∧ n + (nrm n x).2.2.length = (nrm n x).2.1 * 1 := by
  unfold nrm
  split
  · assumption
  · exact ⟨Nat.le_refl _, hn, by simp⟩
theorem nrm_eq {n g cap : Nat} {rest : List V} (h1 : n ≤ cap) (h2 : cap ≤ maxLen) (h3 : n + rest.length = cap * 1) : nrm n (g, cap, rest) = (g, cap, rest) := if_pos ⟨h1, h2, h3⟩
theorem i_take (l : List Int) (rest X : List V) : (l.map V.int ++ rest).take (l.length * 1) ++ X = l.map V.int ++ X := by
  rw [Nat.mul_one, List.take_append_of_le_length (by simp), List.take_of_length_le (by simp)]
theorem app_len (a b : List V) : (a ++ b).length = a.length + b.length := List.length_append
theorem none_own (n : Nat) : (List.replicate n (none : Option IRow)).flatMap iOwn = [] := by
  induction n with
  | zero => rfl
  | succ n ih => rw [List.replicate_succ, List.flatMap_cons, ih]; rfl
theorem VKeep.perm2 {f : FuncId} {vs : List V} {S S' : Store} {r : V} (h : VKeep Try.prog f vs S r) (hp : S'.Perm S) : VKeep Try.prog f vs S' r :=
  VCalls_drops fun m w us hu hw => (h m w us hu (hw.perm hp)).mono fun e w' ⟨r', S1, m', u, ⟨h1, h2⟩, he, hr, st⟩ => ⟨r', S', m', u, ⟨S', Drops.refl _, h1, rfl⟩, he, hr, ((by rw [h2] at st; exact st : Step m S w m' S w').permL hp).permR hp.symm⟩

theorem VPure.le_arg {f : FuncId} {x r : V} (h : VPure Try.prog f [.sl 1 none [], x] r) : VPure Try.prog f [V.nilSl, x] r := fun m w us hu hw => by
  obtain ⟨u, us', rfl, hu1, hu2⟩ := hu
  exact h m w _ ⟨u, us', rfl, V.le.nil 1 m u hu1, hu2⟩ hw

def frontX (f : SFunc) : V := if funcF f = 0 then .tup [.sl 1 none ((frontF f).map intsX), .int 0] else .tup [.sl 1 none [], .int (funcF f)]
theorem climb_stop {ov : List Int} {x : Int} {n : Nat} {a : Int} {ps : IL} (h : ¬ (0 ≤ a ∧ a ≠ gI ov x)) : climbR ov x n a ps = ps := by
  cases n with
  | zero => rfl
  | succ n => rw [climbR, if_neg h]
def sortRow : Option IRow → Option IRow
  | none => none
  | some r => some ⟨r.g, r.cap, r.l.mergeSort fun x y => decide (x ≤ y), r.rest⟩
theorem sort_leaf (o : Option IRow) : iLeaf o = iLeaf (sortRow o) := by
  cases o with
  | none => rfl
  | some r => rw [sortRow, iLeaf, iLeaf, List.length_mergeSort]
theorem sort_il (o : Option IRow) : il (sortRow o) = (il o).mergeSort fun x y => decide (x ≤ y) := by
  cases o with
  | none =>
    show [] = ([] : List Int).mergeSort _
    simp
  | some r => rfl
theorem sort_ok {n : Nat} {o : Option IRow} (h : iOk n o) : iOk n (sortRow o) := by
  cases o with
  | none => trivial
  | some r =>
    obtain ⟨h1, h2, h3, h4, h5, h6⟩ := h
    refine ⟨fun e => h1 ?_, by show (r.l.mergeSort _).length ≤ _; rw [List.length_mergeSort]; exact h2, h3, ?_, ?_, fun x hx => h6 x (List.mem_mergeSort.1 hx)⟩
    · have e2 := congrArg List.length e
      change (r.l.mergeSort _).length = 0 at e2
      rw [List.length_mergeSort] at e2
      exact List.length_eq_zero_iff.1 e2
    · show ((r.l.mergeSort _).map V.int ++ r.rest).length = _
      rw [List.length_append, List.length_map, List.length_mergeSort, ← h4, List.length_append, List.length_map]
    · exact (List.mergeSort_perm r.l _).nodup_iff.2 h5
def iLeaf2 : Option IRow → V
  | none => .sl 1 none []
  | some r => .raw (.slice (some ⟨r.g, 0, none⟩) r.l.length r.cap)
theorem les_rows : ∀ rows : IRows, V.les (rows.map iLeaf) (rows.map iLeaf2)
  | [] => trivial
  | none :: l => ⟨V.le.nil 1, rfl, les_rows l⟩
  | some r :: l => ⟨V.le.refl _, rfl, les_rows l⟩
theorem sort_none {F : FuncId} (hc : ∀ (p : Option Addr) (cap : Nat) (w : World), Calls Try.prog F #[.slice p 0 cap] w fun e w' => e = .returned (.tuple #[]) ∧ w' = w) : VPure Try.prog F [V.nilSl] (.raw (.tuple #[])) := fun m w us hu hw => by
  obtain ⟨u, us', rfl, hu1, hu2⟩ := hu
  have hu1 : u = .slice none 0 0 := hu1
  have hu2 : us' = [] := hu2
  subst hu1 hu2
  exact (hc none 0 w).mono fun e w' ⟨h1, h2⟩ => ⟨_, [], m, .tuple #[], rfl, h1, rfl, by rw [h2]; exact Step.refl hw⟩
theorem sortY_c {n : Nat} (hn : n ≤ 128) {rows : IRows} {w : Nat} {o : Option IRow} (h : rows[w]? = some o) (hok : iOk n o) : VCalls Try.prog 22 [iLeaf o] (rows.flatMap iOwn) fun r S' => S' = (rows.set w (sortRow o)).flatMap iOwn := by
  cases o with
  | none =>
    have h1 : VPure Try.prog 22 [V.nilSl] (.raw (.tuple #[])) := sort_none (fun p cap w => Any.slices_Sort_int_none XS.lays p cap w)
    have h2 : rows.set w (sortRow none) = rows := by
      obtain ⟨hw, he⟩ := List.getElem?_eq_some_iff.1 h
      rw [sortRow, ← he, List.set_getElem_self]
    rw [h2]
    exact (VPure.keep _ h1).mono fun r S' hr => hr.2
  | some r =>
    obtain ⟨h1, h2, h3, h4, h5⟩ := hok
    have hl := lok_len h5
    have hs := VCalls.frame ((rows.set w none).flatMap iOwn) (XS.Sort_c r.g r.cap 3 r.l r.rest (by omega))
    refine VCalls_drops fun m w2 us hu hw => (hs m w2 us hu (hw.perm (rows_split h none).1)).mono fun e w' ⟨r', S1, m', u, ⟨S2, e1, e2⟩, he, hr, st⟩ => ⟨r', S1, m', u, ⟨_, ?_, rfl⟩, he, hr, st.permL (rows_split h none).1⟩
    rw [e2, e1]
    exact Drops.of_perm (rows_split h (sortRow (some r))).2
theorem freeze_rows {nt : Nat} {Q : Exit → Fr → Store → Prop} {F : Fr} {c : Code} {k : Nat} (gp : Nat) : ∀ (rows : IRows) (pre : List V) (R : Store), (∀ o ∈ rows, iOk k o) → VW Try.prog nt c Q F (.cells gp 29 (pre ++ rows.map fun o => intsX (il o)) :: R) → VW Try.prog nt c Q F (.cells gp 29 (pre ++ rows.map iLeaf2) :: (rows.flatMap iOwn ++ R))
  | [], pre, R, _, h => h
  | none :: rows, pre, R, ho, h => by
    have e : ∀ (a : V) (l : List V), pre ++ a :: l = (pre ++ [a]) ++ l := fun a l => by simp
    have h2 := freeze_rows gp rows (pre ++ [.sl 1 none []]) R (fun o h => ho o (List.mem_cons_of_mem _ h)) (by rw [List.map_cons, e] at h; exact h)
    rw [List.map_cons, e]
    exact h2
  | some r :: rows, pre, R, ho, h => by
    have e : ∀ (a : V) (l : List V), pre ++ a :: l = (pre ++ [a]) ++ l := fun a l => by simp
    obtain ⟨q1, q2, q3, q4, q5⟩ := ho _ (List.mem_cons_self ..)
    have h2 := freeze_rows gp rows (pre ++ [intsX r.l]) R (fun o h => ho o (List.mem_cons_of_mem _ h)) (by rw [List.map_cons, e] at h; exact h)
    refine VW_freezeC 1 0 pre.length (sz := 1) (rest := r.rest) (r.l.map V.int) rfl rfl (by rw [List.getElem?_append_right (Nat.le_refl _), Nat.sub_self]; rfl) (by rw [flat_ints]) (by simp) q2 q3 (flat_fits _) ?_
    have e2 : (pre ++ (some r :: rows).map iLeaf2).set pre.length (.sl 1 none (r.l.map V.int)) = (pre ++ [intsX r.l]) ++ rows.map iLeaf2 := by
      rw [List.set_append_right _ _ (Nat.le_refl _), Nat.sub_self, List.map_cons, ← e]
      rfl
    show VW Try.prog nt c Q F (.cells gp 29 ((pre ++ (some r :: rows).map iLeaf2).set pre.length (.sl 1 none (r.l.map V.int))) :: (rows.flatMap iOwn ++ R))
    rw [e2]
    exact h2
theorem flat_ils (rows : IRows) : (rows.map fun o => intsX (il o)).flatMap V.leaves = rows.map fun o => intsX (il o) := by
  induction rows with
  | nil => rfl
  | cons o l ih => rw [List.map_cons, List.flatMap_cons, ih]; rfl
theorem fits_ils (rows : IRows) : ∀ x ∈ rows.map (fun o => intsX (il o)), x.fits 1 = true ∧ ((∃ ls, x = .agg ls) ∨ x.leaf = true) := fun x hx => by
  obtain ⟨o, _, rfl⟩ := List.mem_map.1 hx
  exact ⟨rfl, .inr rfl⟩
theorem sort_step {ps : IL} {rows : IRows} {i : Nat} {o : Option IRow} (hq : rows.map il = (ps.take i).map (fun l => l.mergeSort fun x y => decide (x ≤ y)) ++ ps.drop i) (h : rows[i]? = some o) : (rows.set i (sortRow o)).map il = (ps.take (i + 1)).map (fun l => l.mergeSort fun x y => decide (x ≤ y)) ++ ps.drop (i + 1) := by
  have hil := (List.getElem?_eq_some_iff.1 h).1
  have hlen := congrArg List.length hq
  simp at hlen
  have hi : i < ps.length := by omega
  have hpl : ((ps.take i).map fun l : List Int => l.mergeSort fun x y => decide (x ≤ y)).length = i := by simp; omega
  have hpi : ps[i]? = some (il o) := by
    have h1 : (rows.map il)[i]? = some (il o) := by rw [List.getElem?_map, h]; rfl
    rw [hq, List.getElem?_append_right (by omega), hpl, Nat.sub_self, List.getElem?_drop, Nat.add_zero] at h1
    exact h1
  rw [List.map_set, hq, sort_il, List.set_append_right _ _ (by omega), hpl, Nat.sub_self, drop_cons hpi, take_snoc hpi, List.map_append]
  simp

def predE' (n : Nat) (b : Int) (to : List SEdge) : List Int := (to.filter fun e => e.block == b).map fun _ => (n : Int)
def predsR (b : Int) : Nat → List SBlock → List Int
  | _, [] => []
  | n, x :: l => predE' n b x.term.to ++ predsR b (n + 1) l
theorem predsR_mem {b : Nat} {bs : List SBlock} (hE : ∀ x ∈ bs, ∀ e ∈ x.term.to, 1 ≤ e.block) : ∀ (l : List SBlock) (n : Nat), bs.drop n = l → ∀ y : Int, y ∈ predsR b n l ↔ ∃ p : Nat, y = p ∧ n ≤ p ∧ Go.SM.Edge bs p b
  | [], n, hd, y => by
    rw [predsR]
    constructor
    · intro h; cases h
    · rintro ⟨p, _, hp, x, hx, _⟩
      have h2 := List.drop_eq_nil_iff.1 hd
      unfold toAt at hx
      rw [List.getElem?_eq_none (by omega)] at hx
      cases hx
  | x :: l, n, hd, y => by
    have hx : bs[n]? = some x := by
      have h9 : (bs.drop n)[0]? = some x := by rw [hd]; rfl
      rwa [List.getElem?_drop, Nat.add_zero] at h9
    have hd2 : bs.drop (n + 1) = l := by
      have h9 : (bs.drop n).drop 1 = l := by rw [hd]; rfl
      rwa [List.drop_drop] at h9
    rw [predsR, List.mem_append, predsR_mem hE l (n + 1) hd2, predE', List.mem_map]
    constructor
    · rintro (⟨e, he, rfl⟩ | ⟨p, rfl, hp, hed⟩)
      · obtain ⟨he1, he2⟩ := List.mem_filter.1 he
        exact ⟨n, rfl, Nat.le_refl _, e, by rw [toAt_get hx]; exact he1, by rw [eq_of_beq he2]; rfl⟩
      · exact ⟨p, rfl, by omega, hed⟩
    · rintro ⟨p, rfl, hp, hed⟩
      by_cases hpn : p = n
      · subst hpn
        obtain ⟨e, he, hb⟩ := hed
        rw [toAt_get hx] at he
        have := hE x (List.mem_of_getElem? hx) e he
        exact .inl ⟨e, List.mem_filter.2 ⟨he, by rw [beq_iff_eq]; omega⟩, rfl⟩
      · exact .inr ⟨p, rfl, by omega, hed⟩
theorem any_int {q : Int → Bool} {l : List Int} {m : Nat} {r : Int} (h : l[m]? = some r) : (l.take (m + 1)).any q = ((l.take m).any q || q r) := by rw [take_snoc h, List.any_append]; simp
def qE (f : SFunc) (a : Int) (p : Int) : Bool := ((reachL f).any fun x => decide (x = p)) && domsF f a p
theorem edges_fin {f : SFunc} (h : FuncOk f) {a b : Nat} (hb : b ∈ orderF f.blocks) {la : List Int} (hla : (frontF f)[a]? = some la) {P : List Int} (hP : P = predsR b 0 f.blocks) : (la.any fun x => decide (x = (b : Int))) = ((P.any (qE f a)) && (((a : Int) == (b : Int)) || !domsF f a b)) := by
  have hl := edges_law (a := a) h hb
  rw [hla] at hl
  have hm : ∀ {v : Nat}, ((reachL f).any fun x => decide (x = (v : Int))) = true ↔ v ∈ orderF f.blocks := fun {v} => by
    rw [← reach_mem, List.any_eq_true]
    constructor
    · rintro ⟨x, hx, e⟩; rwa [← of_decide_eq_true e]
    · intro hx; exact ⟨_, hx, decide_eq_true rfl⟩
  have hp : (P.any (qE f a)) = true ↔ ∃ p, Go.SM.Edge f.blocks p b ∧ p ∈ orderF f.blocks ∧ domsF f a p = true := by
    rw [hP, List.any_eq_true]
    constructor
    · rintro ⟨x, hx, hq⟩
      obtain ⟨p, rfl, _, hed⟩ := (predsR_mem (fun x hx e he => (h.edges x hx e he).1) f.blocks 0 rfl x).1 hx
      rw [qE, Bool.and_eq_true, hm] at hq
      exact ⟨p, hed, hq⟩
    · rintro ⟨p, hed, hq1, hq2⟩
      exact ⟨p, (predsR_mem (fun x hx e he => (h.edges x hx e he).1) f.blocks 0 rfl _).2 ⟨p, rfl, Nat.zero_le _, hed⟩, by rw [qE, Bool.and_eq_true, hm]; exact ⟨hq1, hq2⟩⟩
  rw [Bool.eq_iff_iff, Bool.and_eq_true, Bool.or_eq_true, hp, beq_iff_eq, Bool.not_eq_true', ← Bool.not_eq_true]
  have h1 : (la.any fun x => decide (x = (b : Int))) = true ↔ (b : Int) ∈ la := by
    rw [List.any_eq_true]
    constructor
    · rintro ⟨x, hx, e⟩; rwa [← of_decide_eq_true e]
    · intro hx; exact ⟨_, hx, decide_eq_true rfl⟩
  rw [h1]
  have h2 : ((a : Int) = (b : Int)) ↔ a = b := by omega
  rw [h2]
  exact hl
theorem predE_cons (n : Nat) (b : Int) (e : SEdge) (l : List SEdge) : predE' n b (e :: l) = (if e.block = b then [(n : Int)] else []) ++ predE' n b l := by
  unfold predE'
  rw [List.filter_cons]
  by_cases h : e.block = b
  · rw [if_pos h, if_pos (by rw [h]; simp)]
    rfl
  · rw [if_neg h, if_neg (by simpa using h)]
    rfl

theorem edge_lt {bs : List SBlock} {p b : Nat} (h : Go.SM.Edge bs p b) : p < bs.length := by
  obtain ⟨x, hx, _⟩ := h
  refine Classical.byContradiction fun hn => ?_
  unfold toAt at hx
  rw [List.getElem?_eq_none (by omega)] at hx
  cases hx

open Go.VL renaming VOps_nil → Za, VW_seq → Zb, VW_region → Zd, Needs_nil → Ze, VOps_skipU → Zh, Then_n → Zi, V_fieldAddr → Zj, V_assign → Zk, V_move → Zl, eqRes → Zm, vopT → Zn, goodS → Zo, good0 → Zq, VW_block → Zs, VW_exit → Zt, V_load → Zu, V_load_agg → Zv, V_store_agg → Zx, V_indexAddr → Zz, InBlock_r → Za1, InBlock_n → Zb1, InBlock_hit → Zc1, Then_r → Zd1, Then_e → Ze1, VW_ret → Zf1, VRet_one → Zg1, VRet_many → Zh1, VW_skip → Zi1, V_bin → Zj1, VW_condEq → Zl1, VW_condNe → Zm1, VW_condP → Zn1, VW_condN → Zo1, VW_condT → Zp1, VW_condF → Zq1, V_pickT → Zs1, V_pickF → Zt1, V_callP → Zx1, V_load_ep → Zz1, V_load_ep_agg → Za2, V_alloc → Zb2, V_box → Zc2, V_lenN → Zd2, V_len → Ze2, V_extract → Zg2, V_add → Zh2, VW_loopF → Zi2, VOps_split → Zj2, V_not → Zl2, goodA → Zm2, goodU → Zo2, evs_cons → Zp2, evs_nil → Zq2, V_indexAddr_row → Zr2, Drops.refl → Zt2, VOp_as → Zu2, oneRes → Zw2, oneE → Zx2, anyRes → Za3, V_load_elem1 → Zf3, V_store_elem1 → Zh3, V_appendN → Zi3, V_lit → Zk3, V_callKs → Zl3
set_option maxRecDepth 100000 in
theorem idxR_c (l : List Int) (hl : l.length ≤ 1000000) (g cap : Nat) (rest : List V) (v : Int) : VKeep Try.prog 45 [.raw (.slice (some ⟨g, 0, none⟩) l.length cap), .int v] [.cells g 3 (l.map V.int ++ rest)] (.int (idxOf (fun x => decide (v = x)) l)) := by
 refine V_start (nt := 19) Try.func45 rfl rfl rfl ?_
 refine Zb (Zd (Zc (Zk rfl (Za (Zi (Zb (Zb (Zd (Zc (Zl rfl ?_))))))))))
 refine Zc (V_len_raw Try.underlying29 rfl ?_)
 refine Zc (Zl rfl (Za (Zi (Zs ?_))))
 refine Zi2 (ι := Nat) (fun k => l.length - k) (fun k => [(0, some (.raw (.slice (some ⟨g, 0, none⟩) l.length cap))), (1, some (.int v)), (7, some (.int l.length)), (8, some (.int k))]) (fun k => [.cells g 3 (l.map V.int ++ rest)]) (fun k => k ≤ l.length ∧ (l.take k).any (fun x => decide (v = x)) = false) 0 ⟨Nat.zero_le _, rfl⟩ ⟨rfl, rfl, rfl, rfl, trivial⟩ (Drops.keep (Zt2 _)) ?_
 rintro k hA
 change k ≤ l.length ∧ (l.take k).any (fun x => decide (v = x)) = false at hA
 obtain ⟨hk, hany⟩ := hA
 refine Zb (Zd (Zc (Zj1 rfl rfl rfl (Za (Zi (Zb ?_))))))
 refine Zn1 rfl (fun h9 => ?_) (fun h9 => ?_)
 ·
  obtain ⟨x, hr⟩ := get_of_lt l k h9
  refine Zi1 (Zi (Zb (Zs (Zb (Zd (Zc (Zl rfl (Zc (Zk rfl (Za (Zi (Zb (Zd (Zc (Zl rfl (Zc (Zl rfl (Zc (Zl rfl ?_)))))))))))))))))))
  refine Zc (Zr2 VT.sl29 rfl rfl (by omega) (by omega) ?_)
  refine Zc (Zf3 0 k VT.ty3 rfl (by simp) rfl rfl (get_int hr) ?_)
  refine Zc (Zj1 rfl rfl rfl (Za (Zi ?_)))
  refine Zl1 rfl (fun h16 => ?_) (fun h16 => ?_)
  ·
   refine Zb (Zd (Zc (Zl rfl (Zc (Zk rfl (Za (Zi (Zf1 ?_))))))))
   refine Za1 (Zd1 (Zd1 (Za1 (Zd1 (Zg1 rfl (.tmp rfl) ?_)))))
   rw [idxOf_at (fun x => decide (v = x)) hr hany (decide_eq_true h16)]
   exact ⟨rfl, rfl⟩
  ·
   refine Zi1 (Zb1 (Zi (Zd ?_)))
   refine Zc (Zh2 rfl rfl (by omega) ?_)
   refine Zc (Zl rfl (Za (Zi ?_)))
   exact ⟨k + 1, (by (try simp only []); omega), ⟨by omega, any_snoc hr hany (decide_eq_false h16)⟩, ⟨rfl, rfl, rfl, rfl, trivial⟩, (Drops.keep (Zt2 _))⟩
 ·
  have hke : k = l.length := by omega
  subst hke
  rw [List.take_length] at hany
  refine Zt (Ze1 (Ze1 (Zc1 (Zi (Zb (Zd (Zc (Zk rfl (Za (Zi (Zf1 ?_)))))))))))
  refine Zg1 rfl (.tmp rfl) ?_
  rw [idxOf_none (fun x => decide (v = x)) hany]
  exact ⟨rfl, rfl⟩


set_option maxRecDepth 100000 in
theorem contR_c (l : List Int) (hl : l.length ≤ 1000000) (g cap : Nat) (rest : List V) (v : Int) : VKeep Try.prog 26 [.raw (.slice (some ⟨g, 0, none⟩) l.length cap), .int v] [.cells g 3 (l.map V.int ++ rest)] (.bool (l.any fun x => decide (v = x))) := by
 refine V_start (nt := 9) Try.func26 rfl rfl rfl ?_
 refine Zb (Zd (Zc (Zk rfl (Za (Zi (Zb (Zd (Zc (Zl rfl (Zc (Zl rfl ?_)))))))))))
 refine Zc (Zl3 [.tmp 5, .tmp 6] [_] _ rfl rfl VT.en45 (.refl _) (idxR_c l hl g cap rest v) ?_)
 refine Zc (Zj1 rfl rfl rfl (Zc (Zk rfl (Za (Zi (Zf1 ?_))))))
 refine Zg1 rfl (.tmp rfl) ?_
 rw [idxOf_ge]
 exact ⟨rfl, rfl⟩


theorem contY_c {n : Nat} (hn : n ≤ 128) {rows : IRows} {w : Nat} {o : Option IRow} (h : rows[w]? = some o) (hok : iOk n o) (x : Int) : VKeep Try.prog 26 [iLeaf o, .int x] (rows.flatMap iOwn) (.bool ((il o).any fun y => decide (x = y))) := by
  cases o with
  | none => exact VPure.keep _ (VPure.le_arg (intContains_c [] none x))
  | some r =>
    have hl := lok_len hok.2.2.2.2
    exact VKeep.perm2 (VKeep.frame _ (contR_c r.l (by omega) r.g r.cap r.rest x)) (rows_split h none).1

set_option maxRecDepth 100000 in
set_option maxHeartbeats 16000000 in
theorem Frontier_c (f : SFunc) : VPure Try.prog 12 [funcV f] (frontX f) := by
 have hr := frontX.eq_def f
 refine V_start (nt := 97) Try.func12 rfl rfl rfl ?_
 refine Zb (Zd ?_)
 refine Zc (Zc2 rfl rfl (fun g1 => ?_))
 refine Zc (Zk rfl (Zc (Zk rfl (Za (Zi (Zb (Zd (Zc (Zv 0 VT.ty24 rfl rfl rfl ?_)))))))))
 refine Zc (Zx1 [.tmp 15] rfl rfl VT.en23 (Build_c f) ?_)
 refine Zc (Zl rfl (Zc (Zg2 rfl rfl (Zc (Zg2 rfl rfl ?_)))))
 refine Zc (Zb2 VT.zr66 _ rfl rfl (fun g4 => ?_))
 refine Zc (Zx 0 VT.ty66 rfl rfl rfl rfl rfl (Zc (Zk rfl (Za (Zi (Zb (Zb (Zd (Zc (Zl rfl (Zc (Zj1 rfl rfl rfl (Za (Zi ?_))))))))))))))
 refine Zm1 rfl (fun h20 => ?_) (fun h20 => ?_)
 ·
  rw [if_neg h20] at hr
  refine Zb (Zd (Zc (Zl rfl ?_)))
  refine Zc (Zu2 (Zk rfl ⟨rfl, rfl⟩) ((V.le.nil 1)) ?_)
  refine Zc (Zk rfl (Za (Zi (Zf1 ?_))))
  refine Zd1 (Zh1 rfl rfl (.cons (.tmp rfl) (.cons (.tmp rfl) (.nil))) ?_)
  rw [hr]
 ·
  rw [if_pos h20] at hr
  have hok := func_ok h20
  have hbp := hok.pos
  have h128 := hok.len
  have ho := order_ok hok.pos hok.edges
  have ht := tree_ok ho hok.edges
  have htl := ht.inv.tree.len
  have hpl := place_len f.blocks
  have hgv : graphV f = .agg [intsX (treeF f.blocks), intsX (placeZ f.blocks)] := by rw [graphV, if_pos h20, if_pos h20]
  refine Zi1 (Zi ?_)
  refine VW_drops (S' := [.cells g4 66 [intsX (treeF f.blocks), intsX (placeZ f.blocks)], .cells g1 24 [.int f.name, blocksX f.blocks]]) (by rw [if_pos h20, if_pos h20]; exact Zt2 _) ?_
  refine Zb (Zd (Zc (Zj VT.fa24_1 rfl (Zc (Zu 1 VT.ty22 rfl rfl rfl ?_)))))
  refine Zc (Zd2 (n := f.blocks.length) Try.underlying22 rfl (by simp) (fun hl24 => ?_))
  refine Zc (V_makeRow (.raw (.slice none 0 0)) (fun m => rfl) rfl VT.sl37 rfl rfl (by omega) (by omega) (fun g25 => ?_))
  refine Zc (Zk rfl (Za (Zi ?_)))
  refine VW_drops (S' := .cells g25 29 ((List.replicate f.blocks.length (none : Option IRow)).map iLeaf) :: .cells g4 66 [intsX (treeF f.blocks), intsX (placeZ f.blocks)] :: .cells g1 24 [.int f.name, blocksX f.blocks] :: (List.replicate f.blocks.length (none : Option IRow)).flatMap iOwn) (by rw [none_own, Int.toNat_natCast, flat_nil, List.map_replicate]; exact Zt2 _) ?_
  refine Zb (Zb (Zd (Zc (Zj VT.fa24_1 rfl (Zc (Zu 2 VT.ty22 rfl rfl rfl ?_))))))
  refine Zc (Zd2 (n := f.blocks.length) Try.underlying22 rfl (by simp) (fun hl28 => ?_))
  refine Zc (Zl rfl (Za (Zi (Zs ?_))))
  refine Zi2 (ι := Nat × IRows) (fun (k, rows0) => f.blocks.length - k) (fun (k, rows0) => [(1, some (.ptr g1 0)), (4, some (.ptr g4 0)), (6, some (.raw (.slice (some ⟨g25, 0, none⟩) f.blocks.length f.blocks.length))), (27, some (blocksX f.blocks)), (28, some (.int f.blocks.length)), (29, some (.int k))]) (fun (k, rows0) => .cells g25 29 (rows0.map iLeaf) :: .cells g4 66 [intsX (treeF f.blocks), intsX (placeZ f.blocks)] :: .cells g1 24 [.int f.name, blocksX f.blocks] :: rows0.flatMap iOwn) (fun (k, rows0) => k ≤ f.blocks.length ∧ blocksK (treeF f.blocks) (placeZ f.blocks) (f.blocks.length + 1) k (f.blocks.drop k) (rows0.map il) = frontR f ∧ rows0.length = f.blocks.length ∧ (∀ x ∈ rows0, iOk f.blocks.length x)) (0, List.replicate f.blocks.length (none : Option IRow)) ⟨Nat.zero_le _, by rw [List.map_replicate]; rfl, List.length_replicate, fun x hx => by rw [List.eq_of_mem_replicate hx]; trivial⟩ ⟨rfl, rfl, rfl, rfl, rfl, rfl, trivial⟩ (Drops.keep (Drops.keep (Drops.keep (Zt2 _)))) ?_
  rintro ⟨k, rows0⟩ hA0
  change k ≤ f.blocks.length ∧ blocksK (treeF f.blocks) (placeZ f.blocks) (f.blocks.length + 1) k (f.blocks.drop k) (rows0.map il) = frontR f ∧ rows0.length = f.blocks.length ∧ (∀ x ∈ rows0, iOk f.blocks.length x) at hA0
  obtain ⟨hk, hq0, hlen0, hrok0⟩ := hA0
  refine Zb (Zd (Zc (Zj1 rfl rfl rfl (Za (Zi (Zb ?_))))))
  refine Zn1 rfl (fun h30 => ?_) (fun h30 => ?_)
  ·
   obtain ⟨b, hb⟩ := get_of_lt f.blocks k h30
   obtain ⟨pk, hpk⟩ := get_of_lt (placeZ f.blocks) k (by omega)
   have hgp := gI_get ho hpk
   rw [drop_cons hb, blocksK, hgp] at hq0
   refine Zi1 (Zi (Zb (Zs (Zb (Zd (Zc (Zl rfl ?_)))))))
   refine Zc (Zz (el := blockV b) VT.sl22 rfl rfl (by omega) (get_mapS _ hb) (fun a32 => ?_))
   refine Zc (Za2 VT.ty56 rfl rfl ?_)
   refine Zc (Zb2 VT.zr56 _ rfl rfl (fun g8 => ?_))
   refine Zc (Zk rfl (Zc (Zx 0 VT.ty56 rfl rfl rfl rfl rfl (Za (Zi (Zb (Zb (Zd (Zc (Zj VT.fa66_1 rfl (Zc (Zu 2 VT.ty29 rfl rfl rfl (Zc (Zl rfl ?_))))))))))))))
   refine Zc (Zz (el := V.int pk) VT.sl29 rfl rfl (by omega) (get_int hpk) (fun a37 => ?_))
   refine Zc (Zz1 VT.ty3 rfl rfl (Zc (Zj1 rfl rfl rfl (Za (Zi ?_)))))
   refine Zn1 rfl (fun h39 => ?_) (fun h39 => ?_)
   ·
    rw [if_pos h39] at hq0
    have hq02 := hq0
    have hlen02 := hlen0
    have hrok02 := hrok0
    refine Zt (Ze1 (Zc1 (Zi (Zd ?_))))
    refine Zc (Zh2 rfl rfl (by omega) ?_)
    refine Zc (Zl rfl (Za (Zi ?_)))
    exact ⟨(k + 1, rows0), (by (try simp only []); omega), ⟨by omega, hq02, hlen02, hrok02⟩, ⟨rfl, rfl, rfl, rfl, rfl, rfl, trivial⟩, (Drops.drop (Drops.keep (Drops.keep (Drops.keep (Zt2 _)))))⟩
   ·
    rw [if_neg h39] at hq0
    have hkm : k ∈ orderF f.blocks := by
          rcases place_get (bs := f.blocks) (v := k) (by omega) with ⟨h9, _⟩ | ⟨i, _, h9⟩
          · omega
          · exact List.mem_of_getElem? h9
    refine Zi1 (Zi (Zb (Zd (Zc (Zj VT.fa56_2 rfl (Zc (Zj VT.fa54_4 rfl (Zc (Zu 0 VT.ty52 rfl rfl rfl ?_)))))))))
    refine Zc (Zd2 (n := b.term.to.length) Try.underlying52 rfl (by simp) (fun hl43 => ?_))
    refine Zc (Zl rfl (Za (Zi (Zs ?_))))
    refine Zi2 (ι := Nat × IRows) (fun (j, rows1) => b.term.to.length - j) (fun (j, rows1) => [(1, some (.ptr g1 0)), (4, some (.ptr g4 0)), (6, some (.raw (.slice (some ⟨g25, 0, none⟩) f.blocks.length f.blocks.length))), (27, some (blocksX f.blocks)), (28, some (.int f.blocks.length)), (29, some (.int k)), (7, some (.int k)), (8, some (.ptr g8 0)), (42, some (edgesX b.term.to)), (43, some (.int b.term.to.length)), (44, some (.int j))]) (fun (j, rows1) => .cells g25 29 (rows1.map iLeaf) :: .cells g8 56 (blockV b).leaves :: .cells g4 66 [intsX (treeF f.blocks), intsX (placeZ f.blocks)] :: .cells g1 24 [.int f.name, blocksX f.blocks] :: rows1.flatMap iOwn) (fun (j, rows1) => j ≤ b.term.to.length ∧ edgesK (treeF f.blocks) (f.blocks.length + 1) k (b.term.to.drop j) (rows1.map il) = edgesK (treeF f.blocks) (f.blocks.length + 1) k b.term.to (rows0.map il) ∧ rows1.length = f.blocks.length ∧ (∀ x ∈ rows1, iOk f.blocks.length x)) (0, rows0) ⟨Nat.zero_le _, rfl, hlen0, hrok0⟩ ⟨rfl, rfl, rfl, rfl, rfl, rfl, rfl, rfl, rfl, rfl, rfl, trivial⟩ (Drops.pick 1 rfl rfl (Drops.pick 0 rfl rfl (Drops.pick 0 rfl rfl (Drops.pick 0 rfl rfl (Zt2 _))))) ?_
    rintro ⟨j, rows1⟩ hA1
    change j ≤ b.term.to.length ∧ edgesK (treeF f.blocks) (f.blocks.length + 1) k (b.term.to.drop j) (rows1.map il) = edgesK (treeF f.blocks) (f.blocks.length + 1) k b.term.to (rows0.map il) ∧ rows1.length = f.blocks.length ∧ (∀ x ∈ rows1, iOk f.blocks.length x) at hA1
    obtain ⟨hj, hq1, hlen1, hrok1⟩ := hA1
    refine Zb (Zd (Zc (Zj1 rfl rfl rfl (Za (Zi (Zb ?_))))))
    refine Zn1 rfl (fun h45 => ?_) (fun h45 => ?_)
    ·
     obtain ⟨e, he⟩ := get_of_lt b.term.to j h45
     have hem := List.mem_of_getElem? he
     obtain ⟨he1, he2⟩ := hok.edges b (List.mem_of_getElem? hb) e hem
     obtain ⟨_, _, q, hqx, hqi, hqa⟩ := idom_anc hok hkm (b := e.block.toNat) ⟨e, by rw [toAt_get hb]; exact hem, rfl⟩
     have hgq : gI (treeF f.blocks) e.block = q := by rw [gI, hqx]; rfl
     rw [drop_cons he] at hq1
     change edgesK (treeF f.blocks) (f.blocks.length + 1) k (b.term.to.drop (j + 1)) (climbR (treeF f.blocks) e.block (f.blocks.length + 1) k (rows1.map il)) = _ at hq1
     refine Zi1 (Zi (Zb (Zs (Zb (Zd ?_)))))
     refine Zc (Zz (el := edgeV e) VT.sl52 rfl rfl (by omega) (get_mapS _ he) (fun a46 => ?_))
     refine Zc (Za2 VT.ty71 rfl rfl ?_)
     refine Zc (Zb2 VT.zr71 _ rfl rfl (fun g10 => ?_))
     refine Zc (Zx 0 VT.ty71 rfl rfl rfl rfl rfl (Za (Zi (Zb (Zd (Zc (Zl rfl (Zc (Zk rfl (Za (Zi (Zs ?_))))))))))))
     refine Zi2 (ι := Nat × Int × IRows) (fun (n, x, rows) => n) (fun (n, x, rows) => [(1, some (.ptr g1 0)), (4, some (.ptr g4 0)), (6, some (.raw (.slice (some ⟨g25, 0, none⟩) f.blocks.length f.blocks.length))), (27, some (blocksX f.blocks)), (28, some (.int f.blocks.length)), (29, some (.int k)), (7, some (.int k)), (8, some (.ptr g8 0)), (42, some (edgesX b.term.to)), (43, some (.int b.term.to.length)), (44, some (.int j)), (10, some (.ptr g10 0)), (11, some (.int x))]) (fun (n, x, rows) => .cells g25 29 (rows.map iLeaf) :: .cells g10 71 [.int e.block, intsX e.args] :: .cells g8 56 (blockV b).leaves :: .cells g4 66 [intsX (treeF f.blocks), intsX (placeZ f.blocks)] :: .cells g1 24 [.int f.name, blocksX f.blocks] :: rows.flatMap iOwn) (fun (n, x, rows) => climbR (treeF f.blocks) e.block n x (rows.map il) = climbR (treeF f.blocks) e.block (f.blocks.length + 1) k (rows1.map il) ∧ rows.length = f.blocks.length ∧ (∀ x ∈ rows, iOk f.blocks.length x) ∧ (x = -1 ∨ ∃ v : Nat, x = v ∧ InT f.blocks (treeF f.blocks) v ∧ pos f.blocks v < n)) (f.blocks.length + 1, (k : Int), rows1) ⟨rfl, hlen1, hrok1, .inr ⟨k, rfl, ht.all k hkm, by have := pos_lt ho hkm; omega⟩⟩ ⟨rfl, rfl, rfl, rfl, rfl, rfl, rfl, rfl, rfl, rfl, rfl, rfl, rfl, trivial⟩ (Drops.pick 1 rfl rfl (Drops.pick 0 rfl rfl (Drops.pick 0 rfl rfl (Drops.pick 0 rfl rfl (Drops.pick 0 rfl rfl (Zt2 _)))))) ?_
     rintro ⟨n, x, rows⟩ hA2
     change climbR (treeF f.blocks) e.block n x (rows.map il) = climbR (treeF f.blocks) e.block (f.blocks.length + 1) k (rows1.map il) ∧ rows.length = f.blocks.length ∧ (∀ x ∈ rows, iOk f.blocks.length x) ∧ (x = -1 ∨ ∃ v : Nat, x = v ∧ InT f.blocks (treeF f.blocks) v ∧ pos f.blocks v < n) at hA2
     obtain ⟨hq, hlen, hrok, hx⟩ := hA2
     refine Zb (Zb (Zd (Zc (Zl rfl (Zc (Zj1 rfl rfl rfl (Zc (Zl rfl ?_))))))))
     refine Zj2 (q := 51) rfl (fun hq51 => ?_) (fun hq51 => ?_)
     ·
      have h51 : x ≥ 0 := of_decide_eq_true hq51
      refine Zc (Zl rfl ?_) (Zy1 hq51)
      refine Zc (Zj VT.fa66_0 rfl ?_) (Zy1 hq51)
      refine Zc (Zu 3 VT.ty29 rfl rfl rfl ?_) (Zy1 hq51)
      refine Zc (Zj VT.fa71_0 rfl ?_) (Zy1 hq51)
      refine Zc (Zu 1 VT.ty3 rfl rfl rfl ?_) (Zy1 hq51)
      refine Zc (Zz (el := V.int (q : Int)) VT.sl29 rfl rfl (by omega) (get_int hqx) (fun a57 => ?_)) (Zy1 hq51)
      refine Zc (Zz1 VT.ty3 rfl rfl ?_) (Zy1 hq51)
      refine Zc (Zj1 rfl rfl rfl ?_) (Zy1 hq51)
      refine Zc (Zs1 rfl hq51 rfl ?_)
      refine Za (Zi ?_)
      refine Zm1 rfl (fun h60 => ?_) (fun h60 => ?_)
      ·
       obtain ⟨v, rfl, hin2, hpv⟩ := hx.resolve_left (by omega)
       obtain ⟨m, rfl⟩ : ∃ m, n = m + 1 := ⟨n - 1, by omega⟩
       rw [climbR, if_pos ⟨h51, by rw [hgq]; exact h60⟩, Int.toNat_natCast] at hq
       have hvl := ho.lt v hin2.1
       obtain ⟨y, hy⟩ := get_of_lt (treeF f.blocks) v (by omega)
       rw [gI_get ho hy] at hq
       have hy2 : y = -1 ∨ ∃ w : Nat, y = w ∧ InT f.blocks (treeF f.blocks) w ∧ pos f.blocks w < m := climb_next ho ht.inv.tree hin2 hy hpv
       obtain ⟨o, hro⟩ := get_of_lt rows v (by omega)
       have hoo := hrok _ (List.mem_of_getElem? hro)
       refine Zi1 (Zi (Zb (Zs (Zb ?_))))
       refine VW_drawR (G := Unit) [([], [6], []), ([], [11], []), ([1, 0], [66, 67], []), ([2, 1, 0], [68], []), ([], [10], []), ([4], [70], []), (dn 6, [69, 71], []), (dn 7, [72], [])] [] (constSt _) [73] [66, 67, 68, 69, 70, 71, 72, 73] rfl VT.mix ?_
       refine Zp (Zm _) (Zq (fun γ => Zf (fun _ h6 => Ze (Zn rfl (Zl h6 ⟨rfl, rfl⟩))))) ?_
       refine Zp (Zm _) (Zq (fun γ => Zf (fun _ h11 => Ze (Zn rfl (Zl h11 ⟨rfl, rfl⟩))))) ?_
       refine Zp (Zm _) (Zq (fun γ => Zw 0 1 rfl (fun _ h66 => Zw 1 0 rfl (fun _ h67 => Ze (Zn rfl (Zr2 VT.sl37 h66 h67 (by omega) (by omega) ⟨rfl, rfl⟩)))))) ?_
       refine Zp (Zm _) (Zq (fun γ => Zw 2 0 rfl (fun _ h68 => Ze (Zn rfl (Zf3 0 v VT.ty29 h68 (by simp) rfl (List.append_nil _).symm (get_mapS iLeaf hro) ⟨rfl, rfl⟩))))) ?_
       refine Zp (Zm _) (Zq (fun γ => Zf (fun _ h10 => Ze (Zn rfl (Zj VT.fa71_0 h10 ⟨rfl, rfl⟩))))) ?_
       refine Zp (Zm _) (Zq (fun γ => Zw 4 0 rfl (fun _ h70 => Ze (Zn rfl (Zu 1 VT.ty3 h70 rfl rfl ⟨rfl, rfl⟩))))) ?_
       refine Zp (Zm _) (Zq (fun γ => Zw 3 2 rfl (fun _ h69 => Zw 5 0 rfl (fun _ h71 => Ze (Zn rfl (Zl3 [.tmp 69, .tmp 71] _ [_, _, _, _, _] rfl (Zp2 h69 (Zp2 h71 Zq2)) VT.en26 (List.perm_append_comm (l₁ := [_, _, _, _, _]) (l₂ := _)) (contY_c h128 hro hoo e.block) ⟨rfl, rfl⟩)))))) ?_
       refine Zp (Zm _) (Zq (fun γ => Zw 6 0 rfl (fun _ h72 => Ze (Zn rfl (Zl2 h72 ⟨rfl, rfl⟩))))) ?_
       refine DrawP_nil (fun γ => Zw 7 0 rfl (fun r73 h73 => Ze ?_))
       have e73 : r73 = some _ := h73
       subst e73
       clear h73
       refine Zi ?_
       refine Zo1 rfl (fun h73 => ?_) (fun h73 => ?_)
       ·
        rcases o with _ | rr
        ·
         refine VW_drawR (G := (Nat × Nat × List V)) [([], [6], []), ([], [11], []), ([], [6], []), ([], [11], []), ([3, 2], [76, 77], []), ([4, 3, 2], [78], []), ([], [10], []), ([6], [80], []), ([7, 6], [81], []), ([8, 7, 6, 5, 4, 3, 2], [79, 82], [0]), (dn 10, [74, 75], []), (dn 11, [84, 83], [])] [9, 11] (twoSt _ (fun x => [.cells (nrm 1 x).1 3 ([e.block].map V.int ++ (nrm 1 x).2.2), .cells g25 29 (rows.map iLeaf), .cells g10 71 [.int e.block, intsX e.args], .cells g8 56 (blockV b).leaves, .cells g4 66 [intsX (treeF f.blocks), intsX (placeZ f.blocks)], .cells g1 24 [.int f.name, blocksX f.blocks]] ++ rows.flatMap iOwn) (fun x _ => [.cells (nrm 1 x).1 3 ([e.block].map V.int ++ (nrm 1 x).2.2), .cells g25 29 ((rows.map iLeaf).set v (.raw (.slice (some ⟨(nrm 1 x).1, 0, none⟩) 1 (nrm 1 x).2.1)) ++ []), .cells g10 71 [.int e.block, intsX e.args], .cells g8 56 (blockV b).leaves, .cells g4 66 [intsX (treeF f.blocks), intsX (placeZ f.blocks)], .cells g1 24 [.int f.name, blocksX f.blocks]] ++ rows.flatMap iOwn)) [] [74, 75, 76, 77, 78, 79, 80, 81, 82, 83, 84] rfl VT.mix ?_
         refine Zp (Zm _) (Zm2 rfl (fun _ => (fun γ => Zf (fun _ h6 => Ze (Zn rfl (Zl h6 ⟨rfl, rfl⟩)))))) ?_
         refine Zp (Zm _) (Zm2 rfl (fun _ => (fun γ => Zf (fun _ h11 => Ze (Zn rfl (Zl h11 ⟨rfl, rfl⟩)))))) ?_
         refine Zp (Zm _) (Zo rfl rfl ⟨(fun γ => Zf (fun _ h6 => Ze (Zn rfl (Zl h6 ⟨rfl, rfl⟩)))), trivial⟩) ?_
         refine Zp (Zm _) (Zo rfl rfl ⟨(fun γ => Zf (fun _ h11 => Ze (Zn rfl (Zl h11 ⟨rfl, rfl⟩)))), trivial⟩) ?_
         refine Zp (Zm _) (Zo rfl rfl ⟨(fun γ => Zw 2 1 rfl (fun _ h76 => Zw 3 0 rfl (fun _ h77 => Ze (Zn rfl (Zr2 VT.sl37 h76 h77 (by omega) (by omega) ⟨rfl, rfl⟩))))), trivial⟩) ?_
         refine Zp (Zm _) (Zo rfl rfl ⟨(fun γ => Zw 4 0 rfl (fun _ h78 => Ze (Zn rfl (Zu2 (Zf3 0 v VT.ty29 h78 (by simp) rfl (List.append_nil _).symm (get_mapS iLeaf hro) ⟨rfl, rfl⟩) ((V.le.refl _ : V.le _ V.nilSl)) ⟨rfl, rfl⟩)))), trivial⟩) ?_
         refine Zp (Zm _) (Zo rfl rfl ⟨(fun γ => Zf (fun _ h10 => Ze (Zn rfl (Zj VT.fa71_0 h10 ⟨rfl, rfl⟩)))), trivial⟩) ?_
         refine Zp (Zm _) (Zo rfl rfl ⟨(fun γ => Zw 6 0 rfl (fun _ h80 => Ze (Zn rfl (Zu 1 VT.ty3 h80 rfl rfl ⟨rfl, rfl⟩)))), trivial⟩) ?_
         refine Zp (Zm _) (Zo rfl rfl ⟨(fun γ => Zw 7 0 rfl (fun _ h81 => Ze (Zn rfl (Zk3 [.tmp 81] VT.sl29 rfl rfl rfl (Zp2 h81 Zq2) rfl ⟨rfl, rfl⟩)))), trivial⟩) ?_
         refine Zp (Zw2 (fun x => .raw (.slice (some ⟨(nrm 1 x).1, 0, none⟩) 1 (nrm 1 x).2.1))) (Zo2 0 rfl (fun γ => Zw 5 3 rfl (fun _ h79 => Zw 8 0 rfl (fun _ h82 => Ze (Zn rfl (V_appendRowL VT.sl29 (by decide) h79 h82 (by simp) (by simp) (by intro y hy; rw [List.mem_singleton.1 hy]; rfl) (fun g83 cap83 rest83 hc83 hm83 hl83 => ⟨(g83, cap83, rest83), ⟨_, rfl, (by show some (V.raw (.slice (some ⟨g83, 0, none⟩) 1 cap83)) = some (V.raw (.slice (some ⟨(nrm 1 (g83, cap83, rest83)).1, 0, none⟩) 1 (nrm 1 (g83, cap83, rest83)).2.1)); rw [nrm_eq (n := 1) hc83 hm83 (by have h9 := hl83; rw [List.length_append] at h9; exact h9)])⟩, (by show Own.cells g83 3 ([e.block].map V.int ++ rest83) :: _ = Own.cells (nrm 1 (g83, cap83, rest83)).1 3 ([e.block].map V.int ++ (nrm 1 (g83, cap83, rest83)).2.2) :: _; rw [nrm_eq (n := 1) hc83 hm83 (by have h9 := hl83; rw [List.length_append] at h9; exact h9)]; try rfl)⟩))))))) ?_
         refine Zp (Zm _) (Zo rfl rfl ⟨(fun γ => Zw 0 9 rfl (fun _ h74 => Zw 1 8 rfl (fun _ h75 => Ze (Zn rfl (Zr2 VT.sl37 h74 h75 (by omega) (by omega) ⟨rfl, rfl⟩))))), trivial⟩) ?_
         refine Zp Za3 (Zo2 1 rfl (fun γ => Zw 10 0 rfl (fun _ h84 => Zw 9 1 rfl (fun _ h83 => Ze (Zx2 h83 (fun e83 => Zn rfl (Zh3 1 v VT.ty29 h84 (by simp) e83 rfl rfl (List.append_nil _).symm (by rw [List.length_map]; omega) ⟨default, trivial, rfl⟩))))))) ?_
         refine DrawP_nil (fun γ => Ze ?_)
         refine Zb1 (Zi ?_)
         obtain ⟨n1, n2, n3⟩ := nrm_ok (n := 1) (by simp only [maxLen]; omega) (γ 0)
         have hq2 : climbR (treeF f.blocks) e.block m y ((rows.set v (some (IRow.mk (nrm 1 (γ 0)).1 (nrm 1 (γ 0)).2.1 [e.block] (nrm 1 (γ 0)).2.2))).map il) = climbR (treeF f.blocks) e.block (f.blocks.length + 1) k (rows1.map il) := by rw [il_set hro (o' := (some (IRow.mk (nrm 1 (γ 0)).1 (nrm 1 (γ 0)).2.1 [e.block] (nrm 1 (γ 0)).2.2))) h73 rfl]; exact hq
         have hlen2 : (rows.set v (some (IRow.mk (nrm 1 (γ 0)).1 (nrm 1 (γ 0)).2.1 [e.block] (nrm 1 (γ 0)).2.2))).length = f.blocks.length := by rw [List.length_set]; exact hlen
         have hok2 : ∀ x ∈ (rows.set v (some (IRow.mk (nrm 1 (γ 0)).1 (nrm 1 (γ 0)).2.1 [e.block] (nrm 1 (γ 0)).2.2))), iOk f.blocks.length x := rows_ok_set hrok ⟨by simp, n1, n2, by rw [List.length_append]; exact n3, by simp [LOk]; omega⟩
         refine VW_drops (S' := .cells g25 29 ((rows.set v (some (IRow.mk (nrm 1 (γ 0)).1 (nrm 1 (γ 0)).2.1 [e.block] (nrm 1 (γ 0)).2.2))).map iLeaf) :: .cells g10 71 [.int e.block, intsX e.args] :: .cells g8 56 (blockV b).leaves :: .cells g4 66 [intsX (treeF f.blocks), intsX (placeZ f.blocks)] :: .cells g1 24 [.int f.name, blocksX f.blocks] :: (rows.set v (some (IRow.mk (nrm 1 (γ 0)).1 (nrm 1 (γ 0)).2.1 [e.block] (nrm 1 (γ 0)).2.2))).flatMap iOwn) (by show Drops (.cells (nrm 1 (γ 0)).1 3 ([e.block].map V.int ++ (nrm 1 (γ 0)).2.2) :: .cells g25 29 ((rows.map iLeaf).set v (.raw (.slice (some ⟨(nrm 1 (γ 0)).1, 0, none⟩) 1 (nrm 1 (γ 0)).2.1)) ++ []) :: .cells g10 71 [.int e.block, intsX e.args] :: .cells g8 56 (blockV b).leaves :: .cells g4 66 [intsX (treeF f.blocks), intsX (placeZ f.blocks)] :: .cells g1 24 [.int f.name, blocksX f.blocks] :: rows.flatMap iOwn) _; rw [show (.raw (.slice (some ⟨(nrm 1 (γ 0)).1, 0, none⟩) 1 (nrm 1 (γ 0)).2.1) : V) = iLeaf (some (IRow.mk (nrm 1 (γ 0)).1 (nrm 1 (γ 0)).2.1 [e.block] (nrm 1 (γ 0)).2.2)) from by simp [iLeaf], leaf_set]; exact Drops.of_perm ((List.Perm.cons _ (same5 (rows_split hro none).1)).trans (back5 (rows_split hro (some (IRow.mk (nrm 1 (γ 0)).1 (nrm 1 (γ 0)).2.1 [e.block] (nrm 1 (γ 0)).2.2))).2))) ?_
         refine Zd (Zc (Zj VT.fa66_0 rfl (Zc (Zu 3 VT.ty29 rfl rfl rfl (Zc (Zl rfl ?_))))))
         refine Zc (Zz (el := V.int y) VT.sl29 rfl rfl (by omega) (get_int hy) (fun a64 => ?_))
         refine Zc (Zz1 VT.ty3 rfl rfl (Zc (Zk rfl (Za (Zi ?_)))))
         exact ⟨(m, y, (rows.set v (some (IRow.mk (nrm 1 (γ 0)).1 (nrm 1 (γ 0)).2.1 [e.block] (nrm 1 (γ 0)).2.2)))), (by (try simp only []); omega), ⟨hq2, hlen2, hok2, hy2⟩, ⟨rfl, rfl, rfl, rfl, rfl, rfl, rfl, rfl, rfl, rfl, rfl, rfl, rfl, trivial⟩, (Drops.keep (Drops.keep (Drops.keep (Drops.keep (Drops.keep (Zt2 _))))))⟩
        ·
         obtain ⟨gg, cap1, l0, rest1⟩ := rr
         obtain ⟨q1, q2, q3, q4, q5⟩ := hrok _ (List.mem_of_getElem? hro)
         dsimp only [il] at q1 q2 q3 q4 q5 h73
         have hsl := lok_len q5
         refine VW_drops (Drops.of_perm (front5 (rows_split hro none).1)) ?_
         refine VW_drawR (G := (Nat × Nat × List V)) [([], [6], []), ([], [11], []), ([], [6], []), ([], [11], []), ([3, 2], [76, 77], []), ([4, 3, 2], [78], []), ([], [10], []), ([6], [80], []), ([7, 6], [81], []), ([8, 7, 6, 5, 4, 3, 2], [79, 82], [0]), (dn 10, [74, 75], []), (dn 11, [84, 83], [])] [9, 11] (twoSt _ (fun x => [.cells (nrm (l0.length + 1) x).1 3 ((l0 ++ [e.block]).map V.int ++ (nrm (l0.length + 1) x).2.2), .cells g25 29 (rows.map iLeaf), .cells g10 71 [.int e.block, intsX e.args], .cells g8 56 (blockV b).leaves, .cells g4 66 [intsX (treeF f.blocks), intsX (placeZ f.blocks)], .cells g1 24 [.int f.name, blocksX f.blocks]] ++ (rows.set v none).flatMap iOwn) (fun x _ => [.cells (nrm (l0.length + 1) x).1 3 ((l0 ++ [e.block]).map V.int ++ (nrm (l0.length + 1) x).2.2), .cells g25 29 ((rows.map iLeaf).set v (.raw (.slice (some ⟨(nrm (l0.length + 1) x).1, 0, none⟩) (l0.length + 1) (nrm (l0.length + 1) x).2.1)) ++ []), .cells g10 71 [.int e.block, intsX e.args], .cells g8 56 (blockV b).leaves, .cells g4 66 [intsX (treeF f.blocks), intsX (placeZ f.blocks)], .cells g1 24 [.int f.name, blocksX f.blocks]] ++ (rows.set v none).flatMap iOwn)) [] [74, 75, 76, 77, 78, 79, 80, 81, 82, 83, 84] rfl VT.mix ?_
         refine Zp (Zm _) (Zm2 rfl (fun _ => (fun γ => Zf (fun _ h6 => Ze (Zn rfl (Zl h6 ⟨rfl, rfl⟩)))))) ?_
         refine Zp (Zm _) (Zm2 rfl (fun _ => (fun γ => Zf (fun _ h11 => Ze (Zn rfl (Zl h11 ⟨rfl, rfl⟩)))))) ?_
         refine Zp (Zm _) (Zo rfl rfl ⟨(fun γ => Zf (fun _ h6 => Ze (Zn rfl (Zl h6 ⟨rfl, rfl⟩)))), trivial⟩) ?_
         refine Zp (Zm _) (Zo rfl rfl ⟨(fun γ => Zf (fun _ h11 => Ze (Zn rfl (Zl h11 ⟨rfl, rfl⟩)))), trivial⟩) ?_
         refine Zp (Zm _) (Zo rfl rfl ⟨(fun γ => Zw 2 1 rfl (fun _ h76 => Zw 3 0 rfl (fun _ h77 => Ze (Zn rfl (Zr2 VT.sl37 h76 h77 (by omega) (by omega) ⟨rfl, rfl⟩))))), trivial⟩) ?_
         refine Zp (Zm _) (Zo rfl rfl ⟨(fun γ => Zw 4 0 rfl (fun _ h78 => Ze (Zn rfl (Zu2 (Zf3 1 v VT.ty29 h78 (by simp) rfl (List.append_nil _).symm (get_mapS iLeaf hro) ⟨rfl, rfl⟩) ((V.le.refl _ : V.le _ (.raw (.slice (some ⟨gg, 0, none⟩) l0.length cap1)))) ⟨rfl, rfl⟩)))), trivial⟩) ?_
         refine Zp (Zm _) (Zo rfl rfl ⟨(fun γ => Zf (fun _ h10 => Ze (Zn rfl (Zj VT.fa71_0 h10 ⟨rfl, rfl⟩)))), trivial⟩) ?_
         refine Zp (Zm _) (Zo rfl rfl ⟨(fun γ => Zw 6 0 rfl (fun _ h80 => Ze (Zn rfl (Zu 2 VT.ty3 h80 rfl rfl ⟨rfl, rfl⟩)))), trivial⟩) ?_
         refine Zp (Zm _) (Zo rfl rfl ⟨(fun γ => Zw 7 0 rfl (fun _ h81 => Ze (Zn rfl (Zk3 [.tmp 81] VT.sl29 rfl rfl rfl (Zp2 h81 Zq2) rfl ⟨rfl, rfl⟩)))), trivial⟩) ?_
         refine Zp (Zw2 (fun x => .raw (.slice (some ⟨(nrm (l0.length + 1) x).1, 0, none⟩) (l0.length + 1) (nrm (l0.length + 1) x).2.1))) (Zo2 0 rfl (fun γ => Zw 5 3 rfl (fun _ h79 => Zw 8 0 rfl (fun _ h82 => Ze (Zn rfl (V_appendRaw 0 VT.sl29 (by decide) h79 h82 rfl q4 q2 q3 (by simp; omega) (by intro y hy; rw [List.mem_singleton.1 hy]; rfl) (fun g83 cap83 rest83 hc83 hm83 hl83 => ⟨(g83, cap83, rest83), ⟨_, rfl, (by show some (V.raw (.slice (some ⟨g83, 0, none⟩) (l0.length + 1) cap83)) = some (V.raw (.slice (some ⟨(nrm (l0.length + 1) (g83, cap83, rest83)).1, 0, none⟩) (l0.length + 1) (nrm (l0.length + 1) (g83, cap83, rest83)).2.1)); rw [nrm_eq (n := l0.length + 1) hc83 hm83 (by have h9 : ((l0.map V.int ++ rest1).take (l0.length * 1) ++ ([e.block].map V.int ++ rest83)).length = cap83 * 1 := hl83; rw [i_take, app_len (l0.map V.int), app_len ([e.block].map V.int), List.length_map, List.length_map, List.length_singleton] at h9; omega)])⟩, (by show Own.cells g83 3 ((l0.map V.int ++ rest1).take (l0.length * 1) ++ ([e.block].map V.int ++ rest83)) :: _ = Own.cells (nrm (l0.length + 1) (g83, cap83, rest83)).1 3 ((l0 ++ [e.block]).map V.int ++ (nrm (l0.length + 1) (g83, cap83, rest83)).2.2) :: _; rw [nrm_eq (n := l0.length + 1) hc83 hm83 (by have h9 : ((l0.map V.int ++ rest1).take (l0.length * 1) ++ ([e.block].map V.int ++ rest83)).length = cap83 * 1 := hl83; rw [i_take, app_len (l0.map V.int), app_len ([e.block].map V.int), List.length_map, List.length_map, List.length_singleton] at h9; omega), i_take, List.map_append, List.append_assoc]; try rfl)⟩))))))) ?_
         refine Zp (Zm _) (Zo rfl rfl ⟨(fun γ => Zw 0 9 rfl (fun _ h74 => Zw 1 8 rfl (fun _ h75 => Ze (Zn rfl (Zr2 VT.sl37 h74 h75 (by omega) (by omega) ⟨rfl, rfl⟩))))), trivial⟩) ?_
         refine Zp Za3 (Zo2 1 rfl (fun γ => Zw 10 0 rfl (fun _ h84 => Zw 9 1 rfl (fun _ h83 => Ze (Zx2 h83 (fun e83 => Zn rfl (Zh3 1 v VT.ty29 h84 (by simp) e83 rfl rfl (List.append_nil _).symm (by rw [List.length_map]; omega) ⟨default, trivial, rfl⟩))))))) ?_
         refine DrawP_nil (fun γ => Ze ?_)
         refine Zb1 (Zi ?_)
         obtain ⟨n1, n2, n3⟩ := nrm_ok (n := l0.length + 1) (by simp only [maxLen]; omega) (γ 0)
         have hq2 : climbR (treeF f.blocks) e.block m y ((rows.set v (some (IRow.mk (nrm (l0.length + 1) (γ 0)).1 (nrm (l0.length + 1) (γ 0)).2.1 (l0 ++ [e.block]) (nrm (l0.length + 1) (γ 0)).2.2))).map il) = climbR (treeF f.blocks) e.block (f.blocks.length + 1) k (rows1.map il) := by rw [il_set hro (o' := (some (IRow.mk (nrm (l0.length + 1) (γ 0)).1 (nrm (l0.length + 1) (γ 0)).2.1 (l0 ++ [e.block]) (nrm (l0.length + 1) (γ 0)).2.2))) h73 rfl]; exact hq
         have hlen2 : (rows.set v (some (IRow.mk (nrm (l0.length + 1) (γ 0)).1 (nrm (l0.length + 1) (γ 0)).2.1 (l0 ++ [e.block]) (nrm (l0.length + 1) (γ 0)).2.2))).length = f.blocks.length := by rw [List.length_set]; exact hlen
         have hok2 : ∀ x ∈ (rows.set v (some (IRow.mk (nrm (l0.length + 1) (γ 0)).1 (nrm (l0.length + 1) (γ 0)).2.1 (l0 ++ [e.block]) (nrm (l0.length + 1) (γ 0)).2.2))), iOk f.blocks.length x := rows_ok_set hrok ⟨by simp, by rw [List.length_append]; exact n1, n2, by rw [List.length_append, List.length_map, List.length_append]; exact n3, lok_add q5 h73 (by omega)⟩
         refine VW_drops (S' := .cells g25 29 ((rows.set v (some (IRow.mk (nrm (l0.length + 1) (γ 0)).1 (nrm (l0.length + 1) (γ 0)).2.1 (l0 ++ [e.block]) (nrm (l0.length + 1) (γ 0)).2.2))).map iLeaf) :: .cells g10 71 [.int e.block, intsX e.args] :: .cells g8 56 (blockV b).leaves :: .cells g4 66 [intsX (treeF f.blocks), intsX (placeZ f.blocks)] :: .cells g1 24 [.int f.name, blocksX f.blocks] :: (rows.set v (some (IRow.mk (nrm (l0.length + 1) (γ 0)).1 (nrm (l0.length + 1) (γ 0)).2.1 (l0 ++ [e.block]) (nrm (l0.length + 1) (γ 0)).2.2))).flatMap iOwn) (by show Drops (.cells (nrm (l0.length + 1) (γ 0)).1 3 ((l0 ++ [e.block]).map V.int ++ (nrm (l0.length + 1) (γ 0)).2.2) :: .cells g25 29 ((rows.map iLeaf).set v (.raw (.slice (some ⟨(nrm (l0.length + 1) (γ 0)).1, 0, none⟩) (l0.length + 1) (nrm (l0.length + 1) (γ 0)).2.1)) ++ []) :: .cells g10 71 [.int e.block, intsX e.args] :: .cells g8 56 (blockV b).leaves :: .cells g4 66 [intsX (treeF f.blocks), intsX (placeZ f.blocks)] :: .cells g1 24 [.int f.name, blocksX f.blocks] :: (rows.set v none).flatMap iOwn) _; rw [show (.raw (.slice (some ⟨(nrm (l0.length + 1) (γ 0)).1, 0, none⟩) (l0.length + 1) (nrm (l0.length + 1) (γ 0)).2.1) : V) = iLeaf (some (IRow.mk (nrm (l0.length + 1) (γ 0)).1 (nrm (l0.length + 1) (γ 0)).2.1 (l0 ++ [e.block]) (nrm (l0.length + 1) (γ 0)).2.2)) from by simp [iLeaf], leaf_set]; exact Drops.of_perm (back5 (rows_split hro (some (IRow.mk (nrm (l0.length + 1) (γ 0)).1 (nrm (l0.length + 1) (γ 0)).2.1 (l0 ++ [e.block]) (nrm (l0.length + 1) (γ 0)).2.2))).2)) ?_
         refine Zd (Zc (Zj VT.fa66_0 rfl (Zc (Zu 3 VT.ty29 rfl rfl rfl (Zc (Zl rfl ?_))))))
         refine Zc (Zz (el := V.int y) VT.sl29 rfl rfl (by omega) (get_int hy) (fun a64 => ?_))
         refine Zc (Zz1 VT.ty3 rfl rfl (Zc (Zk rfl (Za (Zi ?_)))))
         exact ⟨(m, y, (rows.set v (some (IRow.mk (nrm (l0.length + 1) (γ 0)).1 (nrm (l0.length + 1) (γ 0)).2.1 (l0 ++ [e.block]) (nrm (l0.length + 1) (γ 0)).2.2)))), (by (try simp only []); omega), ⟨hq2, hlen2, hok2, hy2⟩, ⟨rfl, rfl, rfl, rfl, rfl, rfl, rfl, rfl, rfl, rfl, rfl, rfl, rfl, trivial⟩, (Drops.keep (Drops.keep (Drops.keep (Drops.keep (Drops.keep (Zt2 _))))))⟩
       ·
        have hq2 : climbR (treeF f.blocks) e.block m y (rows.map il) = climbR (treeF f.blocks) e.block (f.blocks.length + 1) k (rows1.map il) := by rw [il_has hro h73]; exact hq
        have hlen2 := hlen
        have hok2 := hrok
        refine Zi1 (Zb1 (Zi (Zd (Zc (Zj VT.fa66_0 rfl (Zc (Zu 3 VT.ty29 rfl rfl rfl (Zc (Zl rfl ?_)))))))))
        refine Zc (Zz (el := V.int y) VT.sl29 rfl rfl (by omega) (get_int hy) (fun a64 => ?_))
        refine Zc (Zz1 VT.ty3 rfl rfl (Zc (Zk rfl (Za (Zi ?_)))))
        exact ⟨(m, y, rows), (by (try simp only []); omega), ⟨hq2, hlen2, hok2, hy2⟩, ⟨rfl, rfl, rfl, rfl, rfl, rfl, rfl, rfl, rfl, rfl, rfl, rfl, rfl, trivial⟩, (Drops.keep (Drops.keep (Drops.keep (Drops.keep (Drops.keep (Zt2 _))))))⟩
      ·
       rw [climb_stop (fun h => h.2 (by rw [hgq]; exact h60))] at hq
       have hq12 := hq1
       rw [← hq] at hq12
       refine Zt (Ze1 (Ze1 (Zc1 (Zb1 (Zi (Zd ?_))))))
       refine Zc (Zh2 rfl rfl (by omega) ?_)
       refine Zc (Zl rfl (Za (Zi ?_)))
       exact ⟨(j + 1, rows), (by (try simp only []); omega), ⟨by omega, hq12, hlen, hrok⟩, ⟨rfl, rfl, rfl, rfl, rfl, rfl, rfl, rfl, rfl, rfl, rfl, trivial⟩, (Drops.keep (Drops.drop (Drops.keep (Drops.keep (Drops.keep (Zt2 _))))))⟩
     ·
      have h51 : ¬ x ≥ 0 := of_decide_eq_false hq51
      refine Zk1 hq51 ?_
      refine Zk1 hq51 ?_
      refine Zk1 hq51 ?_
      refine Zk1 hq51 ?_
      refine Zk1 hq51 ?_
      refine Zk1 hq51 ?_
      refine Zk1 hq51 ?_
      refine Zk1 hq51 ?_
      refine Zc (Zt1 rfl hq51 rfl ?_)
      refine Za (Zi ?_)
      refine Zq1 rfl rfl ?_
      rw [climb_stop (fun h => h51 h.1)] at hq
      have hq12 := hq1
      rw [← hq] at hq12
      refine Zt (Ze1 (Ze1 (Zc1 (Zb1 (Zi (Zd ?_))))))
      refine Zc (Zh2 rfl rfl (by omega) ?_)
      refine Zc (Zl rfl (Za (Zi ?_)))
      exact ⟨(j + 1, rows), (by (try simp only []); omega), ⟨by omega, hq12, hlen, hrok⟩, ⟨rfl, rfl, rfl, rfl, rfl, rfl, rfl, rfl, rfl, rfl, rfl, trivial⟩, (Drops.keep (Drops.drop (Drops.keep (Drops.keep (Drops.keep (Zt2 _))))))⟩
    ·
     have hje : j = b.term.to.length := by omega
     subst hje
     rw [List.drop_length] at hq1
     change rows1.map il = _ at hq1
     rw [← hq1] at hq0
     have hq02 := hq0
     have hlen02 := hlen1
     have hrok02 := hrok1
     refine Zt (Ze1 (Ze1 (Zc1 (Zb1 (Zi (Zd ?_))))))
     refine Zc (Zh2 rfl rfl (by omega) ?_)
     refine Zc (Zl rfl (Za (Zi ?_)))
     exact ⟨(k + 1, rows1), (by (try simp only []); omega), ⟨by omega, hq02, hlen02, hrok02⟩, ⟨rfl, rfl, rfl, rfl, rfl, rfl, trivial⟩, (Drops.keep (Drops.drop (Drops.keep (Drops.keep (Zt2 _)))))⟩
  ·
   have hke : k = f.blocks.length := by omega
   subst hke
   rw [List.drop_length, blocksK] at hq0
   refine Zt (Ze1 (Ze1 (Zc1 (Zi (Zb (Zb (Zd (Zc (Zl rfl ?_)))))))))
   refine Zc (V_len_raw Try.underlying37 rfl ?_)
   refine Zc (Zl rfl (Za (Zi (Zs ?_))))
   refine Zi2 (ι := Nat × IRows) (fun (i, rows) => f.blocks.length - i) (fun (i, rows) => [(6, some (.raw (.slice (some ⟨g25, 0, none⟩) f.blocks.length f.blocks.length))), (87, some (.raw (.slice (some ⟨g25, 0, none⟩) f.blocks.length f.blocks.length))), (88, some (.int f.blocks.length)), (89, some (.int i))]) (fun (i, rows) => .cells g25 29 (rows.map iLeaf) :: rows.flatMap iOwn) (fun (i, rows) => i ≤ f.blocks.length ∧ rows.map il = ((frontR f).take i).map (fun l => l.mergeSort fun x y => decide (x ≤ y)) ++ (frontR f).drop i ∧ rows.length = f.blocks.length ∧ (∀ x ∈ rows, iOk f.blocks.length x)) (0, rows0) ⟨Nat.zero_le _, by rw [hq0]; simp, hlen0, hrok0⟩ ⟨rfl, rfl, rfl, rfl, trivial⟩ (Drops.keep (Drops.drop (Drops.drop (Zt2 _)))) ?_
   rintro ⟨i, rows⟩ hA3
   change i ≤ f.blocks.length ∧ rows.map il = ((frontR f).take i).map (fun l => l.mergeSort fun x y => decide (x ≤ y)) ++ (frontR f).drop i ∧ rows.length = f.blocks.length ∧ (∀ x ∈ rows, iOk f.blocks.length x) at hA3
   obtain ⟨hi, hqs, hlen, hrok⟩ := hA3
   refine Zb (Zd (Zc (Zj1 rfl rfl rfl (Za (Zi (Zb ?_))))))
   refine Zn1 rfl (fun h90 => ?_) (fun h90 => ?_)
   ·
    obtain ⟨o, hro⟩ := get_of_lt rows i (by omega)
    have hoo := hrok _ (List.mem_of_getElem? hro)
    refine Zi1 (Zi (Zb (Zs (Zb (Zd ?_)))))
    refine Zc (Zr2 VT.sl37 rfl rfl (by omega) (by omega) ?_)
    refine Zc (Zf3 0 i VT.ty29 rfl (by simp) rfl (List.append_nil _).symm (get_mapS iLeaf hro) ?_)
    refine Zc (Zk rfl (Za (Zi (Zd (Zc (Zl rfl ?_))))))
    refine Zc (V_callG [.tmp 93] (rows.flatMap iOwn) [_] rfl rfl VT.en22 (List.perm_append_comm (l₁ := [_])) (sortY_c h128 hro hoo) ?_)
    rintro r Sa rfl
    refine ⟨_, Drops.of_perm (List.perm_append_comm (l₂ := [_])), ?_⟩
    refine Za (Zb1 (Zi (Zd ?_)))
    refine Zc (Zh2 rfl rfl (by omega) ?_)
    refine Zc (Zl rfl (Za (Zi ?_)))
    exact ⟨(i + 1, rows.set i (sortRow o)), (by (try simp only []); omega), ⟨by omega, sort_step hqs hro, by rw [List.length_set]; exact hlen, rows_ok_set hrok (sort_ok hoo)⟩, ⟨rfl, rfl, rfl, rfl, trivial⟩, (Drops.keepE (congrArg (Own.cells g25 29) (leaf_same hro (sort_leaf o))) (Zt2 _))⟩
   ·
    have hie : i = f.blocks.length := by omega
    have hfl : (frontR f).length = f.blocks.length := by rw [frontR, blocksK_len, List.length_replicate]
    rw [hie, List.take_of_length_le (Nat.le_of_eq hfl), List.drop_of_length_le (Nat.le_of_eq hfl), List.append_nil] at hqs
    change rows.map il = frontF f at hqs
    refine Zt (Ze1 (Ze1 (Zc1 (Zi ?_))))
    refine VW_cells 0 (ls' := rows.map iLeaf2) rfl (les_rows rows) ?_
    refine VW_drops (S' := .cells g25 29 (rows.map iLeaf2) :: (rows.flatMap iOwn ++ [])) (Drops.of_perm (by rw [List.append_nil]; exact .refl _)) ?_
    refine freeze_rows g25 rows [] [] hrok ?_
    refine VW_freeze 0 (q := 6) (rest := []) (rows.map fun o => intsX (il o)) rfl rfl (by rw [flat_ils, List.append_nil]; rfl) (by rw [List.length_map]; exact hlen) (Nat.le_refl _) (by simp only [maxLen]; omega) (fits_ils rows) ?_
    refine Zb (Zd (Zc (Zl rfl (Zc (Zk rfl (Zc (Zk rfl (Za (Zi (Zf1 ?_))))))))))
    refine Zh1 rfl rfl (.cons (.tmp rfl) (.cons (.tmp rfl) (.nil))) ?_
    rw [hr, ← hqs, List.map_map]
    rfl


set_option maxRecDepth 100000 in
set_option maxHeartbeats 4000000 in
theorem rPreds_c {f : SFunc} (h : funcF f = 0) (b : Int) : VPure Try.prog 14 [funcV f, .int b] (intsX (predsR b 0 f.blocks)) := by
 have hok := func_ok h
 have hes := edges_small hok
 refine V_start (nt := 37) Try.func14 rfl rfl rfl ?_
 refine Zb (Zd ?_)
 refine Zc (Zc2 rfl rfl (fun g2 => ?_))
 refine Zc (Zk rfl (Za (Zi (Zb (Zd (Zc (V_assign_nil 3 1 (Za (Zi (Zb (Zb (Zd (Zc (Zj VT.fa24_1 rfl (Zc (Zu 1 VT.ty22 rfl rfl rfl ?_))))))))))))))))
 refine Zc (Zd2 (n := f.blocks.length) Try.underlying22 rfl (by simp) (fun hl12 => ?_))
 refine Zc (Zl rfl (Za (Zi (Zs ?_))))
 refine Zi2 (ι := Nat × Tok × List Int) (fun (k, tok, out) => f.blocks.length - k) (fun (k, tok, out) => [(1, some (.int b)), (2, some (.ptr g2 0)), (5, some (.sl 1 (some tok) (out.map V.int))), (11, some (blocksX f.blocks)), (12, some (.int f.blocks.length)), (13, some (.int k))]) (fun (k, tok, out) => [.buf tok 3 1 out.length, .cells g2 24 [.int f.name, blocksX f.blocks]]) (fun (k, tok, out) => k ≤ f.blocks.length ∧ out ++ predsR b k (f.blocks.drop k) = predsR b 0 f.blocks ∧ out.length + edgesN (f.blocks.drop k) ≤ 32896) (0, .nil, []) ⟨Nat.zero_le _, rfl, by rw [List.drop_zero, List.length_nil]; omega⟩ ⟨rfl, rfl, rfl, rfl, rfl, rfl, trivial⟩ (Drops.buf (by simp) (Drops.keep (Zt2 _))) ?_
 rintro ⟨k, tok, out⟩ hA
 change k ≤ f.blocks.length ∧ out ++ predsR b k (f.blocks.drop k) = predsR b 0 f.blocks ∧ out.length + edgesN (f.blocks.drop k) ≤ 32896 at hA
 obtain ⟨hk, hq, hol⟩ := hA
 refine Zb (Zd (Zc (Zj1 rfl rfl rfl (Za (Zi (Zb ?_))))))
 refine Zn1 rfl (fun h14 => ?_) (fun h14 => ?_)
 ·
  obtain ⟨x, hx⟩ := get_of_lt f.blocks k h14
  rw [drop_cons hx, predsR, ← List.append_assoc] at hq
  rw [drop_cons hx, edgesN] at hol
  refine Zi1 (Zi (Zb (Zs (Zb (Zd (Zc (Zl rfl ?_)))))))
  refine Zc (Zz (el := blockV x) VT.sl22 rfl rfl (by omega) (get_mapS _ hx) (fun a16 => ?_))
  refine Zc (Za2 VT.ty56 rfl rfl ?_)
  refine Zc (Zb2 VT.zr56 _ rfl rfl (fun g7 => ?_))
  refine Zc (Zk rfl (Zc (Zx 0 VT.ty56 rfl rfl rfl rfl rfl (Za (Zi (Zb (Zd (Zc (Zj VT.fa56_2 rfl (Zc (Zj VT.fa54_4 rfl (Zc (Zu 0 VT.ty52 rfl rfl rfl ?_)))))))))))))
  refine Zc (Zd2 (n := x.term.to.length) Try.underlying52 rfl (by simp) (fun hl21 => ?_))
  refine Zc (Zl rfl (Za (Zi (Zs ?_))))
  refine Zi2 (ι := Nat × Tok × List Int) (fun (j, tok2, out2) => x.term.to.length - j) (fun (j, tok2, out2) => [(1, some (.int b)), (2, some (.ptr g2 0)), (5, some (.sl 1 (some tok2) (out2.map V.int))), (6, some (.int k)), (11, some (blocksX f.blocks)), (12, some (.int f.blocks.length)), (13, some (.int k)), (20, some (edgesX x.term.to)), (21, some (.int x.term.to.length)), (22, some (.int j))]) (fun (j, tok2, out2) => [.buf tok2 3 1 out2.length, .cells g2 24 [.int f.name, blocksX f.blocks]]) (fun (j, tok2, out2) => j ≤ x.term.to.length ∧ out2 ++ predE' k b (x.term.to.drop j) = out ++ predE' k b x.term.to ∧ out2.length + (x.term.to.length - j) + edgesN (f.blocks.drop (k + 1)) ≤ 32896) (0, tok, out) ⟨Nat.zero_le _, rfl, by omega⟩ ⟨rfl, rfl, rfl, rfl, rfl, rfl, rfl, rfl, rfl, rfl, trivial⟩ (Drops.drop (Drops.buf (by simp) (Drops.keep (Zt2 _)))) ?_
  rintro ⟨j, tok2, out2⟩ hB
  change j ≤ x.term.to.length ∧ out2 ++ predE' k b (x.term.to.drop j) = out ++ predE' k b x.term.to ∧ out2.length + (x.term.to.length - j) + edgesN (f.blocks.drop (k + 1)) ≤ 32896 at hB
  obtain ⟨hj, hq2, hol2⟩ := hB
  refine Zb (Zd (Zc (Zj1 rfl rfl rfl (Za (Zi (Zb ?_))))))
  refine Zn1 rfl (fun h23 => ?_) (fun h23 => ?_)
  ·
   obtain ⟨e, he⟩ := get_of_lt x.term.to j h23
   rw [drop_cons he, predE_cons, ← List.append_assoc] at hq2
   refine Zi1 (Zi (Zb (Zs (Zb (Zd ?_)))))
   refine Zc (Zz (el := edgeV e) VT.sl52 rfl rfl (by omega) (get_mapS _ he) (fun a24 => ?_))
   refine Zc (Za2 VT.ty71 rfl rfl ?_)
   refine Zc (Zb2 VT.zr71 _ rfl rfl (fun g9 => ?_))
   refine Zc (Zx 0 VT.ty71 rfl rfl rfl rfl rfl (Za (Zi (Zb (Zd (Zc (Zj VT.fa71_0 rfl (Zc (Zu 0 VT.ty3 rfl rfl rfl (Zc (Zl rfl (Zc (Zj1 rfl rfl rfl (Za (Zi ?_)))))))))))))))
   refine Zl1 rfl (fun h29 => ?_) (fun h29 => ?_)
   ·
    rw [if_pos h29] at hq2
    have hq3 := hq2
    have hol3 : (out2 ++ [(k : Int)]).length + (x.term.to.length - (j + 1)) + edgesN (f.blocks.drop (k + 1)) ≤ 32896 := by rw [List.length_append, List.length_singleton]; omega
    refine Zd (Zc (Zl rfl (Zc (Zl rfl ?_))))
    refine Zc (Zk3 [.tmp 31] VT.sl29 rfl rfl rfl rfl rfl ?_)
    refine Zc (Zi3 1 _ VT.sl29 rfl rfl rfl (by simp) (by simp; omega) (fun t33 => ?_))
    refine Zc (Zk rfl (Za (Zb1 (Zi (Zd ?_)))))
    refine Zc (Zh2 rfl rfl (by omega) ?_)
    refine Zc (Zl rfl (Za (Zi ?_)))
    exact ⟨(j + 1, t33, out2 ++ [(k : Int)]), (by (try simp only []); omega), ⟨by omega, hq3, hol3⟩, ⟨rfl, rfl, (by first | rfl | (rw [List.map_append]; rfl)), rfl, rfl, rfl, rfl, rfl, rfl, rfl, trivial⟩, (Drops.drop (Drops.buf (by simp) (Drops.keep (Zt2 _))))⟩
   ·
    rw [if_neg h29, List.append_nil] at hq2
    have hq3 := hq2
    have hol3 : out2.length + (x.term.to.length - (j + 1)) + edgesN (f.blocks.drop (k + 1)) ≤ 32896 := by omega
    refine Zi1 (Zb1 (Zi (Zd ?_)))
    refine Zc (Zh2 rfl rfl (by omega) ?_)
    refine Zc (Zl rfl (Za (Zi ?_)))
    exact ⟨(j + 1, tok2, out2), (by (try simp only []); omega), ⟨by omega, hq3, hol3⟩, ⟨rfl, rfl, (by first | rfl | (rw [List.map_append]; rfl)), rfl, rfl, rfl, rfl, rfl, rfl, rfl, trivial⟩, (Drops.drop (Drops.buf (by simp) (Drops.keep (Zt2 _))))⟩
  ·
   have hje : j = x.term.to.length := by omega
   subst hje
   rw [List.drop_length, show predE' k b [] = [] from rfl, List.append_nil] at hq2
   rw [← hq2] at hq
   have hol : out2.length + edgesN (f.blocks.drop (k + 1)) ≤ 32896 := by omega
   refine Zt (Ze1 (Ze1 (Zc1 (Zb1 (Zi (Zd ?_))))))
   refine Zc (Zh2 rfl rfl (by omega) ?_)
   refine Zc (Zl rfl (Za (Zi ?_)))
   exact ⟨(k + 1, tok2, out2), (by (try simp only []); omega), ⟨by omega, hq, hol⟩, ⟨rfl, rfl, rfl, rfl, rfl, rfl, trivial⟩, (Drops.buf (by simp) (Drops.keep (Zt2 _)))⟩
 ·
  have hke : k = f.blocks.length := by omega
  subst hke
  rw [List.drop_length, predsR, List.append_nil] at hq
  refine Zt (Ze1 (Ze1 (Zc1 (Zi (Zb (Zd (Zc (Zl rfl (Zc (Zk rfl (Za (Zi (Zf1 ?_)))))))))))))
  refine Zg1 rfl (.strip rfl) ?_
  rw [hq]
  rfl


set_option maxRecDepth 100000 in
theorem edge1_c {f : SFunc} (h : funcF f = 0) {a b : Nat} (ha : a < f.blocks.length) (hb : b < f.blocks.length) (g : Nat) : VKeep Try.prog 13 [.int a, .int b, .ptr g 0] [.cells g 24 [.int f.name, blocksX f.blocks]] (.bool (domsF f a b)) := by
 refine VKeep.drops ?_
 refine V_start (nt := 20) Try.func13 rfl rfl rfl ?_
 refine Zb (Zd (Zc (Zk rfl (Za (Zi (Zb (Zd (Zc (Zv 0 VT.ty24 rfl rfl rfl (Zc (Zl rfl (Zc (Zl rfl ?_)))))))))))))
 refine Zc (Zx1 [.tmp 9, .tmp 10, .tmp 11] rfl rfl VT.en11 (Dominates_c h ha hb) ?_)
 refine Zc (Zl rfl (Zc (Zg2 rfl rfl (Zc (Zg2 rfl rfl (Zc (Zk rfl (Zc (Zk rfl (Za (Zi (Zb (Zd (Zc (Zl rfl (Zc (Zj1 rfl rfl rfl (Zc (Zl rfl ?_)))))))))))))))))))
 refine Zj2 (q := 17) rfl (fun hq17 => ?_) (fun hq17 => ?_)
 ·
  refine Zc (Zl rfl ?_) (Zy1 hq17)
  refine Zc (Zs1 rfl hq17 rfl ?_)
  refine Zc (Zk rfl (Za (Zi (Zf1 ?_))))
  refine Zg1 rfl (.tmp rfl) ?_
  exact ⟨rfl, (Drops.keep (Zt2 _))⟩
 · exact absurd hq17 (by decide)


set_option maxRecDepth 100000 in
set_option maxHeartbeats 16000000 in
theorem domEdges_c (f : SFunc) (a0 b0 : Int) : VPure Try.prog 4 [funcV f, .int a0, .int b0] (.bool true) := by
 have hF := Frontier_c f
 unfold frontX at hF
 refine V_start (nt := 108) Try.func4 rfl rfl rfl ?_
 refine Zb (Zd ?_)
 refine Zc (Zc2 rfl rfl (fun g3 => ?_))
 refine Zc (Zk rfl (Za (Zi (Zb (Zb (Zd ?_))))))
 refine Zc (Zx1 [] rfl rfl VT.en5 (works_c) ?_)
 refine Zc (Zl2 rfl (Za (Zi ?_)))
 refine Zq1 rfl (rfl) ?_
 refine Zi1 (Zi (Zb (Zd (Zc (Zv 0 VT.ty24 rfl rfl rfl ?_)))))
 by_cases h0 : funcF f = 0
 ·
  rw [if_pos h0] at hF
  have hok := func_ok h0
  have hbp := hok.pos
  have h128 := hok.len
  have hfl := front_len f
  obtain ⟨a, ha1, ha⟩ : ∃ k : Nat, withinF a0 f.blocks.length = k ∧ k < f.blocks.length := within_ok hbp
  obtain ⟨b, hb1, hb⟩ : ∃ k : Nat, withinF b0 f.blocks.length = k ∧ k < f.blocks.length := within_ok hbp
  obtain ⟨la, hla⟩ := get_of_lt (frontF f) a (by omega)
  refine Zc (Zx1 [.tmp 18] rfl rfl VT.en12 (hF) ?_)
  refine Zc (Zl rfl (Zc (Zg2 rfl rfl (Zc (Zg2 rfl rfl (Zc (Zk rfl (Zc (Zk rfl (Za (Zi (Zb (Zb (Zd (Zc (Zl rfl (Zc (Zj1 rfl rfl rfl (Za (Zi ?_))))))))))))))))))))
  refine Zm1 rfl (fun h23 => ?_) (fun h23 => ?_)
  · exact absurd rfl h23
  ·
   refine Zi1 (Zi (Zb ?_))
   refine VW_drawR (G := Unit) [([], [1], []), ([], [3], []), ([1], [28], []), ([2, 1], [29], []), (dn 4, [27, 30], []), ([], [2], []), ([], [3], []), ([6], [33], []), ([7, 6], [34], []), (dn 9, [32, 35], []), (dn 10, [31], []), (dn 11, [36], [])] [] (constSt _) [1, 2] [1, 2, 27, 28, 29, 30, 31, 32, 33, 34, 35, 36] rfl VT.mix ?_
   refine Zp (Zm _) (Zq (fun γ => Zf (fun _ h1 => Ze (Zn rfl (Zl h1 ⟨rfl, rfl⟩))))) ?_
   refine Zp (Zm _) (Zq (fun γ => Zf (fun _ h3 => Ze (Zn rfl (Zj VT.fa24_1 h3 ⟨rfl, rfl⟩))))) ?_
   refine Zp (Zm _) (Zq (fun γ => Zw 1 0 rfl (fun _ h28 => Ze (Zn rfl (Zu 0 VT.ty22 h28 rfl rfl ⟨rfl, rfl⟩))))) ?_
   refine Zp (Zm _) (Zq (fun γ => Zw 2 0 rfl (fun _ h29 => Ze (Zn rfl (Zd2 (n := f.blocks.length) Try.underlying22 h29 (by simp) (fun hl30 => ⟨rfl, rfl⟩)))))) ?_
   refine Zp (Zm _) (Zq (fun γ => Zw 0 3 rfl (fun _ h27 => Zw 3 0 rfl (fun _ h30 => Ze (Zn rfl (Zu2 (Zx1 [.tmp 27, .tmp 30] rfl (Zp2 h27 (Zp2 h30 Zq2)) VT.en7 (within_c a0 f.blocks.length (by omega) (by omega)) ⟨rfl, rfl⟩) ((V.le.of_eq (congrArg V.int ha1) : V.le _ (.int (a : Int)))) ⟨rfl, rfl⟩)))))) ?_
   refine Zp (Zm _) (Zq (fun γ => Zf (fun _ h2 => Ze (Zn rfl (Zl h2 ⟨rfl, rfl⟩))))) ?_
   refine Zp (Zm _) (Zq (fun γ => Zf (fun _ h3 => Ze (Zn rfl (Zj VT.fa24_1 h3 ⟨rfl, rfl⟩))))) ?_
   refine Zp (Zm _) (Zq (fun γ => Zw 6 0 rfl (fun _ h33 => Ze (Zn rfl (Zu 0 VT.ty22 h33 rfl rfl ⟨rfl, rfl⟩))))) ?_
   refine Zp (Zm _) (Zq (fun γ => Zw 7 0 rfl (fun _ h34 => Ze (Zn rfl (Zd2 (n := f.blocks.length) Try.underlying22 h34 (by simp) (fun hl35 => ⟨rfl, rfl⟩)))))) ?_
   refine Zp (Zm _) (Zq (fun γ => Zw 5 3 rfl (fun _ h32 => Zw 8 0 rfl (fun _ h35 => Ze (Zn rfl (Zu2 (Zx1 [.tmp 32, .tmp 35] rfl (Zp2 h32 (Zp2 h35 Zq2)) VT.en7 (within_c b0 f.blocks.length (by omega) (by omega)) ⟨rfl, rfl⟩) ((V.le.of_eq (congrArg V.int hb1) : V.le _ (.int (b : Int)))) ⟨rfl, rfl⟩)))))) ?_
   refine Zp (Zm _) (Zq (fun γ => Zw 4 5 rfl (fun _ h31 => Ze (Zn rfl (Zk h31 ⟨rfl, rfl⟩))))) ?_
   refine Zp (Zm _) (Zq (fun γ => Zw 9 1 rfl (fun _ h36 => Ze (Zn rfl (Zk h36 ⟨rfl, rfl⟩))))) ?_
   refine DrawP_nil (fun γ => Zw 10 1 rfl (fun r1 h1 => Zw 11 0 rfl (fun r2 h2 => Ze ?_)))
   have e1 : r1 = some _ := h1
   subst e1
   clear h1
   have e2 : r2 = some _ := h2
   subst e2
   clear h2
   refine Zi (Zb (Zd (Zc (Zv 0 VT.ty24 rfl rfl rfl ?_))))
   refine Zc (Zx1 [.tmp 38] rfl rfl VT.en8 (Reachable_c h0) ?_)
   refine Zc (Zl rfl (Zc (Zg2 rfl rfl (Zc (Zg2 rfl rfl (Zc (Zk rfl (Zc (Zk rfl (Za (Zi (Zb (Zb (Zd (Zc (Zl rfl (Zc (Zl rfl ?_))))))))))))))))))
   refine Zc (Zx1 [.tmp 42, .tmp 43] rfl rfl VT.en9 (HasInt_c (reachL f) none (a : Int)) ?_)
   refine Zc (Zl2 rfl (Zc (Zl rfl ?_)))
   refine Zj2 (q := 46) rfl (fun hq46 => ?_) (fun hq46 => ?_)
   ·
    refine Zk0 hq46 ?_
    refine Zk0 hq46 ?_
    refine Zk0 hq46 ?_
    refine Zk0 hq46 ?_
    refine Zc (Zs1 rfl hq46 rfl ?_)
    refine Zc (Zl rfl ?_)
    refine Zk0 rfl ?_
    refine Zk0 rfl ?_
    refine Zk0 rfl ?_
    refine Zk0 rfl ?_
    refine Zk0 rfl ?_
    refine Zk0 rfl ?_
    refine Zc (Zs1 rfl rfl rfl (Za (Zi ?_)))
    refine Zp1 rfl rfl ?_
    refine Zb (Zd (Zc (Zl rfl ?_)))
    refine Zc (Zd2 (n := (frontF f).length) Try.underlying37 rfl (by simp) (fun hl61 => ?_))
    refine Zc (Zj VT.fa24_1 rfl (Zc (Zu 0 VT.ty22 rfl rfl rfl ?_)))
    refine Zc (Zd2 (n := f.blocks.length) Try.underlying22 rfl (by simp) (fun hl64 => ?_))
    refine Zc (Zj1 rfl rfl rfl (Zc (Zk rfl (Za (Zi (Zf1 ?_))))))
    refine Zd1 (Zg1 rfl (.tmp rfl) ?_)
    first | rfl | (refine congrArg V.bool ?_; rw [hfl]; simp; done) | (refine congrArg V.bool ?_; rw [hlaw]; first | (rw [hq95, hq99]; simp; done) | (rw [hq95]; simp; done))
   ·
    have hma := has_reach (by simpa using hq46)
    refine Zc (Zl rfl ?_) (Zy0 hq46)
    refine Zc (Zl rfl ?_) (Zy0 hq46)
    refine Zc (Zx1 [.tmp 47, .tmp 48] rfl rfl VT.en9 (HasInt_c (reachL f) none (b : Int)) ?_) (Zy0 hq46)
    refine Zc (Zl2 rfl ?_) (Zy0 hq46)
    refine Zc (Zt1 rfl hq46 rfl ?_)
    refine Zc (Zl rfl ?_)
    refine Zj2 (q := 52) rfl (fun hq52 => ?_) (fun hq52 => ?_)
    ·
     refine Zk0 hq52 ?_
     refine Zk0 hq52 ?_
     refine Zk0 hq52 ?_
     refine Zk0 hq52 ?_
     refine Zk0 hq52 ?_
     refine Zk0 hq52 ?_
     refine Zc (Zs1 rfl hq52 rfl ?_)
     refine Za (Zi ?_)
     refine Zp1 rfl rfl ?_
     refine Zb (Zd (Zc (Zl rfl ?_)))
     refine Zc (Zd2 (n := (frontF f).length) Try.underlying37 rfl (by simp) (fun hl61 => ?_))
     refine Zc (Zj VT.fa24_1 rfl (Zc (Zu 0 VT.ty22 rfl rfl rfl ?_)))
     refine Zc (Zd2 (n := f.blocks.length) Try.underlying22 rfl (by simp) (fun hl64 => ?_))
     refine Zc (Zj1 rfl rfl rfl (Zc (Zk rfl (Za (Zi (Zf1 ?_))))))
     refine Zd1 (Zg1 rfl (.tmp rfl) ?_)
     first | rfl | (refine congrArg V.bool ?_; rw [hfl]; simp; done) | (refine congrArg V.bool ?_; rw [hlaw]; first | (rw [hq95, hq99]; simp; done) | (rw [hq95]; simp; done))
    ·
     have hmb := has_reach (by simpa using hq52)
     refine Zc (Zl rfl ?_) (Zy0 hq52)
     refine Zc (Zd2 (n := (frontF f).length) Try.underlying37 rfl (by simp) (fun hl54 => ?_)) (Zy0 hq52)
     refine Zc (Zj VT.fa24_1 rfl ?_) (Zy0 hq52)
     refine Zc (Zu 0 VT.ty22 rfl rfl rfl ?_) (Zy0 hq52)
     refine Zc (Zd2 (n := f.blocks.length) Try.underlying22 rfl (by simp) (fun hl57 => ?_)) (Zy0 hq52)
     refine Zc (Zj1 rfl rfl rfl ?_) (Zy0 hq52)
     refine Zc (Zt1 rfl hq52 rfl ?_)
     refine Za (Zi ?_)
     refine Zm1 rfl (fun h59 => ?_) (fun h59 => ?_)
     · exact absurd (by rw [hfl]) h59
     ·
      refine Zi1 (Zi (Zb (Zd ?_)))
      refine Zc (V_makeFunc [.tmp 3] rfl rfl ?_)
      refine Zc (Zk rfl (Za (Zi (Zb (Zd (Zc (Zk rfl (Za (Zi (Zb (Zb (Zd (Zc (Zv 0 VT.ty24 rfl rfl rfl (Zc (Zl rfl ?_))))))))))))))))
      refine Zc (Zx1 [.tmp 67, .tmp 68] rfl rfl VT.en14 (rPreds_c h0 (b : Int)) ?_)
      refine Zc (Zd2 (n := (predsR b 0 f.blocks).length) Try.underlying29 rfl (by simp) (fun hl70 => ?_))
      refine Zc (Zl rfl (Za (Zi (Zs ?_))))
      refine Zi2 (ι := Nat × Bool) (fun (j, fd) => (predsR b 0 f.blocks).length - j) (fun (j, fd) => [(1, some (.int a)), (2, some (.int b)), (3, some (.ptr g3 0)), (7, some (.sl 1 none ((frontF f).map intsX))), (9, some (intsX (reachL f))), (11, some (.clo (.func 13) [.ptr g3 0])), (12, some (.bool fd)), (69, some (intsX (predsR b 0 f.blocks))), (70, some (.int (predsR b 0 f.blocks).length)), (71, some (.int j))]) (fun (j, fd) => [.cells g3 24 [.int f.name, blocksX f.blocks]]) (fun (j, fd) => j ≤ (predsR b 0 f.blocks).length ∧ fd = ((predsR b 0 f.blocks).take j).any (qE f a)) (0, false) ⟨Nat.zero_le _, rfl⟩ ⟨rfl, rfl, rfl, rfl, rfl, rfl, rfl, rfl, rfl, rfl, trivial⟩ (Drops.keep (Zt2 _)) ?_
      rintro ⟨j, fd⟩ hA
      change j ≤ (predsR b 0 f.blocks).length ∧ fd = ((predsR b 0 f.blocks).take j).any (qE f a) at hA
      obtain ⟨hj, hfd⟩ := hA
      refine Zb (Zd (Zc (Zj1 rfl rfl rfl (Za (Zi (Zb ?_))))))
      refine Zn1 rfl (fun h72 => ?_) (fun h72 => ?_)
      ·
       obtain ⟨p0, hp⟩ := get_of_lt (predsR b 0 f.blocks) j h72
       obtain ⟨p, rfl, _, hed⟩ := (predsR_mem (fun x hx e he => (hok.edges x hx e he).1) f.blocks 0 rfl p0).1 (List.mem_of_getElem? hp)
       have hpl : p < f.blocks.length := edge_lt hed
       refine Zi1 (Zi (Zb (Zs (Zb (Zd ?_)))))
       refine Zc (Zz (el := V.int (p : Int)) VT.sl29 rfl rfl (by omega) (get_int hp) (fun a73 => ?_))
       refine Zc (Zz1 VT.ty3 rfl rfl (Zc (Zk rfl (Za (Zi (Zd (Zc (Zl rfl (Zc (Zl rfl ?_))))))))))
       refine Zj2 (q := 76) rfl (fun hq76 => ?_) (fun hq76 => ?_)
       ·
        refine Zk0 hq76 ?_
        refine Zk0 hq76 ?_
        refine Zk0 hq76 ?_
        refine Zk0 hq76 ?_
        refine Zh (.inr ⟨_, _, 80, rfl, rfl, rfl⟩) rfl ?_
        refine Zh (.inr ⟨_, _, 80, rfl, rfl, rfl⟩) rfl ?_
        refine Zh (.inr ⟨_, _, 80, rfl, rfl, rfl⟩) rfl ?_
        refine Zh (.inr ⟨_, _, 80, rfl, rfl, rfl⟩) rfl ?_
        refine Zk0 hq76 ?_
        refine Zc (Zs1 rfl hq76 rfl ?_)
        refine Zc (Zk rfl (Za (Zb1 (Zi (Zd ?_)))))
        refine Zc (Zh2 rfl rfl (by omega) ?_)
        refine Zc (Zl rfl (Za (Zi ?_)))
        exact ⟨(j + 1, ((predsR b 0 f.blocks).take (j + 1)).any (qE f a)), (by (try simp only []); omega), ⟨by omega, rfl⟩, ⟨rfl, rfl, rfl, rfl, rfl, rfl, (congrArg (fun b : Bool => some (V.bool b)) (by rw [any_int hp, ← hfd, qE]; first | (rw [hq76, hq80]; simp; done) | (rw [hq76]; simp; done))), rfl, rfl, rfl, trivial⟩, (Drops.keep (Zt2 _))⟩
       ·
        refine Zc (Zl rfl ?_) (Zy0 hq76)
        refine Zc (Zl rfl ?_) (Zy0 hq76)
        refine Zc (Zx1 [.tmp 77, .tmp 78] rfl rfl VT.en9 (HasInt_c (reachL f) none (p : Int)) ?_) (Zy0 hq76)
        refine Zc (Zl rfl ?_) (Zy0 hq76)
        refine Zj2 (q := 80) rfl (fun hq80 => ?_) (fun hq80 => ?_)
        ·
         refine Zc (Zl rfl ?_) (Zy1 hq80)
         refine Zc (Zl rfl ?_) (Zy1 hq80)
         refine Zc (Zl rfl ?_) (Zy1 hq80)
         refine Zc (V_callCloKs [.tmp 82, .tmp 83] [_] _ rfl rfl rfl VT.en13 (.refl _) (edge1_c h0 ha hpl g3) ?_) (Zy1 hq80)
         refine Zc (Zs1 rfl hq80 rfl ?_) (Zy0 hq76)
         refine Zc (Zt1 rfl hq76 rfl ?_)
         refine Zc (Zk rfl (Za (Zb1 (Zi (Zd ?_)))))
         refine Zc (Zh2 rfl rfl (by omega) ?_)
         refine Zc (Zl rfl (Za (Zi ?_)))
         exact ⟨(j + 1, ((predsR b 0 f.blocks).take (j + 1)).any (qE f a)), (by (try simp only []); omega), ⟨by omega, rfl⟩, ⟨rfl, rfl, rfl, rfl, rfl, rfl, (congrArg (fun b : Bool => some (V.bool b)) (by rw [any_int hp, ← hfd, qE]; first | (rw [hq76, hq80]; simp; done) | (rw [hq76]; simp; done))), rfl, rfl, rfl, trivial⟩, (Drops.keep (Zt2 _))⟩
        ·
         refine Zk1 hq80 ?_
         refine Zk1 hq80 ?_
         refine Zk1 hq80 ?_
         refine Zk1 hq80 ?_
         refine Zc (Zt1 rfl hq80 rfl ?_) (Zy0 hq76)
         refine Zc (Zt1 rfl hq76 rfl ?_)
         refine Zc (Zk rfl (Za (Zb1 (Zi (Zd ?_)))))
         refine Zc (Zh2 rfl rfl (by omega) ?_)
         refine Zc (Zl rfl (Za (Zi ?_)))
         exact ⟨(j + 1, ((predsR b 0 f.blocks).take (j + 1)).any (qE f a)), (by (try simp only []); omega), ⟨by omega, rfl⟩, ⟨rfl, rfl, rfl, rfl, rfl, rfl, (congrArg (fun b : Bool => some (V.bool b)) (by rw [any_int hp, ← hfd, qE]; first | (rw [hq76, hq80]; simp; done) | (rw [hq76]; simp; done))), rfl, rfl, rfl, trivial⟩, (Drops.keep (Zt2 _))⟩
      ·
       have hje : j = (predsR b 0 f.blocks).length := by omega
       rw [hje, List.take_length] at hfd
       have hlaw := edges_fin hok hmb hla rfl
       rw [← hfd] at hlaw
       refine Zt (Ze1 (Ze1 (Zc1 (Zi (Zb (Zd (Zc (Zl rfl (Zc (Zl rfl ?_))))))))))
       refine Zc (Zz (el := intsX la) VT.sl37 rfl rfl (by omega) (get_mapS intsX hla) (fun a90 => ?_))
       refine Zc (Zz1 VT.ty29 rfl rfl (Zc (Zl rfl ?_)))
       refine Zc (Zx1 [.tmp 91, .tmp 92] rfl rfl VT.en9 (HasInt_c la none (b : Int)) ?_)
       refine Zc (Zl rfl (Zc (Zl rfl ?_)))
       refine Zj2 (q := 95) rfl (fun hq95 => ?_) (fun hq95 => ?_)
       ·
        refine Zc (Zl rfl ?_) (Zy1 hq95)
        refine Zc (Zl rfl ?_) (Zy1 hq95)
        refine Zc (Zj1 rfl rfl rfl ?_) (Zy1 hq95)
        refine Zc (Zl rfl ?_) (Zy1 hq95)
        refine Zj2 (q := 99) rfl (fun hq99 => ?_) (fun hq99 => ?_)
        ·
         refine Zk0 hq99 ?_
         refine Zk0 hq99 ?_
         refine Zk0 hq99 ?_
         refine Zk0 hq99 ?_
         refine Zk0 hq99 ?_
         refine Zc (Zs1 rfl hq99 rfl ?_) (Zy1 hq95)
         refine Zc (Zs1 rfl hq95 rfl ?_)
         refine Zc (V_booleq Try.underlying4 rfl rfl ?_)
         refine Zc (Zk rfl (Za (Zi (Zf1 ?_))))
         refine Zg1 rfl (.tmp rfl) ?_
         first | rfl | (refine congrArg V.bool ?_; rw [hfl]; simp; done) | (refine congrArg V.bool ?_; rw [hlaw]; first | (rw [hq95, hq99]; simp; done) | (rw [hq95]; simp; done))
        ·
         refine Zc (Zl rfl ?_) (Zy0 hq99)
         refine Zc (Zl rfl ?_) (Zy0 hq99)
         refine Zc (Zl rfl ?_) (Zy0 hq99)
         refine Zc (V_callCloKs [.tmp 101, .tmp 102] [_] _ rfl rfl rfl VT.en13 (.refl _) (edge1_c h0 ha hb g3) ?_) (Zy0 hq99)
         refine Zc (Zl2 rfl ?_) (Zy0 hq99)
         refine Zc (Zt1 rfl hq99 rfl ?_) (Zy1 hq95)
         refine Zc (Zs1 rfl hq95 rfl ?_)
         refine Zc (V_booleq Try.underlying4 rfl rfl ?_)
         refine Zc (Zk rfl (Za (Zi (Zf1 ?_))))
         refine Zg1 rfl (.tmp rfl) ?_
         first | rfl | (refine congrArg V.bool ?_; rw [hfl]; simp; done) | (refine congrArg V.bool ?_; rw [hlaw]; first | (rw [hq95, hq99]; simp; done) | (rw [hq95]; simp; done))
       ·
        refine Zk1 hq95 ?_
        refine Zk1 hq95 ?_
        refine Zk1 hq95 ?_
        refine Zk1 hq95 ?_
        refine Zh (.inr ⟨_, _, 99, rfl, rfl, rfl⟩) rfl ?_
        refine Zh (.inr ⟨_, _, 99, rfl, rfl, rfl⟩) rfl ?_
        refine Zh (.inr ⟨_, _, 99, rfl, rfl, rfl⟩) rfl ?_
        refine Zh (.inr ⟨_, _, 99, rfl, rfl, rfl⟩) rfl ?_
        refine Zh (.inr ⟨_, _, 99, rfl, rfl, rfl⟩) rfl ?_
        refine Zk1 hq95 ?_
        refine Zc (Zt1 rfl hq95 rfl ?_)
        refine Zc (V_booleq Try.underlying4 rfl rfl ?_)
        refine Zc (Zk rfl (Za (Zi (Zf1 ?_))))
        refine Zg1 rfl (.tmp rfl) ?_
        first | rfl | (refine congrArg V.bool ?_; rw [hfl]; simp; done) | (refine congrArg V.bool ?_; rw [hlaw]; first | (rw [hq95, hq99]; simp; done) | (rw [hq95]; simp; done))
 ·
  rw [if_neg h0] at hF
  refine Zc (Zx1 [.tmp 18] rfl rfl VT.en12 (hF) ?_)
  refine Zc (Zl rfl (Zc (Zg2 rfl rfl (Zc (Zg2 rfl rfl (Zc (Zk rfl (Zc (Zk rfl (Za (Zi (Zb (Zb (Zd (Zc (Zl rfl (Zc (Zj1 rfl rfl rfl (Za (Zi ?_))))))))))))))))))))
  refine Zm1 rfl (fun h23 => ?_) (fun h23 => ?_)
  ·
   refine Zb (Zd (Zc (Zl rfl ?_)))
   refine Zc (Ze2 Try.underlying37 rfl (fun hl25 => ?_))
   refine Zc (Zj1 rfl rfl rfl (Zc (Zk rfl (Za (Zi (Zf1 ?_))))))
   refine Zd1 (Zg1 rfl (.tmp rfl) ?_)
   first | rfl | (refine congrArg V.bool ?_; rw [hfl]; simp; done) | (refine congrArg V.bool ?_; rw [hlaw]; first | (rw [hq95, hq99]; simp; done) | (rw [hq95]; simp; done))
  · exact absurd h23 h0


end Go.Proofs.Ytaklonfdckgdbaa.X21
