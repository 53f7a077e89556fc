import Derived.Test.YtjekhhgjfelpgaaVT
import Derived.Test.YtjekhhgjfelpgaaS2
import Derived.Test.YtjekhhgjfelpgaaVU
import Derived.Test.YtjekhhgjfelpgaaDZ
import Derived.Test.YtjekhhgjfelpgaaX1
import Derived.Test.YtjekhhgjfelpgaaX2
import Derived.Test.YtjekhhgjfelpgaaX3
import Derived.Test.YtjekhhgjfelpgaaX4
import Derived.Test.YtjekhhgjfelpgaaX5
import Derived.Test.YtjekhhgjfelpgaaX6
import Derived.Test.YtjekhhgjfelpgaaX7
import Derived.Test.YtjekhhgjfelpgaaX8
import Derived.Test.YtjekhhgjfelpgaaX9
import Derived.Test.YtjekhhgjfelpgaaX10
import Derived.Test.YtjekhhgjfelpgaaXS
import Derived.Test.YtjekhhgjfelpgaaX12
import Derived.Test.YtjekhhgjfelpgaaX13
import Derived.Test.YtjekhhgjfelpgaaX20
import Derived.Test.YtjekhhgjfelpgaaX25
import Derived.Test.YtjekhhgjfelpgaaX26
import Derived.Test.YtjekhhgjfelpgaaX34
import Derived.Test.YtjekhhgjfelpgaaX36
import Derived.Test.YtjekhhgjfelpgaaX44
set_option linter.unusedVariables false
set_option linter.unusedSimpArgs false
namespace Go.Proofs.Ytjekhhgjfelpgaa.X45
open Go.VL Go.SM Go.Proofs.Ytjekhhgjfelpgaa Go.Proofs.Ytjekhhgjfelpgaa.X1 Go.Proofs.Ytjekhhgjfelpgaa.X2 Go.Proofs.Ytjekhhgjfelpgaa.X3 Go.Proofs.Ytjekhhgjfelpgaa.X4 Go.Proofs.Ytjekhhgjfelpgaa.X5 Go.Proofs.Ytjekhhgjfelpgaa.X6 Go.Proofs.Ytjekhhgjfelpgaa.X7 Go.Proofs.Ytjekhhgjfelpgaa.X8 Go.Proofs.Ytjekhhgjfelpgaa.X9 Go.Proofs.Ytjekhhgjfelpgaa.X10 Go.Proofs.Ytjekhhgjfelpgaa.XS Go.Proofs.Ytjekhhgjfelpgaa.X12 Go.Proofs.Ytjekhhgjfelpgaa.X13 Go.Proofs.Ytjekhhgjfelpgaa.X20 Go.Proofs.Ytjekhhgjfelpgaa.X25 Go.Proofs.Ytjekhhgjfelpgaa.X26 Go.Proofs.Ytjekhhgjfelpgaa.X34 Go.Proofs.Ytjekhhgjfelpgaa.X36 Go.Proofs.Ytjekhhgjfelpgaa.X44
theorem flat_setj {sz : Nat} : ∀ {xs : List V} {k j : Nat} {x x' v : V} {rest : List V}, (∀ x ∈ xs, x.leaves.length = sz) → xs[k]? = some x → j < sz → x.leaves.set j v = x'.leaves → (xs.flatMap V.leaves ++ rest).set (k * sz + j) v = (xs.set k x').flatMap V.leaves ++ rest
  | [], k, j, x, x', v, rest, _, h, _, _ => by simp at h
  | a :: xs, 0, j, x, x', v, rest, hl, h, hj, he => by
    have h : a = x := by simpa using h
    subst h
    have ha := hl a (List.mem_cons_self ..)
    rw [Nat.zero_mul, Nat.zero_add, List.set_cons_zero, List.flatMap_cons, List.flatMap_cons, List.append_assoc, List.append_assoc, List.set_append_left _ _ (by omega), he]
  | a :: xs, k + 1, j, x, x', v, rest, hl, h, hj, he => by
    have h : xs[k]? = some x := by simpa using h
    have ha := hl a (List.mem_cons_self ..)
    have ih := flat_setj (rest := rest) (fun y hy => hl y (List.mem_cons_of_mem _ hy)) h hj he
    rw [List.set_cons_succ, List.flatMap_cons, List.flatMap_cons, List.append_assoc, List.append_assoc, List.set_append_right _ _ (by rw [Nat.succ_mul]; omega), ha, show (k + 1) * sz + j - sz = k * sz + j by rw [Nat.succ_mul]; omega, ih]
theorem flat_getj {sz : Nat} {xs : List V} {k j : Nat} {x : V} {rest : List V} (hl : ∀ x ∈ xs, x.leaves.length = sz) (h : xs[k]? = some x) (hj : j < sz) : (xs.flatMap V.leaves ++ rest)[k * sz + j]? = x.leaves[j]? := by
  have h1 := flat_drop (rest := rest) hl h
  rw [← h1, List.getElem?_take_of_lt hj, List.getElem?_drop]
theorem repL_setv {m : Mem} {v' : V} : ∀ {ls : List V} {us : List Value} {j : Nat} {v : V}, RepL m ls us → ls[j]? = some v → (∀ u, Rep m v u → Rep m v' u) → RepL m (ls.set j v') us
  | [], _, _, _, _, h, _ => by simp at h
  | x :: ls, us, 0, v, ⟨u, us', e, r, k⟩, h, hc => by
    have h : x = v := by simpa using h
    subst h
    exact ⟨u, us', e, hc u r, k⟩
  | x :: ls, us, j + 1, v, ⟨u, us', e, r, k⟩, h, hc => ⟨u, us', e, r, repL_setv k (by simpa using h) hc⟩
theorem mid_one {α : Type} {pre post : List α} {x x' : α} {p : Nat} {y y' : α} (h1 : (pre ++ x :: post)[p]? = some y) (h2 : (pre ++ x' :: post)[p]? = some y') : y = x ∧ y' = x' ∨ y = y' := by
  by_cases h : p < pre.length
  · rw [List.getElem?_append_left h] at h1 h2
    rw [h1] at h2
    injection h2 with h2
    exact .inr h2
  · rw [List.getElem?_append_right (by omega)] at h1 h2
    cases hp : p - pre.length with
    | zero =>
      rw [hp] at h1 h2
      injection h1 with h1
      injection h2 with h2
      exact .inl ⟨h1.symm, h2.symm⟩
    | succ q =>
      rw [hp] at h1 h2
      have h1 : post[q]? = some y := h1
      have h2 : post[q]? = some y' := h2
      rw [h1] at h2
      injection h2 with h2
      exact .inr h2
theorem zip_cx (fs : List SFunc) (Os : List XRow) : cxL fs Os = (fs.zip Os).map fun x => cxV x.1 x.2 := by
  unfold cxL
  rw [List.zip, List.map_zipWith]
theorem zip_b {fs : List SFunc} {Os : List XRow} (h : BRows fs Os) : ∀ x ∈ fs.zip Os, BRow x.1 x.2 := fun x hx => by
  obtain ⟨v, hv⟩ := List.getElem?_of_mem hx
  obtain ⟨f, o⟩ := x
  obtain ⟨h1, h2⟩ := List.getElem?_zip_eq_some.1 hv
  exact h.2 v f o h1 h2
theorem zip_own {fs : List SFunc} {Os : List XRow} (h : Os.length = fs.length) : ((fs.zip Os).flatMap fun x => xOwn 48 (some x.2)) = bOwn Os := by
  have h1 : (fs.zip Os).map (·.2) = Os := List.map_snd_zip (Nat.le_of_eq h)
  show _ = Os.flatMap _
  rw [← h1, List.flatMap_map]
  rw [h1]
theorem zip_fun {fs : List SFunc} {Os : List XRow} (h : Os.length = fs.length) : (fs.zip Os).map (fun x => funcV x.1) = fs.map funcV := by
  have h1 : (fs.zip Os).map (·.1) = fs := List.map_fst_zip (Nat.le_of_eq h.symm)
  rw [show fs.map funcV = ((fs.zip Os).map (·.1)).map funcV by rw [h1], List.map_map]
  rfl
theorem cx_conv {m : Mem} {f : SFunc} {o : XRow} (hc : ∀ u, Rep m (xLeaf (some o)) u → Rep m (blocksX f.blocks) u) : ∀ u, Rep m (cxV f o) u → Rep m (funcV f) u := fun u hu => by
  obtain ⟨_, cs, e, r⟩ := hu
  exact ⟨rfl, cs, e, repL_setv (j := 1) r rfl hc⟩
theorem freeze_funs {nt : Nat} {Q : Exit → Fr → Store → Prop} {F : Fr} {c : Code} (g : Nat) (mv : V) (R : Store) : ∀ (L : List (SFunc × XRow)) (pre : List V), (∀ x ∈ L, BRow x.1 x.2) → VW Try.prog nt c Q F (.cells g 24 [.sl 2 none (pre ++ L.map fun x => funcV x.1), mv] :: R) → VW Try.prog nt c Q F (.cells g 24 [.sl 2 none (pre ++ L.map fun x => cxV x.1 x.2), mv] :: ((L.flatMap fun x => xOwn 48 (some x.2)) ++ R))
  | [], pre, _, h => h
  | (f, o) :: L, pre, ho, h => by
    obtain ⟨hx, q2, q3, q4⟩ := ho _ (List.mem_cons_self ..)
    have h2 := freeze_funs g mv R L (pre ++ [funcV f]) (fun x hx => ho x (List.mem_cons_of_mem _ hx)) (by rw [List.append_assoc]; exact h)
    rw [List.append_assoc] at h2
    have h2 : VW Try.prog nt c Q F (.cells g 24 [.sl 2 none (pre ++ funcV f :: L.map fun x => cxV x.1 x.2), mv] :: ((L.flatMap fun x => xOwn 48 (some x.2)) ++ R)) := h2
    have hx : o.xs = f.blocks.map blockV := hx
    refine VW_freezeS 1 0 0 (sz := 7) (rest := o.rest) (ys' := pre ++ funcV f :: L.map fun x => cxV x.1 x.2) (f.blocks.map blockV) rfl rfl rfl (by rw [hx]) (by rw [hx]) q2 q3 (fits_bs _) (by simp) (fun m hm p y y' h3 h4 => ?_) h2
    rcases mid_one h3 h4 with ⟨rfl, rfl⟩ | rfl
    · refine cx_conv fun u hu => ?_
      have hu : u = .slice (some ⟨o.g, 0, none⟩) o.xs.length o.cap := hu
      rw [hu]
      exact hm
    · exact fun u hu => hu
def mixV (D T : List V) (k : Nat) : List V := D.take k ++ T.drop k
theorem mixV_get {D T : List V} {k : Nat} {t : V} (hl : D.length = T.length) (h : T[k]? = some t) : (mixV D T k)[k]? = some t := by
  have hk := (List.getElem?_eq_some_iff.1 h).1
  have e : k - min k D.length = 0 := by omega
  unfold mixV
  rw [List.getElem?_append_right (by rw [List.length_take]; omega), List.length_take, List.getElem?_drop, e]
  exact h
theorem mixV_set {D T : List V} {k : Nat} {x : V} (hl : D.length = T.length) (h : D[k]? = some x) : (mixV D T k).set k x = mixV D T (k + 1) := by
  have hk := (List.getElem?_eq_some_iff.1 h).1
  obtain ⟨t, ht⟩ := get_of_lt T k (by omega)
  have e : k - min k D.length = 0 := by omega
  unfold mixV
  rw [drop_cons ht, List.set_append_right _ _ (by rw [List.length_take]; omega), List.length_take, e, List.set_cons_zero, take_snoc h, List.append_assoc]
  rfl
theorem mixV_end {D T : List V} {n : Nat} (hl : D.length = T.length) (hn : T.length = n) : mixV D T n = D := by
  unfold mixV
  rw [List.drop_of_length_le (by omega), List.append_nil, List.take_of_length_le (by omega)]
theorem mixV_all {D T : List V} {p : V → Prop} (k : Nat) (hD : ∀ x ∈ D, p x) (hT : ∀ x ∈ T, p x) : ∀ x ∈ mixV D T k, p x := fun x hx => by
  rcases List.mem_append.1 hx with h | h
  · exact hD x (List.mem_of_mem_take h)
  · exact hT x (List.mem_of_mem_drop h)
theorem drops_appendR {A B : Store} (C : Store) (h : Drops A B) : Drops (A ++ C) (B ++ C) := Drops.trans (.of_perm List.perm_append_comm) (Drops.trans (drops_append C h) (.of_perm List.perm_append_comm))
theorem adds_le (W : List Bool) : ∀ (ps : List Int) (nx : Int), (addsP W nx ps).length ≤ ps.length
  | [], _ => Nat.le_refl _
  | p :: ps, nx => by
    rw [addsP]
    split
    · rw [List.length_cons, List.length_cons]
      have := adds_le W ps (nx + 1)
      omega
    · have := adds_le W ps nx
      rw [List.length_cons]
      omega
theorem nxAt_ub (W : List Bool) : ∀ (bs : List SBlock) (nx : Int) (k : Nat), (∀ b ∈ bs, b.params.length ≤ 10000) → nxAt W nx bs k ≤ nx + bs.length * 10000
  | [], nx, k, _ => by
    rw [nxAt]
    show nx ≤ nx + ((0 : Nat) : Int) * 10000
    omega
  | b :: l, nx, 0, _ => by
    rw [nxAt]
    have : (0 : Int) ≤ ((b :: l).length : Int) := Int.natCast_nonneg _
    omega
  | b :: l, nx, k + 1, h => by
    rw [nxAt]
    have h1 := nxAt_ub W l (nx + ((addsP W nx b.params).length : Nat)) k fun x hx => h x (List.mem_cons_of_mem _ hx)
    have h2 := adds_le W b.params nx
    have h3 := h b (List.mem_cons_self ..)
    rw [List.length_cons]
    omega
theorem raws_thin (W : List Bool) : ∀ v ∈ W.map V.bool, ∃ x, v = V.raw x := fun v hv => by
  obtain ⟨b, _, rfl⟩ := List.mem_map.1 hv
  exact ⟨_, rfl⟩
theorem cx_args {f : SFunc} {o : XRow} (hx : o.xs = f.blocks.map blockV) : ∀ (m : Mem) (us : List Value), Rep m (.sl 7 none (f.blocks.map blockV)) (.slice (some ⟨o.g, 0, none⟩) o.xs.length o.cap) → RepL m [cxV f o] us → RepL m [funcV f] us := fun m us h ⟨u, us', e, r, k⟩ => ⟨u, us', e, cx_conv (fun w hw => by
  have hw : w = .slice (some ⟨o.g, 0, none⟩) o.xs.length o.cap := hw
  rw [hw]
  exact h) u r, k⟩
theorem WordsX_c {f : SFunc} {n : Nat} {o : XRow} (h0 : funcF f = 0) (hn : freshF f.blocks = (n : Int)) (hb : BRow f o) : VCalls Try.prog 8 [cxV f o] [.cells o.g 48 (o.xs.flatMap V.leaves ++ o.rest)] fun r S' => ∃ g W, W.length = n ∧ WordsOk f W ∧ r = .tup [.raw (.slice (some ⟨g, 0, none⟩) n n), .int 0] ∧ S' = [.cells o.g 48 (o.xs.flatMap V.leaves ++ o.rest), .cells g 4 (W.map V.bool)] := by
  obtain ⟨hx, q1, q2, q3⟩ := hb
  refine (VCalls.borrow (T := 48) (sz := 7) (rest := o.rest) (f.blocks.map blockV) (Words_c h0 hn) (by rw [hx]) (by rw [hx]) q1 q2 (fits_bs _) (cx_args hx) fun r S' ⟨g, W, h1, h2, h3, h4⟩ => ⟨fun m m' u hu => ?_, fun e he => ?_⟩).mono fun r S' ⟨S1, ⟨g, W, h1, h2, h3, h4⟩, h5⟩ => ⟨g, W, h1, h2, h3, by rw [h5, h4]⟩
  · subst h3
    obtain ⟨us, e, k⟩ := hu
    exact ⟨us, e, repL_thin (fun v hv => by
      rcases List.mem_cons.1 hv with rfl | hv
      · exact ⟨_, rfl⟩
      · rw [List.mem_singleton.1 hv]; exact ⟨_, rfl⟩) k⟩
  · subst h4
    rw [List.mem_singleton.1 he]
    exact ⟨g, _, _, rfl, raws_thin W⟩
theorem FreshX_c {f : SFunc} {o : XRow} (h0 : funcF f = 0) (hb : BRow f o) : VKeep Try.prog 9 [cxV f o] [.cells o.g 48 (o.xs.flatMap V.leaves ++ o.rest)] (.int (freshF f.blocks)) := by
  obtain ⟨hx, q1, q2, q3⟩ := hb
  refine (VCalls.borrow (T := 48) (sz := 7) (rest := o.rest) (f.blocks.map blockV) (VCalls.forget (R := fun r' _ => r' = .int (freshF f.blocks)) (Fresh_c h0)) (by rw [hx]) (by rw [hx]) q1 q2 (fits_bs _) (cx_args hx) fun r S' ⟨h1, h2⟩ => ⟨fun m m' u hu => ?_, fun e he => ?_⟩).mono fun r S' ⟨S1, ⟨h1, h2⟩, h3⟩ => ⟨h1, by rw [h3, h2]⟩
  · subst h1
    exact hu
  · subst h2
    cases he
abbrev WT : Type := SFunc × List Bool × XRow
def wdO (t : WT) : XRow := ⟨t.2.2.g, t.2.2.cap, (wdF t.1 t.2.1).blocks.map blockV, t.2.2.rest⟩
abbrev tOwn (T : List WT) : Store := T.flatMap fun t => xOwn 48 (some (wdO t))
structure TOk (fs : List SFunc) (Os : List XRow) (n : Nat) (T : List WT) : Prop where
  f : T.map (·.1) = fs.take n
  o : T.map (·.2.2) = Os.take n
  w : ∀ t ∈ T, WordsOk t.1 t.2.1 ∧ BRow t.1 t.2.2
theorem tok_nil (fs : List SFunc) (Os : List XRow) : TOk fs Os 0 [] := ⟨rfl, rfl, fun t ht => by cases ht⟩
theorem tok_snoc {fs : List SFunc} {Os : List XRow} {n : Nat} {T : List WT} {t : WT} (h : TOk fs Os n T) (hf : fs[n]? = some t.1) (ho : Os[n]? = some t.2.2) (hw : WordsOk t.1 t.2.1) (hb : BRow t.1 t.2.2) : TOk fs Os (n + 1) (T ++ [t]) := by
  refine ⟨?_, ?_, fun x hx => ?_⟩
  · rw [List.map_append, h.f, take_snoc hf]; rfl
  · rw [List.map_append, h.o, take_snoc ho]; rfl
  · rcases List.mem_append.1 hx with hx | hx
    · exact h.w x hx
    · rw [List.mem_singleton.1 hx]; exact ⟨hw, hb⟩
theorem wdo_row {t : WT} (hb : BRow t.1 t.2.2) : BRow (wdF t.1 t.2.1) (wdO t) ∧ cxV (wdF t.1 t.2.1) (wdO t) = cxV t.1 t.2.2 := by
  obtain ⟨h1, h2, h3, h4⟩ := hb
  have hl : ((wdF t.1 t.2.1).blocks.map blockV).length = t.2.2.xs.length := by
    show ((wdL t.2.1 (freshF t.1.blocks) t.1.blocks).map blockV).length = _
    rw [List.length_map, wdL_len, h1, List.length_map]
  refine ⟨⟨rfl, by show ((wdF t.1 t.2.1).blocks.map blockV).length ≤ t.2.2.cap; rw [hl]; exact h2, h3, ?_⟩, ?_⟩
  · show (((wdF t.1 t.2.1).blocks.map blockV).flatMap V.leaves ++ t.2.2.rest).length = t.2.2.cap * 7
    rw [List.length_append, flat_len (blocks_7 _), hl]
    rw [List.length_append, h1, flat_len (blocks_7 _), ← h1] at h4
    exact h4
  · show V.agg [.int t.1.name, .raw (.slice _ ((wdF t.1 t.2.1).blocks.map blockV).length _)] = V.agg [.int t.1.name, .raw (.slice _ t.2.2.xs.length _)]
    rw [hl]
    rfl
theorem tok_end {fs : List SFunc} {Os : List XRow} {T : List WT} (h : TOk fs Os fs.length T) (hl : Os.length = fs.length) : List.zipWith wdF fs (T.map (·.2.1)) = T.map (fun t => wdF t.1 t.2.1) ∧ BRows (T.map fun t => wdF t.1 t.2.1) (T.map wdO) ∧ cxL (T.map fun t => wdF t.1 t.2.1) (T.map wdO) = cxL fs Os ∧ tOwn T = bOwn (T.map wdO) ∧ (T.map (·.2.1)).length = fs.length ∧ (∀ (k : Nat) (f : SFunc) (W : List Bool), fs[k]? = some f → (T.map (·.2.1))[k]? = some W → WordsOk f W) := by
  obtain ⟨h1, h2, h3⟩ := h
  rw [List.take_length] at h1
  rw [← hl, List.take_length] at h2
  subst h1 h2
  have hget : ∀ (k : Nat) (t : WT), T[k]? = some t → t ∈ T := fun k t h => List.mem_of_getElem? h
  refine ⟨?_, ⟨by rw [List.length_map, List.length_map], fun k f o hf ho => ?_⟩, ?_, ?_, ?_, fun k f W hf hw => ?_⟩
  · apply List.ext_getElem?
    intro k
    rw [List.getElem?_zipWith, List.getElem?_map, List.getElem?_map, List.getElem?_map]
    cases T[k]? <;> rfl
  · rw [List.getElem?_map] at hf ho
    cases hx : T[k]? with
    | none => rw [hx] at hf; cases hf
    | some t =>
      rw [hx] at hf ho
      injection hf with hf
      injection ho with ho
      subst hf ho
      exact (wdo_row (h3 t (hget k t hx)).2).1
  · unfold cxL
    apply List.ext_getElem?
    intro k
    rw [List.getElem?_zipWith, List.getElem?_zipWith, List.getElem?_map, List.getElem?_map, List.getElem?_map, List.getElem?_map]
    cases hx : T[k]? with
    | none => rfl
    | some t => exact congrArg some (wdo_row (h3 t (hget k t hx)).2).2
  · show T.flatMap _ = (T.map wdO).flatMap _
    rw [List.flatMap_map]
  · rw [List.length_map, List.length_map]
  · rw [List.getElem?_map] at hf hw
    cases hx : T[k]? with
    | none => rw [hx] at hf; cases hf
    | some t =>
      rw [hx] at hf hw
      injection hf with hf
      injection hw with hw
      subst hf hw
      exact (h3 t (hget k t hx)).1
theorem perm_n {M A Z : Store} {r : Own} : (M ++ (A ++ (r :: Z))).Perm (r :: (M ++ (A ++ Z))) := by
  have h : ((M ++ A) ++ (r :: Z)).Perm (r :: ((M ++ A) ++ Z)) := List.perm_middle
  simpa only [List.append_assoc] using h
theorem drops_t {rb rw : Own} {M A Z : Store} : Drops (rb :: rw :: (M ++ (A ++ Z))) (M ++ ((A ++ [rb]) ++ Z)) := by
  refine Drops.trans (T := rb :: (M ++ (A ++ Z))) (.keep (.drop (.refl _))) (.of_perm ?_)
  have h1 := (List.perm_middle (a := rb) (l₁ := M ++ A) (l₂ := Z)).symm
  simpa only [List.append_assoc, List.singleton_append] using h1
theorem town_snoc (T : List WT) (t : WT) : tOwn (T ++ [t]) = tOwn T ++ xOwn 48 (some (wdO t)) := by
  unfold tOwn
  rw [List.flatMap_append, List.flatMap_singleton]
open Go.VL renaming VOps_nil → Za, VW_seq → Zb, VW_region → Zd, VOps_skipU → Zh, Then_n → Zi, V_fieldAddr → Zj, V_assign → Zk, V_move → Zl, VW_block → Zs, VW_exit → Zt, V_load → Zu, V_load_agg → Zv, V_store_agg → Zx, V_store → Zy, V_indexAddr → Zz, InBlock_n → Zb1, InBlock_hit → Zc1, Then_r → Zd1, Then_e → Ze1, VW_ret → Zf1, VRet_one → Zg1, VW_skip → Zi1, V_bin → Zj1, VW_condNe → Zm1, VW_condP → Zn1, VW_condN → Zo1, VW_condT → Zp1, VW_condF → Zq1, VW_cond → Zr1, V_pickT → Zs1, V_pickF → Zt1, V_nilCheck → Zv1, V_fieldAddr_ep → Zw1, V_callP → Zx1, V_load_ep → Zz1, V_load_ep_agg → Za2, V_alloc → Zb2, V_box → Zc2, V_lenN → Zd2, V_build → Zf2, V_extract → Zg2, V_add → Zh2, VW_loopF → Zi2, VOps_split → Zj2, V_not → Zl2, V_indexAddr_row → Zr2, Drops.refl → Zt2, VOp_as → Zu2, perm_erase → Zv2, V_appendN → Zi3, V_lit → Zk3, V_call → Zm3
set_option maxRecDepth 100000 in
set_option maxHeartbeats 16000000 in
theorem licmWords_c (u : SUnit) : VPure Try.prog 3 [unitV u] (.bool true) := by
 refine V_start (nt := 138) Try.func3 rfl rfl rfl ?_
 refine Zb (Zd ?_)
 refine Zc (Zc2 rfl rfl (fun g1 => ?_))
 refine Zc (Zk rfl (Za (Zi (Zb (Zb (Zd ?_))))))
 refine Zc (Zx1 [] rfl rfl VT.en4 (works_c) ?_)
 refine Zc (Zl2 rfl (Za (Zi ?_)))
 refine Zq1 rfl (rfl) ?_
 refine Zi1 (Zi (Zb (Zd (Zc (Zv 0 VT.ty24 rfl rfl rfl ?_)))))
 refine Zc (Zx1 [.tmp 23, .const (.int .i64 (1000))] rfl rfl VT.en5 (run_c u 1000) ?_)
 refine Zc (Zl rfl (Zc (Zg2 rfl rfl (Zc (Zg2 rfl rfl (Zc (Zg2 rfl rfl ?_)))))))
 refine Zc (Zb2 VT.zr28 _ rfl rfl (fun g3 => ?_))
 refine Zc (Zx 0 VT.ty28 rfl rfl rfl rfl rfl (Zc (Zk rfl (Zc (Zk rfl (Za (Zi (Zb (Zb (Zd (Zc (Zl rfl (Zc (Zl2 rfl (Zc (Zl rfl ?_))))))))))))))))
 refine Zj2 (q := 30) rfl (fun hq30 => ?_) (fun hq30 => ?_)
 ·
  refine Zk0 hq30 ?_
  refine Zk0 hq30 ?_
  refine Zk0 hq30 ?_
  refine Zc (Zs1 rfl hq30 rfl ?_)
  refine Za (Zi ?_)
  refine Zp1 rfl rfl ?_
  refine Zb (Zd (Zc (Zk rfl (Za (Zi (Zf1 ?_))))))
  refine Zd1 (Zg1 rfl (.tmp rfl) ?_)
  first | rfl | (rw [hreq]; exact congrArg V.bool (sameOut_iff.2 rfl))
 ·
  have hx30 : ((runF u 1000).2.2 == 0 && (runF u 1000).1.fin != 5) = true := by simpa using hq30
  have hx0 : (runF u 1000).2.2 = 0 := by have h9 := (Bool.and_eq_true _ _ ▸ hx30 : _ ∧ _).1; exact eq_of_beq h9
  have hU := run_unit hx0
  refine Zc (Zv 1 VT.ty24 rfl rfl rfl ?_) (Zy0 hq30)
  refine Zc (Zm3 [.tmp 31] [] _ rfl rfl VT.en6 (.refl _) (simpleB_c hU) ?_) (Zy0 hq30)
  rintro _ _ ⟨rfl, sb, rfl, hsb⟩
  refine Zc (Zl2 rfl ?_) (Zy0 hq30)
  refine Zc (Zt1 rfl hq30 rfl ?_)
  refine Za (Zi ?_)
  refine Zo1 rfl (fun h34 => ?_) (fun h34 => ?_)
  ·
   refine Zb (Zd (Zc (Zk rfl (Za (Zi (Zf1 ?_))))))
   refine Zd1 (Zg1 rfl (.tmp rfl) ?_)
   first | rfl | (rw [hreq]; exact congrArg V.bool (sameOut_iff.2 rfl))
  ·
   have hfs := nw_fns hU
   have hul := fns_le hU
   have hcp : ∀ f ∈ u.fns, CpOk f ∧ 0 < f.blocks.length := fun f hf => ⟨cp_ok (hfs f hf), (func_ok (hfs f hf)).pos⟩
   refine Zi1 (Zi (Zb (Zd (Zc (Zv 1 VT.ty24 rfl rfl rfl ?_)))))
   refine Zc (V_callB [.tmp 35] [_, _] _ rfl rfl VT.en7 (.refl _) (CopyUnitX_c hcp hul) ?_)
   rintro r0 Sa ⟨Os, hOs, rfl, rfl⟩
   refine Zc (Zb2 VT.zr24 _ rfl rfl (fun g6 => ?_))
   refine Zc (Zx 0 VT.ty24 rfl rfl rfl rfl rfl (Za (Zi ?_)))
   have hOl := hOs.1
   have hcl : (cxL u.fns Os).length = u.fns.length := cxL_len hOs
   refine Zb (Zb (Zd (Zc (Zj VT.fa24_0 rfl (Zc (Zu 0 VT.ty22 rfl rfl rfl ?_))))))
   refine Zc (Zu2 (Zd2 (n := (cxL u.fns Os).length) Try.underlying22 rfl (by simp) (fun hl39 => ⟨rfl, rfl⟩)) ((V.le.of_eq (by rw [hcl]) : V.le _ (.int (u.fns.length : Nat)))) ?_)
   refine Zc (Zl rfl (Za (Zi (Zs ?_))))
   refine Zi2 (ι := Nat × List WT) (fun (n, T) => u.fns.length - n) (fun (n, T) => [(1, some (.ptr g1 0)), (3, some (.ptr g3 0)), (6, some (.ptr g6 0)), (38, some (.sl 2 none (cxL u.fns Os))), (39, some (.int u.fns.length)), (40, some (.int n))]) (fun (n, T) => .cells g6 24 [.sl 2 none (cxL u.fns Os), .int u.main] :: .cells g3 28 (resultV (runF u 1000).1).leaves :: .cells g1 24 [funcsX u.fns, .int u.main] :: (tOwn T ++ bOwn (Os.drop n))) (fun (n, T) => n ≤ u.fns.length ∧ TOk u.fns Os n T) (0, []) ⟨Nat.zero_le _, tok_nil _ _⟩ ⟨rfl, rfl, rfl, rfl, rfl, rfl, trivial⟩ (Zt2 _) ?_
   rintro ⟨n, T⟩ hA
   change n ≤ u.fns.length ∧ TOk u.fns Os n T at hA
   obtain ⟨hn, hT⟩ := hA
   refine Zb (Zd (Zc (Zj1 rfl rfl rfl (Za (Zi (Zb ?_))))))
   refine Zn1 rfl (fun h41 => ?_) (fun h41 => ?_)
   ·
    obtain ⟨f, hf⟩ := get_of_lt u.fns n h41
    obtain ⟨o, ho⟩ := get_of_lt Os n (by omega)
    have hbr := hOs.2 _ _ _ hf ho
    obtain ⟨og, ocap, oxs, orest⟩ := o
    have hox : oxs = f.blocks.map blockV := hbr.1
    subst hox
    have h0 := hfs f (List.mem_of_getElem? hf)
    have hok := func_ok h0
    have h128 := hok.len
    have hcb := (cp_ok h0).block
    obtain ⟨nf, hnf⟩ : ∃ nf : Nat, freshF f.blocks = (nf : Int) := ⟨(freshF f.blocks).toNat, by have := (fresh_ok hok).1; omega⟩
    have hnf4 : nf ≤ 4096 := by have := (fresh_ok hok).2.1; omega
    have hvk : ∀ v ∈ valuesL f.blocks, 0 ≤ v ∧ v.toNat < nf := fun v hv => by have h1 := values_keys hok v hv; have h2 := (fresh_ok hok).2.2 v hv; omega
    refine VW_perm (S' := .cells og 48 ((f.blocks.map blockV).flatMap V.leaves ++ orest) :: .cells g6 24 [.sl 2 none (cxL u.fns Os), .int u.main] :: .cells g3 28 (resultV (runF u 1000).1).leaves :: .cells g1 24 [funcsX u.fns, .int u.main] :: (tOwn T ++ bOwn (Os.drop (n + 1)))) (by show (Own.cells g6 24 [.sl 2 none (cxL u.fns Os), .int u.main] :: Own.cells g3 28 (resultV (runF u 1000).1).leaves :: Own.cells g1 24 [funcsX u.fns, .int u.main] :: (tOwn T ++ bOwn (Os.drop n)) : Store).Perm _; rw [show Os.drop n = (⟨og, ocap, f.blocks.map blockV, orest⟩ : XRow) :: Os.drop (n + 1) from drop_cons ho]; exact perm_n (M := [_, _, _])) ?_
    refine Zi1 (Zi (Zb (Zs (Zb (Zd (Zc (Zl rfl (Zc (Zk rfl (Za (Zi (Zb (Zd (Zc (Zj VT.fa24_0 rfl (Zc (Zu 1 VT.ty22 rfl rfl rfl (Zc (Zl rfl ?_)))))))))))))))))))
    refine Zc (Zz (el := cxV f ⟨og, ocap, f.blocks.map blockV, orest⟩) VT.sl22 rfl rfl (by omega) (cxL_get hf ho) (fun a46 => ?_))
    refine Zc (Zk rfl (Za (Zi (Zb (Zd (Zc (Zl rfl (Zc (V_nilCheck_ep rfl (Zc (Za2 VT.ty36 rfl rfl ?_)))))))))))
    refine Zc (Zm3 [.tmp 50] [_] _ rfl rfl VT.en8 (Zv2 (i := 0) rfl) (WordsX_c h0 hnf hbr) ?_)
    rintro _ _ ⟨gw, W, hWl, hWo, rfl, rfl⟩
    refine Zc (Zl rfl (Zc (Zg2 rfl rfl (Zc (Zg2 rfl rfl (Zc (Zk rfl (Zc (Zk rfl (Za (Zi (Zb (Zb (Zd (Zc (Zl rfl (Zc (Zj1 rfl rfl rfl (Zc (Zl rfl ?_))))))))))))))))))))
    refine Zj2 (q := 56) rfl (fun hq56 => ?_) (fun hq56 => ?_)
    · exact absurd hq56 (by decide)
    ·
     refine Zc (Zl rfl ?_) (Zy0 hq56)
     refine Zc (V_len_raw Try.underlying37 rfl ?_) (Zy0 hq56)
     refine Zc (Zl rfl ?_) (Zy0 hq56)
     refine Zc (V_nilCheck_ep rfl ?_) (Zy0 hq56)
     refine Zc (Za2 VT.ty36 rfl rfl ?_) (Zy0 hq56)
     refine Zc (Zu2 (V_callK 0 [.tmp 61] rfl rfl VT.en9 rfl (FreshX_c h0 hbr) ⟨rfl, rfl⟩) ((V.le.of_eq (congrArg V.int hnf) : V.le _ (.int (nf : Int)))) ?_) (Zy0 hq56)
     refine Zc (Zj1 rfl rfl rfl ?_) (Zy0 hq56)
     refine Zc (Zt1 rfl hq56 rfl ?_)
     refine Za (Zi ?_)
     refine Zm1 rfl (fun h64 => ?_) (fun h64 => ?_)
     · exact absurd rfl h64
     ·
      refine Zi1 (Zi (Zb (Zd (Zc (Zl rfl (Zc (V_nilCheck_ep rfl (Zc (Za2 VT.ty36 rfl rfl ?_)))))))))
      refine Zc (Zu2 (V_callK 0 [.tmp 67] rfl rfl VT.en9 rfl (FreshX_c h0 hbr) ⟨rfl, rfl⟩) ((V.le.of_eq (congrArg V.int hnf) : V.le _ (.int (nf : Int)))) ?_)
      refine Zc (Zk rfl (Za (Zi (Zb (Zd (Zc (Zl rfl (Zc (V_nilCheck_ep rfl (Zc (Zw1 VT.fa36_1 rfl rfl ?_)))))))))))
      refine Zc (Zu2 (Zz1 VT.ty34 rfl (xLeaf_leaf _) ⟨rfl, rfl⟩) ((V.le.of_eq (by show V.raw (.slice _ (f.blocks.map blockV).length _) = _; rw [List.length_map]) : V.le _ (.raw (.slice (some ⟨og, 0, none⟩) f.blocks.length ocap)))) ?_)
      refine Zc (V_len_raw Try.underlying34 rfl ?_)
      refine Zc (Zl rfl (Za (Zi ?_)))
      have hBl : ((wdL W nf f.blocks).map blockV).length = (f.blocks.map blockV).length := by rw [List.length_map, List.length_map, wdL_len]
      refine Zs ?_
      refine Zi2 (ι := Nat) (fun k => f.blocks.length - k) (fun k => [(1, some (.ptr g1 0)), (3, some (.ptr g3 0)), (6, some (.ptr g6 0)), (38, some (.sl 2 none (cxL u.fns Os))), (39, some (.int u.fns.length)), (40, some (.int n)), (8, some (.ep a46 (cxV f ⟨og, ocap, f.blocks.map blockV, orest⟩))), (9, some (.raw (.slice (some ⟨gw, 0, none⟩) nf nf))), (11, some (.int (nxAt W nf f.blocks k))), (73, some (.int f.blocks.length)), (74, some (.int k))]) (fun k => .cells og 48 ((mixV ((wdL W nf f.blocks).map blockV) (f.blocks.map blockV) k).flatMap V.leaves ++ orest) :: .cells gw 4 (W.map V.bool) :: .cells g6 24 [.sl 2 none (cxL u.fns Os), .int u.main] :: .cells g3 28 (resultV (runF u 1000).1).leaves :: .cells g1 24 [funcsX u.fns, .int u.main] :: (tOwn T ++ bOwn (Os.drop (n + 1)))) (fun k => k ≤ f.blocks.length) 0 (Nat.zero_le _) ⟨rfl, rfl, rfl, rfl, rfl, rfl, rfl, rfl, (by cases f.blocks <;> rfl), rfl, rfl, trivial⟩ (Zt2 _) ?_
      rintro k hk
      change k ≤ f.blocks.length at hk
      have hBl : ((wdL W nf f.blocks).map blockV).length = (f.blocks.map blockV).length := by rw [List.length_map, List.length_map, wdL_len]
      refine Zb (Zd (Zc (Zj1 rfl rfl rfl (Za (Zi (Zb ?_))))))
      refine Zn1 rfl (fun h75 => ?_) (fun h75 => ?_)
      ·
       obtain ⟨b, hb⟩ := get_of_lt f.blocks k h75
       have hbm := List.mem_of_getElem? hb
       obtain ⟨c1, c2, c3, c4, c5, c6⟩ := hcb b hbm
       have hpv : ∀ v ∈ b.params, 0 ≤ v ∧ v.toNat < nf := fun v hv => hvk v (List.mem_flatMap.2 ⟨b, hbm, List.mem_append_left _ hv⟩)
       have hX7 : ∀ y ∈ mixV ((wdL W nf f.blocks).map blockV) (f.blocks.map blockV) k, y.leaves.length = 7 := mixV_all k (blocks_7 _) (blocks_7 _)
       have hXk : (mixV ((wdL W nf f.blocks).map blockV) (f.blocks.map blockV) k)[k]? = some (blockV b) := mixV_get hBl (get_mapS _ hb)
       have hXn : (mixV ((wdL W nf f.blocks).map blockV) (f.blocks.map blockV) k).set k (blockV (wdB W (nxAt W nf f.blocks k) b)) = mixV ((wdL W nf f.blocks).map blockV) (f.blocks.map blockV) (k + 1) := mixV_set hBl (by rw [List.getElem?_map, wdL_get, hb]; rfl)
       have hub := nxAt_ub W f.blocks nf k (fun b hb => (hcb b hb).1)
       have hlb := nxAt_le W f.blocks nf k
       have hnk := nxAt_succ W (nf : Int) hb
       generalize hnx : nxAt W nf f.blocks k = nx at hXn hub hlb hnk ⊢
       generalize mixV ((wdL W nf f.blocks).map blockV) (f.blocks.map blockV) k = X at hX7 hXk hXn ⊢
       have hXl : k < X.length := (List.getElem?_eq_some_iff.1 hXk).1
       have hRl : (X.flatMap V.leaves ++ orest).length = X.length * 7 + orest.length := by rw [List.length_append, flat_len hX7]
       refine Zi1 (Zi (Zb (Zs (Zb (Zd (Zc (Zl rfl (Zc (Zk rfl (Za (Zi (Zb (Zd (Zc (Zl rfl (Zc (V_nilCheck_ep rfl (Zc (Zw1 VT.fa36_1 rfl rfl ?_)))))))))))))))))))
       refine Zc (Zu2 (Zz1 VT.ty34 rfl (xLeaf_leaf _) ⟨rfl, rfl⟩) ((V.le.of_eq (by show V.raw (.slice _ (f.blocks.map blockV).length _) = _; rw [List.length_map]) : V.le _ (.raw (.slice (some ⟨og, 0, none⟩) f.blocks.length ocap)))) ?_)
       refine Zc (Zl rfl ?_)
       refine Zc (Zu2 (Zr2 VT.sl34 rfl rfl (by omega) (by omega) ⟨rfl, rfl⟩) ((V.le.of_eq (congrArg (V.ptr og) (by omega)) : V.le _ (.ptr og (k * 7)))) ?_)
       refine Zc (Zk rfl (Za (Zi (Zb (Zd (Zc (V_assign_nil 50 4 (Za (Zi (Zb (Zb (Zd (Zc (Zl rfl (Zc (Zv1 rfl (Zc (Zj VT.fa48_0 rfl ?_))))))))))))))))))
       refine Zc (Zu 1 VT.ty26 rfl rfl ((flat_getj (j := 0) hX7 hXk (by decide)).trans rfl) ?_)
       refine Zc (Zd2 (n := b.params.length) Try.underlying26 rfl (by simp) (fun hl87 => ?_))
       refine Zc (Zl rfl (Za (Zi (Zs ?_))))
       refine Zi2 (ι := Nat × Tok) (fun (j, tk) => b.params.length - j) (fun (j, tk) => [(1, some (.ptr g1 0)), (3, some (.ptr g3 0)), (6, some (.ptr g6 0)), (38, some (.sl 2 none (cxL u.fns Os))), (39, some (.int u.fns.length)), (40, some (.int n)), (8, some (.ep a46 (cxV f ⟨og, ocap, f.blocks.map blockV, orest⟩))), (9, some (.raw (.slice (some ⟨gw, 0, none⟩) nf nf))), (73, some (.int f.blocks.length)), (74, some (.int k)), (13, some (.ptr og (k * 7))), (11, some (.int (nx + ((addsP W nx (b.params.take j)).length : Nat)))), (14, some (.sl 4 (some tk) ((addsP W nx (b.params.take j)).map insV))), (86, some (intsX b.params)), (87, some (.int b.params.length)), (88, some (.int j))]) (fun (j, tk) => .buf tk 50 4 (addsP W nx (b.params.take j)).length :: .cells og 48 (X.flatMap V.leaves ++ orest) :: .cells gw 4 (W.map V.bool) :: .cells g6 24 [.sl 2 none (cxL u.fns Os), .int u.main] :: .cells g3 28 (resultV (runF u 1000).1).leaves :: .cells g1 24 [funcsX u.fns, .int u.main] :: (tOwn T ++ bOwn (Os.drop (n + 1)))) (fun (j, tk) => j ≤ b.params.length) (0, .nil) (Nat.zero_le _) ⟨rfl, rfl, rfl, rfl, rfl, rfl, rfl, rfl, rfl, rfl, rfl, (by show some (V.int nx) = some (V.int (nx + 0)); rw [Int.add_zero]), rfl, rfl, rfl, rfl, trivial⟩ (Zt2 _) ?_
       rintro ⟨j, tk⟩ hj
       change j ≤ b.params.length at hj
       refine Zb (Zd (Zc (Zj1 rfl rfl rfl (Za (Zi (Zb ?_))))))
       refine Zn1 rfl (fun h89 => ?_) (fun h89 => ?_)
       ·
        obtain ⟨p, hp⟩ := get_of_lt b.params j h89
        have hpp := hpv p (List.mem_of_getElem? hp)
        have hadd := adds_snoc (W := W) (nx := nx) hp
        have hale := adds_le W (b.params.take j) nx
        rw [List.length_take] at hale
        refine Zi1 (Zi (Zb (Zs (Zb (Zd ?_)))))
        refine Zc (Zz (el := V.int p) VT.sl26 rfl rfl (by omega) (get_int hp) (fun a90 => ?_))
        refine Zc (Zz1 VT.ty3 rfl rfl (Zc (Zk rfl (Za (Zi (Zb (Zd (Zc (Zl rfl (Zc (Zl rfl ?_)))))))))))
        refine Zc (Zu2 (Zr2 VT.sl37 rfl rfl (by omega) (by omega) ⟨rfl, rfl⟩) ((V.le.of_eq (congrArg (V.ptr gw) (by omega)) : V.le _ (.ptr gw p.toNat))) ?_)
        refine Zc (Zu 2 VT.ty4 rfl rfl (rowB_get hpp.1 (by omega)) ?_)
        refine Za (Zi ?_)
        refine Zr1 rfl (fun h95 => ?_) (fun h95 => ?_)
        ·
         have hAd := hadd
         rw [if_pos h95] at hAd
         refine Zb (Zd (Zc (Zl rfl (Zc (Zl rfl (Zc (Zl rfl (Zc (Zl rfl ?_)))))))))
         refine Zc (Zk3 [.tmp 98, .tmp 99] VT.sl26 rfl rfl rfl rfl rfl ?_)
         refine Zc (Zu2 (Zf2 [0, 1, 3] [.tmp 97, .const (.int .i64 (1)), .tmp 100] VT.st50 rfl rfl rfl rfl ⟨rfl, rfl⟩) ((by exact V.le.agg ⟨V.le.refl _, rfl, V.le.refl _, rfl, V.le.refl _, rfl, V.le.refl _, rfl, trivial⟩ : V.le _ (insV (addI (nx + ((addsP W nx (b.params.take j)).length : Nat)) p)))) ?_)
         refine Zc (Zk3 [.tmp 101] VT.sl43 rfl rfl rfl rfl rfl ?_)
         refine Zc (Zi3 0 _ VT.sl43 rfl rfl rfl (by rw [List.length_map]) (by rw [List.length_map, List.length_singleton]; omega) (fun t103 => ?_))
         refine Zc (Zk rfl (Za (Zi (Zd (Zc (Zl rfl ?_))))))
         refine Zc (Zh2 rfl rfl (by omega) ?_)
         refine Zc (Zk rfl (Za (Zb1 (Zi (Zd ?_)))))
         refine Zc (Zh2 rfl rfl (by omega) ?_)
         refine Zc (Zl rfl (Za (Zi ?_)))
         exact ⟨(j + 1, t103), (by (try simp only []); omega), (by omega), ⟨rfl, rfl, rfl, rfl, rfl, rfl, rfl, rfl, rfl, rfl, rfl, (by rw [hAd]; first | done | rfl | (rw [List.length_append, List.length_singleton]; exact congrArg (fun x => some (V.int x)) (by omega))), (by rw [hAd]; first | done | rfl | (rw [List.map_append]; rfl)), rfl, rfl, rfl, trivial⟩, (Drops.buf (by rw [hAd]; first | done | (rw [List.length_append, List.length_append, List.length_map]; rfl)) (Drops.keep (Drops.keep (Drops.keep (Drops.keep (Drops.keep (Zt2 _)))))))⟩
        ·
         have hAd := hadd
         rw [if_neg (by rw [h95]; decide), List.append_nil] at hAd
         refine Zi1 (Zb1 (Zi (Zd ?_)))
         refine Zc (Zh2 rfl rfl (by omega) ?_)
         refine Zc (Zl rfl (Za (Zi ?_)))
         exact ⟨(j + 1, tk), (by (try simp only []); omega), (by omega), ⟨rfl, rfl, rfl, rfl, rfl, rfl, rfl, rfl, rfl, rfl, rfl, (by rw [hAd]; first | done | rfl | (rw [List.length_append, List.length_singleton]; exact congrArg (fun x => some (V.int x)) (by omega))), (by rw [hAd]; first | done | rfl | (rw [List.map_append]; rfl)), rfl, rfl, rfl, trivial⟩, (Drops.buf (by rw [hAd]; first | done | (rw [List.length_append, List.length_append, List.length_map]; rfl)) (Drops.keep (Drops.keep (Drops.keep (Drops.keep (Drops.keep (Zt2 _)))))))⟩
       ·
        have hje : j = b.params.length := by omega
        subst hje
        have htk : b.params.take b.params.length = b.params := List.take_length
        have hale := adds_le W (b.params.take b.params.length) nx
        rw [List.length_take] at hale
        refine Zt (Ze1 (Ze1 (Zc1 (Zi (Zd (Zc (Zl rfl (Zc (Zl rfl (Zc (Zl rfl (Zc (Zv1 rfl (Zc (Zj VT.fa48_1 rfl ?_)))))))))))))))
        refine Zc (Zu 1 VT.ty43 rfl rfl ((flat_getj (j := 1) hX7 hXk (by decide)).trans rfl) ?_)
        refine Zc (Zi3 0 _ VT.sl43 rfl rfl rfl (by rw [List.length_map]) (by rw [List.length_map, List.length_map]; omega) (fun t113 => ?_))
        refine Zc (Zv1 rfl (Zc (Zj VT.fa48_1 rfl ?_)))
        refine Zc (Zy 1 VT.ty43 rfl rfl rfl rfl (Nat.ble_eq_true_of_le (by rw [hRl]; omega)) ?_)
        refine Za (Zb1 (Zi ?_))
        refine VW_cellAt 1 (k * 7 + 1) (v' := .sl 4 none ((addsP W nx b.params ++ b.ins).map insV)) rfl (List.getElem?_set_self (by rw [hRl]; omega)) (by rw [htk, List.map_append]; exact V.le.strip) rfl ?_
        refine VW_drops (S' := .cells og 48 ((mixV ((wdL W nf f.blocks).map blockV) (f.blocks.map blockV) (k + 1)).flatMap V.leaves ++ orest) :: .cells gw 4 (W.map V.bool) :: .cells g6 24 [.sl 2 none (cxL u.fns Os), .int u.main] :: .cells g3 28 (resultV (runF u 1000).1).leaves :: .cells g1 24 [funcsX u.fns, .int u.main] :: (tOwn T ++ bOwn (Os.drop (n + 1)))) ?_ ?_
        · rw [← hXn]; show Drops (_ :: .cells og 48 ((((X.flatMap V.leaves ++ orest).set (k * 7 + 1) _)).set (k * 7 + 1) (.sl 4 none ((addsP W nx b.params ++ b.ins).map insV))) :: _) _; rw [List.set_set, flat_setj (x' := blockV (wdB W nx b)) hX7 hXk (by decide) rfl]; exact .drop (.refl _)
        skip
        refine Zd ?_
        refine Zc (Zh2 rfl rfl (by omega) ?_)
        refine Zc (Zl rfl (Za (Zi ?_)))
        exact ⟨k + 1, (by (try simp only []); omega), (by omega), ⟨rfl, rfl, rfl, rfl, rfl, rfl, rfl, rfl, (by rw [hnk]; show some (V.int (nx + ((addsP W nx (b.params.take b.params.length)).length : Nat))) = _; rw [htk]), rfl, rfl, trivial⟩, (Drops.keep (Drops.keep (Drops.keep (Drops.keep (Drops.keep (Zt2 _))))))⟩
      ·
       have hke : k = f.blocks.length := by omega
       subst hke
       refine VW_drops (S' := .cells g6 24 [.sl 2 none (cxL u.fns Os), .int u.main] :: .cells g3 28 (resultV (runF u 1000).1).leaves :: .cells g1 24 [funcsX u.fns, .int u.main] :: (tOwn (T ++ [(f, W, (⟨og, ocap, f.blocks.map blockV, orest⟩ : XRow))]) ++ bOwn (Os.drop (n + 1)))) ?_ ?_
       · rw [mixV_end hBl (List.length_map _), town_snoc]; rw [show xOwn 48 (some (wdO (f, W, (⟨og, ocap, f.blocks.map blockV, orest⟩ : XRow)))) = [.cells og 48 (((wdL W nf f.blocks).map blockV).flatMap V.leaves ++ orest)] from by unfold wdO wdF; rw [hnf]; rfl]; exact drops_t (M := [_, _, _])
       refine Zt (Ze1 (Ze1 (Zc1 (Zb1 (Zi (Zd ?_))))))
       refine Zc (Zh2 rfl rfl (by omega) ?_)
       refine Zc (Zl rfl (Za (Zi ?_)))
       exact ⟨(n + 1, T ++ [(f, W, (⟨og, ocap, f.blocks.map blockV, orest⟩ : XRow))]), (by (try simp only []); omega), ⟨by omega, tok_snoc hT hf ho hWo hbr⟩, ⟨rfl, rfl, rfl, rfl, rfl, rfl, trivial⟩, (Drops.keep (Drops.keep (Drops.keep (Zt2 _))))⟩
   ·
    have hne : n = u.fns.length := by omega
    subst hne
    refine Zt (Ze1 (Ze1 (Zc1 (Zi ?_))))
    obtain ⟨t1, t2, t3, t4, t5, t6⟩ := tok_end hT hOl
    have hWu : WUnit u (T.map (·.2.1)) := ⟨t5, t6⟩
    have hfn : (wdU (T.map fun t : WT => t.2.1) u).fns = T.map (fun t => wdF t.1 t.2.1) := t1
    have hzl : (T.map wdO).length = (wdU (T.map fun t : WT => t.2.1) u).fns.length := by rw [hfn, List.length_map, List.length_map]
    refine VW_drops (S' := .cells g6 24 [.sl 2 none ([] ++ ((wdU (T.map fun t : WT => t.2.1) u).fns.zip (T.map wdO)).map fun x => cxV x.1 x.2), .int u.main] :: ((((wdU (T.map fun t : WT => t.2.1) u).fns.zip (T.map wdO)).flatMap fun x => xOwn 48 (some x.2)) ++ [.cells g3 28 (resultV (runF u 1000).1).leaves, .cells g1 24 [funcsX u.fns, .int u.main]])) ?_ ?_
    · show Drops (Own.cells g6 24 [.sl 2 none (cxL u.fns Os), .int u.main] :: Own.cells g3 28 (resultV (runF u 1000).1).leaves :: Own.cells g1 24 [funcsX u.fns, .int u.main] :: (tOwn T ++ bOwn (Os.drop u.fns.length))) _; rw [← zip_cx, zip_own hzl, hfn, show cxL (T.map fun t => wdF t.1 t.2.1) (T.map wdO) = cxL u.fns Os from t3, t4, ← hOl, List.drop_length]; exact .keep (Drops.trans (.of_perm (List.perm_append_comm (l₁ := [_, _]))) (drops_appendR _ (by show Drops (bOwn (T.map wdO) ++ []) _; rw [List.append_nil]; exact .refl _)))
    refine freeze_funs g6 (.int u.main) [.cells g3 28 (resultV (runF u 1000).1).leaves, .cells g1 24 [funcsX u.fns, .int u.main]] ((wdU (T.map fun t : WT => t.2.1) u).fns.zip (T.map wdO)) [] (zip_b (by rw [hfn]; exact t2)) ?_
    rw [zip_fun hzl]
    show VW Try.prog _ _ _ _ [.cells g6 24 [funcsX (wdU (T.map fun t : WT => t.2.1) u).fns, .int u.main], .cells g3 28 (resultV (runF u 1000).1).leaves, .cells g1 24 [funcsX u.fns, .int u.main]]
    refine Zb (Zb (Zd (Zc (Zv 0 VT.ty24 rfl rfl rfl ?_))))
    refine Zc (Zx1 [.tmp 118] rfl rfl VT.en10 (Check_c (wdU (T.map fun t : WT => t.2.1) u)) ?_)
    refine Zc (Zj1 rfl rfl rfl (Za (Zi ?_)))
    refine Zm1 rfl (fun h120 => ?_) (fun h120 => ?_)
    ·
     refine Zb (Zd (Zc (Zk rfl (Za (Zi (Zf1 ?_))))))
     refine Zd1 (Zg1 rfl (.tmp rfl) ?_)
     first | rfl | (rw [hreq]; exact congrArg V.bool (sameOut_iff.2 rfl))
    ·
     have hv : unitF (wdU (T.map fun t : WT => t.2.1) u) = 0 := by simpa using h120
     obtain ⟨hr1, hr2⟩ := wd_run hU hWu hv hx0
     refine Zi1 (Zi (Zb (Zd (Zc (Zv 0 VT.ty24 rfl rfl rfl ?_)))))
     refine Zc (Zx1 [.tmp 122, .const (.int .i64 (1000000))] rfl rfl VT.en11 (Run_c (wdU (T.map fun t : WT => t.2.1) u) 1000000) ?_)
     refine Zc (Zl rfl (Zc (Zg2 rfl rfl (Zc (Zg2 rfl rfl (Zc (Zg2 rfl rfl ?_)))))))
     refine Zc (Zb2 VT.zr28 _ rfl rfl (fun g17 => ?_))
     refine Zc (Zx 0 VT.ty28 rfl rfl rfl rfl rfl (Zc (Zk rfl (Zc (Zk rfl (Za (Zi (Zb (Zd (Zc (Zl rfl (Zc (Zj1 rfl rfl rfl (Zc (Zl rfl ?_)))))))))))))))
     refine Zj2 (q := 129) rfl (fun hq129 => ?_) (fun hq129 => ?_)
     ·
      refine Zk0 hq129 ?_
      refine Zk0 hq129 ?_
      refine Zk0 hq129 ?_
      refine Zh (.inr ⟨_, _, 132, rfl, rfl, rfl⟩) rfl ?_
      refine Zh (.inr ⟨_, _, 132, rfl, rfl, rfl⟩) rfl ?_
      refine Zh (.inr ⟨_, _, 132, rfl, rfl, rfl⟩) rfl ?_
      refine Zk0 hq129 ?_
      refine Zc (Zs1 rfl hq129 rfl ?_)
      refine Zc (Zk rfl (Za (Zi (Zf1 ?_))))
      refine Zg1 rfl (.tmp rfl) ?_
      first | rfl | (rw [hreq]; exact congrArg V.bool (sameOut_iff.2 rfl))
     ·
      have hx129 : ¬ (runF (wdU (T.map fun t : WT => t.2.1) u) 1000000).2.2 = 13 := by simpa using hq129
      have hv0 := hr2.resolve_right hx129
      have hreq := hr1 hv0
      refine Zc (Zl rfl ?_) (Zy0 hq129)
      refine Zc (Zj1 rfl rfl rfl ?_) (Zy0 hq129)
      refine Zc (Zl rfl ?_) (Zy0 hq129)
      refine Zj2 (q := 132) rfl (fun hq132 => ?_) (fun hq132 => ?_)
      ·
       refine Zc (Zv 2 VT.ty28 rfl rfl rfl ?_) (Zy1 hq132)
       refine Zc (Zv 0 VT.ty28 rfl rfl rfl ?_) (Zy1 hq132)
       refine Zc (Zx1 [.tmp 133, .tmp 134] rfl rfl VT.en12 (SameResult_c (runF u 1000).1 (runF (wdU (T.map fun t : WT => t.2.1) u) 1000000).1) ?_) (Zy1 hq132)
       refine Zc (Zs1 rfl hq132 rfl ?_) (Zy0 hq129)
       refine Zc (Zt1 rfl hq129 rfl ?_)
       refine Zc (Zk rfl (Za (Zi (Zf1 ?_))))
       refine Zg1 rfl (.tmp rfl) ?_
       first | rfl | (rw [hreq]; exact congrArg V.bool (sameOut_iff.2 rfl))
      · exact absurd hv0 (by simpa using hq132)
end Go.Proofs.Ytjekhhgjfelpgaa.X45
