import Derived.Test.YtmmmgamhffbkbaaVT
import Derived.Test.YtmmmgamhffbkbaaS2
import Derived.Test.YtmmmgamhffbkbaaVP
import Derived.Test.YtmmmgamhffbkbaaDZ
import Derived.Test.YtmmmgamhffbkbaaX1
import Derived.Test.YtmmmgamhffbkbaaX2
import Derived.Test.YtmmmgamhffbkbaaX3
import Derived.Test.YtmmmgamhffbkbaaX4
import Derived.Test.YtmmmgamhffbkbaaX5
import Derived.Test.YtmmmgamhffbkbaaX6
import Derived.Test.YtmmmgamhffbkbaaX7
import Derived.Test.YtmmmgamhffbkbaaX8
import Derived.Test.YtmmmgamhffbkbaaX9
import Derived.Test.YtmmmgamhffbkbaaX10
import Derived.Test.YtmmmgamhffbkbaaXW
import Derived.Test.YtmmmgamhffbkbaaX25
import Derived.Test.YtmmmgamhffbkbaaX26
import Derived.Test.YtmmmgamhffbkbaaX34
import Derived.Test.YtmmmgamhffbkbaaX42
set_option linter.unusedVariables false
set_option linter.unusedSimpArgs false
namespace Go.Proofs.Ytmmmgamhffbkbaa.X43
open Go.VL Go.SM Go.Proofs.Ytmmmgamhffbkbaa Go.Proofs.Ytmmmgamhffbkbaa.X1 Go.Proofs.Ytmmmgamhffbkbaa.X2 Go.Proofs.Ytmmmgamhffbkbaa.X3 Go.Proofs.Ytmmmgamhffbkbaa.X4 Go.Proofs.Ytmmmgamhffbkbaa.X5 Go.Proofs.Ytmmmgamhffbkbaa.X6 Go.Proofs.Ytmmmgamhffbkbaa.X7 Go.Proofs.Ytmmmgamhffbkbaa.X8 Go.Proofs.Ytmmmgamhffbkbaa.X9 Go.Proofs.Ytmmmgamhffbkbaa.X10 Go.Proofs.Ytmmmgamhffbkbaa.XW Go.Proofs.Ytmmmgamhffbkbaa.X25 Go.Proofs.Ytmmmgamhffbkbaa.X26 Go.Proofs.Ytmmmgamhffbkbaa.X34 Go.Proofs.Ytmmmgamhffbkbaa.X42
theorem flat_setj {sz : Nat} : ∀ {xs : List V} {k j : Nat} {x x' v : V} {rest : List V}, (∀ x ∈ xs, x.leaves.length = sz) → xs[k]? = some x → j < sz → x.leaves.set j v = x'.leaves → (xs.flatMap V.leaves ++ rest).set (k * sz + j) v = (xs.set k x').flatMap V.leaves ++ rest
  | [], k, j, x, x', v, rest, _, h, _, _ => by simp at h
  | a :: xs, 0, j, x, x', v, rest, hl, h, hj, he => by
    have h : a = x := by simpa using h
    subst h
    have ha := hl a (List.mem_cons_self ..)
    rw [Nat.zero_mul, Nat.zero_add, List.set_cons_zero, List.flatMap_cons, List.flatMap_cons, List.append_assoc, List.append_assoc, List.set_append_left _ _ (by omega), he]
  | a :: xs, k + 1, j, x, x', v, rest, hl, h, hj, he => by
    have h : xs[k]? = some x := by simpa using h
    have ha := hl a (List.mem_cons_self ..)
    have ih := flat_setj (rest := rest) (fun y hy => hl y (List.mem_cons_of_mem _ hy)) h hj he
    rw [List.set_cons_succ, List.flatMap_cons, List.flatMap_cons, List.append_assoc, List.append_assoc, List.set_append_right _ _ (by rw [Nat.succ_mul]; omega), ha, show (k + 1) * sz + j - sz = k * sz + j by rw [Nat.succ_mul]; omega, ih]
theorem flat_getj {sz : Nat} {xs : List V} {k j : Nat} {x : V} {rest : List V} (hl : ∀ x ∈ xs, x.leaves.length = sz) (h : xs[k]? = some x) (hj : j < sz) : (xs.flatMap V.leaves ++ rest)[k * sz + j]? = x.leaves[j]? := by
  have h1 := flat_drop (rest := rest) hl h
  rw [← h1, List.getElem?_take_of_lt hj, List.getElem?_drop]
theorem repL_setv {m : Mem} {v' : V} : ∀ {ls : List V} {us : List Value} {j : Nat} {v : V}, RepL m ls us → ls[j]? = some v → (∀ u, Rep m v u → Rep m v' u) → RepL m (ls.set j v') us
  | [], _, _, _, _, h, _ => by simp at h
  | x :: ls, us, 0, v, ⟨u, us', e, r, k⟩, h, hc => by
    have h : x = v := by simpa using h
    subst h
    exact ⟨u, us', e, hc u r, k⟩
  | x :: ls, us, j + 1, v, ⟨u, us', e, r, k⟩, h, hc => ⟨u, us', e, r, repL_setv k (by simpa using h) hc⟩
theorem mid_one {α : Type} {pre post : List α} {x x' : α} {p : Nat} {y y' : α} (h1 : (pre ++ x :: post)[p]? = some y) (h2 : (pre ++ x' :: post)[p]? = some y') : y = x ∧ y' = x' ∨ y = y' := by
  by_cases h : p < pre.length
  · rw [List.getElem?_append_left h] at h1 h2
    rw [h1] at h2
    injection h2 with h2
    exact .inr h2
  · rw [List.getElem?_append_right (by omega)] at h1 h2
    cases hp : p - pre.length with
    | zero =>
      rw [hp] at h1 h2
      injection h1 with h1
      injection h2 with h2
      exact .inl ⟨h1.symm, h2.symm⟩
    | succ q =>
      rw [hp] at h1 h2
      have h1 : post[q]? = some y := h1
      have h2 : post[q]? = some y' := h2
      rw [h1] at h2
      injection h2 with h2
      exact .inr h2
theorem zip_cx (fs : List SFunc) (Os : List XRow) : cxL fs Os = (fs.zip Os).map fun x => cxV x.1 x.2 := by
  unfold cxL
  rw [List.zip, List.map_zipWith]
theorem zip_b {fs : List SFunc} {Os : List XRow} (h : BRows fs Os) : ∀ x ∈ fs.zip Os, BRow x.1 x.2 := fun x hx => by
  obtain ⟨v, hv⟩ := List.getElem?_of_mem hx
  obtain ⟨f, o⟩ := x
  obtain ⟨h1, h2⟩ := List.getElem?_zip_eq_some.1 hv
  exact h.2 v f o h1 h2
theorem zip_own {fs : List SFunc} {Os : List XRow} (h : Os.length = fs.length) : ((fs.zip Os).flatMap fun x => xOwn 44 (some x.2)) = bOwn Os := by
  have h1 : (fs.zip Os).map (·.2) = Os := List.map_snd_zip (Nat.le_of_eq h)
  show _ = Os.flatMap _
  rw [← h1, List.flatMap_map]
  rw [h1]
theorem zip_fun {fs : List SFunc} {Os : List XRow} (h : Os.length = fs.length) : (fs.zip Os).map (fun x => funcV x.1) = fs.map funcV := by
  have h1 : (fs.zip Os).map (·.1) = fs := List.map_fst_zip (Nat.le_of_eq h.symm)
  rw [show fs.map funcV = ((fs.zip Os).map (·.1)).map funcV by rw [h1], List.map_map]
  rfl
theorem cx_conv {m : Mem} {f : SFunc} {o : XRow} (hc : ∀ u, Rep m (xLeaf (some o)) u → Rep m (blocksX f.blocks) u) : ∀ u, Rep m (cxV f o) u → Rep m (funcV f) u := fun u hu => by
  obtain ⟨_, cs, e, r⟩ := hu
  exact ⟨rfl, cs, e, repL_setv (j := 1) r rfl hc⟩
theorem freeze_funs {nt : Nat} {Q : Exit → Fr → Store → Prop} {F : Fr} {c : Code} (g : Nat) (mv : V) (R : Store) : ∀ (L : List (SFunc × XRow)) (pre : List V), (∀ x ∈ L, BRow x.1 x.2) → VW Try.prog nt c Q F (.cells g 24 [.sl 2 none (pre ++ L.map fun x => funcV x.1), mv] :: R) → VW Try.prog nt c Q F (.cells g 24 [.sl 2 none (pre ++ L.map fun x => cxV x.1 x.2), mv] :: ((L.flatMap fun x => xOwn 44 (some x.2)) ++ R))
  | [], pre, _, h => h
  | (f, o) :: L, pre, ho, h => by
    obtain ⟨hx, q2, q3, q4⟩ := ho _ (List.mem_cons_self ..)
    have h2 := freeze_funs g mv R L (pre ++ [funcV f]) (fun x hx => ho x (List.mem_cons_of_mem _ hx)) (by rw [List.append_assoc]; exact h)
    rw [List.append_assoc] at h2
    have h2 : VW Try.prog nt c Q F (.cells g 24 [.sl 2 none (pre ++ funcV f :: L.map fun x => cxV x.1 x.2), mv] :: ((L.flatMap fun x => xOwn 44 (some x.2)) ++ R)) := h2
    have hx : o.xs = f.blocks.map blockV := hx
    refine VW_freezeS 1 0 0 (sz := 7) (rest := o.rest) (ys' := pre ++ funcV f :: L.map fun x => cxV x.1 x.2) (f.blocks.map blockV) rfl rfl rfl (by rw [hx]) (by rw [hx]) q2 q3 (fits_bs _) (by simp) (fun m hm p y y' h3 h4 => ?_) h2
    rcases mid_one h3 h4 with ⟨rfl, rfl⟩ | rfl
    · refine cx_conv fun u hu => ?_
      have hu : u = .slice (some ⟨o.g, 0, none⟩) o.xs.length o.cap := hu
      rw [hu]
      exact hm
    · exact fun u hu => hu
theorem sg_tmod {d : Nat} {x : Int} (h : 0 ≤ x ∧ x ≤ 4095) : (x + d).tmod 4096 = sgF d x := by
  unfold sgF
  rw [if_pos h, Int.tmod_eq_emod_of_nonneg (by omega)]
def mixV (D T : List V) (k : Nat) : List V := D.take k ++ T.drop k
theorem mixV_get {D T : List V} {k : Nat} {t : V} (hl : D.length = T.length) (h : T[k]? = some t) : (mixV D T k)[k]? = some t := by
  have hk := (List.getElem?_eq_some_iff.1 h).1
  have e : k - min k D.length = 0 := by omega
  unfold mixV
  rw [List.getElem?_append_right (by rw [List.length_take]; omega), List.length_take, List.getElem?_drop, e]
  exact h
theorem mixV_set {D T : List V} {k : Nat} {x : V} (hl : D.length = T.length) (h : D[k]? = some x) : (mixV D T k).set k x = mixV D T (k + 1) := by
  have hk := (List.getElem?_eq_some_iff.1 h).1
  obtain ⟨t, ht⟩ := get_of_lt T k (by omega)
  have e : k - min k D.length = 0 := by omega
  unfold mixV
  rw [drop_cons ht, List.set_append_right _ _ (by rw [List.length_take]; omega), List.length_take, e, List.set_cons_zero, take_snoc h, List.append_assoc]
  rfl
theorem mixV_end {D T : List V} {n : Nat} (hl : D.length = T.length) (hn : T.length = n) : mixV D T n = D := by
  unfold mixV
  rw [List.drop_of_length_le (by omega), List.append_nil, List.take_of_length_le (by omega)]
theorem mixV_len {D T : List V} (k : Nat) (hl : D.length = T.length) : (mixV D T k).length = T.length := by
  unfold mixV
  rw [List.length_append, List.length_take, List.length_drop]
  omega
theorem mixV_all {D T : List V} {p : V → Prop} (k : Nat) (hD : ∀ x ∈ D, p x) (hT : ∀ x ∈ T, p x) : ∀ x ∈ mixV D T k, p x := fun x hx => by
  rcases List.mem_append.1 hx with h | h
  · exact hD x (List.mem_of_mem_take h)
  · exact hT x (List.mem_of_mem_drop h)
theorem set_7 {sz : Nat} {X : List V} {i : Nat} {w : List V} (h : ∀ x ∈ X, x.leaves.length = sz) (hw : w.length = sz) : ∀ x ∈ X.set i (.agg w), x.leaves.length = sz := fun x hx => by
  rcases List.mem_or_eq_of_mem_set hx with hx | rfl
  · exact h x hx
  · exact hw
theorem wget {sz : Nat} {X : List V} {i j : Nat} {w rest : List V} {v : V} (h : ∀ x ∈ X, x.leaves.length = sz) (hi : i < X.length) (hw : w.length = sz) (hj : w[j]? = some v) (hs : j < sz) : ((X.set i (.agg w)).flatMap V.leaves ++ rest)[i * sz + j]? = some v :=
  (flat_getj (set_7 h hw) (List.getElem?_set_self hi) hs).trans hj
theorem wset {sz : Nat} {X : List V} {i j : Nat} {w rest : List V} {v : V} (h : ∀ x ∈ X, x.leaves.length = sz) (hi : i < X.length) (hw : w.length = sz) (hs : j < sz) : ((X.set i (.agg w)).flatMap V.leaves ++ rest).set (i * sz + j) v = (X.set i (.agg (w.set j v))).flatMap V.leaves ++ rest := by
  rw [flat_setj (set_7 h hw) (List.getElem?_set_self hi) hs (x' := .agg (w.set j v)) rfl, List.set_set]
theorem wlen {sz : Nat} {X : List V} {i : Nat} {w rest : List V} (h : ∀ x ∈ X, x.leaves.length = sz) (hw : w.length = sz) : ((X.set i (.agg w)).flatMap V.leaves ++ rest).length = X.length * sz + rest.length := by
  rw [List.length_append, flat_len (set_7 h hw), List.length_set]
def mpX (ys : List V) (o : Option XRow) : Option XRow := o.map fun r => ⟨r.g, r.cap, ys, r.rest⟩
theorem mpX_self {ys : List V} {o : Option XRow} (h : xl o = ys) : mpX ys o = o := by
  cases o with
  | none => rfl
  | some r =>
    have h : r.xs = ys := h
    subst h
    rfl
theorem mpX_xl {ys : List V} {o : Option XRow} (h : (xl o).length = ys.length) : xl (mpX ys o) = ys := by
  cases o with
  | none =>
    have h : 0 = ys.length := h
    exact (List.length_eq_zero_iff.1 h.symm).symm
  | some r => rfl
theorem mpX_leaf {ys : List V} {o : Option XRow} (h : (xl o).length = ys.length) : xLeaf (mpX ys o) = xLeaf o := by
  cases o with
  | none => rfl
  | some r =>
    have h : r.xs.length = ys.length := h
    show V.raw (.slice _ ys.length _) = V.raw (.slice _ r.xs.length _)
    rw [h]
theorem mpX_ok {sz : Nat} {ys : List V} {o : Option XRow} (h : (xl o).length = ys.length) (h1 : ∀ x ∈ xl o, x.leaves.length = sz) (h2 : ∀ x ∈ ys, x.leaves.length = sz) (hk : xOk sz o) : xOk sz (mpX ys o) := by
  cases o with
  | none => trivial
  | some r =>
    obtain ⟨k1, k2, k3⟩ := hk
    have h : r.xs.length = ys.length := h
    refine ⟨by show ys.length ≤ r.cap; omega, k2, ?_⟩
    show (ys.flatMap V.leaves ++ r.rest).length = r.cap * sz
    have h1 : ∀ x ∈ r.xs, x.leaves.length = sz := h1
    rw [List.length_append, flat_len h1] at k3
    rw [List.length_append, flat_len h2, ← h]
    exact k3
theorem row_of {o : Option XRow} {k : Nat} (h : k < (xl o).length) : ∃ q, o = some q := by
  cases o with
  | none => exact absurd h (by simp [xl])
  | some q => exact ⟨q, rfl⟩
theorem row_is {l l' : List Int} {o : Option XRow} (h : RowIs l o) (hl : l'.length = l.length) : RowIs l' (mpX (l'.map V.int) o) := by
  have h1 : (xl o).length = (l'.map V.int).length := by rw [h.1, List.length_map, List.length_map, hl]
  exact ⟨mpX_xl h1, mpX_ok h1 (fun x hx => ints_1 l x (by rw [← h.1]; exact hx)) (ints_1 _) h.2⟩
theorem VCalls_perm {P : Program} {f : FuncId} {args : List V} {S S1 : Store} {R : V → Store → Prop} (hp : S.Perm S1) (h : VCalls P f args S1 R) : VCalls P f args S R :=
  fun m w us ha hw => (h m w us ha (hw.perm hp)).mono fun e w' ⟨r, S', m', u, k, he, hr, st⟩ => ⟨r, S', m', u, k, he, hr, st.permL hp⟩
theorem perm_f {M A W Z : Store} {r : Own} : (M ++ (A ++ ((r :: W) ++ Z))).Perm (r :: (M ++ (W ++ (A ++ Z)))) := by
  have h1 : (A ++ ((r :: W) ++ Z)).Perm (r :: (W ++ (A ++ Z))) := by
    have h := (List.perm_append_comm (l₁ := A) (l₂ := r :: W)).append_right Z
    simpa only [List.append_assoc, List.cons_append] using h
  exact (h1.append_left M).trans List.perm_middle
theorem perm_b {b11 rb r : Own} {M A B C D Y Z : Store} : (rb :: b11 :: (M ++ (((r :: (A ++ (B ++ (C ++ D)))) ++ Y) ++ Z))).Perm (r :: rb :: b11 :: (M ++ (A ++ (B ++ (C ++ (D ++ (Y ++ Z))))))) := by
  have h : ((rb :: b11 :: M) ++ (r :: (A ++ (B ++ (C ++ (D ++ (Y ++ Z))))))).Perm (r :: ((rb :: b11 :: M) ++ (A ++ (B ++ (C ++ (D ++ (Y ++ Z))))))) := List.perm_middle
  simpa only [List.append_assoc, List.cons_append] using h
theorem perm_i {M W R : Store} {ra qi : Own} : (M ++ ([qi] ++ ((ra :: W) ++ R))).Perm (ra :: qi :: (M ++ (W ++ R))) := by
  have h1 : ([qi] ++ ((ra :: W) ++ R)).Perm (ra :: qi :: (W ++ R)) := .swap _ _ _
  exact (h1.append_left M).trans ((List.perm_middle (l₁ := M)).trans (.cons _ List.perm_middle))
theorem perm_j {b3 qi rb b11 b8 b5 b2 : Own} {Y : Store} : (b3 :: qi :: rb :: b11 :: b8 :: b5 :: b2 :: Y).Perm (rb :: b11 :: b8 :: b5 :: b3 :: b2 :: (qi :: Y)) :=
  (List.perm_middle (a := b3) (l₁ := [qi, rb, b11, b8, b5]) (l₂ := b2 :: Y)).symm.trans (List.perm_middle (a := qi) (l₁ := [rb, b11, b8, b5, b3, b2]) (l₂ := Y)).symm
theorem drops_fin {rb b11 : Own} {M A Z : Store} : Drops (rb :: b11 :: (M ++ (A ++ Z))) (M ++ ((A ++ [rb]) ++ Z)) := by
  refine Drops.trans (T := rb :: (M ++ (A ++ Z))) (.keep (.drop (.refl _))) (.of_perm ?_)
  have h : (rb :: (M ++ (A ++ Z))).Perm ((M ++ A) ++ (rb :: Z)) := by
    have h1 := (List.perm_middle (a := rb) (l₁ := M ++ A) (l₂ := Z)).symm
    simpa only [List.append_assoc] using h1
  simpa only [List.append_assoc, List.singleton_append] using h
theorem rL_mp {ys : List V} {o : Option XRow} (h : (xl o).length = ys.length) : rL 1 (mpX ys o) = rL 1 o := by
  cases o with
  | none => rfl
  | some r =>
    have h : r.xs.length = ys.length := h
    show V.raw (.slice _ ys.length _) = V.raw (.slice _ r.xs.length _)
    rw [h]
theorem row_leaf {l l' : List Int} {o : Option XRow} (h : RowIs l o) (hl : l'.length = l.length) : rL 1 (mpX (l'.map V.int) o) = rL 1 o := rL_mp (by rw [h.1, List.length_map, List.length_map, hl])
theorem zip_get {α β γ : Type} {f : α → β → γ} {l : List α} {m : List β} {k : Nat} {x : α} {y : β} (h1 : l[k]? = some x) (h2 : m[k]? = some y) : (List.zipWith f l m)[k]? = some (f x y) := by
  rw [List.getElem?_zipWith, h1, h2]
theorem bown_fin (A : List XRow) (o : XRow) : bOwn (A ++ [o]) = bOwn A ++ xOwn 44 (some o) := by
  unfold bOwn
  rw [List.flatMap_append, List.flatMap_singleton]
def finO (d : Nat) (s : FB) : XRow := ⟨s.o.g, s.o.cap, ((sgN d s.f).blocks).map blockV, s.o.rest⟩
theorem fin_ok {d : Nat} {f : SFunc} {s : FB} (h : FOk f s) : BRow (sgN d f) (finO d s) ∧ cxV (sgN d f) (finO d s) = fbV s := by
  obtain ⟨h1, h2, h3, h4, h5, h6, h7⟩ := h
  have hl : ((sgN d s.f).blocks.map blockV).length = s.o.xs.length := by
    show ((s.f.blocks.map (sgB d)).map blockV).length = _
    rw [List.length_map, List.length_map, h4, List.length_map, h1, ← h2, List.length_map]
  subst h1
  refine ⟨⟨rfl, by show ((sgN d s.f).blocks.map blockV).length ≤ s.o.cap; rw [hl]; exact h5, h6, ?_⟩, ?_⟩
  · show (((sgN d s.f).blocks.map blockV).flatMap V.leaves ++ s.o.rest).length = s.o.cap * 7
    rw [List.length_append, flat_len (blocks_7 _), hl]
    rw [List.length_append, h4, flat_len (wbs_7 _), ← h4] at h7
    exact h7
  · show V.agg [.int s.f.name, .raw (.slice _ ((sgN d s.f).blocks.map blockV).length _)] = V.agg [.int s.f.name, .raw (.slice _ s.o.xs.length _)]
    rw [hl]
    rfl
theorem fin_rows {d : Nat} {fs : List SFunc} {Fs : List FB} (h : All2 FOk fs Fs) : BRows (fs.map (sgN d)) (Fs.map (finO d)) ∧ cxL (fs.map (sgN d)) (Fs.map (finO d)) = Fs.map fbV := by
  obtain ⟨h1, h2⟩ := h
  refine ⟨⟨by rw [List.length_map, List.length_map, h1], fun k f o hf ho => ?_⟩, List.ext_getElem? fun k => ?_⟩
  · rw [List.getElem?_map] at hf ho
    cases hx : fs[k]? with
    | none => rw [hx] at hf; cases hf
    | some x =>
      cases hy : Fs[k]? with
      | none => rw [hy] at ho; cases ho
      | some y =>
        rw [hx] at hf
        rw [hy] at ho
        injection hf with hf
        injection ho with ho
        subst hf ho
        exact (fin_ok (h2 k x y hx hy)).1
  · unfold cxL
    rw [List.getElem?_zipWith, List.getElem?_map, List.getElem?_map, List.getElem?_map]
    cases hx : fs[k]? with
    | none =>
      have : Fs[k]? = none := List.getElem?_eq_none (by have := List.getElem?_eq_none_iff.1 hx; omega)
      rw [this]
      rfl
    | some x =>
      obtain ⟨y, hy⟩ := get_of_lt Fs k (by have := (List.getElem?_eq_some_iff.1 hx).1; omega)
      rw [hy]
      exact congrArg some (fin_ok (h2 k x y hx hy)).2
theorem fits_ints (l : List Int) : ∀ x ∈ l.map V.int, x.fits 1 = true ∧ ((∃ ls, x = .agg ls) ∨ x.leaf = true) := fun x hx => by
  obtain ⟨n, _, rfl⟩ := List.mem_map.1 hx
  exact ⟨rfl, .inr rfl⟩
theorem drops_appendR {A B : Store} (C : Store) (h : Drops A B) : Drops (A ++ C) (B ++ C) := Drops.trans (.of_perm List.perm_append_comm) (Drops.trans (drops_append C h) (.of_perm List.perm_append_comm))
theorem fits_is (l : List SIns) : ∀ x ∈ l.map insV, x.fits 4 = true ∧ ((∃ ls, x = .agg ls) ∨ x.leaf = true) := fun x hx => by
  obtain ⟨n, _, rfl⟩ := List.mem_map.1 hx
  exact ⟨rfl, .inl ⟨_, rfl⟩⟩
theorem inss_4 (l : List SIns) : ∀ x ∈ l.map insV, x.leaves.length = 4 := fun x hx => by
  obtain ⟨b, _, rfl⟩ := List.mem_map.1 hx
  rfl
open Go.VL renaming VOps_nil → Za, VW_seq → Zb, VW_region → Zd, Needs_nil → Ze, Then_n → Zi, V_fieldAddr → Zj, V_assign → Zk, V_move → Zl, eqRes → Zm, vopT → Zn, goodS → Zo, VW_block → Zs, VW_exit → Zt, V_load → Zu, V_load_agg → Zv, V_store_agg → Zx, V_store → Zy, V_indexAddr → Zz, InBlock_n → Zb1, InBlock_hit → Zc1, Then_r → Zd1, Then_e → Ze1, VW_ret → Zf1, VRet_one → Zg1, VW_skip → Zi1, V_bin → Zj1, VW_condNe → Zm1, VW_condP → Zn1, VW_condF → Zq1, V_pickT → Zs1, V_pickF → Zt1, V_nilCheck → Zv1, V_callP → Zx1, V_load_ep_agg → Za2, V_alloc → Zb2, V_box → Zc2, V_lenN → Zd2, V_extract → Zg2, V_add → Zh2, VW_loopF → Zi2, VOps_split → Zj2, V_not → Zl2, goodU1 → Zn2, evs_cons → Zp2, evs_nil → Zq2, V_indexAddr_row → Zr2, Drops.refl → Zt2, VOp_as → Zu2, perm_erase → Zv2, anyRes → Za3, V_load_elem → Ze3, VRet_end → Zn3
set_option maxRecDepth 100000 in
set_option maxHeartbeats 4000000 in
theorem ShiftS_c {d : Nat} {w : Int} (hw : withinF w 4096 = (d : Int)) (hd : d < 4096) (g cap gb : Nat) (xs : List Int) (rest : List V) (hx : ∀ x ∈ xs, 0 ≤ x ∧ x ≤ 4095) (hc : xs.length ≤ cap) (hl : xs.length ≤ 10000) : VCalls Try.prog 9 [.raw (.slice (some ⟨g, 0, none⟩) xs.length cap), .ptr gb 0] [.cells g 3 (xs.map V.int ++ rest), .cells gb 3 [.int w]] fun r S' => S' = [.cells g 3 ((xs.map (sgF d)).map V.int ++ rest), .cells gb 3 [.int w]] := by
 refine VCalls_drops ?_
 have hml : ((xs.map (sgF d)).map V.int).length = (xs.map V.int).length := by rw [List.length_map, List.length_map, List.length_map]
 refine V_start (nt := 21) Try.func9 rfl rfl rfl ?_
 refine Zb (Zd (Zc (Zl rfl ?_)))
 refine Zc (V_len_raw Try.underlying26 rfl ?_)
 refine Zc (Zl rfl (Za (Zi (Zs ?_))))
 refine Zi2 (ι := Nat) (fun k => xs.length - k) (fun k => [(0, some (.raw (.slice (some ⟨g, 0, none⟩) xs.length cap))), (1, some (.ptr gb 0)), (5, some (.int xs.length)), (6, some (.int k))]) (fun k => [.cells g 3 ((mixV ((xs.map (sgF d)).map V.int) (xs.map V.int) k) ++ rest), .cells gb 3 [.int w]]) (fun k => k ≤ xs.length) 0 (Nat.zero_le _) ⟨rfl, rfl, rfl, rfl, trivial⟩ (Zt2 _) ?_
 rintro k hk
 change k ≤ xs.length at hk
 refine Zb (Zd (Zc (Zj1 rfl rfl rfl (Za (Zi (Zb ?_))))))
 refine Zn1 rfl (fun h7 => ?_) (fun h7 => ?_)
 ·
  obtain ⟨x, hxk⟩ := get_of_lt xs k h7
  have hxx := hx x (List.mem_of_getElem? hxk)
  have hxg : ((mixV ((xs.map (sgF d)).map V.int) (xs.map V.int) k) ++ rest)[k]? = some (.int x) := by rw [List.getElem?_append_left (by rw [mixV_len k hml, List.length_map]; omega)]; exact mixV_get hml (by rw [List.getElem?_map, hxk]; rfl)
  have hxl : k + 1 ≤ ((mixV ((xs.map (sgF d)).map V.int) (xs.map V.int) k) ++ rest).length := by rw [List.length_append, mixV_len k hml, List.length_map]; omega
  have hxs : ((mixV ((xs.map (sgF d)).map V.int) (xs.map V.int) k) ++ rest).set k (.int (sgF d x)) = ((mixV ((xs.map (sgF d)).map V.int) (xs.map V.int) (k + 1)) ++ rest) := by rw [List.set_append_left _ _ (by rw [mixV_len k hml, List.length_map]; omega), mixV_set hml (by rw [List.getElem?_map, List.getElem?_map, hxk]; rfl)]
  refine Zi1 (Zi (Zb (Zs (Zb (Zd (Zc (Zl rfl (Zc (Zk rfl (Za (Zi ?_)))))))))))
  refine VW_drawR (G := Unit) [([], [0], []), ([], [3], []), ([], [0], []), ([], [3], []), ([3, 2], [11, 12], []), ([4, 3, 2], [13], []), ([], [1], []), ([6], [15], []), ([7, 6, 5, 4, 3, 2], [14, 16], []), ([8, 7, 6, 5, 4, 3, 2], [17], []), (dn 10, [9, 10], []), (dn 11, [19, 18], [])] [11] (setSt _ 0 (fun _ => .cells g 3 (((mixV ((xs.map (sgF d)).map V.int) (xs.map V.int) k) ++ rest).set k (.int (sgF d x))))) [] [9, 10, 11, 12, 13, 14, 15, 16, 17, 18, 19] rfl VT.mix ?_
  refine Zp (Zm _) (Zo rfl rfl ⟨(fun γ => Zf (fun _ h0 => Ze (Zn rfl (Zl h0 ⟨rfl, rfl⟩)))), trivial⟩) ?_
  refine Zp (Zm _) (Zo rfl rfl ⟨(fun γ => Zf (fun _ h3 => Ze (Zn rfl (Zl h3 ⟨rfl, rfl⟩)))), trivial⟩) ?_
  refine Zp (Zm _) (Zo rfl rfl ⟨(fun γ => Zf (fun _ h0 => Ze (Zn rfl (Zl h0 ⟨rfl, rfl⟩)))), trivial⟩) ?_
  refine Zp (Zm _) (Zo rfl rfl ⟨(fun γ => Zf (fun _ h3 => Ze (Zn rfl (Zl h3 ⟨rfl, rfl⟩)))), trivial⟩) ?_
  refine Zp (Zm _) (Zo rfl rfl ⟨(fun γ => Zw 2 1 rfl (fun _ h11 => Zw 3 0 rfl (fun _ h12 => Ze (Zn rfl (Zu2 (Zr2 VT.sl26 h11 h12 (by omega) (by omega) ⟨rfl, rfl⟩) ((V.le.of_eq (congrArg (V.ptr g) (by omega)) : V.le _ (.ptr g k))) ⟨rfl, rfl⟩))))), trivial⟩) ?_
  refine Zp (Zm _) (Zo rfl rfl ⟨(fun γ => Zw 4 0 rfl (fun _ h13 => Ze (Zn rfl (Zu 0 VT.ty3 h13 rfl hxg ⟨rfl, rfl⟩)))), trivial⟩) ?_
  refine Zp (Zm _) (Zo rfl rfl ⟨(fun γ => Zf (fun _ h1 => Ze (Zn rfl (Zu 1 VT.ty3 h1 rfl rfl ⟨rfl, rfl⟩)))), trivial⟩) ?_
  refine Zp (Zm _) (Zo rfl rfl ⟨(fun γ => Zw 6 0 rfl (fun _ h15 => Ze (Zn rfl (Zu2 (Zx1 [.tmp 15, .const (.int .i64 (4096))] rfl (Zp2 h15 (Zp2 rfl Zq2)) VT.en10 (within_c w 4096 (by decide) (by decide)) ⟨rfl, rfl⟩) ((V.le.of_eq (congrArg V.int hw) : V.le _ (.int (d : Int)))) ⟨rfl, rfl⟩)))), trivial⟩) ?_
  refine Zp (Zm _) (Zo rfl rfl ⟨(fun γ => Zw 5 2 rfl (fun _ h14 => Zw 7 0 rfl (fun _ h16 => Ze (Zn rfl (Zh2 h14 h16 (by omega) ⟨rfl, rfl⟩))))), trivial⟩) ?_
  refine Zp (Zm _) (Zo rfl rfl ⟨(fun γ => Zw 8 0 rfl (fun _ h17 => Ze (Zn rfl (Zu2 (V_rem h17 rfl (by decide) ⟨rfl, rfl⟩) ((V.le.of_eq (congrArg V.int (sg_tmod hxx)) : V.le _ (.int (sgF d x)))) ⟨rfl, rfl⟩)))), trivial⟩) ?_
  refine Zp (Zm _) (Zo rfl rfl ⟨(fun γ => Zw 0 9 rfl (fun _ h9 => Zw 1 8 rfl (fun _ h10 => Ze (Zn rfl (Zu2 (Zr2 VT.sl26 h9 h10 (by omega) (by omega) ⟨rfl, rfl⟩) ((V.le.of_eq (congrArg (V.ptr g) (by omega)) : V.le _ (.ptr g k))) ⟨rfl, rfl⟩))))), trivial⟩) ?_
  refine Zp Za3 (Zn2 rfl (fun γ => Zw 10 0 rfl (fun _ h19 => Zw 9 1 rfl (fun _ h18 => Ze (Zn rfl (Zy 0 VT.ty3 h19 h18 rfl rfl (Nat.ble_eq_true_of_le hxl) ⟨default, trivial, rfl⟩)))))) ?_
  refine DrawP_nil (fun γ => Ze ?_)
  refine Zb1 (Zi ?_)
  refine VW_perm (S' := [.cells g 3 ((mixV ((xs.map (sgF d)).map V.int) (xs.map V.int) (k + 1)) ++ rest), .cells gb 3 [.int w]]) (by rw [← hxs]; exact .refl _) ?_
  refine Zd ?_
  refine Zc (Zh2 rfl rfl (by omega) ?_)
  refine Zc (Zl rfl (Za (Zi ?_)))
  exact ⟨k + 1, (by (try simp only []); omega), (by omega), ⟨rfl, rfl, rfl, rfl, trivial⟩, (Drops.keep (Drops.keep (Zt2 _)))⟩
 ·
  have hke : k = xs.length := by omega
  subst hke
  refine Zt (Ze1 (Ze1 (Zc1 ?_)))
  refine Zn3 rfl ?_
  refine ⟨_, Zt2 _, ?_⟩
  show [Own.cells g 3 (mixV ((xs.map (sgF d)).map V.int) (xs.map V.int) xs.length ++ rest), _] = _
  rw [mixV_end hml (List.length_map ..)]
set_option maxRecDepth 100000 in
set_option maxHeartbeats 4000000 in
theorem ShiftN_c (w : Int) (gb : Nat) : VCalls Try.prog 9 [.sl 1 none [], .ptr gb 0] [.cells gb 3 [.int w]] fun r S' => S' = [.cells gb 3 [.int w]] := by
 refine VCalls_drops ?_
 refine V_start (nt := 21) Try.func9 rfl rfl rfl ?_
 refine Zb (Zd (Zc (Zl rfl ?_)))
 refine Zc (Zd2 (n := 0) Try.underlying26 rfl (by simp) (fun hl5 => ?_))
 refine Zc (Zl rfl (Za (Zi (Zs ?_))))
 refine Zi2 (ι := Nat) (fun k => 0 - k) (fun k => [(0, some (.sl 1 none [])), (1, some (.ptr gb 0)), (5, some (.int (0 : Nat))), (6, some (.int k))]) (fun k => [.cells gb 3 [.int w]]) (fun k => k = 0) 0 rfl ⟨rfl, rfl, rfl, rfl, trivial⟩ (Drops.keep (Zt2 _)) ?_
 rintro k hk
 change k = 0 at hk
 refine Zb (Zd (Zc (Zj1 rfl rfl rfl (Za (Zi (Zb ?_))))))
 refine Zn1 rfl (fun h7 => ?_) (fun h7 => ?_)
 · exact absurd h7 (by omega)
 ·
  refine Zt (Ze1 (Ze1 (Zc1 ?_)))
  refine Zn3 rfl ?_
  exact ⟨_, Zt2 _, rfl⟩
theorem shift_c {d : Nat} {w : Int} (hw : withinF w 4096 = (d : Int)) (hd : d < 4096) (gb : Nat) {xs : List Int} {o : Option XRow} (h : RowIs xs o) (hx : ∀ x ∈ xs, 0 ≤ x ∧ x ≤ 4095) (hl : xs.length ≤ 10000) : VCalls Try.prog 9 [rL 1 o, .ptr gb 0] [rOwn 3 1 o, .cells gb 3 [.int w]] fun r S' => S' = [rOwn 3 1 (mpX ((xs.map (sgF d)).map V.int) o), .cells gb 3 [.int w]] := by
  cases o with
  | none =>
    have h1 := (ShiftN_c w gb).frame [.buf .nil 3 1 0]
    refine VCalls_drops (VCalls_perm (List.Perm.swap _ _ _) (h1.mono fun r S' ⟨S1, e1, e2⟩ => ⟨_, ?_, rfl⟩))
    rw [e2, e1]
    exact Drops.of_perm (.swap _ _ _)
  | some r =>
    obtain ⟨h1, h2, h3, h4⟩ := h
    obtain ⟨g, cap, ys, rest⟩ := r
    have h1 : ys = xs.map V.int := h1
    subst h1
    have h2 : (xs.map V.int).length ≤ cap := h2
    rw [List.length_map] at h2
    have hf : ∀ l : List Int, (l.map V.int).flatMap V.leaves = l.map V.int := fun l => by
      induction l with
      | nil => rfl
      | cons a l ih => rw [List.map_cons, List.flatMap_cons, ih]; rfl
    have h5 := ShiftS_c hw hd g cap gb xs rest hx h2 hl
    show VCalls Try.prog 9 [.raw (.slice (some ⟨g, 0, none⟩) (xs.map V.int).length cap), .ptr gb 0] [.cells g 3 ((xs.map V.int).flatMap V.leaves ++ rest), .cells gb 3 [.int w]] fun r S' => S' = [.cells g 3 (((xs.map (sgF d)).map V.int).flatMap V.leaves ++ rest), .cells gb 3 [.int w]]
    rw [List.length_map, hf, hf]
    exact h5
set_option maxRecDepth 100000 in
set_option maxHeartbeats 16000000 in
theorem ssaRenames_c (u : SUnit) (w : Int) : VPure Try.prog 3 [unitV u, .int w] (.bool true) := by
 refine V_start (nt := 164) Try.func3 rfl rfl rfl ?_
 refine Zb (Zd ?_)
 refine Zc (Zc2 rfl rfl (fun g2 => ?_))
 refine Zc (Zc2 rfl rfl (fun g3 => ?_))
 refine Zc (Zk rfl (Za (Zi (Zb (Zb (Zd ?_))))))
 refine Zc (Zx1 [] rfl rfl VT.en6 (works_c) ?_)
 refine Zc (Zl2 rfl (Za (Zi ?_)))
 refine Zq1 rfl (rfl) ?_
 refine Zi1 (Zi (Zb (Zd (Zc (Zv 1 VT.ty24 rfl rfl rfl ?_)))))
 refine Zc (Zx1 [.tmp 25, .const (.int .i64 (2000))] rfl rfl VT.en7 (Run_c u 2000) ?_)
 refine Zc (Zl rfl (Zc (Zg2 rfl rfl (Zc (Zg2 rfl rfl (Zc (Zg2 rfl rfl ?_)))))))
 refine Zc (Zb2 VT.zr28 _ rfl rfl (fun g5 => ?_))
 refine Zc (Zx 0 VT.ty28 rfl rfl rfl rfl rfl (Zc (Zk rfl (Zc (Zk rfl (Za (Zi (Zb (Zb (Zd (Zc (Zl rfl (Zc (Zj1 rfl rfl rfl (Za (Zi ?_))))))))))))))))
 refine Zm1 rfl (fun h31 => ?_) (fun h31 => ?_)
 ·
  refine Zb (Zd (Zc (Zk rfl (Za (Zi (Zf1 ?_))))))
  refine Zd1 (Zg1 rfl (.tmp rfl) ?_)
  first | rfl | exact congrArg V.bool (sameOut_iff.2 rfl)
 ·
  have hx0 : (runF u 2000).2.2 = 0 := h31
  have hU := run_unit hx0
  have hfs := nw_fns hU
  have hul : u.fns.length ≤ 256 := (unit_of hU).len
  have hcp : ∀ f ∈ u.fns, CpOk f ∧ 0 < f.blocks.length := fun f hf => ⟨cp_ok (hfs f hf), (func_ok (hfs f hf)).pos⟩
  obtain ⟨d, hw, hd⟩ : ∃ k : Nat, withinF w 4096 = k ∧ k < 4096 := within_ok (n := w) (m := 4096) (by decide)
  refine Zi1 (Zi (Zb (Zd (Zc (Zv 2 VT.ty24 rfl rfl rfl ?_)))))
  refine Zc (V_callB [.tmp 32] [_, _, _] _ rfl rfl VT.en8 (.refl _) (CopyUnitW_c hcp hul) ?_)
  rintro r0 Sa ⟨Fs, hFs, rfl, rfl⟩
  refine Zc (Zb2 VT.zr24 _ rfl rfl (fun g8 => ?_))
  refine Zc (Zx 0 VT.ty24 rfl rfl rfl rfl rfl (Za (Zi ?_)))
  have hFl := hFs.1
  refine Zb (Zd ?_)
  refine Zc (V_makeFunc [.tmp 3] rfl rfl ?_)
  refine Zc (Zk rfl (Za (Zi (Zb (Zb (Zd (Zc (Zj VT.fa24_0 rfl (Zc (Zu 0 VT.ty22 rfl rfl rfl ?_))))))))))
  refine Zc (Zd2 (n := Fs.length) Try.underlying22 rfl (by simp) (fun hl37 => ?_))
  refine Zc (Zl rfl (Za (Zi (Zs ?_))))
  refine Zi2 (ι := Nat) (fun n => Fs.length - n) (fun n => [(2, some (.ptr g2 0)), (3, some (.ptr g3 0)), (5, some (.ptr g5 0)), (6, some (.int (runF u 2000).2.1)), (8, some (.ptr g8 0)), (9, some (.clo (.func 9) [.ptr g3 0])), (36, some (.sl 2 none (Fs.map fbV))), (37, some (.int Fs.length)), (38, some (.int n))]) (fun n => .cells g8 24 [.sl 2 none (Fs.map fbV), .int u.main] :: .cells g5 28 (resultV (runF u 2000).1).leaves :: .cells g3 3 [.int w] :: .cells g2 24 [funcsX u.fns, .int u.main] :: (bOwn ((Fs.take n).map (finO d)) ++ fOwn (Fs.drop n))) (fun n => n ≤ Fs.length) 0 (Nat.zero_le _) ⟨rfl, rfl, rfl, rfl, rfl, rfl, rfl, rfl, rfl, trivial⟩ (Zt2 _) ?_
  rintro n hn
  change n ≤ Fs.length at hn
  refine Zb (Zd (Zc (Zj1 rfl rfl rfl (Za (Zi (Zb ?_))))))
  refine Zn1 rfl (fun h39 => ?_) (fun h39 => ?_)
  ·
   obtain ⟨s, hs⟩ := get_of_lt Fs n h39
   obtain ⟨f, hf⟩ := get_of_lt u.fns n (by omega)
   have hO := hFs.2 _ _ _ hf hs
   obtain ⟨f2, ⟨og, ocap, oxs, orest⟩, L⟩ := s
   obtain ⟨q1, q2, q3, q4, q5⟩ := hO
   have q1 : f = f2 := Eq.symm q1
   subst q1
   have q4 : oxs = L.map wbV := q4
   subst q4
   have q2 : L.map (·.b) = f.blocks := q2
   have q3 : ∀ x ∈ L, WOk x := q3
   have hLl : L.length = f.blocks.length := by rw [← q2]; exact (List.length_map _).symm
   have h0 := hfs f (List.mem_of_getElem? hf)
   have hok := func_ok h0
   have h128 := hok.len
   have hcb := (cp_ok h0).block
   have hr := range_ok hok (many := 4096) (by have := (fresh_ok hok).2.1; omega)
   have hB : ((f.blocks.map (sgB d)).map blockV).length = (L.map wbV).length := by rw [List.length_map, List.length_map, List.length_map, hLl]
   refine VW_perm (S' := .cells og 44 ((mixV ((f.blocks.map (sgB d)).map blockV) (L.map wbV) 0).flatMap V.leaves ++ orest) :: .cells g8 24 [.sl 2 none (Fs.map fbV), .int u.main] :: .cells g5 28 (resultV (runF u 2000).1).leaves :: .cells g3 3 [.int w] :: .cells g2 24 [funcsX u.fns, .int u.main] :: (wOwn L ++ (bOwn ((Fs.take n).map (finO d)) ++ fOwn (Fs.drop (n + 1))))) (by rw [show Fs.drop n = (⟨f, ⟨og, ocap, L.map wbV, orest⟩, L⟩ : FB) :: Fs.drop (n + 1) from drop_cons hs]; exact perm_f (M := [_, _, _, _])) ?_
   refine Zi1 (Zi (Zb (Zs (Zb (Zd ?_)))))
   refine Zc (Zz (el := fbV ⟨f, ⟨og, ocap, L.map wbV, orest⟩, L⟩) VT.sl22 rfl rfl (by omega) (get_mapS fbV hs) (fun a40 => ?_))
   refine Zc (Za2 VT.ty37 rfl rfl ?_)
   refine Zc (Zb2 VT.zr37 _ rfl rfl (fun g11 => ?_))
   refine Zc (Zx 0 VT.ty37 rfl rfl rfl rfl rfl (Za (Zi ?_)))
   refine VW_perm (S' := .cells og 44 ((mixV ((f.blocks.map (sgB d)).map blockV) (L.map wbV) 0).flatMap V.leaves ++ orest) :: .cells g11 37 [.int f.name, xLeaf (some ⟨og, ocap, L.map wbV, orest⟩)] :: .cells g8 24 [.sl 2 none (Fs.map fbV), .int u.main] :: .cells g5 28 (resultV (runF u 2000).1).leaves :: .cells g3 3 [.int w] :: .cells g2 24 [funcsX u.fns, .int u.main] :: (wOwn L ++ (bOwn ((Fs.take n).map (finO d)) ++ fOwn (Fs.drop (n + 1))))) (.swap _ _ _) ?_
   refine Zb (Zd (Zc (Zj VT.fa37_1 rfl ?_)))
   refine Zc (Zu2 (Zu 1 VT.ty35 rfl rfl rfl ⟨rfl, rfl⟩) ((V.le.of_eq (by show V.raw (.slice _ (L.map wbV).length _) = _; rw [List.length_map]) : V.le _ (.raw (.slice (some ⟨og, 0, none⟩) L.length ocap)))) ?_)
   refine Zc (V_len_raw Try.underlying35 rfl ?_)
   refine Zc (Zl rfl (Za (Zi (Zs ?_))))
   refine Zi2 (ι := Nat) (fun k => L.length - k) (fun k => [(2, some (.ptr g2 0)), (3, some (.ptr g3 0)), (5, some (.ptr g5 0)), (6, some (.int (runF u 2000).2.1)), (8, some (.ptr g8 0)), (9, some (.clo (.func 9) [.ptr g3 0])), (36, some (.sl 2 none (Fs.map fbV))), (37, some (.int Fs.length)), (38, some (.int n)), (11, some (.ptr g11 0)), (44, some (.int L.length)), (45, some (.int k))]) (fun k => .cells og 44 ((mixV ((f.blocks.map (sgB d)).map blockV) (L.map wbV) k).flatMap V.leaves ++ orest) :: .cells g11 37 [.int f.name, xLeaf (some ⟨og, ocap, L.map wbV, orest⟩)] :: .cells g8 24 [.sl 2 none (Fs.map fbV), .int u.main] :: .cells g5 28 (resultV (runF u 2000).1).leaves :: .cells g3 3 [.int w] :: .cells g2 24 [funcsX u.fns, .int u.main] :: (wOwn (L.drop k) ++ (bOwn ((Fs.take n).map (finO d)) ++ fOwn (Fs.drop (n + 1))))) (fun k => k ≤ L.length) 0 (Nat.zero_le _) ⟨rfl, rfl, rfl, rfl, rfl, rfl, rfl, rfl, rfl, rfl, rfl, rfl, trivial⟩ (Zt2 _) ?_
   rintro k hk
   change k ≤ L.length at hk
   refine Zb (Zd (Zc (Zj1 rfl rfl rfl (Za (Zi (Zb ?_))))))
   refine Zn1 rfl (fun h46 => ?_) (fun h46 => ?_)
   ·
    obtain ⟨x, hx⟩ := get_of_lt L k h46
    have hW := q3 x (List.mem_of_getElem? hx)
    have hxb : f.blocks[k]? = some x.b := by rw [← q2, List.getElem?_map, hx]; rfl
    obtain ⟨b, p, ar, I, er, o⟩ := x
    obtain ⟨w1, w2, w3, w4, w5, w6, w7⟩ := hW
    have w1 : RowIs b.params p := w1
    have w2 : InsRows b.ins ar := w2
    have w3 : xl I = (List.zipWith iwV b.ins ar) := w3
    have w4 : xOk 4 I := w4
    have w5 : EdgeRows b.term.to er := w5
    have w6 : xl o = (List.zipWith ewV b.term.to er) := w6
    have w7 : xOk 2 o := w7
    have hb : f.blocks[k]? = some b := hxb
    have hbm := List.mem_of_getElem? hb
    obtain ⟨c1, c2, c3, c4, c5, c6⟩ := hcb b hbm
    have hpv : ∀ v ∈ b.params, 0 ≤ v ∧ v ≤ 4095 := fun v hv => values_keys hok v (List.mem_flatMap.2 ⟨b, hbm, List.mem_append_left _ hv⟩)
    have hX7 : ∀ y ∈ mixV ((f.blocks.map (sgB d)).map blockV) (L.map wbV) k, y.leaves.length = 7 := mixV_all k (blocks_7 _) (wbs_7 _)
    have hXk : (mixV ((f.blocks.map (sgB d)).map blockV) (L.map wbV) k)[k]? = some (wbV ⟨b, p, ar, I, er, o⟩) := mixV_get hB (by rw [List.getElem?_map, hx]; rfl)
    have hXn : (mixV ((f.blocks.map (sgB d)).map blockV) (L.map wbV) k).set k (blockV (sgB d b)) = mixV ((f.blocks.map (sgB d)).map blockV) (L.map wbV) (k + 1) := mixV_set hB (by rw [List.getElem?_map, List.getElem?_map, hb]; rfl)
    generalize mixV ((f.blocks.map (sgB d)).map blockV) (L.map wbV) k = X at hX7 hXk hXn ⊢
    have hXl : k < X.length := (List.getElem?_eq_some_iff.1 hXk).1
    have hIl : (xl I).length = b.ins.length := by rw [w3, all2_len iwV w2]
    have hEl : (xl o).length = b.term.to.length := by rw [w6, all2_len ewV w5]
    have hDI : ((b.ins.map (sgI d)).map insV).length = (List.zipWith iwV b.ins ar).length := by rw [← w3, hIl, List.length_map, List.length_map]
    have hDE : ((b.term.to.map (sgE d)).map edgeV).length = (List.zipWith ewV b.term.to er).length := by rw [← w6, hEl, List.length_map, List.length_map]
    refine VW_perm (S' := rOwn 3 1 p :: .cells og 44 ((X.set k (.agg [rL 1 p, xLeaf I, .int b.term.kind, .int b.term.arg, .int b.term.n, intsX b.term.cases, xLeaf o])).flatMap V.leaves ++ orest) :: .cells g11 37 [.int f.name, xLeaf (some ⟨og, ocap, L.map wbV, orest⟩)] :: .cells g8 24 [.sl 2 none (Fs.map fbV), .int u.main] :: .cells g5 28 (resultV (runF u 2000).1).leaves :: .cells g3 3 [.int w] :: .cells g2 24 [funcsX u.fns, .int u.main] :: ((xOwn 46 I ++ (rOwns ar ++ (xOwn 48 o ++ (rOwns er ++ (wOwn (L.drop (k + 1)) ++ (bOwn ((Fs.take n).map (finO d)) ++ fOwn (Fs.drop (n + 1)))))))))) (by rw [show X.set k (.agg [rL 1 p, xLeaf I, .int b.term.kind, .int b.term.arg, .int b.term.n, intsX b.term.cases, xLeaf o]) = X from set_same hXk, show L.drop k = (⟨b, p, ar, I, er, o⟩ : WB) :: L.drop (k + 1) from drop_cons hx]; exact perm_b (M := [_, _, _, _])) ?_
    refine Zi1 (Zi (Zb (Zs (Zb (Zd (Zc (Zl rfl (Zc (Zk rfl (Za (Zi (Zb (Zd (Zc (Zj VT.fa37_1 rfl ?_)))))))))))))))
    refine Zc (Zu2 (Zu 2 VT.ty35 rfl rfl rfl ⟨rfl, rfl⟩) ((V.le.of_eq (by show V.raw (.slice _ (L.map wbV).length _) = _; rw [List.length_map]) : V.le _ (.raw (.slice (some ⟨og, 0, none⟩) L.length ocap)))) ?_)
    refine Zc (Zl rfl ?_)
    refine Zc (Zu2 (Zr2 VT.sl35 rfl rfl (by omega) (by omega) ⟨rfl, rfl⟩) ((V.le.of_eq (congrArg (V.ptr og) (by omega)) : V.le _ (.ptr og (k * 7)))) ?_)
    refine Zc (Zk rfl (Za (Zi (Zb (Zd (Zc (Zl rfl (Zc (Zl rfl (Zc (Zv1 rfl (Zc (Zj VT.fa44_0 rfl ?_)))))))))))))
    refine Zc (Zu 1 VT.ty26 rfl rfl (wget hX7 hXl rfl (j := 0) rfl (by decide)) ?_)
    refine Zc (V_callClo [.tmp 56] _ _ rfl rfl rfl VT.en9 ((Zv2 (i := 0) rfl).trans (.cons _ ((Zv2 (i := 4) rfl).trans (.cons _ (.refl _))))) (shift_c hw hd g3 w1 hpv c1) ?_)
    rintro _ _ rfl
    refine Za (Zi ?_)
    refine VW_freezeL 1 (k * 7 + 0) (R := .cells g3 3 [.int w] :: .cells og 44 ((X.set k (.agg [rL 1 p, xLeaf I, .int b.term.kind, .int b.term.arg, .int b.term.n, intsX b.term.cases, xLeaf o])).flatMap V.leaves ++ orest) :: .cells g11 37 [.int f.name, xLeaf (some ⟨og, ocap, L.map wbV, orest⟩)] :: .cells g8 24 [.sl 2 none (Fs.map fbV), .int u.main] :: .cells g5 28 (resultV (runF u 2000).1).leaves :: .cells g2 24 [funcsX u.fns, .int u.main] :: ((xOwn 46 I ++ (rOwns ar ++ (xOwn 48 o ++ (rOwns er ++ (wOwn (L.drop (k + 1)) ++ (bOwn ((Fs.take n).map (finO d)) ++ fOwn (Fs.drop (n + 1)))))))))) (.refl _) rfl (by rw [row_leaf w1 (List.length_map _)]; exact (wget hX7 hXl rfl (j := 0) rfl (by decide))) (row_is w1 (List.length_map _)).2 (by rw [(row_is w1 (List.length_map _)).1]; exact fits_ints _) ?_
    refine VW_perm (S' := .cells og 44 ((X.set k (.agg [intsX (b.params.map (sgF d)), xLeaf I, .int b.term.kind, .int b.term.arg, .int b.term.n, intsX b.term.cases, xLeaf o])).flatMap V.leaves ++ orest) :: .cells g11 37 [.int f.name, xLeaf (some ⟨og, ocap, L.map wbV, orest⟩)] :: .cells g8 24 [.sl 2 none (Fs.map fbV), .int u.main] :: .cells g5 28 (resultV (runF u 2000).1).leaves :: .cells g3 3 [.int w] :: .cells g2 24 [funcsX u.fns, .int u.main] :: ((xOwn 46 I ++ (rOwns ar ++ (xOwn 48 o ++ (rOwns er ++ (wOwn (L.drop (k + 1)) ++ (bOwn ((Fs.take n).map (finO d)) ++ fOwn (Fs.drop (n + 1)))))))))) (by rw [(row_is w1 (List.length_map _)).1, wset hX7 hXl rfl (by decide)]; exact (List.perm_middle (l₁ := [_, _, _, _])).symm) ?_
    refine Zb (Zb (Zd (Zc (Zl rfl (Zc (Zv1 rfl (Zc (Zj VT.fa44_1 rfl ?_))))))))
    refine Zc (Zu2 (Zu 0 VT.ty39 rfl rfl (wget hX7 hXl rfl (j := 1) rfl (by decide)) ⟨rfl, rfl⟩) ((V.le.of_eq (xLeaf_raw I) : V.le _ (.raw (.slice (xA I) (xl I).length (xcap I))))) ?_)
    refine Zc (Zu2 (V_len_raw Try.underlying39 rfl ⟨rfl, rfl⟩) ((V.le.of_eq (congrArg (fun n : Nat => V.int n) hIl) : V.le _ (.int b.ins.length))) ?_)
    refine Zc (Zl rfl (Za (Zi ?_)))
    refine VW_perm (S' := .cells og 44 ((X.set k (.agg [intsX (b.params.map (sgF d)), xLeaf I, .int b.term.kind, .int b.term.arg, .int b.term.n, intsX b.term.cases, xLeaf o])).flatMap V.leaves ++ orest) :: .cells g11 37 [.int f.name, xLeaf (some ⟨og, ocap, L.map wbV, orest⟩)] :: .cells g8 24 [.sl 2 none (Fs.map fbV), .int u.main] :: .cells g5 28 (resultV (runF u 2000).1).leaves :: .cells g3 3 [.int w] :: .cells g2 24 [funcsX u.fns, .int u.main] :: ((xOwn 46 (mpX (mixV ((b.ins.map (sgI d)).map insV) (List.zipWith iwV b.ins ar) 0) I) ++ (rOwns (ar.drop 0) ++ (xOwn 48 o ++ (rOwns er ++ (wOwn (L.drop (k + 1)) ++ (bOwn ((Fs.take n).map (finO d)) ++ fOwn (Fs.drop (n + 1)))))))))) (by rw [show mpX (mixV ((b.ins.map (sgI d)).map insV) (List.zipWith iwV b.ins ar) 0) I = I from mpX_self w3]; exact .refl _) ?_
    refine Zs ?_
    refine Zi2 (ι := Nat) (fun i => b.ins.length - i) (fun i => [(2, some (.ptr g2 0)), (3, some (.ptr g3 0)), (5, some (.ptr g5 0)), (6, some (.int (runF u 2000).2.1)), (8, some (.ptr g8 0)), (9, some (.clo (.func 9) [.ptr g3 0])), (36, some (.sl 2 none (Fs.map fbV))), (37, some (.int Fs.length)), (38, some (.int n)), (11, some (.ptr g11 0)), (44, some (.int L.length)), (45, some (.int k)), (13, some (.ptr og (k * 7))), (62, some (.int b.ins.length)), (63, some (.int i))]) (fun i => .cells og 44 ((X.set k (.agg [intsX (b.params.map (sgF d)), xLeaf I, .int b.term.kind, .int b.term.arg, .int b.term.n, intsX b.term.cases, xLeaf o])).flatMap V.leaves ++ orest) :: .cells g11 37 [.int f.name, xLeaf (some ⟨og, ocap, L.map wbV, orest⟩)] :: .cells g8 24 [.sl 2 none (Fs.map fbV), .int u.main] :: .cells g5 28 (resultV (runF u 2000).1).leaves :: .cells g3 3 [.int w] :: .cells g2 24 [funcsX u.fns, .int u.main] :: (xOwn 46 (mpX (mixV ((b.ins.map (sgI d)).map insV) (List.zipWith iwV b.ins ar) i) I) ++ (rOwns (ar.drop i) ++ (xOwn 48 o ++ (rOwns er ++ (wOwn (L.drop (k + 1)) ++ (bOwn ((Fs.take n).map (finO d)) ++ fOwn (Fs.drop (n + 1))))))))) (fun i => i ≤ b.ins.length) 0 (Nat.zero_le _) ⟨rfl, rfl, rfl, rfl, rfl, rfl, rfl, rfl, rfl, rfl, rfl, rfl, rfl, rfl, rfl, trivial⟩ (Zt2 _) ?_
    rintro i hi
    change i ≤ b.ins.length at hi
    refine Zb (Zd (Zc (Zj1 rfl rfl rfl (Za (Zi (Zb ?_))))))
    refine Zn1 rfl (fun h64 => ?_) (fun h64 => ?_)
    ·
     obtain ⟨c, hc⟩ := get_of_lt b.ins i h64
     obtain ⟨a, ha⟩ := get_of_lt ar i (by have := w2.1; omega)
     have hIa : RowIs c.args a := w2.2 _ _ _ hc ha
     have hcm := List.mem_of_getElem? hc
     have hca := c5 c hcm
     have hcv : ∀ v ∈ c.args, 0 ≤ v ∧ v ≤ 4095 := fun v hv => by have := hr.args b hbm c hcm v hv; omega
     have hct : ∀ v ∈ [c.to], 0 ≤ v ∧ v ≤ 4095 := fun v hv => by rw [List.mem_singleton.1 hv]; have := hr.to b hbm c hcm; omega
     obtain ⟨q, hq⟩ := row_of (o := I) (k := i) (by omega)
     have hql : q.xs.length = b.ins.length := by rw [hq] at hIl; exact hIl
     have hY4 : ∀ y ∈ mixV ((b.ins.map (sgI d)).map insV) (List.zipWith iwV b.ins ar) i, y.leaves.length = 4 := mixV_all i (inss_4 _) (zip_len iw_4 _ _)
     have hYi : (mixV ((b.ins.map (sgI d)).map insV) (List.zipWith iwV b.ins ar) i)[i]? = some (iwV c a) := mixV_get hDI (zip_get hc ha)
     have hYn : (mixV ((b.ins.map (sgI d)).map insV) (List.zipWith iwV b.ins ar) i).set i (insV (sgI d c)) = mixV ((b.ins.map (sgI d)).map insV) (List.zipWith iwV b.ins ar) (i + 1) := mixV_set hDI (by rw [List.getElem?_map, List.getElem?_map, hc]; rfl)
     generalize mixV ((b.ins.map (sgI d)).map insV) (List.zipWith iwV b.ins ar) i = Y at hY4 hYi hYn ⊢
     have hYl : i < Y.length := (List.getElem?_eq_some_iff.1 hYi).1
     refine VW_perm (S' := rOwn 3 1 a :: .cells q.g 46 ((Y.set i (.agg [.int c.to, .int c.op, .int c.n, rL 1 a])).flatMap V.leaves ++ q.rest) :: .cells og 44 ((X.set k (.agg [intsX (b.params.map (sgF d)), xLeaf I, .int b.term.kind, .int b.term.arg, .int b.term.n, intsX b.term.cases, xLeaf o])).flatMap V.leaves ++ orest) :: .cells g11 37 [.int f.name, xLeaf (some ⟨og, ocap, L.map wbV, orest⟩)] :: .cells g8 24 [.sl 2 none (Fs.map fbV), .int u.main] :: .cells g5 28 (resultV (runF u 2000).1).leaves :: .cells g3 3 [.int w] :: .cells g2 24 [funcsX u.fns, .int u.main] :: ((rOwns (ar.drop (i + 1)) ++ (xOwn 48 o ++ (rOwns er ++ (wOwn (L.drop (k + 1)) ++ (bOwn ((Fs.take n).map (finO d)) ++ fOwn (Fs.drop (n + 1))))))))) (by rw [show Y.set i (.agg [.int c.to, .int c.op, .int c.n, rL 1 a]) = Y from set_same hYi, show ar.drop i = a :: ar.drop (i + 1) from drop_cons ha, hq]; exact perm_i (M := [_, _, _, _, _, _])) ?_
     refine Zi1 (Zi (Zb (Zs (Zb (Zd (Zc (Zl rfl (Zc (Zk rfl (Za (Zi (Zb (Zd (Zc (Zl rfl (Zc (Zv1 rfl (Zc (Zj VT.fa44_1 rfl ?_)))))))))))))))))))
     refine Zc (Zu2 (Zu 2 VT.ty39 rfl rfl (wget hX7 hXl rfl (j := 1) rfl (by decide)) ⟨rfl, rfl⟩) ((V.le.of_eq (by rw [hq]; rfl) : V.le _ (.raw (.slice (some ⟨q.g, 0, none⟩) q.xs.length q.cap)))) ?_)
     refine Zc (Zl rfl ?_)
     refine Zc (Zu2 (Zr2 VT.sl39 rfl rfl (by omega) (by omega) ⟨rfl, rfl⟩) ((V.le.of_eq (congrArg (V.ptr q.g) (by omega)) : V.le _ (.ptr q.g (i * 4)))) ?_)
     refine Zc (Zj VT.fa46_0 rfl ?_)
     refine Zc (Zu 1 VT.ty3 rfl rfl (wget hY4 hYl rfl (j := 0) rfl (by decide)) ?_)
     refine Zc (V_litRow [.tmp 73] VT.sl26 rfl rfl rfl rfl rfl (fun g74 => ?_))
     refine Zc (Zk rfl (Za (Zi (Zb (Zd (Zc (Zl rfl (Zc (Zl rfl ?_)))))))))
     refine Zc (V_callClo [.tmp 76] _ _ rfl rfl rfl VT.en9 ((Zv2 (i := 0) rfl).trans (.cons _ ((Zv2 (i := 6) rfl).trans (.cons _ (.refl _))))) (ShiftS_c hw hd g74 1 g3 [c.to] [] hct (Nat.le_refl _) (by show 1 ≤ 10000; decide)) ?_)
     rintro _ _ rfl
     refine Za (Zi (Zb ?_))
     refine VW_drawR (G := Unit) [([], [13], []), ([0], [78], []), ([1, 0], [79], []), ([2, 1, 0], [80], []), ([], [14], []), ([], [15], []), ([5], [83], []), ([6, 5], [84], []), (dn 8, [81, 82], []), (dn 9, [86], []), (dn 10, [87, 85], [])] [10] (setSt _ 3 (fun _ => .cells q.g 46 (((Y.set i (.agg [.int c.to, .int c.op, .int c.n, rL 1 a])).flatMap V.leaves ++ q.rest).set (i * 4 + 0) (.int (sgF d c.to))))) [] [78, 79, 80, 81, 82, 83, 84, 85, 86, 87] rfl VT.mix ?_
     refine Zp (Zm _) (Zo rfl rfl ⟨(fun γ => Zf (fun _ h13 => Ze (Zn rfl (Zl h13 ⟨rfl, rfl⟩)))), trivial⟩) ?_
     refine Zp (Zm _) (Zo rfl rfl ⟨(fun γ => Zw 0 0 rfl (fun _ h78 => Ze (Zn rfl (Zv1 h78 ⟨rfl, rfl⟩)))), trivial⟩) ?_
     refine Zp (Zm _) (Zo rfl rfl ⟨(fun γ => Zw 1 0 rfl (fun _ h79 => Ze (Zn rfl (Zj VT.fa44_1 h79 ⟨rfl, rfl⟩)))), trivial⟩) ?_
     refine Zp (Zm _) (Zo rfl rfl ⟨(fun γ => Zw 2 0 rfl (fun _ h80 => Ze (Zn rfl (Zu2 (Zu 4 VT.ty39 h80 rfl (wget hX7 hXl rfl (j := 1) rfl (by decide)) ⟨rfl, rfl⟩) ((V.le.of_eq (by rw [hq]; rfl) : V.le _ (.raw (.slice (some ⟨q.g, 0, none⟩) q.xs.length q.cap)))) ⟨rfl, rfl⟩)))), trivial⟩) ?_
     refine Zp (Zm _) (Zo rfl rfl ⟨(fun γ => Zf (fun _ h14 => Ze (Zn rfl (Zl h14 ⟨rfl, rfl⟩)))), trivial⟩) ?_
     refine Zp (Zm _) (Zo rfl rfl ⟨(fun γ => Zf (fun _ h15 => Ze (Zn rfl (Zl h15 ⟨rfl, rfl⟩)))), trivial⟩) ?_
     refine Zp (Zm _) (Zo rfl rfl ⟨(fun γ => Zw 5 0 rfl (fun _ h83 => Ze (Zn rfl (Zr2 VT.sl26 h83 rfl (by decide) (by decide) ⟨rfl, rfl⟩)))), trivial⟩) ?_
     refine Zp (Zm _) (Zo rfl rfl ⟨(fun γ => Zw 6 0 rfl (fun _ h84 => Ze (Zn rfl (Zu 0 VT.ty3 h84 rfl rfl ⟨rfl, rfl⟩)))), trivial⟩) ?_
     refine Zp (Zm _) (Zo rfl rfl ⟨(fun γ => Zw 3 4 rfl (fun _ h81 => Zw 4 3 rfl (fun _ h82 => Ze (Zn rfl (Zu2 (Zr2 VT.sl39 h81 h82 (by omega) (by omega) ⟨rfl, rfl⟩) ((V.le.of_eq (congrArg (V.ptr q.g) (by omega)) : V.le _ (.ptr q.g (i * 4)))) ⟨rfl, rfl⟩))))), trivial⟩) ?_
     refine Zp (Zm _) (Zo rfl rfl ⟨(fun γ => Zw 8 0 rfl (fun _ h86 => Ze (Zn rfl (Zj VT.fa46_0 h86 ⟨rfl, rfl⟩)))), trivial⟩) ?_
     refine Zp Za3 (Zn2 rfl (fun γ => Zw 9 0 rfl (fun _ h87 => Zw 7 2 rfl (fun _ h85 => Ze (Zn rfl (Zy 3 VT.ty3 h87 h85 rfl rfl (Nat.ble_eq_true_of_le (by rw [wlen hY4 rfl]; omega)) ⟨default, trivial, rfl⟩)))))) ?_
     refine DrawP_nil (fun γ => Ze ?_)
     refine Zi ?_
     refine VW_drops (S' := rOwn 3 1 a :: .cells q.g 46 ((Y.set i (.agg [.int (sgF d c.to), .int c.op, .int c.n, rL 1 a])).flatMap V.leaves ++ q.rest) :: .cells og 44 ((X.set k (.agg [intsX (b.params.map (sgF d)), xLeaf I, .int b.term.kind, .int b.term.arg, .int b.term.n, intsX b.term.cases, xLeaf o])).flatMap V.leaves ++ orest) :: .cells g11 37 [.int f.name, xLeaf (some ⟨og, ocap, L.map wbV, orest⟩)] :: .cells g8 24 [.sl 2 none (Fs.map fbV), .int u.main] :: .cells g5 28 (resultV (runF u 2000).1).leaves :: .cells g3 3 [.int w] :: .cells g2 24 [funcsX u.fns, .int u.main] :: ((rOwns (ar.drop (i + 1)) ++ (xOwn 48 o ++ (rOwns er ++ (wOwn (L.drop (k + 1)) ++ (bOwn ((Fs.take n).map (finO d)) ++ fOwn (Fs.drop (n + 1))))))))) ?_ ?_
     · show Drops (Own.cells g74 3 [.int (sgF d c.to)] :: Own.cells g3 3 [.int w] :: (rOwn 3 1 a : Own) :: Own.cells q.g 46 (((Y.set i (.agg [.int c.to, .int c.op, .int c.n, rL 1 a])).flatMap V.leaves ++ q.rest).set (i * 4 + 0) (.int (sgF d c.to))) :: Own.cells og 44 ((X.set k (.agg [intsX (b.params.map (sgF d)), xLeaf I, .int b.term.kind, .int b.term.arg, .int b.term.n, intsX b.term.cases, xLeaf o])).flatMap V.leaves ++ orest) :: Own.cells g11 37 [.int f.name, xLeaf (some ⟨og, ocap, L.map wbV, orest⟩)] :: Own.cells g8 24 [.sl 2 none (Fs.map fbV), .int u.main] :: Own.cells g5 28 (resultV (runF u 2000).1).leaves :: Own.cells g2 24 [funcsX u.fns, .int u.main] :: ((rOwns (ar.drop (i + 1)) ++ (xOwn 48 o ++ (rOwns er ++ (wOwn (L.drop (k + 1)) ++ (bOwn ((Fs.take n).map (finO d)) ++ fOwn (Fs.drop (n + 1))))))))) _; rw [wset hY4 hYl rfl (by decide)]; exact .drop (.of_perm (List.perm_middle (l₁ := [_, _, _, _, _, _])).symm)
     refine Zd (Zc (Zl rfl (Zc (Zl rfl (Zc (Zv1 rfl (Zc (Zj VT.fa44_1 rfl ?_))))))))
     refine Zc (Zu2 (Zu 2 VT.ty39 rfl rfl (wget hX7 hXl rfl (j := 1) rfl (by decide)) ⟨rfl, rfl⟩) ((V.le.of_eq (by rw [hq]; rfl) : V.le _ (.raw (.slice (some ⟨q.g, 0, none⟩) q.xs.length q.cap)))) ?_)
     refine Zc (Zl rfl ?_)
     refine Zc (Zu2 (Zr2 VT.sl39 rfl rfl (by omega) (by omega) ⟨rfl, rfl⟩) ((V.le.of_eq (congrArg (V.ptr q.g) (by omega)) : V.le _ (.ptr q.g (i * 4)))) ?_)
     refine Zc (Zj VT.fa46_3 rfl ?_)
     refine Zc (Zu 1 VT.ty26 rfl rfl (wget hY4 hYl rfl (j := 3) rfl (by decide)) ?_)
     refine Zc (V_callClo [.tmp 96] _ _ rfl rfl rfl VT.en9 ((Zv2 (i := 0) rfl).trans (.cons _ ((Zv2 (i := 5) rfl).trans (.cons _ (.refl _))))) (shift_c hw hd g3 hIa hcv hca) ?_)
     rintro _ _ rfl
     refine Za (Zb1 (Zi ?_))
     refine VW_freezeL 1 (i * 4 + 3) (R := .cells g3 3 [.int w] :: .cells q.g 46 ((Y.set i (.agg [.int (sgF d c.to), .int c.op, .int c.n, rL 1 a])).flatMap V.leaves ++ q.rest) :: .cells og 44 ((X.set k (.agg [intsX (b.params.map (sgF d)), xLeaf I, .int b.term.kind, .int b.term.arg, .int b.term.n, intsX b.term.cases, xLeaf o])).flatMap V.leaves ++ orest) :: .cells g11 37 [.int f.name, xLeaf (some ⟨og, ocap, L.map wbV, orest⟩)] :: .cells g8 24 [.sl 2 none (Fs.map fbV), .int u.main] :: .cells g5 28 (resultV (runF u 2000).1).leaves :: .cells g2 24 [funcsX u.fns, .int u.main] :: ((rOwns (ar.drop (i + 1)) ++ (xOwn 48 o ++ (rOwns er ++ (wOwn (L.drop (k + 1)) ++ (bOwn ((Fs.take n).map (finO d)) ++ fOwn (Fs.drop (n + 1))))))))) (.refl _) rfl (by rw [row_leaf hIa (List.length_map _)]; exact (wget hY4 hYl rfl (j := 3) rfl (by decide))) (row_is hIa (List.length_map _)).2 (by rw [(row_is hIa (List.length_map _)).1]; exact fits_ints _) ?_
     refine VW_perm (S' := .cells og 44 ((X.set k (.agg [intsX (b.params.map (sgF d)), xLeaf I, .int b.term.kind, .int b.term.arg, .int b.term.n, intsX b.term.cases, xLeaf o])).flatMap V.leaves ++ orest) :: .cells g11 37 [.int f.name, xLeaf (some ⟨og, ocap, L.map wbV, orest⟩)] :: .cells g8 24 [.sl 2 none (Fs.map fbV), .int u.main] :: .cells g5 28 (resultV (runF u 2000).1).leaves :: .cells g3 3 [.int w] :: .cells g2 24 [funcsX u.fns, .int u.main] :: ((xOwn 46 (mpX (mixV ((b.ins.map (sgI d)).map insV) (List.zipWith iwV b.ins ar) (i + 1)) I) ++ (rOwns (ar.drop (i + 1)) ++ (xOwn 48 o ++ (rOwns er ++ (wOwn (L.drop (k + 1)) ++ (bOwn ((Fs.take n).map (finO d)) ++ fOwn (Fs.drop (n + 1)))))))))) (by rw [(row_is hIa (List.length_map _)).1, wset hY4 hYl rfl (by decide), ← hYn, hq]; exact perm_j) ?_
     refine Zd ?_
     refine Zc (Zh2 rfl rfl (by omega) ?_)
     refine Zc (Zl rfl (Za (Zi ?_)))
     exact ⟨i + 1, (by (try simp only []); omega), (by omega), ⟨rfl, rfl, rfl, rfl, rfl, rfl, rfl, rfl, rfl, rfl, rfl, rfl, rfl, rfl, rfl, trivial⟩, (Drops.keep (Drops.keep (Drops.keep (Drops.keep (Drops.keep (Drops.keep (Zt2 _)))))))⟩
    ·
     have hie : i = b.ins.length := by omega
     subst hie
     have hm1 : mixV ((b.ins.map (sgI d)).map insV) (List.zipWith iwV b.ins ar) b.ins.length = ((b.ins.map (sgI d)).map insV) := mixV_end hDI (by rw [← w3, hIl])
     have hmI : (xl I).length = ((b.ins.map (sgI d)).map insV).length := by rw [hIl, List.length_map, List.length_map]
     refine VW_freezeX 0 (k * 7 + 1) (o := mpX ((b.ins.map (sgI d)).map insV) I) (R := .cells og 44 ((X.set k (.agg [intsX (b.params.map (sgF d)), xLeaf I, .int b.term.kind, .int b.term.arg, .int b.term.n, intsX b.term.cases, xLeaf o])).flatMap V.leaves ++ orest) :: .cells g11 37 [.int f.name, xLeaf (some ⟨og, ocap, L.map wbV, orest⟩)] :: .cells g8 24 [.sl 2 none (Fs.map fbV), .int u.main] :: .cells g5 28 (resultV (runF u 2000).1).leaves :: .cells g3 3 [.int w] :: .cells g2 24 [funcsX u.fns, .int u.main] :: ((rOwns (ar.drop b.ins.length) ++ (xOwn 48 o ++ (rOwns er ++ (wOwn (L.drop (k + 1)) ++ (bOwn ((Fs.take n).map (finO d)) ++ fOwn (Fs.drop (n + 1))))))))) (by rw [hm1]; exact pullC [_, _, _, _, _, _]) rfl (by rw [mpX_leaf hmI]; exact (wget hX7 hXl rfl (j := 1) rfl (by decide))) (mpX_ok hmI (fun x hx => zip_len iw_4 _ _ x (by rw [← w3]; exact hx)) (inss_4 _) w4) (by rw [mpX_xl hmI]; exact fits_is _) ?_
     refine VW_drops (S' := .cells og 44 ((X.set k (.agg [intsX (b.params.map (sgF d)), inssX (b.ins.map (sgI d)), .int b.term.kind, .int b.term.arg, .int b.term.n, intsX b.term.cases, xLeaf o])).flatMap V.leaves ++ orest) :: .cells g11 37 [.int f.name, xLeaf (some ⟨og, ocap, L.map wbV, orest⟩)] :: .cells g8 24 [.sl 2 none (Fs.map fbV), .int u.main] :: .cells g5 28 (resultV (runF u 2000).1).leaves :: .cells g3 3 [.int w] :: .cells g2 24 [funcsX u.fns, .int u.main] :: ((xOwn 48 o ++ (rOwns er ++ (wOwn (L.drop (k + 1)) ++ (bOwn ((Fs.take n).map (finO d)) ++ fOwn (Fs.drop (n + 1)))))))) (by rw [mpX_xl hmI, wset hX7 hXl rfl (by decide)]; exact drops_append [_, _, _, _, _, _] (drops_skip _ (.refl _))) ?_
     refine Zt (Ze1 (Ze1 (Zc1 (Zi ?_))))
     refine VW_cutF [(2, some (.ptr g2 0)), (3, some (.ptr g3 0)), (5, some (.ptr g5 0)), (6, some (.int (runF u 2000).2.1)), (8, some (.ptr g8 0)), (9, some (.clo (.func 9) [.ptr g3 0])), (36, some (.sl 2 none (Fs.map fbV))), (37, some (.int Fs.length)), (38, some (.int n)), (11, some (.ptr g11 0)), (44, some (.int L.length)), (45, some (.int k)), (13, some (.ptr og (k * 7)))] (.cells og 44 ((X.set k (.agg [intsX (b.params.map (sgF d)), inssX (b.ins.map (sgI d)), .int b.term.kind, .int (sgA d b.term), .int b.term.n, intsX b.term.cases, xLeaf o])).flatMap V.leaves ++ orest) :: .cells g11 37 [.int f.name, xLeaf (some ⟨og, ocap, L.map wbV, orest⟩)] :: .cells g8 24 [.sl 2 none (Fs.map fbV), .int u.main] :: .cells g5 28 (resultV (runF u 2000).1).leaves :: .cells g3 3 [.int w] :: .cells g2 24 [funcsX u.fns, .int u.main] :: (xOwn 48 o ++ (rOwns er ++ (wOwn (L.drop (k + 1)) ++ (bOwn ((Fs.take n).map (finO d)) ++ fOwn (Fs.drop (n + 1))))))) ?_ ?_
     ·
      refine Zb (Zd (Zc (Zl rfl (Zc (Zv1 rfl (Zc (Zj VT.fa44_2 rfl (Zc (Zj VT.fa42_0 rfl ?_)))))))))
      refine Zc (Zu 0 VT.ty3 rfl rfl (wget hX7 hXl rfl (j := 2) rfl (by decide)) ?_)
      refine Zc (Zj1 rfl rfl rfl (Zc (Zl rfl ?_)))
      refine Zj2 (q := 105) rfl (fun hq105 => ?_) (fun hq105 => ?_)
      ·
       have hx105 : ¬ b.term.kind = 1 := by simpa using hq105
       refine Zc (Zl rfl ?_) (Zy1 hq105)
       refine Zc (Zv1 rfl ?_) (Zy1 hq105)
       refine Zc (Zj VT.fa44_2 rfl ?_) (Zy1 hq105)
       refine Zc (Zj VT.fa42_0 rfl ?_) (Zy1 hq105)
       refine Zc (Zu 0 VT.ty3 rfl rfl (wget hX7 hXl rfl (j := 2) rfl (by decide)) ?_) (Zy1 hq105)
       refine Zc (Zj1 rfl rfl rfl ?_) (Zy1 hq105)
       refine Zc (Zs1 rfl hq105 rfl ?_)
       refine Za (Zi ?_)
       refine Zm1 rfl (fun h112 => ?_) (fun h112 => ?_)
       ·
        have hA : sgA d b.term = sgF d b.term.arg := if_pos ⟨hx105, h112⟩
        have hba : ∀ v ∈ [b.term.arg], 0 ≤ v ∧ v ≤ 4095 := fun v hv => by rw [List.mem_singleton.1 hv]; have := hr.arg b hbm ⟨hx105, h112⟩; omega
        have hs3 : ((X.set k (.agg [intsX (b.params.map (sgF d)), inssX (b.ins.map (sgI d)), .int b.term.kind, .int b.term.arg, .int b.term.n, intsX b.term.cases, xLeaf o])).flatMap V.leaves ++ orest).set (k * 7 + 2 + 1) (.int (sgF d b.term.arg)) = (X.set k (.agg [intsX (b.params.map (sgF d)), inssX (b.ins.map (sgI d)), .int b.term.kind, .int (sgA d b.term), .int b.term.n, intsX b.term.cases, xLeaf o])).flatMap V.leaves ++ orest := by rw [hA]; exact wset (j := 3) hX7 hXl rfl (by decide)
        refine Zb (Zd (Zc (Zl rfl (Zc (Zv1 rfl (Zc (Zj VT.fa44_2 rfl (Zc (Zj VT.fa42_1 rfl ?_)))))))))
        refine Zc (Zu 0 VT.ty3 rfl rfl (wget hX7 hXl rfl (j := 3) rfl (by decide)) ?_)
        refine Zc (V_litRow [.tmp 117] VT.sl26 rfl rfl rfl rfl rfl (fun g118 => ?_))
        refine Zc (Zk rfl (Za (Zi (Zb (Zd (Zc (Zl rfl (Zc (Zl rfl ?_)))))))))
        refine Zc (V_callClo [.tmp 120] _ _ rfl rfl rfl VT.en9 ((Zv2 (i := 0) rfl).trans (.cons _ ((Zv2 (i := 4) rfl).trans (.cons _ (.refl _))))) (ShiftS_c hw hd g118 1 g3 [b.term.arg] [] hba (Nat.le_refl _) (by show 1 ≤ 10000; decide)) ?_)
        rintro _ _ rfl
        refine Za (Zi (Zd (Zc (Zl rfl (Zc (Zl rfl ?_))))))
        refine Zc (Zr2 VT.sl26 rfl rfl (by decide) (by decide) ?_)
        refine Zc (Zu 0 VT.ty3 rfl rfl rfl (Zc (Zv1 rfl (Zc (Zj VT.fa44_2 rfl (Zc (Zj VT.fa42_1 rfl ?_)))))))
        refine Zc (Zy 2 VT.ty3 rfl rfl rfl rfl (Nat.ble_eq_true_of_le (by rw [wlen hX7 rfl]; omega)) ?_)
        refine Za (Zi ?_)
        exact ⟨⟨rfl, rfl, rfl, rfl, rfl, rfl, rfl, rfl, rfl, rfl, rfl, rfl, rfl, trivial⟩, (by show Drops (Own.cells g118 3 [.int (sgF d b.term.arg)] :: Own.cells g3 3 [.int w] :: Own.cells og 44 (((X.set k (.agg [intsX (b.params.map (sgF d)), inssX (b.ins.map (sgI d)), .int b.term.kind, .int b.term.arg, .int b.term.n, intsX b.term.cases, xLeaf o])).flatMap V.leaves ++ orest).set (k * 7 + 2 + 1) (.int (sgF d b.term.arg))) :: Own.cells g11 37 [.int f.name, xLeaf (some ⟨og, ocap, L.map wbV, orest⟩)] :: Own.cells g8 24 [.sl 2 none (Fs.map fbV), .int u.main] :: Own.cells g5 28 (resultV (runF u 2000).1).leaves :: Own.cells g2 24 [funcsX u.fns, .int u.main] :: ((xOwn 48 o ++ (rOwns er ++ (wOwn (L.drop (k + 1)) ++ (bOwn ((Fs.take n).map (finO d)) ++ fOwn (Fs.drop (n + 1)))))))) _; rw [hs3]; exact .drop (.of_perm (List.perm_middle (l₁ := [_, _, _, _])).symm))⟩
       ·
        have hA : sgA d b.term = b.term.arg := if_neg (fun h => h.2 h112)
        refine VW_perm (S' := .cells og 44 ((X.set k (.agg [intsX (b.params.map (sgF d)), inssX (b.ins.map (sgI d)), .int b.term.kind, .int (sgA d b.term), .int b.term.n, intsX b.term.cases, xLeaf o])).flatMap V.leaves ++ orest) :: .cells g11 37 [.int f.name, xLeaf (some ⟨og, ocap, L.map wbV, orest⟩)] :: .cells g8 24 [.sl 2 none (Fs.map fbV), .int u.main] :: .cells g5 28 (resultV (runF u 2000).1).leaves :: .cells g3 3 [.int w] :: .cells g2 24 [funcsX u.fns, .int u.main] :: ((xOwn 48 o ++ (rOwns er ++ (wOwn (L.drop (k + 1)) ++ (bOwn ((Fs.take n).map (finO d)) ++ fOwn (Fs.drop (n + 1)))))))) (by rw [hA]) ?_
        refine Zi1 (Zi ?_)
        exact ⟨⟨rfl, rfl, rfl, rfl, rfl, rfl, rfl, rfl, rfl, rfl, rfl, rfl, rfl, trivial⟩, (Drops.keep (Drops.keep (Drops.keep (Drops.keep (Drops.keep (Drops.keep (Zt2 _)))))))⟩
      ·
       have hx105 : b.term.kind = 1 := by simpa using hq105
       refine Zk1 hq105 ?_
       refine Zk1 hq105 ?_
       refine Zk1 hq105 ?_
       refine Zk1 hq105 ?_
       refine Zk1 hq105 ?_
       refine Zk1 hq105 ?_
       refine Zc (Zt1 rfl hq105 rfl ?_)
       refine Za (Zi ?_)
       refine Zq1 rfl rfl ?_
       have hA : sgA d b.term = b.term.arg := if_neg (fun h => h.1 hx105)
       refine VW_perm (S' := .cells og 44 ((X.set k (.agg [intsX (b.params.map (sgF d)), inssX (b.ins.map (sgI d)), .int b.term.kind, .int (sgA d b.term), .int b.term.n, intsX b.term.cases, xLeaf o])).flatMap V.leaves ++ orest) :: .cells g11 37 [.int f.name, xLeaf (some ⟨og, ocap, L.map wbV, orest⟩)] :: .cells g8 24 [.sl 2 none (Fs.map fbV), .int u.main] :: .cells g5 28 (resultV (runF u 2000).1).leaves :: .cells g3 3 [.int w] :: .cells g2 24 [funcsX u.fns, .int u.main] :: ((xOwn 48 o ++ (rOwns er ++ (wOwn (L.drop (k + 1)) ++ (bOwn ((Fs.take n).map (finO d)) ++ fOwn (Fs.drop (n + 1)))))))) (by rw [hA]) ?_
       refine Zi1 (Zi ?_)
       exact ⟨⟨rfl, rfl, rfl, rfl, rfl, rfl, rfl, rfl, rfl, rfl, rfl, rfl, rfl, trivial⟩, (Drops.keep (Drops.keep (Drops.keep (Drops.keep (Drops.keep (Drops.keep (Zt2 _)))))))⟩
     ·
      refine Zb (Zd (Zc (Zl rfl (Zc (Zv1 rfl (Zc (Zj VT.fa44_2 rfl (Zc (Zj VT.fa42_4 rfl ?_)))))))))
      refine Zc (Zu2 (Zu 0 VT.ty40 rfl rfl (wget hX7 hXl rfl (j := 6) rfl (by decide)) ⟨rfl, rfl⟩) ((V.le.of_eq (xLeaf_raw o) : V.le _ (.raw (.slice (xA o) (xl o).length (xcap o))))) ?_)
      refine Zc (Zu2 (V_len_raw Try.underlying40 rfl ⟨rfl, rfl⟩) ((V.le.of_eq (congrArg (fun n : Nat => V.int n) hEl) : V.le _ (.int b.term.to.length))) ?_)
      refine Zc (Zl rfl (Za (Zi ?_)))
      refine VW_perm (S' := .cells og 44 ((X.set k (.agg [intsX (b.params.map (sgF d)), inssX (b.ins.map (sgI d)), .int b.term.kind, .int (sgA d b.term), .int b.term.n, intsX b.term.cases, xLeaf o])).flatMap V.leaves ++ orest) :: .cells g11 37 [.int f.name, xLeaf (some ⟨og, ocap, L.map wbV, orest⟩)] :: .cells g8 24 [.sl 2 none (Fs.map fbV), .int u.main] :: .cells g5 28 (resultV (runF u 2000).1).leaves :: .cells g3 3 [.int w] :: .cells g2 24 [funcsX u.fns, .int u.main] :: ((xOwn 48 (mpX (mixV ((b.term.to.map (sgE d)).map edgeV) (List.zipWith ewV b.term.to er) 0) o) ++ (rOwns (er.drop 0) ++ (wOwn (L.drop (k + 1)) ++ (bOwn ((Fs.take n).map (finO d)) ++ fOwn (Fs.drop (n + 1)))))))) (by rw [show mpX (mixV ((b.term.to.map (sgE d)).map edgeV) (List.zipWith ewV b.term.to er) 0) o = o from mpX_self w6]; exact .refl _) ?_
      refine Zs ?_
      refine Zi2 (ι := Nat) (fun m => b.term.to.length - m) (fun m => [(2, some (.ptr g2 0)), (3, some (.ptr g3 0)), (5, some (.ptr g5 0)), (6, some (.int (runF u 2000).2.1)), (8, some (.ptr g8 0)), (9, some (.clo (.func 9) [.ptr g3 0])), (36, some (.sl 2 none (Fs.map fbV))), (37, some (.int Fs.length)), (38, some (.int n)), (11, some (.ptr g11 0)), (44, some (.int L.length)), (45, some (.int k)), (13, some (.ptr og (k * 7))), (133, some (.raw (.slice (xA o) (xl o).length (xcap o)))), (134, some (.int b.term.to.length)), (135, some (.int m))]) (fun m => .cells og 44 ((X.set k (.agg [intsX (b.params.map (sgF d)), inssX (b.ins.map (sgI d)), .int b.term.kind, .int (sgA d b.term), .int b.term.n, intsX b.term.cases, xLeaf o])).flatMap V.leaves ++ orest) :: .cells g11 37 [.int f.name, xLeaf (some ⟨og, ocap, L.map wbV, orest⟩)] :: .cells g8 24 [.sl 2 none (Fs.map fbV), .int u.main] :: .cells g5 28 (resultV (runF u 2000).1).leaves :: .cells g3 3 [.int w] :: .cells g2 24 [funcsX u.fns, .int u.main] :: (xOwn 48 (mpX (mixV ((b.term.to.map (sgE d)).map edgeV) (List.zipWith ewV b.term.to er) m) o) ++ (rOwns (er.drop m) ++ (wOwn (L.drop (k + 1)) ++ (bOwn ((Fs.take n).map (finO d)) ++ fOwn (Fs.drop (n + 1))))))) (fun m => m ≤ b.term.to.length) 0 (Nat.zero_le _) ⟨rfl, rfl, rfl, rfl, rfl, rfl, rfl, rfl, rfl, rfl, rfl, rfl, rfl, rfl, rfl, rfl, trivial⟩ (Zt2 _) ?_
      rintro m hm
      change m ≤ b.term.to.length at hm
      refine Zb (Zd (Zc (Zj1 rfl rfl rfl (Za (Zi (Zb ?_))))))
      refine Zn1 rfl (fun h136 => ?_) (fun h136 => ?_)
      ·
       obtain ⟨e, he⟩ := get_of_lt b.term.to m h136
       obtain ⟨a, ha⟩ := get_of_lt er m (by have := w5.1; omega)
       have hIa : RowIs e.args a := w5.2 _ _ _ he ha
       have hem := List.mem_of_getElem? he
       have hea := c6 e hem
       have hev : ∀ v ∈ e.args, 0 ≤ v ∧ v ≤ 4095 := fun v hv => by have := hr.eargs b hbm e hem v hv; omega
       obtain ⟨q, hq⟩ := row_of (o := o) (k := m) (by omega)
       have hql : q.xs.length = b.term.to.length := by rw [hq] at hEl; exact hEl
       have hY2 : ∀ y ∈ mixV ((b.term.to.map (sgE d)).map edgeV) (List.zipWith ewV b.term.to er) m, y.leaves.length = 2 := mixV_all m (edges_2 rfl) (zip_len ew_2 _ _)
       have hYi : (mixV ((b.term.to.map (sgE d)).map edgeV) (List.zipWith ewV b.term.to er) m)[m]? = some (ewV e a) := mixV_get hDE (zip_get he ha)
       have hYn : (mixV ((b.term.to.map (sgE d)).map edgeV) (List.zipWith ewV b.term.to er) m).set m (edgeV (sgE d e)) = mixV ((b.term.to.map (sgE d)).map edgeV) (List.zipWith ewV b.term.to er) (m + 1) := mixV_set hDE (by rw [List.getElem?_map, List.getElem?_map, he]; rfl)
       generalize mixV ((b.term.to.map (sgE d)).map edgeV) (List.zipWith ewV b.term.to er) m = Y at hY2 hYi hYn ⊢
       have hYl : m < Y.length := (List.getElem?_eq_some_iff.1 hYi).1
       refine VW_conv (q := 133) rfl (V.le.of_eq (by rw [hq]; rfl) : V.le _ (.raw (.slice (some ⟨q.g, 0, none⟩) q.xs.length q.cap))) ?_
       refine VW_perm (S' := rOwn 3 1 a :: .cells q.g 48 ((Y.set m (.agg [.int e.block, rL 1 a])).flatMap V.leaves ++ q.rest) :: .cells og 44 ((X.set k (.agg [intsX (b.params.map (sgF d)), inssX (b.ins.map (sgI d)), .int b.term.kind, .int (sgA d b.term), .int b.term.n, intsX b.term.cases, xLeaf o])).flatMap V.leaves ++ orest) :: .cells g11 37 [.int f.name, xLeaf (some ⟨og, ocap, L.map wbV, orest⟩)] :: .cells g8 24 [.sl 2 none (Fs.map fbV), .int u.main] :: .cells g5 28 (resultV (runF u 2000).1).leaves :: .cells g3 3 [.int w] :: .cells g2 24 [funcsX u.fns, .int u.main] :: ((rOwns (er.drop (m + 1)) ++ (wOwn (L.drop (k + 1)) ++ (bOwn ((Fs.take n).map (finO d)) ++ fOwn (Fs.drop (n + 1))))))) (by rw [show Y.set m (.agg [.int e.block, rL 1 a]) = Y from set_same hYi, show er.drop m = a :: er.drop (m + 1) from drop_cons ha, hq]; exact perm_i (M := [_, _, _, _, _, _])) ?_
       refine Zi1 (Zi (Zb (Zs (Zb (Zd ?_)))))
       refine Zc (Zu2 (Zr2 VT.sl40 rfl rfl (by omega) (by omega) ⟨rfl, rfl⟩) ((V.le.of_eq (congrArg (V.ptr q.g) (by omega)) : V.le _ (.ptr q.g (m * 2)))) ?_)
       refine Zc (Ze3 1 m VT.ty48 rfl rfl rfl rfl (set_7 hY2 rfl) (List.getElem?_set_self hYl) ?_)
       refine Zc (Zb2 VT.zr48 _ rfl rfl (fun g18 => ?_))
       refine Zc (Zx 0 VT.ty48 rfl rfl rfl rfl rfl (Za (Zi (Zd (Zc (Zl rfl (Zc (Zj VT.fa48_1 rfl (Zc (Zu 0 VT.ty26 rfl rfl rfl ?_))))))))))
       refine Zc (V_callClo [.tmp 141] _ _ rfl rfl rfl VT.en9 ((Zv2 (i := 1) rfl).trans (.cons _ ((Zv2 (i := 6) rfl).trans (.cons _ (.refl _))))) (shift_c hw hd g3 hIa hev hea) ?_)
       rintro _ _ rfl
       refine Za (Zb1 (Zi ?_))
       refine VW_freezeL 2 (m * 2 + 1) (R := .cells g3 3 [.int w] :: .cells g18 48 [.int e.block, rL 1 a] :: .cells q.g 48 ((Y.set m (.agg [.int e.block, rL 1 a])).flatMap V.leaves ++ q.rest) :: .cells og 44 ((X.set k (.agg [intsX (b.params.map (sgF d)), inssX (b.ins.map (sgI d)), .int b.term.kind, .int (sgA d b.term), .int b.term.n, intsX b.term.cases, xLeaf o])).flatMap V.leaves ++ orest) :: .cells g11 37 [.int f.name, xLeaf (some ⟨og, ocap, L.map wbV, orest⟩)] :: .cells g8 24 [.sl 2 none (Fs.map fbV), .int u.main] :: .cells g5 28 (resultV (runF u 2000).1).leaves :: .cells g2 24 [funcsX u.fns, .int u.main] :: ((rOwns (er.drop (m + 1)) ++ (wOwn (L.drop (k + 1)) ++ (bOwn ((Fs.take n).map (finO d)) ++ fOwn (Fs.drop (n + 1))))))) (.refl _) rfl (by rw [row_leaf hIa (List.length_map _)]; exact (wget hY2 hYl rfl (j := 1) rfl (by decide))) (row_is hIa (List.length_map _)).2 (by rw [(row_is hIa (List.length_map _)).1]; exact fits_ints _) ?_
       refine VW_drops (S' := .cells og 44 ((X.set k (.agg [intsX (b.params.map (sgF d)), inssX (b.ins.map (sgI d)), .int b.term.kind, .int (sgA d b.term), .int b.term.n, intsX b.term.cases, xLeaf o])).flatMap V.leaves ++ orest) :: .cells g11 37 [.int f.name, xLeaf (some ⟨og, ocap, L.map wbV, orest⟩)] :: .cells g8 24 [.sl 2 none (Fs.map fbV), .int u.main] :: .cells g5 28 (resultV (runF u 2000).1).leaves :: .cells g3 3 [.int w] :: .cells g2 24 [funcsX u.fns, .int u.main] :: ((xOwn 48 (mpX (mixV ((b.term.to.map (sgE d)).map edgeV) (List.zipWith ewV b.term.to er) (m + 1)) o) ++ (rOwns (er.drop (m + 1)) ++ (wOwn (L.drop (k + 1)) ++ (bOwn ((Fs.take n).map (finO d)) ++ fOwn (Fs.drop (n + 1)))))))) (by rw [(row_is hIa (List.length_map _)).1, wset hY2 hYl rfl (by decide), ← hYn, hq]; exact Drops.trans (.keep (.drop (.refl _))) (.of_perm perm_j)) ?_
       refine Zd ?_
       refine Zc (Zh2 rfl rfl (by omega) ?_)
       refine Zc (Zl rfl (Za (Zi ?_)))
       exact ⟨m + 1, (by (try simp only []); omega), (by omega), ⟨rfl, rfl, rfl, rfl, rfl, rfl, rfl, rfl, rfl, rfl, rfl, rfl, rfl, (by rw [hq]; rfl), rfl, rfl, trivial⟩, (Drops.keep (Drops.keep (Drops.keep (Drops.keep (Drops.keep (Drops.keep (Zt2 _)))))))⟩
      ·
       have hme : m = b.term.to.length := by omega
       subst hme
       have hm1 : mixV ((b.term.to.map (sgE d)).map edgeV) (List.zipWith ewV b.term.to er) b.term.to.length = ((b.term.to.map (sgE d)).map edgeV) := mixV_end hDE (by rw [← w6, hEl])
       have hmI : (xl o).length = ((b.term.to.map (sgE d)).map edgeV).length := by rw [hEl, List.length_map, List.length_map]
       refine VW_freezeX 0 (k * 7 + 6) (o := mpX ((b.term.to.map (sgE d)).map edgeV) o) (R := .cells og 44 ((X.set k (.agg [intsX (b.params.map (sgF d)), inssX (b.ins.map (sgI d)), .int b.term.kind, .int (sgA d b.term), .int b.term.n, intsX b.term.cases, xLeaf o])).flatMap V.leaves ++ orest) :: .cells g11 37 [.int f.name, xLeaf (some ⟨og, ocap, L.map wbV, orest⟩)] :: .cells g8 24 [.sl 2 none (Fs.map fbV), .int u.main] :: .cells g5 28 (resultV (runF u 2000).1).leaves :: .cells g3 3 [.int w] :: .cells g2 24 [funcsX u.fns, .int u.main] :: ((rOwns (er.drop b.term.to.length) ++ (wOwn (L.drop (k + 1)) ++ (bOwn ((Fs.take n).map (finO d)) ++ fOwn (Fs.drop (n + 1))))))) (by rw [hm1]; exact pullC [_, _, _, _, _, _]) rfl (by rw [mpX_leaf hmI]; exact (wget hX7 hXl rfl (j := 6) rfl (by decide))) (mpX_ok hmI (fun x hx => zip_len ew_2 _ _ x (by rw [← w6]; exact hx)) (edges_2 rfl) w7) (by rw [mpX_xl hmI]; exact fits_es _) ?_
       refine VW_drops (S' := .cells og 44 ((mixV ((f.blocks.map (sgB d)).map blockV) (L.map wbV) (k + 1)).flatMap V.leaves ++ orest) :: .cells g11 37 [.int f.name, xLeaf (some ⟨og, ocap, L.map wbV, orest⟩)] :: .cells g8 24 [.sl 2 none (Fs.map fbV), .int u.main] :: .cells g5 28 (resultV (runF u 2000).1).leaves :: .cells g3 3 [.int w] :: .cells g2 24 [funcsX u.fns, .int u.main] :: ((wOwn (L.drop (k + 1)) ++ (bOwn ((Fs.take n).map (finO d)) ++ fOwn (Fs.drop (n + 1)))))) (by rw [mpX_xl hmI, wset hX7 hXl rfl (by decide), ← hXn]; exact drops_append [_, _, _, _, _, _] (drops_skip _ (.refl _))) ?_
       refine Zt (Ze1 (Ze1 (Zc1 (Zb1 (Zi (Zd ?_))))))
       refine Zc (Zh2 rfl rfl (by omega) ?_)
       refine Zc (Zl rfl (Za (Zi ?_)))
       exact ⟨k + 1, (by (try simp only []); omega), (by omega), ⟨rfl, rfl, rfl, rfl, rfl, rfl, rfl, rfl, rfl, rfl, rfl, rfl, trivial⟩, (Drops.keep (Drops.keep (Drops.keep (Drops.keep (Drops.keep (Drops.keep (Zt2 _)))))))⟩
   ·
    have hke : k = L.length := by omega
    subst hke
    refine VW_drops (S' := .cells g8 24 [.sl 2 none (Fs.map fbV), .int u.main] :: .cells g5 28 (resultV (runF u 2000).1).leaves :: .cells g3 3 [.int w] :: .cells g2 24 [funcsX u.fns, .int u.main] :: (bOwn ((Fs.take (n + 1)).map (finO d)) ++ fOwn (Fs.drop (n + 1)))) ?_ ?_
    · rw [show mixV ((f.blocks.map (sgB d)).map blockV) (L.map wbV) L.length = ((f.blocks.map (sgB d)).map blockV) from mixV_end hB (List.length_map _), show Fs.take (n + 1) = Fs.take n ++ [(⟨f, ⟨og, ocap, L.map wbV, orest⟩, L⟩ : FB)] from take_snoc hs, List.map_append, List.map_singleton, bown_fin, List.drop_length]; exact drops_fin (M := [_, _, _, _])
    refine Zt (Ze1 (Ze1 (Zc1 (Zb1 (Zi (Zd ?_))))))
    refine Zc (Zh2 rfl rfl (by omega) ?_)
    refine Zc (Zl rfl (Za (Zi ?_)))
    exact ⟨n + 1, (by (try simp only []); omega), (by omega), ⟨rfl, rfl, rfl, rfl, rfl, rfl, rfl, rfl, rfl, trivial⟩, (Drops.keep (Drops.keep (Drops.keep (Drops.keep (Zt2 _)))))⟩
  ·
   have hne : n = Fs.length := by omega
   subst hne
   refine Zt (Ze1 (Ze1 (Zc1 (Zi ?_))))
   obtain ⟨hbr, hcx⟩ := fin_rows (d := d) hFs
   have hzl : (Fs.map (finO d)).length = (sgU d u).fns.length := hbr.1
   refine VW_drops (S' := .cells g8 24 [.sl 2 none ([] ++ ((sgU d u).fns.zip (Fs.map (finO d))).map fun x => cxV x.1 x.2), .int u.main] :: ((((sgU d u).fns.zip (Fs.map (finO d))).flatMap fun x => xOwn 44 (some x.2)) ++ [.cells g5 28 (resultV (runF u 2000).1).leaves, .cells g3 3 [.int w], .cells g2 24 [funcsX u.fns, .int u.main]])) ?_ ?_
   · rw [← zip_cx, zip_own hzl, show cxL (sgU d u).fns (Fs.map (finO d)) = Fs.map fbV from hcx, List.take_length, List.drop_length]; exact .keep (Drops.trans (.of_perm (List.perm_append_comm (l₁ := [_, _, _]))) (drops_appendR _ (by show Drops (bOwn (Fs.map (finO d)) ++ []) _; rw [List.append_nil]; exact .refl _)))
   refine freeze_funs g8 (.int u.main) [.cells g5 28 (resultV (runF u 2000).1).leaves, .cells g3 3 [.int w], .cells g2 24 [funcsX u.fns, .int u.main]] ((sgU d u).fns.zip (Fs.map (finO d))) [] (zip_b hbr) ?_
   rw [zip_fun hzl]
   show VW Try.prog _ _ _ _ [.cells g8 24 [funcsX (sgU d u).fns, .int u.main], .cells g5 28 (resultV (runF u 2000).1).leaves, .cells g3 3 [.int w], .cells g2 24 [funcsX u.fns, .int u.main]]
   refine Zb (Zd (Zc (Zv 0 VT.ty24 rfl rfl rfl ?_)))
   refine Zc (Zu2 (Zx1 [.tmp 147, .const (.int .i64 (2000))] rfl rfl VT.en7 (Run_c (sgU d u) 2000) ⟨rfl, rfl⟩) ((V.le.of_eq (by rw [sg_run hd hU (by decide) (by decide), hx0]) : V.le _ (.tup [resultV (runF u 2000).1, .int (runF u 2000).2.1, .int 0]))) ?_)
   refine Zc (Zl rfl (Zc (Zg2 rfl rfl (Zc (Zg2 rfl rfl (Zc (Zg2 rfl rfl ?_)))))))
   refine Zc (Zb2 VT.zr28 _ rfl rfl (fun g19 => ?_))
   refine Zc (Zx 0 VT.ty28 rfl rfl rfl rfl rfl (Zc (Zk rfl (Zc (Zk rfl (Za (Zi (Zb (Zd (Zc (Zl rfl (Zc (Zj1 rfl rfl rfl (Zc (Zl rfl ?_)))))))))))))))
   refine Zj2 (q := 154) rfl (fun hq154 => ?_) (fun hq154 => ?_)
   ·
    refine Zc (Zl rfl ?_) (Zy1 hq154)
    refine Zc (Zl rfl ?_) (Zy1 hq154)
    refine Zc (Zj1 rfl rfl rfl ?_) (Zy1 hq154)
    refine Zc (Zs1 rfl hq154 rfl ?_)
    refine Zc (Zl rfl ?_)
    refine Zj2 (q := 159) rfl (fun hq159 => ?_) (fun hq159 => ?_)
    ·
     refine Zc (Zv 2 VT.ty28 rfl rfl rfl ?_) (Zy1 hq159)
     refine Zc (Zv 0 VT.ty28 rfl rfl rfl ?_) (Zy1 hq159)
     refine Zc (Zx1 [.tmp 160, .tmp 161] rfl rfl VT.en11 (SameResult_c (runF u 2000).1 (runF u 2000).1) ?_) (Zy1 hq159)
     refine Zc (Zs1 rfl hq159 rfl ?_)
     refine Zc (Zk rfl (Za (Zi (Zf1 ?_))))
     refine Zg1 rfl (.tmp rfl) ?_
     first | rfl | exact congrArg V.bool (sameOut_iff.2 rfl)
    · exact absurd rfl (of_decide_eq_false hq159)
   · exact absurd hq154 (by decide)
end Go.Proofs.Ytmmmgamhffbkbaa.X43
