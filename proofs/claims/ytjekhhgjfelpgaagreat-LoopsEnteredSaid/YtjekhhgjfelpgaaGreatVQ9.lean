import Derived.Test.YtjekhhgjfelpgaaGreatVJ
import Derived.Shelf.Slices.SearchI
import Derived.Shelf.Slices.In.SortNone
set_option linter.all false
open List renaming append_assoc → Ya, length_append → Yb
section
namespace Go.VL
structure XRow where
 g : Nat
 cap : Nat
 xs : List V
 rest : List V
def xl : Option XRow → List V
 | none => []
 | some r => r.xs
def xLeaf : Option XRow → V
 | none => V.nilSl
 | some r => .raw (.slice (some ⟨r.g, 0, none⟩) r.xs.length r.cap)
def xOwn (T : TypeId) : Option XRow → Store
 | none => []
 | some r => [.cells r.g T (r.xs.flatMap V.leaves ++ r.rest)]
def xOk (sz : Nat) : Option XRow → Prop
 | none => True
 | some r => r.xs.length ≤ r.cap ∧ r.cap ≤ maxLen ∧ (r.xs.flatMap V.leaves ++ r.rest).length = r.cap * sz
theorem flat_len {sz : Nat} : ∀ {xs : List V}, (∀ x ∈ xs, x.leaves.length = sz) → (xs.flatMap V.leaves).length = xs.length * sz
 | [], _ => by simp
 | x :: xs, h => by
  rw [List.flatMap_cons, Yb, h x (List.mem_cons_self ..), flat_len fun y hy => h y (List.mem_cons_of_mem _ hy), List.length_cons, Nat.succ_mul]
  omega
section
variable {P : Program} {nt : Nat} {F : Fr} {S : Store} {K : Option V → Store → Prop}
variable {d : Option Tmp} {ty : TypeId} {pos : String} {af : Array Edge} {gd : Option (Nat × Bool)}
theorem VOp.permL {o : Oper} {S' : Store} (h : VOp P nt o F S' K) (hp : S.Perm S') : VOp P nt o F S K :=
 fun m w a KK QQ hf hw hK => h m w a KK QQ hf (hw.perm hp) fun r S1 m1 w1 u k hr st => hK r S1 m1 w1 u k hr (st.permL hp)
theorem V_appendO {t e sz bytes : Nat} {z : Value} {s x : Operand} {o : Option XRow} {R : Store} {tx : Option Tok} {ys : List V} (ht : SliceTy P t e sz bytes z) (hz1 : ∀ c ∈ z.cells.toList, c.oneCell' = true) (hs : F.ev s = some (xLeaf o)) (hx : F.ev x = some (.sl sz tx ys))
  (hp : S.Perm (xOwn e o ++ R)) (hok : xOk sz o) (hfl : ∀ v ∈ xl o, v.leaves.length = sz) (hne : o = none → ys ≠ []) (hb : ((xl o).length + ys.length) * bytes ≤ 140737488355328) (hflat : ∀ y ∈ ys, y.flat = true)
  (hk : ∀ o', xl o' = xl o ++ ys → xOk sz o' → o' ≠ none → K (some (xLeaf o')) (xOwn e o' ++ R)) :
  VOp P nt ⟨d, .call ⟨.builtin .append, #[s, x], #[t, t]⟩, ty, pos, af, gd⟩ F S K := by
 refine VOp.permL ?_ hp
 cases o with
 | none =>
  have hl := List.length_pos_iff.2 (hne rfl)
  have hb : ys.length * bytes ≤ 140737488355328 := by have h9 := hb; change (0 + ys.length) * bytes ≤ _ at h9; rwa [Nat.zero_add] at h9
  refine V_appendRowL ht hz1 (A := none) hs hx hl hb hflat fun g cap rest h1 h2 h3 => ?_
  exact hk (some ⟨g, cap, ys, rest⟩) rfl ⟨h1, h2, h3⟩ (by simp)
 | some r =>
  obtain ⟨h1, h2, h3⟩ := hok
  refine V_appendRaw 0 ht hz1 hs hx rfl h3 h1 h2 hb hflat fun g cap rest k1 k2 k3 => ?_
  have hlen : (r.xs.flatMap V.leaves).length = r.xs.length * sz := flat_len hfl
  have htk : (r.xs.flatMap V.leaves ++ r.rest).take (r.xs.length * sz) = r.xs.flatMap V.leaves := by rw [← hlen, List.take_left]
  have h4 := hk (some ⟨g, cap, r.xs ++ ys, rest⟩) rfl ⟨by rw [Yb]; exact k1, k2, by
   rw [List.flatMap_append, Ya]
   rw [htk] at k3
   exact k3⟩ (by simp)
  rw [htk]
  have e1 : xOwn e (some ⟨g, cap, r.xs ++ ys, rest⟩) ++ R = .cells g e (r.xs.flatMap V.leaves ++ (ys.flatMap V.leaves ++ rest)) :: R := by
   show (.cells g e ((r.xs ++ ys).flatMap V.leaves ++ rest)) :: R = _
   rw [List.flatMap_append, Ya]
  rw [e1] at h4
  have e2 : xLeaf (some ⟨g, cap, r.xs ++ ys, rest⟩) = .raw (.slice (some ⟨g, 0, none⟩) (r.xs.length + ys.length) cap) := by
   show V.raw (.slice (some ⟨g, 0, none⟩) (r.xs ++ ys).length cap) = _
   rw [Yb]
  rw [e2] at h4
  exact h4
end
def xA : Option XRow → Option Addr
 | none => none
 | some r => some ⟨r.g, 0, none⟩
def xcap : Option XRow → Nat
 | none => 0
 | some r => r.cap
theorem xLeaf_raw (o : Option XRow) : xLeaf o = .raw (.slice (xA o) (xl o).length (xcap o)) := by cases o <;> rfl
section
variable {P : Program} {nt : Nat} {F : Fr} {S : Store} {Q : Exit → Fr → Store → Prop}
theorem VW_conv {q : Nat} {v v' : V} {c : Code} (hq : F.get q = some v) (hle : V.le v v') (h : VW P nt c Q ((q, some v') :: F) S) : VW P nt c Q F S := by
 intro m w a QQ hf hw hK
 exact h m w a QQ (hf.put_same (v := v') (hle m _ (hf.get q v hq))) hw hK
theorem VW_freezeO {q sz : Nat} {T : TypeId} {o : Option XRow} {R : Store} {c : Code} (hq : F.get q = some (xLeaf o)) (hp : S.Perm (xOwn T o ++ R)) (hok : xOk sz o) (hx : ∀ x ∈ xl o, x.fits sz = true ∧ ((∃ ls, x = .agg ls) ∨ x.leaf = true))
  (h : VW P nt c Q ((q, some (.sl sz none (xl o))) :: F) R) : VW P nt c Q F S := by
 refine VW_perm hp ?_
 cases o with
 | none => exact VW_conv hq (V.le.nil sz) h
 | some r => exact VW_freeze 0 (rest := r.rest) r.xs hq rfl rfl rfl hok.1 hok.2.1 hx h
end
section
variable {P : Program}
theorem bin_pure {F : FuncId} (hc : ∀ (b off n c : Nat) (zs : List Int) (x : Int) (w : World), n ≤ zs.length → n < 4611686018427387904 → (∀ j, j < zs.length → w.cell? ⟨b, off + j, none⟩ = some (.int .i64 (zs.getD j 0))) → (zs.take n).Pairwise (· ≤ ·) →
      Calls P F #[.slice (some ⟨b, off, none⟩) n c, .int .i64 x] w fun e w' => e = .returned (.tuple #[.int .i64 ((zs.take n).countP (· < x) : Nat), .bool ((zs.take n).contains x)]) ∧ ∃ q, w' = w.drewN q)
    (tok : Option Tok) (zs : List Int) (x : Int) (hne : zs ≠ []) (hl : zs.length ≤ 1000000) (hs : zs.Pairwise (· ≤ ·)) :
    VPure P F [.sl 1 tok (zs.map V.int), .int x] (.tup [.int (zs.countP (· < x) : Nat), .bool (zs.contains x)]) := by
  intro m w us ha hw
  obtain ⟨u, us', rfl, hu, u2, us2, rfl, hu2, hu3⟩ := ha
  have hu2 : u2 = .int .i64 x := hu2
  have hu3 : us2 = [] := hu3
  subst hu2 hu3
  obtain ⟨A, cap, rfl, hcap, hmax, _, hels⟩ := hu
  obtain ⟨b, off, rfl, helz⟩ := hels.resolve_left (by simpa using hne)
  obtain ⟨cs, h1, h2⟩ := helz.flat
  have hfl : ∀ y ∈ zs.map V.int, y.flat = true := fun y hy => by
    obtain ⟨n, _, rfl⟩ := List.mem_map.1 hy
    rfl
  have hR := h1.flatOf hfl
  have hflat : (zs.map V.int).flatMap V.leaves = zs.map V.int := by
    clear hels helz h1 hR hcap hmax hfl hne hl hs
    induction zs with
    | nil => rfl
    | cons a l ih => rw [List.map_cons, List.flatMap_cons, ih]; rfl
  rw [hflat] at hR
  have hcs := repL_ints hR
  have hlen : (zs.map V.int).length = zs.length := List.length_map ..
  rw [hlen]
  refine (hc b off zs.length cap zs x w (Nat.le_refl _) (by omega) (fun j hj => ?_) (by rw [List.take_length]; exact hs)).mono ?_
  · refine hw.agree _ _ _ (h2 j _ ?_)
    rw [hcs, List.getElem?_map, List.getElem?_eq_getElem hj]
    simp [List.getD, hj]
  · rintro e w' ⟨rfl, q, rfl⟩
    rw [List.take_length]
    refine ⟨_, [], m, _, rfl, rfl, ⟨_, rfl, _, _, rfl, rfl, _, _, rfl, rfl, rfl⟩, ?_⟩
    exact ⟨⟨fun b o v hv => hw.agree b o v hv, hw.nodup, fun e he => by cases he⟩, rfl, rfl, rfl, Nat.le_refl _, fun _ _ _ => rfl, Sub.refl m, fun b o v h => .inl h, fun b hb => .inl hb⟩
end
open Classical in
noncomputable def nrmX (sz : Nat) (xs : List V) (o : Option XRow) : Option XRow := if xl o = xs ∧ xOk sz o then o else some ⟨0, xs.length, xs, []⟩
theorem nrmX_ok {sz : Nat} {xs : List V} (hfl : ∀ v ∈ xs, v.leaves.length = sz) (hl : xs.length ≤ maxLen) (o : Option XRow) : xl (nrmX sz xs o) = xs ∧ xOk sz (nrmX sz xs o) := by
 unfold nrmX
 split
 ·assumption
 ·exact ⟨rfl, Nat.le_refl _, hl, by rw [List.append_nil]; exact flat_len hfl⟩
theorem nrmX_eq {sz : Nat} {xs : List V} {o : Option XRow} (h1 : xl o = xs) (h2 : xOk sz o) : nrmX sz xs o = o := if_pos ⟨h1, h2⟩
theorem pullC (l : List Own) {C Y : Store} : (l ++ (C ++ Y)).Perm (C ++ (l ++ Y)) := by
 rw [← Ya, ← Ya]
 exact List.perm_append_comm.append_right _
theorem pullL (l : List Own) {x : Own} {Y Y2 : Store} (h : Y.Perm (x :: Y2)) : (l ++ Y).Perm (x :: (l ++ Y2)) := (h.append_left l).trans List.perm_middle
section
variable {P : Program} {nt : Nat} {F : Fr} {S : Store} {K : Option V → Store → Prop}
variable {d : Option Tmp} {ty : TypeId} {pos : String} {af : Array Edge} {gd : Option (Nat × Bool)}
theorem V_appendOT {t e sz bytes : Nat} {z : Value} {s x : Operand} {o : Option XRow} (R : Store) (T : Option XRow → Store) {tx : Option Tok} {ys : List V} (ht : SliceTy P t e sz bytes z) (hz1 : ∀ c ∈ z.cells.toList, c.oneCell' = true) (hs : F.ev s = some (xLeaf o)) (hx : F.ev x = some (.sl sz tx ys))
  (hp : S.Perm (xOwn e o ++ R)) (hT : ∀ o', (xOwn e o' ++ R).Perm (T o')) (hok : xOk sz o) (hfl : ∀ v ∈ xl o, v.leaves.length = sz) (hne : o = none → ys ≠ []) (hb : ((xl o).length + ys.length) * bytes ≤ 140737488355328) (hflat : ∀ y ∈ ys, y.flat = true)
  (hk : ∀ o', xl o' = xl o ++ ys → xOk sz o' → o' ≠ none → K (some (xLeaf o')) (T o')) :
  VOp P nt ⟨d, .call ⟨.builtin .append, #[s, x], #[t, t]⟩, ty, pos, af, gd⟩ F S K :=
 VOp.drops (V_appendO (K := fun r S' => ∃ o', xl o' = xl o ++ ys ∧ xOk sz o' ∧ o' ≠ none ∧ r = some (xLeaf o') ∧ S' = xOwn e o' ++ R) ht hz1 hs hx hp hok hfl hne hb hflat fun o' h1 h2 h3 => ⟨o', h1, h2, h3, rfl, rfl⟩)
  fun r S' ⟨o', h1, h2, h3, e1, e2⟩ => ⟨T o', by rw [e2]; exact Drops.of_perm (hT o'), by rw [e1]; exact hk o' h1 h2 h3⟩
end
section
variable {P : Program} {nt : Nat} {F : Fr} {S : Store} {Q : Exit → Fr → Store → Prop}
theorem les_same : ∀ {ls : List V}, ls.all V.leaf = true → V.les ls ls
 | [], _ => trivial
 | x :: ls, h => by
  rw [List.all_cons, Bool.and_eq_true] at h
  exact ⟨V.le.refl _, h.1, les_same h.2⟩
theorem les_set : ∀ {ls : List V} {j : Nat} {v v' : V}, ls.all V.leaf = true → ls[j]? = some v → V.le v v' → v'.leaf = true → V.les ls (ls.set j v')
 | [], j, v, v', _, hj, _, _ => by simp at hj
 | x :: ls, 0, v, v', h, hj, hle, hl => by
  rw [List.all_cons, Bool.and_eq_true] at h
  have hj : x = v := by simpa using hj
  subst hj
  exact ⟨hle, hl, les_same h.2⟩
 | x :: ls, j + 1, v, v', h, hj, hle, hl => by
  rw [List.all_cons, Bool.and_eq_true] at h
  exact ⟨V.le.refl _, h.1, les_set h.2 (by simpa using hj) hle hl⟩
theorem VW_cellAt (i j : Nat) {g : Nat} {T : TypeId} {ls : List V} {v v' : V} {c : Code} (hS : S[i]? = some (.cells g T ls)) (hj : ls[j]? = some v) (hle : V.le v v') (hl : v'.leaf = true) (h : VW P nt c Q F (S.set i (.cells g T (ls.set j v')))) : VW P nt c Q F S := by
 intro m w a QQ hf hw hK
 obtain ⟨hall, _, _⟩ := own_cells hw hS
 exact VW_cells i hS (les_set hall hj hle hl) h m w a QQ hf hw hK
end
theorem drops_append {A B : Store} (C : Store) (h : Drops A B) : Drops (C ++ A) (C ++ B) := by
 induction C with
 | nil => exact h
 | cons c C ih => exact .keep ih
theorem RepEls.conv {m : Mem} {sz b : Nat} : ∀ {xs ys : List V} {off : Nat}, xs.length = ys.length → (∀ (p : Nat) (x y : V), xs[p]? = some x → ys[p]? = some y → ∀ u, Rep m x u → Rep m y u) → RepEls m sz b off xs → RepEls m sz b off ys
 | [], [], _, _, _, _ => trivial
 | [], y :: ys, _, h, _, _ => by simp at h
 | x :: xs, [], _, h, _, _ => by simp at h
 | x :: xs, y :: ys, off, h, hc, ⟨⟨u, r, l, o, t⟩, k⟩ => ⟨⟨u, hc 0 x y rfl rfl u r, l, o, t⟩, RepEls.conv (by simpa using h) (fun p x' y' hx hy => hc (p + 1) x' y' (by simpa using hx) (by simpa using hy)) k⟩
section
variable {P : Program} {nt : Nat} {F : Fr} {S : Store} {K : Option V → Store → Prop}
variable {d : Option Tmp} {ty : TypeId} {pos : String} {af : Array Edge} {gd : Option (Nat × Bool)}
end
section
variable {P : Program} {nt : Nat} {F : Fr} {S : Store} {Q : Exit → Fr → Store → Prop}
end
section
variable {P : Program} {nt : Nat} {F : Fr} {S : Store} {K : Option V → Store → Prop}
variable {d : Option Tmp} {ty : TypeId} {pos : String} {af : Array Edge} {gd : Option (Nat × Bool)}
end
section
variable {P : Program} {nt : Nat} {F : Fr} {S : Store} {Q : Exit → Fr → Store → Prop}
theorem VW_freezeX (k j : Nat) {gc sz : Nat} {T Tc : TypeId} {lc : List V} {o : Option XRow} {R : Store} {c : Code} (hp : S.Perm (xOwn T o ++ R)) (hC : R[k]? = some (.cells gc Tc lc)) (hj : lc[j]? = some (xLeaf o)) (hok : xOk sz o)
  (hx : ∀ x ∈ xl o, x.fits sz = true ∧ ((∃ ls, x = .agg ls) ∨ x.leaf = true)) (h : VW P nt c Q F (R.set k (.cells gc Tc (lc.set j (.sl sz none (xl o)))))) : VW P nt c Q F S := by
 refine VW_perm hp ?_
 cases o with
 | none => exact VW_cellAt k j hC hj (V.le.nil sz) rfl h
 | some r => exact VW_freezeC 0 k j (rest := r.rest) r.xs rfl hC hj rfl rfl hok.1 hok.2.1 hx h
end
end Go.VL
end
