import Derived.Test.YtjekhhgjfelpgaaGreatVJ
import Derived.Shelf.Slices.SearchI
import Derived.Shelf.Slices.In.SortNone
set_option linter.all false
open List renaming length_append → Ya
namespace Go.VL
structure XRow where
 g : Nat
 cap : Nat
 xs : List V
 rest : List V
def xl : Option XRow → List V
 | none => []
 | some r => r.xs
def xLeaf : Option XRow → V
 | none => V.nilSl
 | some r => .raw (.slice (some ⟨r.g, 0, none⟩) r.xs.length r.cap)
def xOwn (T : TypeId) : Option XRow → Store
 | none => []
 | some r => [.cells r.g T (r.xs.flatMap V.leaves ++ r.rest)]
def xOk (sz : Nat) : Option XRow → Prop
 | none => True
 | some r => r.xs.length ≤ r.cap ∧ r.cap ≤ maxLen ∧ (r.xs.flatMap V.leaves ++ r.rest).length = r.cap * sz
theorem flat_len {sz : Nat} : ∀ {xs : List V}, (∀ x ∈ xs, x.leaves.length = sz) → (xs.flatMap V.leaves).length = xs.length * sz
 | [], _ => by simp
 | x :: xs, h => by
  rw [List.flatMap_cons, Ya, h x (List.mem_cons_self ..), flat_len fun y hy => h y (List.mem_cons_of_mem _ hy), List.length_cons, Nat.succ_mul]
  omega
section
variable {P : Program} {nt : Nat} {F : Fr} {S : Store} {K : Option V → Store → Prop}
variable {d : Option Tmp} {ty : TypeId} {pos : String} {af : Array Edge} {gd : Option (Nat × Bool)}
theorem VOp.permL {o : Oper} {S' : Store} (h : VOp P nt o F S' K) (hp : S.Perm S') : VOp P nt o F S K :=
 fun m w a KK QQ hf hw hK => h m w a KK QQ hf (hw.perm hp) fun r S1 m1 w1 u k hr st => hK r S1 m1 w1 u k hr (st.permL hp)
theorem V_appendO {t e sz bytes : Nat} {z : Value} {s x : Operand} {o : Option XRow} {R : Store} {tx : Option Tok} {ys : List V} (ht : SliceTy P t e sz bytes z) (hz1 : ∀ c ∈ z.cells.toList, c.oneCell' = true) (hs : F.ev s = some (xLeaf o)) (hx : F.ev x = some (.sl sz tx ys))
  (hp : S.Perm (xOwn e o ++ R)) (hok : xOk sz o) (hfl : ∀ v ∈ xl o, v.leaves.length = sz) (hne : o = none → ys ≠ []) (hb : ((xl o).length + ys.length) * bytes ≤ 140737488355328) (hflat : ∀ y ∈ ys, y.flat = true)
  (hk : ∀ o', xl o' = xl o ++ ys → xOk sz o' → o' ≠ none → K (some (xLeaf o')) (xOwn e o' ++ R)) :
  VOp P nt ⟨d, .call ⟨.builtin .append, #[s, x], #[t, t]⟩, ty, pos, af, gd⟩ F S K := by
 refine VOp.permL ?_ hp
 cases o with
 | none =>
  have hl := List.length_pos_iff.2 (hne rfl)
  have hb : ys.length * bytes ≤ 140737488355328 := by have h9 := hb; change (0 + ys.length) * bytes ≤ _ at h9; rwa [Nat.zero_add] at h9
  refine V_appendRowL ht hz1 (A := none) hs hx hl hb hflat fun g cap rest h1 h2 h3 => ?_
  exact hk (some ⟨g, cap, ys, rest⟩) rfl ⟨h1, h2, h3⟩ (by simp)
 | some r =>
  obtain ⟨h1, h2, h3⟩ := hok
  refine V_appendRaw 0 ht hz1 hs hx rfl h3 h1 h2 hb hflat fun g cap rest k1 k2 k3 => ?_
  have hlen : (r.xs.flatMap V.leaves).length = r.xs.length * sz := flat_len hfl
  have htk : (r.xs.flatMap V.leaves ++ r.rest).take (r.xs.length * sz) = r.xs.flatMap V.leaves := by rw [← hlen, List.take_left]
  have h4 := hk (some ⟨g, cap, r.xs ++ ys, rest⟩) rfl ⟨by rw [Ya]; exact k1, k2, by
   rw [List.flatMap_append, List.append_assoc]
   rw [htk] at k3
   exact k3⟩ (by simp)
  rw [htk]
  have e1 : xOwn e (some ⟨g, cap, r.xs ++ ys, rest⟩) ++ R = .cells g e (r.xs.flatMap V.leaves ++ (ys.flatMap V.leaves ++ rest)) :: R := by
   show (.cells g e ((r.xs ++ ys).flatMap V.leaves ++ rest)) :: R = _
   rw [List.flatMap_append, List.append_assoc]
  rw [e1] at h4
  have e2 : xLeaf (some ⟨g, cap, r.xs ++ ys, rest⟩) = .raw (.slice (some ⟨g, 0, none⟩) (r.xs.length + ys.length) cap) := by
   show V.raw (.slice (some ⟨g, 0, none⟩) (r.xs ++ ys).length cap) = _
   rw [Ya]
  rw [e2] at h4
  exact h4
end
def xA : Option XRow → Option Addr
 | none => none
 | some r => some ⟨r.g, 0, none⟩
def xcap : Option XRow → Nat
 | none => 0
 | some r => r.cap
theorem xLeaf_raw (o : Option XRow) : xLeaf o = .raw (.slice (xA o) (xl o).length (xcap o)) := by cases o <;> rfl
section
variable {P : Program} {nt : Nat} {F : Fr} {S : Store} {Q : Exit → Fr → Store → Prop}
theorem VW_conv {q : Nat} {v v' : V} {c : Code} (hq : F.get q = some v) (hle : V.le v v') (h : VW P nt c Q ((q, some v') :: F) S) : VW P nt c Q F S := by
 intro m w a QQ hf hw hK
 exact h m w a QQ (hf.put_same (v := v') (hle m _ (hf.get q v hq))) hw hK
theorem VW_freezeO {q sz : Nat} {T : TypeId} {o : Option XRow} {R : Store} {c : Code} (hq : F.get q = some (xLeaf o)) (hp : S.Perm (xOwn T o ++ R)) (hok : xOk sz o) (hx : ∀ x ∈ xl o, x.fits sz = true ∧ ((∃ ls, x = .agg ls) ∨ x.leaf = true))
  (h : VW P nt c Q ((q, some (.sl sz none (xl o))) :: F) R) : VW P nt c Q F S := by
 refine VW_perm hp ?_
 cases o with
 | none => exact VW_conv hq (V.le.nil sz) h
 | some r => exact VW_freeze 0 (rest := r.rest) r.xs hq rfl rfl rfl hok.1 hok.2.1 hx h
end
section
variable {P : Program}
theorem bin_pure {F : FuncId} (hc : ∀ (b off n c : Nat) (zs : List Int) (x : Int) (w : World), n ≤ zs.length → n < 4611686018427387904 → (∀ j, j < zs.length → w.cell? ⟨b, off + j, none⟩ = some (.int .i64 (zs.getD j 0))) → (zs.take n).Pairwise (· ≤ ·) →
      Calls P F #[.slice (some ⟨b, off, none⟩) n c, .int .i64 x] w fun e w' => e = .returned (.tuple #[.int .i64 ((zs.take n).countP (· < x) : Nat), .bool ((zs.take n).contains x)]) ∧ ∃ q, w' = w.drewN q)
    (tok : Option Tok) (zs : List Int) (x : Int) (hne : zs ≠ []) (hl : zs.length ≤ 1000000) (hs : zs.Pairwise (· ≤ ·)) :
    VPure P F [.sl 1 tok (zs.map V.int), .int x] (.tup [.int (zs.countP (· < x) : Nat), .bool (zs.contains x)]) := by
  intro m w us ha hw
  obtain ⟨u, us', rfl, hu, u2, us2, rfl, hu2, hu3⟩ := ha
  have hu2 : u2 = .int .i64 x := hu2
  have hu3 : us2 = [] := hu3
  subst hu2 hu3
  obtain ⟨A, cap, rfl, hcap, hmax, _, hels⟩ := hu
  obtain ⟨b, off, rfl, helz⟩ := hels.resolve_left (by simpa using hne)
  obtain ⟨cs, h1, h2⟩ := helz.flat
  have hfl : ∀ y ∈ zs.map V.int, y.flat = true := fun y hy => by
    obtain ⟨n, _, rfl⟩ := List.mem_map.1 hy
    rfl
  have hR := h1.flatOf hfl
  have hflat : (zs.map V.int).flatMap V.leaves = zs.map V.int := by
    clear hels helz h1 hR hcap hmax hfl hne hl hs
    induction zs with
    | nil => rfl
    | cons a l ih => rw [List.map_cons, List.flatMap_cons, ih]; rfl
  rw [hflat] at hR
  have hcs := repL_ints hR
  have hlen : (zs.map V.int).length = zs.length := List.length_map ..
  rw [hlen]
  refine (hc b off zs.length cap zs x w (Nat.le_refl _) (by omega) (fun j hj => ?_) (by rw [List.take_length]; exact hs)).mono ?_
  · refine hw.agree _ _ _ (h2 j _ ?_)
    rw [hcs, List.getElem?_map, List.getElem?_eq_getElem hj]
    simp [List.getD, hj]
  · rintro e w' ⟨rfl, q, rfl⟩
    rw [List.take_length]
    refine ⟨_, [], m, _, rfl, rfl, ⟨_, rfl, _, _, rfl, rfl, _, _, rfl, rfl, rfl⟩, ?_⟩
    exact ⟨⟨fun b o v hv => hw.agree b o v hv, hw.nodup, fun e he => by cases he⟩, rfl, rfl, rfl, Nat.le_refl _, fun _ _ _ => rfl, Sub.refl m, fun b o v h => .inl h, fun b hb => .inl hb⟩
end
end Go.VL
