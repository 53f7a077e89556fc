import Derived.Test.YtjekhhgjfelpgaaGreatV7
import Derived.Laws.Pointers
import Derived.Lib.Builder
set_option linter.all false
open List renaming flatMap_cons → Ya, append_assoc → Yb, mem_cons_self → Yc, flatMap → Yd, mem_of_getElem? → Ye, getElem?_eq_some_iff → Yf
open Nat renaming eq_zero_or_pos → Yg, ble_eq_true_of_le → Yh
namespace Go.VL
section
variable {P : Program} {nt : Nat} {F : Fr} {S : Store} {Q : Exit → Fr → Store → Prop} {K : Option V → Store → Prop}
variable {d : Option Tmp} {ty : TypeId} {pos : String} {af : Array Edge} {gd : Option (Nat × Bool)}
theorem FRel.put_same {m : Mem} {a : Act} {q : Nat} {v : V} (hf : FRel m nt F a) (h : Rep m v (a.tmps.getD q undef)) : FRel m nt ((q, some v) :: F) a :=
 ⟨hf.defers, hf.size, fun j u hu => by
  simp only [Fr.get] at hu
  cases hb : Nat.beq j q with
  | true =>
   rw [hb, cond_true] at hu
   injection hu with hu
   subst hu
   rw [Nat.eq_of_beq_eq_true hb]
   exact h
  | false =>
   rw [hb, cond_false] at hu
   exact hf.get j u hu⟩
theorem V_slice_raw {t e sz bytes : Nat} {z : Value} {len cap : Nat} {A : Option Addr} {x : Operand} {lo hi : Option Operand} {l h : Int} (ht : SliceTy P t e sz bytes z) (hx : F.ev x = some (.raw (.slice A len cap)))
  (hl : bound F 0 lo = some l) (hh : bound F len hi = some h) (h0 : 0 ≤ l) (h1 : l ≤ h) (h2 : h ≤ cap) (hk : K (some (.raw (.slice (if cap = l.toNat then A else A.map (·.add (l.toNat * sz))) (h.toNat - l.toNat) (cap - l.toNat)))) S) :
  VOp P nt ⟨d, .slice t x lo hi none, ty, pos, af, gd⟩ F S K := by
 refine VOp_pure _ (fun m w ac hf hw => ?_) hk
 have ha : ac.eval x = .slice A len cap := hf.ev hx
 obtain ⟨i, i1, i2, i3, i4⟩ := ht.info
 refine ⟨_, ?_, rfl⟩
 simp only [execOp, ha, Instr.sliceAt, Sem.run_bind, run_underlying ht.und w, Result.andThen_ok, Instr.slice, Option.map_none, bounds_run hf hl hh h0 h1 h2]
 simp [sizeOf, typeInfo, i1, i2]
theorem flat_drop {sz : Nat} : ∀ {xs : List V} {k : Nat} {el : V} {rest : List V}, (∀ x ∈ xs, x.leaves.length = sz) → xs[k]? = some el → ((xs.flatMap V.leaves ++ rest).drop (k * sz)).take sz = el.leaves
 | [], k, el, rest, _, h => by simp at h
 | x :: xs, 0, el, rest, hl, h => by
  simp at h
  subst h
  rw [Nat.zero_mul, List.drop_zero, Ya, Yb]
  rw [← hl x (Yc ..)]
  exact List.take_left
 | x :: xs, k + 1, el, rest, hl, h => by
  simp at h
  have := flat_drop (rest := rest) (fun y hy => hl y (List.mem_cons_of_mem _ hy)) h
  rw [Ya, Yb, Nat.succ_mul, Nat.add_comm (k * sz) sz, ← List.drop_drop]
  have hx := hl x (Yc ..)
  rw [show List.drop sz (x.leaves ++ (Yd V.leaves xs ++ rest)) = Yd V.leaves xs ++ rest by rw [← hx]; exact List.drop_left]
  exact this
theorem flat_set {sz : Nat} : ∀ {xs : List V} {k : Nat} {v : V} {rest : List V}, (∀ x ∈ xs, x.leaves.length = sz) → k < xs.length → v.leaves.length = sz →
  (xs.flatMap V.leaves ++ rest).take (k * sz) ++ v.leaves ++ (xs.flatMap V.leaves ++ rest).drop (k * sz + sz) = (xs.set k v).flatMap V.leaves ++ rest
 | [], k, v, rest, _, h, _ => by simp at h
 | x :: xs, 0, v, rest, hl, h, hv => by
  have hx := hl x (Yc ..)
  rw [Nat.zero_mul, List.take_zero, Nat.zero_add, List.set_cons_zero, Ya, Ya, List.nil_append, Yb, Yb]
  rw [show List.drop sz (x.leaves ++ (Yd V.leaves xs ++ rest)) = Yd V.leaves xs ++ rest by rw [← hx]; exact List.drop_left]
 | x :: xs, k + 1, v, rest, hl, h, hv => by
  have hx := hl x (Yc ..)
  have ih := flat_set (rest := rest) (fun y hy => hl y (List.mem_cons_of_mem _ hy)) (show k < xs.length by simpa using h) hv
  rw [List.set_cons_succ, Ya, Ya]
  simp only [Yb] at ih ⊢
  rw [← ih]
  have e1 : (k + 1) * sz = x.leaves.length + k * sz := by rw [Nat.succ_mul, hx, Nat.add_comm]
  rw [e1, List.take_length_add_append, Nat.add_assoc, List.drop_length_add_append]
  simp only [Yb]
theorem V_load_elem (i k : Nat) {t sz : Nat} {x : Operand} {g o : Nat} {T : TypeId} {ls rest xs : List V} {vs : List V} (ht : AggTy P t sz) (hx : F.ev x = some (.ptr g o)) (ho : o = k * sz) (hS : S[i]? = some (.cells g T ls)) (hls : ls = xs.flatMap V.leaves ++ rest) (hfit : ∀ x ∈ xs, x.leaves.length = sz) (he : xs[k]? = some (.agg vs))
  (hk : K (some (.agg vs)) S) : VOp P nt ⟨d, .load t x, ty, pos, af, gd⟩ F S K := by
 have hkl := (Yf.1 he).1
 have h1 := flat_drop (rest := rest) hfit he
 have hle : o + sz ≤ ls.length := by
  have h2 : ((ls.drop o).take sz).length = sz := by
   rw [ho, hls, h1]
   exact hfit _ (Ye he)
  rw [List.length_take, List.length_drop] at h2
  rcases Yg sz with h0 | h0
  ·subst h0
   rw [ho, Nat.mul_zero]
   omega
  ·omega
 refine V_load_agg i ht hx hS (Yh hle) ?_
 rw [ho, hls, h1]
 exact hk
theorem V_load_elem1 (i k : Nat) {t : Nat} {x : Operand} {g o : Nat} {T : TypeId} {ls rest xs : List V} {v : V} (ht : LeafTy P t) (hx : F.ev x = some (.ptr g o)) (ho : o = k) (hS : S[i]? = some (.cells g T ls)) (hls : ls = xs ++ rest) (he : xs[k]? = some v)
  (hk : K (some v) S) : VOp P nt ⟨d, .load t x, ty, pos, af, gd⟩ F S K := by
 refine V_load i ht hx hS ?_ hk
 rw [hls, ho, List.getElem?_append_left (Yf.1 he).1]
 exact he
theorem V_store_elem (i k : Nat) {t sz : Nat} {x y : Operand} {g o : Nat} {T : TypeId} {ls rest xs : List V} {vs : List V} (ht : AggTy P t sz) (hx : F.ev x = some (.ptr g o)) (ho : o = k * sz) (hy : F.ev y = some (.agg vs)) (hvs : Nat.beq vs.length sz = true) (hS : S[i]? = some (.cells g T ls)) (hls : ls = xs.flatMap V.leaves ++ rest)
  (hfit : ∀ x ∈ xs, x.leaves.length = sz) (hkl : k < xs.length) (hk : K none (S.set i (.cells g T ((xs.set k (.agg vs)).flatMap V.leaves ++ rest)))) : VOp P nt ⟨d, .store t x y, ty, pos, af, gd⟩ F S K := by
 have hvl : vs.length = sz := Nat.eq_of_beq_eq_true hvs
 have he := List.getElem?_eq_getElem hkl
 have h1 := flat_drop (rest := rest) hfit he
 have hle : o + sz ≤ ls.length := by
  have h2 : ((ls.drop o).take sz).length = sz := by
   rw [ho, hls, h1]
   exact hfit _ (Ye he)
  rw [List.length_take, List.length_drop] at h2
  rcases Yg sz with h0 | h0
  ·subst h0
   rw [ho, Nat.mul_zero]
   omega
  ·omega
 refine V_store_agg i ht hx hy hvs hS (Yh hle) ?_
 rw [ho, hls]
 have := flat_set (rest := rest) (v := .agg vs) hfit hkl hvl
 have hl2 : (V.agg vs).leaves = vs := rfl
 rw [hl2] at this
 rw [this]
 exact hk
theorem V_store_elem1 (i k : Nat) {t : Nat} {x y : Operand} {g o : Nat} {T : TypeId} {ls rest xs : List V} {v : V} (ht : LeafTy P t) (hx : F.ev x = some (.ptr g o)) (ho : o = k) (hy : F.ev y = some v) (hl : v.leaf = true) (hS : S[i]? = some (.cells g T ls)) (hls : ls = xs ++ rest) (hkl : k < xs.length)
  (hk : K none (S.set i (.cells g T (xs.set k v ++ rest)))) : VOp P nt ⟨d, .store t x y, ty, pos, af, gd⟩ F S K := by
 refine V_store i ht hx hy hl hS (Yh (by rw [hls, List.length_append]; omega)) ?_
 rw [ho, hls, List.set_append_left _ _ hkl]
 exact hk
end
end Go.VL
namespace Go.VL
section
variable {P : Program} {nt : Nat} {F : Fr} {S : Store} {Q : Exit → Fr → Store → Prop} {K : Option V → Store → Prop}
variable {d : Option Tmp} {ty : TypeId} {pos : String} {af : Array Edge} {gd : Option (Nat × Bool)}
def VKeep (P : Program) (f : FuncId) (args : List V) (S : Store) (r : V) : Prop := VCalls P f args S fun r' S' => r' = r ∧ S' = S
theorem VOp.drops {o : Oper} {K' : Option V → Store → Prop} (h : VOp P nt o F S K') (hk : ∀ r S', K' r S' → ∃ T, Drops S' T ∧ K r T) : VOp P nt o F S K := by
 intro m w a KK QQ hf hw hK
 refine h m w a KK QQ hf hw fun r S' m' w' u hr hru st => ?_
 obtain ⟨T, hd, hk'⟩ := hk r S' hr
 exact hK r T m' w' u hk' hru (st.trans (hd.step st.rel))
def V.le (v v' : V) : Prop := ∀ m u, Rep m v u → Rep m v' u
theorem V.le.refl (v : V) : V.le v v := fun _ _ h => h
theorem V.le.of_eq {v v' : V} (h : v = v') : V.le v v' := h ▸ V.le.refl v
theorem V.le.nil (sz : Nat) : V.le V.nilSl (.sl sz none []) := fun m u h => ⟨none, 0, h, Nat.le_refl _, Nat.zero_le _, trivial, .inl rfl⟩
theorem V.le.strip {sz : Nat} {t : Option Tok} {xs : List V} : V.le (.sl sz t xs) (.sl sz none xs) := fun m u ⟨A, cap, h1, h2, h3, h4, h5⟩ => ⟨A, cap, h1, h2, h3, trivial, h5⟩
def V.les : List V → List V → Prop
 | [], [] => True
 | x :: xs, y :: ys => V.le x y ∧ y.leaf = true ∧ V.les xs ys
 | _, _ => False
theorem V.les.repL {m : Mem} : ∀ {xs ys : List V} {us : List Value}, V.les xs ys → RepL m xs us → RepL m ys us ∧ ys.all V.leaf = true
 | [], [], us, _, h => ⟨h, rfl⟩
 | x :: xs, y :: ys, us, ⟨h1, h2, h3⟩, ⟨u, us', e, r, k⟩ => by
  obtain ⟨k1, k2⟩ := V.les.repL h3 k
  exact ⟨⟨u, us', e, h1 _ _ r, k1⟩, by rw [List.all_cons, h2, k2]; rfl⟩
 | [], y :: ys, _, h, _ => h.elim
 | x :: xs, [], _, h, _ => h.elim
theorem V.le.agg {xs ys : List V} (h : V.les xs ys) : V.le (.agg xs) (.agg ys) := fun m u ⟨hl, us, hu, hr⟩ => ⟨(h.repL hr).2, us, hu, (h.repL hr).1⟩
theorem VOp_as {o : Oper} {v v' : V} (h : VOp P nt o F S fun r S' => r = some v ∧ S' = S) (hle : V.le v v') (hk : K (some v') S) : VOp P nt o F S K := by
 intro m w a KK QQ hf hw hK
 refine h m w a KK QQ hf hw fun r S' m' w' u ⟨h1, h2⟩ hru st => ?_
 subst h1
 subst h2
 exact hK _ _ m' w' u hk (hle _ _ hru) st
theorem V_slice_rawTo {t e sz bytes : Nat} {z : Value} {len cap g o : Nat} {x y : Operand} {h : Int} (ht : SliceTy P t e sz bytes z) (hx : F.ev x = some (.raw (.slice (some ⟨g, o, none⟩) len cap))) (hy : F.ev y = some (.int h)) (h0 : 0 ≤ h) (h2 : h ≤ cap)
  (hk : K (some (.raw (.slice (some ⟨g, o, none⟩) h.toNat cap))) S) : VOp P nt ⟨d, .slice t x none (some y) none, ty, pos, af, gd⟩ F S K := by
 refine V_slice_raw (l := 0) ht hx rfl (bound_of hy) (Int.le_refl _) h0 h2 ?_
 have e : (if cap = (0 : Int).toNat then (some ⟨g, o, none⟩ : Option Addr) else (some ⟨g, o, none⟩ : Option Addr).map (·.add ((0 : Int).toNat * sz))) = some ⟨g, o, none⟩ := by
  split
  ·rfl
  ·simp [Addr.add]
 rw [e]
 exact hk
theorem V_sliceFrom {t e sz bytes : Nat} {z : Value} {tok : Option Tok} {x y : Operand} {xs : List V} {l : Int} (ht : SliceTy P t e sz bytes z) (hx : F.ev x = some (.sl sz tok xs)) (hy : F.ev y = some (.int l)) (h0 : 0 ≤ l) (h1 : l ≤ xs.length)
  (hk : K (some (.sl sz none (xs.drop l.toNat))) S) : VOp P nt ⟨d, .slice t x (some y) none none, ty, pos, af, gd⟩ F S K := by
 refine V_slice (h := xs.length) ht hx (bound_of hy) rfl h0 h1 (Int.le_refl _) ?_
 rw [Int.toNat_natCast, List.take_length]
 exact hk
theorem V_sliceTo {t e sz bytes : Nat} {z : Value} {tok : Option Tok} {x y : Operand} {xs : List V} {h : Int} (ht : SliceTy P t e sz bytes z) (hx : F.ev x = some (.sl sz tok xs)) (hy : F.ev y = some (.int h)) (h0 : 0 ≤ h) (h1 : h ≤ xs.length)
  (hk : K (some (.sl sz none (xs.take h.toNat))) S) : VOp P nt ⟨d, .slice t x none (some y) none, ty, pos, af, gd⟩ F S K :=
 V_slice ht hx rfl (bound_of hy) (Int.le_refl _) h0 h1 hk
theorem Drops.keepE {e e' : Own} {S T : Store} (he : e = e') (h : Drops S T) : Drops (e :: S) (e' :: T) := he ▸ Drops.keep h
def oneRes {G : Type} (f : G → V) : DRes G := fun γs r => ∃ x, γs = [x] ∧ r = some (f x)
theorem oneE {G : Type} {C : Prop} {r : Option V} {f : G → V} {y : G} (h : ∃ x, [y] = [x] ∧ r = some (f x)) (k : r = some (f y) → C) : C := by
 obtain ⟨x, hx, h⟩ := h
 injection hx with hx
 subst hx
 exact k h
theorem oneY {G : Type} {r : Option V} {f : G → V} {y : G} (h : ∃ x, [y] = [x] ∧ r = some (f x)) : r = some (f y) := oneE h id
def lookIdx (ops : List Oper) (s : Nat) : List Nat → Option Nat
 | [] => none
 | k :: t => bif isDst ops k s then some k else lookIdx ops s t
theorem lookP_w {G : Type} {ops : List Oper} {F0 : Fr} {ps : List DP} {acc : List (DRes G)} {γ : Nat → G} {s j : Nat} {R : DRes G} {r : Option V} (h2 : nth acc j = some R) : ∀ {pre : List Nat}, lookIdx ops s pre = some j → lookP ops F0 ps acc γ s pre r → R ((dpAt ps j).2.2.map γ) r
 | [], h, _ => by cases h
 | k :: t, h, hl => by
  rw [lookIdx] at h
  rw [lookP] at hl
  cases hb : isDst ops k s with
  | true =>
   rw [hb, cond_true] at h hl
   injection h with h
   subst h
   rw [h2] at hl
   exact hl
  | false =>
   rw [hb, cond_false] at h hl
   exact lookP_w h2 h hl
theorem lookP_f {G : Type} {ops : List Oper} {F0 : Fr} {ps : List DP} {acc : List (DRes G)} {γ : Nat → G} {s : Nat} {r : Option V} : ∀ {pre : List Nat}, lookIdx ops s pre = none → lookP ops F0 ps acc γ s pre r → r = F0.get s
 | [], _, hl => hl
 | k :: t, h, hl => by
  rw [lookIdx] at h
  rw [lookP] at hl
  cases hb : isDst ops k s with
  | true => rw [hb, cond_true] at h; cases h
  | false =>
   rw [hb, cond_false] at h hl
   exact lookP_f h hl
theorem Needs_w {G : Type} {ops : List Oper} {F0 : Fr} {ps : List DP} {acc : List (DRes G)} {γ : Nat → G} {pre t : List Nat} {s : Nat} {k : Fr → Prop} (j : Nat) {R : DRes G} (h1 : lookIdx ops s pre = some j) (h2 : nth acc j = some R) (h : ∀ r, R ((dpAt ps j).2.2.map γ) r → Needs ops F0 ps acc γ pre t fun F => k ((s, r) :: F)) :
  Needs ops F0 ps acc γ pre (s :: t) k := fun r hl => h r (lookP_w h2 h1 hl)
theorem Needs_f {G : Type} {ops : List Oper} {F0 : Fr} {ps : List DP} {acc : List (DRes G)} {γ : Nat → G} {pre t : List Nat} {s : Nat} {k : Fr → Prop} (h1 : lookIdx ops s pre = none) (h : ∀ r, r = F0.get s → Needs ops F0 ps acc γ pre t fun F => k ((s, r) :: F)) :
  Needs ops F0 ps acc γ pre (s :: t) k := fun r hl => h r (lookP_f h1 hl)
theorem Needs_nil {G : Type} {ops : List Oper} {F0 : Fr} {ps : List DP} {acc : List (DRes G)} {γ : Nat → G} {pre : List Nat} {k : Fr → Prop} (h : k []) : Needs ops F0 ps acc γ pre [] k := h
theorem goodU1 {G : Type} {ops : List Oper} {F0 : Fr} {ps : List DP} {un : List Nat} {acc : List (DRes G)} {i : Nat} {o : Oper} {R : DRes G} {A : Store} {B : G → Store} (hu : isUn un i 0 = some 0)
  (h : ∀ γ : Nat → G, Needs ops F0 ps acc γ (dpAt ps i).1 (dpAt ps i).2.1 fun F => VOpG ops P nt o F A fun r S' => ∃ x, R ((dpAt ps i).2.2.map (upd γ 0 x)) r ∧ S' = B x) : OpGood ops F0 ps un (oneSt A B) P nt i o acc R :=
 goodU 0 hu h
theorem VOps_skipU {ops l : List Oper} {Q' : Fr → Store → Prop} {o : Oper} (hw : wantOf ops F o = some false ∨ ∃ j want q, o.guard = some (j, want) ∧ (ops[j]?).bind (·.dst) = some q ∧ F.get q = some (.raw undef)) (hd : dstOk nt o.dst = true)
  (h : VOps P nt ops l (F.put o.dst (some (.raw undef))) S Q') : VOps P nt ops (o :: l) F S Q' := by
 intro m w a QQ hf hwr hK
 refine wpList_step fun K hKl => ?_
 have hn : Region.wanted o (yielded ops.toArray a.tmps) = false := by
  rcases hw with hw | ⟨j, want, q, h1, h2, h3⟩
  ·exact wanted_of hf hw
  ·have hu : a.tmps.getD q undef = undef := hf.get q _ h3
   have hop : (ops.toArray[j]?).bind (·.dst) = some q := by simpa using h2
   unfold Region.wanted
   rw [h1]
   dsimp only
   unfold yielded
   rw [hop, Option.bind_some]
   rcases Nat.lt_or_ge q a.tmps.size with hl | hl
   ·have : a.tmps[q]? = some undef := by simpa [hl] using hu
    rw [this]
    cases want <;> rfl
   ·rw [Array.getElem?_eq_none hl]
    cases want <;> rfl
 rw [if_neg (by rw [hn]; exact Bool.false_ne_true)]
 exact hKl _ _ (h m w _ QQ (hf.put hd (r := some (.raw undef)) rfl) hwr hK)
instance : Inhabited Tok := ⟨.nil⟩
theorem raw_leaves {cs : List Value} (h : ∀ c ∈ cs, c.oneCell' = true) : (cs.map V.raw).all V.leaf = true := by
 rw [List.all_eq_true]
 intro x hx
 obtain ⟨c, hc, rfl⟩ := List.mem_map.1 hx
 exact h c hc
theorem raw_repL {m : Mem} : ∀ {cs : List Value}, RepL m (cs.map V.raw) cs
 | [] => rfl
 | c :: cs => ⟨c, cs, rfl, rfl, raw_repL⟩
theorem zeroCells_mem {z : Value} {n : Nat} {c : Value} (h1 : ∀ c ∈ z.cells.toList, c.oneCell' = true) (hc : c ∈ (Builtin.zeroCells z.cells n).toList) : c.oneCell' = true := by
 have : c ∈ Builtin.zeroCells z.cells n := by simpa using hc
 unfold Builtin.zeroCells at this
 simp only [Array.mem_map, Array.mem_range] at this
 obtain ⟨i, hi, rfl⟩ := this
 have hp : 0 < z.cells.size := by
  rcases Yg z.cells.size with h | h
  ·rw [h] at hi; omega
  ·exact h
 have hlt := Nat.mod_lt i hp
 rw [getElem!_pos z.cells _ hlt]
 exact h1 _ (by simp)
end
end Go.VL
namespace Go.VL
section
variable {P : Program} {nt : Nat} {F : Fr} {S : Store} {K : Option V → Store → Prop}
variable {d : Option Tmp} {ty : TypeId} {pos : String} {af : Array Edge} {gd : Option (Nat × Bool)}
theorem run_equalIn_boolV (w : World) (n : Nat) (t : TypeId) (x y : Bool) (hu : P.underlying t = some .bool) : (Op.equalIn (n + 1) t (.bool x) (.bool y)).run P w = .ok (x == y) w := by
 rw [Op.equalIn]
 simp [run_underlying hu]
theorem run_equal_bool (w : World) (t : TypeId) (x y : Bool) (hu : P.underlying t = some .bool) : (Op.equal t (.bool x) (.bool y)).run P w = .ok (x == y) w := by
 simp [Op.equal, Op.maxDepth, run_equalIn_boolV w 9999 t x y hu]
end
end Go.VL
namespace Go.VL
section
variable {P : Program} {nt : Nat} {F : Fr} {S : Store} {Q : Exit → Fr → Store → Prop} {K : Option V → Store → Prop}
variable {d : Option Tmp} {ty : TypeId} {pos : String} {af : Array Edge} {gd : Option (Nat × Bool)}
theorem erase_set {α : Type} {e : α} : ∀ (l : List α) (i : Nat), (l.set i e).eraseIdx i = l.eraseIdx i
 | [], _ => rfl
 | a :: l, 0 => rfl
 | a :: l, i + 1 => by rw [List.set_cons_succ, List.eraseIdx_cons_succ, List.eraseIdx_cons_succ, erase_set l i]
end
end Go.VL
namespace Go.VL
section
variable {P : Program} {nt : Nat} {F : Fr} {S : Store} {Q : Exit → Fr → Store → Prop} {K : Option V → Store → Prop}
variable {d : Option Tmp} {ty : TypeId} {pos : String} {af : Array Edge} {gd : Option (Nat × Bool)}
def VList (P : Program) (f : FuncId) (args : List V) (T sz : Nat) (xs : List V) : Prop := VCalls P f args [] fun r S' => ∃ tok, r = .sl sz (some tok) xs ∧ S' = [.buf tok T sz xs.length]
theorem VList.pure {f : FuncId} {args : List V} {T sz : Nat} {xs : List V} (h : VList P f args T sz xs) : VCalls P f args [] fun r S' => ∃ tok, r = .sl sz (some tok) xs ∧ S' = [.buf tok T sz xs.length] := h
theorem Drops.pick {S T : Store} (i : Nat) {e e' : Own} (hS : S[i]? = some e) (he : e = e') (h : Drops (S.eraseIdx i) T) : Drops S (e' :: T) := by
 obtain ⟨R, hp⟩ := h
 subst he
 exact ⟨R, (perm_erase hS).trans ((hp.cons e).trans List.perm_middle.symm)⟩
theorem VW_cutF {x y : Code} (F1 : Fr) (S1 : Store) (h1 : VW P nt x (Then (fun F' S' => Fr.sub F1 F' ∧ Drops S' S1) Q) F S) (h2 : VW P nt y Q F1 S1) : VW P nt (.seq x y) Q F S :=
 VW_cut _ h1 fun F' S' ⟨hs, R, hp⟩ => VW.weaken hs hp (VW.drop h2)
theorem V.le.nilTok (sz : Nat) : V.le V.nilSl (.sl sz (some .nil) []) := fun m u h => ⟨none, 0, h, Nat.le_refl _, Nat.zero_le _, ⟨rfl, rfl⟩, .inl rfl⟩
theorem VW_cells (i : Nat) {g : Nat} {T : TypeId} {ls ls' : List V} {c : Code} (hS : S[i]? = some (.cells g T ls)) (hle : V.les ls ls') (h : VW P nt c Q F (S.set i (.cells g T ls'))) : VW P nt c Q F S := by
 intro m w a QQ hf hw hK
 have hd : dom (S.set i (.cells g T ls')) = dom S := dom_set hS rfl
 have hrel : WRel m (S.set i (.cells g T ls')) w := by
  refine ⟨hw.agree, by rw [hd]; exact hw.nodup, fun e he => ?_⟩
  rcases mem_set_cases he with he | he
  ·rw [he]
   obtain ⟨_, ⟨cs, h1, h2⟩, h3⟩ := hw.holds _ (Ye hS)
   exact ⟨(hle.repL h2).2, ⟨cs, h1, (hle.repL h2).1⟩, h3⟩
  ·exact hw.holds e he
 have hst : Step m S w m (S.set i (.cells g T ls')) w := ⟨hrel, rfl, rfl, rfl, Nat.le_refl _, fun _ _ _ => rfl, Sub.refl m, fun _ _ _ h => .inl h, fun b hb => .inl (by rw [hd] at hb; exact hb)⟩
 exact h m w a QQ hf hrel fun e F' S' m' w' a' hq hf' st => hK e F' S' m' w' a' hq hf' (hst.trans st)
theorem VW_nilBuf (T sz : Nat) {c : Code} (h : VW P nt c Q F (.buf .nil T sz 0 :: S)) : VW P nt c Q F S := by
 intro m w a QQ hf hw hK
 have hst := WRel.nilBuf hw T sz .nil (.inl rfl)
 exact h m w a QQ hf hst.rel fun e F' S' m' w' a' hq hf' st => hK e F' S' m' w' a' hq hf' (hst.trans st)
end
end Go.VL
namespace Go.VL
section
variable {P : Program} {nt : Nat} {F : Fr} {S : Store} {K : Option V → Store → Prop}
variable {d : Option Tmp} {ty : TypeId} {pos : String} {af : Array Edge} {gd : Option (Nat × Bool)}
end
end Go.VL
namespace Go.VL
section
variable {P : Program} {nt : Nat} {F : Fr} {S : Store} {Q : Exit → Fr → Store → Prop} {K : Option V → Store → Prop}
variable {d : Option Tmp} {ty : TypeId} {pos : String} {af : Array Edge} {gd : Option (Nat × Bool)}
theorem VCalls_le {f : FuncId} {vs vs' : List V} {R : V → Store → Prop} (h : ∀ m us, RepL m vs us → RepL m vs' us) (k : VCalls P f vs' S R) : VCalls P f vs S R := fun m w us ha hw => k m w us (h m _ ha) hw
theorem run_neq_bool (w : World) (t : TypeId) (x y : Bool) (hu : P.underlying t = some .bool) : (binOp .neq t (.bool x) (.bool y)).run P w = .ok (.bool (!(x == y))) w := by
 simp only [binOp]
 simp [run_equal_bool w t x y hu]
theorem V_boolne {t t2 : TypeId} {x y : Operand} {a b : Bool} (hu : P.underlying t = some .bool) (hx : F.ev x = some (.bool a)) (hy : F.ev y = some (.bool b)) (hk : K (some (.bool (!(a == b)))) S) :
  VOp P nt ⟨d, .binOp .neq t x y t2, ty, pos, af, gd⟩ F S K := by
 refine VOp_pure (some (.bool (!(a == b)))) (fun m w ac hf hw => ?_) hk
 have ha : ac.eval x = .bool a := hf.ev hx
 have hb : ac.eval y = .bool b := hf.ev hy
 refine ⟨.bool (!(a == b)), ?_, rfl⟩
 have hg : (eqGuard .neq t x y (.bool a) (.bool b)).run P w = .ok () w := rfl
 simp only [execOp, ha, hb, Sem.run_bind, hg, Result.andThen_ok, run_neq_bool w t a b hu]
 rfl
end
end Go.VL
namespace Go.VL
section
variable {P : Program} {nt : Nat} {F : Fr} {S : Store} {K : Option V → Store → Prop}
variable {d : Option Tmp} {ty : TypeId} {pos : String} {af : Array Edge} {gd : Option (Nat × Bool)}
theorem V_rem {t t2 : TypeId} {x y : Operand} {a b : Int} (hx : F.ev x = some (.int a)) (hy : F.ev y = some (.int b)) (hb : b ≠ 0) (hk : K (some (.int (a.tmod b))) S) :
  VOp P nt ⟨d, .binOp .rem t x y t2, ty, pos, af, gd⟩ F S K := by
 refine VOp_pure (some (.int (a.tmod b))) (fun m w ac hf hw => ?_) hk
 have ha : ac.eval x = .int .i64 a := hf.ev hx
 have hb' : ac.eval y = .int .i64 b := hf.ev hy
 refine ⟨.int .i64 (a.tmod b), ?_, rfl⟩
 simp only [execOp, ha, hb', Sem.run_bind]
 simp [eqGuard, binOp, Op.intDiv, hb]
end
end Go.VL
