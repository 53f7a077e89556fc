import Derived.Test.YtpkbgamoboojaaaGreatVYA
import Derived.Laws.Pointers
import Derived.Lib.Builder
import Derived.ChangeKeysEq
set_option linter.all false
open List renaming all_eq_true → Ya, append_assoc → Yb, getElem?_eq_some_iff → Yc, all_append → Yd, flatMap_cons → Ye, length_take → Yf, nil_append → Yg, length_append → Yh, mem_cons_self → Yi, flatMap → Yj, mem_flatMap → Yk, mem_of_getElem? → Yl, getElem?_append_left → Ym, mem_of_mem_take → Yn, getElem?_append_right → Yo
open Nat renaming beq → Yp, zero_add → Yq, ble → Yr, beq_eq → Ys, le_refl → Yt, zero_le → Yu, add_mul → Yv, le_trans → Yw, eq_of_beq_eq_true → Yx, le_mul_of_pos_right → Yy, eq_zero_or_pos → Yz
open Int renaming le_refl → Yaa, natCast_pow → Yab
section
namespace Go.VL
section
variable {P : Program} {nt : Nat} {F : Fr} {S : Store} {Q : Exit -> Fr -> Store -> Prop} {K : Option V -> Store -> Prop}
variable {d : Option Tmp} {ty : TypeId} {pos : String} {af : Array Edge} {gd : Option (Nat × Bool)}
theorem FRel.put_same {m : Mem} {a : Act} {q : Nat} {v : V} (hf : FRel m nt F a) (h : Rep m v (a.tmps.getD q undef)) : FRel m nt ((q, some v) :: F) a :=
 ⟨hf.defers, hf.size, λ j u hu => by
  simp only [Fr.get] at hu
  cases hb : Yp j q with
  | true =>
   rw [hb, cond_true] at hu
   injection hu with hu
   subst hu
   rw [Yx hb]
   exact h
  | false =>
   rw [hb, cond_false] at hu
   exact hf.get j u hu⟩
theorem VW_nil {q : Nat} (T sz : Nat) {c : Code} (hq : F.get q = some V.nilSl) (h : VW P nt c Q ((q, some (.sl sz (some .nil) [])) :: F) (.buf .nil T sz 0 :: S)) : VW P nt c Q F S := by
 intro m w a QQ hf hw hK
 have hv : a.tmps.getD q undef = .slice none 0 0 := hf.get q _ hq
 have hst := WRel.nilBuf hw T sz .nil (.inl rfl)
 exact h m w a QQ (hf.put_same (v := .sl sz (some .nil) []) ⟨none, 0, hv, Yt _, Yu _, ⟨rfl, rfl⟩, .inl rfl⟩) hst.rel λ e F' S' m' w' a' k hf' st => hK e F' S' m' w' a' k hf' (hst.trans st)
theorem V_cap_raw {t e len cap : Nat} {A : Option Addr} {x : Operand} (ht : P.underlying t = some (.slice e)) (hx : F.ev x = some (.raw (.slice A len cap))) (hk : K (some (.int cap)) S) :
  VOp P nt ⟨d, .call ⟨.builtin .cap, #[x], #[t]⟩, ty, pos, af, gd⟩ F S K := by
 refine VOp_pure _ (λ m w ac hf hw => ?_) hk
 have ha : ac.eval x = .slice A len cap := hf.ev hx
 exact ⟨.int .i64 cap, by simp [BigFrame.execOp_builtin, BigFrame.builtin_cap, Builtin.cap_, ha, run_underlying ht w, goInt], rfl⟩
theorem V_slice_raw {t e sz bytes : Nat} {z : Value} {len cap : Nat} {A : Option Addr} {x : Operand} {lo hi : Option Operand} {l h : Int} (ht : SliceTy P t e sz bytes z) (hx : F.ev x = some (.raw (.slice A len cap)))
  (hl : bound F 0 lo = some l) (hh : bound F len hi = some h) (h0 : 0 <= l) (h1 : l <= h) (h2 : h <= cap) (hk : K (some (.raw (.slice (if cap = l.toNat then A else A.map (·.add (l.toNat * sz))) (h.toNat - l.toNat) (cap - l.toNat)))) S) :
  VOp P nt ⟨d, .slice t x lo hi none, ty, pos, af, gd⟩ F S K := by
 refine VOp_pure _ (λ m w ac hf hw => ?_) hk
 have ha : ac.eval x = .slice A len cap := hf.ev hx
 obtain ⟨i, i1, i2, i3, i4⟩ := ht.info
 refine ⟨_, ?_, rfl⟩
 simp only [execOp, ha, Instr.sliceAt, Sem.run_bind, run_underlying ht.und w, Result.andThen_ok, Instr.slice, Option.map_none, bounds_run hf hl hh h0 h1 h2]
 simp [sizeOf, typeInfo, i1, i2]
theorem V_growNil {t tn e sz bytes : Nat} {z : Value} {s x : Operand} {n : Int} (ht : SliceTy P t e sz bytes z) (htn : P.underlying tn = some (.int .i64)) (hs : F.ev s = some V.nilSl) (hx : F.ev x = some (.int n)) (h0 : 0 < n) (hb : n * bytes <= 140737488355328)
  (hk : ∀ g cap : Nat, n <= cap -> cap <= 9223372036854775807 -> K (some (.raw (.slice (some ⟨g, 0, none⟩) n.toNat cap))) (.buf (.at g cap) e sz 0 :: S)) :
  VOp P nt ⟨d, .call ⟨.builtin .append, #[s, x], #[t, tn]⟩, ty, pos, af, gd⟩ F S K := by
 intro m w ac KK QQ hf hw hK
 have hsv : ac.eval s = .slice none 0 0 := hf.ev hs
 have hxv : ac.eval x = .int .i64 n := hf.ev hx
 obtain ⟨ii, i1, i2, i3, i4⟩ := ht.info
 have hpos := ht.pos.1
 have hbpos := ht.pos.2
 have hnb : n <= n * bytes := by
  have := Int.mul_le_mul_of_nonneg_left (show (1 : Int) <= bytes by omega) (Int.le_of_lt h0)
  omega
 obtain ⟨k, rfl⟩ := Int.eq_ofNat_of_zero_le (Int.le_of_lt h0)
 have hkb : k * bytes <= 140737488355328 := by
  have : ((k * bytes : Nat) : Int) = (k : Int) * bytes := Int.natCast_mul ..
  omega
 have hge := grownCap_ge w (0 + k) 0 e
 have hcm : grownCap w (0 + k) 0 e <= maxLen := grownCap_le_maxLen w _ 0 e (by simp only [maxLen]; omega)
 have hcell : ∀ q, (Builtin.zeroCells z.cells q).toList.length = q * sz := λ q => by rw [zeroCells_len, ht.cells]
 have hrun : (execOp ac.eval ⟨d, .call ⟨.builtin .append, #[s, x], #[t, tn]⟩, ty, pos, af, gd⟩).run P w = .ok (.value (.slice (some ⟨w.heap.size, 0, none⟩) (0 + k) (grownCap w (0 + k) 0 e)))
   (w.drew.alloc (.cells (Builtin.zeroCells z.cells k ++ Builtin.zeroCells z.cells (grownCap w (0 + k) 0 e - (0 + k))) e)) := by
  have hw64 : IntKind.i64.wrap (k : Int) = k := by rw [IntKind.wrap_i64]; omega
  have n1 : ¬ ((k : Int) < 0) := by omega
  have n2 : ¬ (281474976710656 < (k : Int) * (ii.bytes : Int)) := by rw [i3]; omega
  have n3 : ¬ (0 + k <= 0) := by omega
  have n4 : ¬ (9223372036854775807 < ((0 + k : Nat) : Int)) := by omega
  have n5 : ¬ (281474976710656 < Builtin.nextslicecap (0 + k) 0 * ii.bytes) := by
   have := growslice_fits (need := 0 + k) (old := 0) (bytes := ii.bytes) (by omega) (by rw [i3, Yq]; exact hkb)
   omega
  have n6 : ¬ (k * ii.size = 0) := by rw [i2]; have := Nat.mul_pos (show 0 < k by omega) hpos; omega
  simp only [Yq] at n3 n4 n5
  have n7 : k ≠ 0 := by omega
  have n8 : ii.size ≠ 0 := by omega
  have n9 : ii.bytes ≠ 0 := by omega
  simp [BigFrame.execOp_builtin, BigFrame.builtin_append, hsv, hxv, Builtin.append_, run_underlying ht.und, run_underlying htn, sizeOf, typeInfo, i1, asInt, asIntOf, hw64, n1, n2, n4, n5, n7, n8, n9, zeroValue, i4, Question.forced, run_firstCells_none, newRow, grownCap]
  intro hh
  exact absurd hh n6
 have hst := Step.allocBuf (T := e) (sz := sz) (n := 0) (cs := []) (cap := grownCap w (0 + k) 0 e) (rest := (Builtin.zeroCells z.cells k ++ Builtin.zeroCells z.cells (grownCap w (0 + k) 0 e - (0 + k))).toList) (Step.drew hw).rel (by simp) (Yu _) (by
  rw [Yg, Array.toList_append, Yh, hcell, hcell, <- Yv]
  congr 1
  omega)
 simp only [Yg, Array.toArray_toList] at hst
 unfold Oper.wp
 rw [hrun]
 refine hK _ _ _ _ _ (hk w.heap.size (grownCap w (0 + k) 0 e) (by omega) (by simp only [maxLen] at hcm; omega)) ?_ ((Step.drew hw).trans hst)
 show _ = _
 rw [Yq]
 rfl
theorem V_slice0 {t e sz bytes : Nat} {z : Value} {len cap g : Nat} {x y : Operand} (ht : SliceTy P t e sz bytes z) (hx : F.ev x = some (.raw (.slice (some ⟨g, 0, none⟩) len cap))) (hy : F.ev y = some (.int 0)) (hc : 0 < cap) (hm : cap <= 9223372036854775807)
  (hk : K (some (.sl sz (some (.at g cap)) [])) S) : VOp P nt ⟨d, .slice t x none (some y) none, ty, pos, af, gd⟩ F S K := by
 intro m w a KK QQ hf hw hK
 refine V_slice_raw (K := λ r S' => r = some (.raw (.slice (some ⟨g, 0, none⟩) 0 cap)) /\ S' = S) ht hx rfl (bound_of hy) (Yaa _) (Yaa _) (by omega) ?_ m w a KK QQ hf hw λ r S' m' w' u hr hru st => ?_
 .refine ⟨?_, rfl⟩
  have : cap ≠ 0 := by omega
  simp [this, Addr.add]
 obtain ⟨rfl, rfl⟩ := hr
 have hu : u = .slice (some ⟨g, 0, none⟩) 0 cap := hru
 exact hK _ _ m' w' u hk ⟨some ⟨g, 0, none⟩, cap, hu, Yu _, by simp only [maxLen]; omega, ⟨rfl, rfl⟩, .inl rfl⟩ st
theorem flat_drop {sz : Nat} : ∀ {xs : List V} {k : Nat} {el : V} {rest : List V}, (∀ x ∈ xs, x.leaves.length = sz) -> xs[k]? = some el -> ((xs.flatMap V.leaves ++ rest).drop (k * sz)).take sz = el.leaves
 | [], k, el, rest, _, h => by simp at h
 | x :: xs, 0, el, rest, hl, h => by
  simp at h
  subst h
  rw [Nat.zero_mul, List.drop_zero, Ye, Yb]
  rw [<- hl x (Yi ..)]
  exact List.take_left
 | x :: xs, k + 1, el, rest, hl, h => by
  simp at h
  have := flat_drop (rest := rest) (λ y hy => hl y (List.mem_cons_of_mem _ hy)) h
  rw [Ye, Yb, Nat.succ_mul, Nat.add_comm (k * sz) sz, <- List.drop_drop]
  have hx := hl x (Yi ..)
  rw [show List.drop sz (x.leaves ++ (Yj V.leaves xs ++ rest)) = Yj V.leaves xs ++ rest by rw [<- hx]; exact List.drop_left]
  exact this
theorem flat_set {sz : Nat} : ∀ {xs : List V} {k : Nat} {v : V} {rest : List V}, (∀ x ∈ xs, x.leaves.length = sz) -> k < xs.length -> v.leaves.length = sz ->
  (xs.flatMap V.leaves ++ rest).take (k * sz) ++ v.leaves ++ (xs.flatMap V.leaves ++ rest).drop (k * sz + sz) = (xs.set k v).flatMap V.leaves ++ rest
 | [], k, v, rest, _, h, _ => by simp at h
 | x :: xs, 0, v, rest, hl, h, hv => by
  have hx := hl x (Yi ..)
  rw [Nat.zero_mul, List.take_zero, Yq, List.set_cons_zero, Ye, Ye, Yg, Yb, Yb]
  rw [show List.drop sz (x.leaves ++ (Yj V.leaves xs ++ rest)) = Yj V.leaves xs ++ rest by rw [<- hx]; exact List.drop_left]
 | x :: xs, k + 1, v, rest, hl, h, hv => by
  have hx := hl x (Yi ..)
  have ih := flat_set (rest := rest) (λ y hy => hl y (List.mem_cons_of_mem _ hy)) (show k < xs.length by simpa using h) hv
  rw [List.set_cons_succ, Ye, Ye]
  simp only [Yb] at ih ⊢
  rw [<- ih]
  have e1 : (k + 1) * sz = x.leaves.length + k * sz := by rw [Nat.succ_mul, hx, Nat.add_comm]
  rw [e1, List.take_length_add_append, Nat.add_assoc, List.drop_length_add_append]
  simp only [Yb]
theorem V_load_elem (i k : Nat) {t sz : Nat} {x : Operand} {g o : Nat} {T : TypeId} {ls rest xs : List V} {vs : List V} (ht : AggTy P t sz) (hx : F.ev x = some (.ptr g o)) (ho : o = k * sz) (hS : S[i]? = some (.cells g T ls)) (hls : ls = xs.flatMap V.leaves ++ rest) (hfit : ∀ x ∈ xs, x.leaves.length = sz) (he : xs[k]? = some (.agg vs))
  (hk : K (some (.agg vs)) S) : VOp P nt ⟨d, .load t x, ty, pos, af, gd⟩ F S K := by
 have hkl := (Yc.1 he).1
 have h1 := flat_drop (rest := rest) hfit he
 have hle : o + sz <= ls.length := by
  have h2 : ((ls.drop o).take sz).length = sz := by
   rw [ho, hls, h1]
   exact hfit _ (Yl he)
  rw [Yf, List.length_drop] at h2
  rcases Yz sz with h0 | h0
  .subst h0
   rw [ho, Nat.mul_zero]
   omega
  omega
 refine V_load_agg i ht hx hS (Nat.ble_eq_true_of_le hle) ?_
 rw [ho, hls, h1]
 exact hk
theorem V_load_elem1 (i k : Nat) {t : Nat} {x : Operand} {g o : Nat} {T : TypeId} {ls rest xs : List V} {v : V} (ht : LeafTy P t) (hx : F.ev x = some (.ptr g o)) (ho : o = k) (hS : S[i]? = some (.cells g T ls)) (hls : ls = xs ++ rest) (he : xs[k]? = some v)
  (hk : K (some v) S) : VOp P nt ⟨d, .load t x, ty, pos, af, gd⟩ F S K := by
 refine V_load i ht hx hS ?_ hk
 rw [hls, ho, Ym (Yc.1 he).1]
 exact he
theorem V_store_elem (i k : Nat) {t sz : Nat} {x y : Operand} {g o : Nat} {T : TypeId} {ls rest xs : List V} {vs : List V} (ht : AggTy P t sz) (hx : F.ev x = some (.ptr g o)) (ho : o = k * sz) (hy : F.ev y = some (.agg vs)) (hvs : Yp vs.length sz = true) (hS : S[i]? = some (.cells g T ls)) (hls : ls = xs.flatMap V.leaves ++ rest)
  (hfit : ∀ x ∈ xs, x.leaves.length = sz) (hkl : k < xs.length) (hk : K none (S.set i (.cells g T ((xs.set k (.agg vs)).flatMap V.leaves ++ rest)))) : VOp P nt ⟨d, .store t x y, ty, pos, af, gd⟩ F S K := by
 have hvl : vs.length = sz := Yx hvs
 have he := List.getElem?_eq_getElem hkl
 have h1 := flat_drop (rest := rest) hfit he
 have hle : o + sz <= ls.length := by
  have h2 : ((ls.drop o).take sz).length = sz := by
   rw [ho, hls, h1]
   exact hfit _ (Yl he)
  rw [Yf, List.length_drop] at h2
  rcases Yz sz with h0 | h0
  .subst h0
   rw [ho, Nat.mul_zero]
   omega
  omega
 refine V_store_agg i ht hx hy hvs hS (Nat.ble_eq_true_of_le hle) ?_
 rw [ho, hls]
 have := flat_set (rest := rest) (v := .agg vs) hfit hkl hvl
 have hl2 : (V.agg vs).leaves = vs := rfl
 rw [hl2] at this
 rw [this]
 exact hk
end
end Go.VL
namespace Go.VL
section
variable {P : Program} {nt : Nat} {F : Fr} {S : Store} {Q : Exit -> Fr -> Store -> Prop} {K : Option V -> Store -> Prop}
variable {d : Option Tmp} {ty : TypeId} {pos : String} {af : Array Edge} {gd : Option (Nat × Bool)}
def VKeep (P : Program) (f : FuncId) (args : List V) (S : Store) (r : V) : Prop := VCalls P f args S λ r' S' => r' = r /\ S' = S
theorem VOp.drops {o : Oper} {K' : Option V -> Store -> Prop} (h : VOp P nt o F S K') (hk : ∀ r S', K' r S' -> ∃ T, Drops S' T /\ K r T) : VOp P nt o F S K := by
 intro m w a KK QQ hf hw hK
 refine h m w a KK QQ hf hw λ r S' m' w' u hr hru st => ?_
 obtain ⟨T, hd, hk'⟩ := hk r S' hr
 exact hK r T m' w' u hk' hru (st.trans (hd.step st.rel))
theorem V_callK (i : Nat) {f : FuncId} {args : Array Operand} {ats : Array TypeId} (xs : List Operand) {vs : List V} {o : Own} {r : V} (ha : args.toList = xs) (hv : evs F xs = some vs) (hen : Enters P f) (hS : S[i]? = some o) (hc : VKeep P f vs [o] r)
  (hk : K (some r) S) : VOp P nt ⟨d, .call ⟨.value (.func f), args, ats⟩, ty, pos, af, gd⟩ F S K := by
 refine VOp.drops (K' := λ r' S' => r' = some r /\ S' = o :: S.eraseIdx i) (V_call xs [o] (S.eraseIdx i) ha hv hen (perm_erase hS) hc λ r' Sa' ⟨h1, h2⟩ => ⟨by rw [h1], by rw [h2]; rfl⟩) λ r' S' ⟨h1, h2⟩ => ?_
 subst h1
 subst h2
 exact ⟨S, .of_perm (perm_erase hS).symm, hk⟩
theorem V_callCloK (i : Nat) {f : FuncId} {q : Tmp} {args : Array Operand} {ats : Array TypeId} (xs : List Operand) {vs caps : List V} {o : Own} {r : V} (hq : F.get q = some (.clo (.func f) caps)) (ha : args.toList = xs) (hv : evs F xs = some vs) (hen : Enters P f) (hS : S[i]? = some o) (hc : VKeep P f (vs ++ caps) [o] r)
  (hk : K (some r) S) : VOp P nt ⟨d, .call ⟨.value (.tmp q), args, ats⟩, ty, pos, af, gd⟩ F S K := by
 refine VOp.drops (K' := λ r' S' => r' = some r /\ S' = o :: S.eraseIdx i) (V_callClo xs [o] (S.eraseIdx i) hq ha hv hen (perm_erase hS) hc λ r' Sa' ⟨h1, h2⟩ => ⟨by rw [h1], by rw [h2]; rfl⟩) λ r' S' ⟨h1, h2⟩ => ?_
 subst h1
 subst h2
 exact ⟨S, .of_perm (perm_erase hS).symm, hk⟩
def V.le (v v' : V) : Prop := ∀ m u, Rep m v u -> Rep m v' u
theorem V.le.refl (v : V) : V.le v v := λ _ _ h => h
theorem V.le.of_eq {v v' : V} (h : v = v') : V.le v v' := h ▸ V.le.refl v
theorem V.le.nil (sz : Nat) : V.le V.nilSl (.sl sz none []) := λ m u h => ⟨none, 0, h, Yt _, Yu _, trivial, .inl rfl⟩
theorem V.le.strip {sz : Nat} {t : Option Tok} {xs : List V} : V.le (.sl sz t xs) (.sl sz none xs) := λ m u ⟨A, cap, h1, h2, h3, h4, h5⟩ => ⟨A, cap, h1, h2, h3, trivial, h5⟩
def V.les : List V -> List V -> Prop
 | [], [] => True
 | x :: xs, y :: ys => V.le x y /\ y.leaf = true /\ V.les xs ys
 | _, _ => False
theorem V.les.repL {m : Mem} : ∀ {xs ys : List V} {us : List Value}, V.les xs ys -> RepL m xs us -> RepL m ys us /\ ys.all V.leaf = true
 | [], [], us, _, h => ⟨h, rfl⟩
 | x :: xs, y :: ys, us, ⟨h1, h2, h3⟩, ⟨u, us', e, r, k⟩ => by
  obtain ⟨k1, k2⟩ := V.les.repL h3 k
  exact ⟨⟨u, us', e, h1 _ _ r, k1⟩, by rw [List.all_cons, h2, k2]; rfl⟩
 | [], y :: ys, _, h, _ => h.elim
 | x :: xs, [], _, h, _ => h.elim
theorem V.le.agg {xs ys : List V} (h : V.les xs ys) : V.le (.agg xs) (.agg ys) := λ m u ⟨hl, us, hu, hr⟩ => ⟨(h.repL hr).2, us, hu, (h.repL hr).1⟩
theorem VOp_as {o : Oper} {v v' : V} (h : VOp P nt o F S λ r S' => r = some v /\ S' = S) (hle : V.le v v') (hk : K (some v') S) : VOp P nt o F S K := by
 intro m w a KK QQ hf hw hK
 refine h m w a KK QQ hf hw λ r S' m' w' u ⟨h1, h2⟩ hru st => ?_
 subst h1
 subst h2
 exact hK _ _ m' w' u hk (hle _ _ hru) st
theorem V_slice_rawFrom {t e sz bytes : Nat} {z : Value} {len cap g o : Nat} {x y : Operand} {l : Int} (ht : SliceTy P t e sz bytes z) (hx : F.ev x = some (.raw (.slice (some ⟨g, o, none⟩) len cap))) (hy : F.ev y = some (.int l)) (h0 : 0 <= l) (h1 : l <= len) (h2 : l < cap) (h3 : len <= cap)
  (hk : K (some (.raw (.slice (some ⟨g, o + l.toNat * sz, none⟩) (len - l.toNat) (cap - l.toNat)))) S) : VOp P nt ⟨d, .slice t x (some y) none none, ty, pos, af, gd⟩ F S K := by
 refine V_slice_raw (h := len) ht hx (bound_of hy) rfl h0 h1 (by omega) ?_
 have hne : ¬ cap = l.toNat := by omega
 rw [if_neg hne, Int.toNat_natCast]
 simp only [Option.map_some, addr_add]
 exact hk
theorem V_slice_rawTo {t e sz bytes : Nat} {z : Value} {len cap g o : Nat} {x y : Operand} {h : Int} (ht : SliceTy P t e sz bytes z) (hx : F.ev x = some (.raw (.slice (some ⟨g, o, none⟩) len cap))) (hy : F.ev y = some (.int h)) (h0 : 0 <= h) (h2 : h <= cap)
  (hk : K (some (.raw (.slice (some ⟨g, o, none⟩) h.toNat cap))) S) : VOp P nt ⟨d, .slice t x none (some y) none, ty, pos, af, gd⟩ F S K := by
 refine V_slice_raw (l := 0) ht hx rfl (bound_of hy) (Yaa _) h0 h2 ?_
 have e : (if cap = (0 : Int).toNat then (some ⟨g, o, none⟩ : Option Addr) else (some ⟨g, o, none⟩ : Option Addr).map (·.add ((0 : Int).toNat * sz))) = some ⟨g, o, none⟩ := by
  split
  .rfl
  simp [Addr.add]
 rw [e]
 exact hk
theorem V_sliceFrom {t e sz bytes : Nat} {z : Value} {tok : Option Tok} {x y : Operand} {xs : List V} {l : Int} (ht : SliceTy P t e sz bytes z) (hx : F.ev x = some (.sl sz tok xs)) (hy : F.ev y = some (.int l)) (h0 : 0 <= l) (h1 : l <= xs.length)
  (hk : K (some (.sl sz none (xs.drop l.toNat))) S) : VOp P nt ⟨d, .slice t x (some y) none none, ty, pos, af, gd⟩ F S K := by
 refine V_slice (h := xs.length) ht hx (bound_of hy) rfl h0 h1 (Yaa _) ?_
 rw [Int.toNat_natCast, List.take_length]
 exact hk
theorem V_sliceTo {t e sz bytes : Nat} {z : Value} {tok : Option Tok} {x y : Operand} {xs : List V} {h : Int} (ht : SliceTy P t e sz bytes z) (hx : F.ev x = some (.sl sz tok xs)) (hy : F.ev y = some (.int h)) (h0 : 0 <= h) (h1 : h <= xs.length)
  (hk : K (some (.sl sz none (xs.take h.toNat))) S) : VOp P nt ⟨d, .slice t x none (some y) none, ty, pos, af, gd⟩ F S K :=
 V_slice ht hx rfl (bound_of hy) (Yaa _) h0 h1 hk
theorem Drops.keepE {e e' : Own} {S T : Store} (he : e = e') (h : Drops S T) : Drops (e :: S) (e' :: T) := he ▸ Drops.keep h
def oneRes {G : Type} (f : G -> V) : DRes G := λ γs r => ∃ x, γs = [x] /\ r = some (f x)
theorem oneE {G : Type} {C : Prop} {r : Option V} {f : G -> V} {y : G} (h : ∃ x, [y] = [x] /\ r = some (f x)) (k : r = some (f y) -> C) : C := by
 obtain ⟨x, hx, h⟩ := h
 injection hx with hx
 subst hx
 exact k h
theorem oneY {G : Type} {r : Option V} {f : G -> V} {y : G} (h : ∃ x, [y] = [x] /\ r = some (f x)) : r = some (f y) := oneE h id
def lookIdx (ops : List Oper) (s : Nat) : List Nat -> Option Nat
 | [] => none
 | k :: t => bif isDst ops k s then some k else lookIdx ops s t
theorem lookP_w {G : Type} {ops : List Oper} {F0 : Fr} {ps : List DP} {acc : List (DRes G)} {γ : Nat -> G} {s j : Nat} {R : DRes G} {r : Option V} (h2 : nth acc j = some R) : ∀ {pre : List Nat}, lookIdx ops s pre = some j -> lookP ops F0 ps acc γ s pre r -> R ((dpAt ps j).2.2.map γ) r
 | [], h, _ => by cases h
 | k :: t, h, hl => by
  rw [lookIdx] at h
  rw [lookP] at hl
  cases hb : isDst ops k s with
  | true =>
   rw [hb, cond_true] at h hl
   injection h with h
   subst h
   rw [h2] at hl
   exact hl
  | false =>
   rw [hb, cond_false] at h hl
   exact lookP_w h2 h hl
theorem lookP_f {G : Type} {ops : List Oper} {F0 : Fr} {ps : List DP} {acc : List (DRes G)} {γ : Nat -> G} {s : Nat} {r : Option V} : ∀ {pre : List Nat}, lookIdx ops s pre = none -> lookP ops F0 ps acc γ s pre r -> r = F0.get s
 | [], _, hl => hl
 | k :: t, h, hl => by
  rw [lookIdx] at h
  rw [lookP] at hl
  cases hb : isDst ops k s with
  | true => rw [hb, cond_true] at h; cases h
  | false =>
   rw [hb, cond_false] at h hl
   exact lookP_f h hl
theorem Needs_w {G : Type} {ops : List Oper} {F0 : Fr} {ps : List DP} {acc : List (DRes G)} {γ : Nat -> G} {pre t : List Nat} {s : Nat} {k : Fr -> Prop} (j : Nat) {R : DRes G} (h1 : lookIdx ops s pre = some j) (h2 : nth acc j = some R) (h : ∀ r, R ((dpAt ps j).2.2.map γ) r -> Needs ops F0 ps acc γ pre t λ F => k ((s, r) :: F)) :
  Needs ops F0 ps acc γ pre (s :: t) k := λ r hl => h r (lookP_w h2 h1 hl)
theorem Needs_f {G : Type} {ops : List Oper} {F0 : Fr} {ps : List DP} {acc : List (DRes G)} {γ : Nat -> G} {pre t : List Nat} {s : Nat} {k : Fr -> Prop} (h1 : lookIdx ops s pre = none) (h : ∀ r, r = F0.get s -> Needs ops F0 ps acc γ pre t λ F => k ((s, r) :: F)) :
  Needs ops F0 ps acc γ pre (s :: t) k := λ r hl => h r (lookP_f h1 hl)
theorem Needs_nil {G : Type} {ops : List Oper} {F0 : Fr} {ps : List DP} {acc : List (DRes G)} {γ : Nat -> G} {pre : List Nat} {k : Fr -> Prop} (h : k []) : Needs ops F0 ps acc γ pre [] k := h
theorem goodU1 {G : Type} {ops : List Oper} {F0 : Fr} {ps : List DP} {un : List Nat} {acc : List (DRes G)} {i : Nat} {o : Oper} {R : DRes G} {A : Store} {B : G -> Store} (hu : isUn un i 0 = some 0)
  (h : ∀ γ : Nat -> G, Needs ops F0 ps acc γ (dpAt ps i).1 (dpAt ps i).2.1 λ F => VOpG ops P nt o F A λ r S' => ∃ x, R ((dpAt ps i).2.2.map (upd γ 0 x)) r /\ S' = B x) : OpGood ops F0 ps un (oneSt A B) P nt i o acc R :=
 goodU 0 hu h
theorem VOps_skipU {ops l : List Oper} {Q' : Fr -> Store -> Prop} {o : Oper} (hw : wantOf ops F o = some false \/ ∃ j want q, o.guard = some (j, want) /\ (ops[j]?).bind (·.dst) = some q /\ F.get q = some (.raw undef)) (hd : dstOk nt o.dst = true)
  (h : VOps P nt ops l (F.put o.dst (some (.raw undef))) S Q') : VOps P nt ops (o :: l) F S Q' := by
 intro m w a QQ hf hwr hK
 refine wpList_step λ K hKl => ?_
 have hn : Region.wanted o (yielded ops.toArray a.tmps) = false := by
  rcases hw with hw | ⟨j, want, q, h1, h2, h3⟩
  .exact wanted_of hf hw
  have hu : a.tmps.getD q undef = undef := hf.get q _ h3
  have hop : (ops.toArray[j]?).bind (·.dst) = some q := by simpa using h2
  unfold Region.wanted
  rw [h1]
  dsimp only
  unfold yielded
  rw [hop, Option.bind_some]
  rcases Nat.lt_or_ge q a.tmps.size with hl | hl
  .have : a.tmps[q]? = some undef := by simpa [hl] using hu
   rw [this]
   cases want <;> rfl
  rw [Array.getElem?_eq_none hl]
  cases want <;> rfl
 rw [if_neg (by rw [hn]; exact Bool.false_ne_true)]
 exact hKl _ _ (h m w _ QQ (hf.put hd (r := some (.raw undef)) rfl) hwr hK)
instance : Inhabited Tok := ⟨.nil⟩
theorem raw_leaves {cs : List Value} (h : ∀ c ∈ cs, c.oneCell' = true) : (cs.map V.raw).all V.leaf = true := by
 rw [Ya]
 intro x hx
 obtain ⟨c, hc, rfl⟩ := List.mem_map.1 hx
 exact h c hc
theorem raw_repL {m : Mem} : ∀ {cs : List Value}, RepL m (cs.map V.raw) cs
 | [] => rfl
 | c :: cs => ⟨c, cs, rfl, rfl, raw_repL⟩
theorem zeroCells_mem {z : Value} {n : Nat} {c : Value} (h1 : ∀ c ∈ z.cells.toList, c.oneCell' = true) (hc : c ∈ (Builtin.zeroCells z.cells n).toList) : c.oneCell' = true := by
 have : c ∈ Builtin.zeroCells z.cells n := by simpa using hc
 unfold Builtin.zeroCells at this
 simp only [Array.mem_map, Array.mem_range] at this
 obtain ⟨i, hi, rfl⟩ := this
 have hp : 0 < z.cells.size := by
  rcases Yz z.cells.size with h | h
  .rw [h] at hi; omega
  exact h
 have hlt := Nat.mod_lt i hp
 rw [getElem!_pos z.cells _ hlt]
 exact h1 _ (by simp)
theorem V_appendRow {t e sz bytes : Nat} {z : Value} {s x : Operand} {A : Option Addr} {tx : Option Tok} {ys : List V} (ht : SliceTy P t e sz bytes z) (hz1 : ∀ c ∈ z.cells.toList, c.oneCell' = true) (hs : F.ev s = some (.raw (.slice A 0 0))) (hx : F.ev x = some (.sl sz tx ys))
  (hy : 0 < ys.length) (hb : ys.length * bytes <= 140737488355328) (hflat : ∀ y ∈ ys, y.flat = true)
  (hk : ∀ g cap rest, ys.length <= cap -> cap <= maxLen -> K (some (.raw (.slice (some ⟨g, 0, none⟩) ys.length cap))) (.cells g e (ys.flatMap V.leaves ++ rest) :: S)) :
  VOp P nt ⟨d, .call ⟨.builtin .append, #[s, x], #[t, t]⟩, ty, pos, af, gd⟩ F S K := by
 intro m w ac KK QQ hf hw hK
 have hsv : ac.eval s = .slice A 0 0 := hf.ev hs
 obtain ⟨ii, i1, i2, i3, i4⟩ := ht.info
 have hpos := ht.pos.1
 have hbpos := ht.pos.2
 obtain ⟨news, hN, hsrc⟩ := src_of hpos ht.und hw (hf.ev hx)
 have hlen : ys.length <= 140737488355328 := Yw (Yy _ hbpos) hb
 have hsrc' : Src P ii.size t (ac.eval x) ys.length news w := by rw [i2]; exact hsrc
 have hfc : (Builtin.firstCells ii.size 0 (.slice A 0 0)).run P w.drew = .ok ([] : List Value).toArray w.drew := by
  cases A with
  | none => exact run_firstCells_none w.drew ii.size 0 0 0
  | some a => exact run_firstCells_some (P := P) w.drew ii.size 0 a 0 0 [] (by simp) (λ j u h => by simp at h)
 have hrun := run_append_grow_src (P := P) w t t ty e ii z ht.und i1 i4 A 0 0 [] hfc (ac.eval x) ys.length news hsrc' (by omega) (by omega) (growslice_fits (by omega) (by rw [i3, Yq]; exact hb))
 have hge := grownCap_ge w (0 + ys.length) 0 e
 have hcm : grownCap w (0 + ys.length) 0 e <= maxLen := grownCap_le_maxLen w _ 0 e (by simp only [maxLen]; omega)
 unfold Oper.wp
 simp only [BigFrame.execOp_builtin, BigFrame.builtin_append, Sem.run_bind]
 rw [show (#[s, x] : Array Operand).map ac.eval = #[ac.eval s, ac.eval x] from by simp, hsv, hrun]
 rw [Yq] at hge hcm ⊢
 have hw1 := (Step.drew hw).rel
 have hall : (ys.flatMap V.leaves ++ (Builtin.zeroCells z.cells (grownCap w ys.length 0 e - ys.length)).toList.map V.raw).all V.leaf = true := by
  rw [Yd, Bool.and_eq_true]
  refine ⟨?_, raw_leaves λ c hc => zeroCells_mem hz1 hc⟩
  rw [Ya]
  intro x hx
  obtain ⟨y, hy, hxy⟩ := Yk.1 hx
  exact Ya.1 (hflat y hy) x hxy
 refine hK _ _ m _ _ (hk w.heap.size (grownCap w ys.length 0 e) _ hge hcm) rfl ((Step.drew hw).trans (Step.allocRow hw1 hall ?_))
 simp only [Yg, Array.toList_append]
 exact (hN.flatOf hflat).append raw_repL
theorem V_clear_row (i : Nat) {t e sz bytes : Nat} {z : Value} {x : Operand} {g o len cap : Nat} {T : TypeId} {ls : List V} (ht : SliceTy P t e sz bytes z) (hz1 : ∀ c ∈ z.cells.toList, c.oneCell' = true) (hx : F.ev x = some (.raw (.slice (some ⟨g, o, none⟩) len cap))) (hS : S[i]? = some (.cells g T ls)) (hl : o + len * sz <= ls.length)
  (hk : ∀ r rest, K (some r) (S.set i (.cells g T (ls.take o ++ rest)))) : VOp P nt ⟨d, .call ⟨.builtin .clear, #[x], #[t]⟩, ty, pos, af, gd⟩ F S K := by
 intro m w ac KK QQ hf hw hK
 have hxv : ac.eval x = .slice (some ⟨g, o, none⟩) len cap := hf.ev hx
 obtain ⟨ii, i1, i2, i3, i4⟩ := ht.info
 obtain ⟨hall, ⟨cs, hh, hr⟩, hm⟩ := own_cells hw hS
 have hcl := hr.length
 have hul : (Builtin.zeroCells z.cells len).toList.length = len * sz := by rw [zeroCells_len, ht.cells]
 have h1 : ∀ c ∈ (Builtin.zeroCells z.cells len).toList, c.oneCell' = true := λ c hc => zeroCells_mem hz1 hc
 have hst := run_storeCells_at (P := P) g o T (Builtin.zeroCells z.cells len).toList 0 cs w hh (by simp at hcl hul ⊢; omega) h1
 have hrun : (execOp ac.eval ⟨d, .call ⟨.builtin .clear, #[x], #[t]⟩, ty, pos, af, gd⟩).run P w = .ok (.value (.tuple #[])) (if len = 0 then w else w.setRow g (cs.toList.take (o + 0) ++ (Builtin.zeroCells z.cells len).toList ++ cs.toList.drop (o + 0 + (Builtin.zeroCells z.cells len).toList.length)).toArray) := by
  by_cases h0 : len = 0
  .subst h0
   simp [BigFrame.execOp_builtin, BigFrame.builtin_clear, Builtin.clear_, hxv, run_underlying ht.und]
  rw [if_neg h0]
  simp only [BigFrame.execOp_builtin, BigFrame.builtin_clear, Sem.run_bind]
  rw [show (#[x] : Array Operand).map ac.eval = #[ac.eval x] from by simp, hxv]
  simp only [Nat.add_zero] at hst ⊢
  simp [Builtin.clear_, run_underlying ht.und, zeroValue, typeInfo, i1, i4, h0, hst]
 unfold Oper.wp
 rw [hrun]
 by_cases h0 : len = 0
 .rw [if_pos h0]
  refine hK _ _ m _ (.tuple #[]) (hk (.raw (.tuple #[])) (ls.drop o)) rfl ?_
  rw [List.take_append_drop]
  have : S.set i (.cells g T ls) = S := by
   obtain ⟨hl, he⟩ := Yc.1 hS
   rw [<- he]
   exact List.set_getElem_self ..
  rw [this]
  exact Step.refl hw
 rw [if_neg h0]
 refine hK _ _ m _ (.tuple #[]) (hk (.raw (.tuple #[])) ((Builtin.zeroCells z.cells len).toList.map V.raw ++ ls.drop (o + len * sz))) rfl ?_
 have hheap := setRow_heap w g cs (cs.toList.take (o + 0) ++ (Builtin.zeroCells z.cells len).toList ++ cs.toList.drop (o + 0 + (Builtin.zeroCells z.cells len).toList.length)).toArray T (0, 0) hh
 refine Step.update hw hS rfl rfl rfl rfl rfl (by simp [World.setRow]) (λ b hb => ?_) (Sub.refl m) (λ b o v _ h => h) (λ o' v' h => by rw [hm o'] at h; cases h) ⟨?_, ⟨_, hheap, ?_⟩, hm⟩
 .simp [World.setRow, Array.getElem?_modify, Ne.symm hb]
 .rw [Yd, Yd, Bool.and_eq_true, Bool.and_eq_true]
  rw [Ya] at hall
  exact ⟨Ya.2 λ x hx => hall x (Yn hx), raw_leaves h1, Ya.2 λ x hx => hall x (List.mem_of_mem_drop hx)⟩
 simp only [Nat.add_zero]
 rw [Yb, hul]
 exact (hr.take o).append (raw_repL.append (hr.drop (o + len * sz)))
end
end Go.VL
namespace Go.VL
section
variable {P : Program} {nt : Nat} {F : Fr} {S : Store} {K : Option V -> Store -> Prop}
variable {d : Option Tmp} {ty : TypeId} {pos : String} {af : Array Edge} {gd : Option (Nat × Bool)}
theorem run_equalIn_boolV (w : World) (n : Nat) (t : TypeId) (x y : Bool) (hu : P.underlying t = some .bool) : (Op.equalIn (n + 1) t (.bool x) (.bool y)).run P w = .ok (x == y) w := by
 rw [Op.equalIn]
 simp [run_underlying hu]
theorem run_equal_bool (w : World) (t : TypeId) (x y : Bool) (hu : P.underlying t = some .bool) : (Op.equal t (.bool x) (.bool y)).run P w = .ok (x == y) w := by
 simp [Op.equal, Op.maxDepth, run_equalIn_boolV w 9999 t x y hu]
end
end Go.VL
namespace Go.VL
section
variable {P : Program} {nt : Nat} {F : Fr} {S : Store} {Q : Exit -> Fr -> Store -> Prop} {K : Option V -> Store -> Prop}
variable {d : Option Tmp} {ty : TypeId} {pos : String} {af : Array Edge} {gd : Option (Nat × Bool)}
theorem VOp_weak {o : Oper} {K' : Option V -> Store -> Prop} (h : VOp P nt o F S K') (hk : ∀ r S', K' r S' -> ∃ v v' T, r = some v /\ V.le v v' /\ Drops S' T /\ K (some v') T) : VOp P nt o F S K := by
 intro m w a KK QQ hf hw hK
 refine h m w a KK QQ hf hw λ r S' m' w' u hr hru st => ?_
 obtain ⟨v, v', T, rfl, hle, hd, hk'⟩ := hk r S' hr
 exact hK _ T m' w' u hk' (hle _ _ hru) (st.trans (hd.step st.rel))
theorem V_lit0 {t e sz bytes : Nat} {z : Value} {n : Nat} {parts : Array (Nat × Operand)} (ps : List Operand) {vs : List V} (ht : SliceTy P t e sz bytes z) (hp : parts.toList = idx 0 ps) (hn : ps.length = n) (hn24 : Yr (n * sz) 16777216 = true)
  (hv : evs F ps = some vs) (hfit : vs.all (V.fits sz) = true) (h0 : n = 0) (hk : K (some (.sl sz (some .zero) vs)) S) : VOp P nt ⟨d, .buildSlice t n parts, ty, pos, af, gd⟩ F S K := by
 intro m w ac KK QQ hf hw hK
 obtain ⟨cs, h1, h2, h3, hrun⟩ := lit_run (d := d) (ty := ty) (pos := pos) (af := af) (gd := gd) (w := w) ht hp hn hn24 hf hv hfit
 have hle := Nat.le_of_ble_eq_true hn24
 have hpos := ht.pos.1
 have hnl : n <= 16777216 := Yw (Yy n hpos) hle
 unfold Oper.wp
 rw [hrun]
 refine hK _ S (m.new w.heap.size cs) _ _ hk ?_ (Step.allocImm hw)
 refine ⟨some ⟨w.heap.size, 0, none⟩, n, by rw [h2], by omega, by simp only [maxLen]; omega, h0, .inr ⟨_, _, rfl, ?_⟩⟩
 exact (h1.mono (Mem.sub_new hw cs)).els (Mem.at_new m _ cs)
theorem V_append0 {t e sz bytes : Nat} {z : Value} {s x : Operand} {tx : Option Tok} {ys : List V} (ht : SliceTy P t e sz bytes z) (hs : F.ev s = some (.sl sz (some .zero) [])) (hx : F.ev x = some (.sl sz tx ys))
  (hb : ys.length * bytes <= 140737488355328) (hk : ∀ tok', K (some (.sl sz (some tok') ys)) (.buf tok' e sz ys.length :: S)) :
  VOp P nt ⟨d, .call ⟨.builtin .append, #[s, x], #[t, t]⟩, ty, pos, af, gd⟩ F S K := by
 intro m w ac KK QQ hf hw hK
 have hst := WRel.nilBuf hw e sz .zero (.inr rfl)
 exact V_append (S := .buf .zero e sz 0 :: S) 0 ht hs hx rfl (by simpa using hb) hk m w ac KK QQ hf hst.rel λ r S' m' w' u hr hru st => hK r S' m' w' u hr hru (hst.trans st)
theorem erase_set {α : Type} {e : α} : ∀ (l : List α) (i : Nat), (l.set i e).eraseIdx i = l.eraseIdx i
 | [], _ => rfl
 | a :: l, 0 => rfl
 | a :: l, i + 1 => by rw [List.set_cons_succ, List.eraseIdx_cons_succ, List.eraseIdx_cons_succ, erase_set l i]
theorem V_appendEnd (i n : Nat) {t e sz bytes : Nat} {z : Value} {s x : Operand} {tok : Tok} {tx : Option Tok} {xs ys : List V} (ht : SliceTy P t e sz bytes z) (hs : F.ev s = some (.sl sz (some tok) xs)) (hx : F.ev x = some (.sl sz tx ys))
  (hS : S[i]? = some (.buf tok e sz n)) (hn : n = xs.length) (hb : (xs.length + ys.length) * bytes <= 140737488355328) {zs : List V} (hz : xs ++ ys = zs) (hk : K (some (.sl sz none zs)) (S.eraseIdx i)) :
  VOp P nt ⟨d, .call ⟨.builtin .append, #[s, x], #[t, t]⟩, ty, pos, af, gd⟩ F S K := by
 subst hz
 refine VOp_weak (K' := λ r S' => ∃ tok', r = some (.sl sz (some tok') (xs ++ ys)) /\ S' = S.set i (.buf tok' e sz (xs ++ ys).length)) (V_appendN i n ht hs hx hS hn hb λ tok' => ⟨tok', rfl, rfl⟩) λ r S' ⟨tok', h1, h2⟩ => ?_
 refine ⟨_, _, S.eraseIdx i, h1, V.le.strip, ?_, hk⟩
 subst h2
 have hi : (S.set i (.buf tok' e sz (xs ++ ys).length))[i]? = some (.buf tok' e sz (xs ++ ys).length) := by
  have := (Yc.1 hS).1
  simp [this]
 have hp := perm_erase hi
 rw [erase_set] at hp
 exact ⟨[_], hp⟩
theorem V_makeImm {t e sz bytes : Nat} {z : Value} {l c : Operand} {n : Int} (zv : V) (hz : ∀ m, Rep m zv z) (hzf : zv.fits sz = true) (ht : SliceTy P t e sz bytes z) (hl : F.ev l = some (.int n)) (hc : F.ev c = some (.int n)) (h0 : 0 <= n) (hb : n * bytes <= 281474976710656)
  (hk : K (some (.sl sz none (List.replicate n.toNat zv))) S) : VOp P nt ⟨d, .makeSlice t l c, ty, pos, af, gd⟩ F S K := by
 refine VOp_weak (K' := λ r S' => ∃ tok', r = some (.sl sz (some tok') (List.replicate n.toNat zv)) /\ S' = .buf tok' e sz n.toNat :: S) (V_make zv hz hzf ht hl hc h0 hb λ tok' => ⟨tok', rfl, rfl⟩) λ r S' ⟨tok', h1, h2⟩ => ?_
 subst h2
 exact ⟨_, _, S, h1, V.le.strip, Drops.drop (Drops.refl _), hk⟩
end
end Go.VL
namespace Go.VL
section
variable {P : Program} {nt : Nat} {F : Fr} {S : Store} {Q : Exit -> Fr -> Store -> Prop} {K : Option V -> Store -> Prop}
variable {d : Option Tmp} {ty : TypeId} {pos : String} {af : Array Edge} {gd : Option (Nat × Bool)}
def VList (P : Program) (f : FuncId) (args : List V) (T sz : Nat) (xs : List V) : Prop := VCalls P f args [] λ r S' => ∃ tok, r = .sl sz (some tok) xs /\ S' = [.buf tok T sz xs.length]
theorem V_callBuf {f : FuncId} {args : Array Operand} {ats : Array TypeId} (xs : List Operand) {vs ys : List V} {T sz : Nat} (ha : args.toList = xs) (hv : evs F xs = some vs) (hen : Enters P f) (hc : VList P f vs T sz ys)
  (hk : ∀ tok, K (some (.sl sz (some tok) ys)) (.buf tok T sz ys.length :: S)) : VOp P nt ⟨d, .call ⟨.value (.func f), args, ats⟩, ty, pos, af, gd⟩ F S K :=
 V_call xs [] S ha hv hen (.refl _) hc λ r' Sa' ⟨tok, h1, h2⟩ => by subst h1; subst h2; exact hk tok
theorem VList.pure {f : FuncId} {args : List V} {T sz : Nat} {xs : List V} (h : VList P f args T sz xs) : VCalls P f args [] λ r S' => ∃ tok, r = .sl sz (some tok) xs /\ S' = [.buf tok T sz xs.length] := h
theorem Drops.pick {S T : Store} (i : Nat) {e e' : Own} (hS : S[i]? = some e) (he : e = e') (h : Drops (S.eraseIdx i) T) : Drops S (e' :: T) := by
 obtain ⟨R, hp⟩ := h
 subst he
 exact ⟨R, (perm_erase hS).trans ((hp.cons e).trans List.perm_middle.symm)⟩
theorem Drops.pickBuf {S T : Store} (i : Nat) {t : Tok} {E sz n n' : Nat} (hS : S[i]? = some (.buf t E sz n)) (he : n = n') (h : Drops (S.eraseIdx i) T) : Drops S (.buf t E sz n' :: T) := Drops.pick i hS (by rw [he]) h
def VTok (P : Program) (f : FuncId) (args : List V) (S : Store) (r : V) (St : Tok -> Store) : Prop := VCalls P f args S λ r' S' => ∃ tk, r' = r /\ S' = St tk
theorem V_callTok {f : FuncId} {args : Array Operand} {ats : Array TypeId} (xs : List Operand) {vs : List V} (Sa Sb : Store) {r : V} {St : Tok -> Store} (ha : args.toList = xs) (hv : evs F xs = some vs) (hen : Enters P f) (hp : S.Perm (Sa ++ Sb)) (hc : VTok P f vs Sa r St)
  (hk : ∀ tk, K (some r) (St tk ++ Sb)) : VOp P nt ⟨d, .call ⟨.value (.func f), args, ats⟩, ty, pos, af, gd⟩ F S K :=
 V_call xs Sa Sb ha hv hen hp hc λ r' Sa' ⟨tok, h1, h2⟩ => by subst h1; subst h2; exact hk tok
def threeSt {G : Type} (A : Store) (B : G -> Store) (C : G -> G -> Store) (D : G -> G -> G -> Store) : Nat -> List G -> Store
 | 0, _ => A
 | 1, [x] => B x
 | 2, [x, y] => C x y
 | 3, [x, y, z] => D x y z
 | _, _ => []
theorem VW_cutF {x y : Code} (F1 : Fr) (S1 : Store) (h1 : VW P nt x (Then (λ F' S' => Fr.sub F1 F' /\ Drops S' S1) Q) F S) (h2 : VW P nt y Q F1 S1) : VW P nt (.seq x y) Q F S :=
 VW_cut _ h1 λ F' S' ⟨hs, R, hp⟩ => VW.weaken hs hp (VW.drop h2)
theorem V.le.nilTok (sz : Nat) : V.le V.nilSl (.sl sz (some .nil) []) := λ m u h => ⟨none, 0, h, Yt _, Yu _, ⟨rfl, rfl⟩, .inl rfl⟩
theorem VW_cells (i : Nat) {g : Nat} {T : TypeId} {ls ls' : List V} {c : Code} (hS : S[i]? = some (.cells g T ls)) (hle : V.les ls ls') (h : VW P nt c Q F (S.set i (.cells g T ls'))) : VW P nt c Q F S := by
 intro m w a QQ hf hw hK
 have hd : dom (S.set i (.cells g T ls')) = dom S := dom_set hS rfl
 have hrel : WRel m (S.set i (.cells g T ls')) w := by
  refine ⟨hw.agree, by rw [hd]; exact hw.nodup, λ e he => ?_⟩
  rcases mem_set_cases he with he | he
  .rw [he]
   obtain ⟨_, ⟨cs, h1, h2⟩, h3⟩ := hw.holds _ (Yl hS)
   exact ⟨(hle.repL h2).2, ⟨cs, h1, (hle.repL h2).1⟩, h3⟩
  exact hw.holds e he
 have hst : Step m S w m (S.set i (.cells g T ls')) w := ⟨hrel, rfl, rfl, rfl, Yt _, λ _ _ _ => rfl, Sub.refl m, λ _ _ _ h => .inl h, λ b hb => .inl (by rw [hd] at hb; exact hb)⟩
 exact h m w a QQ hf hrel λ e F' S' m' w' a' hq hf' st => hK e F' S' m' w' a' hq hf' (hst.trans st)
theorem VW_nilBuf (T sz : Nat) {c : Code} (h : VW P nt c Q F (.buf .nil T sz 0 :: S)) : VW P nt c Q F S := by
 intro m w a QQ hf hw hK
 have hst := WRel.nilBuf hw T sz .nil (.inl rfl)
 exact h m w a QQ hf hst.rel λ e F' S' m' w' a' hq hf' st => hK e F' S' m' w' a' hq hf' (hst.trans st)
end
end Go.VL
namespace Go.VL
section
variable {P : Program} {nt : Nat} {F : Fr} {S : Store} {K : Option V -> Store -> Prop}
variable {d : Option Tmp} {ty : TypeId} {pos : String} {af : Array Edge} {gd : Option (Nat × Bool)}
theorem ptr_pointee {t e : TypeId} (ht : P.underlying t = some (.pointer e)) : P.underlying t = some (.pointer (P.pointee t)) := by
 simp only [Program.pointee, ht]
theorem V_nilNeNil {t t2 e : TypeId} {x : Operand} (ht : P.underlying t = some (.pointer e)) (hx : F.ev x = some (.raw (.pointer none))) (hk : K (some (.bool false)) S) :
  VOp P nt ⟨d, .binOp .neq t x (.const (.pointer none)) t2, ty, pos, af, gd⟩ F S K := by
 refine VOp_pure (some (.bool false)) (λ m w ac hf hw => ?_) hk
 have ha : ac.eval x = .pointer none := hf.ev hx
 refine ⟨.bool false, ?_, rfl⟩
 have hg : (eqGuard .neq t x (.const (.pointer none)) (.pointer none) (.pointer none)).run P w = .ok () w := rfl
 simp only [execOp, ha, BigFrame.eval_const, Sem.run_bind, hg, Result.andThen_ok, run_neq_pointer_nil w t none (ptr_pointee ht)]
 rfl
theorem V_epEqNil {t t2 e : TypeId} {x : Operand} {a : Addr} {v : V} (ht : P.underlying t = some (.pointer e)) (hx : F.ev x = some (.ep a v)) (hk : K (some (.bool false)) S) :
  VOp P nt ⟨d, .binOp .eql t x (.const (.pointer none)) t2, ty, pos, af, gd⟩ F S K := by
 refine VOp_pure (some (.bool false)) (λ m w ac hf hw => ?_) hk
 have ha : ac.eval x = .pointer (some a) := (hf.ev hx).1
 refine ⟨.bool false, ?_, rfl⟩
 have hg : (eqGuard .eql t x (.const (.pointer none)) (.pointer (some a)) (.pointer none)).run P w = .ok () w := rfl
 simp only [execOp, ha, BigFrame.eval_const, Sem.run_bind, hg, Result.andThen_ok, run_eql_pointer_nil w t (some a) (ptr_pointee ht)]
 rfl
end
end Go.VL
namespace Go.VL
section
variable {P : Program} {nt : Nat} {F : Fr} {S : Store} {Q : Exit -> Fr -> Store -> Prop} {K : Option V -> Store -> Prop}
variable {d : Option Tmp} {ty : TypeId} {pos : String} {af : Array Edge} {gd : Option (Nat × Bool)}
theorem VW_pin {q sz : Nat} {tok : Option Tok} {xs : List V} {c : Code} (hq : F.get q = some (.sl sz tok xs)) (h : ∀ a, VW P nt c Q ((q, some (.sl sz (some (.pin a)) xs)) :: F) S) : VW P nt c Q F S := by
 intro m w ac QQ hf hw hK
 obtain ⟨A, cap, h1, h2, h3, _, h5⟩ := hf.get q _ hq
 have key : ∀ a, (∀ a', A = some a' -> a' = a) -> FRel m nt ((q, some (.sl sz (some (.pin a)) xs)) :: F) ac := λ a ha => FRel.put_same hf ⟨A, cap, h1, h2, h3, ha, h5⟩
 cases A with
 | none => exact h default m w ac QQ (key default λ a' h => by cases h) hw hK
 | some a => exact h a m w ac QQ (key a λ a' h => by injection h with h; exact h.symm) hw hK
theorem V_indexAddr_pin {t e sz bytes : Nat} {z : Value} {a : Addr} {x ix : Operand} {xs : List V} {n : Int} {el : V} (ht : SliceTy P t e sz bytes z) (hx : F.ev x = some (.sl sz (some (.pin a)) xs)) (hi : F.ev ix = some (.int n)) (h0 : 0 <= n) (he : xs[n.toNat]? = some el)
  (hk : K (some (.ep ⟨a.block, a.off + n.toNat * sz, none⟩ el)) S) : VOp P nt ⟨d, .indexAddr t x ix, ty, pos, af, gd⟩ F S K := by
 intro m w ac KK QQ hf hw hK
 obtain ⟨A, cap, ha, hc, hm, hpin, hels⟩ := hf.ev hx
 have hn : ac.eval ix = .int .i64 n := hf.ev hi
 have hlt : n.toNat < xs.length := (Yc.1 he).1
 rcases hels with rfl | ⟨b, off, rfl, hels⟩
 .simp at hlt
 have hab : (⟨b, off, none⟩ : Addr) = a := hpin _ rfl
 subst hab
 obtain ⟨u, hr, hsz, ho, hat⟩ := hels.get he
 obtain ⟨i, h1, h2, h3, h4⟩ := ht.info
 have hrun : (execOp ac.eval ⟨d, .indexAddr t x ix, ty, pos, af, gd⟩).run P w = .ok (.value (.pointer (some ⟨b, off + n.toNat * sz, none⟩))) w := by
  have hcond : 0 <= n /\ n < (xs.length : Int) := ⟨h0, by omega⟩
  simp [execOp, ha, hn, Instr.indexAt, asIntOf, run_underlying ht.und w, hcond, sizeOf, typeInfo, h1, h2, addr_add]
 unfold Oper.wp
 rw [hrun]
 exact hK _ S m w _ hk ⟨rfl, rfl, u, hr, hat⟩ (Step.refl hw)
theorem VCalls_le {f : FuncId} {vs vs' : List V} {R : V -> Store -> Prop} (h : ∀ m us, RepL m vs us -> RepL m vs' us) (k : VCalls P f vs' S R) : VCalls P f vs S R := λ m w us ha hw => k m w us (h m _ ha) hw
theorem V_ptrNeSame {t t2 e : TypeId} {x y : Operand} {a : Addr} {u v : V} (ht : P.underlying t = some (.pointer e)) (hte : ∃ j, P.info? e = some j) (hx : F.ev x = some (.ep a u)) (hy : F.ev y = some (.ep a v)) (hk : K (some (.bool false)) S) :
  VOp P nt ⟨d, .binOp .neq t x y t2, ty, pos, af, gd⟩ F S K := by
 obtain ⟨j, hte⟩ := hte
 refine VOp_pure (some (.bool false)) (λ m w ac hf hw => ?_) hk
 have ha : ac.eval x = .pointer (some a) := (hf.ev hx).1
 have hb : ac.eval y = .pointer (some a) := (hf.ev hy).1
 refine ⟨.bool false, ?_, rfl⟩
 have hg : (eqGuard .neq t x y (.pointer (some a)) (.pointer (some a))).run P w = .ok () w := rfl
 simp only [execOp, ha, hb, Sem.run_bind, hg, Result.andThen_ok, Lib.run_neq_ptr_same w a ht hte]
 rfl
theorem run_neq_bool (w : World) (t : TypeId) (x y : Bool) (hu : P.underlying t = some .bool) : (binOp .neq t (.bool x) (.bool y)).run P w = .ok (.bool (!(x == y))) w := by
 simp only [binOp]
 simp [run_equal_bool w t x y hu]
theorem V_boolne {t t2 : TypeId} {x y : Operand} {a b : Bool} (hu : P.underlying t = some .bool) (hx : F.ev x = some (.bool a)) (hy : F.ev y = some (.bool b)) (hk : K (some (.bool (!(a == b)))) S) :
  VOp P nt ⟨d, .binOp .neq t x y t2, ty, pos, af, gd⟩ F S K := by
 refine VOp_pure (some (.bool (!(a == b)))) (λ m w ac hf hw => ?_) hk
 have ha : ac.eval x = .bool a := hf.ev hx
 have hb : ac.eval y = .bool b := hf.ev hy
 refine ⟨.bool (!(a == b)), ?_, rfl⟩
 have hg : (eqGuard .neq t x y (.bool a) (.bool b)).run P w = .ok () w := rfl
 simp only [execOp, ha, hb, Sem.run_bind, hg, Result.andThen_ok, run_neq_bool w t a b hu]
 rfl
end
end Go.VL
namespace Go.VL
section
variable {P : Program} {nt : Nat} {F : Fr} {S : Store} {K : Option V -> Store -> Prop}
variable {d : Option Tmp} {ty : TypeId} {pos : String} {af : Array Edge} {gd : Option (Nat × Bool)}
theorem V_rem {t t2 : TypeId} {x y : Operand} {a b : Int} (hx : F.ev x = some (.int a)) (hy : F.ev y = some (.int b)) (hb : b ≠ 0) (hk : K (some (.int (a.tmod b))) S) :
  VOp P nt ⟨d, .binOp .rem t x y t2, ty, pos, af, gd⟩ F S K := by
 refine VOp_pure (some (.int (a.tmod b))) (λ m w ac hf hw => ?_) hk
 have ha : ac.eval x = .int .i64 a := hf.ev hx
 have hb' : ac.eval y = .int .i64 b := hf.ev hy
 refine ⟨.int .i64 (a.tmod b), ?_, rfl⟩
 simp only [execOp, ha, hb', Sem.run_bind]
 simp [eqGuard, binOp, Op.intDiv, hb]
end
section
variable {P : Program} {nt : Nat} {F : Fr} {S : Store} {K : Option V -> Store -> Prop}
variable {d : Option Tmp} {ty : TypeId} {pos : String} {af : Array Edge} {gd : Option (Nat × Bool)} {cs : List Value}
abbrev V.u64 (b : BitVec 64) : V := .raw (.int .u64 (b.toNat : Int))
theorem wrap_u64 (b : BitVec 64) : IntKind.u64.wrap (b.toNat : Int) = (b.toNat : Int) := by
 have := b.isLt
 simp only [IntKind.wrap, IntKind.bits, IntKind.signed, Bool.false_and, Bool.false_eq_true, if_false]
 omega
theorem ofInt_u64 (b : BitVec 64) : BitVec.ofInt IntKind.u64.bits (b.toNat : Int) = b := by
 show BitVec.ofInt 64 (b.toNat : Int) = b
 simp
theorem V_and64 {t t2 : TypeId} {x y : Operand} {a b : BitVec 64} (hx : F.ev x = some (.u64 a)) (hy : F.ev y = some (.u64 b)) (hk : K (some (.u64 (a &&& b))) S) :
  VOp P nt ⟨d, .binOp .and t x y t2, ty, pos, af, gd⟩ F S K := by
 refine VOp_pure (some (.u64 (a &&& b))) (λ m w ac hf hw => ?_) hk
 have ha : ac.eval x = .int .u64 a.toNat := hf.ev hx
 have hb : ac.eval y = .int .u64 b.toNat := hf.ev hy
 refine ⟨.int .u64 ((a &&& b : BitVec 64).toNat : Int), ?_, rfl⟩
 simp only [execOp, ha, hb, Sem.run_bind, eqGuard_int, Result.andThen_ok]
 have e := wrap_u64 (a &&& b)
 simp only [binOp, Op.intBits, ofInt_u64]
 simp [-BitVec.toNat_and, -BitVec.toNat_or]
 exact e
theorem V_or64 {t t2 : TypeId} {x y : Operand} {a b : BitVec 64} (hx : F.ev x = some (.u64 a)) (hy : F.ev y = some (.u64 b)) (hk : K (some (.u64 (a ||| b))) S) :
  VOp P nt ⟨d, .binOp .or t x y t2, ty, pos, af, gd⟩ F S K := by
 refine VOp_pure (some (.u64 (a ||| b))) (λ m w ac hf hw => ?_) hk
 have ha : ac.eval x = .int .u64 a.toNat := hf.ev hx
 have hb : ac.eval y = .int .u64 b.toNat := hf.ev hy
 refine ⟨.int .u64 ((a ||| b : BitVec 64).toNat : Int), ?_, rfl⟩
 simp only [execOp, ha, hb, Sem.run_bind, eqGuard_int, Result.andThen_ok]
 have e := wrap_u64 (a ||| b)
 simp only [binOp, Op.intBits, ofInt_u64]
 simp [-BitVec.toNat_and, -BitVec.toNat_or]
 exact e
theorem V_eq64 {t t2 : TypeId} {x y : Operand} {a b : BitVec 64} (hx : F.ev x = some (.u64 a)) (hy : F.ev y = some (.u64 b)) (hk : K (some (.bool (a == b))) S) :
  VOp P nt ⟨d, .binOp .eql t x y t2, ty, pos, af, gd⟩ F S K := by
 refine VOp_pure (some (.bool (a == b))) (λ m w ac hf hw => ?_) hk
 have ha : ac.eval x = .int .u64 a.toNat := hf.ev hx
 have hb : ac.eval y = .int .u64 b.toNat := hf.ev hy
 have e : ((a.toNat : Int) == (b.toNat : Int)) = (a == b) := by
  rw [Bool.eq_iff_iff, beq_iff_eq, beq_iff_eq]
  exact ⟨λ h => BitVec.eq_of_toNat_eq (by omega), λ h => by rw [h]⟩
 refine ⟨.bool (a == b), ?_, rfl⟩
 simp only [execOp, ha, hb, Sem.run_bind, eqGuard_int, Result.andThen_ok]
 simp [binOp, Op.intCmp, e]
theorem V_shl64 {t t2 : TypeId} {x y : Operand} {a : BitVec 64} {n : Nat} (hx : F.ev x = some (.u64 a)) (hy : F.ev y = some (.int n)) (hn : n < 64) (hk : K (some (.u64 (a <<< n))) S) :
  VOp P nt ⟨d, .binOp .shl t x y t2, ty, pos, af, gd⟩ F S K := by
 refine VOp_pure (some (.u64 (a <<< n))) (λ m w ac hf hw => ?_) hk
 have ha : ac.eval x = .int .u64 a.toNat := hf.ev hx
 have hb : ac.eval y = .int .i64 n := hf.ev hy
 have hmin : min (n : Int).toNat IntKind.u64.bits = n := by
  show min (n : Int).toNat 64 = n
  omega
 have e : IntKind.u64.wrap ((a.toNat : Int) * 2 ^ n) = ((a <<< n).toNat : Int) := by
  rw [BitVec.toNat_shiftLeft, Nat.shiftLeft_eq]
  show ((a.toNat : Int) * 2 ^ n) % ((2 ^ 64 : Int)) = _
  rw [Int.natCast_emod, Int.natCast_mul, Yab, Yab]
  rfl
 refine ⟨.int .u64 ((a <<< n : BitVec 64).toNat : Int), ?_, rfl⟩
 simp only [execOp, ha, hb, Sem.run_bind, eqGuard_int, Result.andThen_ok]
 simp only [binOp, Op.shift]
 rw [if_neg (by omega), hmin, <- e]
 simp
theorem V_shr64 {t t2 : TypeId} {x y : Operand} {a : BitVec 64} {n : Nat} (hx : F.ev x = some (.u64 a)) (hy : F.ev y = some (.int n)) (hn : n < 64) (hk : K (some (.u64 (a >>> n))) S) :
  VOp P nt ⟨d, .binOp .shr t x y t2, ty, pos, af, gd⟩ F S K := by
 refine VOp_pure (some (.u64 (a >>> n))) (λ m w ac hf hw => ?_) hk
 have ha : ac.eval x = .int .u64 a.toNat := hf.ev hx
 have hb : ac.eval y = .int .i64 n := hf.ev hy
 have hmin : min (n : Int).toNat IntKind.u64.bits = n := by
  show min (n : Int).toNat 64 = n
  omega
 have e : (a.toNat : Int).fdiv (2 ^ n) = ((a >>> n).toNat : Int) := by
  rw [BitVec.toNat_ushiftRight, Nat.shiftRight_eq_div_pow, Int.fdiv_eq_ediv_of_nonneg _ (Int.le_of_lt (Int.pow_pos (by omega))), Int.natCast_ediv, Yab]
  rfl
 refine ⟨.int .u64 ((a >>> n : BitVec 64).toNat : Int), ?_, rfl⟩
 simp only [execOp, ha, hb, Sem.run_bind, eqGuard_int, Result.andThen_ok]
 simp only [binOp, Op.shift]
 rw [if_neg (by omega), hmin, <- e]
 simp
theorem V_mask31 {t t2 : TypeId} {x y : Operand} {a : Int} (hx : F.ev x = some (.int a)) (hy : F.ev y = some (.int 2147483647)) (hk : K (some (.int (a % 2147483648))) S) :
  VOp P nt ⟨d, .binOp .and t x y t2, ty, pos, af, gd⟩ F S K := by
 refine VOp_pure (some (.int (a % 2147483648))) (λ m w ac hf hw => ?_) hk
 have ha : ac.eval x = .int .i64 a := hf.ev hx
 have hb : ac.eval y = .int .i64 2147483647 := hf.ev hy
 have e : ((BitVec.ofInt 64 a &&& BitVec.ofInt 64 2147483647).toNat : Int) = a % 2147483648 := by
  rw [BitVec.toNat_and, show (BitVec.ofInt 64 2147483647).toNat = 2 ^ 31 - 1 from rfl, Nat.and_two_pow_sub_one_eq_mod, BitVec.toNat_ofInt]
  omega
 have e2 : IntKind.i64.wrap (a % 2147483648) = a % 2147483648 := IntWalk.i64_in _ (by omega)
 refine ⟨_, ?_, rfl⟩
 simp only [execOp, ha, hb, Sem.run_bind, eqGuard_int, Result.andThen_ok]
 simp only [binOp, Op.intBits]
 simp [-BitVec.toNat_and, -BitVec.toNat_ofInt]
 exact (congrArg IntKind.i64.wrap e).trans e2
theorem V_quo {t t2 : TypeId} {x y : Operand} {a b : Int} (hx : F.ev x = some (.int a)) (hy : F.ev y = some (.int b)) (hb0 : b ≠ 0) (hr : -9223372036854775808 <= a.tdiv b /\ a.tdiv b <= 9223372036854775807) (hk : K (some (.int (a.tdiv b))) S) :
  VOp P nt ⟨d, .binOp .quo t x y t2, ty, pos, af, gd⟩ F S K := by
 refine VOp_pure (some (.int (a.tdiv b))) (λ m w ac hf hw => ?_) hk
 have ha : ac.eval x = .int .i64 a := hf.ev hx
 have hb : ac.eval y = .int .i64 b := hf.ev hy
 refine ⟨_, ?_, rfl⟩
 simp only [execOp, ha, hb, Sem.run_bind, eqGuard_int, Result.andThen_ok]
 simp only [binOp, Op.intDiv]
 rw [IntWalk.i64_in _ hr]
 simp [hb0]
theorem V_indexAddr_arr {t e n : Nat} {x ix : Operand} {g o : Nat} {k : Int} (ht : P.underlying t = some (.array n e)) (hsz : (P.info? e).map (·.size) = some 1) (hx : F.ev x = some (.ptr g o)) (hi : F.ev ix = some (.int k)) (h0 : 0 <= k) (h1 : k < n)
  (hk : K (some (.ptr g (o + k.toNat))) S) : VOp P nt ⟨d, .indexAddr t x ix, ty, pos, af, gd⟩ F S K := by
 refine VOp_pure (some (.ptr g (o + k.toNat))) (λ m w ac hf hw => ?_) hk
 have ha : ac.eval x = .pointer (some ⟨g, o, none⟩) := hf.ev hx
 have hb : ac.eval ix = .int .i64 k := hf.ev hi
 refine ⟨.pointer (some ⟨g, o + k.toNat, none⟩), ?_, rfl⟩
 simp only [execOp, ha, hb, Instr.indexAt, asIntOf, Sem.run_bind, Sem.run_pure, Result.andThen_ok, run_underlying ht, Instr.sureAddr, run_sizeOf' hsz]
 simp [h0, h1, run_sizeOf' hsz, addr_add]
theorem run_eq_u64s {t e : TypeId} (hu : P.underlying t = some (.array 2 e)) (he : P.underlying e = some (.int .u64)) (hsz : (P.info? e).map (·.size) = some 1) (w : World) (a b c d : Int) :
  (Op.equal t (.agg #[.int .u64 a, .int .u64 b]) (.agg #[.int .u64 c, .int .u64 d])).run P w = .ok (a == c && b == d) w := by
 have hag : ∀ w, (isAgg e).run P w = .ok false w := λ w => by simp [isAgg, run_underlying he]
 have hs : ∀ w, (sizeOf e).run P w = .ok 1 w := λ w => run_sizeOf' hsz
 have hi : ∀ (w : World) (x y : Int), (Op.equalIn 9999 e (.int .u64 x) (.int .u64 y)).run P w = .ok (x == y) w := λ w x y => by
  rw [show (9999 : Nat) = 9998 + 1 from rfl, Op.equalIn]
  simp [run_underlying he]
 unfold Op.equal
 rw [show Op.maxDepth = 9999 + 1 from rfl, Op.equalIn]
 simp only [Sem.run_bind, run_underlying hu, Result.andThen_ok, hs]
 simp only [Std.Legacy.Range.forIn_eq_forIn_range', Std.Legacy.Range.size, Nat.sub_zero, Nat.add_sub_cancel, Nat.div_one, List.range'_succ, List.range'_zero, List.forIn_cons, List.forIn_nil]
 simp only [part, Sem.run_bind, hag, Result.andThen_ok]
 by_cases h1 : a = c <;> by_cases h2 : b = d <;> simp [h1, h2, hi, hag, hs]
theorem V_neSet {t e t2 : TypeId} {x y : Operand} {a b c d' : BitVec 64} (hu : P.underlying t = some (.array 2 e)) (he : P.underlying e = some (.int .u64)) (hsz : (P.info? e).map (·.size) = some 1) (hg : P.eqGuardType P.depth t = false)
  (hx : F.ev x = some (.agg [.u64 a, .u64 b])) (hy : F.ev y = some (.agg [.u64 c, .u64 d'])) (hk : K (some (.bool (!(a == c && b == d')))) S) :
  VOp P nt ⟨d, .binOp .neq t x y t2, ty, pos, af, gd⟩ F S K := by
 refine VOp_pure (some (.bool (!(a == c && b == d')))) (λ m w ac hf hw => ?_) hk
 have two : ∀ {p q : BitVec 64} {u : Value}, Rep m (.agg [.u64 p, .u64 q]) u -> u = .agg #[.int .u64 p.toNat, .int .u64 q.toNat] := by
  rintro p q u ⟨_, cs, rfl, u1, us1, e1, r1, u2, us2, e2, r2, e3⟩
  have e3' : us2 = [] := e3
  have r1' : u1 = .int .u64 p.toNat := r1
  have r2' : u2 = .int .u64 q.toNat := r2
  subst e3' r1' r2'
  rw [e2] at e1
  congr 1
  exact Array.ext' e1
 have ha := two (hf.ev hx)
 have hb := two (hf.ev hy)
 have hn : ∀ p q : BitVec 64, (((p.toNat : Int)) == (q.toNat : Int)) = (p == q) := λ p q => by
  rw [Bool.eq_iff_iff, beq_iff_eq, beq_iff_eq]
  exact ⟨λ h => BitVec.eq_of_toNat_eq (by omega), λ h => by rw [h]⟩
 refine ⟨.bool (!(a == c && b == d')), ?_, rfl⟩
 simp only [execOp, ha, hb, Sem.run_bind, eqGuard]
 simp only [binOp, Sem.run_bind, run_eq_u64s hu he hsz, Result.andThen_ok, hn]
 simp [hg, run_eq_u64s hu he hsz, hn]
theorem V_lookupD {κ : Type} [DecidableEq κ] {kv : κ -> Value} {kt : TypeId} {t et : TypeId} {x ix : Operand} {g : Nat} (i : Nat) {k : κ} {l : List (κ × V)} {z : Value} (zv : V) (hzv : ∀ m, Rep m zv z) (ht : P.underlying t = some (.map kt et)) (hkt : KeyTy P kt kv) (hz : (P.info? et).map (·.zero) = some (some z))
  (hx : F.ev x = some (.raw (.map (some g)))) (hi : F.ev ix = some (.raw (kv k))) (hS : S[i]? = some (.map g (kmap kv l))) (hk : K (some ((kget l k).getD zv)) S) : VOp P nt ⟨d, .lookup t x ix false, ty, pos, af, gd⟩ F S K := by
 cases hg : kget l k with
 | none => rw [hg] at hk; exact V_lookup0 i zv hzv ht hkt hz hx hi hS hg hk
 | some v => rw [hg] at hk; exact V_lookup1 i ht hkt hz hx hi hS hg hk
theorem V_lookupDOk {κ : Type} [DecidableEq κ] {kv : κ -> Value} {kt : TypeId} {t et : TypeId} {x ix : Operand} {g : Nat} (i : Nat) {k : κ} {l : List (κ × V)} {z : Value} (zv : V) (hzv : ∀ m, Rep m zv z) (ht : P.underlying t = some (.map kt et)) (hkt : KeyTy P kt kv) (hz : (P.info? et).map (·.zero) = some (some z))
  (hx : F.ev x = some (.raw (.map (some g)))) (hi : F.ev ix = some (.raw (kv k))) (hS : S[i]? = some (.map g (kmap kv l))) (hk : K (some (.tup [(kget l k).getD zv, .bool (kget l k).isSome])) S) : VOp P nt ⟨d, .lookup t x ix true, ty, pos, af, gd⟩ F S K := by
 cases hg : kget l k with
 | none => rw [hg] at hk; exact V_lookupNo i zv hzv ht hkt hz hx hi hS hg hk
 | some v => rw [hg] at hk; exact V_lookupOk i ht hkt hz hx hi hS hg hk
theorem V_appendRaw (i : Nat) {t e sz bytes : Nat} {z : Value} {s x : Operand} {g len cap : Nat} {tx : Option Tok} {ys ls : List V} (ht : SliceTy P t e sz bytes z) (hz1 : ∀ c ∈ z.cells.toList, c.oneCell' = true) (hs : F.ev s = some (.raw (.slice (some ⟨g, 0, none⟩) len cap))) (hx : F.ev x = some (.sl sz tx ys))
  (hS : S[i]? = some (.cells g e ls)) (hll : ls.length = cap * sz) (hlc : len <= cap) (hcm : cap <= maxLen) (hb : (len + ys.length) * bytes <= 140737488355328) (hflat : ∀ y ∈ ys, y.flat = true)
  (hk : ∀ g' cap' rest, len + ys.length <= cap' -> cap' <= maxLen -> (ls.take (len * sz) ++ (ys.flatMap V.leaves ++ rest)).length = cap' * sz -> K (some (.raw (.slice (some ⟨g', 0, none⟩) (len + ys.length) cap'))) (S.set i (.cells g' e (ls.take (len * sz) ++ (ys.flatMap V.leaves ++ rest))))) :
  VOp P nt ⟨d, .call ⟨.builtin .append, #[s, x], #[t, t]⟩, ty, pos, af, gd⟩ F S K := by
 intro m w ac KK QQ hf hw hK
 have hsv : ac.eval s = .slice (some ⟨g, 0, none⟩) len cap := hf.ev hs
 obtain ⟨ii, i1, i2, i3, i4⟩ := ht.info
 have hpos := ht.pos.1
 have hbpos := ht.pos.2
 obtain ⟨news, hN, hsrc⟩ := src_of hpos ht.und hw (hf.ev hx)
 have hlen : len + ys.length <= 140737488355328 := Yw (Yy _ hbpos) hb
 have hsrc' : Src P ii.size t (ac.eval x) ys.length news w := by rw [i2]; exact hsrc
 obtain ⟨hleaf, ⟨cs, hh, hrep⟩, hfree⟩ := own_cells hw hS
 have hcsl : cs.size = cap * sz := by rw [<- hll, <- hrep.length, Array.length_toList]
 have happ : ∀ (w : World), (execOp ac.eval ⟨d, .call ⟨.builtin .append, #[s, x], #[t, t]⟩, ty, pos, af, gd⟩).run P w = ((Builtin.append_ #[t, t] ty #[ac.eval s, ac.eval x]).run P w).andThen λ v w' => .ok (.value v) w' := λ w => by
  simp only [BigFrame.execOp_builtin, BigFrame.builtin_append, Sem.run_bind]
  simp
 have hNl := hN.length
 have hle : len * sz <= cap * sz := Nat.mul_le_mul_right _ hlc
 have hrepN := hN.flatOf hflat
 rcases Nat.lt_or_ge cap (len + ys.length) with hlt | hge
 .-- a new row
  have hfc : (Builtin.firstCells ii.size len (.slice (some ⟨g, 0, none⟩) len cap)).run P w.drew = .ok (cs.toList.take (len * sz)).toArray w.drew := by
   rw [i2]
   refine run_firstCells_some (P := P) w.drew sz len ⟨g, 0, none⟩ len cap _ (by rw [Yf, Array.length_toList, hcsl]; omega) λ j u hju => ?_
   rw [addr_add, Yq]
   refine (World.cell?_drew w _).trans (cell_at hh ?_)
   rw [List.getElem?_take] at hju
   split at hju
   .exact hju
   cases hju
  have hrun := run_append_grow_src (P := P) w t t ty e ii z ht.und i1 i4 (some ⟨g, 0, none⟩) len cap _ hfc (ac.eval x) ys.length news hsrc' hlt (by omega) (growslice_fits hlt (by rw [i3]; exact hb))
  unfold Oper.wp
  rw [happ, hsv, hrun]
  have hge := grownCap_ge w (len + ys.length) cap e
  have hcm' : grownCap w (len + ys.length) cap e <= maxLen := grownCap_le_maxLen w _ cap e (by simp only [maxLen]; omega)
  have hw1 : WRel m (S.eraseIdx i) w.drew := (hw.perm (perm_erase hS)).tail |> λ h => (Step.drew h).rel
  have hrep2 : RepL m (ls.take (len * sz) ++ (ys.flatMap V.leaves ++ (Builtin.zeroCells z.cells (grownCap w (len + ys.length) cap e - (len + ys.length))).toList.map V.raw))
    (cs.toList.take (len * sz) ++ (news ++ (Builtin.zeroCells z.cells (grownCap w (len + ys.length) cap e - (len + ys.length))).toList)) := (hrep.take _).append (hrepN.append raw_repL)
  have hall : (ls.take (len * sz) ++ (ys.flatMap V.leaves ++ (Builtin.zeroCells z.cells (grownCap w (len + ys.length) cap e - (len + ys.length))).toList.map V.raw)).all V.leaf = true := by
   rw [Yd, Yd, Bool.and_eq_true, Bool.and_eq_true]
   refine ⟨?_, ?_, raw_leaves λ c hc => zeroCells_mem hz1 hc⟩
   .rw [Ya] at hleaf ⊢
    exact λ x hx => hleaf x (Yn hx)
   rw [Ya]
   intro x hx
   obtain ⟨y, hy, hxy⟩ := Yk.1 hx
   exact Ya.1 (hflat y hy) x hxy
  have hst := Step.allocRow (T := e) (cs := ((cs.toList.take (len * sz) ++ news).toArray ++ Builtin.zeroCells z.cells (grownCap w (len + ys.length) cap e - (len + ys.length)))) hw1 hall (by simpa using hrep2)
  have hstep := (((Step.drop1 (hw.perm (perm_erase hS))).permL (perm_erase hS)).trans (Step.drew (hw.perm (perm_erase hS)).tail)).trans (hst.permR (perm_set hS))
  refine hK _ _ m _ _ (hk w.heap.size _ ((Builtin.zeroCells z.cells (grownCap w (len + ys.length) cap e - (len + ys.length))).toList.map V.raw) hge hcm' ?_) rfl ?_
  .have l1 : cs.toList.length = cap * sz := by simp [hcsl]
   have l2 : (Builtin.zeroCells z.cells (grownCap w (len + ys.length) cap e - (len + ys.length))).toList.length = (grownCap w (len + ys.length) cap e - (len + ys.length)) * sz := by
    have := zeroCells_len z (grownCap w (len + ys.length) cap e - (len + ys.length))
    rw [ht.cells] at this
    simpa using this
   rw [<- hrep2.length, Yh, Yh, hNl, Yf, l1, l2, Nat.min_eq_left hle, <- Yv, <- Yv]
   congr 1
   omega
  exact hstep
 .-- there is room: in place
  have hfit : len * sz + news.length <= cs.size := by rw [hNl, hcsl, <- Yv]; exact Nat.mul_le_mul_right _ hge
  have hrun := run_append_room_src (P := P) w t t ty e ii ht.und i1 g 0 len cap (ac.eval x) ys.length news hsrc' hge
   (λ j hj => by simp [World.cell?, hh, i2]; omega) (λ j hj => by simp [World.frozen?, hh])
  rw [i2, Yq] at hrun
  unfold Oper.wp
  rw [happ, hsv, hrun]
  obtain ⟨cs', hh', hs', hget⟩ := setCells_heap g e news (len * sz) w cs hh hfit
  obtain ⟨r1, r2, r3, r4⟩ := setCells_rest g news (len * sz) w
  have hcs' : cs'.toList = cs.toList.take (len * sz) ++ (news ++ cs.toList.drop (len * sz + news.length)) := by
   apply List.ext_getElem?
   intro o
   rw [hget o]
   by_cases h1 : o < len * sz
   .rw [if_neg (by omega), Ym (by rw [Yf, Array.length_toList]; omega), List.getElem?_take_of_lt h1]
   have hto : (cs.toList.take (len * sz)).length = len * sz := by rw [Yf, Array.length_toList]; omega
   rw [Yo (by omega), hto]
   by_cases h2 : o < len * sz + news.length
   .rw [if_pos ⟨by omega, h2⟩, Ym (by omega)]
   rw [if_neg (by omega), Yo (by omega), List.getElem?_drop]
   congr 1
   omega
  have hrep2 : RepL m (ls.take (len * sz) ++ (ys.flatMap V.leaves ++ ls.drop (len * sz + news.length))) cs'.toList := by
   rw [hcs']
   exact (hrep.take _).append (hrepN.append (hrep.drop _))
  have hall : (ls.take (len * sz) ++ (ys.flatMap V.leaves ++ ls.drop (len * sz + news.length))).all V.leaf = true := by
   rw [Yd, Yd, Bool.and_eq_true, Bool.and_eq_true]
   rw [Ya] at hleaf
   refine ⟨?_, ?_, ?_⟩
   .rw [Ya]
    exact λ x hx => hleaf x (Yn hx)
   .rw [Ya]
    intro x hx
    obtain ⟨y, hy, hxy⟩ := Yk.1 hx
    exact Ya.1 (hflat y hy) x hxy
   rw [Ya]
   exact λ x hx => hleaf x (List.mem_of_mem_drop hx)
  refine hK _ _ m _ _ (hk g cap (ls.drop (len * sz + news.length)) hge hcm ?_) rfl ?_
  .rw [<- hrep2.length, Array.length_toList, hs', hcsl]
  exact Step.update hw hS rfl rfl r1 r2 r3 r4 (λ b hb => setCells_others g news _ w b hb) (Sub.refl m) (λ b o v _ h => h) (λ o v hv => by rw [hfree o] at hv; cases hv) ⟨hall, ⟨cs', hh', hrep2⟩, hfree⟩
theorem V_appendRowG {t e sz bytes : Nat} {z : Value} {s x : Operand} {v : V} {tx : Option Tok} {ys : List V} (ht : SliceTy P t e sz bytes z) (hz1 : ∀ c ∈ z.cells.toList, c.oneCell' = true) (hs : F.ev s = some v) (hv : ∀ m u, Rep m v u -> ∃ A, u = .slice A 0 0) (hx : F.ev x = some (.sl sz tx ys))
  (hy : 0 < ys.length) (hb : ys.length * bytes <= 140737488355328) (hflat : ∀ y ∈ ys, y.flat = true)
  (hk : ∀ g cap rest, ys.length <= cap -> cap <= maxLen -> (ys.flatMap V.leaves ++ rest).length = cap * sz -> K (some (.raw (.slice (some ⟨g, 0, none⟩) ys.length cap))) (.cells g e (ys.flatMap V.leaves ++ rest) :: S)) :
  VOp P nt ⟨d, .call ⟨.builtin .append, #[s, x], #[t, t]⟩, ty, pos, af, gd⟩ F S K := by
 intro m w ac KK QQ hf hw hK
 obtain ⟨A, hsv⟩ := hv m _ (hf.ev hs)
 obtain ⟨ii, i1, i2, i3, i4⟩ := ht.info
 have hpos := ht.pos.1
 have hbpos := ht.pos.2
 obtain ⟨news, hN, hsrc⟩ := src_of hpos ht.und hw (hf.ev hx)
 have hlen : ys.length <= 140737488355328 := Yw (Yy _ hbpos) hb
 have hsrc' : Src P ii.size t (ac.eval x) ys.length news w := by rw [i2]; exact hsrc
 have hfc : (Builtin.firstCells ii.size 0 (.slice A 0 0)).run P w.drew = .ok ([] : List Value).toArray w.drew := by
  cases A with
  | none => exact run_firstCells_none w.drew ii.size 0 0 0
  | some a => exact run_firstCells_some (P := P) w.drew ii.size 0 a 0 0 [] (by simp) (λ j u h => by simp at h)
 have hrun := run_append_grow_src (P := P) w t t ty e ii z ht.und i1 i4 A 0 0 [] hfc (ac.eval x) ys.length news hsrc' (by omega) (by omega) (growslice_fits (by omega) (by rw [i3, Yq]; exact hb))
 have hge := grownCap_ge w (0 + ys.length) 0 e
 have hcm : grownCap w (0 + ys.length) 0 e <= maxLen := grownCap_le_maxLen w _ 0 e (by simp only [maxLen]; omega)
 unfold Oper.wp
 simp only [BigFrame.execOp_builtin, BigFrame.builtin_append, Sem.run_bind]
 rw [show (#[s, x] : Array Operand).map ac.eval = #[ac.eval s, ac.eval x] from by simp, hsv, hrun]
 rw [Yq] at hge hcm ⊢
 have hw1 := (Step.drew hw).rel
 have hall : (ys.flatMap V.leaves ++ (Builtin.zeroCells z.cells (grownCap w ys.length 0 e - ys.length)).toList.map V.raw).all V.leaf = true := by
  rw [Yd, Bool.and_eq_true]
  refine ⟨?_, raw_leaves λ c hc => zeroCells_mem hz1 hc⟩
  rw [Ya]
  intro x hx
  obtain ⟨y, hy, hxy⟩ := Yk.1 hx
  exact Ya.1 (hflat y hy) x hxy
 have hll : (ys.flatMap V.leaves ++ (Builtin.zeroCells z.cells (grownCap w ys.length 0 e - ys.length)).toList.map V.raw).length = grownCap w ys.length 0 e * sz := by
  have h1 := (hN.flatOf hflat).length
  rw [hN.length] at h1
  rw [Yh, List.length_map, <- h1, zeroCells_len, ht.cells, <- Yv]
  congr 1
  omega
 refine hK _ _ m _ _ (hk w.heap.size (grownCap w ys.length 0 e) _ hge hcm hll) rfl ((Step.drew hw).trans (Step.allocRow hw1 hall ?_))
 simp only [Yg, Array.toList_append]
 exact (hN.flatOf hflat).append raw_repL
theorem V_appendRowL {t e sz bytes : Nat} {z : Value} {s x : Operand} {A : Option Addr} {tx : Option Tok} {ys : List V} (ht : SliceTy P t e sz bytes z) (hz1 : ∀ c ∈ z.cells.toList, c.oneCell' = true) (hs : F.ev s = some (.raw (.slice A 0 0))) (hx : F.ev x = some (.sl sz tx ys))
  (hy : 0 < ys.length) (hb : ys.length * bytes <= 140737488355328) (hflat : ∀ y ∈ ys, y.flat = true)
  (hk : ∀ g cap rest, ys.length <= cap -> cap <= maxLen -> (ys.flatMap V.leaves ++ rest).length = cap * sz -> K (some (.raw (.slice (some ⟨g, 0, none⟩) ys.length cap))) (.cells g e (ys.flatMap V.leaves ++ rest) :: S)) :
  VOp P nt ⟨d, .call ⟨.builtin .append, #[s, x], #[t, t]⟩, ty, pos, af, gd⟩ F S K := by
 exact V_appendRowG ht hz1 hs (λ m u h => ⟨A, h⟩) hx hy hb hflat hk
theorem les_0 : V.les [] [] := trivial
theorem les_r {a : V} {as bs : List V} (ha : a.leaf = true) (h : V.les as bs) : V.les (a :: as) (a :: bs) := ⟨V.le.refl _, ha, h⟩
theorem les_n (sz : Nat) {as bs : List V} (h : V.les as bs) : V.les (V.nilSl :: as) (.sl sz none [] :: bs) := ⟨V.le.nil sz, rfl, h⟩
theorem VW_cellLen (i o : Nat) {g : Nat} {T : TypeId} {ls xs : List V} {sz : Nat} {tok : Option Tok} {c : Code} {Q : Exit -> Fr -> Store -> Prop} (hS : S[i]? = some (.cells g T ls)) (hv : ls[o]? = some (.sl sz tok xs)) (h : xs.length <= maxLen -> VW P nt c Q F S) : VW P nt c Q F S := by
 intro m w a QQ hf hw hK
 obtain ⟨_, ⟨cs, hh, hr⟩, _⟩ := own_cells hw hS
 obtain ⟨u, _, A, cap, _, h1, h2, _⟩ := hr.get hv
 exact h (Yw h1 h2) m w a QQ hf hw hK
theorem VW_perm {c : Code} {Q : Exit -> Fr -> Store -> Prop} {S' : Store} (hp : S.Perm S') (h : VW P nt c Q F S') : VW P nt c Q F S :=
 λ m w a QQ hf hw hK => h m w a QQ hf (hw.perm hp) λ e F' S' m' w' a' k hf' st => hK e F' S' m' w' a' k hf' (st.permL hp)
def rowP (toks : List Tok) (P : List (List Int)) : List V := List.zipWith (λ t l => V.sl 1 (some t) (l.map V.int)) toks P
theorem Zc {ops l : List Oper} {Q : Fr -> Store -> Prop} {o : Oper} (h : VOp P nt o F S λ r S' => VOps P nt ops l (F.put o.dst r) S' Q) (hw : wantOf ops F o = some true := by rfl) (hd : dstOk nt o.dst = true := by rfl) : VOps P nt ops (o :: l) F S Q := VOps_cons hw hd h
theorem Zk1 {ops l : List Oper} {Q : Fr -> Store -> Prop} {o : Oper} {j q : Nat} {b : Bool} (h : b = false) (k : VOps P nt ops l (F.put o.dst (some (.raw undef))) S Q) (hg : o.guard = some (j, true) := by rfl) (hd : (ops[j]?).bind (·.dst) = some q := by rfl) (hF : F.get q = some (.bool b) := by rfl) (hdst : dstOk nt o.dst = true := by rfl) : VOps P nt ops (o :: l) F S Q := VOps_skipU (.inl (skip_of hg hd hF h)) hdst k
theorem Zk0 {ops l : List Oper} {Q : Fr -> Store -> Prop} {o : Oper} {j q : Nat} {b : Bool} (h : b = true) (k : VOps P nt ops l (F.put o.dst (some (.raw undef))) S Q) (hg : o.guard = some (j, false) := by rfl) (hd : (ops[j]?).bind (·.dst) = some q := by rfl) (hF : F.get q = some (.bool b) := by rfl) (hdst : dstOk nt o.dst = true := by rfl) : VOps P nt ops (o :: l) F S Q := VOps_skipU (.inl (skip_of hg hd hF h)) hdst k
theorem Zy1 {ops : List Oper} {o : Oper} {j q : Nat} {b : Bool} (h : b = true) (hg : o.guard = some (j, true) := by rfl) (hd : (ops[j]?).bind (·.dst) = some q := by rfl) (hF : F.get q = some (.bool b) := by rfl) : wantOf ops F o = some true := want_of hg hd hF h
theorem Zy0 {ops : List Oper} {o : Oper} {j q : Nat} {b : Bool} (h : b = false) (hg : o.guard = some (j, false) := by rfl) (hd : (ops[j]?).bind (·.dst) = some q := by rfl) (hF : F.get q = some (.bool b) := by rfl) : wantOf ops F o = some true := want_of hg hd hF h
theorem AllJ_of {p : Nat -> Prop} (h : ∀ j, p j) : ∀ l : List Nat, AllJ l p
 | [] => trivial
 | _ :: l => ⟨h _, AllJ_of h l⟩
theorem goodA {G : Type} [Inhabited G] {ops : List Oper} {F0 : Fr} {ps : List DP} {un : List Nat} {St : Nat -> List G -> Store} {i : Nat} {o : Oper} {acc : List (DRes G)} {R : DRes G} (hu : isUn un i 0 = none)
  (h : ∀ (S : Store) (γ : Nat -> G), Needs ops F0 ps acc γ (dpAt ps i).1 (dpAt ps i).2.1 λ F => VOpG ops P nt o F S λ r S' => R ((dpAt ps i).2.2.map γ) r /\ S' = S) : OpGood ops F0 ps un St P nt i o acc R :=
 goodS hu rfl (AllJ_of (λ j γ => h _ γ) _)
def dn : Nat -> List Nat
 | 0 => []
 | n + 1 => n :: dn n
theorem nth_rev {α : Type} {l : List α} {j j' : Nat} {R : α} (h2 : nth l j' = some R) (h3 : Yp (j' + j + 1) l.length = true) : nth l.reverse j = some R := by
 have h3 := Yx h3
 rw [nth_eq] at h2 ⊢
 rw [List.getElem?_reverse (by omega), <- h2]
 congr 1
 omega
section
variable {G : Type} {ps : List DP} {un : List Nat} {St : Nat -> List G -> Store} {F0 : Fr} {acc : List (DRes G)} {γ : Nat -> G} {pre t : List Nat} {s : Nat} {k : Fr -> Prop} {ops : List Oper}
theorem Zw (j j' : Nat) {R : DRes G} (h2 : nth acc j' = some R) (h : ∀ r, R ((dpAt ps j).2.2.map γ) r -> Needs ops F0 ps acc.reverse γ pre t λ F => k ((s, r) :: F)) (h1 : lookIdx ops s pre = some j := by kernel_rfl) (h3 : Yp (j' + j + 1) acc.length = true := by rfl) : Needs ops F0 ps acc.reverse γ pre (s :: t) k := Needs_w j h1 (nth_rev h2 h3) h
theorem Zf (h : ∀ r, r = F0.get s -> Needs ops F0 ps acc γ pre t λ F => k ((s, r) :: F)) (h1 : lookIdx ops s pre = none := by kernel_rfl) : Needs ops F0 ps acc γ pre (s :: t) k := Needs_f h1 h
theorem Zp {i : Nat} {o : Oper} {rest : List Oper} {k : List (DRes G) -> Prop} (R : DRes G) (h : OpGood ops F0 ps un St P nt i o acc.reverse R) (t : DrawP ops F0 ps un St P nt (i + 1) rest (R :: acc).reverse k) : DrawP ops F0 ps un St P nt i (o :: rest) acc.reverse k := DrawP_cons R h (by rw [<- List.reverse_cons]; exact t)
theorem VW_drawR [Inhabited G] {id : Nat} {Q : Exit -> Fr -> Store -> Prop} {S0 : Store} (ps : List DP) (un : List Nat) (St : Nat -> List G -> Store) (outs ws : List Nat) (hS0 : St 0 [] = S0) (hmix : P.follows .mixedOrders = true)
  (h : DrawP ops F0 ps un St P nt 0 ops ([] : List (DRes G)).reverse λ acc => ∀ γ : Nat -> G, Needs ops F0 ps acc γ (List.range ops.length).reverse outs λ F => Q .normal (F ++ (ws.map (λ s => (s, none)) ++ F0)) (St un.length ((List.range un.length).map γ)))
  (h1 : drawOk ops ps un nt ws = true := by kernel_rfl) (h2 : unOk ops ps un = true := by kernel_rfl) : VW P nt (.region id ops.toArray true) Q F0 S0 := VW_draw ps un St outs ws hS0 hmix h1 h2 h
end
def orOps (q x : Nat) : List Oper -> Option (Nat × Int)
 | [⟨some t, .binOp .eql _ (.tmp x') (.const (.int .i64 k)) _, _, _, _, none⟩, ⟨some q', .assign (.tmp t'), _, _, _, none⟩] => if x' = x /\ q' = q /\ t' = t then some (t, k) else none
 | _ => none
def orC (q x : Nat) : Code -> Option (List (Nat × Int))
 | .region _ ops false => (orOps q x ops.toList).map λ p => [p]
 | .seq (.region _ ops false) (.cond (.tmp q') .skip c) => if q' = q then (orOps q x ops.toList).bind λ p => (orC q x c).map λ l => p :: l else none
 | _ => none
def elemJ (x : Int) : List Int -> Bool
 | [] => false
 | y :: ys => decide (x = y) || elemJ x ys
def freshIn (F : Fr) (nt q x : Nat) : List (Nat × Int) -> Bool
 | [] => true
 | p :: l => (F.get p.1).isNone && !Yp p.1 x && Yr (p.1 + 1) nt && freshIn F nt q x l
def OrPost (F0 : Fr) (S : Store) (q : Nat) (b : Bool) : Exit -> Fr -> Store -> Prop := λ e F' S' => e = .normal /\ S' = S /\ ∀ i v, Fr.get ((q, some (.bool b)) :: F0) i = some v -> F'.get i = some v
theorem orOps_some {q x : Nat} {l : List Oper} {t : Nat} {k : Int} (h : orOps q x l = some (t, k)) : ∃ ty1 ty2 ty3 p1 a1 ty4 p2 a2, l = [⟨some t, .binOp .eql ty1 (.tmp x) (.const (.int .i64 k)) ty2, ty3, p1, a1, none⟩, ⟨some q, .assign (.tmp t), ty4, p2, a2, none⟩] := by
 unfold orOps at h
 split at h
 .split at h
  .rename_i hc
   obtain ⟨rfl, rfl, rfl⟩ := hc
   injection h with h
   injection h with h1 h2
   subst h1 h2
   exact ⟨_, _, _, _, _, _, _, _, rfl⟩
  cases h
 cases h
theorem VW_or1 {F0 F : Fr} {q x : Nat} {a : Int} {id : Nat} {ops : Array Oper} {t : Nat} {k : Int} {Q : Exit -> Fr -> Store -> Prop} (ho : orOps q x ops.toList = some (t, k)) (hx : F.get x = some (.int a)) (hq : Yr (q + 1) nt = true) (hf : ∀ i v, i ≠ q -> F0.get i = some v -> F.get i = some v)
  (h1 : (F0.get t).isNone = true) (h2 : Yp t x = false) (h3 : Yr (t + 1) nt = true) (hqx : Yp q x = false)
  (hk : ∀ F', F'.get q = some (.bool (decide (a = k))) -> F'.get x = some (.int a) -> (∀ i v, i ≠ q -> F0.get i = some v -> F'.get i = some v) -> Q .normal F' S) : VW P nt (.region id ops false) Q F S := by
 obtain ⟨ty1, ty2, ty3, p1, a1, ty4, p2, a2, hl⟩ := orOps_some ho
 have : ops = (ops.toList).toArray := by simp
 rw [this, hl]
 refine VW_region (VOps_cons rfl h3 (V_bin hx rfl rfl (VOps_cons rfl hq (V_assign (v := .bool (a == k)) (by simp [Fr.ev, Fr.put, Fr.get]) (VOps_nil ?_)))))
 have hbq : (a == k) = decide (a = k) := by rw [Bool.eq_iff_iff]; simp
 have hxt : Yp x t = false := by rw [<- Bool.not_eq_true, Ys] at h2 ⊢; exact Ne.symm h2
 have hxq : Yp x q = false := by rw [<- Bool.not_eq_true, Ys] at hqx ⊢; exact Ne.symm hqx
 refine hk _ (by simp [Fr.put, Fr.get, hbq]) (by simp [Fr.put, Fr.get, hxt, hxq, hx]) λ i v hi hv => ?_
 have hit : i ≠ t := λ e => by subst e; rw [hv] at h1; cases h1
 have e1 : Yp i q = false := by rw [<- Bool.not_eq_true, Ys]; exact hi
 have e2 : Yp i t = false := by rw [<- Bool.not_eq_true, Ys]; exact hit
 simp only [Fr.put, Fr.get, e1, e2, cond_false]
 exact hf i v hi hv
theorem VW_orI {F0 : Fr} {q x : Nat} {a : Int} (hq : Yr (q + 1) nt = true) (hqx : Yp q x = false) : ∀ (c : Code) (l : List (Nat × Int)) (F : Fr), orC q x c = some l -> F.get x = some (.int a) -> (∀ i v, i ≠ q -> F0.get i = some v -> F.get i = some v) -> freshIn F0 nt q x l = true ->
  VW P nt c (OrPost F0 S q (elemJ a (l.map (·.2)))) F S
 | .region id ops false, l, F, h, hx, hf, hfr => by
  obtain ⟨⟨t, k⟩, ho, rfl⟩ := Option.map_eq_some_iff.1 (show (orOps q x ops.toList).map (λ p => [p]) = some l from h)
  simp only [freshIn, Bool.and_eq_true, Bool.not_eq_true'] at hfr
  refine VW_or1 ho hx hq hf hfr.1.1.1 hfr.1.1.2 hfr.1.2 hqx λ F' h1 h2 h3 => ⟨rfl, rfl, λ i v hv => ?_⟩
  simp only [Fr.get] at hv
  by_cases hi : i = q
  .subst hi
   simp only [Nat.beq_refl, cond_true] at hv
   rw [h1, <- hv]
   simp [elemJ]
  have e1 : Yp i q = false := by rw [<- Bool.not_eq_true, Ys]; exact hi
  simp only [e1, cond_false] at hv
  exact h3 i v hi hv
 | .seq (.region id ops false) (.cond (.tmp q') .skip c), l, F, h, hx, hf, hfr => by
  simp only [orC] at h
  split at h
  .rename_i hqq
   subst hqq
   obtain ⟨⟨t, k⟩, ho, h⟩ := Option.bind_eq_some_iff.1 h
   obtain ⟨l', hl', rfl⟩ := Option.map_eq_some_iff.1 h
   simp only [freshIn, Bool.and_eq_true, Bool.not_eq_true'] at hfr
   refine VW_seq (VW_or1 ho hx hq hf hfr.1.1.1 hfr.1.1.2 hfr.1.2 hqx λ F' h1 h2 h3 => Then_n (VW_condP h1 (λ e => VW_skip ⟨rfl, rfl, λ i v hv => ?_⟩) λ e => ?_))
   .simp only [Fr.get] at hv
    by_cases hi : i = q'
    .subst hi
     simp only [Nat.beq_refl, cond_true] at hv
     rw [h1, <- hv]
     simp [elemJ, e]
    have e1 : Yp i q' = false := by rw [<- Bool.not_eq_true, Ys]; exact hi
    simp only [e1, cond_false] at hv
    exact h3 i v hi hv
   have := VW_orI hq hqx c l' F' hl' h2 h3 hfr.2
   have e2 : elemJ a (((t, k) :: l').map (·.2)) = elemJ a (l'.map (·.2)) := by simp [elemJ, e]
   rw [e2]
   exact this
  cases h
theorem VW_or {q x : Nat} {a : Int} {c : Code} {Q : Exit -> Fr -> Store -> Prop} (l : List (Nat × Int)) (h : orC q x c = some l) (hx : F.get x = some (.int a)) (hq : (Yr (q + 1) nt && !Yp q x && freshIn F nt q x l) = true)
  (hk : Q .normal ((q, some (.bool (elemJ a (l.map (·.2))))) :: F) S) : VW P nt c Q F S := by
 simp only [Bool.and_eq_true, Bool.not_eq_true'] at hq
 intro m w ac QQ hf hw hK
 refine VW_orI hq.1.1 hq.1.2 c l F h hx (λ i v _ h => h) hq.2 m w ac QQ hf hw λ e F' S' m' w' a' ⟨he, hS, hF⟩ hf' st => ?_
 subst he hS
 exact hK _ _ _ m' w' a' hk ⟨hf'.defers, hf'.size, λ i v hv => hf'.get i v (hF i v hv)⟩ st
structure ArrTy (P : Program) (t n e sz : Nat) (zs : List V) : Prop where
 all : ∃ i ie z, P.underlying t = some (.array n e) /\ P.info? t = some i /\ i.zero = some z /\ P.info? e = some ie /\ ie.size = sz /\ z.cells.toList.map V.raw = zs
 leaf : zs.all V.leaf = true
theorem arr_ty {t n e sz : Nat} {zs : List V} (h1 : P.underlying t = some (.array n e)) (h2 : (P.info? t).bind (λ i => i.zero.map λ z => z.cells.toList) = some cs) (h3 : (P.info? e).map (·.size) = some sz) (h4 : cs.map V.raw = zs) (h5 : zs.all V.leaf = true) : ArrTy P t n e sz zs := by
 obtain ⟨i, hi, h2⟩ := Option.bind_eq_some_iff.1 h2
 obtain ⟨z, hz, rfl⟩ := Option.map_eq_some_iff.1 h2
 obtain ⟨ie, hie, rfl⟩ := Option.map_eq_some_iff.1 h3
 exact ⟨⟨i, ie, z, h1, hi, hz, hie, rfl, h4⟩, h5⟩
theorem fill_le {p p' : Nat -> Option (Nat × Nat)} (h : ∀ i x, p i = some x -> p' i = some x) : ∀ (parts : List (Nat × Value)) (cells out : Array Value), Instr.fill p cells parts = some out -> Instr.fill p' cells parts = some out
 | [], cells, out, k => by simpa [Instr.fill] using k
 | (i, v) :: parts, cells, out, k => by
  simp only [Instr.fill] at k ⊢
  split at k
  .cases k
  rename_i off size hp
  rw [h i _ hp]
  split at k
  .cases k
  rename_i hc
  simp only [hc]
  exact fill_le h parts _ out k
def places (n sz : Nat) : List (Nat × Nat) := (List.range n).map λ i => (i * sz, sz)
theorem V_buildArr {t n e sz : Nat} {zs : List V} {parts : Array (Nat × Operand)} (is : List Nat) (xs : List Operand) {vs ls : List V} (ht : ArrTy P t n e sz zs) (hp : parts.toList = is.zip xs) (hl : Yp is.length xs.length = true) (hv : evs F xs = some vs) (hfill : vfill (places n sz) zs (is.zip vs) = some ls)
  (hk : K (some (.agg ls)) S) : VOp P nt ⟨d, .build t parts, ty, pos, af, gd⟩ F S K := by
 refine VOp_pure _ (λ m w ac hf hw => ?_) hk
 obtain ⟨i, ie, z, h1, h2, h3, h4, h5, h6⟩ := ht.all
 have hl := Yx hl
 have hrep := evs_rep hf hv
 have hvl : vs.length = xs.length := by have := hrep.length; rw [List.length_map] at this; omega
 have hraw : ∀ (us : List Value), RepL m (us.map V.raw) us := λ us => raw_repL
 have hus : (parts.map λ (x : Nat × Operand) => (x.1, ac.eval x.2)).toList = is.zip (xs.map ac.eval) := by
  rw [Array.toList_map, hp, List.zip_map_right]
  rfl
 obtain ⟨cells', g1, g2, g3⟩ := vfill_rep (us := is.zip (xs.map ac.eval)) (cells := z.cells) (parts := is.zip vs) (by rw [List.map_fst_zip (by simp; omega), List.map_fst_zip (by omega)])
  (by rw [List.map_snd_zip (by omega), List.map_snd_zip (by simp; omega)]; exact hrep) (by rw [<- h6]; exact hraw _) ht.leaf hfill
 refine ⟨.agg cells', ?_, g3, cells', rfl, g2⟩
 have hb : P.built t (parts.map λ (x : Nat × Operand) => (x.1, ac.eval x.2)).toList = some cells' := by
  unfold Program.built
  simp only [h2, h1, h3, h4]
  rw [hus]
  refine fill_le (λ j x hj => ?_) _ _ _ g1
  simp only [places, List.getElem?_map] at hj
  obtain ⟨j', hj', hx⟩ := Option.map_eq_some_iff.1 hj
  have hj2 := Yc.1 hj'
  obtain ⟨hlt, hj2⟩ := hj2
  simp at hj2
  subst hj2
  rw [h5]
  exact congrArg some hx
 simp only [execOp, Sem.run_bind, run_build w t _ cells' hb, Result.andThen_ok]
 rfl
theorem V_callKs {f : FuncId} {args : Array Operand} {ats : Array TypeId} (xs : List Operand) {vs : List V} (Sa Sb : Store) {r : V} (ha : args.toList = xs) (hv : evs F xs = some vs) (hen : Enters P f) (hp : S.Perm (Sa ++ Sb)) (hc : VKeep P f vs Sa r)
  (hk : K (some r) S) : VOp P nt ⟨d, .call ⟨.value (.func f), args, ats⟩, ty, pos, af, gd⟩ F S K :=
 VOp.drops (V_call (K := λ r' S' => r' = some r /\ S' = Sa ++ Sb) xs Sa Sb ha hv hen hp hc λ r' Sa' h => ⟨congrArg some h.1, by rw [h.2]⟩) λ r' S' h => ⟨S, Drops.of_perm (by rw [h.2]; exact hp.symm), by rw [h.1]; exact hk⟩
theorem V_callCloKs {f : FuncId} {q : Tmp} {args : Array Operand} {ats : Array TypeId} (xs : List Operand) {vs caps : List V} (Sa Sb : Store) {r : V} (hq : F.get q = some (.clo (.func f) caps)) (ha : args.toList = xs) (hv : evs F xs = some vs) (hen : Enters P f) (hp : S.Perm (Sa ++ Sb)) (hc : VKeep P f (vs ++ caps) Sa r)
  (hk : K (some r) S) : VOp P nt ⟨d, .call ⟨.value (.tmp q), args, ats⟩, ty, pos, af, gd⟩ F S K :=
 VOp.drops (V_callClo (K := λ r' S' => r' = some r /\ S' = Sa ++ Sb) xs Sa Sb hq ha hv hen hp hc λ r' Sa' h => ⟨congrArg some h.1, by rw [h.2]⟩) λ r' S' h => ⟨S, Drops.of_perm (by rw [h.2]; exact hp.symm), by rw [h.1]; exact hk⟩
theorem Drops.trans {S T U : Store} (h : Drops S T) (k : Drops T U) : Drops S U := by
 obtain ⟨R, hR⟩ := h
 obtain ⟨R', hR'⟩ := k
 exact ⟨R ++ R', hR.trans (by rw [Yb]; exact hR'.append_left R)⟩
theorem V_callB {f : FuncId} {args : Array Operand} {ats : Array TypeId} (xs : List Operand) {vs : List V} (Sb Sa : Store) {R : V -> Store -> Prop} (ha : args.toList = xs) (hv : evs F xs = some vs) (hen : Enters P f) (hp : S.Perm (Sb ++ Sa)) (hc : VCalls P f vs Sa R)
  (hk : ∀ r Sa', R r Sa' -> K (some r) (Sb ++ Sa')) : VOp P nt ⟨d, .call ⟨.value (.func f), args, ats⟩, ty, pos, af, gd⟩ F S K :=
 VOp.drops (V_call (K := λ r S' => ∃ r' Sa', r = some r' /\ R r' Sa' /\ S' = Sa' ++ Sb) xs Sa Sb ha hv hen (hp.trans List.perm_append_comm) hc λ r Sa' h => ⟨r, Sa', rfl, h, rfl⟩)
  λ r S' ⟨r', Sa', e, h, e'⟩ => ⟨Sb ++ Sa', Drops.of_perm (by rw [e']; exact List.perm_append_comm), by rw [e]; exact hk r' Sa' h⟩
theorem V_callG {f : FuncId} {args : Array Operand} {ats : Array TypeId} (xs : List Operand) {vs : List V} (Sa Sb : Store) {R : V -> Store -> Prop} (ha : args.toList = xs) (hv : evs F xs = some vs) (hen : Enters P f) (hp : S.Perm (Sa ++ Sb)) (hc : VCalls P f vs Sa R)
  (hk : ∀ r Sa', R r Sa' -> ∃ T, Drops (Sa' ++ Sb) T /\ K (some r) T) : VOp P nt ⟨d, .call ⟨.value (.func f), args, ats⟩, ty, pos, af, gd⟩ F S K :=
 VOp.drops (V_call (K := λ r S' => ∃ r' Sa', r = some r' /\ R r' Sa' /\ S' = Sa' ++ Sb) xs Sa Sb ha hv hen hp hc λ r Sa' h => ⟨r, Sa', rfl, h, rfl⟩)
  λ r S' ⟨r', Sa', e, h, e'⟩ => by
   obtain ⟨T, h1, h2⟩ := hk r' Sa' h
   exact ⟨T, by rw [e']; exact h1, by rw [e]; exact h2⟩
abbrev setSt {G : Type} (A : Store) (i : Nat) (e : G -> Own) : Nat -> List G -> Store := oneSt A λ x => A.set i (e x)
theorem VRet_end {fn : Func} {R : V -> Store -> Prop} (hr : fn.results.toList = []) (hR : R (.tup []) S) : VRet P nt fn R .normal F S := ⟨_, VRes_many hr rfl .nil, hR⟩
theorem VKeep.drops {f : FuncId} {args : List V} {S : Store} {r : V} (h : VCalls P f args S λ r' S' => r' = r /\ Drops S' S) : VKeep P f args S r :=
 VCalls_drops (by
  intro m w us ha hw
  exact (h m w us ha hw).mono λ e w' ⟨r', S', m', u, ⟨h1, h2⟩, h3, h4, h5⟩ => ⟨r', S', m', u, ⟨S, h2, h1, rfl⟩, h3, h4, h5⟩)
end
theorem get_of_lt {α : Type} (l : List α) (k : Nat) (h : (k : Int) < (l.length : Int)) : ∃ x, l[k]? = some x := ⟨l[k]'(by omega), List.getElem?_eq_getElem _⟩
theorem get_mapS {α : Type} (f : α -> V) {l : List α} {k : Nat} {x : α} (h : l[k]? = some x) : (l.map f)[k]? = some (f x) := by simp [h]
theorem take_snoc {α : Type} {l : List α} {k : Nat} {x : α} (h : l[k]? = some x) : l.take (k + 1) = l.take k ++ [x] := by
 obtain ⟨hk, rfl⟩ := Yc.1 h
 exact List.take_succ_eq_append_getElem hk
theorem take_set_succ {α : Type} {l : List α} {k : Nat} {x : α} (h : k < l.length) : (l.set k x).take (k + 1) = l.take k ++ [x] := by
 rw [take_snoc (x := x) (by rw [List.getElem?_set, if_pos rfl, if_pos h]), List.take_set_of_le (Yt _)]
theorem take_end {α : Type} {l : List α} {k : Nat} (h : ¬ (k : Int) < (l.length : Int)) : l.take k = l := List.take_of_length_le (by omega)
theorem drop_cons {α : Type} {l : List α} {k : Nat} {x : α} (h : l[k]? = some x) : l.drop k = x :: l.drop (k + 1) := by
 obtain ⟨hk, rfl⟩ := Yc.1 h
 exact (List.drop_eq_getElem_cons hk)
def idxOf {α : Type} (p : α -> Bool) : List α -> Int
 | [] => -1
 | x :: t => bif p x then 0 else (if idxOf p t < 0 then -1 else idxOf p t + 1)
theorem idxOf_at {α : Type} (p : α -> Bool) : ∀ {l : List α} {k : Nat} {x : α}, l[k]? = some x -> (l.take k).any p = false -> p x = true -> idxOf p l = k
 | y :: l, 0, x, h, _, hp => by simp at h; subst h; simp [idxOf, hp]
 | y :: l, k + 1, x, h, ha, hp => by
  simp at h ha
  have := idxOf_at p h (by simpa using ha.2) hp
  simp only [idxOf, ha.1, cond_false, this]
  rw [if_neg (by omega)]
  omega
theorem idxOf_none {α : Type} (p : α -> Bool) : ∀ {l : List α}, l.any p = false -> idxOf p l = -1
 | [], _ => rfl
 | y :: l, h => by
  simp at h
  have := idxOf_none p (l := l) (by simpa using h.2)
  simp [idxOf, h.1, this]
theorem idxOf_ge {α : Type} (p : α -> Bool) : ∀ (l : List α), decide (idxOf p l ≥ 0) = l.any p
 | [] => rfl
 | y :: l => by
  have ih := idxOf_ge p l
  rw [List.any_cons]
  unfold idxOf
  by_cases hy : p y = true
  .simp [hy]
  have hy' : p y = false := by simpa using hy
  rw [hy', cond_false, Bool.false_or, <- ih]
  by_cases h : idxOf p l < 0
  .rw [if_pos h]; simp; omega
  rw [if_neg h]; simp; omega
theorem any_snoc {α : Type} {p : α -> Bool} {l : List α} {k : Nat} {x : α} (h : l[k]? = some x) (ha : (l.take k).any p = false) (hp : p x = false) : (l.take (k + 1)).any p = false := by
 rw [take_snoc h, List.any_append, ha]
 simp [hp]
theorem idxOf_range {α : Type} (p : α -> Bool) : ∀ (l : List α), idxOf p l = -1 /\ l.any p = false \/ ∃ k x, idxOf p l = (k : Nat) /\ l[k]? = some x /\ p x = true /\ (l.take k).any p = false
 | [] => .inl ⟨rfl, rfl⟩
 | x :: l => by
  by_cases hx : p x = true
  .exact .inr ⟨0, x, by simp [idxOf, hx], by simp, hx, by simp⟩
  have hx' : p x = false := by simpa using hx
  rcases idxOf_range p l with ⟨h1, h2⟩ | ⟨k, y, h1, h2, h3, h4⟩
  .exact .inl ⟨by simp [idxOf, hx', h1], by simp [hx', h2]⟩
  refine .inr ⟨k + 1, y, ?_, by simpa using h2, h3, by simp [hx']; simpa using h4⟩
  simp only [idxOf, hx', cond_false, h1]
  rw [if_neg (by omega)]
  omega
theorem get_int {l : List Int} {k : Nat} {x : Int} (h : l[k]? = some x) : (l.map V.int)[k]? = some (V.int x) := by simp [h]
end Go.VL
end
