/- V-logic, part 8: the nil slice as a buffer; room made ahead; owned rows by their elements; clear. -/
import Derived.Test.YtaklonfdckgdbaaV7
import Derived.Laws.Pointers
import Derived.Lib.Builder
set_option linter.unusedVariables false
set_option linter.unusedSimpArgs false
namespace Go.VL
section
variable {P : Program} {nt : Nat} {F : Fr} {S : Store} {Q : Exit → Fr → Store → Prop} {K : Option V → Store → Prop}
variable {d : Option Tmp} {ty : TypeId} {pos : String} {af : Array Edge} {gd : Option (Nat × Bool)}

theorem FRel.put_same {m : Mem} {a : Act} {q : Nat} {v : V} (hf : FRel m nt F a) (h : Rep m v (a.tmps.getD q undef)) : FRel m nt ((q, some v) :: F) a :=
  ⟨hf.defers, hf.size, fun j u hu => by
    simp only [Fr.get] at hu
    cases hb : Nat.beq j q with
    | true =>
      rw [hb, cond_true] at hu
      injection hu with hu
      subst hu
      rw [Nat.eq_of_beq_eq_true hb]
      exact h
    | false =>
      rw [hb, cond_false] at hu
      exact hf.get j u hu⟩
/-- A slot that holds the nil slice, seen as an empty buffer. -/
theorem VW_nil {q : Nat} (T sz : Nat) {c : Code} (hq : F.get q = some V.nilSl) (h : VW P nt c Q ((q, some (.sl sz (some .nil) [])) :: F) (.buf .nil T sz 0 :: S)) : VW P nt c Q F S := by
  intro m w a QQ hf hw hK
  have hv : a.tmps.getD q undef = .slice none 0 0 := hf.get q _ hq
  have hst := WRel.nilBuf hw T sz .nil (.inl rfl)
  exact h m w a QQ (hf.put_same (v := .sl sz (some .nil) []) ⟨none, 0, hv, Nat.le_refl _, Nat.zero_le _, ⟨rfl, rfl⟩, .inl rfl⟩) hst.rel fun e F' S' m' w' a' k hf' st => hK e F' S' m' w' a' k hf' (hst.trans st)
theorem V_cap_raw {t e len cap : Nat} {A : Option Addr} {x : Operand} (ht : P.underlying t = some (.slice e)) (hx : F.ev x = some (.raw (.slice A len cap))) (hk : K (some (.int cap)) S) :
    VOp P nt ⟨d, .call ⟨.builtin .cap, #[x], #[t]⟩, ty, pos, af, gd⟩ F S K := by
  refine VOp_pure _ (fun m w ac hf hw => ?_) hk
  have ha : ac.eval x = .slice A len cap := hf.ev hx
  exact ⟨.int .i64 cap, by simp [BigFrame.execOp_builtin, BigFrame.builtin_cap, Builtin.cap_, ha, run_underlying ht w, goInt], rfl⟩
/-- A part of a slice that is known to the bit. -/
theorem V_slice_raw {t e sz bytes : Nat} {z : Value} {len cap : Nat} {A : Option Addr} {x : Operand} {lo hi : Option Operand} {l h : Int} (ht : SliceTy P t e sz bytes z) (hx : F.ev x = some (.raw (.slice A len cap)))
    (hl : bound F 0 lo = some l) (hh : bound F len hi = some h) (h0 : 0 ≤ l) (h1 : l ≤ h) (h2 : h ≤ cap) (hk : K (some (.raw (.slice (if cap = l.toNat then A else A.map (·.add (l.toNat * sz))) (h.toNat - l.toNat) (cap - l.toNat)))) S) :
    VOp P nt ⟨d, .slice t x lo hi none, ty, pos, af, gd⟩ F S K := by
  refine VOp_pure _ (fun m w ac hf hw => ?_) hk
  have ha : ac.eval x = .slice A len cap := hf.ev hx
  obtain ⟨i, i1, i2, i3, i4⟩ := ht.info
  refine ⟨_, ?_, rfl⟩
  simp only [execOp, ha, Instr.sliceAt, Sem.run_bind, run_underlying ht.und w, Result.andThen_ok, Instr.slice, Option.map_none, bounds_run hf hl hh h0 h1 h2]
  simp [sizeOf, typeInfo, i1, i2]

/-- append([]T(nil), make([]T, n)...): a row of n zeros, seen as room for a buffer. -/
theorem V_growNil {t tn e sz bytes : Nat} {z : Value} {s x : Operand} {n : Int} (ht : SliceTy P t e sz bytes z) (htn : P.underlying tn = some (.int .i64)) (hs : F.ev s = some V.nilSl) (hx : F.ev x = some (.int n)) (h0 : 0 < n) (hb : n * bytes ≤ 140737488355328)
    (hk : ∀ g cap : Nat, n ≤ cap → cap ≤ 9223372036854775807 → K (some (.raw (.slice (some ⟨g, 0, none⟩) n.toNat cap))) (.buf (.at g cap) e sz 0 :: S)) :
    VOp P nt ⟨d, .call ⟨.builtin .append, #[s, x], #[t, tn]⟩, ty, pos, af, gd⟩ F S K := by
  intro m w ac KK QQ hf hw hK
  have hsv : ac.eval s = .slice none 0 0 := hf.ev hs
  have hxv : ac.eval x = .int .i64 n := hf.ev hx
  obtain ⟨ii, i1, i2, i3, i4⟩ := ht.info
  have hpos := ht.pos.1
  have hbpos := ht.pos.2
  have hnb : n ≤ n * bytes := by
    have := Int.mul_le_mul_of_nonneg_left (show (1 : Int) ≤ bytes by omega) (Int.le_of_lt h0)
    omega
  obtain ⟨k, rfl⟩ := Int.eq_ofNat_of_zero_le (Int.le_of_lt h0)
  have hkb : k * bytes ≤ 140737488355328 := by
    have : ((k * bytes : Nat) : Int) = (k : Int) * bytes := Int.natCast_mul ..
    omega
  have hge := grownCap_ge w (0 + k) 0 e
  have hcm : grownCap w (0 + k) 0 e ≤ maxLen := grownCap_le_maxLen w _ 0 e (by simp only [maxLen]; omega)
  have hcell : ∀ q, (Builtin.zeroCells z.cells q).toList.length = q * sz := fun q => by rw [zeroCells_len, ht.cells]
  have hrun : (execOp ac.eval ⟨d, .call ⟨.builtin .append, #[s, x], #[t, tn]⟩, ty, pos, af, gd⟩).run P w = .ok (.value (.slice (some ⟨w.heap.size, 0, none⟩) (0 + k) (grownCap w (0 + k) 0 e)))
      (w.drew.alloc (.cells (Builtin.zeroCells z.cells k ++ Builtin.zeroCells z.cells (grownCap w (0 + k) 0 e - (0 + k))) e)) := by
    have hw64 : IntKind.i64.wrap (k : Int) = k := by rw [IntKind.wrap_i64]; omega
    have n1 : ¬ ((k : Int) < 0) := by omega
    have n2 : ¬ (281474976710656 < (k : Int) * (ii.bytes : Int)) := by rw [i3]; omega
    have n3 : ¬ (0 + k ≤ 0) := by omega
    have n4 : ¬ (9223372036854775807 < ((0 + k : Nat) : Int)) := by omega
    have n5 : ¬ (281474976710656 < Builtin.nextslicecap (0 + k) 0 * ii.bytes) := by
      have := growslice_fits (need := 0 + k) (old := 0) (bytes := ii.bytes) (by omega) (by rw [i3, Nat.zero_add]; exact hkb)
      omega
    have n6 : ¬ (k * ii.size = 0) := by rw [i2]; have := Nat.mul_pos (show 0 < k by omega) hpos; omega
    simp only [Nat.zero_add] at n3 n4 n5
    have n7 : k ≠ 0 := by omega
    have n8 : ii.size ≠ 0 := by omega
    have n9 : ii.bytes ≠ 0 := by omega
    simp [BigFrame.execOp_builtin, BigFrame.builtin_append, hsv, hxv, Builtin.append_, run_underlying ht.und, run_underlying htn, sizeOf, typeInfo, i1, asInt, asIntOf, hw64, n1, n2, n4, n5, n7, n8, n9, zeroValue, i4, Question.forced, run_firstCells_none, newRow, grownCap]
    intro hh
    exact absurd hh n6
  have hst := Step.allocBuf (T := e) (sz := sz) (n := 0) (cs := []) (cap := grownCap w (0 + k) 0 e) (rest := (Builtin.zeroCells z.cells k ++ Builtin.zeroCells z.cells (grownCap w (0 + k) 0 e - (0 + k))).toList) (Step.drew hw).rel (by simp) (Nat.zero_le _) (by
    rw [List.nil_append, Array.toList_append, List.length_append, hcell, hcell, ← Nat.add_mul]
    congr 1
    omega)
  simp only [List.nil_append, Array.toArray_toList] at hst
  unfold Oper.wp
  rw [hrun]
  refine hK _ _ _ _ _ (hk w.heap.size (grownCap w (0 + k) 0 e) (by omega) (by simp only [maxLen] at hcm; omega)) ?_ ((Step.drew hw).trans hst)
  show _ = _
  rw [Nat.zero_add]
  rfl
/-- The empty part at the begin of a row that is a buffer's. -/
theorem V_slice0 {t e sz bytes : Nat} {z : Value} {len cap g : Nat} {x y : Operand} (ht : SliceTy P t e sz bytes z) (hx : F.ev x = some (.raw (.slice (some ⟨g, 0, none⟩) len cap))) (hy : F.ev y = some (.int 0)) (hc : 0 < cap) (hm : cap ≤ 9223372036854775807)
    (hk : K (some (.sl sz (some (.at g cap)) [])) S) : VOp P nt ⟨d, .slice t x none (some y) none, ty, pos, af, gd⟩ F S K := by
  intro m w a KK QQ hf hw hK
  refine V_slice_raw (K := fun r S' => r = some (.raw (.slice (some ⟨g, 0, none⟩) 0 cap)) ∧ S' = S) ht hx rfl (bound_of hy) (Int.le_refl _) (Int.le_refl _) (by omega) ?_ m w a KK QQ hf hw fun r S' m' w' u hr hru st => ?_
  · refine ⟨?_, rfl⟩
    have : cap ≠ 0 := by omega
    simp [this, Addr.add]
  · obtain ⟨rfl, rfl⟩ := hr
    have hu : u = .slice (some ⟨g, 0, none⟩) 0 cap := hru
    exact hK _ _ m' w' u hk ⟨some ⟨g, 0, none⟩, cap, hu, Nat.zero_le _, by simp only [maxLen]; omega, ⟨rfl, rfl⟩, .inl rfl⟩ st

/-! ### Rows by their elements -/
theorem flat_drop {sz : Nat} : ∀ {xs : List V} {k : Nat} {el : V} {rest : List V}, (∀ x ∈ xs, x.leaves.length = sz) → xs[k]? = some el → ((xs.flatMap V.leaves ++ rest).drop (k * sz)).take sz = el.leaves
  | [], k, el, rest, _, h => by simp at h
  | x :: xs, 0, el, rest, hl, h => by
    simp at h
    subst h
    rw [Nat.zero_mul, List.drop_zero, List.flatMap_cons, List.append_assoc]
    rw [← hl x (List.mem_cons_self ..)]
    exact List.take_left
  | x :: xs, k + 1, el, rest, hl, h => by
    simp at h
    have := flat_drop (rest := rest) (fun y hy => hl y (List.mem_cons_of_mem _ hy)) h
    rw [List.flatMap_cons, List.append_assoc, Nat.succ_mul, Nat.add_comm (k * sz) sz, ← List.drop_drop]
    have hx := hl x (List.mem_cons_self ..)
    rw [show List.drop sz (x.leaves ++ (List.flatMap V.leaves xs ++ rest)) = List.flatMap V.leaves xs ++ rest by rw [← hx]; exact List.drop_left]
    exact this
theorem flat_set {sz : Nat} : ∀ {xs : List V} {k : Nat} {v : V} {rest : List V}, (∀ x ∈ xs, x.leaves.length = sz) → k < xs.length → v.leaves.length = sz →
    (xs.flatMap V.leaves ++ rest).take (k * sz) ++ v.leaves ++ (xs.flatMap V.leaves ++ rest).drop (k * sz + sz) = (xs.set k v).flatMap V.leaves ++ rest
  | [], k, v, rest, _, h, _ => by simp at h
  | x :: xs, 0, v, rest, hl, h, hv => by
    have hx := hl x (List.mem_cons_self ..)
    rw [Nat.zero_mul, List.take_zero, Nat.zero_add, List.set_cons_zero, List.flatMap_cons, List.flatMap_cons, List.nil_append, List.append_assoc, List.append_assoc]
    rw [show List.drop sz (x.leaves ++ (List.flatMap V.leaves xs ++ rest)) = List.flatMap V.leaves xs ++ rest by rw [← hx]; exact List.drop_left]
  | x :: xs, k + 1, v, rest, hl, h, hv => by
    have hx := hl x (List.mem_cons_self ..)
    have ih := flat_set (rest := rest) (fun y hy => hl y (List.mem_cons_of_mem _ hy)) (show k < xs.length by simpa using h) hv
    rw [List.set_cons_succ, List.flatMap_cons, List.flatMap_cons]
    simp only [List.append_assoc] at ih ⊢
    rw [← ih]
    have e1 : (k + 1) * sz = x.leaves.length + k * sz := by rw [Nat.succ_mul, hx, Nat.add_comm]
    rw [e1, List.take_length_add_append, Nat.add_assoc, List.drop_length_add_append]
    simp only [List.append_assoc]
theorem V_load_elem (i k : Nat) {t sz : Nat} {x : Operand} {g o : Nat} {T : TypeId} {ls rest xs : List V} {vs : List V} (ht : AggTy P t sz) (hx : F.ev x = some (.ptr g o)) (ho : o = k * sz) (hS : S[i]? = some (.cells g T ls)) (hls : ls = xs.flatMap V.leaves ++ rest) (hfit : ∀ x ∈ xs, x.leaves.length = sz) (he : xs[k]? = some (.agg vs))
    (hk : K (some (.agg vs)) S) : VOp P nt ⟨d, .load t x, ty, pos, af, gd⟩ F S K := by
  have hkl := (List.getElem?_eq_some_iff.1 he).1
  have h1 := flat_drop (rest := rest) hfit he
  have hle : o + sz ≤ ls.length := by
    have h2 : ((ls.drop o).take sz).length = sz := by
      rw [ho, hls, h1]
      exact hfit _ (List.mem_of_getElem? he)
    rw [List.length_take, List.length_drop] at h2
    rcases Nat.eq_zero_or_pos sz with h0 | h0
    · subst h0
      rw [ho, Nat.mul_zero]
      omega
    · omega
  refine V_load_agg i ht hx hS (Nat.ble_eq_true_of_le hle) ?_
  rw [ho, hls, h1]
  exact hk
theorem V_load_elem1 (i k : Nat) {t : Nat} {x : Operand} {g o : Nat} {T : TypeId} {ls rest xs : List V} {v : V} (ht : LeafTy P t) (hx : F.ev x = some (.ptr g o)) (ho : o = k) (hS : S[i]? = some (.cells g T ls)) (hls : ls = xs ++ rest) (he : xs[k]? = some v)
    (hk : K (some v) S) : VOp P nt ⟨d, .load t x, ty, pos, af, gd⟩ F S K := by
  refine V_load i ht hx hS ?_ hk
  rw [hls, ho, List.getElem?_append_left (List.getElem?_eq_some_iff.1 he).1]
  exact he
theorem V_store_elem (i k : Nat) {t sz : Nat} {x y : Operand} {g o : Nat} {T : TypeId} {ls rest xs : List V} {vs : List V} (ht : AggTy P t sz) (hx : F.ev x = some (.ptr g o)) (ho : o = k * sz) (hy : F.ev y = some (.agg vs)) (hvs : Nat.beq vs.length sz = true) (hS : S[i]? = some (.cells g T ls)) (hls : ls = xs.flatMap V.leaves ++ rest)
    (hfit : ∀ x ∈ xs, x.leaves.length = sz) (hkl : k < xs.length) (hk : K none (S.set i (.cells g T ((xs.set k (.agg vs)).flatMap V.leaves ++ rest)))) : VOp P nt ⟨d, .store t x y, ty, pos, af, gd⟩ F S K := by
  have hvl : vs.length = sz := Nat.eq_of_beq_eq_true hvs
  have he := List.getElem?_eq_getElem hkl
  have h1 := flat_drop (rest := rest) hfit he
  have hle : o + sz ≤ ls.length := by
    have h2 : ((ls.drop o).take sz).length = sz := by
      rw [ho, hls, h1]
      exact hfit _ (List.mem_of_getElem? he)
    rw [List.length_take, List.length_drop] at h2
    rcases Nat.eq_zero_or_pos sz with h0 | h0
    · subst h0
      rw [ho, Nat.mul_zero]
      omega
    · omega
  refine V_store_agg i ht hx hy hvs hS (Nat.ble_eq_true_of_le hle) ?_
  rw [ho, hls]
  have := flat_set (rest := rest) (v := .agg vs) hfit hkl hvl
  have hl2 : (V.agg vs).leaves = vs := rfl
  rw [hl2] at this
  rw [this]
  exact hk
theorem V_store_elem1 (i k : Nat) {t : Nat} {x y : Operand} {g o : Nat} {T : TypeId} {ls rest xs : List V} {v : V} (ht : LeafTy P t) (hx : F.ev x = some (.ptr g o)) (ho : o = k) (hy : F.ev y = some v) (hl : v.leaf = true) (hS : S[i]? = some (.cells g T ls)) (hls : ls = xs ++ rest) (hkl : k < xs.length)
    (hk : K none (S.set i (.cells g T (xs.set k v ++ rest)))) : VOp P nt ⟨d, .store t x y, ty, pos, af, gd⟩ F S K := by
  refine V_store i ht hx hy hl hS (Nat.ble_eq_true_of_le (by rw [hls, List.length_append]; omega)) ?_
  rw [ho, hls, List.set_append_left _ _ hkl]
  exact hk
end
end Go.VL
namespace Go.VL
section
variable {P : Program} {nt : Nat} {F : Fr} {S : Store} {Q : Exit → Fr → Store → Prop} {K : Option V → Store → Prop}
variable {d : Option Tmp} {ty : TypeId} {pos : String} {af : Array Edge} {gd : Option (Nat × Bool)}

/-- A call that hands back what it is handed. -/
def VKeep (P : Program) (f : FuncId) (args : List V) (S : Store) (r : V) : Prop := VCalls P f args S fun r' S' => r' = r ∧ S' = S
theorem VOp.drops {o : Oper} {K' : Option V → Store → Prop} (h : VOp P nt o F S K') (hk : ∀ r S', K' r S' → ∃ T, Drops S' T ∧ K r T) : VOp P nt o F S K := by
  intro m w a KK QQ hf hw hK
  refine h m w a KK QQ hf hw fun r S' m' w' u hr hru st => ?_
  obtain ⟨T, hd, hk'⟩ := hk r S' hr
  exact hK r T m' w' u hk' hru (st.trans (hd.step st.rel))
theorem V_callK (i : Nat) {f : FuncId} {args : Array Operand} {ats : Array TypeId} (xs : List Operand) {vs : List V} {o : Own} {r : V} (ha : args.toList = xs) (hv : evs F xs = some vs) (hen : Enters P f) (hS : S[i]? = some o) (hc : VKeep P f vs [o] r)
    (hk : K (some r) S) : VOp P nt ⟨d, .call ⟨.value (.func f), args, ats⟩, ty, pos, af, gd⟩ F S K := by
  refine VOp.drops (K' := fun r' S' => r' = some r ∧ S' = o :: S.eraseIdx i) (V_call xs [o] (S.eraseIdx i) ha hv hen (perm_erase hS) hc fun r' Sa' ⟨h1, h2⟩ => ⟨by rw [h1], by rw [h2]; rfl⟩) fun r' S' ⟨h1, h2⟩ => ?_
  subst h1
  subst h2
  exact ⟨S, .of_perm (perm_erase hS).symm, hk⟩
theorem V_callCloK (i : Nat) {f : FuncId} {q : Tmp} {args : Array Operand} {ats : Array TypeId} (xs : List Operand) {vs caps : List V} {o : Own} {r : V} (hq : F.get q = some (.clo (.func f) caps)) (ha : args.toList = xs) (hv : evs F xs = some vs) (hen : Enters P f) (hS : S[i]? = some o) (hc : VKeep P f (vs ++ caps) [o] r)
    (hk : K (some r) S) : VOp P nt ⟨d, .call ⟨.value (.tmp q), args, ats⟩, ty, pos, af, gd⟩ F S K := by
  refine VOp.drops (K' := fun r' S' => r' = some r ∧ S' = o :: S.eraseIdx i) (V_callClo xs [o] (S.eraseIdx i) hq ha hv hen (perm_erase hS) hc fun r' Sa' ⟨h1, h2⟩ => ⟨by rw [h1], by rw [h2]; rfl⟩) fun r' S' ⟨h1, h2⟩ => ?_
  subst h1
  subst h2
  exact ⟨S, .of_perm (perm_erase hS).symm, hk⟩

/-- A value seen with less. -/
def V.le (v v' : V) : Prop := ∀ m u, Rep m v u → Rep m v' u
theorem V.le.refl (v : V) : V.le v v := fun _ _ h => h
theorem V.le.of_eq {v v' : V} (h : v = v') : V.le v v' := h ▸ V.le.refl v
theorem V.le.nil (sz : Nat) : V.le V.nilSl (.sl sz none []) := fun m u h => ⟨none, 0, h, Nat.le_refl _, Nat.zero_le _, trivial, .inl rfl⟩
theorem V.le.strip {sz : Nat} {t : Option Tok} {xs : List V} : V.le (.sl sz t xs) (.sl sz none xs) := fun m u ⟨A, cap, h1, h2, h3, h4, h5⟩ => ⟨A, cap, h1, h2, h3, trivial, h5⟩
def V.les : List V → List V → Prop
  | [], [] => True
  | x :: xs, y :: ys => V.le x y ∧ y.leaf = true ∧ V.les xs ys
  | _, _ => False
theorem V.les.repL {m : Mem} : ∀ {xs ys : List V} {us : List Value}, V.les xs ys → RepL m xs us → RepL m ys us ∧ ys.all V.leaf = true
  | [], [], us, _, h => ⟨h, rfl⟩
  | x :: xs, y :: ys, us, ⟨h1, h2, h3⟩, ⟨u, us', e, r, k⟩ => by
    obtain ⟨k1, k2⟩ := V.les.repL h3 k
    exact ⟨⟨u, us', e, h1 _ _ r, k1⟩, by rw [List.all_cons, h2, k2]; rfl⟩
  | [], y :: ys, _, h, _ => h.elim
  | x :: xs, [], _, h, _ => h.elim
theorem V.le.agg {xs ys : List V} (h : V.les xs ys) : V.le (.agg xs) (.agg ys) := fun m u ⟨hl, us, hu, hr⟩ => ⟨(h.repL hr).2, us, hu, (h.repL hr).1⟩
theorem VOp_as {o : Oper} {v v' : V} (h : VOp P nt o F S fun r S' => r = some v ∧ S' = S) (hle : V.le v v') (hk : K (some v') S) : VOp P nt o F S K := by
  intro m w a KK QQ hf hw hK
  refine h m w a KK QQ hf hw fun r S' m' w' u ⟨h1, h2⟩ hru st => ?_
  subst h1
  subst h2
  exact hK _ _ m' w' u hk (hle _ _ hru) st

theorem V_slice_rawFrom {t e sz bytes : Nat} {z : Value} {len cap g o : Nat} {x y : Operand} {l : Int} (ht : SliceTy P t e sz bytes z) (hx : F.ev x = some (.raw (.slice (some ⟨g, o, none⟩) len cap))) (hy : F.ev y = some (.int l)) (h0 : 0 ≤ l) (h1 : l ≤ len) (h2 : l < cap) (h3 : len ≤ cap)
    (hk : K (some (.raw (.slice (some ⟨g, o + l.toNat * sz, none⟩) (len - l.toNat) (cap - l.toNat)))) S) : VOp P nt ⟨d, .slice t x (some y) none none, ty, pos, af, gd⟩ F S K := by
  refine V_slice_raw (h := len) ht hx (bound_of hy) rfl h0 h1 (by omega) ?_
  have hne : ¬ cap = l.toNat := by omega
  rw [if_neg hne, Int.toNat_natCast]
  simp only [Option.map_some, addr_add]
  exact hk
theorem V_slice_rawTo {t e sz bytes : Nat} {z : Value} {len cap g o : Nat} {x y : Operand} {h : Int} (ht : SliceTy P t e sz bytes z) (hx : F.ev x = some (.raw (.slice (some ⟨g, o, none⟩) len cap))) (hy : F.ev y = some (.int h)) (h0 : 0 ≤ h) (h2 : h ≤ cap)
    (hk : K (some (.raw (.slice (some ⟨g, o, none⟩) h.toNat cap))) S) : VOp P nt ⟨d, .slice t x none (some y) none, ty, pos, af, gd⟩ F S K := by
  refine V_slice_raw (l := 0) ht hx rfl (bound_of hy) (Int.le_refl _) h0 h2 ?_
  have e : (if cap = (0 : Int).toNat then (some ⟨g, o, none⟩ : Option Addr) else (some ⟨g, o, none⟩ : Option Addr).map (·.add ((0 : Int).toNat * sz))) = some ⟨g, o, none⟩ := by
    split
    · rfl
    · simp [Addr.add]
  rw [e]
  exact hk
theorem V_sliceFrom {t e sz bytes : Nat} {z : Value} {tok : Option Tok} {x y : Operand} {xs : List V} {l : Int} (ht : SliceTy P t e sz bytes z) (hx : F.ev x = some (.sl sz tok xs)) (hy : F.ev y = some (.int l)) (h0 : 0 ≤ l) (h1 : l ≤ xs.length)
    (hk : K (some (.sl sz none (xs.drop l.toNat))) S) : VOp P nt ⟨d, .slice t x (some y) none none, ty, pos, af, gd⟩ F S K := by
  refine V_slice (h := xs.length) ht hx (bound_of hy) rfl h0 h1 (Int.le_refl _) ?_
  rw [Int.toNat_natCast, List.take_length]
  exact hk
theorem V_sliceTo {t e sz bytes : Nat} {z : Value} {tok : Option Tok} {x y : Operand} {xs : List V} {h : Int} (ht : SliceTy P t e sz bytes z) (hx : F.ev x = some (.sl sz tok xs)) (hy : F.ev y = some (.int h)) (h0 : 0 ≤ h) (h1 : h ≤ xs.length)
    (hk : K (some (.sl sz none (xs.take h.toNat))) S) : VOp P nt ⟨d, .slice t x none (some y) none, ty, pos, af, gd⟩ F S K :=
  V_slice ht hx rfl (bound_of hy) (Int.le_refl _) h0 h1 hk

theorem Drops.keepE {e e' : Own} {S T : Store} (he : e = e') (h : Drops S T) : Drops (e :: S) (e' :: T) := he ▸ Drops.keep h

def oneRes {G : Type} (f : G → V) : DRes G := fun γs r => ∃ x, γs = [x] ∧ r = some (f x)
theorem oneE {G : Type} {C : Prop} {r : Option V} {f : G → V} {y : G} (h : ∃ x, [y] = [x] ∧ r = some (f x)) (k : r = some (f y) → C) : C := by
  obtain ⟨x, hx, h⟩ := h
  injection hx with hx
  subst hx
  exact k h

theorem oneX {G : Type} {C : Option V → Prop} {r : Option V} {f : G → V} {y : G} (h : ∃ x, [y] = [x] ∧ r = some (f x)) (k : C (some (f y))) : C r := by
  obtain ⟨x, hx, h⟩ := h
  injection hx with hx
  subst hx
  subst h
  exact k
theorem oneY {G : Type} {r : Option V} {f : G → V} {y : G} (h : ∃ x, [y] = [x] ∧ r = some (f x)) : r = some (f y) := oneE h id
theorem DrawP_consL {G : Type} {ops : List Oper} {F0 : Fr} {ps : List DP} {un : List Nat} {St : Nat → List G → Store} {i : Nat} {o : Oper} {acc : List (DRes G)} {rest : List Oper} {k : List (DRes G) → Prop} {acc' : List (DRes G)} (R : DRes G) (h : OpGood ops F0 ps un St P nt i o acc R) (he : acc ++ [R] = acc') (t : DrawP ops F0 ps un St P nt (i + 1) rest acc' k) : DrawP ops F0 ps un St P nt i (o :: rest) acc k :=
  ⟨R, h, he ▸ t⟩
/-- Which operation ahead last wrote a slot. -/
def lookIdx (ops : List Oper) (s : Nat) : List Nat → Option Nat
  | [] => none
  | k :: t => bif isDst ops k s then some k else lookIdx ops s t
theorem lookP_w {G : Type} {ops : List Oper} {F0 : Fr} {ps : List DP} {acc : List (DRes G)} {γ : Nat → G} {s j : Nat} {R : DRes G} {r : Option V} (h2 : nth acc j = some R) : ∀ {pre : List Nat}, lookIdx ops s pre = some j → lookP ops F0 ps acc γ s pre r → R ((dpAt ps j).2.2.map γ) r
  | [], h, _ => by cases h
  | k :: t, h, hl => by
    rw [lookIdx] at h
    rw [lookP] at hl
    cases hb : isDst ops k s with
    | true =>
      rw [hb, cond_true] at h hl
      injection h with h
      subst h
      rw [h2] at hl
      exact hl
    | false =>
      rw [hb, cond_false] at h hl
      exact lookP_w h2 h hl
theorem lookP_f {G : Type} {ops : List Oper} {F0 : Fr} {ps : List DP} {acc : List (DRes G)} {γ : Nat → G} {s : Nat} {r : Option V} : ∀ {pre : List Nat}, lookIdx ops s pre = none → lookP ops F0 ps acc γ s pre r → r = F0.get s
  | [], _, hl => hl
  | k :: t, h, hl => by
    rw [lookIdx] at h
    rw [lookP] at hl
    cases hb : isDst ops k s with
    | true => rw [hb, cond_true] at h; cases h
    | false =>
      rw [hb, cond_false] at h hl
      exact lookP_f h hl
theorem Needs_w {G : Type} {ops : List Oper} {F0 : Fr} {ps : List DP} {acc : List (DRes G)} {γ : Nat → G} {pre t : List Nat} {s : Nat} {k : Fr → Prop} (j : Nat) {R : DRes G} (h1 : lookIdx ops s pre = some j) (h2 : nth acc j = some R) (h : ∀ r, R ((dpAt ps j).2.2.map γ) r → Needs ops F0 ps acc γ pre t fun F => k ((s, r) :: F)) :
    Needs ops F0 ps acc γ pre (s :: t) k := fun r hl => h r (lookP_w h2 h1 hl)
theorem Needs_f {G : Type} {ops : List Oper} {F0 : Fr} {ps : List DP} {acc : List (DRes G)} {γ : Nat → G} {pre t : List Nat} {s : Nat} {k : Fr → Prop} (h1 : lookIdx ops s pre = none) (h : ∀ r, r = F0.get s → Needs ops F0 ps acc γ pre t fun F => k ((s, r) :: F)) :
    Needs ops F0 ps acc γ pre (s :: t) k := fun r hl => h r (lookP_f h1 hl)
theorem Needs_nil {G : Type} {ops : List Oper} {F0 : Fr} {ps : List DP} {acc : List (DRes G)} {γ : Nat → G} {pre : List Nat} {k : Fr → Prop} (h : k []) : Needs ops F0 ps acc γ pre [] k := h
theorem goodU1 {G : Type} {ops : List Oper} {F0 : Fr} {ps : List DP} {un : List Nat} {acc : List (DRes G)} {i : Nat} {o : Oper} {R : DRes G} {A : Store} {B : G → Store} (hu : isUn un i 0 = some 0)
    (h : ∀ γ : Nat → G, Needs ops F0 ps acc γ (dpAt ps i).1 (dpAt ps i).2.1 fun F => VOpG ops P nt o F A fun r S' => ∃ x, R ((dpAt ps i).2.2.map (upd γ 0 x)) r ∧ S' = B x) : OpGood ops F0 ps un (oneSt A B) P nt i o acc R :=
  goodU 0 hu h
/-- A guard that was skipped itself. -/
theorem VOps_skipU {ops l : List Oper} {Q' : Fr → Store → Prop} {o : Oper} (hw : wantOf ops F o = some false ∨ ∃ j want q, o.guard = some (j, want) ∧ (ops[j]?).bind (·.dst) = some q ∧ F.get q = some (.raw undef)) (hd : dstOk nt o.dst = true)
    (h : VOps P nt ops l (F.put o.dst (some (.raw undef))) S Q') : VOps P nt ops (o :: l) F S Q' := by
  intro m w a QQ hf hwr hK
  refine wpList_step fun K hKl => ?_
  have hn : Region.wanted o (yielded ops.toArray a.tmps) = false := by
    rcases hw with hw | ⟨j, want, q, h1, h2, h3⟩
    · exact wanted_of hf hw
    · have hu : a.tmps.getD q undef = undef := hf.get q _ h3
      have hop : (ops.toArray[j]?).bind (·.dst) = some q := by simpa using h2
      unfold Region.wanted
      rw [h1]
      dsimp only
      unfold yielded
      rw [hop, Option.bind_some]
      rcases Nat.lt_or_ge q a.tmps.size with hl | hl
      · have : a.tmps[q]? = some undef := by simpa [hl] using hu
        rw [this]
        cases want <;> rfl
      · rw [Array.getElem?_eq_none hl]
        cases want <;> rfl
  rw [if_neg (by rw [hn]; exact Bool.false_ne_true)]
  exact hKl _ _ (h m w _ QQ (hf.put hd (r := some (.raw undef)) rfl) hwr hK)
instance : Inhabited Tok := ⟨.nil⟩
theorem raw_leaves {cs : List Value} (h : ∀ c ∈ cs, c.oneCell' = true) : (cs.map V.raw).all V.leaf = true := by
  rw [List.all_eq_true]
  intro x hx
  obtain ⟨c, hc, rfl⟩ := List.mem_map.1 hx
  exact h c hc
theorem raw_repL {m : Mem} : ∀ {cs : List Value}, RepL m (cs.map V.raw) cs
  | [] => rfl
  | c :: cs => ⟨c, cs, rfl, rfl, raw_repL⟩
theorem zeroCells_mem {z : Value} {n : Nat} {c : Value} (h1 : ∀ c ∈ z.cells.toList, c.oneCell' = true) (hc : c ∈ (Builtin.zeroCells z.cells n).toList) : c.oneCell' = true := by
  have : c ∈ Builtin.zeroCells z.cells n := by simpa using hc
  unfold Builtin.zeroCells at this
  simp only [Array.mem_map, Array.mem_range] at this
  obtain ⟨i, hi, rfl⟩ := this
  have hp : 0 < z.cells.size := by
    rcases Nat.eq_zero_or_pos z.cells.size with h | h
    · rw [h] at hi; omega
    · exact h
  have hlt := Nat.mod_lt i hp
  rw [getElem!_pos z.cells _ hlt]
  exact h1 _ (by simp)

/-- append to an empty slice without room: a new row that may be written. -/
theorem V_appendRow {t e sz bytes : Nat} {z : Value} {s x : Operand} {A : Option Addr} {tx : Option Tok} {ys : List V} (ht : SliceTy P t e sz bytes z) (hz1 : ∀ c ∈ z.cells.toList, c.oneCell' = true) (hs : F.ev s = some (.raw (.slice A 0 0))) (hx : F.ev x = some (.sl sz tx ys))
    (hy : 0 < ys.length) (hb : ys.length * bytes ≤ 140737488355328) (hflat : ∀ y ∈ ys, y.flat = true)
    (hk : ∀ g cap rest, ys.length ≤ cap → cap ≤ maxLen → K (some (.raw (.slice (some ⟨g, 0, none⟩) ys.length cap))) (.cells g e (ys.flatMap V.leaves ++ rest) :: S)) :
    VOp P nt ⟨d, .call ⟨.builtin .append, #[s, x], #[t, t]⟩, ty, pos, af, gd⟩ F S K := by
  intro m w ac KK QQ hf hw hK
  have hsv : ac.eval s = .slice A 0 0 := hf.ev hs
  obtain ⟨ii, i1, i2, i3, i4⟩ := ht.info
  have hpos := ht.pos.1
  have hbpos := ht.pos.2
  obtain ⟨news, hN, hsrc⟩ := src_of hpos ht.und hw (hf.ev hx)
  have hlen : ys.length ≤ 140737488355328 := Nat.le_trans (Nat.le_mul_of_pos_right _ hbpos) hb
  have hsrc' : Src P ii.size t (ac.eval x) ys.length news w := by rw [i2]; exact hsrc
  have hfc : (Builtin.firstCells ii.size 0 (.slice A 0 0)).run P w.drew = .ok ([] : List Value).toArray w.drew := by
    cases A with
    | none => exact run_firstCells_none w.drew ii.size 0 0 0
    | some a => exact run_firstCells_some (P := P) w.drew ii.size 0 a 0 0 [] (by simp) (fun j u h => by simp at h)
  have hrun := run_append_grow_src (P := P) w t t ty e ii z ht.und i1 i4 A 0 0 [] hfc (ac.eval x) ys.length news hsrc' (by omega) (by omega) (growslice_fits (by omega) (by rw [i3, Nat.zero_add]; exact hb))
  have hge := grownCap_ge w (0 + ys.length) 0 e
  have hcm : grownCap w (0 + ys.length) 0 e ≤ maxLen := grownCap_le_maxLen w _ 0 e (by simp only [maxLen]; omega)
  unfold Oper.wp
  simp only [BigFrame.execOp_builtin, BigFrame.builtin_append, Sem.run_bind]
  rw [show (#[s, x] : Array Operand).map ac.eval = #[ac.eval s, ac.eval x] from by simp, hsv, hrun]
  rw [Nat.zero_add] at hge hcm ⊢
  have hw1 := (Step.drew hw).rel
  have hall : (ys.flatMap V.leaves ++ (Builtin.zeroCells z.cells (grownCap w ys.length 0 e - ys.length)).toList.map V.raw).all V.leaf = true := by
    rw [List.all_append, Bool.and_eq_true]
    refine ⟨?_, raw_leaves fun c hc => zeroCells_mem hz1 hc⟩
    rw [List.all_eq_true]
    intro x hx
    obtain ⟨y, hy, hxy⟩ := List.mem_flatMap.1 hx
    exact List.all_eq_true.1 (hflat y hy) x hxy
  refine hK _ _ m _ _ (hk w.heap.size (grownCap w ys.length 0 e) _ hge hcm) rfl ((Step.drew hw).trans (Step.allocRow hw1 hall ?_))
  simp only [List.nil_append, Array.toList_append]
  exact (hN.flatOf hflat).append raw_repL

/-- clear of the end of a row that may be written: what stood ahead stays. -/
theorem V_clear_row (i : Nat) {t e sz bytes : Nat} {z : Value} {x : Operand} {g o len cap : Nat} {T : TypeId} {ls : List V} (ht : SliceTy P t e sz bytes z) (hz1 : ∀ c ∈ z.cells.toList, c.oneCell' = true) (hx : F.ev x = some (.raw (.slice (some ⟨g, o, none⟩) len cap))) (hS : S[i]? = some (.cells g T ls)) (hl : o + len * sz ≤ ls.length)
    (hk : ∀ r rest, K (some r) (S.set i (.cells g T (ls.take o ++ rest)))) : VOp P nt ⟨d, .call ⟨.builtin .clear, #[x], #[t]⟩, ty, pos, af, gd⟩ F S K := by
  intro m w ac KK QQ hf hw hK
  have hxv : ac.eval x = .slice (some ⟨g, o, none⟩) len cap := hf.ev hx
  obtain ⟨ii, i1, i2, i3, i4⟩ := ht.info
  obtain ⟨hall, ⟨cs, hh, hr⟩, hm⟩ := own_cells hw hS
  have hcl := hr.length
  have hul : (Builtin.zeroCells z.cells len).toList.length = len * sz := by rw [zeroCells_len, ht.cells]
  have h1 : ∀ c ∈ (Builtin.zeroCells z.cells len).toList, c.oneCell' = true := fun c hc => zeroCells_mem hz1 hc
  have hst := run_storeCells_at (P := P) g o T (Builtin.zeroCells z.cells len).toList 0 cs w hh (by simp at hcl hul ⊢; omega) h1
  have hrun : (execOp ac.eval ⟨d, .call ⟨.builtin .clear, #[x], #[t]⟩, ty, pos, af, gd⟩).run P w = .ok (.value (.tuple #[])) (if len = 0 then w else w.setRow g (cs.toList.take (o + 0) ++ (Builtin.zeroCells z.cells len).toList ++ cs.toList.drop (o + 0 + (Builtin.zeroCells z.cells len).toList.length)).toArray) := by
    by_cases h0 : len = 0
    · subst h0
      simp [BigFrame.execOp_builtin, BigFrame.builtin_clear, Builtin.clear_, hxv, run_underlying ht.und]
    · rw [if_neg h0]
      simp only [BigFrame.execOp_builtin, BigFrame.builtin_clear, Sem.run_bind]
      rw [show (#[x] : Array Operand).map ac.eval = #[ac.eval x] from by simp, hxv]
      simp only [Nat.add_zero] at hst ⊢
      simp [Builtin.clear_, run_underlying ht.und, zeroValue, typeInfo, i1, i4, h0, hst]
  unfold Oper.wp
  rw [hrun]
  by_cases h0 : len = 0
  · rw [if_pos h0]
    refine hK _ _ m _ (.tuple #[]) (hk (.raw (.tuple #[])) (ls.drop o)) rfl ?_
    rw [List.take_append_drop]
    have : S.set i (.cells g T ls) = S := by
      obtain ⟨hl, he⟩ := List.getElem?_eq_some_iff.1 hS
      rw [← he]
      exact List.set_getElem_self ..
    rw [this]
    exact Step.refl hw
  · rw [if_neg h0]
    refine hK _ _ m _ (.tuple #[]) (hk (.raw (.tuple #[])) ((Builtin.zeroCells z.cells len).toList.map V.raw ++ ls.drop (o + len * sz))) rfl ?_
    have hheap := setRow_heap w g cs (cs.toList.take (o + 0) ++ (Builtin.zeroCells z.cells len).toList ++ cs.toList.drop (o + 0 + (Builtin.zeroCells z.cells len).toList.length)).toArray T (0, 0) hh
    refine Step.update hw hS rfl rfl rfl rfl rfl (by simp [World.setRow]) (fun b hb => ?_) (Sub.refl m) (fun b o v _ h => h) (fun o' v' h => by rw [hm o'] at h; cases h) ⟨?_, ⟨_, hheap, ?_⟩, hm⟩
    · simp [World.setRow, Array.getElem?_modify, Ne.symm hb]
    · rw [List.all_append, List.all_append, Bool.and_eq_true, Bool.and_eq_true]
      rw [List.all_eq_true] at hall
      exact ⟨List.all_eq_true.2 fun x hx => hall x (List.mem_of_mem_take hx), raw_leaves h1, List.all_eq_true.2 fun x hx => hall x (List.mem_of_mem_drop hx)⟩
    · simp only [Nat.add_zero]
      rw [List.append_assoc, hul]
      exact (hr.take o).append (raw_repL.append (hr.drop (o + len * sz)))
end
end Go.VL
namespace Go.VL
section
variable {P : Program} {nt : Nat} {F : Fr} {S : Store} {K : Option V → Store → Prop}
variable {d : Option Tmp} {ty : TypeId} {pos : String} {af : Array Edge} {gd : Option (Nat × Bool)}
theorem run_equalIn_boolV (w : World) (n : Nat) (t : TypeId) (x y : Bool) (hu : P.underlying t = some .bool) : (Op.equalIn (n + 1) t (.bool x) (.bool y)).run P w = .ok (x == y) w := by
  rw [Op.equalIn]
  simp [run_underlying hu]
theorem run_equal_bool (w : World) (t : TypeId) (x y : Bool) (hu : P.underlying t = some .bool) : (Op.equal t (.bool x) (.bool y)).run P w = .ok (x == y) w := by
  simp [Op.equal, Op.maxDepth, run_equalIn_boolV w 9999 t x y hu]
theorem V_booleq {t t2 : TypeId} {x y : Operand} {a b : Bool} (hu : P.underlying t = some .bool) (hx : F.ev x = some (.bool a)) (hy : F.ev y = some (.bool b)) (hk : K (some (.bool (a == b))) S) :
    VOp P nt ⟨d, .binOp .eql t x y t2, ty, pos, af, gd⟩ F S K := by
  refine VOp_pure (some (.bool (a == b))) (fun m w ac hf hw => ?_) hk
  have ha : ac.eval x = .bool a := hf.ev hx
  have hb : ac.eval y = .bool b := hf.ev hy
  refine ⟨.bool (a == b), ?_, rfl⟩
  simp only [execOp, ha, hb, Sem.run_bind]
  simp [eqGuard, binOp, run_equal_bool w t a b hu]
end
end Go.VL
namespace Go.VL
section
variable {P : Program} {nt : Nat} {F : Fr} {S : Store} {Q : Exit → Fr → Store → Prop} {K : Option V → Store → Prop}
variable {d : Option Tmp} {ty : TypeId} {pos : String} {af : Array Edge} {gd : Option (Nat × Bool)}
theorem VOp_weak {o : Oper} {K' : Option V → Store → Prop} (h : VOp P nt o F S K') (hk : ∀ r S', K' r S' → ∃ v v' T, r = some v ∧ V.le v v' ∧ Drops S' T ∧ K (some v') T) : VOp P nt o F S K := by
  intro m w a KK QQ hf hw hK
  refine h m w a KK QQ hf hw fun r S' m' w' u hr hru st => ?_
  obtain ⟨v, v', T, rfl, hle, hd, hk'⟩ := hk r S' hr
  exact hK _ T m' w' u hk' (hle _ _ hru) (st.trans (hd.step st.rel))
/-- An empty literal. -/
theorem V_lit0 {t e sz bytes : Nat} {z : Value} {n : Nat} {parts : Array (Nat × Operand)} (ps : List Operand) {vs : List V} (ht : SliceTy P t e sz bytes z) (hp : parts.toList = idx 0 ps) (hn : ps.length = n) (hn24 : Nat.ble (n * sz) 16777216 = true)
    (hv : evs F ps = some vs) (hfit : vs.all (V.fits sz) = true) (h0 : n = 0) (hk : K (some (.sl sz (some .zero) vs)) S) : VOp P nt ⟨d, .buildSlice t n parts, ty, pos, af, gd⟩ F S K := by
  intro m w ac KK QQ hf hw hK
  obtain ⟨cs, h1, h2, h3, hrun⟩ := lit_run (d := d) (ty := ty) (pos := pos) (af := af) (gd := gd) (w := w) ht hp hn hn24 hf hv hfit
  have hle := Nat.le_of_ble_eq_true hn24
  have hpos := ht.pos.1
  have hnl : n ≤ 16777216 := Nat.le_trans (Nat.le_mul_of_pos_right n hpos) hle
  unfold Oper.wp
  rw [hrun]
  refine hK _ S (m.new w.heap.size cs) _ _ hk ?_ (Step.allocImm hw)
  refine ⟨some ⟨w.heap.size, 0, none⟩, n, by rw [h2], by omega, by simp only [maxLen]; omega, h0, .inr ⟨_, _, rfl, ?_⟩⟩
  exact (h1.mono (Mem.sub_new hw cs)).els (Mem.at_new m _ cs)
/-- append to it. -/
theorem V_append0 {t e sz bytes : Nat} {z : Value} {s x : Operand} {tx : Option Tok} {ys : List V} (ht : SliceTy P t e sz bytes z) (hs : F.ev s = some (.sl sz (some .zero) [])) (hx : F.ev x = some (.sl sz tx ys))
    (hb : ys.length * bytes ≤ 140737488355328) (hk : ∀ tok', K (some (.sl sz (some tok') ys)) (.buf tok' e sz ys.length :: S)) :
    VOp P nt ⟨d, .call ⟨.builtin .append, #[s, x], #[t, t]⟩, ty, pos, af, gd⟩ F S K := by
  intro m w ac KK QQ hf hw hK
  have hst := WRel.nilBuf hw e sz .zero (.inr rfl)
  exact V_append (S := .buf .zero e sz 0 :: S) 0 ht hs hx rfl (by simpa using hb) hk m w ac KK QQ hf hst.rel fun r S' m' w' u hr hru st => hK r S' m' w' u hr hru (hst.trans st)
theorem erase_set {α : Type} {e : α} : ∀ (l : List α) (i : Nat), (l.set i e).eraseIdx i = l.eraseIdx i
  | [], _ => rfl
  | a :: l, 0 => rfl
  | a :: l, i + 1 => by rw [List.set_cons_succ, List.eraseIdx_cons_succ, List.eraseIdx_cons_succ, erase_set l i]
/-- append for the last time. -/
theorem V_appendEnd (i n : Nat) {t e sz bytes : Nat} {z : Value} {s x : Operand} {tok : Tok} {tx : Option Tok} {xs ys : List V} (ht : SliceTy P t e sz bytes z) (hs : F.ev s = some (.sl sz (some tok) xs)) (hx : F.ev x = some (.sl sz tx ys))
    (hS : S[i]? = some (.buf tok e sz n)) (hn : n = xs.length) (hb : (xs.length + ys.length) * bytes ≤ 140737488355328) {zs : List V} (hz : xs ++ ys = zs) (hk : K (some (.sl sz none zs)) (S.eraseIdx i)) :
    VOp P nt ⟨d, .call ⟨.builtin .append, #[s, x], #[t, t]⟩, ty, pos, af, gd⟩ F S K := by
  subst hz
  refine VOp_weak (K' := fun r S' => ∃ tok', r = some (.sl sz (some tok') (xs ++ ys)) ∧ S' = S.set i (.buf tok' e sz (xs ++ ys).length)) (V_appendN i n ht hs hx hS hn hb fun tok' => ⟨tok', rfl, rfl⟩) fun r S' ⟨tok', h1, h2⟩ => ?_
  refine ⟨_, _, S.eraseIdx i, h1, V.le.strip, ?_, hk⟩
  subst h2
  have hi : (S.set i (.buf tok' e sz (xs ++ ys).length))[i]? = some (.buf tok' e sz (xs ++ ys).length) := by
    have := (List.getElem?_eq_some_iff.1 hS).1
    simp [this]
  have hp := perm_erase hi
  rw [erase_set] at hp
  exact ⟨[_], hp⟩
/-- make, not to be written. -/
theorem V_makeImm {t e sz bytes : Nat} {z : Value} {l c : Operand} {n : Int} (zv : V) (hz : ∀ m, Rep m zv z) (hzf : zv.fits sz = true) (ht : SliceTy P t e sz bytes z) (hl : F.ev l = some (.int n)) (hc : F.ev c = some (.int n)) (h0 : 0 ≤ n) (hb : n * bytes ≤ 281474976710656)
    (hk : K (some (.sl sz none (List.replicate n.toNat zv))) S) : VOp P nt ⟨d, .makeSlice t l c, ty, pos, af, gd⟩ F S K := by
  refine VOp_weak (K' := fun r S' => ∃ tok', r = some (.sl sz (some tok') (List.replicate n.toNat zv)) ∧ S' = .buf tok' e sz n.toNat :: S) (V_make zv hz hzf ht hl hc h0 hb fun tok' => ⟨tok', rfl, rfl⟩) fun r S' ⟨tok', h1, h2⟩ => ?_
  subst h2
  exact ⟨_, _, S, h1, V.le.strip, Drops.drop (Drops.refl _), hk⟩
end
end Go.VL
namespace Go.VL
section
variable {P : Program} {nt : Nat} {F : Fr} {S : Store} {Q : Exit → Fr → Store → Prop} {K : Option V → Store → Prop}
variable {d : Option Tmp} {ty : TypeId} {pos : String} {af : Array Edge} {gd : Option (Nat × Bool)}
/-- A call whose answer is a list of its own, which may be appended to. -/
def VList (P : Program) (f : FuncId) (args : List V) (T sz : Nat) (xs : List V) : Prop := VCalls P f args [] fun r S' => ∃ tok, r = .sl sz (some tok) xs ∧ S' = [.buf tok T sz xs.length]
theorem V_callBuf {f : FuncId} {args : Array Operand} {ats : Array TypeId} (xs : List Operand) {vs ys : List V} {T sz : Nat} (ha : args.toList = xs) (hv : evs F xs = some vs) (hen : Enters P f) (hc : VList P f vs T sz ys)
    (hk : ∀ tok, K (some (.sl sz (some tok) ys)) (.buf tok T sz ys.length :: S)) : VOp P nt ⟨d, .call ⟨.value (.func f), args, ats⟩, ty, pos, af, gd⟩ F S K :=
  V_call xs [] S ha hv hen (.refl _) hc fun r' Sa' ⟨tok, h1, h2⟩ => by subst h1; subst h2; exact hk tok
theorem VList.pure {f : FuncId} {args : List V} {T sz : Nat} {xs : List V} (h : VList P f args T sz xs) : VCalls P f args [] fun r S' => ∃ tok, r = .sl sz (some tok) xs ∧ S' = [.buf tok T sz xs.length] := h
theorem Drops.pick {S T : Store} (i : Nat) {e e' : Own} (hS : S[i]? = some e) (he : e = e') (h : Drops (S.eraseIdx i) T) : Drops S (e' :: T) := by
  obtain ⟨R, hp⟩ := h
  subst he
  exact ⟨R, (perm_erase hS).trans ((hp.cons e).trans List.perm_middle.symm)⟩
theorem Drops.pickBuf {S T : Store} (i : Nat) {t : Tok} {E sz n n' : Nat} (hS : S[i]? = some (.buf t E sz n)) (he : n = n') (h : Drops (S.eraseIdx i) T) : Drops S (.buf t E sz n' :: T) := Drops.pick i hS (by rw [he]) h
/-- A call that leaves a store of which a token is told. -/
def VTok (P : Program) (f : FuncId) (args : List V) (S : Store) (r : V) (St : Tok → Store) : Prop := VCalls P f args S fun r' S' => ∃ tk, r' = r ∧ S' = St tk
theorem V_callTok {f : FuncId} {args : Array Operand} {ats : Array TypeId} (xs : List Operand) {vs : List V} (Sa Sb : Store) {r : V} {St : Tok → Store} (ha : args.toList = xs) (hv : evs F xs = some vs) (hen : Enters P f) (hp : S.Perm (Sa ++ Sb)) (hc : VTok P f vs Sa r St)
    (hk : ∀ tk, K (some r) (St tk ++ Sb)) : VOp P nt ⟨d, .call ⟨.value (.func f), args, ats⟩, ty, pos, af, gd⟩ F S K :=
  V_call xs Sa Sb ha hv hen hp hc fun r' Sa' ⟨tok, h1, h2⟩ => by subst h1; subst h2; exact hk tok
def threeSt {G : Type} (A : Store) (B : G → Store) (C : G → G → Store) (D : G → G → G → Store) : Nat → List G → Store
  | 0, _ => A
  | 1, [x] => B x
  | 2, [x, y] => C x y
  | 3, [x, y, z] => D x y z
  | _, _ => []
/-- Both ways of a branch meet again: the frame and the store behind it. -/
theorem VW_cutF {x y : Code} (F1 : Fr) (S1 : Store) (h1 : VW P nt x (Then (fun F' S' => Fr.sub F1 F' ∧ Drops S' S1) Q) F S) (h2 : VW P nt y Q F1 S1) : VW P nt (.seq x y) Q F S :=
  VW_cut _ h1 fun F' S' ⟨hs, R, hp⟩ => VW.weaken hs hp (VW.drop h2)
/-- The nil slice is an empty list that may be appended to. -/
theorem V.le.nilTok (sz : Nat) : V.le V.nilSl (.sl sz (some .nil) []) := fun m u h => ⟨none, 0, h, Nat.le_refl _, Nat.zero_le _, ⟨rfl, rfl⟩, .inl rfl⟩
/-- A cell's contents seen with less. -/
theorem VW_cells (i : Nat) {g : Nat} {T : TypeId} {ls ls' : List V} {c : Code} (hS : S[i]? = some (.cells g T ls)) (hle : V.les ls ls') (h : VW P nt c Q F (S.set i (.cells g T ls'))) : VW P nt c Q F S := by
  intro m w a QQ hf hw hK
  have hd : dom (S.set i (.cells g T ls')) = dom S := dom_set hS rfl
  have hrel : WRel m (S.set i (.cells g T ls')) w := by
    refine ⟨hw.agree, by rw [hd]; exact hw.nodup, fun e he => ?_⟩
    rcases mem_set_cases he with he | he
    · rw [he]
      obtain ⟨_, ⟨cs, h1, h2⟩, h3⟩ := hw.holds _ (List.mem_of_getElem? hS)
      exact ⟨(hle.repL h2).2, ⟨cs, h1, (hle.repL h2).1⟩, h3⟩
    · exact hw.holds e he
  have hst : Step m S w m (S.set i (.cells g T ls')) w := ⟨hrel, rfl, rfl, rfl, Nat.le_refl _, fun _ _ _ => rfl, Sub.refl m, fun _ _ _ h => .inl h, fun b hb => .inl (by rw [hd] at hb; exact hb)⟩
  exact h m w a QQ hf hrel fun e F' S' m' w' a' hq hf' st => hK e F' S' m' w' a' hq hf' (hst.trans st)
/-- An empty list that may be appended to stands in the store for nothing. -/
theorem VW_nilBuf (T sz : Nat) {c : Code} (h : VW P nt c Q F (.buf .nil T sz 0 :: S)) : VW P nt c Q F S := by
  intro m w a QQ hf hw hK
  have hst := WRel.nilBuf hw T sz .nil (.inl rfl)
  exact h m w a QQ hf hst.rel fun e F' S' m' w' a' hq hf' st => hK e F' S' m' w' a' hq hf' (hst.trans st)
end
end Go.VL
namespace Go.VL
section
variable {P : Program} {nt : Nat} {F : Fr} {S : Store} {K : Option V → Store → Prop}
variable {d : Option Tmp} {ty : TypeId} {pos : String} {af : Array Edge} {gd : Option (Nat × Bool)}
theorem ptr_pointee {t e : TypeId} (ht : P.underlying t = some (.pointer e)) : P.underlying t = some (.pointer (P.pointee t)) := by
  simp only [Program.pointee, ht]
theorem V_nilNeNil {t t2 e : TypeId} {x : Operand} (ht : P.underlying t = some (.pointer e)) (hx : F.ev x = some (.raw (.pointer none))) (hk : K (some (.bool false)) S) :
    VOp P nt ⟨d, .binOp .neq t x (.const (.pointer none)) t2, ty, pos, af, gd⟩ F S K := by
  refine VOp_pure (some (.bool false)) (fun m w ac hf hw => ?_) hk
  have ha : ac.eval x = .pointer none := hf.ev hx
  refine ⟨.bool false, ?_, rfl⟩
  have hg : (eqGuard .neq t x (.const (.pointer none)) (.pointer none) (.pointer none)).run P w = .ok () w := rfl
  simp only [execOp, ha, BigFrame.eval_const, Sem.run_bind, hg, Result.andThen_ok, run_neq_pointer_nil w t none (ptr_pointee ht)]
  rfl
theorem V_epNeNil {t t2 e : TypeId} {x : Operand} {a : Addr} {v : V} (ht : P.underlying t = some (.pointer e)) (hx : F.ev x = some (.ep a v)) (hk : K (some (.bool true)) S) :
    VOp P nt ⟨d, .binOp .neq t x (.const (.pointer none)) t2, ty, pos, af, gd⟩ F S K := by
  refine VOp_pure (some (.bool true)) (fun m w ac hf hw => ?_) hk
  have ha : ac.eval x = .pointer (some a) := (hf.ev hx).1
  refine ⟨.bool true, ?_, rfl⟩
  have hg : (eqGuard .neq t x (.const (.pointer none)) (.pointer (some a)) (.pointer none)).run P w = .ok () w := rfl
  simp only [execOp, ha, BigFrame.eval_const, Sem.run_bind, hg, Result.andThen_ok, run_neq_pointer_nil w t (some a) (ptr_pointee ht)]
  rfl
theorem V_nilEqNil {t t2 e : TypeId} {x : Operand} (ht : P.underlying t = some (.pointer e)) (hx : F.ev x = some (.raw (.pointer none))) (hk : K (some (.bool true)) S) :
    VOp P nt ⟨d, .binOp .eql t x (.const (.pointer none)) t2, ty, pos, af, gd⟩ F S K := by
  refine VOp_pure (some (.bool true)) (fun m w ac hf hw => ?_) hk
  have ha : ac.eval x = .pointer none := hf.ev hx
  refine ⟨.bool true, ?_, rfl⟩
  have hg : (eqGuard .eql t x (.const (.pointer none)) (.pointer none) (.pointer none)).run P w = .ok () w := rfl
  simp only [execOp, ha, BigFrame.eval_const, Sem.run_bind, hg, Result.andThen_ok, run_eql_pointer_nil w t none (ptr_pointee ht)]
  rfl
theorem V_epEqNil {t t2 e : TypeId} {x : Operand} {a : Addr} {v : V} (ht : P.underlying t = some (.pointer e)) (hx : F.ev x = some (.ep a v)) (hk : K (some (.bool false)) S) :
    VOp P nt ⟨d, .binOp .eql t x (.const (.pointer none)) t2, ty, pos, af, gd⟩ F S K := by
  refine VOp_pure (some (.bool false)) (fun m w ac hf hw => ?_) hk
  have ha : ac.eval x = .pointer (some a) := (hf.ev hx).1
  refine ⟨.bool false, ?_, rfl⟩
  have hg : (eqGuard .eql t x (.const (.pointer none)) (.pointer (some a)) (.pointer none)).run P w = .ok () w := rfl
  simp only [execOp, ha, BigFrame.eval_const, Sem.run_bind, hg, Result.andThen_ok, run_eql_pointer_nil w t (some a) (ptr_pointee ht)]
  rfl
end
end Go.VL
namespace Go.VL
section
variable {P : Program} {nt : Nat} {F : Fr} {S : Store} {Q : Exit → Fr → Store → Prop} {K : Option V → Store → Prop}
variable {d : Option Tmp} {ty : TypeId} {pos : String} {af : Array Edge} {gd : Option (Nat × Bool)}
/-- A list lies somewhere. -/
theorem VW_pin {q sz : Nat} {tok : Option Tok} {xs : List V} {c : Code} (hq : F.get q = some (.sl sz tok xs)) (h : ∀ a, VW P nt c Q ((q, some (.sl sz (some (.pin a)) xs)) :: F) S) : VW P nt c Q F S := by
  intro m w ac QQ hf hw hK
  obtain ⟨A, cap, h1, h2, h3, _, h5⟩ := hf.get q _ hq
  have key : ∀ a, (∀ a', A = some a' → a' = a) → FRel m nt ((q, some (.sl sz (some (.pin a)) xs)) :: F) ac := fun a ha => FRel.put_same hf ⟨A, cap, h1, h2, h3, ha, h5⟩
  cases A with
  | none => exact h default m w ac QQ (key default fun a' h => by cases h) hw hK
  | some a => exact h a m w ac QQ (key a fun a' h => by injection h with h; exact h.symm) hw hK
theorem V_indexAddr_pin {t e sz bytes : Nat} {z : Value} {a : Addr} {x ix : Operand} {xs : List V} {n : Int} {el : V} (ht : SliceTy P t e sz bytes z) (hx : F.ev x = some (.sl sz (some (.pin a)) xs)) (hi : F.ev ix = some (.int n)) (h0 : 0 ≤ n) (he : xs[n.toNat]? = some el)
    (hk : K (some (.ep ⟨a.block, a.off + n.toNat * sz, none⟩ el)) S) : VOp P nt ⟨d, .indexAddr t x ix, ty, pos, af, gd⟩ F S K := by
  intro m w ac KK QQ hf hw hK
  obtain ⟨A, cap, ha, hc, hm, hpin, hels⟩ := hf.ev hx
  have hn : ac.eval ix = .int .i64 n := hf.ev hi
  have hlt : n.toNat < xs.length := (List.getElem?_eq_some_iff.1 he).1
  rcases hels with rfl | ⟨b, off, rfl, hels⟩
  · simp at hlt
  have hab : (⟨b, off, none⟩ : Addr) = a := hpin _ rfl
  subst hab
  obtain ⟨u, hr, hsz, ho, hat⟩ := hels.get he
  obtain ⟨i, h1, h2, h3, h4⟩ := ht.info
  have hrun : (execOp ac.eval ⟨d, .indexAddr t x ix, ty, pos, af, gd⟩).run P w = .ok (.value (.pointer (some ⟨b, off + n.toNat * sz, none⟩))) w := by
    have hcond : 0 ≤ n ∧ n < (xs.length : Int) := ⟨h0, by omega⟩
    simp [execOp, ha, hn, Instr.indexAt, asIntOf, run_underlying ht.und w, hcond, sizeOf, typeInfo, h1, h2, addr_add]
  unfold Oper.wp
  rw [hrun]
  exact hK _ S m w _ hk ⟨rfl, rfl, u, hr, hat⟩ (Step.refl hw)
theorem VCalls_le {f : FuncId} {vs vs' : List V} {R : V → Store → Prop} (h : ∀ m us, RepL m vs us → RepL m vs' us) (k : VCalls P f vs' S R) : VCalls P f vs S R := fun m w us ha hw => k m w us (h m _ ha) hw
/-- The same address. -/
theorem V_ptrNeSame {t t2 e : TypeId} {x y : Operand} {a : Addr} {u v : V} (ht : P.underlying t = some (.pointer e)) (hte : ∃ j, P.info? e = some j) (hx : F.ev x = some (.ep a u)) (hy : F.ev y = some (.ep a v)) (hk : K (some (.bool false)) S) :
    VOp P nt ⟨d, .binOp .neq t x y t2, ty, pos, af, gd⟩ F S K := by
  obtain ⟨j, hte⟩ := hte
  refine VOp_pure (some (.bool false)) (fun m w ac hf hw => ?_) hk
  have ha : ac.eval x = .pointer (some a) := (hf.ev hx).1
  have hb : ac.eval y = .pointer (some a) := (hf.ev hy).1
  refine ⟨.bool false, ?_, rfl⟩
  have hg : (eqGuard .neq t x y (.pointer (some a)) (.pointer (some a))).run P w = .ok () w := rfl
  simp only [execOp, ha, hb, Sem.run_bind, hg, Result.andThen_ok, Lib.run_neq_ptr_same w a ht hte]
  rfl
theorem run_neq_bool (w : World) (t : TypeId) (x y : Bool) (hu : P.underlying t = some .bool) : (binOp .neq t (.bool x) (.bool y)).run P w = .ok (.bool (!(x == y))) w := by
  simp only [binOp]
  simp [run_equal_bool w t x y hu]
theorem V_boolne {t t2 : TypeId} {x y : Operand} {a b : Bool} (hu : P.underlying t = some .bool) (hx : F.ev x = some (.bool a)) (hy : F.ev y = some (.bool b)) (hk : K (some (.bool (!(a == b)))) S) :
    VOp P nt ⟨d, .binOp .neq t x y t2, ty, pos, af, gd⟩ F S K := by
  refine VOp_pure (some (.bool (!(a == b)))) (fun m w ac hf hw => ?_) hk
  have ha : ac.eval x = .bool a := hf.ev hx
  have hb : ac.eval y = .bool b := hf.ev hy
  refine ⟨.bool (!(a == b)), ?_, rfl⟩
  have hg : (eqGuard .neq t x y (.bool a) (.bool b)).run P w = .ok () w := rfl
  simp only [execOp, ha, hb, Sem.run_bind, hg, Result.andThen_ok, run_neq_bool w t a b hu]
  rfl
end
end Go.VL
namespace Go.VL
section
variable {P : Program} {nt : Nat} {F : Fr} {S : Store} {K : Option V → Store → Prop}
variable {d : Option Tmp} {ty : TypeId} {pos : String} {af : Array Edge} {gd : Option (Nat × Bool)}
theorem V_rem {t t2 : TypeId} {x y : Operand} {a b : Int} (hx : F.ev x = some (.int a)) (hy : F.ev y = some (.int b)) (hb : b ≠ 0) (hk : K (some (.int (a.tmod b))) S) :
    VOp P nt ⟨d, .binOp .rem t x y t2, ty, pos, af, gd⟩ F S K := by
  refine VOp_pure (some (.int (a.tmod b))) (fun m w ac hf hw => ?_) hk
  have ha : ac.eval x = .int .i64 a := hf.ev hx
  have hb' : ac.eval y = .int .i64 b := hf.ev hy
  refine ⟨.int .i64 (a.tmod b), ?_, rfl⟩
  simp only [execOp, ha, hb', Sem.run_bind]
  simp [eqGuard, binOp, Op.intDiv, hb]
end
end Go.VL
