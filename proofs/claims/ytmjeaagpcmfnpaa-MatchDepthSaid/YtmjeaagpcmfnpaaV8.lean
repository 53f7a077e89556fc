/- V-logic, part 8: the nil slice as a buffer; room made ahead; owned rows by their elements; clear. -/
import Derived.Test.YtmjeaagpcmfnpaaV7
set_option linter.unusedVariables false
set_option linter.unusedSimpArgs false
namespace Go.VL
section
variable {P : Program} {nt : Nat} {F : Fr} {S : Store} {Q : Exit → Fr → Store → Prop} {K : Option V → Store → Prop}
variable {d : Option Tmp} {ty : TypeId} {pos : String} {af : Array Edge} {gd : Option (Nat × Bool)}

theorem FRel.put_same {m : Mem} {a : Act} {q : Nat} {v : V} (hf : FRel m nt F a) (h : Rep m v (a.tmps.getD q undef)) : FRel m nt ((q, some v) :: F) a :=
  ⟨hf.defers, hf.size, fun j u hu => by
    simp only [Fr.get] at hu
    cases hb : Nat.beq j q with
    | true =>
      rw [hb, cond_true] at hu
      injection hu with hu
      subst hu
      rw [Nat.eq_of_beq_eq_true hb]
      exact h
    | false =>
      rw [hb, cond_false] at hu
      exact hf.get j u hu⟩
/-- A slot that holds the nil slice, seen as an empty buffer. -/
theorem VW_nil {q : Nat} (T sz : Nat) {c : Code} (hq : F.get q = some V.nilSl) (h : VW P nt c Q ((q, some (.sl sz (some .nil) [])) :: F) (.buf .nil T sz 0 :: S)) : VW P nt c Q F S := by
  intro m w a QQ hf hw hK
  have hv : a.tmps.getD q undef = .slice none 0 0 := hf.get q _ hq
  have hst := WRel.nilBuf hw T sz .nil (.inl rfl)
  exact h m w a QQ (hf.put_same (v := .sl sz (some .nil) []) ⟨none, 0, hv, Nat.le_refl _, Nat.zero_le _, ⟨rfl, rfl⟩, .inl rfl⟩) hst.rel fun e F' S' m' w' a' k hf' st => hK e F' S' m' w' a' k hf' (hst.trans st)
theorem V_cap_raw {t e len cap : Nat} {A : Option Addr} {x : Operand} (ht : P.underlying t = some (.slice e)) (hx : F.ev x = some (.raw (.slice A len cap))) (hk : K (some (.int cap)) S) :
    VOp P nt ⟨d, .call ⟨.builtin .cap, #[x], #[t]⟩, ty, pos, af, gd⟩ F S K := by
  refine VOp_pure _ (fun m w ac hf hw => ?_) hk
  have ha : ac.eval x = .slice A len cap := hf.ev hx
  exact ⟨.int .i64 cap, by simp [BigFrame.execOp_builtin, BigFrame.builtin_cap, Builtin.cap_, ha, run_underlying ht w, goInt], rfl⟩
/-- A part of a slice that is known to the bit. -/
theorem V_slice_raw {t e sz bytes : Nat} {z : Value} {len cap : Nat} {A : Option Addr} {x : Operand} {lo hi : Option Operand} {l h : Int} (ht : SliceTy P t e sz bytes z) (hx : F.ev x = some (.raw (.slice A len cap)))
    (hl : bound F 0 lo = some l) (hh : bound F len hi = some h) (h0 : 0 ≤ l) (h1 : l ≤ h) (h2 : h ≤ cap) (hk : K (some (.raw (.slice (if cap = l.toNat then A else A.map (·.add (l.toNat * sz))) (h.toNat - l.toNat) (cap - l.toNat)))) S) :
    VOp P nt ⟨d, .slice t x lo hi none, ty, pos, af, gd⟩ F S K := by
  refine VOp_pure _ (fun m w ac hf hw => ?_) hk
  have ha : ac.eval x = .slice A len cap := hf.ev hx
  obtain ⟨i, i1, i2, i3, i4⟩ := ht.info
  refine ⟨_, ?_, rfl⟩
  simp only [execOp, ha, Instr.sliceAt, Sem.run_bind, run_underlying ht.und w, Result.andThen_ok, Instr.slice, Option.map_none, bounds_run hf hl hh h0 h1 h2]
  simp [sizeOf, typeInfo, i1, i2]

/-- append([]T(nil), make([]T, n)...): a row of n zeros, seen as room for a buffer. -/
theorem V_growNil {t tn e sz bytes : Nat} {z : Value} {s x : Operand} {n : Int} (ht : SliceTy P t e sz bytes z) (htn : P.underlying tn = some (.int .i64)) (hs : F.ev s = some V.nilSl) (hx : F.ev x = some (.int n)) (h0 : 0 < n) (hb : n * bytes ≤ 140737488355328)
    (hk : ∀ g cap : Nat, n ≤ cap → cap ≤ 9223372036854775807 → K (some (.raw (.slice (some ⟨g, 0, none⟩) n.toNat cap))) (.buf (.at g cap) e sz 0 :: S)) :
    VOp P nt ⟨d, .call ⟨.builtin .append, #[s, x], #[t, tn]⟩, ty, pos, af, gd⟩ F S K := by
  intro m w ac KK QQ hf hw hK
  have hsv : ac.eval s = .slice none 0 0 := hf.ev hs
  have hxv : ac.eval x = .int .i64 n := hf.ev hx
  obtain ⟨ii, i1, i2, i3, i4⟩ := ht.info
  have hpos := ht.pos.1
  have hbpos := ht.pos.2
  have hnb : n ≤ n * bytes := by
    have := Int.mul_le_mul_of_nonneg_left (show (1 : Int) ≤ bytes by omega) (Int.le_of_lt h0)
    omega
  obtain ⟨k, rfl⟩ := Int.eq_ofNat_of_zero_le (Int.le_of_lt h0)
  have hkb : k * bytes ≤ 140737488355328 := by
    have : ((k * bytes : Nat) : Int) = (k : Int) * bytes := Int.natCast_mul ..
    omega
  have hge := grownCap_ge w (0 + k) 0 e
  have hcm : grownCap w (0 + k) 0 e ≤ maxLen := grownCap_le_maxLen w _ 0 e (by simp only [maxLen]; omega)
  have hcell : ∀ q, (Builtin.zeroCells z.cells q).toList.length = q * sz := fun q => by rw [zeroCells_len, ht.cells]
  have hrun : (execOp ac.eval ⟨d, .call ⟨.builtin .append, #[s, x], #[t, tn]⟩, ty, pos, af, gd⟩).run P w = .ok (.value (.slice (some ⟨w.heap.size, 0, none⟩) (0 + k) (grownCap w (0 + k) 0 e)))
      (w.drew.alloc (.cells (Builtin.zeroCells z.cells k ++ Builtin.zeroCells z.cells (grownCap w (0 + k) 0 e - (0 + k))) e)) := by
    have hw64 : IntKind.i64.wrap (k : Int) = k := by rw [IntKind.wrap_i64]; omega
    have n1 : ¬ ((k : Int) < 0) := by omega
    have n2 : ¬ (281474976710656 < (k : Int) * (ii.bytes : Int)) := by rw [i3]; omega
    have n3 : ¬ (0 + k ≤ 0) := by omega
    have n4 : ¬ (9223372036854775807 < ((0 + k : Nat) : Int)) := by omega
    have n5 : ¬ (281474976710656 < Builtin.nextslicecap (0 + k) 0 * ii.bytes) := by
      have := growslice_fits (need := 0 + k) (old := 0) (bytes := ii.bytes) (by omega) (by rw [i3, Nat.zero_add]; exact hkb)
      omega
    have n6 : ¬ (k * ii.size = 0) := by rw [i2]; have := Nat.mul_pos (show 0 < k by omega) hpos; omega
    simp only [Nat.zero_add] at n3 n4 n5
    have n7 : k ≠ 0 := by omega
    have n8 : ii.size ≠ 0 := by omega
    have n9 : ii.bytes ≠ 0 := by omega
    simp [BigFrame.execOp_builtin, BigFrame.builtin_append, hsv, hxv, Builtin.append_, run_underlying ht.und, run_underlying htn, sizeOf, typeInfo, i1, asInt, asIntOf, hw64, n1, n2, n4, n5, n7, n8, n9, zeroValue, i4, Question.forced, run_firstCells_none, newRow, grownCap]
    intro hh
    exact absurd hh n6
  have hst := Step.allocBuf (T := e) (sz := sz) (n := 0) (cs := []) (cap := grownCap w (0 + k) 0 e) (rest := (Builtin.zeroCells z.cells k ++ Builtin.zeroCells z.cells (grownCap w (0 + k) 0 e - (0 + k))).toList) (Step.drew hw).rel (by simp) (Nat.zero_le _) (by
    rw [List.nil_append, Array.toList_append, List.length_append, hcell, hcell, ← Nat.add_mul]
    congr 1
    omega)
  simp only [List.nil_append, Array.toArray_toList] at hst
  unfold Oper.wp
  rw [hrun]
  refine hK _ _ _ _ _ (hk w.heap.size (grownCap w (0 + k) 0 e) (by omega) (by simp only [maxLen] at hcm; omega)) ?_ ((Step.drew hw).trans hst)
  show _ = _
  rw [Nat.zero_add]
  rfl
/-- The empty part at the begin of a row that is a buffer's. -/
theorem V_slice0 {t e sz bytes : Nat} {z : Value} {len cap g : Nat} {x y : Operand} (ht : SliceTy P t e sz bytes z) (hx : F.ev x = some (.raw (.slice (some ⟨g, 0, none⟩) len cap))) (hy : F.ev y = some (.int 0)) (hc : 0 < cap) (hm : cap ≤ 9223372036854775807)
    (hk : K (some (.sl sz (some (.at g cap)) [])) S) : VOp P nt ⟨d, .slice t x none (some y) none, ty, pos, af, gd⟩ F S K := by
  intro m w a KK QQ hf hw hK
  refine V_slice_raw (K := fun r S' => r = some (.raw (.slice (some ⟨g, 0, none⟩) 0 cap)) ∧ S' = S) ht hx rfl (bound_of hy) (Int.le_refl _) (Int.le_refl _) (by omega) ?_ m w a KK QQ hf hw fun r S' m' w' u hr hru st => ?_
  · refine ⟨?_, rfl⟩
    have : cap ≠ 0 := by omega
    simp [this, Addr.add]
  · obtain ⟨rfl, rfl⟩ := hr
    have hu : u = .slice (some ⟨g, 0, none⟩) 0 cap := hru
    exact hK _ _ m' w' u hk ⟨some ⟨g, 0, none⟩, cap, hu, Nat.zero_le _, by simp only [maxLen]; omega, ⟨rfl, rfl⟩, .inl rfl⟩ st

/-! ### Rows by their elements -/
theorem flat_drop {sz : Nat} : ∀ {xs : List V} {k : Nat} {el : V} {rest : List V}, (∀ x ∈ xs, x.leaves.length = sz) → xs[k]? = some el → ((xs.flatMap V.leaves ++ rest).drop (k * sz)).take sz = el.leaves
  | [], k, el, rest, _, h => by simp at h
  | x :: xs, 0, el, rest, hl, h => by
    simp at h
    subst h
    rw [Nat.zero_mul, List.drop_zero, List.flatMap_cons, List.append_assoc]
    rw [← hl x (List.mem_cons_self ..)]
    exact List.take_left
  | x :: xs, k + 1, el, rest, hl, h => by
    simp at h
    have := flat_drop (rest := rest) (fun y hy => hl y (List.mem_cons_of_mem _ hy)) h
    rw [List.flatMap_cons, List.append_assoc, Nat.succ_mul, Nat.add_comm (k * sz) sz, ← List.drop_drop]
    have hx := hl x (List.mem_cons_self ..)
    rw [show List.drop sz (x.leaves ++ (List.flatMap V.leaves xs ++ rest)) = List.flatMap V.leaves xs ++ rest by rw [← hx]; exact List.drop_left]
    exact this
theorem flat_set {sz : Nat} : ∀ {xs : List V} {k : Nat} {v : V} {rest : List V}, (∀ x ∈ xs, x.leaves.length = sz) → k < xs.length → v.leaves.length = sz →
    (xs.flatMap V.leaves ++ rest).take (k * sz) ++ v.leaves ++ (xs.flatMap V.leaves ++ rest).drop (k * sz + sz) = (xs.set k v).flatMap V.leaves ++ rest
  | [], k, v, rest, _, h, _ => by simp at h
  | x :: xs, 0, v, rest, hl, h, hv => by
    have hx := hl x (List.mem_cons_self ..)
    rw [Nat.zero_mul, List.take_zero, Nat.zero_add, List.set_cons_zero, List.flatMap_cons, List.flatMap_cons, List.nil_append, List.append_assoc, List.append_assoc]
    rw [show List.drop sz (x.leaves ++ (List.flatMap V.leaves xs ++ rest)) = List.flatMap V.leaves xs ++ rest by rw [← hx]; exact List.drop_left]
  | x :: xs, k + 1, v, rest, hl, h, hv => by
    have hx := hl x (List.mem_cons_self ..)
    have ih := flat_set (rest := rest) (fun y hy => hl y (List.mem_cons_of_mem _ hy)) (show k < xs.length by simpa using h) hv
    rw [List.set_cons_succ, List.flatMap_cons, List.flatMap_cons]
    simp only [List.append_assoc] at ih ⊢
    rw [← ih]
    have e1 : (k + 1) * sz = x.leaves.length + k * sz := by rw [Nat.succ_mul, hx, Nat.add_comm]
    rw [e1, List.take_length_add_append, Nat.add_assoc, List.drop_length_add_append]
    simp only [List.append_assoc]
theorem V_load_elem (i k : Nat) {t sz : Nat} {x : Operand} {g o : Nat} {T : TypeId} {ls rest xs : List V} {vs : List V} (ht : AggTy P t sz) (hx : F.ev x = some (.ptr g o)) (ho : o = k * sz) (hS : S[i]? = some (.cells g T ls)) (hls : ls = xs.flatMap V.leaves ++ rest) (hfit : ∀ x ∈ xs, x.leaves.length = sz) (he : xs[k]? = some (.agg vs))
    (hk : K (some (.agg vs)) S) : VOp P nt ⟨d, .load t x, ty, pos, af, gd⟩ F S K := by
  have hkl := (List.getElem?_eq_some_iff.1 he).1
  have h1 := flat_drop (rest := rest) hfit he
  have hle : o + sz ≤ ls.length := by
    have h2 : ((ls.drop o).take sz).length = sz := by
      rw [ho, hls, h1]
      exact hfit _ (List.mem_of_getElem? he)
    rw [List.length_take, List.length_drop] at h2
    rcases Nat.eq_zero_or_pos sz with h0 | h0
    · subst h0
      rw [ho, Nat.mul_zero]
      omega
    · omega
  refine V_load_agg i ht hx hS (Nat.ble_eq_true_of_le hle) ?_
  rw [ho, hls, h1]
  exact hk
theorem V_load_elem1 (i k : Nat) {t : Nat} {x : Operand} {g o : Nat} {T : TypeId} {ls rest xs : List V} {v : V} (ht : LeafTy P t) (hx : F.ev x = some (.ptr g o)) (ho : o = k) (hS : S[i]? = some (.cells g T ls)) (hls : ls = xs ++ rest) (he : xs[k]? = some v)
    (hk : K (some v) S) : VOp P nt ⟨d, .load t x, ty, pos, af, gd⟩ F S K := by
  refine V_load i ht hx hS ?_ hk
  rw [hls, ho, List.getElem?_append_left (List.getElem?_eq_some_iff.1 he).1]
  exact he
theorem V_store_elem (i k : Nat) {t sz : Nat} {x y : Operand} {g o : Nat} {T : TypeId} {ls rest xs : List V} {vs : List V} (ht : AggTy P t sz) (hx : F.ev x = some (.ptr g o)) (ho : o = k * sz) (hy : F.ev y = some (.agg vs)) (hvs : Nat.beq vs.length sz = true) (hS : S[i]? = some (.cells g T ls)) (hls : ls = xs.flatMap V.leaves ++ rest)
    (hfit : ∀ x ∈ xs, x.leaves.length = sz) (hkl : k < xs.length) (hk : K none (S.set i (.cells g T ((xs.set k (.agg vs)).flatMap V.leaves ++ rest)))) : VOp P nt ⟨d, .store t x y, ty, pos, af, gd⟩ F S K := by
  have hvl : vs.length = sz := Nat.eq_of_beq_eq_true hvs
  have he := List.getElem?_eq_getElem hkl
  have h1 := flat_drop (rest := rest) hfit he
  have hle : o + sz ≤ ls.length := by
    have h2 : ((ls.drop o).take sz).length = sz := by
      rw [ho, hls, h1]
      exact hfit _ (List.mem_of_getElem? he)
    rw [List.length_take, List.length_drop] at h2
    rcases Nat.eq_zero_or_pos sz with h0 | h0
    · subst h0
      rw [ho, Nat.mul_zero]
      omega
    · omega
  refine V_store_agg i ht hx hy hvs hS (Nat.ble_eq_true_of_le hle) ?_
  rw [ho, hls]
  have := flat_set (rest := rest) (v := .agg vs) hfit hkl hvl
  have hl2 : (V.agg vs).leaves = vs := rfl
  rw [hl2] at this
  rw [this]
  exact hk
theorem V_store_elem1 (i k : Nat) {t : Nat} {x y : Operand} {g o : Nat} {T : TypeId} {ls rest xs : List V} {v : V} (ht : LeafTy P t) (hx : F.ev x = some (.ptr g o)) (ho : o = k) (hy : F.ev y = some v) (hl : v.leaf = true) (hS : S[i]? = some (.cells g T ls)) (hls : ls = xs ++ rest) (hkl : k < xs.length)
    (hk : K none (S.set i (.cells g T (xs.set k v ++ rest)))) : VOp P nt ⟨d, .store t x y, ty, pos, af, gd⟩ F S K := by
  refine V_store i ht hx hy hl hS (Nat.ble_eq_true_of_le (by rw [hls, List.length_append]; omega)) ?_
  rw [ho, hls, List.set_append_left _ _ hkl]
  exact hk
end
end Go.VL
