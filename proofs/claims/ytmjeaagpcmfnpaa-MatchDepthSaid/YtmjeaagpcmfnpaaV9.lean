/- V-logic, part 9: calls that keep what they are handed; append to a row that may be written; clear. -/
import Derived.Test.YtmjeaagpcmfnpaaV8
set_option linter.unusedVariables false
set_option linter.unusedSimpArgs false
namespace Go.VL
section
variable {P : Program} {nt : Nat} {F : Fr} {S : Store} {Q : Exit → Fr → Store → Prop} {K : Option V → Store → Prop}
variable {d : Option Tmp} {ty : TypeId} {pos : String} {af : Array Edge} {gd : Option (Nat × Bool)}

/-- A call that hands back what it is handed. -/
def VKeep (P : Program) (f : FuncId) (args : List V) (S : Store) (r : V) : Prop := VCalls P f args S fun r' S' => r' = r ∧ S' = S
theorem VOp.drops {o : Oper} {K' : Option V → Store → Prop} (h : VOp P nt o F S K') (hk : ∀ r S', K' r S' → ∃ T, Drops S' T ∧ K r T) : VOp P nt o F S K := by
  intro m w a KK QQ hf hw hK
  refine h m w a KK QQ hf hw fun r S' m' w' u hr hru st => ?_
  obtain ⟨T, hd, hk'⟩ := hk r S' hr
  exact hK r T m' w' u hk' hru (st.trans (hd.step st.rel))
theorem V_callK (i : Nat) {f : FuncId} {args : Array Operand} {ats : Array TypeId} (xs : List Operand) {vs : List V} {o : Own} {r : V} (ha : args.toList = xs) (hv : evs F xs = some vs) (hen : Enters P f) (hS : S[i]? = some o) (hc : VKeep P f vs [o] r)
    (hk : K (some r) S) : VOp P nt ⟨d, .call ⟨.value (.func f), args, ats⟩, ty, pos, af, gd⟩ F S K := by
  refine VOp.drops (K' := fun r' S' => r' = some r ∧ S' = o :: S.eraseIdx i) (V_call xs [o] (S.eraseIdx i) ha hv hen (perm_erase hS) hc fun r' Sa' ⟨h1, h2⟩ => ⟨by rw [h1], by rw [h2]; rfl⟩) fun r' S' ⟨h1, h2⟩ => ?_
  subst h1
  subst h2
  exact ⟨S, .of_perm (perm_erase hS).symm, hk⟩
theorem V_callCloK (i : Nat) {f : FuncId} {q : Tmp} {args : Array Operand} {ats : Array TypeId} (xs : List Operand) {vs caps : List V} {o : Own} {r : V} (hq : F.get q = some (.clo (.func f) caps)) (ha : args.toList = xs) (hv : evs F xs = some vs) (hen : Enters P f) (hS : S[i]? = some o) (hc : VKeep P f (vs ++ caps) [o] r)
    (hk : K (some r) S) : VOp P nt ⟨d, .call ⟨.value (.tmp q), args, ats⟩, ty, pos, af, gd⟩ F S K := by
  refine VOp.drops (K' := fun r' S' => r' = some r ∧ S' = o :: S.eraseIdx i) (V_callClo xs [o] (S.eraseIdx i) hq ha hv hen (perm_erase hS) hc fun r' Sa' ⟨h1, h2⟩ => ⟨by rw [h1], by rw [h2]; rfl⟩) fun r' S' ⟨h1, h2⟩ => ?_
  subst h1
  subst h2
  exact ⟨S, .of_perm (perm_erase hS).symm, hk⟩

/-- A value seen with less. -/
def V.le (v v' : V) : Prop := ∀ m u, Rep m v u → Rep m v' u
theorem V.le.refl (v : V) : V.le v v := fun _ _ h => h
theorem V.le.of_eq {v v' : V} (h : v = v') : V.le v v' := h ▸ V.le.refl v
theorem V.le.nil (sz : Nat) : V.le V.nilSl (.sl sz none []) := fun m u h => ⟨none, 0, h, Nat.le_refl _, Nat.zero_le _, trivial, .inl rfl⟩
theorem V.le.strip {sz : Nat} {t : Option Tok} {xs : List V} : V.le (.sl sz t xs) (.sl sz none xs) := fun m u ⟨A, cap, h1, h2, h3, h4, h5⟩ => ⟨A, cap, h1, h2, h3, trivial, h5⟩
def V.les : List V → List V → Prop
  | [], [] => True
  | x :: xs, y :: ys => V.le x y ∧ y.leaf = true ∧ V.les xs ys
  | _, _ => False
theorem V.les.repL {m : Mem} : ∀ {xs ys : List V} {us : List Value}, V.les xs ys → RepL m xs us → RepL m ys us ∧ ys.all V.leaf = true
  | [], [], us, _, h => ⟨h, rfl⟩
  | x :: xs, y :: ys, us, ⟨h1, h2, h3⟩, ⟨u, us', e, r, k⟩ => by
    obtain ⟨k1, k2⟩ := V.les.repL h3 k
    exact ⟨⟨u, us', e, h1 _ _ r, k1⟩, by rw [List.all_cons, h2, k2]; rfl⟩
  | [], y :: ys, _, h, _ => h.elim
  | x :: xs, [], _, h, _ => h.elim
theorem V.le.agg {xs ys : List V} (h : V.les xs ys) : V.le (.agg xs) (.agg ys) := fun m u ⟨hl, us, hu, hr⟩ => ⟨(h.repL hr).2, us, hu, (h.repL hr).1⟩
theorem VOp_as {o : Oper} {v v' : V} (h : VOp P nt o F S fun r S' => r = some v ∧ S' = S) (hle : V.le v v') (hk : K (some v') S) : VOp P nt o F S K := by
  intro m w a KK QQ hf hw hK
  refine h m w a KK QQ hf hw fun r S' m' w' u ⟨h1, h2⟩ hru st => ?_
  subst h1
  subst h2
  exact hK _ _ m' w' u hk (hle _ _ hru) st

theorem V_slice_rawFrom {t e sz bytes : Nat} {z : Value} {len cap g o : Nat} {x y : Operand} {l : Int} (ht : SliceTy P t e sz bytes z) (hx : F.ev x = some (.raw (.slice (some ⟨g, o, none⟩) len cap))) (hy : F.ev y = some (.int l)) (h0 : 0 ≤ l) (h1 : l ≤ len) (h2 : l < cap) (h3 : len ≤ cap)
    (hk : K (some (.raw (.slice (some ⟨g, o + l.toNat * sz, none⟩) (len - l.toNat) (cap - l.toNat)))) S) : VOp P nt ⟨d, .slice t x (some y) none none, ty, pos, af, gd⟩ F S K := by
  refine V_slice_raw (h := len) ht hx (bound_of hy) rfl h0 h1 (by omega) ?_
  have hne : ¬ cap = l.toNat := by omega
  rw [if_neg hne, Int.toNat_natCast]
  simp only [Option.map_some, addr_add]
  exact hk
theorem V_slice_rawTo {t e sz bytes : Nat} {z : Value} {len cap g o : Nat} {x y : Operand} {h : Int} (ht : SliceTy P t e sz bytes z) (hx : F.ev x = some (.raw (.slice (some ⟨g, o, none⟩) len cap))) (hy : F.ev y = some (.int h)) (h0 : 0 ≤ h) (h2 : h ≤ cap)
    (hk : K (some (.raw (.slice (some ⟨g, o, none⟩) h.toNat cap))) S) : VOp P nt ⟨d, .slice t x none (some y) none, ty, pos, af, gd⟩ F S K := by
  refine V_slice_raw (l := 0) ht hx rfl (bound_of hy) (Int.le_refl _) h0 h2 ?_
  have e : (if cap = (0 : Int).toNat then (some ⟨g, o, none⟩ : Option Addr) else (some ⟨g, o, none⟩ : Option Addr).map (·.add ((0 : Int).toNat * sz))) = some ⟨g, o, none⟩ := by
    split
    · rfl
    · simp [Addr.add]
  rw [e]
  exact hk
theorem V_sliceFrom {t e sz bytes : Nat} {z : Value} {tok : Option Tok} {x y : Operand} {xs : List V} {l : Int} (ht : SliceTy P t e sz bytes z) (hx : F.ev x = some (.sl sz tok xs)) (hy : F.ev y = some (.int l)) (h0 : 0 ≤ l) (h1 : l ≤ xs.length)
    (hk : K (some (.sl sz none (xs.drop l.toNat))) S) : VOp P nt ⟨d, .slice t x (some y) none none, ty, pos, af, gd⟩ F S K := by
  refine V_slice (h := xs.length) ht hx (bound_of hy) rfl h0 h1 (Int.le_refl _) ?_
  rw [Int.toNat_natCast, List.take_length]
  exact hk
theorem V_sliceTo {t e sz bytes : Nat} {z : Value} {tok : Option Tok} {x y : Operand} {xs : List V} {h : Int} (ht : SliceTy P t e sz bytes z) (hx : F.ev x = some (.sl sz tok xs)) (hy : F.ev y = some (.int h)) (h0 : 0 ≤ h) (h1 : h ≤ xs.length)
    (hk : K (some (.sl sz none (xs.take h.toNat))) S) : VOp P nt ⟨d, .slice t x none (some y) none, ty, pos, af, gd⟩ F S K :=
  V_slice ht hx rfl (bound_of hy) (Int.le_refl _) h0 h1 hk

theorem Drops.keepE {e e' : Own} {S T : Store} (he : e = e') (h : Drops S T) : Drops (e :: S) (e' :: T) := he ▸ Drops.keep h

def oneRes {G : Type} (f : G → V) : DRes G := fun γs r => ∃ x, γs = [x] ∧ r = some (f x)
theorem oneE {G : Type} {C : Prop} {r : Option V} {f : G → V} {y : G} (h : ∃ x, [y] = [x] ∧ r = some (f x)) (k : r = some (f y) → C) : C := by
  obtain ⟨x, hx, h⟩ := h
  injection hx with hx
  subst hx
  exact k h

theorem oneX {G : Type} {C : Option V → Prop} {r : Option V} {f : G → V} {y : G} (h : ∃ x, [y] = [x] ∧ r = some (f x)) (k : C (some (f y))) : C r := by
  obtain ⟨x, hx, h⟩ := h
  injection hx with hx
  subst hx
  subst h
  exact k
theorem oneY {G : Type} {r : Option V} {f : G → V} {y : G} (h : ∃ x, [y] = [x] ∧ r = some (f x)) : r = some (f y) := oneE h id
theorem DrawP_consL {G : Type} {ops : List Oper} {F0 : Fr} {ps : List DP} {un : List Nat} {St : Nat → List G → Store} {i : Nat} {o : Oper} {acc : List (DRes G)} {rest : List Oper} {k : List (DRes G) → Prop} {acc' : List (DRes G)} (R : DRes G) (h : OpGood ops F0 ps un St P nt i o acc R) (he : acc ++ [R] = acc') (t : DrawP ops F0 ps un St P nt (i + 1) rest acc' k) : DrawP ops F0 ps un St P nt i (o :: rest) acc k :=
  ⟨R, h, he ▸ t⟩
/-- Which operation ahead last wrote a slot. -/
def lookIdx (ops : List Oper) (s : Nat) : List Nat → Option Nat
  | [] => none
  | k :: t => bif isDst ops k s then some k else lookIdx ops s t
theorem lookP_w {G : Type} {ops : List Oper} {F0 : Fr} {ps : List DP} {acc : List (DRes G)} {γ : Nat → G} {s j : Nat} {R : DRes G} {r : Option V} (h2 : nth acc j = some R) : ∀ {pre : List Nat}, lookIdx ops s pre = some j → lookP ops F0 ps acc γ s pre r → R ((dpAt ps j).2.2.map γ) r
  | [], h, _ => by cases h
  | k :: t, h, hl => by
    rw [lookIdx] at h
    rw [lookP] at hl
    cases hb : isDst ops k s with
    | true =>
      rw [hb, cond_true] at h hl
      injection h with h
      subst h
      rw [h2] at hl
      exact hl
    | false =>
      rw [hb, cond_false] at h hl
      exact lookP_w h2 h hl
theorem lookP_f {G : Type} {ops : List Oper} {F0 : Fr} {ps : List DP} {acc : List (DRes G)} {γ : Nat → G} {s : Nat} {r : Option V} : ∀ {pre : List Nat}, lookIdx ops s pre = none → lookP ops F0 ps acc γ s pre r → r = F0.get s
  | [], _, hl => hl
  | k :: t, h, hl => by
    rw [lookIdx] at h
    rw [lookP] at hl
    cases hb : isDst ops k s with
    | true => rw [hb, cond_true] at h; cases h
    | false =>
      rw [hb, cond_false] at h hl
      exact lookP_f h hl
theorem Needs_w {G : Type} {ops : List Oper} {F0 : Fr} {ps : List DP} {acc : List (DRes G)} {γ : Nat → G} {pre t : List Nat} {s : Nat} {k : Fr → Prop} (j : Nat) {R : DRes G} (h1 : lookIdx ops s pre = some j) (h2 : nth acc j = some R) (h : ∀ r, R ((dpAt ps j).2.2.map γ) r → Needs ops F0 ps acc γ pre t fun F => k ((s, r) :: F)) :
    Needs ops F0 ps acc γ pre (s :: t) k := fun r hl => h r (lookP_w h2 h1 hl)
theorem Needs_f {G : Type} {ops : List Oper} {F0 : Fr} {ps : List DP} {acc : List (DRes G)} {γ : Nat → G} {pre t : List Nat} {s : Nat} {k : Fr → Prop} (h1 : lookIdx ops s pre = none) (h : ∀ r, r = F0.get s → Needs ops F0 ps acc γ pre t fun F => k ((s, r) :: F)) :
    Needs ops F0 ps acc γ pre (s :: t) k := fun r hl => h r (lookP_f h1 hl)
theorem Needs_nil {G : Type} {ops : List Oper} {F0 : Fr} {ps : List DP} {acc : List (DRes G)} {γ : Nat → G} {pre : List Nat} {k : Fr → Prop} (h : k []) : Needs ops F0 ps acc γ pre [] k := h
theorem goodU1 {G : Type} {ops : List Oper} {F0 : Fr} {ps : List DP} {un : List Nat} {acc : List (DRes G)} {i : Nat} {o : Oper} {R : DRes G} {A : Store} {B : G → Store} (hu : isUn un i 0 = some 0)
    (h : ∀ γ : Nat → G, Needs ops F0 ps acc γ (dpAt ps i).1 (dpAt ps i).2.1 fun F => VOpG ops P nt o F A fun r S' => ∃ x, R ((dpAt ps i).2.2.map (upd γ 0 x)) r ∧ S' = B x) : OpGood ops F0 ps un (oneSt A B) P nt i o acc R :=
  goodU 0 hu h
/-- A guard that was skipped itself. -/
theorem VOps_skipU {ops l : List Oper} {Q' : Fr → Store → Prop} {o : Oper} (hw : wantOf ops F o = some false ∨ ∃ j want q, o.guard = some (j, want) ∧ (ops[j]?).bind (·.dst) = some q ∧ F.get q = some (.raw undef)) (hd : dstOk nt o.dst = true)
    (h : VOps P nt ops l (F.put o.dst (some (.raw undef))) S Q') : VOps P nt ops (o :: l) F S Q' := by
  intro m w a QQ hf hwr hK
  refine wpList_step fun K hKl => ?_
  have hn : Region.wanted o (yielded ops.toArray a.tmps) = false := by
    rcases hw with hw | ⟨j, want, q, h1, h2, h3⟩
    · exact wanted_of hf hw
    · have hu : a.tmps.getD q undef = undef := hf.get q _ h3
      have hop : (ops.toArray[j]?).bind (·.dst) = some q := by simpa using h2
      unfold Region.wanted
      rw [h1]
      dsimp only
      unfold yielded
      rw [hop, Option.bind_some]
      rcases Nat.lt_or_ge q a.tmps.size with hl | hl
      · have : a.tmps[q]? = some undef := by simpa [hl] using hu
        rw [this]
        cases want <;> rfl
      · rw [Array.getElem?_eq_none hl]
        cases want <;> rfl
  rw [if_neg (by rw [hn]; exact Bool.false_ne_true)]
  exact hKl _ _ (h m w _ QQ (hf.put hd (r := some (.raw undef)) rfl) hwr hK)
instance : Inhabited Tok := ⟨.nil⟩
theorem raw_leaves {cs : List Value} (h : ∀ c ∈ cs, c.oneCell' = true) : (cs.map V.raw).all V.leaf = true := by
  rw [List.all_eq_true]
  intro x hx
  obtain ⟨c, hc, rfl⟩ := List.mem_map.1 hx
  exact h c hc
theorem raw_repL {m : Mem} : ∀ {cs : List Value}, RepL m (cs.map V.raw) cs
  | [] => rfl
  | c :: cs => ⟨c, cs, rfl, rfl, raw_repL⟩
theorem zeroCells_mem {z : Value} {n : Nat} {c : Value} (h1 : ∀ c ∈ z.cells.toList, c.oneCell' = true) (hc : c ∈ (Builtin.zeroCells z.cells n).toList) : c.oneCell' = true := by
  have : c ∈ Builtin.zeroCells z.cells n := by simpa using hc
  unfold Builtin.zeroCells at this
  simp only [Array.mem_map, Array.mem_range] at this
  obtain ⟨i, hi, rfl⟩ := this
  have hp : 0 < z.cells.size := by
    rcases Nat.eq_zero_or_pos z.cells.size with h | h
    · rw [h] at hi; omega
    · exact h
  have hlt := Nat.mod_lt i hp
  rw [getElem!_pos z.cells _ hlt]
  exact h1 _ (by simp)

/-- append to an empty slice without room: a new row that may be written. -/
theorem V_appendRow {t e sz bytes : Nat} {z : Value} {s x : Operand} {A : Option Addr} {tx : Option Tok} {ys : List V} (ht : SliceTy P t e sz bytes z) (hz1 : ∀ c ∈ z.cells.toList, c.oneCell' = true) (hs : F.ev s = some (.raw (.slice A 0 0))) (hx : F.ev x = some (.sl sz tx ys))
    (hy : 0 < ys.length) (hb : ys.length * bytes ≤ 140737488355328) (hflat : ∀ y ∈ ys, y.flat = true)
    (hk : ∀ g cap rest, ys.length ≤ cap → cap ≤ maxLen → K (some (.raw (.slice (some ⟨g, 0, none⟩) ys.length cap))) (.cells g e (ys.flatMap V.leaves ++ rest) :: S)) :
    VOp P nt ⟨d, .call ⟨.builtin .append, #[s, x], #[t, t]⟩, ty, pos, af, gd⟩ F S K := by
  intro m w ac KK QQ hf hw hK
  have hsv : ac.eval s = .slice A 0 0 := hf.ev hs
  obtain ⟨ii, i1, i2, i3, i4⟩ := ht.info
  have hpos := ht.pos.1
  have hbpos := ht.pos.2
  obtain ⟨news, hN, hsrc⟩ := src_of hpos ht.und hw (hf.ev hx)
  have hlen : ys.length ≤ 140737488355328 := Nat.le_trans (Nat.le_mul_of_pos_right _ hbpos) hb
  have hsrc' : Src P ii.size t (ac.eval x) ys.length news w := by rw [i2]; exact hsrc
  have hfc : (Builtin.firstCells ii.size 0 (.slice A 0 0)).run P w.drew = .ok ([] : List Value).toArray w.drew := by
    cases A with
    | none => exact run_firstCells_none w.drew ii.size 0 0 0
    | some a => exact run_firstCells_some (P := P) w.drew ii.size 0 a 0 0 [] (by simp) (fun j u h => by simp at h)
  have hrun := run_append_grow_src (P := P) w t t ty e ii z ht.und i1 i4 A 0 0 [] hfc (ac.eval x) ys.length news hsrc' (by omega) (by omega) (growslice_fits (by omega) (by rw [i3, Nat.zero_add]; exact hb))
  have hge := grownCap_ge w (0 + ys.length) 0 e
  have hcm : grownCap w (0 + ys.length) 0 e ≤ maxLen := grownCap_le_maxLen w _ 0 e (by simp only [maxLen]; omega)
  unfold Oper.wp
  simp only [BigFrame.execOp_builtin, BigFrame.builtin_append, Sem.run_bind]
  rw [show (#[s, x] : Array Operand).map ac.eval = #[ac.eval s, ac.eval x] from by simp, hsv, hrun]
  rw [Nat.zero_add] at hge hcm ⊢
  have hw1 := (Step.drew hw).rel
  have hall : (ys.flatMap V.leaves ++ (Builtin.zeroCells z.cells (grownCap w ys.length 0 e - ys.length)).toList.map V.raw).all V.leaf = true := by
    rw [List.all_append, Bool.and_eq_true]
    refine ⟨?_, raw_leaves fun c hc => zeroCells_mem hz1 hc⟩
    rw [List.all_eq_true]
    intro x hx
    obtain ⟨y, hy, hxy⟩ := List.mem_flatMap.1 hx
    exact List.all_eq_true.1 (hflat y hy) x hxy
  refine hK _ _ m _ _ (hk w.heap.size (grownCap w ys.length 0 e) _ hge hcm) rfl ((Step.drew hw).trans (Step.allocRow hw1 hall ?_))
  simp only [List.nil_append, Array.toList_append]
  exact (hN.flatOf hflat).append raw_repL

/-- clear of the end of a row that may be written: what stood ahead stays. -/
theorem V_clear_row (i : Nat) {t e sz bytes : Nat} {z : Value} {x : Operand} {g o len cap : Nat} {T : TypeId} {ls : List V} (ht : SliceTy P t e sz bytes z) (hz1 : ∀ c ∈ z.cells.toList, c.oneCell' = true) (hx : F.ev x = some (.raw (.slice (some ⟨g, o, none⟩) len cap))) (hS : S[i]? = some (.cells g T ls)) (hl : o + len * sz ≤ ls.length)
    (hk : ∀ r rest, K (some r) (S.set i (.cells g T (ls.take o ++ rest)))) : VOp P nt ⟨d, .call ⟨.builtin .clear, #[x], #[t]⟩, ty, pos, af, gd⟩ F S K := by
  intro m w ac KK QQ hf hw hK
  have hxv : ac.eval x = .slice (some ⟨g, o, none⟩) len cap := hf.ev hx
  obtain ⟨ii, i1, i2, i3, i4⟩ := ht.info
  obtain ⟨hall, ⟨cs, hh, hr⟩, hm⟩ := own_cells hw hS
  have hcl := hr.length
  have hul : (Builtin.zeroCells z.cells len).toList.length = len * sz := by rw [zeroCells_len, ht.cells]
  have h1 : ∀ c ∈ (Builtin.zeroCells z.cells len).toList, c.oneCell' = true := fun c hc => zeroCells_mem hz1 hc
  have hst := run_storeCells_at (P := P) g o T (Builtin.zeroCells z.cells len).toList 0 cs w hh (by simp at hcl hul ⊢; omega) h1
  have hrun : (execOp ac.eval ⟨d, .call ⟨.builtin .clear, #[x], #[t]⟩, ty, pos, af, gd⟩).run P w = .ok (.value (.tuple #[])) (if len = 0 then w else w.setRow g (cs.toList.take (o + 0) ++ (Builtin.zeroCells z.cells len).toList ++ cs.toList.drop (o + 0 + (Builtin.zeroCells z.cells len).toList.length)).toArray) := by
    by_cases h0 : len = 0
    · subst h0
      simp [BigFrame.execOp_builtin, BigFrame.builtin_clear, Builtin.clear_, hxv, run_underlying ht.und]
    · rw [if_neg h0]
      simp only [BigFrame.execOp_builtin, BigFrame.builtin_clear, Sem.run_bind]
      rw [show (#[x] : Array Operand).map ac.eval = #[ac.eval x] from by simp, hxv]
      simp only [Nat.add_zero] at hst ⊢
      simp [Builtin.clear_, run_underlying ht.und, zeroValue, typeInfo, i1, i4, h0, hst]
  unfold Oper.wp
  rw [hrun]
  by_cases h0 : len = 0
  · rw [if_pos h0]
    refine hK _ _ m _ (.tuple #[]) (hk (.raw (.tuple #[])) (ls.drop o)) rfl ?_
    rw [List.take_append_drop]
    have : S.set i (.cells g T ls) = S := by
      obtain ⟨hl, he⟩ := List.getElem?_eq_some_iff.1 hS
      rw [← he]
      exact List.set_getElem_self ..
    rw [this]
    exact Step.refl hw
  · rw [if_neg h0]
    refine hK _ _ m _ (.tuple #[]) (hk (.raw (.tuple #[])) ((Builtin.zeroCells z.cells len).toList.map V.raw ++ ls.drop (o + len * sz))) rfl ?_
    have hheap := setRow_heap w g cs (cs.toList.take (o + 0) ++ (Builtin.zeroCells z.cells len).toList ++ cs.toList.drop (o + 0 + (Builtin.zeroCells z.cells len).toList.length)).toArray T (0, 0) hh
    refine Step.update hw hS rfl rfl rfl rfl rfl (by simp [World.setRow]) (fun b hb => ?_) (Sub.refl m) (fun b o v _ h => h) (fun o' v' h => by rw [hm o'] at h; cases h) ⟨?_, ⟨_, hheap, ?_⟩, hm⟩
    · simp [World.setRow, Array.getElem?_modify, Ne.symm hb]
    · rw [List.all_append, List.all_append, Bool.and_eq_true, Bool.and_eq_true]
      rw [List.all_eq_true] at hall
      exact ⟨List.all_eq_true.2 fun x hx => hall x (List.mem_of_mem_take hx), raw_leaves h1, List.all_eq_true.2 fun x hx => hall x (List.mem_of_mem_drop hx)⟩
    · simp only [Nat.add_zero]
      rw [List.append_assoc, hul]
      exact (hr.take o).append (raw_repL.append (hr.drop (o + len * sz)))
end
end Go.VL
