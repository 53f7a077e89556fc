import Derived.Test.YtjekhhgjfelpgaaGreatV3
set_option linter.all false
open List renaming length_append → Ya, all_eq_true → Yb, replicate → Yc, getElem?_eq_some_iff → Yd, eq_nil_of_length_eq_zero → Ye
open Nat renaming le_refl → Yf, add_mul → Yg, le_of_ble_eq_true → Yh, le_mul_of_pos_right → Yi
namespace Go.VL
def evs (F : Fr) : List Operand → Option (List V)
 | [] => some []
 | x :: xs => match F.ev x, evs F xs with
  | some v, some vs => some (v :: vs)
  | _, _ => none
theorem evs_rep {m : Mem} {nt : Nat} {F : Fr} {a : Act} (hf : FRel m nt F a) : ∀ {xs : List Operand} {vs : List V}, evs F xs = some vs → RepL m vs (xs.map a.eval)
 | [], vs, h => by injection h with h; subst h; rfl
 | x :: xs, vs, h => by
  simp only [evs] at h
  split at h
  ·rename_i v vs' h1 h2
   injection h with h
   subst h
   exact ⟨a.eval x, xs.map a.eval, rfl, hf.ev h1, evs_rep hf h2⟩
  ·cases h
def V.fits (sz : Nat) (v : V) : Bool := v.flat && Nat.beq v.leaves.length sz
theorem fits_rep {m : Mem} {sz : Nat} {v : V} {u : Value} (h : Rep m v u) (hf : v.fits sz = true) : u.cells.size = sz ∧ ∀ c ∈ u.cells.toList, c.oneCell' = true := by
 simp only [V.fits, Bool.and_eq_true] at hf
 obtain ⟨h1, h2⟩ := h.cells hf.1
 have := h1.length
 rw [Nat.eq_of_beq_eq_true hf.2] at this
 exact ⟨by simpa using this, h2⟩
theorem fits_repF {m : Mem} {sz : Nat} : ∀ {vs : List V} {us : List Value}, RepL m vs us → vs.all (V.fits sz) = true → RepF m sz vs (litCells us) ∧ ∀ u ∈ us, u.cells.size = sz
 | [], us, h, _ => by rw [show us = [] from h]; exact ⟨rfl, fun u hu => by cases hu⟩
 | v :: vs, us, ⟨u, us', e, r, k⟩, hf => by
  subst e
  simp only [List.all_cons, Bool.and_eq_true] at hf
  obtain ⟨h1, h2⟩ := fits_rep r hf.1
  obtain ⟨h3, h4⟩ := fits_repF k hf.2
  refine ⟨⟨u, litCells us', rfl, r, h1, h2, h3⟩, fun x hx => ?_⟩
  rcases List.mem_cons.1 hx with rfl | hx
  ·exact h1
  ·exact h4 x hx
theorem WRel.fresh {m : Mem} {S : Store} {w : World} (hw : WRel m S w) (o : Nat) : m w.heap.size o = none := by
 cases h : m w.heap.size o with
 | none => rfl
 | some v => have := hw.mem_lt h; omega
theorem Mem.sub_new {m : Mem} {S : Store} {w : World} (hw : WRel m S w) (cs : List Value) : Sub m (m.new w.heap.size cs) := fun b o v hv => by
 unfold Mem.new
 by_cases hb : b = w.heap.size
 ·subst hb; rw [hw.fresh o] at hv; cases hv
 ·rw [if_neg hb]; exact hv
theorem Mem.at_new (m : Mem) (g : Nat) (cs : List Value) : At (m.new g cs) g 0 cs := fun j u hu => by
 unfold Mem.new
 rw [if_pos rfl, Nat.zero_add]
 exact hu
theorem Step.allocBuf {m : Mem} {S : Store} {w : World} {cs rest : List Value} {T : TypeId} {sz n cap : Nat} (hw : WRel m S w) (hc : cs.length = n * sz) (hn : n ≤ cap) (hcap : (cs ++ rest).length = cap * sz) :
  Step m S w (m.new w.heap.size cs) (.buf (.at w.heap.size cap) T sz n :: S) (w.alloc (.cells (cs ++ rest).toArray T)) := by
 refine Step.alloc hw rfl (Mem.sub_new hw cs) (fun b o v hb hv => by unfold Mem.new at hv; rwa [if_neg hb] at hv) (fun k v hv => ?_) ⟨hn, ⟨_, alloc_heap _ _, by simpa using hcap⟩, fun o ho => ?_⟩
 ·unfold Mem.new at hv
  rw [if_pos rfl] at hv
  have hk := (Yd.1 hv).1
  simp [List.getElem?_append_left hk, hv]
 ·unfold Mem.new
  rw [if_pos rfl]
  exact List.getElem?_eq_none (by omega)
theorem Step.allocRow {m : Mem} {S : Store} {w : World} {cs : Array Value} {ls : List V} {T : TypeId} (hw : WRel m S w) (hl : ls.all V.leaf = true) (hr : RepL m ls cs.toList) :
  Step m S w m (.cells w.heap.size T ls :: S) (w.alloc (.cells cs T)) :=
 Step.alloc hw rfl (Sub.refl m) (fun b o v _ h => h) (fun k v h => by rw [hw.fresh k] at h; cases h) ⟨hl, ⟨_, alloc_heap _ _, hr⟩, hw.fresh⟩
section
variable {P : Program} {nt : Nat} {F : Fr} {S : Store} {K : Option V → Store → Prop}
variable {d : Option Tmp} {ty : TypeId} {pos : String} {af : Array Edge} {gd : Option (Nat × Bool)}
def idx : Nat → List Operand → List (Nat × Operand)
 | _, [] => []
 | k, x :: xs => (k, x) :: idx (k + 1) xs
theorem idx_map (ρ : Operand → Value) : ∀ (k : Nat) (xs : List Operand), (idx k xs).map (fun x => (x.1, ρ x.2)) = ((xs.map ρ).zipIdx k).map fun x => (x.2, x.1)
 | k, [] => rfl
 | k, x :: xs => by simp [idx, idx_map ρ (k + 1) xs, List.zipIdx_cons]
theorem lit_run {t e sz bytes : Nat} {z : Value} {n : Nat} {parts : Array (Nat × Operand)} {ps : List Operand} {vs : List V} {m : Mem} {w : World} {ac : Act} (ht : SliceTy P t e sz bytes z) (hp : parts.toList = idx 0 ps) (hn : ps.length = n) (hn24 : Nat.ble (n * sz) 16777216 = true)
  (hf : FRel m nt F ac) (hv : evs F ps = some vs) (hfit : vs.all (V.fits sz) = true) :
  ∃ cs, RepF m sz vs cs ∧ vs.length = n ∧ cs.length = n * sz ∧ (execOp ac.eval ⟨d, .buildSlice t n parts, ty, pos, af, gd⟩).run P w = .ok (.value (.slice (some ⟨w.heap.size, 0, none⟩) n n)) (w.alloc (.cells cs.toArray e)) := by
 have hn24 := Yh hn24
 have hrep := evs_rep hf hv
 obtain ⟨hF, hsz⟩ := fits_repF hrep hfit
 have hvl : vs.length = n := by have := hrep.length; rw [List.length_map] at this; omega
 refine ⟨litCells (ps.map ac.eval), hF, hvl, by rw [hF.length, hvl], ?_⟩
 obtain ⟨i, i1, i2, i3, i4⟩ := ht.info
 have hz0 := ht.cells
 have hpos := ht.pos.1
 have hmap : (parts.map fun (x : Nat × Operand) => (x.1, ac.eval x.2)).toList = ((ps.map ac.eval).zipIdx 0).map fun x => (x.2, x.1) := by
  rw [Array.toList_map, hp, idx_map]
 have hfill : ∀ cells : Array Value, cells.size = n * sz → Instr.fill (fun i => some (i * sz, sz)) cells (parts.map fun (x : Nat × Operand) => (x.1, ac.eval x.2)).toList = some (litCells (ps.map ac.eval)).toArray := fun cells hc => by
  rw [hmap]
  have := fill_lit (sz := sz) (ps.map ac.eval) 0 [] cells.toList hsz (by simp) (by simp [hc, hn])
  simpa using this
 have hle : ¬ (16777216 < n * sz) := by omega
 have hfill1 := hfill ((Array.range (n * sz)).map (z.cells[· % z.cells.size]!)) (by simp)
 have hfill2 := hfill ((Array.range (n * sz)).map ((#[] : Array Value)[· % (#[] : Array Value).size]!)) (by simp)
 by_cases h0 : n * sz = 0
 ·simp only [execOp, Instr.buildSlice, Sem.run_bind, run_underlying ht.und w, Result.andThen_ok, sizeOf, typeInfo, run_program, i1, Sem.run_pure, i2]
  simp only [gt_iff_lt, Nat.reducePow, hle, if_false, h0, if_true, Sem.run_pure, Result.andThen_ok, Sem.run_bind, pure_bind]
  rw [h0] at hfill2
  simp only [hfill2]
  simp [newRow]
 ·simp only [execOp, Instr.buildSlice, Sem.run_bind, run_underlying ht.und w, Result.andThen_ok, sizeOf, typeInfo, run_program, i1, Sem.run_pure, i2]
  simp only [gt_iff_lt, Nat.reducePow, hle, if_false, h0, zeroValue, typeInfo, Sem.run_bind, run_program, Result.andThen_ok, i1, i4, Sem.run_pure, pure_bind]
  simp only [hfill1]
  simp [newRow]
theorem V_lit {t e sz bytes : Nat} {z : Value} {n : Nat} {parts : Array (Nat × Operand)} (ps : List Operand) {vs : List V} (ht : SliceTy P t e sz bytes z) (hp : parts.toList = idx 0 ps) (hn : ps.length = n) (hn24 : Nat.ble (n * sz) 16777216 = true)
  (hv : evs F ps = some vs) (hfit : vs.all (V.fits sz) = true) (hk : K (some (.sl sz none vs)) S) : VOp P nt ⟨d, .buildSlice t n parts, ty, pos, af, gd⟩ F S K := by
 intro m w ac KK QQ hf hw hK
 obtain ⟨cs, h1, h2, h3, hrun⟩ := lit_run (d := d) (ty := ty) (pos := pos) (af := af) (gd := gd) (w := w) ht hp hn hn24 hf hv hfit
 have hle := Yh hn24
 have hpos := ht.pos.1
 have hnl : n ≤ 16777216 := Nat.le_trans (Yi n hpos) hle
 unfold Oper.wp
 rw [hrun]
 refine hK _ S (m.new w.heap.size cs) _ _ hk ?_ (Step.allocImm hw)
 refine ⟨some ⟨w.heap.size, 0, none⟩, n, by rw [h2], by omega, by simp only [maxLen]; omega, trivial, .inr ⟨_, _, rfl, ?_⟩⟩
 exact (h1.mono (Mem.sub_new hw cs)).els (Mem.at_new m _ cs)
theorem V_litTok {t e sz bytes : Nat} {z : Value} {n : Nat} {parts : Array (Nat × Operand)} (ps : List Operand) {vs : List V} (ht : SliceTy P t e sz bytes z) (hp : parts.toList = idx 0 ps) (hn : ps.length = n) (hn24 : Nat.ble (n * sz) 16777216 = true)
  (hv : evs F ps = some vs) (hfit : vs.all (V.fits sz) = true) (hk : ∀ tok, K (some (.sl sz (some tok) vs)) (.buf tok e sz n :: S)) : VOp P nt ⟨d, .buildSlice t n parts, ty, pos, af, gd⟩ F S K := by
 intro m w ac KK QQ hf hw hK
 obtain ⟨cs, h1, h2, h3, hrun⟩ := lit_run (d := d) (ty := ty) (pos := pos) (af := af) (gd := gd) (w := w) ht hp hn hn24 hf hv hfit
 have hle := Yh hn24
 have hpos := ht.pos.1
 have hnl : n ≤ 16777216 := Nat.le_trans (Yi n hpos) hle
 have hst := Step.allocBuf (T := e) (rest := []) hw h3 (Yf n) (by simpa using h3)
 rw [List.append_nil] at hst
 unfold Oper.wp
 rw [hrun]
 refine hK _ _ (m.new w.heap.size cs) _ _ (hk (.at w.heap.size n)) ?_ hst
 refine ⟨some ⟨w.heap.size, 0, none⟩, n, by rw [h2], by omega, by simp only [maxLen]; omega, ⟨rfl, rfl⟩, .inr ⟨_, _, rfl, ?_⟩⟩
 exact (h1.mono (Mem.sub_new hw cs)).els (Mem.at_new m _ cs)
theorem V_litRow {t e sz bytes : Nat} {z : Value} {n : Nat} {parts : Array (Nat × Operand)} (ps : List Operand) {vs : List V} (ht : SliceTy P t e sz bytes z) (hp : parts.toList = idx 0 ps) (hn : ps.length = n) (hn24 : Nat.ble (n * sz) 16777216 = true)
  (hv : evs F ps = some vs) (hfit : vs.all (V.fits sz) = true) (hk : ∀ g, K (some (.raw (.slice (some ⟨g, 0, none⟩) n n))) (.cells g e (vs.flatMap V.leaves) :: S)) : VOp P nt ⟨d, .buildSlice t n parts, ty, pos, af, gd⟩ F S K := by
 intro m w ac KK QQ hf hw hK
 obtain ⟨cs, h1, h2, h3, hrun⟩ := lit_run (d := d) (ty := ty) (pos := pos) (af := af) (gd := gd) (w := w) ht hp hn hn24 hf hv hfit
 have hflat : ∀ x ∈ vs, x.flat = true := fun x hx => by
  have := Yb.1 hfit x hx
  simp only [V.fits, Bool.and_eq_true] at this
  exact this.1
 have hall : (vs.flatMap V.leaves).all V.leaf = true := by
  rw [Yb]
  intro x hx
  obtain ⟨y, hy, hxy⟩ := List.mem_flatMap.1 hx
  exact Yb.1 (hflat y hy) x hxy
 unfold Oper.wp
 rw [hrun]
 exact hK _ _ m _ _ (hk w.heap.size) rfl (Step.allocRow hw hall (by simpa using h1.flatOf hflat))
theorem makes_repF {m : Mem} {sz : Nat} {z : Value} {zv : V} (hz : Rep m zv z) (hfit : zv.fits sz = true) (hpos : 0 < sz) : ∀ n, RepF m sz (Yc n zv) (madeCells z.cells (n * sz)).toList := by
 obtain ⟨h1, h2⟩ := fits_rep hz hfit
 have key : ∀ n, (madeCells z.cells (n * sz)).toList = (Yc n z.cells.toList).flatten := by
  intro n
  induction n with
  | zero => simp [madeCells]
  | succ n ih =>
   rw [List.replicate_succ', List.flatten_append, ← ih]
   simp only [madeCells, Array.toList_map, Array.toList_range, Nat.succ_mul, List.range_add, List.map_append, List.map_map]
   congr 1
   simp only [List.flatten_cons, List.flatten_nil, List.append_nil]
   apply List.ext_getElem
   ·simp [h1]
   ·intro j hj1 hj2
    have hj : j < sz := by simpa using hj1
    simp only [List.getElem_map, List.getElem_range, Function.comp, h1]
    rw [Nat.add_comm, Nat.add_mul_mod_self_right, Nat.mod_eq_of_lt hj]
    simp [h1, hj]
 intro n
 rw [key n]
 induction n with
 | zero => rfl
 | succ n ih =>
  rw [List.replicate_succ, List.replicate_succ, List.flatten_cons]
  exact ⟨z, _, rfl, hz, h1, h2, ih⟩
theorem make_run {t e sz bytes : Nat} {z : Value} {l c : Operand} {n : Int} {m : Mem} {w : World} {ac : Act} (ht : SliceTy P t e sz bytes z) (hl : F.ev l = some (.int n)) (hc : F.ev c = some (.int n)) (h0 : 0 ≤ n) (hb : n * bytes ≤ 281474976710656) (hf : FRel m nt F ac) :
  (execOp ac.eval ⟨d, .makeSlice t l c, ty, pos, af, gd⟩).run P w = .ok (.value (.slice (some ⟨w.heap.size, 0, none⟩) n.toNat n.toNat)) (w.alloc (.cells (madeCells z.cells (n.toNat * sz)) e)) := by
 have h1 : ac.eval l = .int .i64 n := hf.ev hl
 have h2 : ac.eval c = .int .i64 n := hf.ev hc
 obtain ⟨i, i1, i2, i3, i4⟩ := ht.info
 have hpos := ht.pos.2
 have hb' : (i.bytes : Int) * n ≤ 281474976710656 := by rw [i3, Int.mul_comm]; exact hb
 have hnb : n ≤ n * bytes := by
  have := Int.mul_le_mul_of_nonneg_left (show (1 : Int) ≤ bytes by omega) h0
  omega
 have hr := run_make (P := P) w t e i z ht.und i1 i4 .i64 .i64 n n h0 (Int.le_refl _) hb' (by omega)
 simp only [execOp, h1, h2, Sem.run_bind, hr, Result.andThen_ok, i2]
 rfl
theorem V_makeRow {t e sz bytes : Nat} {z : Value} {l c : Operand} {n : Int} (zv : V) (hz : ∀ m, Rep m zv z) (hzf : zv.fits sz = true) (ht : SliceTy P t e sz bytes z) (hl : F.ev l = some (.int n)) (hc : F.ev c = some (.int n)) (h0 : 0 ≤ n) (hb : n * bytes ≤ 281474976710656)
  (hk : ∀ g, K (some (.raw (.slice (some ⟨g, 0, none⟩) n.toNat n.toNat))) (.cells g e ((Yc n.toNat zv).flatMap V.leaves) :: S)) : VOp P nt ⟨d, .makeSlice t l c, ty, pos, af, gd⟩ F S K := by
 intro m w ac KK QQ hf hw hK
 have hrun := make_run (d := d) (ty := ty) (pos := pos) (af := af) (gd := gd) (w := w) ht hl hc h0 hb hf
 have hF := makes_repF (hz m) hzf ht.pos.1 n.toNat
 have hzz : zv.flat = true := by simp only [V.fits, Bool.and_eq_true] at hzf; exact hzf.1
 have hflat : ∀ x ∈ Yc n.toNat zv, x.flat = true := fun x hx => by rw [List.eq_of_mem_replicate hx]; exact hzz
 have hall : ((Yc n.toNat zv).flatMap V.leaves).all V.leaf = true := by
  rw [Yb]
  intro x hx
  obtain ⟨y, hy, hxy⟩ := List.mem_flatMap.1 hx
  exact Yb.1 (hflat y hy) x hxy
 unfold Oper.wp
 rw [hrun]
 exact hK _ _ m _ _ (hk w.heap.size) rfl (Step.allocRow hw hall (hF.flatOf hflat))
theorem src_of {m : Mem} {w : World} {t e sz : Nat} {tx : Option Tok} {ys : List V} {u : Value} (hs : 0 < sz) (hu : P.underlying t = some (.slice e)) (hw : WRel m S w) (h : Rep m (.sl sz tx ys) u) : ∃ news, RepF m sz ys news ∧ Src P sz t u ys.length news w := by
 obtain ⟨A, cap, rfl, hc, hm, _, hels⟩ := h
 have hnil : ys = [] → ∃ news, RepF m sz ys news ∧ Src P sz t (.slice A ys.length cap) ys.length news w := fun h0 => by
  subst h0
  refine ⟨[], rfl, ?_⟩
  cases A with
  | none => exact Src.ofNil w hu cap
  | some a => exact Src.ofSlice w hu a 0 cap [] (by simp) (fun j u h => by simp at h) (fun _ h => by cases h)
 rcases hels with h0 | ⟨b, off, rfl, hels⟩
 ·exact hnil h0
 ·obtain ⟨cs, h1, h2⟩ := hels.flat
  exact ⟨cs, h1, Src.ofSlice w hu ⟨b, off, none⟩ ys.length cap cs h1.length (fun j u hju => by rw [addr_add]; exact hw.agree _ _ _ (h2 j u hju)) h1.one⟩
def Mem.more (m : Mem) (g off : Nat) (cs : List Value) : Mem := fun b o => if b = g ∧ off ≤ o ∧ o < off + cs.length then cs[o - off]? else m b o
theorem setCells_heap (b : Nat) (T : TypeId) : ∀ (vs : List Value) (o : Nat) (w : World) (cs : Array Value), w.heap[b]? = some (.cells cs T) → o + vs.length ≤ cs.size →
  ∃ cs', (w.setCells b o vs).heap[b]? = some (.cells cs' T) ∧ cs'.size = cs.size ∧ ∀ k, cs'.toList[k]? = if o ≤ k ∧ k < o + vs.length then vs[k - o]? else cs.toList[k]?
 | [], o, w, cs, h, hl => ⟨cs, by simpa [World.setCells] using h, rfl, fun k => by simp; omega⟩
 | v :: vs, o, w, cs, h, hl => by
  obtain ⟨cs', h1, h2, h3⟩ := setCells_heap b T vs (o + 1) (w.setCell ⟨b, o, none⟩ v) (cs.setIfInBounds o v) (setCell_heap h v) (by simp at hl ⊢; omega)
  refine ⟨cs', by simpa [World.setCells] using h1, by simpa using h2, fun k => ?_⟩
  rw [h3 k]
  have hoc : o < cs.size := by simp at hl; omega
  by_cases hk : k = o
  ·subst hk
   rw [if_neg (by omega), if_pos (by simp)]
   simp [hoc]
  ·by_cases hk2 : o + 1 ≤ k ∧ k < o + 1 + vs.length
   ·rw [if_pos hk2, if_pos (by simp; omega), show k - o = (k - (o + 1)) + 1 by omega]
    simp
   ·rw [if_neg hk2, if_neg (by simp; omega), Array.toList_setIfInBounds, List.getElem?_set_ne (Ne.symm hk)]
theorem setCells_others (b : Nat) : ∀ (vs : List Value) (o : Nat) (w : World) (k : Nat), k ≠ b → (w.setCells b o vs).heap[k]? = w.heap[k]?
 | [], o, w, k, h => rfl
 | v :: vs, o, w, k, h => by
  have := setCells_others b vs (o + 1) (w.setCell ⟨b, o, none⟩ v) k h
  simp only [World.setCells]
  rw [this]
  exact RowKit.Below.heap_setCell _ _ _ _ h
theorem setCells_rest (b : Nat) : ∀ (vs : List Value) (o : Nat) (w : World), (w.setCells b o vs).os = w.os ∧ (w.setCells b o vs).tape = w.tape ∧ (w.setCells b o vs).output = w.output ∧ (w.setCells b o vs).heap.size = w.heap.size
 | [], o, w => ⟨rfl, rfl, rfl, rfl⟩
 | v :: vs, o, w => by
  obtain ⟨h1, h2, h3, h4⟩ := setCells_rest b vs (o + 1) (w.setCell ⟨b, o, none⟩ v)
  exact ⟨h1, h2, h3, by rw [show (w.setCells b o (v :: vs)).heap.size = ((w.setCell ⟨b, o, none⟩ v).setCells b (o + 1) vs).heap.size from rfl, h4]; simp⟩
theorem zeroCells_len (z : Value) (n : Nat) : (Builtin.zeroCells z.cells n).toList.length = n * z.cells.size := by
 rw [Array.length_toList, size_zeroCells]
theorem Step.drew {m : Mem} {S : Store} {w : World} (h : WRel m S w) : Step m S w m S w.drew :=
 ⟨⟨h.agree, h.nodup, h.holds⟩, rfl, rfl, rfl, Yf _, fun _ _ _ => rfl, Sub.refl m, fun _ _ _ h => .inl h, fun _ h => .inl h⟩
theorem perm_set {S : Store} {i : Nat} {e e' : Own} (hi : S[i]? = some e) : (e' :: S.eraseIdx i).Perm (S.set i e') := by
 induction S generalizing i with
 | nil => simp at hi
 | cons x S ih =>
  cases i with
  | zero => simp
  | succ i =>
   simp at hi
   simp only [List.eraseIdx_cons_succ, List.set_cons_succ]
   exact (List.Perm.swap _ _ _).trans ((ih hi).cons x)
theorem perm_erase {S : Store} {i : Nat} {e : Own} (hi : S[i]? = some e) : S.Perm (e :: S.eraseIdx i) := by
 have h := perm_set (e' := e) hi
 have : S.set i e = S := by
  have hl := (Yd.1 hi)
  obtain ⟨hl, he⟩ := hl
  rw [← he]
  exact List.set_getElem_self ..
 rw [this] at h
 exact h.symm
theorem V_append (i : Nat) {t e sz bytes : Nat} {z : Value} {s x : Operand} {tok : Tok} {tx : Option Tok} {xs ys : List V} (ht : SliceTy P t e sz bytes z) (hs : F.ev s = some (.sl sz (some tok) xs)) (hx : F.ev x = some (.sl sz tx ys))
  (hS : S[i]? = some (.buf tok e sz xs.length)) (hb : (xs.length + ys.length) * bytes ≤ 140737488355328) (hk : ∀ tok', K (some (.sl sz (some tok') (xs ++ ys))) (S.set i (.buf tok' e sz (xs ++ ys).length))) :
  VOp P nt ⟨d, .call ⟨.builtin .append, #[s, x], #[t, t]⟩, ty, pos, af, gd⟩ F S K := by
 intro m w ac KK QQ hf hw hK
 obtain ⟨A, cap, hsv, hc, hm, htok, hels⟩ := hf.ev hs
 obtain ⟨ii, i1, i2, i3, i4⟩ := ht.info
 have hpos := ht.pos.1
 have hbpos := ht.pos.2
 obtain ⟨news, hN, hsrc⟩ := src_of hpos ht.und hw (hf.ev hx)
 have hlen : xs.length + ys.length ≤ 140737488355328 := Nat.le_trans (Yi _ hbpos) hb
 have hsrc' : Src P ii.size t (ac.eval x) ys.length news w := by rw [i2]; exact hsrc
 have hold := hw.holds _ (List.mem_of_getElem? hS)
 have happ : ∀ (w : World), (execOp ac.eval ⟨d, .call ⟨.builtin .append, #[s, x], #[t, t]⟩, ty, pos, af, gd⟩).run P w = ((Builtin.append_ #[t, t] ty #[ac.eval s, ac.eval x]).run P w).andThen fun v w' => .ok (.value v) w' := fun w => by
  simp only [BigFrame.execOp_builtin, BigFrame.builtin_append, Sem.run_bind]
  simp
 -- the elements that were there
 have holds0 : ∃ olds, RepF m sz xs olds ∧ (Builtin.firstCells ii.size xs.length (.slice A xs.length cap)).run P w.drew = .ok olds.toArray w.drew := by
  rcases hels with h0 | ⟨b, off, rfl, hels⟩
  ·subst h0
   refine ⟨[], rfl, ?_⟩
   cases A with
   | none => exact run_firstCells_none w.drew ii.size 0 0 cap
   | some a => exact run_firstCells_some (P := P) w.drew ii.size 0 a 0 cap [] (by simp) (fun j u h => by simp at h)
  ·obtain ⟨cs, h1, h2⟩ := hels.flat
   exact ⟨cs, h1, run_firstCells_some (P := P) w.drew ii.size xs.length ⟨b, off, none⟩ xs.length cap cs (by rw [h1.length, i2]) (fun j u hju => by rw [addr_add]; exact (World.cell?_drew w _).trans (hw.agree _ _ _ (h2 j u hju)))⟩
 -- no room: a new row
 have grow : cap < xs.length + ys.length → Oper.wp P ⟨d, .call ⟨.builtin .append, #[s, x], #[t, t]⟩, ty, pos, af, gd⟩ ac w KK QQ := fun hlt => by
  obtain ⟨olds, hO, hfc⟩ := holds0
  have hrun := run_append_grow_src (P := P) w t t ty e ii z ht.und i1 i4 A xs.length cap olds hfc (ac.eval x) ys.length news hsrc' hlt (by omega) (growslice_fits hlt (by rw [i3]; exact hb))
  unfold Oper.wp
  rw [happ, hsv, hrun]
  have hge := grownCap_ge w (xs.length + ys.length) cap e
  have hcm : grownCap w (xs.length + ys.length) cap e ≤ maxLen := grownCap_le_maxLen w _ cap e (by simp only [maxLen]; omega)
  have hcl : (olds ++ news).length = (xs.length + ys.length) * sz := by rw [Ya, hO.length, hN.length, Yg]
  have hw1 : WRel m (S.eraseIdx i) w.drew := (hw.perm (perm_erase hS)).tail |> fun h => (Step.drew h).rel
  have hst := Step.allocBuf (T := e) (sz := sz) (n := xs.length + ys.length) (cap := grownCap w (xs.length + ys.length) cap e) (rest := (Builtin.zeroCells z.cells (grownCap w (xs.length + ys.length) cap e - (xs.length + ys.length))).toList) hw1 hcl hge (by
   rw [Ya, hcl, zeroCells_len, ht.cells, ← Yg]
   congr 1
   omega)
  have hstep := (((Step.drop1 (hw.perm (perm_erase hS))).permL (perm_erase hS)).trans (Step.drew (hw.perm (perm_erase hS)).tail)).trans (hst.permR (perm_set hS))
  have hkk := hk (.at w.heap.size (grownCap w (xs.length + ys.length) cap e))
  rw [Ya] at hkk
  have hcs : ((olds ++ news).toArray ++ Builtin.zeroCells z.cells (grownCap w (xs.length + ys.length) cap e - (xs.length + ys.length))) = (olds ++ news ++ (Builtin.zeroCells z.cells (grownCap w (xs.length + ys.length) cap e - (xs.length + ys.length))).toList).toArray := by
   apply Array.ext'
   simp
  rw [hcs]
  refine hK _ _ _ _ _ hkk ?_ hstep
  refine ⟨some ⟨w.heap.size, 0, none⟩, _, by rw [Ya], by rw [Ya]; exact hge, hcm, ⟨rfl, rfl⟩, .inr ⟨_, _, rfl, ?_⟩⟩
  exact ((hO.append hN).mono (Mem.sub_new hw1 _)).els (Mem.at_new m _ _)
 -- nothing is appended to what has no room
 have idle : cap = 0 → ys = [] → tokOk (some tok) A cap → (tok = .nil ∨ tok = .zero) → Oper.wp P ⟨d, .call ⟨.builtin .append, #[s, x], #[t, t]⟩, ty, pos, af, gd⟩ ac w KK QQ := fun h0 hy htk hor => by
  subst h0
  subst hy
  have hx0 : xs = [] := Ye (by omega)
  subst hx0
  have hn0 : news = [] := hN
  subst hn0
  have hrun : (Builtin.append_ #[t, t] ty #[.slice A 0 0, ac.eval x]).run P w = .ok (.slice A 0 0) w := by
   have h1 := hsrc'.len
   have h2 := hsrc'.cells
   rcases hsrc'.kind with ⟨e', hk'⟩ | hk'
   ·cases A with
    | none => simp [Builtin.append_, run_underlying ht.und, run_underlying hk', sizeOf, typeInfo, i1, h1]; simp at h2; simp [h2]
    | some a => simp [Builtin.append_, run_underlying ht.und, run_underlying hk', sizeOf, typeInfo, i1, h1]; simp at h2; simp [h2, storeCells]
   ·rw [ht.und] at hk'; cases hk'
  unfold Oper.wp
  rw [happ, hsv]
  simp only [List.length_nil]
  rw [hrun]
  refine hK _ _ m _ _ (hk tok) ⟨A, 0, by simp, by simp, by simp [maxLen], htk, .inl rfl⟩ ?_
  have : S.set i (.buf tok e sz ([] ++ [] : List V).length) = S := by
   obtain ⟨hl, he⟩ := Yd.1 hS
   conv => rhs; rw [← List.set_getElem_self hl]
   rw [he]
   rfl
  rw [this]
  exact Step.refl hw
 cases tok with
 | nil =>
  obtain ⟨rfl, rfl⟩ := htok
  rcases Nat.eq_zero_or_pos ys.length with hy | hy
  ·exact idle rfl (Ye hy) ⟨rfl, rfl⟩ (.inl rfl)
  ·exact grow (by omega)
 | zero =>
  have htok' : cap = 0 := htok
  subst htok'
  rcases Nat.eq_zero_or_pos ys.length with hy | hy
  ·exact idle rfl (Ye hy) rfl (.inr rfl)
  ·exact grow (by omega)
 | pin a => exact hold.elim
 | «at» g cap' =>
  obtain ⟨rfl, rfl⟩ := htok
  rcases Nat.lt_or_ge cap (xs.length + ys.length) with hlt | hge
  ·exact grow hlt
  -- there is room: in place
  obtain ⟨hn, ⟨cs, hh, hcs⟩, hfree⟩ := hold
  have hfit : xs.length * sz + news.length ≤ cs.size := by rw [hN.length, hcs, ← Yg]; exact Nat.mul_le_mul_right _ hge
  have hrun := run_append_room_src (P := P) w t t ty e ii ht.und i1 g 0 xs.length cap (ac.eval x) ys.length news hsrc' hge
   (fun j hj => by simp [World.cell?, hh, i2]; omega) (fun j hj => by simp [World.frozen?, hh])
  rw [i2, Nat.zero_add] at hrun
  unfold Oper.wp
  rw [happ, hsv, hrun]
  obtain ⟨cs', hh', hs', hget⟩ := setCells_heap g e news (xs.length * sz) w cs hh hfit
  obtain ⟨r1, r2, r3, r4⟩ := setCells_rest g news (xs.length * sz) w
  have hsub : Sub m (m.more g (xs.length * sz) news) := fun b o v hv => by
   unfold Mem.more
   rw [if_neg]
   ·exact hv
   ·rintro ⟨rfl, h1, _⟩
    rw [hfree o h1] at hv
    cases hv
  refine hK _ _ (m.more g (xs.length * sz) news) _ _ (hk (.at g cap)) ?_ ?_
  ·refine ⟨some ⟨g, 0, none⟩, cap, by rw [Ya], by rw [Ya]; exact hge, hm, ⟨rfl, rfl⟩, .inr ⟨_, _, rfl, ?_⟩⟩
   have hold' : ∃ olds, RepF m sz xs olds ∧ At m g 0 olds := by
    rcases hels with h0 | ⟨b, off, he, hels⟩
    ·subst h0; exact ⟨[], rfl, fun j u h => by simp at h⟩
    ·injection he with he
     injection he with he1 he2
     subst he1
     subst he2
     exact hels.flat
   obtain ⟨olds, hO, hat⟩ := hold'
   refine ((hO.append hN).mono hsub).els ((hat.mono hsub).append fun j u hu => ?_)
   have hj := (Yd.1 hu).1
   unfold Mem.more
   rw [hO.length, Nat.zero_add, if_pos ⟨rfl, by omega, by omega⟩, Nat.add_sub_cancel_left]
   exact hu
  ·refine Step.update hw hS rfl rfl r1 r2 r3 r4 (fun b hb => setCells_others g news _ w b hb) hsub (fun b o v hb hv => ?_) (fun o v hv => ?_) ⟨by rw [Ya]; exact hge, ⟨cs', hh', by rw [hs', hcs]⟩, fun o ho => ?_⟩
   ·unfold Mem.more at hv
    rwa [if_neg (fun h => hb h.1)] at hv
   ·unfold Mem.more at hv
    simp only [true_and] at hv
    have hcell : (w.setCells g (xs.length * sz) news).cell? ⟨g, o, none⟩ = cs'.toList[o]? := by
     simp [World.cell?, hh']
    rw [hcell, hget o]
    split at hv
    ·rename_i hcond
     rw [if_pos hcond]
     exact hv
    ·rename_i hcond
     rw [if_neg hcond]
     have := hw.agree g o v hv
     simpa [World.cell?, hh] using this
   ·rw [Ya, Yg] at ho
    unfold Mem.more
    rw [if_neg (by rw [hN.length]; omega)]
    exact hfree o (by omega)
theorem V_appendN (i n : Nat) {t e sz bytes : Nat} {z : Value} {s x : Operand} {tok : Tok} {tx : Option Tok} {xs ys : List V} (ht : SliceTy P t e sz bytes z) (hs : F.ev s = some (.sl sz (some tok) xs)) (hx : F.ev x = some (.sl sz tx ys))
  (hS : S[i]? = some (.buf tok e sz n)) (hn : n = xs.length) (hb : (xs.length + ys.length) * bytes ≤ 140737488355328) (hk : ∀ tok', K (some (.sl sz (some tok') (xs ++ ys))) (S.set i (.buf tok' e sz (xs ++ ys).length))) :
  VOp P nt ⟨d, .call ⟨.builtin .append, #[s, x], #[t, t]⟩, ty, pos, af, gd⟩ F S K := by
 subst hn
 exact V_append i ht hs hx hS hb hk
theorem WRel.nilBuf {m : Mem} {S : Store} {w : World} (h : WRel m S w) (T : TypeId) (sz : Nat) (tok : Tok) (ht : tok = .nil ∨ tok = .zero) : Step m S w m (.buf tok T sz 0 :: S) w := by
 have hd : dom (.buf tok T sz 0 :: S) = dom S := by rcases ht with rfl | rfl <;> rfl
 refine ⟨⟨h.agree, by rw [hd]; exact h.nodup, fun e he => ?_⟩, rfl, rfl, rfl, Yf _, fun _ _ _ => rfl, Sub.refl m, fun _ _ _ h => .inl h, fun b hb => by rw [hd] at hb; exact .inl hb⟩
 rcases List.mem_cons.1 he with rfl | he
 ·rcases ht with rfl | rfl <;> rfl
 ·exact h.holds e he
theorem V_assign_nil (T sz : Nat) (hk : K (some (.sl sz (some .nil) [])) (.buf .nil T sz 0 :: S)) : VOp P nt ⟨d, .assign (.const (.slice none 0 0)), ty, pos, af, gd⟩ F S K := by
 intro m w ac KK QQ hf hw hK
 exact hK _ _ m w _ hk ⟨none, 0, rfl, Yf _, Nat.zero_le _, ⟨rfl, rfl⟩, .inl rfl⟩ (WRel.nilBuf hw T sz .nil (.inl rfl))
end
end Go.VL
