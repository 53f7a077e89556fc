import Derived.Test.YtjekhhgjfelpgaaGreatV1
set_option linter.all false
open List renaming filterMap_cons → Ya, mem_of_getElem? → Yb, all_eq_true → Yc, nodup_cons → Yd, mem_filterMap → Ye, mem_of_mem_drop → Yf, mem_of_mem_take → Yg, getElem?_eq_some_iff → Yh
open Nat renaming le_of_ble_eq_true → Yi
namespace Go.VL
theorem cell_of_heap {w w' : World} {b o : Nat} (h : w'.heap[b]? = w.heap[b]?) : w'.cell? ⟨b, o, none⟩ = w.cell? ⟨b, o, none⟩ := World.cell?_of_block (w := w) h
theorem mem_set_cases {α : Type} {l : List α} {i : Nat} {x y : α} (h : y ∈ l.set i x) : y = x ∨ y ∈ l := by
 rcases List.mem_or_eq_of_mem_set h with h | h
 ·exact .inr h
 ·exact .inl h
theorem dom_set {S : Store} {i : Nat} {e e' : Own} (hi : S[i]? = some e) (hd : e'.dom = e.dom) : dom (S.set i e') = dom S := by
 induction S generalizing i with
 | nil => simp at hi
 | cons x S ih =>
  cases i with
  | zero =>
   simp at hi
   subst hi
   simp [dom, Ya, hd]
  | succ i =>
   simp at hi
   have := ih hi
   simp only [dom, List.set_cons_succ, Ya] at this ⊢
   rw [this]
theorem other_dom {S : Store} {i j : Nat} {e x : Own} {g : Nat} (hn : (dom S).Nodup) (hi : S[i]? = some e) (hj : S[j]? = some x) (hij : i ≠ j) (hd : e.dom = some g) : x.dom ≠ some g := by
 induction S generalizing i j with
 | nil => simp at hi
 | cons y S ih =>
  intro hx
  have hmem : ∀ {k : Nat} {z : Own}, S[k]? = some z → z.dom = some g → g ∈ dom S := fun hk hz => Ye.2 ⟨_, Yb hk, hz⟩
  cases i with
  | zero =>
   simp at hi
   subst hi
   cases j with
   | zero => exact hij rfl
   | succ j =>
    simp at hj
    simp only [dom, Ya, hd] at hn
    exact (Yd.1 hn).1 (hmem hj hx)
  | succ i =>
   simp at hi
   cases j with
   | zero =>
    simp at hj
    subst hj
    simp only [dom, Ya, hx] at hn
    exact (Yd.1 hn).1 (hmem hi hd)
   | succ j =>
    simp at hj
    refine ih ?_ hi hj (by omega) hx
    simp only [dom, Ya] at hn
    split at hn
    ·exact hn
    ·exact (Yd.1 hn).2
theorem Step.update {m m' : Mem} {S : Store} {w w' : World} {i : Nat} {e e' : Own} {g : Nat} (hw : WRel m S w) (hi : S[i]? = some e) (hd : e.dom = some g) (hd' : e'.dom = some g)
  (h1 : w'.os = w.os) (h2 : w'.tape = w.tape) (h3 : w'.output = w.output) (h4 : w'.heap.size = w.heap.size) (h5 : ∀ b, b ≠ g → w'.heap[b]? = w.heap[b]?)
  (hm : Sub m m') (ho : ∀ b o v, b ≠ g → m' b o = some v → m b o = some v) (hag : ∀ o v, m' g o = some v → w'.cell? ⟨g, o, none⟩ = some v) (he : e'.holds m' w') :
  Step m S w m' (S.set i e') w' := by
 have hg : g ∈ dom S := Ye.2 ⟨e, Yb hi, hd⟩
 have hdom := dom_set (e' := e') hi (by rw [hd, hd'])
 refine ⟨⟨?_, by rw [hdom]; exact hw.nodup, ?_⟩, h1, h2, h3, by omega, ?_, hm, ?_, ?_⟩
 ·intro b o v hv
  by_cases hb : b = g
  ·subst hb; exact hag o v hv
  ·rw [cell_of_heap (h5 b hb)]; exact hw.agree b o v (ho b o v hb hv)
 ·intro x hx
  obtain ⟨j, hj⟩ := List.getElem?_of_mem hx
  rw [List.getElem?_set] at hj
  by_cases hij : i = j
  ·rw [if_pos hij] at hj
   have hil : i < S.length := (Yh.1 hi).1
   rw [if_pos hil] at hj
   injection hj with hj
   subst hj
   exact he
  ·rw [if_neg hij] at hj
   have hne := other_dom hw.nodup hi hj hij hd
   exact Own.holds_kept (hw.holds x (Yb hj)) hm (fun b hb => h5 b (fun h => hne (h ▸ hb))) (fun b hb o v hv => ho b o v (fun h => hne (h ▸ hb)) hv)
 ·intro b hb hn
  exact h5 b (fun h => hn (h ▸ hg))
 ·intro b o v hv
  by_cases hb : b = g
  ·exact .inr (.inl (hb ▸ hg))
  ·exact .inl (ho b o v hb hv)
 ·intro b hb
  rw [hdom] at hb
  exact .inl hb
theorem alloc_heap (w : World) (o : Obj) : (w.alloc o).heap[w.heap.size]? = some o := by
 show (w.heap.push o)[w.heap.size]? = _
 simp
theorem Step.alloc {m m' : Mem} {S : Store} {w : World} {o : Obj} {e' : Own} (hw : WRel m S w) (hd' : e'.dom = some w.heap.size)
  (hm : Sub m m') (ho : ∀ b o v, b ≠ w.heap.size → m' b o = some v → m b o = some v) (hag : ∀ k v, m' w.heap.size k = some v → (w.alloc o).cell? ⟨w.heap.size, k, none⟩ = some v) (he : e'.holds m' (w.alloc o)) :
  Step m S w m' (e' :: S) (w.alloc o) := by
 have hne : ∀ b, b ∈ dom S → b ≠ w.heap.size := fun b hb h => by have := hw.dom_lt hb; omega
 have hheap : ∀ b, b < w.heap.size → (w.alloc o).heap[b]? = w.heap[b]? := fun b hb => RowKit.Below.heap_alloc w o b hb
 refine ⟨⟨?_, ?_, ?_⟩, rfl, rfl, rfl, by simp, fun b hb _ => hheap b hb, hm, ?_, ?_⟩
 ·intro b k v hv
  by_cases hb : b = w.heap.size
  ·subst hb; exact hag k v hv
  ·have hb' := ho b k v hb hv
   rw [cell_of_heap (hheap b (hw.mem_lt hb'))]
   exact hw.agree b k v hb'
 ·simp only [dom, Ya, hd']
  exact Yd.2 ⟨fun h => hne _ h rfl, hw.nodup⟩
 ·intro x hx
  rcases List.mem_cons.1 hx with rfl | hx
  ·exact he
  ·have hxd : ∀ g, x.dom = some g → g ∈ dom S := fun g hg => Ye.2 ⟨x, hx, hg⟩
   exact Own.holds_kept (hw.holds x hx) hm (fun g hg => hheap g (hw.dom_lt (hxd g hg))) (fun g hg k v hv => ho g k v (hne g (hxd g hg)) hv)
 ·intro b k v hv
  by_cases hb : b = w.heap.size
  ·exact .inr (.inr (by omega))
  ·exact .inl (ho b k v hb hv)
 ·intro b hb
  simp only [dom, Ya, hd'] at hb
  rcases List.mem_cons.1 hb with rfl | hb
  ·exact .inr (Nat.le_refl _)
  ·exact .inl hb
def Mem.new (m : Mem) (g : Nat) (cs : List Value) : Mem := fun b o => if b = g then cs[o]? else m b o
theorem Step.allocImm {m : Mem} {S : Store} {w : World} {cs : Array Value} {T : TypeId} (hw : WRel m S w) :
  Step m S w (m.new w.heap.size cs.toList) S (w.alloc (.cells cs T)) := by
 have hnone : ∀ o, m w.heap.size o = none := fun o => by
  cases h : m w.heap.size o with
  | none => rfl
  | some v => have := hw.mem_lt h; omega
 have hsub : Sub m (m.new w.heap.size cs.toList) := fun b o v hv => by
  unfold Mem.new
  by_cases hb : b = w.heap.size
  ·subst hb; rw [hnone o] at hv; cases hv
  ·rw [if_neg hb]; exact hv
 have := Step.alloc (m' := m.new w.heap.size cs.toList) (o := .cells cs T) (e' := .buf (.at w.heap.size cs.size) T 1 cs.size) hw rfl hsub
  (fun b o v hb hv => by unfold Mem.new at hv; rwa [if_neg hb] at hv)
  (fun k v hv => by unfold Mem.new at hv; rw [if_pos rfl] at hv; simpa using hv)
  ⟨Nat.le_refl _, ⟨cs, alloc_heap _ _, by simp⟩, fun o ho => by unfold Mem.new; rw [if_pos rfl]; simp; omega⟩
 exact this.trans (Step.drop1 this.rel)
structure LeafTy (P : Program) (t : TypeId) : Prop where
 desc : ∃ d, P.underlying t = some d ∧ d.isRow = false
 size : (P.info? t).map (·.size) = some 1
structure AggTy (P : Program) (t sz : Nat) : Prop where
 desc : ∃ d, P.underlying t = some d ∧ d.isRow = true
 size : (P.info? t).map (·.size) = some sz
structure FieldTy (P : Program) (s f off sz : Nat) (agg : Bool) : Prop where
 fld : ∃ fs fd, P.underlying s = some (.struct fs) ∧ fs[f]? = some fd ∧ fd.offset = off ∧ (P.info? fd.type).map (·.size) = some sz ∧ (∃ d, P.underlying fd.type = some d ∧ d.isRow = agg) ∧ sz ≠ 0
structure SliceTy (P : Program) (t e sz bytes : Nat) (z : Value) : Prop where
 und : P.underlying t = some (.slice e)
 info : ∃ i, P.info? e = some i ∧ i.size = sz ∧ i.bytes = bytes ∧ i.zero = some z
 cells : z.cells.size = sz
 pos : 0 < sz ∧ 0 < bytes
section
variable {P : Program} {w : World}
theorem LeafTy.run_loadVar {t : TypeId} (h : LeafTy P t) (a : Addr) : (loadVar t a).run P w = (load a).run P w := by
 obtain ⟨d, hd, hr⟩ := h.desc
 have : (isAgg t).run P w = .ok false w := by
  unfold isAgg
  rw [Sem.run_bind, run_underlying hd w]
  cases d <;> simp_all
 simp [loadVar, this]
theorem run_sizeOf' {t sz : Nat} (h : (P.info? t).map (·.size) = some sz) : (sizeOf t).run P w = .ok sz w := by
 cases hq : P.info? t with
 | none => simp [hq] at h
 | some i => simp [hq] at h; simp [sizeOf, typeInfo, hq, h]
end
section
variable {P : Program} {nt : Nat} {F : Fr} {S : Store} {K : Option V → Store → Prop}
theorem VOp_pure {o : Oper} (r : Option V) (h : ∀ m w a, FRel m nt F a → WRel m S w → ∃ u, (execOp a.eval o).run P w = .ok (.value u) w ∧ RepO m r u) (hk : K r S) : VOp P nt o F S K := by
 intro m w a KK QQ hf hw hK
 obtain ⟨u, hu, hr⟩ := h m w a hf hw
 unfold Oper.wp
 rw [hu]
 exact hK r S m w u hk hr (Step.refl hw)
variable {d : Option Tmp} {ty : TypeId} {pos : String} {af : Array Edge} {gd : Option (Nat × Bool)}
theorem V_move {x : Operand} {v : V} (hx : F.ev x = some v) (hk : K (some v) S) : VOp P nt ⟨d, .move x, ty, pos, af, gd⟩ F S K :=
 VOp_pure (some v) (fun m w a hf hw => ⟨a.eval x, rfl, hf.ev hx⟩) hk
theorem V_assign {x : Operand} {v : V} (hx : F.ev x = some v) (hk : K (some v) S) : VOp P nt ⟨d, .assign x, ty, pos, af, gd⟩ F S K :=
 VOp_pure (some v) (fun m w a hf hw => ⟨a.eval x, rfl, hf.ev hx⟩) hk
theorem V_pick {c x y : Operand} {b : Bool} {v : V} (hc : F.ev c = some (.bool b)) (hv : (bif b then F.ev x else F.ev y) = some v) (hk : K (some v) S) : VOp P nt ⟨d, .pick c x y, ty, pos, af, gd⟩ F S K := by
 refine VOp_pure (some v) (fun m w a hf hw => ?_) hk
 have hb : a.eval c = .bool b := hf.ev hc
 cases b with
 | true => exact ⟨a.eval x, by simp [execOp, hb, asBool], hf.ev hv⟩
 | false => exact ⟨a.eval y, by simp [execOp, hb, asBool], hf.ev hv⟩
def vbin64 : BinOp → Int → Int → Option V
 | .add, a, b => some (.int (IntKind.i64.wrap (a + b)))
 | .sub, a, b => some (.int (IntKind.i64.wrap (a - b)))
 | .mul, a, b => some (.int (IntKind.i64.wrap (a * b)))
 | .eql, a, b => some (.bool (a == b))
 | .neq, a, b => some (.bool (a != b))
 | .lss, a, b => some (.bool (decide (a < b)))
 | .leq, a, b => some (.bool (decide (a ≤ b)))
 | .gtr, a, b => some (.bool (decide (a > b)))
 | .geq, a, b => some (.bool (decide (a ≥ b)))
 | _, _, _ => none
theorem eqGuard_int {op : BinOp} {t : TypeId} {x y : Operand} {k k' : IntKind} {a b : Int} {w : World} : (eqGuard op t x y (.int k a) (.int k' b)).run P w = .ok () w := by
 cases op <;> rfl
theorem V_bin {op : BinOp} {t t2 : TypeId} {x y : Operand} {a b : Int} {r : V} (hx : F.ev x = some (.int a)) (hy : F.ev y = some (.int b)) (hr : vbin64 op a b = some r) (hk : K (some r) S) :
    VOp P nt ⟨d, .binOp op t x y t2, ty, pos, af, gd⟩ F S K := by
  refine VOp_pure (some r) (fun m w ac hf hw => ?_) hk
  have ha : ac.eval x = .int .i64 a := hf.ev hx
  have hb : ac.eval y = .int .i64 b := hf.ev hy
  cases op <;> first
    | (simp [vbin64] at hr; done)
    | (injection hr with hr
       subst hr
       refine ⟨_, ?_, rfl⟩
       simp only [execOp, ha, hb, Sem.run_bind, eqGuard_int, Result.andThen_ok]
       simp [binOp, Op.intArith, Op.intCmp])
theorem V_add {t t2 : TypeId} {x y : Operand} {a b : Int} (hx : F.ev x = some (.int a)) (hy : F.ev y = some (.int b)) (h : -9223372036854775808 ≤ a + b ∧ a + b ≤ 9223372036854775807) (hk : K (some (.int (a + b))) S) :
  VOp P nt ⟨d, .binOp .add t x y t2, ty, pos, af, gd⟩ F S K := by
 refine V_bin hx hy rfl ?_
 rwa [IntWalk.i64_in _ h]
theorem V_sub {t t2 : TypeId} {x y : Operand} {a b : Int} (hx : F.ev x = some (.int a)) (hy : F.ev y = some (.int b)) (h : -9223372036854775808 ≤ a - b ∧ a - b ≤ 9223372036854775807) (hk : K (some (.int (a - b))) S) :
  VOp P nt ⟨d, .binOp .sub t x y t2, ty, pos, af, gd⟩ F S K := by
 refine V_bin hx hy rfl ?_
 rwa [IntWalk.i64_in _ h]
theorem V_not {t : TypeId} {x : Operand} {b : Bool} (hx : F.ev x = some (.bool b)) (hk : K (some (.bool (!b))) S) : VOp P nt ⟨d, .unOp .not t x, ty, pos, af, gd⟩ F S K := by
 refine VOp_pure (some (.bool (!b))) (fun m w ac hf hw => ?_) hk
 have ha : ac.eval x = .bool b := hf.ev hx
 exact ⟨_, by simp [execOp, ha, Op.unary], rfl⟩
theorem V_extract {x : Operand} {i : Nat} {vs : List V} {v : V} (hx : F.ev x = some (.tup vs)) (hi : vs[i]? = some v) (hk : K (some v) S) : VOp P nt ⟨d, .extract x i, ty, pos, af, gd⟩ F S K := by
 refine VOp_pure (some v) (fun m w ac hf hw => ?_) hk
 obtain ⟨us, he, hr⟩ := hf.ev hx
 obtain ⟨u, hu, hru⟩ := hr.get hi
 exact ⟨u, by simp [execOp, he, Instr.extract, show us[i]? = some u by simpa using hu], hru⟩
theorem V_nilCheck {x : Operand} {a : Addr} (hx : F.ev x = some (.raw (.pointer (some a)))) (hk : K (some (.raw (.pointer (some a)))) S) : VOp P nt ⟨d, .nilCheck x, ty, pos, af, gd⟩ F S K := by
 refine VOp_pure _ (fun m w ac hf hw => ?_) hk
 have ha : ac.eval x = .pointer (some a) := hf.ev hx
 exact ⟨.pointer (some a), by simp [execOp, ha], rfl⟩
theorem fieldPlace_run {w : World} {fd : Field} {sz : Nat} (h : (P.info? fd.type).map (·.size) = some sz) (h0 : sz ≠ 0) (a : Addr) : (fieldPlace a fd).run P w = .ok (a.add fd.offset) w := by
 simp [fieldPlace, run_sizeOf' h, h0]
theorem addr_add (g o k : Nat) : (⟨g, o, none⟩ : Addr).add k = ⟨g, o + k, none⟩ := Addr.add_mid g o k
theorem V_fieldAddr {s f off sz : Nat} {agg : Bool} {x : Operand} {g o : Nat} (ht : FieldTy P s f off sz agg) (hx : F.ev x = some (.ptr g o)) (hk : K (some (.ptr g (o + off))) S) : VOp P nt ⟨d, .fieldAddr s x f, ty, pos, af, gd⟩ F S K := by
 refine VOp_pure _ (fun m w ac hf hw => ?_) hk
 have ha : ac.eval x = .pointer (some ⟨g, o, none⟩) := hf.ev hx
 obtain ⟨fs, fd, h1, h2, h3, h4, _, h7⟩ := ht.fld
 refine ⟨.pointer (some ⟨g, o + off, none⟩), ?_, rfl⟩
 simp [execOp, ha, Instr.fieldAt, run_underlying h1 w, h2, Instr.sureAddr, fieldPlace_run h4 h7, h3, addr_add]
theorem V_fieldAddr_ep {s f off sz : Nat} {x : Operand} {a : Addr} {ls : List V} {v : V} (ht : FieldTy P s f off sz false) (hx : F.ev x = some (.ep a (.agg ls))) (hv : ls[off]? = some v)
  (hk : K (some (.ep ⟨a.block, a.off + off, none⟩ v)) S) : VOp P nt ⟨d, .fieldAddr s x f, ty, pos, af, gd⟩ F S K := by
 refine VOp_pure _ (fun m w ac hf hw => ?_) hk
 obtain ⟨ha, hs, u, ⟨hl, cs, rfl, hr⟩, hat⟩ := hf.ev hx
 obtain ⟨fs, fd, h1, h2, h3, h4, _, h7⟩ := ht.fld
 obtain ⟨u, hu, hru⟩ := hr.get hv
 obtain ⟨b, o, sp⟩ := a
 dsimp only at hs
 subst hs
 refine ⟨.pointer (some ⟨b, o + off, none⟩), ?_, rfl, rfl, u, hru, fun j u' hu' => ?_⟩
 ·simp [execOp, ha, Instr.fieldAt, run_underlying h1 w, h2, Instr.sureAddr, fieldPlace_run h4 h7, h3, addr_add]
 ·have h1c : u.oneCell' = true := hru.oneCell (by rw [Yc] at hl; exact hl v (Yb hv))
  rw [cells_oneCell h1c] at hu'
  have : j = 0 := by
   have := (Yh.1 hu').1
   simp at this
   exact this
  subst this
  simp at hu'
  subst hu'
  exact hat off u hu
theorem V_fieldAddr_ep_agg {s f off sz : Nat} {x : Operand} {a : Addr} {ls : List V} (ht : FieldTy P s f off sz true) (hx : F.ev x = some (.ep a (.agg ls)))
  (hk : K (some (.ep ⟨a.block, a.off + off, none⟩ (.agg ((ls.drop off).take sz)))) S) : VOp P nt ⟨d, .fieldAddr s x f, ty, pos, af, gd⟩ F S K := by
 refine VOp_pure _ (fun m w ac hf hw => ?_) hk
 obtain ⟨ha, hs, u, ⟨hl, cs, rfl, hr⟩, hat⟩ := hf.ev hx
 obtain ⟨fs, fd, h1, h2, h3, h4, _, h7⟩ := ht.fld
 obtain ⟨b, o, sp⟩ := a
 dsimp only at hs
 subst hs
 refine ⟨.pointer (some ⟨b, o + off, none⟩), ?_, rfl, rfl, .agg ((cs.toList.drop off).take sz).toArray, ⟨?_, _, rfl, ?_⟩, fun j u' hu' => ?_⟩
 ·simp [execOp, ha, Instr.fieldAt, run_underlying h1 w, h2, Instr.sureAddr, fieldPlace_run h4 h7, h3, addr_add]
 ·rw [Yc] at hl ⊢
  exact fun x hx => hl x (Yf (Yg hx))
 ·exact (hr.drop off).take sz
 ·have : cs.toList[off + j]? = some u' := by
   simp only [Value.cells] at hu'
   rw [List.getElem?_take] at hu'
   split at hu'
   ·rwa [List.getElem?_drop] at hu'
   ·cases hu'
  have := hat (off + j) u' this
  rwa [← Nat.add_assoc] at this
theorem own_cells {m : Mem} {w : World} {i g : Nat} {T : TypeId} {ls : List V} (hw : WRel m S w) (hS : S[i]? = some (.cells g T ls)) : ls.all V.leaf = true ∧ (∃ cs, w.heap[g]? = some (.cells cs T) ∧ RepL m ls cs.toList) ∧ ∀ o, m g o = none :=
 hw.holds _ (Yb hS)
theorem cell_at {w : World} {g o : Nat} {cs : Array Value} {T : TypeId} {u : Value} (h : w.heap[g]? = some (.cells cs T)) (hu : cs.toList[o]? = some u) : w.cell? ⟨g, o, none⟩ = some u := by
 simp [World.cell?, h]
 simpa using hu
theorem V_load (i : Nat) {t : TypeId} {x : Operand} {g o : Nat} {T : TypeId} {ls : List V} {v : V} (ht : LeafTy P t) (hx : F.ev x = some (.ptr g o)) (hS : S[i]? = some (.cells g T ls)) (hv : ls[o]? = some v) (hk : K (some v) S) :
  VOp P nt ⟨d, .load t x, ty, pos, af, gd⟩ F S K := by
 refine VOp_pure _ (fun m w ac hf hw => ?_) hk
 have ha : ac.eval x = .pointer (some ⟨g, o, none⟩) := hf.ev hx
 obtain ⟨_, ⟨cs, hh, hr⟩, _⟩ := own_cells hw hS
 obtain ⟨u, hu, hru⟩ := hr.get hv
 exact ⟨u, by simp [execOp, ha, Instr.loadAt, Instr.sureAddr, ht.run_loadVar, cell_at hh hu], hru⟩
theorem V_load_agg (i : Nat) {t sz : Nat} {x : Operand} {g o : Nat} {T : TypeId} {ls : List V} (ht : AggTy P t sz) (hx : F.ev x = some (.ptr g o)) (hS : S[i]? = some (.cells g T ls)) (hlen : Nat.ble (o + sz) ls.length = true) (hk : K (some (.agg ((ls.drop o).take sz))) S) :
  VOp P nt ⟨d, .load t x, ty, pos, af, gd⟩ F S K := by
 refine VOp_pure _ (fun m w ac hf hw => ?_) hk
 have hlen := Yi hlen
 have ha : ac.eval x = .pointer (some ⟨g, o, none⟩) := hf.ev hx
 obtain ⟨hl, ⟨cs, hh, hr⟩, _⟩ := own_cells hw hS
 have hcl := hr.length
 obtain ⟨dd, h1, h2⟩ := ht.desc
 have hr' : RepL m ((ls.drop o).take sz) ((cs.toList.drop o).take sz) := (hr.drop o).take sz
 have hll : ((cs.toList.drop o).take sz).length = sz := by simp only [List.length_take, List.length_drop, hcl]; omega
 refine ⟨.agg ((cs.toList.drop o).take sz).toArray, ?_, ?_, _, rfl, hr'⟩
 ·simp only [execOp, ha]
  rw [Sem.run_bind, run_loadAt_mid w g o t _ dd (fun j v hv => ?_) h1 h2 (by rw [hll]; exact ht.size)]
  ·rfl
  ·rw [List.getElem?_take] at hv
   split at hv
   ·rw [List.getElem?_drop] at hv
    exact cell_at hh hv
   ·cases hv
 ·rw [Yc] at hl ⊢
  exact fun x hx => hl x (Yf (Yg hx))
theorem V_load_ep {t : TypeId} {x : Operand} {a : Addr} {v : V} (ht : LeafTy P t) (hx : F.ev x = some (.ep a v)) (hl : v.leaf = true) (hk : K (some v) S) :
  VOp P nt ⟨d, .load t x, ty, pos, af, gd⟩ F S K := by
 refine VOp_pure _ (fun m w ac hf hw => ?_) hk
 obtain ⟨ha, hs, u, hr, hat⟩ := hf.ev hx
 obtain ⟨b, o, sp⟩ := a
 dsimp only at hs
 subst hs
 have h1 := hr.oneCell hl
 rw [cells_oneCell h1] at hat
 have hc := hw.agree _ _ _ (hat 0 u (by simp))
 rw [Nat.add_zero] at hc
 exact ⟨u, by simp [execOp, ha, Instr.loadAt, Instr.sureAddr, ht.run_loadVar, hc], hr⟩
theorem V_load_ep_agg {t sz : Nat} {x : Operand} {a : Addr} {ls : List V} (ht : AggTy P t sz) (hx : F.ev x = some (.ep a (.agg ls))) (hlen : Nat.beq ls.length sz = true) (hk : K (some (.agg ls)) S) :
  VOp P nt ⟨d, .load t x, ty, pos, af, gd⟩ F S K := by
 refine VOp_pure _ (fun m w ac hf hw => ?_) hk
 have hlen := Nat.eq_of_beq_eq_true hlen
 obtain ⟨ha, hs, u, ⟨hl, cs, rfl, hr⟩, hat⟩ := hf.ev hx
 obtain ⟨b, o, sp⟩ := a
 dsimp only at hs
 subst hs
 obtain ⟨dd, h1, h2⟩ := ht.desc
 refine ⟨.agg cs, ?_, hl, cs, rfl, hr⟩
 simp only [execOp, ha]
 rw [Sem.run_bind, run_loadAt_mid w b o t cs.toList dd (fun j v hv => hw.agree _ _ _ (hat j v hv)) h1 h2 (by rw [hr.length, hlen]; exact ht.size)]
 rfl
theorem setCell_heap {w : World} {g o : Nat} {cs : Array Value} {T : TypeId} (h : w.heap[g]? = some (.cells cs T)) (u : Value) : (w.setCell ⟨g, o, none⟩ u).heap[g]? = some (.cells (cs.setIfInBounds o u) T) := by
 simp [World.setCell, Array.getElem?_modify, h]
theorem V_store (i : Nat) {t : TypeId} {x y : Operand} {g o : Nat} {T : TypeId} {ls : List V} {v : V} (ht : LeafTy P t) (hx : F.ev x = some (.ptr g o)) (hy : F.ev y = some v) (hl : v.leaf = true) (hS : S[i]? = some (.cells g T ls)) (hlen : Nat.ble (o + 1) ls.length = true)
  (hk : K none (S.set i (.cells g T (ls.set o v)))) : VOp P nt ⟨d, .store t x y, ty, pos, af, gd⟩ F S K := by
 intro m w ac KK QQ hf hw hK
 have hlen := Yi hlen
 have ha : ac.eval x = .pointer (some ⟨g, o, none⟩) := hf.ev hx
 have hv := hf.ev hy
 have h1 := hv.oneCell hl
 obtain ⟨hall, ⟨cs, hh, hr⟩, hm⟩ := own_cells hw hS
 have hcl := hr.length
 have hoc : o < cs.toList.length := by omega
 have hcell : w.cell? ⟨g, o, none⟩ = some (cs.toList[o]) := cell_at hh (List.getElem?_eq_getElem hoc)
 have hfz : w.frozen? ⟨g, o, none⟩ = false := by simp [World.frozen?, hh]
 have hsz : (sizeOf t).run P w = .ok 1 w := run_sizeOf' ht.size
 have hcsz : (ac.eval y).cells.size = 1 := by rw [cells_oneCell h1]; rfl
 have hrun : (execOp ac.eval ⟨d, .store t x y, ty, pos, af, gd⟩).run P w = .ok .skip (w.setCell ⟨g, o, none⟩ (ac.eval y)) := by
  simp only [execOp, Instr.storeAt, ha, Instr.sureAddr, storeVar, Sem.run_bind, Sem.run_pure, Result.andThen_ok, hsz, hcsz]
  rw [cells_oneCell h1]
  simp [storeCells, Addr.add, run_store P w ⟨g, o, none⟩ (ac.eval y) .plain h1, hcell, hfz]
 unfold Oper.wp
 rw [hrun]
 refine hK none _ m _ undef hk trivial ?_
 refine Step.update hw hS rfl rfl rfl rfl rfl (by simp) (fun b hb => ?_) (Sub.refl m) (fun b o v _ h => h) (fun o' v' h => by rw [hm o'] at h; cases h) ⟨?_, ⟨_, setCell_heap hh _, ?_⟩, hm⟩
 ·exact RowKit.Below.heap_setCell _ _ _ _ hb
 ·rw [Yc] at hall ⊢
  intro z hz
  rcases mem_set_cases hz with rfl | hz
  ·exact hl
  ·exact hall z hz
 ·rw [Array.toList_setIfInBounds]
  exact hr.set o hv
theorem V_store_agg (i : Nat) {t sz : Nat} {x y : Operand} {g o : Nat} {T : TypeId} {ls vs : List V} (ht : AggTy P t sz) (hx : F.ev x = some (.ptr g o)) (hy : F.ev y = some (.agg vs)) (hvs : Nat.beq vs.length sz = true) (hS : S[i]? = some (.cells g T ls)) (hlen : Nat.ble (o + sz) ls.length = true)
  (hk : K none (S.set i (.cells g T (ls.take o ++ vs ++ ls.drop (o + sz))))) : VOp P nt ⟨d, .store t x y, ty, pos, af, gd⟩ F S K := by
 intro m w ac KK QQ hf hw hK
 have hlen := Yi hlen
 have hvs := Nat.eq_of_beq_eq_true hvs
 have ha : ac.eval x = .pointer (some ⟨g, o, none⟩) := hf.ev hx
 obtain ⟨hvl, us, hu, hru⟩ := hf.ev hy
 have hul := hru.length
 have h1 := hru.oneCells hvl
 obtain ⟨hall, ⟨cs, hh, hr⟩, hm⟩ := own_cells hw hS
 have hcl := hr.length
 have hst := run_storeCells_at (P := P) g o T us.toList 0 cs w hh (by simp at hcl hul ⊢; omega) h1
 have hsz : (sizeOf t).run P w = .ok sz w := run_sizeOf' ht.size
 have husz : us.size = sz := by simp at hul; omega
 have hnew : (cs.toList.take (o + 0) ++ us.toList ++ cs.toList.drop (o + 0 + us.toList.length)).toArray = (cs.toList.take o ++ us.toList ++ cs.toList.drop (o + sz)).toArray := by
  simp [husz]
 rw [hnew] at hst
 have hrun : (execOp ac.eval ⟨d, .store t x y, ty, pos, af, gd⟩).run P w = .ok .skip (w.setRow g (cs.toList.take o ++ us.toList ++ cs.toList.drop (o + sz)).toArray) := by
  simp only [execOp, Instr.storeAt, ha, hu, Instr.sureAddr, storeVar, Sem.run_bind, Sem.run_pure, Result.andThen_ok, hsz, Value.cells, husz]
  simp [hst]
 unfold Oper.wp
 rw [hrun]
 refine hK none _ m _ undef hk trivial ?_
 have hheap := setRow_heap w g cs (cs.toList.take o ++ us.toList ++ cs.toList.drop (o + sz)).toArray T (0, 0) hh
 refine Step.update hw hS rfl rfl rfl rfl rfl (by simp [World.setRow]) (fun b hb => ?_) (Sub.refl m) (fun b o v _ h => h) (fun o' v' h => by rw [hm o'] at h; cases h) ⟨?_, ⟨_, hheap, ?_⟩, hm⟩
 ·simp [World.setRow, Array.getElem?_modify, Ne.symm hb]
 ·rw [Yc] at hall hvl ⊢
  intro z hz
  rcases List.mem_append.1 hz with hz | hz
  ·rcases List.mem_append.1 hz with hz | hz
   ·exact hall z (Yg hz)
   ·exact hvl z hz
  ·exact hall z (Yf hz)
 ·exact ((hr.take o).append hru).append (hr.drop (o + sz))
theorem V_box {t : TypeId} {x : Operand} {v : V} (hx : F.ev x = some v) (hv : v.flat = true) (hk : ∀ g, K (some (.ptr g 0)) (.cells g t v.leaves :: S)) : VOp P nt ⟨d, .box t x, ty, pos, af, gd⟩ F S K := by
 intro m w ac KK QQ hf hw hK
 obtain ⟨hr, h1⟩ := (hf.ev hx).cells hv
 have hnone : ∀ o, m w.heap.size o = none := fun o => by
  cases h : m w.heap.size o with
  | none => rfl
  | some v => have := hw.mem_lt h; omega
 have hrun : (execOp ac.eval ⟨d, .box t x, ty, pos, af, gd⟩).run P w = .ok (.value (.pointer (some ⟨w.heap.size, 0, none⟩))) (w.alloc (.cells (ac.eval x).cells t)) := by
  simp [execOp, Instr.box, newVar, newRow]
 unfold Oper.wp
 rw [hrun]
 refine hK _ _ m _ _ (hk w.heap.size) rfl ?_
 refine Step.alloc hw rfl (Sub.refl m) (fun b o v _ h => h) (fun k v h => by rw [hnone k] at h; cases h) ⟨hv, ⟨_, alloc_heap _ _, hr⟩, hnone⟩
theorem V_alloc {t : TypeId} {z : Value} (hz : (P.info? t).map (·.zero) = some (some z)) (ls : List V) (hl : z.cells.toList.map V.raw = ls) (hls : ls.all V.leaf = true) (hk : ∀ g, K (some (.ptr g 0)) (.cells g t ls :: S)) : VOp P nt ⟨d, .alloc t, ty, pos, af, gd⟩ F S K := by
 intro m w ac KK QQ hf hw hK
 have hnone : ∀ o, m w.heap.size o = none := fun o => by
  cases h : m w.heap.size o with
  | none => rfl
  | some v => have := hw.mem_lt h; omega
 have hrun : (execOp ac.eval ⟨d, .alloc t, ty, pos, af, gd⟩).run P w = .ok (.value (.pointer (some ⟨w.heap.size, 0, none⟩))) (w.alloc (.cells z.cells t)) := by
  cases hq : P.info? t with
  | none => simp [hq] at hz
  | some i =>
   have hzz : i.zero = some z := by simpa [hq] using hz
   simp [execOp, Instr.alloc, zeroValue, typeInfo, hq, hzz, newVar, newRow]
 have hraw : ∀ (us : List Value), RepL m (us.map V.raw) us := fun us => by
  induction us with
  | nil => rfl
  | cons u us ih => exact ⟨u, us, rfl, rfl, ih⟩
 unfold Oper.wp
 rw [hrun]
 refine hK _ _ m _ _ (hk w.heap.size) rfl ?_
 refine Step.alloc hw rfl (Sub.refl m) (fun b o v _ h => h) (fun k v h => by rw [hnone k] at h; cases h) ⟨hls, ⟨_, alloc_heap _ _, by rw [← hl]; exact hraw _⟩, hnone⟩
end
end Go.VL
