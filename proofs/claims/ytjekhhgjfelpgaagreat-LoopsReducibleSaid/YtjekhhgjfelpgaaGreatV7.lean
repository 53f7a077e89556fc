import Derived.Test.YtjekhhgjfelpgaaGreatV6
import Derived.Laws.StructEq
set_option linter.all false
open List renaming mem_cons_of_mem → Ya, range → Yb
namespace Go.VL
def kmap {κ : Type} (kv : κ → Value) (l : List (κ × V)) : List (Value × V) := l.map fun p => (kv p.1, p.2)
section
variable {κ : Type} {P : Program} {kv : κ → Value} {nt : Nat} {F : Fr} {S : Store} {K : Option V → Store → Prop}
variable {d : Option Tmp} {ty : TypeId} {pos : String} {af : Array Edge} {gd : Option (Nat × Bool)}
theorem V_makeMap {t : TypeId} (hk : ∀ g, K (some (.raw (.map (some g)))) (.map g (kmap kv []) :: S)) : VOp P nt ⟨d, .makeMap t none, ty, pos, af, gd⟩ F S K := by
 intro m w ac KK QQ hf hw hK
 have hrun : (execOp ac.eval ⟨d, .makeMap t none, ty, pos, af, gd⟩).run P w = .ok (.value (.map (some w.heap.size))) (w.alloc (.map #[] 0)) := by
  simp [execOp, Instr.makeMap]
 unfold Oper.wp
 rw [hrun]
 exact hK _ _ m _ _ (hk w.heap.size) rfl (Step.alloc hw rfl (Sub.refl m) (fun b o v _ h => h) (fun k v h => by rw [hw.fresh k] at h; cases h) ⟨⟨#[], 0, alloc_heap _ _, rfl⟩, hw.fresh⟩)
end
section
variable {κ : Type} [DecidableEq κ]
def kget : List (κ × V) → κ → Option V
 | [], _ => none
 | (a, v) :: t, k => if a = k then some v else kget t k
def kput : List (κ × V) → κ → V → List (κ × V)
 | [], k, v => [(k, v)]
 | (a, u) :: t, k, v => if a = k then (a, v) :: t else (a, u) :: kput t k v
structure KeyTy (P : Program) (kt : TypeId) (kv : κ → Value) : Prop where
 all : ∃ kind, P.underlying kt = some kind ∧ (∀ a b, Instr.sameNow kind (kv a) (kv b) = some (decide (a = b))) ∧ (∀ (e : Bool) (a : κ) (w : World), (Instr.checkKey e 10000 kt (kv a)).run P w = .ok () w) ∧ ∀ a, Instr.sameBits 10000 (kv a) (kv a) = true
variable {P : Program} {kt : TypeId} {kv : κ → Value} {m : Mem}
theorem findNow_kget {kind : TypeDesc} (hs : ∀ a b, Instr.sameNow kind (kv a) (kv b) = some (decide (a = b))) (k : κ) : ∀ {l : List (κ × V)} {es : List MapEntry} (i : Nat), RepMap m (kmap kv l) es →
  (kget l k = none ∧ Instr.findNow kind (kv k) es i = some none ∧ ∀ (v : V) (e' : MapEntry), e'.key = kv k → Rep m v e'.val → RepMap m (kmap kv (kput l k v)) (es ++ [e'])) ∨
  (∃ v j e, kget l k = some v ∧ Instr.findNow kind (kv k) es i = some (some (i + j, e.val)) ∧ es[j]? = some e ∧ e.key = kv k ∧ Rep m v e.val ∧ ∀ (v' : V) (e' : MapEntry), e'.key = kv k → Rep m v' e'.val → RepMap m (kmap kv (kput l k v')) (es.set j e'))
 | [], es, i, h => by
  have he : es = [] := h
  subst he
  exact .inl ⟨rfl, rfl, fun v e' hk hr => ⟨e', [], rfl, hk, hr, rfl⟩⟩
 | (a, u) :: l, es, i, h => by
  obtain ⟨e, es', rfl, hk, hr, ht⟩ := h
  by_cases hak : a = k
  ·subst hak
   refine .inr ⟨u, 0, e, by simp [kget], ?_, rfl, hk, hr, fun v' e' hk' hr' => ?_⟩
   ·simp [Instr.findNow, hk, hs]
   ·simp only [kput, if_pos, kmap, List.map_cons, List.set_cons_zero]
    exact ⟨e', es', rfl, hk', hr', ht⟩
  ·have hne : decide (k = a) = false := by simp; exact fun h => hak h.symm
   rcases findNow_kget hs k (i + 1) ht with ⟨h1, h2, h3⟩ | ⟨v, j, e2, h1, h2, h3, h4, h5, h6⟩
   ·refine .inl ⟨by simp [kget, hak, h1], ?_, fun v e' hk' hr' => ?_⟩
    ·simp only [Instr.findNow, hk, hs, hne]
     exact h2
    ·simp only [kput, if_neg hak, kmap, List.map_cons, List.cons_append]
     exact ⟨e, _, rfl, hk, hr, h3 v e' hk' hr'⟩
   ·refine .inr ⟨v, j + 1, e2, by simp [kget, hak, h1], ?_, by simpa using h3, h4, h5, fun v' e' hk' hr' => ?_⟩
    ·simp only [Instr.findNow, hk, hs, hne]
     rw [h2]
     simp only [Option.some.injEq, Prod.mk.injEq, and_true]
     omega
    ·simp only [kput, if_neg hak, kmap, List.map_cons, List.set_cons_succ]
     exact ⟨e, _, rfl, hk, hr, h6 v' e' hk' hr'⟩
variable {nt : Nat} {F : Fr} {S : Store} {K : Option V → Store → Prop}
variable {d : Option Tmp} {ty : TypeId} {pos : String} {af : Array Edge} {gd : Option (Nat × Bool)}
theorem own_map {m : Mem} {w : World} {i g : Nat} {es : List (Value × V)} (hw : WRel m S w) (hS : S[i]? = some (.map g es)) : (∃ ents clock, w.heap[g]? = some (.map ents clock) ∧ RepMap m es ents.toList) ∧ ∀ o, m g o = none :=
 hw.holds _ (List.mem_of_getElem? hS)
theorem lookup_run {t et : TypeId} {x ix : Operand} {ok : Bool} {g i : Nat} {k : κ} {l : List (κ × V)} {z : Value} {m : Mem} {w : World} {ac : Act} (ht : P.underlying t = some (.map kt et)) (hkt : KeyTy P kt kv) (hz : (P.info? et).map (·.zero) = some (some z)) (hf : FRel m nt F ac) (hw : WRel m S w)
    (hx : F.ev x = some (.raw (.map (some g)))) (hi : F.ev ix = some (.raw (kv k))) (hS : S[i]? = some (.map g (kmap kv l))) :
    ∃ u, (match kget l k with | some v => Rep m v u | none => u = z) ∧ (execOp ac.eval ⟨d, .lookup t x ix ok, ty, pos, af, gd⟩).run P w = .ok (.value (if ok then .tuple #[u, .bool (kget l k).isSome] else u)) w := by
  have hxv : ac.eval x = .map (some g) := hf.ev hx
  have hiv : ac.eval ix = kv k := hf.ev hi
  obtain ⟨⟨ents, clock, hh, hr⟩, _⟩ := own_map hw hS
  obtain ⟨kind, h1, h2, h3, h4⟩ := hkt.all
  have hzv : (zeroValue et).run P w = .ok z w := by
    cases hq : P.info? et with
    | none => simp [hq] at hz
    | some i => have hzz : i.zero = some z := by simpa [hq] using hz
                simp [zeroValue, typeInfo, hq, hzz]
  have hget : (getObj g).run P w = .ok (.map ents clock) w := by simp [getObj, Sem.run, hh]
  rcases findNow_kget h2 k 0 hr with ⟨g1, g2, g3⟩ | ⟨v, j, e, g1, g2, g3, g4, g5, g6⟩
  · refine ⟨z, by rw [g1], ?_⟩
    have hfk : (Instr.findKey kt (kv k) ents.toList).run P w = .ok none w := by
      simp [Instr.findKey, run_underlying h1 w, g2]
    rw [g1]
    simp only [execOp, Instr.lookup, hxv, hiv, Sem.run_bind, run_underlying ht w, Result.andThen_ok, hget, Sem.run_pure, h3, hfk, hzv]
    cases ok <;> rfl
  · refine ⟨e.val, by rw [g1]; exact g5, ?_⟩
    have hfk : (Instr.findKey kt (kv k) ents.toList).run P w = .ok (some (0 + j, e.val)) w := by
      simp [Instr.findKey, run_underlying h1 w, g2]
    rw [g1]
    simp only [execOp, Instr.lookup, hxv, hiv, Sem.run_bind, run_underlying ht w, Result.andThen_ok, hget, Sem.run_pure, h3, hfk, hzv]
    cases ok <;> rfl
theorem V_lookupOk {t et : TypeId} {x ix : Operand} {g : Nat} (i : Nat) {k : κ} {l : List (κ × V)} {z : Value} {v : V} (ht : P.underlying t = some (.map kt et)) (hkt : KeyTy P kt kv) (hz : (P.info? et).map (·.zero) = some (some z))
  (hx : F.ev x = some (.raw (.map (some g)))) (hi : F.ev ix = some (.raw (kv k))) (hS : S[i]? = some (.map g (kmap kv l))) (hg : kget l k = some v) (hk : K (some (.tup [v, .bool true])) S) : VOp P nt ⟨d, .lookup t x ix true, ty, pos, af, gd⟩ F S K := by
 refine VOp_pure _ (fun m w ac hf hw => ?_) hk
 obtain ⟨u, hu, hrun⟩ := lookup_run (d := d) (ty := ty) (pos := pos) (af := af) (gd := gd) (ok := true) ht hkt hz hf hw hx hi hS
 rw [hg] at hu hrun
 exact ⟨_, hrun, _, rfl, u, _, rfl, hu, _, _, rfl, rfl, rfl⟩
theorem V_lookupNo {t et : TypeId} {x ix : Operand} {g : Nat} (i : Nat) {k : κ} {l : List (κ × V)} {z : Value} (zv : V) (hzv : ∀ m, Rep m zv z) (ht : P.underlying t = some (.map kt et)) (hkt : KeyTy P kt kv) (hz : (P.info? et).map (·.zero) = some (some z))
  (hx : F.ev x = some (.raw (.map (some g)))) (hi : F.ev ix = some (.raw (kv k))) (hS : S[i]? = some (.map g (kmap kv l))) (hg : kget l k = none) (hk : K (some (.tup [zv, .bool false])) S) : VOp P nt ⟨d, .lookup t x ix true, ty, pos, af, gd⟩ F S K := by
 refine VOp_pure _ (fun m w ac hf hw => ?_) hk
 obtain ⟨u, hu, hrun⟩ := lookup_run (d := d) (ty := ty) (pos := pos) (af := af) (gd := gd) (ok := true) ht hkt hz hf hw hx hi hS
 rw [hg] at hu hrun
 have hu' : u = z := hu
 subst hu'
 exact ⟨_, hrun, _, rfl, u, _, rfl, hzv m, _, _, rfl, rfl, rfl⟩
theorem V_lookup1 {t et : TypeId} {x ix : Operand} {g : Nat} (i : Nat) {k : κ} {l : List (κ × V)} {z : Value} {v : V} (ht : P.underlying t = some (.map kt et)) (hkt : KeyTy P kt kv) (hz : (P.info? et).map (·.zero) = some (some z))
  (hx : F.ev x = some (.raw (.map (some g)))) (hi : F.ev ix = some (.raw (kv k))) (hS : S[i]? = some (.map g (kmap kv l))) (hg : kget l k = some v) (hk : K (some v) S) : VOp P nt ⟨d, .lookup t x ix false, ty, pos, af, gd⟩ F S K := by
 refine VOp_pure _ (fun m w ac hf hw => ?_) hk
 obtain ⟨u, hu, hrun⟩ := lookup_run (d := d) (ty := ty) (pos := pos) (af := af) (gd := gd) (ok := false) ht hkt hz hf hw hx hi hS
 rw [hg] at hu
 exact ⟨_, hrun, hu⟩
theorem V_lookup0 {t et : TypeId} {x ix : Operand} {g : Nat} (i : Nat) {k : κ} {l : List (κ × V)} {z : Value} (zv : V) (hzv : ∀ m, Rep m zv z) (ht : P.underlying t = some (.map kt et)) (hkt : KeyTy P kt kv) (hz : (P.info? et).map (·.zero) = some (some z))
  (hx : F.ev x = some (.raw (.map (some g)))) (hi : F.ev ix = some (.raw (kv k))) (hS : S[i]? = some (.map g (kmap kv l))) (hg : kget l k = none) (hk : K (some zv) S) : VOp P nt ⟨d, .lookup t x ix false, ty, pos, af, gd⟩ F S K := by
 refine VOp_pure _ (fun m w ac hf hw => ?_) hk
 obtain ⟨u, hu, hrun⟩ := lookup_run (d := d) (ty := ty) (pos := pos) (af := af) (gd := gd) (ok := false) ht hkt hz hf hw hx hi hS
 rw [hg] at hu
 have hu' : u = z := hu
 subst hu'
 exact ⟨_, hrun, hzv m⟩
theorem V_mapUpdate {t et : TypeId} {x ix y : Operand} {g : Nat} (i : Nat) {k : κ} {l : List (κ × V)} {v : V} (ht : P.underlying t = some (.map kt et)) (hkt : KeyTy P kt kv)
  (hx : F.ev x = some (.raw (.map (some g)))) (hi : F.ev ix = some (.raw (kv k))) (hy : F.ev y = some v) (hS : S[i]? = some (.map g (kmap kv l))) (hk : K none (S.set i (.map g (kmap kv (kput l k v))))) : VOp P nt ⟨d, .mapUpdate t x ix y, ty, pos, af, gd⟩ F S K := by
 intro m w ac KK QQ hf hw hK
 have hxv : ac.eval x = .map (some g) := hf.ev hx
 have hiv : ac.eval ix = kv k := hf.ev hi
 have hyr := hf.ev hy
 obtain ⟨⟨ents, clock, hh, hr⟩, hm⟩ := own_map hw hS
 obtain ⟨kind, h1, h2, h3, h4⟩ := hkt.all
 have hget : (getObj g).run P w = .ok (.map ents clock) w := by simp [getObj, Sem.run, hh]
 have hset : ∀ o, (setObj g o).run P w = .ok () { w with heap := w.heap.setIfInBounds g o } := fun o => by simp [setObj, Sem.run, hh]
 have hgl : g < w.heap.size := (Array.getElem?_eq_some_iff.1 hh).1
 have key : ∀ (ents' : Array MapEntry) (clock' : Nat), (execOp ac.eval ⟨d, .mapUpdate t x ix y, ty, pos, af, gd⟩).run P w = .ok .skip { w with heap := w.heap.setIfInBounds g (.map ents' clock') } → RepMap m (kmap kv (kput l k v)) ents'.toList →
   Oper.wp P ⟨d, .mapUpdate t x ix y, ty, pos, af, gd⟩ ac w KK QQ := fun ents' clock' hrun hrep => by
  unfold Oper.wp
  rw [hrun]
  refine hK none _ m _ undef hk trivial (Step.update hw hS rfl rfl rfl rfl rfl (by simp) (fun b hb => ?_) (Sub.refl m) (fun b o v _ h => h) (fun o v h => by rw [hm o] at h; cases h) ⟨⟨ents', clock', ?_, hrep⟩, hm⟩)
  ·simp [Array.getElem?_setIfInBounds_ne (Ne.symm hb)]
  ·simp [hgl]
 rcases findNow_kget h2 k 0 hr with ⟨g1, g2, g3⟩ | ⟨v0, j, e, g1, g2, g3, g4, g5, g6⟩
 ·have hfk : (Instr.findKey kt (kv k) ents.toList).run P w = .ok none w := by
   simp [Instr.findKey, run_underlying h1 w, g2]
  refine key (ents.push { key := kv k, val := ac.eval y, born := clock }) (clock + 1) ?_ ?_
  ·simp only [execOp, Instr.mapUpdate, hxv, hiv, Sem.run_bind, run_underlying ht w, Result.andThen_ok, hget, h3, hfk, hset, Sem.run_pure]
  ·rw [Array.toList_push]
   exact g3 v { key := kv k, val := ac.eval y, born := clock } rfl hyr
 ·have hfk : (Instr.findKey kt (kv k) ents.toList).run P w = .ok (some (0 + j, e.val)) w := by
   simp [Instr.findKey, run_underlying h1 w, g2]
  have hej : ents[0 + j]? = some e := by rw [Nat.zero_add]; simpa using g3
  have hkts : (Instr.keyThatStays (((ents[0 + j]?).map (·.key)).getD (kv k)) (kv k)).run P w = .ok (kv k) w := by
   rw [hej]
   simp [Instr.keyThatStays, g4, h4]
  refine key (ents.modify (0 + j) fun e => { e with key := kv k, val := ac.eval y }) clock ?_ ?_
  ·simp only [execOp, Instr.mapUpdate, hxv, hiv, Sem.run_bind, run_underlying ht w, Result.andThen_ok, hget, h3, hfk, hkts, hset, Sem.run_pure]
  ·have : (ents.modify (0 + j) fun e => { e with key := kv k, val := ac.eval y }).toList = ents.toList.set j { e with key := kv k, val := ac.eval y } := by
    rw [Nat.zero_add, Array.toList_modify]
    apply List.ext_getElem?
    intro q
    rw [List.getElem?_modify, List.getElem?_set]
    by_cases hq : j = q
    ·subst hq
     have hjl := (List.getElem?_eq_some_iff.1 g3).1
     rw [g3, if_pos rfl, if_pos hjl]
     simp
    ·rw [if_neg hq]
     simp [hq]
   rw [this]
   exact g6 v _ rfl hyr
end
abbrev kint (n : Int) : Value := .int .i64 n
theorem key_int {P : Program} {t : TypeId} (h : P.underlying t = some (.int .i64)) : KeyTy P t kint := by
 refine ⟨.int .i64, h, fun a b => ?_, fun e a w => ?_, fun a => by simp [Instr.sameBits]⟩
 ·simp only [Instr.sameNow, if_true, Option.some.injEq]
  by_cases hab : a = b
  ·subst hab; simp
  ·simp [hab]
 ·rw [show (10000 : Nat) = 9999 + 1 from rfl, Instr.checkKey]
  simp [run_underlying h w]
def Mem.frozen (m : Mem) (g : Nat) (cs : List Value) : Mem := fun b o => if b = g then cs[o]? else m b o
section
variable {P : Program} {nt : Nat} {F : Fr} {S : Store} {Q : Exit → Fr → Store → Prop} {K : Option V → Store → Prop}
variable {d : Option Tmp} {ty : TypeId} {pos : String} {af : Array Edge} {gd : Option (Nat × Bool)}
theorem repL_flat_repF {m : Mem} {sz : Nat} : ∀ {xs : List V} {cs : List Value}, RepL m (xs.flatMap V.leaves) cs → (∀ x ∈ xs, x.fits sz = true ∧ ((∃ ls, x = .agg ls) ∨ x.leaf = true)) → RepF m sz xs cs
 | [], cs, h, _ => h
 | x :: xs, cs, h, hx => by
  obtain ⟨hf, hor⟩ := hx x (List.mem_cons_self ..)
  simp only [V.fits, Bool.and_eq_true] at hf
  have hlen : x.leaves.length = sz := Nat.eq_of_beq_eq_true hf.2
  rw [List.flatMap_cons] at h
  have h1 := h.take x.leaves.length
  have h2 := h.drop x.leaves.length
  rw [List.take_left' rfl] at h1
  rw [List.drop_left' rfl] at h2
  have hone := h1.oneCells hf.1
  have hl1 := h1.length
  have hcs : cs = cs.take x.leaves.length ++ cs.drop x.leaves.length := (List.take_append_drop _ _).symm
  rcases hor with ⟨ls, rfl⟩ | hleaf
  ·refine ⟨.agg (cs.take (V.agg ls).leaves.length).toArray, cs.drop (V.agg ls).leaves.length, ?_, ⟨hf.1, _, rfl, h1⟩, ?_, ?_, repL_flat_repF h2 fun y hy => hx y (Ya _ hy)⟩
   ·simp only [Value.cells]
    exact hcs
   ·show (cs.take (V.agg ls).leaves.length).toArray.size = sz
    rw [List.size_toArray, hl1, hlen]
   ·simpa [Value.cells] using hone
  ·have hle : x.leaves = [x] := by cases x <;> first | rfl | (simp [V.leaf] at hleaf)
   rw [hle] at h1 hcs hl1 hone h2
   obtain ⟨u, us, he, hr, hn⟩ := h1
   have hn' : us = [] := hn
   subst hn'
   rw [he] at hcs hone
   have h1c := hr.oneCell hleaf
   refine ⟨u, cs.drop [x].length, ?_, hr, ?_, ?_, repL_flat_repF h2 fun y hy => hx y (Ya _ hy)⟩
   ·rw [cells_oneCell h1c]; exact hcs
   ·rw [cells_oneCell h1c, ← hlen, hle]; rfl
   ·rw [cells_oneCell h1c]; exact hone
theorem VW_freeze (i : Nat) {q g n cap sz : Nat} {T : TypeId} {ls rest : List V} (xs : List V) {c : Code} (hq : F.get q = some (.raw (.slice (some ⟨g, 0, none⟩) n cap))) (hS : S[i]? = some (.cells g T ls)) (hls : ls = xs.flatMap V.leaves ++ rest) (hn : xs.length = n) (hcap : n ≤ cap) (hm : cap ≤ maxLen)
  (hx : ∀ x ∈ xs, x.fits sz = true ∧ ((∃ ls, x = .agg ls) ∨ x.leaf = true)) (h : VW P nt c Q ((q, some (.sl sz none xs)) :: F) (S.eraseIdx i)) : VW P nt c Q F S := by
 intro m w a QQ hf hw hK
 obtain ⟨hall, ⟨cs, hh, hr⟩, hnone⟩ := own_cells hw hS
 have hw2 := hw.perm (perm_erase hS)
 have hsub : Sub m (m.frozen g cs.toList) := fun b o v hv => by
  unfold Mem.frozen
  by_cases hb : b = g
  ·subst hb; rw [hnone o] at hv; cases hv
  ·rw [if_neg hb]; exact hv
 have hst : Step m S w (m.frozen g cs.toList) (S.eraseIdx i) w := by
  have hnd := hw2.nodup
  have hdom : dom (Own.cells g T ls :: S.eraseIdx i) = g :: dom (S.eraseIdx i) := rfl
  rw [hdom] at hnd
  have hgS : g ∈ dom S := List.mem_filterMap.2 ⟨_, List.mem_of_getElem? hS, rfl⟩
  refine ⟨⟨fun b o v hv => ?_, (List.nodup_cons.1 hnd).2, fun e he => ?_⟩, rfl, rfl, rfl, Nat.le_refl _, fun _ _ _ => rfl, hsub, fun b o v hv => ?_, fun b hb => .inl ?_⟩
  ·unfold Mem.frozen at hv
   by_cases hb : b = g
   ·subst hb
    rw [if_pos rfl] at hv
    exact cell_at hh hv
   ·rw [if_neg hb] at hv
    exact hw.agree b o v hv
  ·refine Own.holds_kept (hw2.holds e (Ya _ he)) hsub (fun _ _ => rfl) fun g' hg' o v hv => ?_
   have hne : g' ≠ g := fun h => (List.nodup_cons.1 hnd).1 (by rw [← h]; exact List.mem_filterMap.2 ⟨e, he, hg'⟩)
   unfold Mem.frozen at hv
   rwa [if_neg hne] at hv
  ·unfold Mem.frozen at hv
   by_cases hb : b = g
   ·exact .inr (.inl (hb ▸ hgS))
   ·rw [if_neg hb] at hv
    exact .inl hv
  ·have : b ∈ dom (Own.cells g T ls :: S.eraseIdx i) := Ya _ hb
   exact (dom_perm (perm_erase hS)).mem_iff.2 this
 have hrep : Rep (m.frozen g cs.toList) (.sl sz none xs) (a.tmps.getD q undef) := by
  have hv : a.tmps.getD q undef = .slice (some ⟨g, 0, none⟩) n cap := hf.get q _ hq
  rw [hls] at hr
  have h1 := hr.take (xs.flatMap V.leaves).length
  rw [List.take_left' rfl] at h1
  have hF := (repL_flat_repF h1 hx).mono hsub
  refine ⟨_, cap, by rw [hv, hn], by rw [hn]; exact hcap, hm, trivial, .inr ⟨g, 0, rfl, hF.els fun j u hu => ?_⟩⟩
  unfold Mem.frozen
  rw [if_pos rfl, Nat.zero_add]
  rw [List.getElem?_take] at hu
  split at hu
  ·exact hu
  ·cases hu
 refine h _ w a QQ ⟨hf.defers, hf.size, fun j v hv => ?_⟩ hst.rel fun e F' S' m' w' a' k hf' st => hK e F' S' m' w' a' k hf' (hst.trans st)
 simp only [Fr.get] at hv
 cases hb : Nat.beq j q with
 | true =>
  rw [hb, cond_true] at hv
  injection hv with hv
  subst hv
  rw [Nat.eq_of_beq_eq_true hb]
  exact hrep
 | false =>
  rw [hb, cond_false] at hv
  exact Rep.mono hsub _ _ (hf.get j v hv)
end
end Go.VL
namespace Go.VL
section
variable {P : Program} {nt : Nat} {F : Fr} {S : Store} {K : Option V → Store → Prop} {G : Type} {ops : List Oper} {F0 : Fr} {ps : List DP} {un : List Nat} {St : Nat → List G → Store} {acc : List (DRes G)} {i : Nat} {o : Oper} {R : DRes G}
theorem evs_nil : evs F [] = some [] := rfl
theorem evs_cons {x : Operand} {xs : List Operand} {v : V} {vs : List V} (h : F.ev x = some v) (t : evs F xs = some vs) : evs F (x :: xs) = some (v :: vs) := by
 simp only [evs, h, t]
theorem vopT (hw : wantOf ops F o = some true) (h : VOp P nt o F S K) : VOpG ops P nt o F S K := ⟨true, .inl hw, (fun _ => h), fun h => by cases h⟩
theorem vopF (hw : wantOf ops F o = some false) (h : K (some (.raw undef)) S) : VOpG ops P nt o F S K := ⟨false, .inl hw, (fun h => by cases h), fun _ => h⟩
theorem vopU {j : Nat} {want : Bool} {q : Tmp} (h1 : o.guard = some (j, want)) (h2 : (ops[j]?).bind (·.dst) = some q) (h3 : F.get q = some (.raw undef)) (h : K (some (.raw undef)) S) : VOpG ops P nt o F S K := ⟨false, .inr ⟨rfl, j, want, q, h1, h2, h3⟩, (fun h => by cases h), fun _ => h⟩
theorem epE {C : Prop} {r : Option V} {el : V} (h : ∃ a, r = some (.ep a el)) (k : ∀ a, r = some (.ep a el) → C) : C := by
 obtain ⟨a, h⟩ := h
 exact k a h
def constSt (S : Store) : Nat → List G → Store := fun _ _ => S
def oneSt (A : Store) (B : G → Store) : Nat → List G → Store
 | 0, _ => A
 | _ + 1, [x] => B x
 | _ + 1, _ => []
def twoSt (A : Store) (B : G → Store) (C : G → G → Store) : Nat → List G → Store
 | 0, _ => A
 | 1, [x] => B x
 | 2, [x, y] => C x y
 | _, _ => []
theorem DrawP_cons {rest : List Oper} {k : List (DRes G) → Prop} (R : DRes G) (h : OpGood ops F0 ps un St P nt i o acc R) (t : DrawP ops F0 ps un St P nt (i + 1) rest (acc ++ [R]) k) : DrawP ops F0 ps un St P nt i (o :: rest) acc k := ⟨R, h, t⟩
theorem DrawP_nil {k : List (DRes G) → Prop} (h : k acc) : DrawP ops F0 ps un St P nt i [] acc k := h
theorem good0 (h : ∀ γ : Nat → G, Needs ops F0 ps acc γ (dpAt ps i).1 (dpAt ps i).2.1 fun F => VOpG ops P nt o F S fun r S' => R ((dpAt ps i).2.2.map γ) r ∧ S' = S) : OpGood ops F0 ps [] (constSt S) P nt i o acc R :=
 ⟨h, trivial⟩
theorem goodS {l : List Nat} (hu : isUn un i 0 = none) (hs : stagesOf ps un i = l) (h : AllJ l fun j => ∀ γ : Nat → G, Needs ops F0 ps acc γ (dpAt ps i).1 (dpAt ps i).2.1 fun F => VOpG ops P nt o F (St j ((Yb j).map γ)) fun r S' => R ((dpAt ps i).2.2.map γ) r ∧ S' = St j ((Yb j).map γ)) :
  OpGood ops F0 ps un St P nt i o acc R := by
 unfold OpGood
 rw [hu]
 subst hs
 exact h
theorem goodU (q : Nat) (hu : isUn un i 0 = some q) (h : ∀ γ : Nat → G, Needs ops F0 ps acc γ (dpAt ps i).1 (dpAt ps i).2.1 fun F => VOpG ops P nt o F (St q ((Yb q).map γ)) fun r S' => ∃ x, R ((dpAt ps i).2.2.map (upd γ q x)) r ∧ S' = St (q + 1) ((Yb q).map γ ++ [x])) :
  OpGood ops F0 ps un St P nt i o acc R := by
 unfold OpGood
 rw [hu]
 exact h
end
end Go.VL
namespace Go.VL
section
variable {P : Program} {nt : Nat} {F : Fr} {S : Store}
theorem VCalls_drops {f : FuncId} {args : List V} {R : V → Store → Prop} (h : VCalls P f args S fun r S' => ∃ T, Drops S' T ∧ R r T) : VCalls P f args S R :=
 fun m w us ha hw => (h m w us ha hw).mono fun e w' ⟨r, S', m', u, ⟨T, hd, hR⟩, he, hr, st⟩ => ⟨r, T, m', u, hR, he, hr, st.trans (hd.step st.rel)⟩
end
end Go.VL
