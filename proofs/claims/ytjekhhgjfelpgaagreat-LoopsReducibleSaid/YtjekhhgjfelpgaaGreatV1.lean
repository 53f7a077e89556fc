import Derived.WalkKit
import Derived.KernelRfl
import Derived.Orders
import Derived.Deep.MidRow
set_option linter.all false
open List renaming mem_append_left → Ya, nodup_append → Yb, mem_append_right → Yc
open Nat renaming beq → Yd, eq_of_beq_eq_true → Ye
namespace Go.VL
inductive Tok where
 | nil
 | zero
 | «at» (g cap : Nat)
 | pin (a : Addr)
inductive V where
 | raw (v : Value)
 | sl (sz : Nat) (tok : Option Tok) (xs : List V)
 | ep (a : Addr) (x : V)
 | clo (fn : Fn) (caps : List V)
 | agg (ls : List V)
 | tup (vs : List V)
instance : Inhabited V := ⟨.raw (.tuple #[])⟩
abbrev V.int (n : Int) : V := .raw (.int .i64 n)
abbrev V.bool (b : Bool) : V := .raw (.bool b)
abbrev V.ptr (g o : Nat) : V := .raw (.pointer (some ⟨g, o, none⟩))
abbrev V.nilSl : V := .raw (.slice none 0 0)
def V.leaf : V → Bool
 | .raw v => v.oneCell'
 | .agg _ | .tup _ => false
 | _ => true
abbrev Mem := Nat → Nat → Option Value
def At (m : Mem) (b off : Nat) (cs : List Value) : Prop := ∀ j u, cs[j]? = some u → m b (off + j) = some u
def tokOk : Option Tok → Option Addr → Nat → Prop
 | none, _, _ => True
 | some .nil, A, cap => A = none ∧ cap = 0
 | some .zero, A, cap => cap = 0
 | some (.pin a), A, cap => ∀ a', A = some a' → a' = a
 | some (.at g c), A, cap => A = some ⟨g, 0, none⟩ ∧ cap = c
mutual
def Rep (m : Mem) : V → Value → Prop
 | .raw v, u => u = v
 | .sl sz tok xs, u => ∃ A cap, u = .slice A xs.length cap ∧ xs.length ≤ cap ∧ cap ≤ maxLen ∧ tokOk tok A cap ∧ (xs = [] ∨ ∃ b off, A = some ⟨b, off, none⟩ ∧ RepEls m sz b off xs)
 | .ep a x, u => u = .pointer (some a) ∧ a.spot = none ∧ ∃ v, Rep m x v ∧ At m a.block a.off v.cells.toList
 | .clo fn caps, u => ∃ us, u = .func fn #[] us ∧ RepL m caps us.toList
 | .agg ls, u => ls.all V.leaf = true ∧ ∃ cs, u = .agg cs ∧ RepL m ls cs.toList
 | .tup vs, u => ∃ us, u = .tuple us ∧ RepL m vs us.toList
def RepL (m : Mem) : List V → List Value → Prop
 | [], us => us = []
 | v :: vs, us => ∃ u us', us = u :: us' ∧ Rep m v u ∧ RepL m vs us'
def RepEls (m : Mem) (sz b : Nat) : Nat → List V → Prop
 | _, [] => True
 | off, x :: xs => (∃ u, Rep m x u ∧ u.cells.size = sz ∧ (∀ c ∈ u.cells.toList, c.oneCell' = true) ∧ At m b off u.cells.toList) ∧ RepEls m sz b (off + sz) xs
end
def Sub (m m' : Mem) : Prop := ∀ b o v, m b o = some v → m' b o = some v
theorem Sub.refl (m : Mem) : Sub m m := fun _ _ _ h => h
theorem Sub.trans {a b c : Mem} (h : Sub a b) (k : Sub b c) : Sub a c := fun _ _ _ x => k _ _ _ (h _ _ _ x)
theorem At.mono {m m' : Mem} (h : Sub m m') {b off : Nat} {cs : List Value} (k : At m b off cs) : At m' b off cs := fun j u hu => h _ _ _ (k j u hu)
mutual
theorem Rep.mono {m m' : Mem} (h : Sub m m') : ∀ (v : V) (u : Value), Rep m v u → Rep m' v u
 | .raw v, u, k => k
 | .sl sz tok xs, u, ⟨A, cap, e, l, hm, t, r⟩ => ⟨A, cap, e, l, hm, t, r.imp id fun ⟨b, off, ea, re⟩ => ⟨b, off, ea, RepEls.mono h off xs re⟩⟩
 | .ep a x, u, ⟨e, s, v, r, t⟩ => ⟨e, s, v, Rep.mono h x v r, t.mono h⟩
 | .clo fn caps, u, ⟨us, e, r⟩ => ⟨us, e, RepL.mono h caps _ r⟩
 | .agg ls, u, ⟨l, cs, e, r⟩ => ⟨l, cs, e, RepL.mono h ls _ r⟩
 | .tup vs, u, ⟨us, e, r⟩ => ⟨us, e, RepL.mono h vs _ r⟩
theorem RepL.mono {m m' : Mem} (h : Sub m m') : ∀ (vs : List V) (us : List Value), RepL m vs us → RepL m' vs us
 | [], us, k => k
 | v :: vs, us, ⟨u, us', e, r, k⟩ => ⟨u, us', e, Rep.mono h v u r, RepL.mono h vs us' k⟩
theorem RepEls.mono {m m' : Mem} (h : Sub m m') {sz b : Nat} : ∀ (off : Nat) (xs : List V), RepEls m sz b off xs → RepEls m' sz b off xs
 | _, [], k => trivial
 | off, x :: xs, ⟨⟨u, r, l, o, t⟩, k⟩ => ⟨⟨u, Rep.mono h x u r, l, o, t.mono h⟩, RepEls.mono h (off + sz) xs k⟩
end
theorem RepL.length {m : Mem} : ∀ {vs : List V} {us : List Value}, RepL m vs us → us.length = vs.length
 | [], us, h => by simp [show us = [] from h]
 | v :: vs, us, ⟨u, us', e, _, k⟩ => by simp [e, RepL.length k]
theorem RepL.cons {m : Mem} {v : V} {vs : List V} {u : Value} {us : List Value} (h : Rep m v u) (k : RepL m vs us) : RepL m (v :: vs) (u :: us) := ⟨u, us, rfl, h, k⟩
theorem RepL.get {m : Mem} : ∀ {vs : List V} {us : List Value}, RepL m vs us → ∀ {i : Nat} {v : V}, vs[i]? = some v → ∃ u, us[i]? = some u ∧ Rep m v u
 | [], us, h, i, v, e => by simp at e
 | v :: vs, us, ⟨u, us', he, r, k⟩, 0, x, e => by
  simp at e
  subst e
  exact ⟨u, by simp [he], r⟩
 | v :: vs, us, ⟨u, us', he, r, k⟩, i + 1, x, e => by
  simp at e
  obtain ⟨u', h1, h2⟩ := RepL.get k e
  exact ⟨u', by simp [he, h1], h2⟩
theorem RepL.append {m : Mem} : ∀ {vs ws : List V} {us us' : List Value}, RepL m vs us → RepL m ws us' → RepL m (vs ++ ws) (us ++ us')
 | [], ws, us, us', h, k => by rw [show us = [] from h]; exact k
 | v :: vs, ws, us, us', ⟨u, us1, e, r, h⟩, k => ⟨u, us1 ++ us', by simp [e], r, RepL.append h k⟩
theorem RepL.take {m : Mem} : ∀ {vs : List V} {us : List Value} (n : Nat), RepL m vs us → RepL m (vs.take n) (us.take n)
 | vs, us, 0, _ => by simp [RepL]
 | [], us, n + 1, h => by rw [show us = [] from h]; simp [RepL]
 | v :: vs, us, n + 1, ⟨u, us', e, r, k⟩ => by subst e; exact ⟨u, us'.take n, by simp, r, RepL.take n k⟩
theorem RepL.drop {m : Mem} : ∀ {vs : List V} {us : List Value} (n : Nat), RepL m vs us → RepL m (vs.drop n) (us.drop n)
 | vs, us, 0, h => by simpa using h
 | [], us, n + 1, h => by rw [show us = [] from h]; simp [RepL]
 | v :: vs, us, n + 1, ⟨u, us', e, r, k⟩ => by subst e; simpa using RepL.drop n k
theorem RepL.set {m : Mem} : ∀ {vs : List V} {us : List Value} (n : Nat) {v : V} {u : Value}, RepL m vs us → Rep m v u → RepL m (vs.set n v) (us.set n u)
 | [], us, n, v, u, h, _ => by rw [show us = [] from h]; simp [RepL]
 | x :: vs, us, 0, v, u, ⟨y, us', e, r, k⟩, h => by subst e; exact ⟨u, us', by simp, h, k⟩
 | x :: vs, us, n + 1, v, u, ⟨y, us', e, r, k⟩, h => by subst e; exact ⟨y, us'.set n u, by simp, r, RepL.set n k h⟩
theorem Rep.oneCell {m : Mem} {v : V} {u : Value} (h : Rep m v u) (hl : v.leaf = true) : u.oneCell' = true := by
 cases v with
 | raw v => rw [show u = v from h]; exact hl
 | sl sz tok xs => obtain ⟨A, cap, rfl, _⟩ := h; rfl
 | ep a x => obtain ⟨rfl, _⟩ := h; rfl
 | clo fn caps => obtain ⟨us, rfl, _⟩ := h; rfl
 | agg ls => simp [V.leaf] at hl
 | tup vs => simp [V.leaf] at hl
theorem cells_oneCell {u : Value} (h : u.oneCell' = true) : u.cells = #[u] := by
 cases u <;> first | rfl | (simp [Value.oneCell'] at h)
theorem RepL.oneCells {m : Mem} : ∀ {vs : List V} {us : List Value}, RepL m vs us → vs.all V.leaf = true → ∀ c ∈ us, c.oneCell' = true
 | [], us, h, _, c, hc => by rw [show us = [] from h] at hc; cases hc
 | v :: vs, us, ⟨u, us', e, r, k⟩, hl, c, hc => by
  subst e
  simp only [List.all_cons, Bool.and_eq_true] at hl
  rcases List.mem_cons.1 hc with rfl | hc
  ·exact r.oneCell hl.1
  ·exact RepL.oneCells k hl.2 c hc
def V.leaves : V → List V
 | .agg ls => ls
 | v => [v]
def V.flat (v : V) : Bool := v.leaves.all V.leaf
theorem Rep.cells {m : Mem} {v : V} {u : Value} (h : Rep m v u) (hf : v.flat = true) : RepL m v.leaves u.cells.toList ∧ ∀ c ∈ u.cells.toList, c.oneCell' = true := by
 have key : v.leaf = true → v.leaves = [v] → RepL m v.leaves u.cells.toList ∧ ∀ c ∈ u.cells.toList, c.oneCell' = true := fun hl he => by
  have h1 := h.oneCell hl
  rw [he, cells_oneCell h1]
  exact ⟨⟨u, [], rfl, h, rfl⟩, by simpa using h1⟩
 cases v with
 | agg ls =>
  obtain ⟨hl, cs, rfl, hr⟩ := h
  exact ⟨hr, hr.oneCells hl⟩
 | raw v => exact key (by simpa [V.flat, V.leaves] using hf) rfl
 | sl sz tok xs => exact key rfl rfl
 | ep a x => exact key rfl rfl
 | clo fn caps => exact key rfl rfl
 | tup vs => simp [V.flat, V.leaves, V.leaf] at hf
inductive Own where
 | cells (g : Nat) (T : TypeId) (ls : List V)
 | buf (t : Tok) (T : TypeId) (sz n : Nat)
 | map (g : Nat) (es : List (Value × V))
abbrev Store := List Own
def Own.dom : Own → Option Nat
 | .cells g _ _ => some g
 | .buf .nil _ _ _ => none
 | .buf .zero _ _ _ => none
 | .buf (.pin _) _ _ _ => none
 | .buf (.at g _) _ _ _ => some g
 | .map g _ => some g
def dom (S : Store) : List Nat := S.filterMap Own.dom
theorem dom_append (S T : Store) : dom (S ++ T) = dom S ++ dom T := List.filterMap_append ..
theorem dom_perm {S T : Store} (h : S.Perm T) : (dom S).Perm (dom T) := h.filterMap _
def RepMap (m : Mem) : List (Value × V) → List MapEntry → Prop
 | [], es => es = []
 | (k, v) :: xs, es => ∃ e es', es = e :: es' ∧ e.key = k ∧ Rep m v e.val ∧ RepMap m xs es'
theorem RepMap.mono {m m' : Mem} (h : Sub m m') : ∀ {xs : List (Value × V)} {es : List MapEntry}, RepMap m xs es → RepMap m' xs es
 | [], es, k => k
 | (k, v) :: xs, es, ⟨e, es', he, hk, hr, ht⟩ => ⟨e, es', he, hk, Rep.mono h _ _ hr, RepMap.mono h ht⟩
def Own.holds (m : Mem) (w : World) : Own → Prop
 | .cells g T ls => ls.all V.leaf = true ∧ (∃ cs, w.heap[g]? = some (.cells cs T) ∧ RepL m ls cs.toList) ∧ ∀ o, m g o = none
 | .buf .nil _ _ n => n = 0
 | .buf .zero _ _ n => n = 0
 | .buf (.pin _) _ _ _ => False
 | .buf (.at g cap) T sz n => n ≤ cap ∧ (∃ cs, w.heap[g]? = some (.cells cs T) ∧ cs.size = cap * sz) ∧ ∀ o, n * sz ≤ o → m g o = none
 | .map g es => (∃ ents clock, w.heap[g]? = some (.map ents clock) ∧ RepMap m es ents.toList) ∧ ∀ o, m g o = none
structure WRel (m : Mem) (S : Store) (w : World) : Prop where
 agree : ∀ b o v, m b o = some v → w.cell? ⟨b, o, none⟩ = some v
 nodup : (dom S).Nodup
 holds : ∀ e ∈ S, e.holds m w
theorem Own.holds_lt {m : Mem} {w : World} {e : Own} (h : e.holds m w) {g : Nat} (hg : e.dom = some g) : g < w.heap.size := by
 have key : ∀ {o : Obj}, w.heap[g]? = some o → g < w.heap.size := fun h => (Array.getElem?_eq_some_iff.1 h).1
 cases e with
 | cells g' T ls =>
  injection hg with hg
  subst hg
  obtain ⟨_, ⟨cs, hh, _⟩, _⟩ := h
  exact key hh
 | buf t T sz n =>
  cases t with
  | nil => cases hg
  | zero => cases hg
  | pin a => cases hg
  | «at» g' cap =>
   injection hg with hg
   subst hg
   obtain ⟨_, ⟨cs, hh, _⟩, _⟩ := h
   exact key hh
 | map g' es =>
  injection hg with hg
  subst hg
  obtain ⟨⟨en, cl, hh, _⟩, _⟩ := h
  exact key hh
theorem WRel.dom_lt {m : Mem} {S : Store} {w : World} (h : WRel m S w) {g : Nat} (hg : g ∈ dom S) : g < w.heap.size := by
 obtain ⟨e, he, hd⟩ := List.mem_filterMap.1 hg
 exact Own.holds_lt (h.holds e he) hd
theorem WRel.mem_lt {m : Mem} {S : Store} {w : World} (h : WRel m S w) {b o : Nat} {v : Value} (hm : m b o = some v) : b < w.heap.size :=
 World.block_lt_of_cell? w _ (h.agree b o v hm)
theorem WRel.perm {m : Mem} {S T : Store} {w : World} (h : WRel m S w) (p : S.Perm T) : WRel m T w :=
 ⟨h.agree, (dom_perm p).nodup_iff.1 h.nodup, fun e he => h.holds e (p.mem_iff.2 he)⟩
theorem WRel.left {m : Mem} {S T : Store} {w : World} (h : WRel m (S ++ T) w) : WRel m S w :=
 ⟨h.agree, by have := h.nodup; rw [dom_append] at this; exact (Yb.1 this).1, fun e he => h.holds e (Ya _ he)⟩
theorem WRel.tail {m : Mem} {e : Own} {T : Store} {w : World} (h : WRel m (e :: T) w) : WRel m T w := by
 have : WRel m (T ++ [e]) w := h.perm (by simpa using (List.perm_append_singleton e T).symm)
 exact this.left
structure Step (m : Mem) (S : Store) (w : World) (m' : Mem) (S' : Store) (w' : World) : Prop where
 rel : WRel m' S' w'
 os : w'.os = w.os
 tape : w'.tape = w.tape
 output : w'.output = w.output
 size : w.heap.size ≤ w'.heap.size
 heap : ∀ b, b < w.heap.size → b ∉ dom S → w'.heap[b]? = w.heap[b]?
 mono : Sub m m'
 only : ∀ b o v, m' b o = some v → m b o = some v ∨ b ∈ dom S ∨ w.heap.size ≤ b
 domn : ∀ b, b ∈ dom S' → b ∈ dom S ∨ w.heap.size ≤ b
theorem Step.refl {m : Mem} {S : Store} {w : World} (h : WRel m S w) : Step m S w m S w :=
 ⟨h, rfl, rfl, rfl, Nat.le_refl _, fun _ _ _ => rfl, Sub.refl m, fun _ _ _ h => .inl h, fun _ h => .inl h⟩
theorem Step.trans {m m1 m2 : Mem} {S S1 S2 : Store} {w w1 w2 : World} (h : Step m S w m1 S1 w1) (k : Step m1 S1 w1 m2 S2 w2) : Step m S w m2 S2 w2 where
 rel := k.rel
 os := k.os.trans h.os
 tape := k.tape.trans h.tape
 output := k.output.trans h.output
 size := Nat.le_trans h.size k.size
 heap b hb hn := by
  rw [k.heap b (Nat.lt_of_lt_of_le hb h.size) (fun hd => by rcases h.domn b hd with h1 | h1; exact hn h1; omega)]
  exact h.heap b hb hn
 mono := h.mono.trans k.mono
 only b o v hv := by
  rcases k.only b o v hv with h1 | h1 | h1
  ·exact h.only b o v h1
  ·exact .inr (h.domn b h1)
  ·exact .inr (.inr (Nat.le_trans h.size h1))
 domn b hb := by
  rcases k.domn b hb with h1 | h1
  ·exact h.domn b h1
  ·exact .inr (Nat.le_trans h.size h1)
theorem Step.permL {m m1 : Mem} {S T S1 : Store} {w w1 : World} (p : S.Perm T) (h : Step m T w m1 S1 w1) : Step m S w m1 S1 w1 :=
 ⟨h.rel, h.os, h.tape, h.output, h.size, fun b hb hn => h.heap b hb (fun hd => hn ((dom_perm p).mem_iff.2 hd)), h.mono,
  fun b o v hv => (h.only b o v hv).imp id (Or.imp (fun hd => (dom_perm p).mem_iff.2 hd) id), fun b hb => (h.domn b hb).imp (fun hd => (dom_perm p).mem_iff.2 hd) id⟩
theorem Step.permR {m m1 : Mem} {S S1 T1 : Store} {w w1 : World} (p : S1.Perm T1) (h : Step m S w m1 S1 w1) : Step m S w m1 T1 w1 :=
 ⟨h.rel.perm p, h.os, h.tape, h.output, h.size, h.heap, h.mono, h.only, fun b hb => h.domn b ((dom_perm p).mem_iff.2 hb)⟩
theorem Own.holds_kept {m m' : Mem} {w w' : World} {e : Own} (h : e.holds m w) (hm : Sub m m') (hh : ∀ g, e.dom = some g → w'.heap[g]? = w.heap[g]?)
  (ho : ∀ g, e.dom = some g → ∀ o v, m' g o = some v → m g o = some v) : e.holds m' w' := by
 have hnone : ∀ g, e.dom = some g → ∀ o, m g o = none → m' g o = none := fun g hg o h0 => by
  cases h1 : m' g o with
  | none => rfl
  | some v => rw [ho g hg o v h1] at h0; cases h0
 cases e with
 | cells g T ls =>
  obtain ⟨h1, ⟨cs, h2, h3⟩, h4⟩ := h
  exact ⟨h1, ⟨cs, by rw [hh g rfl]; exact h2, RepL.mono hm _ _ h3⟩, fun o => hnone g rfl o (h4 o)⟩
 | buf t T sz n =>
  cases t with
  | nil => exact h
  | zero => exact h
  | pin a => exact h
  | «at» g cap =>
   obtain ⟨h1, ⟨cs, h2, h3⟩, h4⟩ := h
   exact ⟨h1, ⟨cs, by rw [hh g rfl]; exact h2, h3⟩, fun o ho' => hnone g rfl o (h4 o ho')⟩
 | map g es =>
  obtain ⟨⟨en, cl, h2, h3⟩, h4⟩ := h
  exact ⟨⟨en, cl, by rw [hh g rfl]; exact h2, RepMap.mono hm h3⟩, fun o => hnone g rfl o (h4 o)⟩
theorem Step.frame {m m' : Mem} {Sa Sa' Sb : Store} {w w' : World} (hw : WRel m (Sa ++ Sb) w) (h : Step m Sa w m' Sa' w') : Step m (Sa ++ Sb) w m' (Sa' ++ Sb) w' := by
 have hnd := hw.nodup
 rw [dom_append] at hnd
 obtain ⟨_, hb, hab⟩ := Yb.1 hnd
 have hbl : ∀ b ∈ dom Sb, b < w.heap.size := fun b hb => hw.dom_lt (by rw [dom_append]; exact Yc _ hb)
 have hna : ∀ b ∈ dom Sb, b ∉ dom Sa := fun b hb ha => hab b ha b hb rfl
 refine ⟨⟨h.rel.agree, ?_, ?_⟩, h.os, h.tape, h.output, h.size, ?_, h.mono, ?_, ?_⟩
 ·rw [dom_append]
  refine Yb.2 ⟨h.rel.nodup, hb, fun a ha b hb' e => ?_⟩
  subst e
  rcases h.domn a ha with h1 | h1
  ·exact hna a hb' h1
  ·have := hbl a hb'; omega
 ·intro e he
  rcases List.mem_append.1 he with he | he
  ·exact h.rel.holds e he
  ·have hd : ∀ g, e.dom = some g → g ∈ dom Sb := fun g hg => List.mem_filterMap.2 ⟨e, he, hg⟩
   refine Own.holds_kept (hw.holds e (Yc _ he)) h.mono (fun g hg => h.heap g (hbl g (hd g hg)) (hna g (hd g hg))) fun g hg o v hv => ?_
   rcases h.only g o v hv with h1 | h1 | h1
   ·exact h1
   ·exact absurd h1 (hna g (hd g hg))
   ·have := hbl g (hd g hg); omega
 ·intro b hb1 hn
  rw [dom_append] at hn
  exact h.heap b hb1 (fun hd => hn (Ya _ hd))
 ·intro b o v hv
  rw [dom_append]
  exact (h.only b o v hv).imp id (Or.imp (Ya _) id)
 ·intro b hb1
  rw [dom_append] at hb1 ⊢
  rcases List.mem_append.1 hb1 with h1 | h1
  ·exact (h.domn b h1).imp (Ya _) id
  ·exact .inl (Yc _ h1)
abbrev Fr := List (Nat × Option V)
def Fr.get : Fr → Nat → Option V
 | [], _ => none
 | (j, r) :: t, i => bif Yd i j then r else Fr.get t i
def Fr.ev (F : Fr) : Operand → Option V
 | .tmp t => F.get t
 | .const v => some (.raw v)
 | .func f => some (.clo (.func f) [])
 | .global _ => none
def Fr.put (F : Fr) : Option Tmp → Option V → Fr
 | none, _ => F
 | some d, r => (d, r) :: F
def dstOk (nt : Nat) : Option Tmp → Bool
 | none => true
 | some d => Nat.ble (d + 1) nt
structure FRel (m : Mem) (nt : Nat) (F : Fr) (a : Act) : Prop where
 defers : a.defers = []
 size : a.tmps.size = nt
 get : ∀ i v, F.get i = some v → Rep m v (a.tmps.getD i undef)
theorem FRel.mono {m m' : Mem} {nt : Nat} {F : Fr} {a : Act} (h : FRel m nt F a) (k : Sub m m') : FRel m' nt F a :=
 ⟨h.defers, h.size, fun i v hv => Rep.mono k _ _ (h.get i v hv)⟩
theorem FRel.ev {m : Mem} {nt : Nat} {F : Fr} {a : Act} (h : FRel m nt F a) {x : Operand} {v : V} (hx : F.ev x = some v) : Rep m v (a.eval x) := by
 cases x with
 | tmp t => exact h.get t v hx
 | const c => injection hx with hx; subst hx; rfl
 | global g => cases hx
 | func f => injection hx with hx; subst hx; exact ⟨#[], rfl, rfl⟩
def RepO (m : Mem) : Option V → Value → Prop
 | none, _ => True
 | some v, u => Rep m v u
theorem RepO.mono {m m' : Mem} (k : Sub m m') {r : Option V} {u : Value} (h : RepO m r u) : RepO m' r u := by
 cases r with
 | none => trivial
 | some v => exact Rep.mono k _ _ h
theorem FRel.put {m : Mem} {nt : Nat} {F : Fr} {a : Act} (h : FRel m nt F a) {d : Option Tmp} (hd : dstOk nt d = true) {r : Option V} {u : Value} (hr : RepO m r u) : FRel m nt (F.put d r) (a.put d u) := by
 cases d with
 | none => exact h
 | some d =>
  have hlt : d < a.tmps.size := by rw [h.size]; exact Nat.le_of_ble_eq_true (n := d + 1) hd
  refine ⟨h.defers, by simp [Act.put, h.size], fun i v hv => ?_⟩
  simp only [Fr.put, Fr.get] at hv
  by_cases hi : i = d
  ·subst hi
   simp only [Nat.beq_refl, cond_true] at hv
   subst hv
   have hr' : Rep m v u := hr
   simpa [Act.put, hlt] using hr'
  ·have hb : Yd i d = false := by rw [← Bool.not_eq_true, Nat.beq_eq]; exact hi
   simp only [hb, cond_false] at hv
   have := h.get i v hv
   simpa [Act.put, Array.getElem?_setIfInBounds_ne (Ne.symm hi)] using this
def VOp (P : Program) (nt : Nat) (o : Oper) (F : Fr) (S : Store) (K : Option V → Store → Prop) : Prop :=
 ∀ (m : Mem) (w : World) (a : Act) (KK : Act → World → Prop) (QQ : Exit → Act → World → Prop), FRel m nt F a → WRel m S w →
  (∀ r S' m' w' u, K r S' → RepO m' r u → Step m S w m' S' w' → KK (a.put o.dst u) w') → o.wp P a w KK QQ
def wantOf (ops : List Oper) (F : Fr) (o : Oper) : Option Bool :=
 match o.guard with
 | none => some true
 | some (j, want) =>
  match (ops[j]?).bind (·.dst) with
  | none => none
  | some d => match F.get d with
   | some (.raw (.bool b)) => some (b == want)
   | _ => none
def VOps (P : Program) (nt : Nat) (ops : List Oper) (l : List Oper) (F : Fr) (S : Store) (Q : Fr → Store → Prop) : Prop :=
 ∀ (m : Mem) (w : World) (a : Act) (QQ : Exit → Act → World → Prop), FRel m nt F a → WRel m S w →
  (∀ F' S' m' w' a', Q F' S' → FRel m' nt F' a' → Step m S w m' S' w' → QQ .normal a' w') → wpList P ops.toArray QQ l a w
def VW (P : Program) (nt : Nat) (c : Code) (Q : Exit → Fr → Store → Prop) (F : Fr) (S : Store) : Prop :=
 ∀ (m : Mem) (w : World) (a : Act) (QQ : Exit → Act → World → Prop), FRel m nt F a → WRel m S w →
  (∀ e F' S' m' w' a', Q e F' S' → FRel m' nt F' a' → Step m S w m' S' w' → QQ e a' w') → c.wp P QQ a w
structure Enters (P : Program) (f : FuncId) : Prop where
  fn : ∃ fn, P.funcs[f]? = some fn ∧ (fn.name == "runtime.NumGoroutine") = false ∧ fn.body.isNone = false
def VCalls (P : Program) (f : FuncId) (args : List V) (S : Store) (R : V → Store → Prop) : Prop :=
 ∀ (m : Mem) (w : World) (us : List Value), RepL m args us → WRel m S w →
  Calls P f us.toArray w fun e w' => ∃ r S' m' u, R r S' ∧ e = .returned u ∧ Rep m' r u ∧ Step m S w m' S' w'
theorem VOp.mono {P : Program} {nt : Nat} {o : Oper} {F : Fr} {S : Store} {K K' : Option V → Store → Prop} (h : VOp P nt o F S K) (hk : ∀ r S', K r S' → K' r S') : VOp P nt o F S K' :=
 fun m w a KK QQ hf hw hK => h m w a KK QQ hf hw fun r S' m' w' u k => hK r S' m' w' u (hk _ _ k)
theorem VCalls.mono {P : Program} {f : FuncId} {args : List V} {S : Store} {R R' : V → Store → Prop} (h : VCalls P f args S R) (hr : ∀ r S', R r S' → R' r S') : VCalls P f args S R' :=
 fun m w us ha hw => (h m w us ha hw).mono fun e w' ⟨r, S', m', u, k, rest⟩ => ⟨r, S', m', u, hr _ _ k, rest⟩
theorem VW.mono {P : Program} {nt : Nat} {c : Code} {Q Q' : Exit → Fr → Store → Prop} {F : Fr} {S : Store} (h : VW P nt c Q F S) (hq : ∀ e F S, Q e F S → Q' e F S) : VW P nt c Q' F S :=
 fun m w a QQ hf hw hK => h m w a QQ hf hw fun e F' S' m' w' a' k => hK e F' S' m' w' a' (hq _ _ _ k)
def Fr.sub : Fr → Fr → Prop
 | [], _ => True
 | (i, none) :: t, F => F.get i = none ∧ Fr.sub t F
 | (i, some v) :: t, F => F.get i = some v ∧ Fr.sub t F
theorem Fr.sub_get : ∀ {F' F : Fr}, Fr.sub F' F → ∀ {i : Nat} {v : V}, F'.get i = some v → F.get i = some v
 | (j, r) :: t, F, h, i, v, hv => by
  simp only [Fr.get] at hv
  have h2 : Fr.sub t F := by cases r <;> exact h.2
  cases hb : Yd i j with
  | true =>
   rw [hb, cond_true] at hv
   have := Ye hb
   subst this
   subst hv
   exact h.1
  | false =>
   rw [hb, cond_false] at hv
   exact Fr.sub_get h2 hv
theorem FRel.sub {m : Mem} {nt : Nat} {F F' : Fr} {a : Act} (h : FRel m nt F a) (hs : Fr.sub F' F) : FRel m nt F' a :=
 ⟨h.defers, h.size, fun i v hv => h.get i v (Fr.sub_get hs hv)⟩
theorem VW.weaken {P : Program} {nt : Nat} {c : Code} {Q : Exit → Fr → Store → Prop} {F F' : Fr} {S S' : Store} (hs : Fr.sub F' F) (hp : S.Perm S') (h : VW P nt c Q F' S') : VW P nt c Q F S :=
 fun m w a QQ hf hw hK => h m w a QQ (hf.sub hs) (hw.perm hp) fun e F' S' m' w' a' k hf' st => hK e F' S' m' w' a' k hf' (st.permL hp)
theorem Step.drop1 {m : Mem} {e : Own} {S : Store} {w : World} (h : WRel m (e :: S) w) : Step m (e :: S) w m S w :=
 ⟨h.tail, rfl, rfl, rfl, Nat.le_refl _, fun _ _ _ => rfl, Sub.refl m, fun _ _ _ h => .inl h, fun b hb => .inl (by
  unfold dom; rw [List.filterMap_cons]; split
  ·exact hb
  ·exact List.mem_cons_of_mem _ hb)⟩
theorem Step.dropAll {m : Mem} {w : World} : ∀ {S T : Store}, WRel m (S ++ T) w → Step m (S ++ T) w m T w
 | [], T, h => Step.refl h
 | e :: S, T, h => (Step.drop1 (e := e) (S := S ++ T) h).trans (Step.dropAll h.tail)
theorem VW.drop {P : Program} {nt : Nat} {c : Code} {Q : Exit → Fr → Store → Prop} {F : Fr} {S T : Store} (h : VW P nt c Q F T) : VW P nt c Q F (S ++ T) :=
 fun m w a QQ hf hw hK => h m w a QQ hf (Step.dropAll hw).rel fun e F' S' m' w' a' k hf' st => hK e F' S' m' w' a' k hf' ((Step.dropAll hw).trans st)
theorem VOps_nil {P : Program} {nt : Nat} {ops : List Oper} {F : Fr} {S : Store} {Q : Fr → Store → Prop} (h : Q F S) : VOps P nt ops [] F S Q :=
 fun m w a QQ hf hw hK => hK F S m w a h hf (Step.refl hw)
theorem wanted_of {ops : List Oper} {m : Mem} {nt : Nat} {F : Fr} {a : Act} {o : Oper} {b : Bool} (hf : FRel m nt F a) (h : wantOf ops F o = some b) : Region.wanted o (yielded ops.toArray a.tmps) = b := by
 unfold wantOf at h
 unfold Region.wanted
 cases hg : o.guard with
 | none => rw [hg] at h; injection h
 | some jw =>
  obtain ⟨j, want⟩ := jw
  rw [hg] at h
  dsimp only at h ⊢
  cases hd : (ops[j]?).bind (·.dst) with
  | none => rw [hd] at h; cases h
  | some d =>
   rw [hd] at h
   dsimp only at h
   cases hv : F.get d with
   | none => rw [hv] at h; cases h
   | some v =>
    rw [hv] at h
    have hr := hf.get d v hv
    cases v with
    | raw u =>
     cases u with
     | bool c =>
      injection h with h
      have hu : a.tmps.getD d undef = .bool c := hr
      have hd' : a.tmps[d]? = some (.bool c) := by
       rcases Nat.lt_or_ge d a.tmps.size with hl | hl
       ·simpa [hl] using hu
       ·simp [Array.getElem?_eq_none hl, undef] at hu
      have hop : (ops.toArray[j]?).bind (·.dst) = some d := by simpa using hd
      unfold yielded
      rw [hop, Option.bind_some, hd']
      simp only
      rw [← h]
      cases c <;> cases want <;> rfl
     | _ => cases h
    | _ => cases h
theorem VOps_cons {P : Program} {nt : Nat} {ops l : List Oper} {F : Fr} {S : Store} {Q : Fr → Store → Prop} {o : Oper} (hw : wantOf ops F o = some true) (hd : dstOk nt o.dst = true)
  (h : VOp P nt o F S fun r S' => VOps P nt ops l (F.put o.dst r) S' Q) : VOps P nt ops (o :: l) F S Q := by
 intro m w a QQ hf hwr hK
 refine wpList_step fun K hKl => ?_
 rw [if_pos (wanted_of hf hw)]
 refine h m w a K QQ hf hwr fun r S' m' w' u hk hr st => hKl _ _ ?_
 exact hk m' w' _ QQ ((hf.mono st.mono).put hd hr) st.rel fun F' S2 m2 w2 a2 q hf2 st2 => hK F' S2 m2 w2 a2 q hf2 (st.trans st2)
theorem VW_region {P : Program} {nt id : Nat} {l : List Oper} {F : Fr} {S : Store} {Q : Exit → Fr → Store → Prop} (h : VOps P nt l l F S (Q .normal)) : VW P nt (.region id l.toArray false) Q F S :=
 fun m w a QQ hf hw hK => wp_region_lit (h m w a QQ hf hw fun F' S' m' w' a' q => hK _ F' S' m' w' a' q)
def Then (next : Fr → Store → Prop) (Q : Exit → Fr → Store → Prop) : Exit → Fr → Store → Prop
 | .normal, F, S => next F S
 | e, F, S => Q e F S
def InBlock (id : Nat) (Q : Exit → Fr → Store → Prop) : Exit → Fr → Store → Prop
 | .exit id', F, S => bif Yd id' id then Q .normal F S else Q (.exit id') F S
 | e, F, S => Q e F S
section
variable {P : Program} {nt : Nat} {F : Fr} {S : Store} {Q : Exit → Fr → Store → Prop}
theorem VW_skip (h : Q .normal F S) : VW P nt .skip Q F S := fun m w a QQ hf hw hK => wp_skip (hK _ F S m w a h hf (Step.refl hw))
theorem VW_ret (h : Q .ret F S) : VW P nt .ret Q F S := fun m w a QQ hf hw hK => wp_ret (hK _ F S m w a h hf (Step.refl hw))
theorem VW_exit {id : Nat} (h : Q (.exit id) F S) : VW P nt (.exit id) Q F S := fun m w a QQ hf hw hK => wp_exit (hK _ F S m w a h hf (Step.refl hw))
theorem VW_seq {x y : Code} (h : VW P nt x (Then (VW P nt y Q) Q) F S) : VW P nt (.seq x y) Q F S := by
 intro m w a QQ hf hw hK
 refine wp_seq (h m w a _ hf hw fun e F' S' m' w' a' k hf' st => ?_)
 cases e with
 | normal => exact k m' w' a' QQ hf' st.rel fun e2 F2 S2 m2 w2 a2 k2 hf2 st2 => hK e2 F2 S2 m2 w2 a2 k2 hf2 (st.trans st2)
 | exit id => exact hK _ F' S' m' w' a' k hf' st
 | goto l => exact hK _ F' S' m' w' a' k hf' st
 | ret => exact hK _ F' S' m' w' a' k hf' st
 | panic ch => exact hK _ F' S' m' w' a' k hf' st
 | outgrown => exact hK _ F' S' m' w' a' k hf' st
theorem VW_cond {c : Operand} {x y : Code} {b : Bool} (hc : F.ev c = some (.raw (.bool b))) (ht : b = true → VW P nt x Q F S) (he : b = false → VW P nt y Q F S) : VW P nt (.cond c x y) Q F S := by
 intro m w a QQ hf hw hK
 have hb : a.eval c = .bool b := hf.ev hc
 exact wp_cond_split hb (fun h => ht h m w a QQ hf hw hK) (fun h => he h m w a QQ hf hw hK)
theorem VW_block {id : Nat} {c : Code} (h : VW P nt c (InBlock id Q) F S) : VW P nt (.block id c) Q F S := by
 intro m w a QQ hf hw hK
 refine wp_block (h m w a _ hf hw fun e F' S' m' w' a' k hf' st => ?_)
 cases e with
 | exit id' =>
  simp only [InBlock] at k
  simp only [Exit.inBlock]
  cases hb : Yd id' id with
  | true =>
   rw [hb, cond_true] at k
   rw [if_pos (Ye hb)]
   exact hK _ F' S' m' w' a' k hf' st
  | false =>
   rw [hb, cond_false] at k
   rw [if_neg (by intro h; subst h; simp at hb)]
   exact hK _ F' S' m' w' a' k hf' st
 | normal => exact hK _ F' S' m' w' a' k hf' st
 | goto l => exact hK _ F' S' m' w' a' k hf' st
 | ret => exact hK _ F' S' m' w' a' k hf' st
 | panic ch => exact hK _ F' S' m' w' a' k hf' st
 | outgrown => exact hK _ F' S' m' w' a' k hf' st
theorem VW_loop {c : Code} (I : Nat → Fr → Store → Prop) (n0 : Nat) (h0 : I n0 F S)
  (round : ∀ n F S, I n F S → VW P nt c (Then (fun F' S' => ∃ n', n' < n ∧ I n' F' S') Q) F S) : VW P nt (.loop c) Q F S := by
 intro m w a QQ hf hw hK b k cs
 have key : ∀ n F1 S1 m' w' a', I n F1 S1 → FRel m' nt F1 a' → Step m S w m' S1 w' →
   ∃ e a2 w2, QQ e a2 w2 ∧ Arrives P (lone (b.at a' (.code c :: .inLoop c :: k)) cs w') b k cs e a2 w2 := by
  intro n
  induction n using Nat.strongRecOn with
  | _ n ih =>
   intro F1 S1 m' w' a' hI hf' st
   obtain ⟨e, a₁, w₁, hq, harr⟩ := round n F1 S1 hI m' w' a' (fun e a2 w2 => match e with
    | .normal => ∃ n' F2 S2 m2, n' < n ∧ I n' F2 S2 ∧ FRel m2 nt F2 a2 ∧ Step m S w m2 S2 w2
    | e => QQ e a2 w2) hf' st.rel (fun e F2 S2 m2 w2 a2 k2 hf2 st2 => by
     cases e with
     | normal => obtain ⟨n', hn', hI'⟩ := k2; exact ⟨n', F2, S2, m2, hn', hI', hf2, st.trans st2⟩
     | exit id => exact hK _ F2 S2 m2 w2 a2 k2 hf2 (st.trans st2)
     | goto l => exact hK _ F2 S2 m2 w2 a2 k2 hf2 (st.trans st2)
     | ret => exact hK _ F2 S2 m2 w2 a2 k2 hf2 (st.trans st2)
     | panic ch => exact hK _ F2 S2 m2 w2 a2 k2 hf2 (st.trans st2)
     | outgrown => exact hK _ F2 S2 m2 w2 a2 k2 hf2 (st.trans st2)) b (.inLoop c :: k) cs
   cases e with
   | normal =>
    obtain ⟨n', F2, S2, m2, hn', hI', hf2, st2⟩ := hq
    obtain ⟨e₂, a₂, w₂, hq₂, harr₂⟩ := ih n' hn' F2 S2 m2 w₁ a₁ hI' hf2 st2
    exact ⟨e₂, a₂, w₂, hq₂, .of_steps (Steps.trans harr (.one step_inLoop)) harr₂⟩
   | exit id => exact ⟨_, a₁, w₁, hq, .pass (x := .inLoop c) rfl (fun _ _ => .inl (by simp)) harr⟩
   | goto l => exact ⟨_, a₁, w₁, hq, .pass (x := .inLoop c) rfl (fun _ _ => .inl (by simp)) harr⟩
   | ret => exact ⟨_, a₁, w₁, hq, .pass (x := .inLoop c) rfl (fun _ _ => .inl (by simp)) harr⟩
   | panic ch => exact ⟨_, a₁, w₁, hq, .pass (x := .inLoop c) rfl (fun _ _ => .inl (by simp)) harr⟩
   | outgrown => exact ⟨_, a₁, w₁, hq, .pass (x := .inLoop c) rfl (fun _ _ => .inl (by simp)) harr⟩
 obtain ⟨e, a', w', hq, harr⟩ := key n0 F S m w a h0 hf (Step.refl hw)
 exact ⟨e, a', w', hq, .of_steps (.one step_loop) harr⟩
end
def VRes (P : Program) (nt : Nat) (fn : Func) (F : Fr) (S : Store) (r : V) : Prop :=
 ∀ m w a, FRel m nt F a → WRel m S w → ∃ u, (results fn a.tmps).run P w = .ok u w ∧ Rep m r u
def VRet (P : Program) (nt : Nat) (fn : Func) (R : V → Store → Prop) : Exit → Fr → Store → Prop
 | .normal, F, S | .ret, F, S => ∃ r, VRes P nt fn F S r ∧ R r S
 | _, _, _ => False
def argFr : Nat → List V → Fr
 | _, [] => []
 | i, v :: vs => (i, some v) :: argFr (i + 1) vs
theorem argFr_get {m : Mem} : ∀ {vs : List V} {us : List Value}, RepL m vs us → ∀ (k i : Nat) (v : V), (argFr k vs).get i = some v → k ≤ i ∧ ∃ u, us[i - k]? = some u ∧ Rep m v u
 | [], us, _, k, i, v, h => by cases h
 | x :: vs, us, ⟨u, us', e, r, h⟩, k, i, v, hv => by
  subst e
  simp only [argFr, Fr.get] at hv
  cases hb : Yd i k with
  | true =>
   rw [hb, cond_true] at hv
   have hik := Ye hb
   subst hik
   injection hv with hv
   subst hv
   exact ⟨Nat.le_refl _, u, by simp, r⟩
  | false =>
   rw [hb, cond_false] at hv
   obtain ⟨h1, u', h2, h3⟩ := argFr_get h (k + 1) i v hv
   refine ⟨by omega, u', ?_, h3⟩
   rw [show i - k = (i - (k + 1)) + 1 by omega]
   simpa using h2
theorem VCalls_of {P : Program} {f : FuncId} {fn : Func} {c : Code} {args : List V} {S : Store} {R : V → Store → Prop} (hf : P.funcs[f]? = some fn) (hb : fn.body = some c)
  (hn : Nat.ble args.length fn.ntmps = true) (h : VW P fn.ntmps c (VRet P fn.ntmps fn R) (argFr 0 args) S) : VCalls P f args S R := by
 intro m w us hr hw
 have hl := hr.length
 have hn' := Nat.le_of_ble_eq_true hn
 refine calls_of_wp hf hb (h m w _ _ ⟨rfl, ?_, ?_⟩ hw ?_)
 ·simp; omega
 ·intro i v hv
  obtain ⟨_, u, h2, h3⟩ := argFr_get hr 0 i v hv
  simp only [Nat.sub_zero] at h2
  have hi : i < us.length := (List.getElem?_eq_some_iff.1 h2).1
  have : (us.toArray ++ Array.replicate (fn.ntmps - us.toArray.size) undef).getD i undef = u := by
   simp [Array.getElem?_append, hi, h2]
   simpa [List.getElem?_eq_getElem hi] using h2
  rw [this]
  exact h3
 ·intro e F' S' m' w' a' hq hf' st
  cases e with
  | normal =>
   obtain ⟨r, hres, hR⟩ := hq
   obtain ⟨u, hu, hru⟩ := hres m' w' a' hf' st.rel
   exact ⟨hf'.defers, u, hu, r, S', m', u, hR, rfl, hru, st⟩
  | ret =>
   obtain ⟨r, hres, hR⟩ := hq
   obtain ⟨u, hu, hru⟩ := hres m' w' a' hf' st.rel
   exact ⟨hf'.defers, u, hu, r, S', m', u, hR, rfl, hru, st⟩
  | exit id => exact hq.elim
  | goto l => exact hq.elim
  | panic ch => exact hq.elim
  | outgrown => exact hq.elim
end Go.VL
