import Derived.WalkKit
import Derived.KernelRfl
import Derived.Orders
import Derived.Deep.MidRow
import Derived.Deep.AppendSrc
import Derived.Laws.MakeOwn
import Derived.Lib.SliceRun
import Derived.Laws.StructEq
set_option linter.all false
open List renaming range → Ya, all_eq_true → Yb, getElem?_eq_some_iff → Yc, mem_cons_of_mem → Yd, length_append → Ye, mem_cons → Yf, getElem?_eq_getElem → Yg, mem_of_getElem? → Yh, mem_cons_self → Yi, mem_append → Yj, filterMap_cons → Yk, length_take → Yl, mem_range → Ym, mem_filterMap → Yn, map_cons → Yo, nodup_cons → Yp, length_drop → Yq, eq_nil_of_length_eq_zero → Yr, replicate → Ys, mem_append_left → Yt, getElem?_take → Yu, nodup_append → Yv, mem_append_right → Yw, mem_of_mem_drop → Yx, mem_of_mem_take → Yy, take_append_drop → Yz, append_nil → Yaa, set_cons_succ → Yab, getElem?_of_mem → Yac, getElem?_drop → Yad, getElem?_append_left → Yae, getElem?_append_right → Yaf, zipIdx_cons → Yag, append_assoc → Yah, cons_append → Yai, map_append → Yaj, pairwise_cons → Yak, mem_filter → Yal
open Nat renaming beq → Yam, eq_of_beq_eq_true → Yan, ble → Yao, le_refl → Yap, le_of_ble_eq_true → Yaq, le_trans → Yar, lt_or_ge → Yas, zero_add → Yat, succ_mul → Yau, add_mul → Yav, blt_eq → Yaw, le_mul_of_pos_right → Yax
open Int renaming mul_le_mul_of_nonneg_left → Yay
section
namespace Go.VL
inductive Tok where
 | nil
 | zero
 | «at» (g cap : Nat)
 | pin (a : Addr)
inductive V where
 | raw (v : Value)
 | sl (sz : Nat) (tok : Option Tok) (xs : List V)
 | ep (a : Addr) (x : V)
 | clo (fn : Fn) (caps : List V)
 | agg (ls : List V)
 | tup (vs : List V)
instance : Inhabited V := ⟨.raw (.tuple #[])⟩
abbrev V.int (n : Int) : V := .raw (.int .i64 n)
abbrev V.bool (b : Bool) : V := .raw (.bool b)
abbrev V.str (s : List UInt8) : V := .raw (.string ⟨s.toArray⟩)
abbrev V.ptr (g o : Nat) : V := .raw (.pointer (some ⟨g, o, none⟩))
abbrev V.nilSl : V := .raw (.slice none 0 0)
def V.leaf : V -> Bool
 | .raw v => v.oneCell'
 | .agg _ | .tup _ => false
 | _ => true
abbrev Mem := Nat -> Nat -> Option Value
def At (m : Mem) (b off : Nat) (cs : List Value) : Prop := ∀ j u, cs[j]? = some u -> m b (off + j) = some u
def tokOk : Option Tok -> Option Addr -> Nat -> Prop
 | none, _, _ => True
 | some .nil, A, cap => A = none /\ cap = 0
 | some .zero, A, cap => cap = 0
 | some (.pin a), A, cap => ∀ a', A = some a' -> a' = a
 | some (.at g c), A, cap => A = some ⟨g, 0, none⟩ /\ cap = c
mutual
def Rep (m : Mem) : V -> Value -> Prop
 | .raw v, u => u = v
 | .sl sz tok xs, u => ∃ A cap, u = .slice A xs.length cap /\ xs.length <= cap /\ cap <= maxLen /\ tokOk tok A cap /\ (xs = [] \/ ∃ b off, A = some ⟨b, off, none⟩ /\ RepEls m sz b off xs)
 | .ep a x, u => u = .pointer (some a) /\ a.spot = none /\ ∃ v, Rep m x v /\ At m a.block a.off v.cells.toList
 | .clo fn caps, u => ∃ us, u = .func fn #[] us /\ RepL m caps us.toList
 | .agg ls, u => ls.all V.leaf = true /\ ∃ cs, u = .agg cs /\ RepL m ls cs.toList
 | .tup vs, u => ∃ us, u = .tuple us /\ RepL m vs us.toList
def RepL (m : Mem) : List V -> List Value -> Prop
 | [], us => us = []
 | v :: vs, us => ∃ u us', us = u :: us' /\ Rep m v u /\ RepL m vs us'
def RepEls (m : Mem) (sz b : Nat) : Nat -> List V -> Prop
 | _, [] => True
 | off, x :: xs => (∃ u, Rep m x u /\ u.cells.size = sz /\ (∀ c ∈ u.cells.toList, c.oneCell' = true) /\ At m b off u.cells.toList) /\ RepEls m sz b (off + sz) xs
end
def Sub (m m' : Mem) : Prop := ∀ b o v, m b o = some v -> m' b o = some v
theorem Sub.refl (m : Mem) : Sub m m := λ _ _ _ h => h
theorem Sub.trans {a b c : Mem} (h : Sub a b) (k : Sub b c) : Sub a c := λ _ _ _ x => k _ _ _ (h _ _ _ x)
theorem At.mono {m m' : Mem} (h : Sub m m') {b off : Nat} {cs : List Value} (k : At m b off cs) : At m' b off cs := λ j u hu => h _ _ _ (k j u hu)
mutual
theorem Rep.mono {m m' : Mem} (h : Sub m m') : ∀ (v : V) (u : Value), Rep m v u -> Rep m' v u
 | .raw v, u, k => k
 | .sl sz tok xs, u, ⟨A, cap, e, l, hm, t, r⟩ => ⟨A, cap, e, l, hm, t, r.imp id λ ⟨b, off, ea, re⟩ => ⟨b, off, ea, RepEls.mono h off xs re⟩⟩
 | .ep a x, u, ⟨e, s, v, r, t⟩ => ⟨e, s, v, Rep.mono h x v r, t.mono h⟩
 | .clo fn caps, u, ⟨us, e, r⟩ => ⟨us, e, RepL.mono h caps _ r⟩
 | .agg ls, u, ⟨l, cs, e, r⟩ => ⟨l, cs, e, RepL.mono h ls _ r⟩
 | .tup vs, u, ⟨us, e, r⟩ => ⟨us, e, RepL.mono h vs _ r⟩
theorem RepL.mono {m m' : Mem} (h : Sub m m') : ∀ (vs : List V) (us : List Value), RepL m vs us -> RepL m' vs us
 | [], us, k => k
 | v :: vs, us, ⟨u, us', e, r, k⟩ => ⟨u, us', e, Rep.mono h v u r, RepL.mono h vs us' k⟩
theorem RepEls.mono {m m' : Mem} (h : Sub m m') {sz b : Nat} : ∀ (off : Nat) (xs : List V), RepEls m sz b off xs -> RepEls m' sz b off xs
 | _, [], k => trivial
 | off, x :: xs, ⟨⟨u, r, l, o, t⟩, k⟩ => ⟨⟨u, Rep.mono h x u r, l, o, t.mono h⟩, RepEls.mono h (off + sz) xs k⟩
end
theorem RepL.length {m : Mem} : ∀ {vs : List V} {us : List Value}, RepL m vs us -> us.length = vs.length
 | [], us, h => by simp [show us = [] from h]
 | v :: vs, us, ⟨u, us', e, _, k⟩ => by simp [e, RepL.length k]
theorem RepL.cons {m : Mem} {v : V} {vs : List V} {u : Value} {us : List Value} (h : Rep m v u) (k : RepL m vs us) : RepL m (v :: vs) (u :: us) := ⟨u, us, rfl, h, k⟩
theorem RepL.get {m : Mem} : ∀ {vs : List V} {us : List Value}, RepL m vs us -> ∀ {i : Nat} {v : V}, vs[i]? = some v -> ∃ u, us[i]? = some u /\ Rep m v u
 | [], us, h, i, v, e => by simp at e
 | v :: vs, us, ⟨u, us', he, r, k⟩, 0, x, e => by
  simp at e
  subst e
  exact ⟨u, by simp [he], r⟩
 | v :: vs, us, ⟨u, us', he, r, k⟩, i + 1, x, e => by
  simp at e
  obtain ⟨u', h1, h2⟩ := RepL.get k e
  exact ⟨u', by simp [he, h1], h2⟩
theorem RepL.append {m : Mem} : ∀ {vs ws : List V} {us us' : List Value}, RepL m vs us -> RepL m ws us' -> RepL m (vs ++ ws) (us ++ us')
 | [], ws, us, us', h, k => by rw [show us = [] from h]; exact k
 | v :: vs, ws, us, us', ⟨u, us1, e, r, h⟩, k => ⟨u, us1 ++ us', by simp [e], r, RepL.append h k⟩
theorem RepL.take {m : Mem} : ∀ {vs : List V} {us : List Value} (n : Nat), RepL m vs us -> RepL m (vs.take n) (us.take n)
 | vs, us, 0, _ => by simp [RepL]
 | [], us, n + 1, h => by rw [show us = [] from h]; simp [RepL]
 | v :: vs, us, n + 1, ⟨u, us', e, r, k⟩ => by subst e; exact ⟨u, us'.take n, by simp, r, RepL.take n k⟩
theorem RepL.drop {m : Mem} : ∀ {vs : List V} {us : List Value} (n : Nat), RepL m vs us -> RepL m (vs.drop n) (us.drop n)
 | vs, us, 0, h => by simpa using h
 | [], us, n + 1, h => by rw [show us = [] from h]; simp [RepL]
 | v :: vs, us, n + 1, ⟨u, us', e, r, k⟩ => by subst e; simpa using RepL.drop n k
theorem RepL.set {m : Mem} : ∀ {vs : List V} {us : List Value} (n : Nat) {v : V} {u : Value}, RepL m vs us -> Rep m v u -> RepL m (vs.set n v) (us.set n u)
 | [], us, n, v, u, h, _ => by rw [show us = [] from h]; simp [RepL]
 | x :: vs, us, 0, v, u, ⟨y, us', e, r, k⟩, h => by subst e; exact ⟨u, us', by simp, h, k⟩
 | x :: vs, us, n + 1, v, u, ⟨y, us', e, r, k⟩, h => by subst e; exact ⟨y, us'.set n u, by simp, r, RepL.set n k h⟩
theorem Rep.oneCell {m : Mem} {v : V} {u : Value} (h : Rep m v u) (hl : v.leaf = true) : u.oneCell' = true := by
 cases v with
 | raw v => rw [show u = v from h]; exact hl
 | sl sz tok xs => obtain ⟨A, cap, rfl, _⟩ := h; rfl
 | ep a x => obtain ⟨rfl, _⟩ := h; rfl
 | clo fn caps => obtain ⟨us, rfl, _⟩ := h; rfl
 | agg ls => simp [V.leaf] at hl
 | tup vs => simp [V.leaf] at hl
theorem cells_oneCell {u : Value} (h : u.oneCell' = true) : u.cells = #[u] := by
 cases u <;> first | rfl | (simp [Value.oneCell'] at h)
theorem RepL.oneCells {m : Mem} : ∀ {vs : List V} {us : List Value}, RepL m vs us -> vs.all V.leaf = true -> ∀ c ∈ us, c.oneCell' = true
 | [], us, h, _, c, hc => by rw [show us = [] from h] at hc; cases hc
 | v :: vs, us, ⟨u, us', e, r, k⟩, hl, c, hc => by
  subst e
  simp only [List.all_cons, Bool.and_eq_true] at hl
  rcases Yf.1 hc with rfl | hc
  .exact r.oneCell hl.1
  exact RepL.oneCells k hl.2 c hc
def V.leaves : V -> List V
 | .agg ls => ls
 | v => [v]
def V.flat (v : V) : Bool := v.leaves.all V.leaf
theorem Rep.cells {m : Mem} {v : V} {u : Value} (h : Rep m v u) (hf : v.flat = true) : RepL m v.leaves u.cells.toList /\ ∀ c ∈ u.cells.toList, c.oneCell' = true := by
 have key : v.leaf = true -> v.leaves = [v] -> RepL m v.leaves u.cells.toList /\ ∀ c ∈ u.cells.toList, c.oneCell' = true := λ hl he => by
  have h1 := h.oneCell hl
  rw [he, cells_oneCell h1]
  exact ⟨⟨u, [], rfl, h, rfl⟩, by simpa using h1⟩
 cases v with
 | agg ls =>
  obtain ⟨hl, cs, rfl, hr⟩ := h
  exact ⟨hr, hr.oneCells hl⟩
 | raw v => exact key (by simpa [V.flat, V.leaves] using hf) rfl
 | sl sz tok xs => exact key rfl rfl
 | ep a x => exact key rfl rfl
 | clo fn caps => exact key rfl rfl
 | tup vs => simp [V.flat, V.leaves, V.leaf] at hf
inductive Own where
 | cells (g : Nat) (T : TypeId) (ls : List V)
 | buf (t : Tok) (T : TypeId) (sz n : Nat)
 | map (g : Nat) (es : List (Value × V))
 | obj (g : Nat) (p : Mem -> Obj -> Prop) (mono : ∀ m m' o, Sub m m' -> p m o -> p m' o)
abbrev Store := List Own
def Own.dom : Own -> Option Nat
 | .cells g _ _ => some g
 | .buf .nil _ _ _ => none
 | .buf .zero _ _ _ => none
 | .buf (.pin _) _ _ _ => none
 | .buf (.at g _) _ _ _ => some g
 | .map g _ => some g
 | .obj g _ _ => some g
def dom (S : Store) : List Nat := S.filterMap Own.dom
theorem dom_append (S T : Store) : dom (S ++ T) = dom S ++ dom T := List.filterMap_append ..
theorem dom_perm {S T : Store} (h : S.Perm T) : (dom S).Perm (dom T) := h.filterMap _
def RepMap (m : Mem) : List (Value × V) -> List MapEntry -> Prop
 | [], es => es = []
 | (k, v) :: xs, es => ∃ e es', es = e :: es' /\ e.key = k /\ Rep m v e.val /\ RepMap m xs es'
theorem RepMap.mono {m m' : Mem} (h : Sub m m') : ∀ {xs : List (Value × V)} {es : List MapEntry}, RepMap m xs es -> RepMap m' xs es
 | [], es, k => k
 | (k, v) :: xs, es, ⟨e, es', he, hk, hr, ht⟩ => ⟨e, es', he, hk, Rep.mono h _ _ hr, RepMap.mono h ht⟩
def BornOk (ents : Array MapEntry) (clock : Nat) : Prop := (∀ x ∈ ents.toList, x.born < clock) /\ (ents.toList.map (·.born)).Nodup
def Own.holds (m : Mem) (w : World) : Own -> Prop
 | .cells g T ls => ls.all V.leaf = true /\ (∃ cs, w.heap[g]? = some (.cells cs T) /\ RepL m ls cs.toList) /\ ∀ o, m g o = none
 | .buf .nil _ _ n => n = 0
 | .buf .zero _ _ n => n = 0
 | .buf (.pin _) _ _ _ => False
 | .buf (.at g cap) T sz n => n <= cap /\ (∃ cs, w.heap[g]? = some (.cells cs T) /\ cs.size = cap * sz) /\ ∀ o, n * sz <= o -> m g o = none
 | .map g es => (∃ ents clock, w.heap[g]? = some (.map ents clock) /\ RepMap m es ents.toList /\ BornOk ents clock) /\ ∀ o, m g o = none
 | .obj g p _ => (∃ o, w.heap[g]? = some o /\ p m o) /\ ∀ o, m g o = none
structure WRel (m : Mem) (S : Store) (w : World) : Prop where
 agree : ∀ b o v, m b o = some v -> w.cell? ⟨b, o, none⟩ = some v
 nodup : (dom S).Nodup
 holds : ∀ e ∈ S, e.holds m w
theorem Own.holds_lt {m : Mem} {w : World} {e : Own} (h : e.holds m w) {g : Nat} (hg : e.dom = some g) : g < w.heap.size := by
 have key : ∀ {o : Obj}, w.heap[g]? = some o -> g < w.heap.size := λ h => (Array.getElem?_eq_some_iff.1 h).1
 cases e with
 | cells g' T ls =>
  injection hg with hg
  subst hg
  obtain ⟨_, ⟨cs, hh, _⟩, _⟩ := h
  exact key hh
 | buf t T sz n =>
  cases t with
  | nil => cases hg
  | zero => cases hg
  | pin a => cases hg
  | «at» g' cap =>
   injection hg with hg
   subst hg
   obtain ⟨_, ⟨cs, hh, _⟩, _⟩ := h
   exact key hh
 | map g' es =>
  injection hg with hg
  subst hg
  obtain ⟨⟨en, cl, hh, _⟩, _⟩ := h
  exact key hh
 | obj g' p hp =>
  injection hg with hg
  subst hg
  obtain ⟨⟨o, hh, _⟩, _⟩ := h
  exact key hh
theorem WRel.dom_lt {m : Mem} {S : Store} {w : World} (h : WRel m S w) {g : Nat} (hg : g ∈ dom S) : g < w.heap.size := by
 obtain ⟨e, he, hd⟩ := Yn.1 hg
 exact Own.holds_lt (h.holds e he) hd
theorem WRel.mem_lt {m : Mem} {S : Store} {w : World} (h : WRel m S w) {b o : Nat} {v : Value} (hm : m b o = some v) : b < w.heap.size :=
 World.block_lt_of_cell? w _ (h.agree b o v hm)
theorem WRel.perm {m : Mem} {S T : Store} {w : World} (h : WRel m S w) (p : S.Perm T) : WRel m T w :=
 ⟨h.agree, (dom_perm p).nodup_iff.1 h.nodup, λ e he => h.holds e (p.mem_iff.2 he)⟩
theorem WRel.left {m : Mem} {S T : Store} {w : World} (h : WRel m (S ++ T) w) : WRel m S w :=
 ⟨h.agree, by have := h.nodup; rw [dom_append] at this; exact (Yv.1 this).1, λ e he => h.holds e (Yt _ he)⟩
theorem WRel.tail {m : Mem} {e : Own} {T : Store} {w : World} (h : WRel m (e :: T) w) : WRel m T w := by
 have : WRel m (T ++ [e]) w := h.perm (by simpa using (List.perm_append_singleton e T).symm)
 exact this.left
structure Step (m : Mem) (S : Store) (w : World) (m' : Mem) (S' : Store) (w' : World) : Prop where
 rel : WRel m' S' w'
 os : w'.os = w.os
 tape : w'.tape = w.tape
 output : w'.output = w.output
 size : w.heap.size <= w'.heap.size
 heap : ∀ b, b < w.heap.size -> b ∉ dom S -> w'.heap[b]? = w.heap[b]?
 mono : Sub m m'
 only : ∀ b o v, m' b o = some v -> m b o = some v \/ b ∈ dom S \/ w.heap.size <= b
 domn : ∀ b, b ∈ dom S' -> b ∈ dom S \/ w.heap.size <= b
theorem Step.refl {m : Mem} {S : Store} {w : World} (h : WRel m S w) : Step m S w m S w :=
 ⟨h, rfl, rfl, rfl, Yap _, λ _ _ _ => rfl, Sub.refl m, λ _ _ _ h => .inl h, λ _ h => .inl h⟩
theorem Step.trans {m m1 m2 : Mem} {S S1 S2 : Store} {w w1 w2 : World} (h : Step m S w m1 S1 w1) (k : Step m1 S1 w1 m2 S2 w2) : Step m S w m2 S2 w2 where
 rel := k.rel
 os := k.os.trans h.os
 tape := k.tape.trans h.tape
 output := k.output.trans h.output
 size := Yar h.size k.size
 heap b hb hn := by
  rw [k.heap b (Nat.lt_of_lt_of_le hb h.size) (λ hd => by rcases h.domn b hd with h1 | h1; exact hn h1; omega)]
  exact h.heap b hb hn
 mono := h.mono.trans k.mono
 only b o v hv := by
  rcases k.only b o v hv with h1 | h1 | h1
  .exact h.only b o v h1
  .exact .inr (h.domn b h1)
  exact .inr (.inr (Yar h.size h1))
 domn b hb := by
  rcases k.domn b hb with h1 | h1
  .exact h.domn b h1
  exact .inr (Yar h.size h1)
theorem Step.permL {m m1 : Mem} {S T S1 : Store} {w w1 : World} (p : S.Perm T) (h : Step m T w m1 S1 w1) : Step m S w m1 S1 w1 :=
 ⟨h.rel, h.os, h.tape, h.output, h.size, λ b hb hn => h.heap b hb (λ hd => hn ((dom_perm p).mem_iff.2 hd)), h.mono,
  λ b o v hv => (h.only b o v hv).imp id (Or.imp (λ hd => (dom_perm p).mem_iff.2 hd) id), λ b hb => (h.domn b hb).imp (λ hd => (dom_perm p).mem_iff.2 hd) id⟩
theorem Step.permR {m m1 : Mem} {S S1 T1 : Store} {w w1 : World} (p : S1.Perm T1) (h : Step m S w m1 S1 w1) : Step m S w m1 T1 w1 :=
 ⟨h.rel.perm p, h.os, h.tape, h.output, h.size, h.heap, h.mono, h.only, λ b hb => h.domn b ((dom_perm p).mem_iff.2 hb)⟩
theorem Own.holds_kept {m m' : Mem} {w w' : World} {e : Own} (h : e.holds m w) (hm : Sub m m') (hh : ∀ g, e.dom = some g -> w'.heap[g]? = w.heap[g]?)
  (ho : ∀ g, e.dom = some g -> ∀ o v, m' g o = some v -> m g o = some v) : e.holds m' w' := by
 have hnone : ∀ g, e.dom = some g -> ∀ o, m g o = none -> m' g o = none := λ g hg o h0 => by
  cases h1 : m' g o with
  | none => rfl
  | some v => rw [ho g hg o v h1] at h0; cases h0
 cases e with
 | cells g T ls =>
  obtain ⟨h1, ⟨cs, h2, h3⟩, h4⟩ := h
  exact ⟨h1, ⟨cs, by rw [hh g rfl]; exact h2, RepL.mono hm _ _ h3⟩, λ o => hnone g rfl o (h4 o)⟩
 | buf t T sz n =>
  cases t with
  | nil => exact h
  | zero => exact h
  | pin a => exact h
  | «at» g cap =>
   obtain ⟨h1, ⟨cs, h2, h3⟩, h4⟩ := h
   exact ⟨h1, ⟨cs, by rw [hh g rfl]; exact h2, h3⟩, λ o ho' => hnone g rfl o (h4 o ho')⟩
 | map g es =>
  obtain ⟨⟨en, cl, h2, h3, h5⟩, h4⟩ := h
  exact ⟨⟨en, cl, by rw [hh g rfl]; exact h2, RepMap.mono hm h3, h5⟩, λ o => hnone g rfl o (h4 o)⟩
 | obj g p hp =>
  obtain ⟨⟨o, h2, h3⟩, h4⟩ := h
  exact ⟨⟨o, by rw [hh g rfl]; exact h2, hp _ _ _ hm h3⟩, λ o => hnone g rfl o (h4 o)⟩
theorem Step.frame {m m' : Mem} {Sa Sa' Sb : Store} {w w' : World} (hw : WRel m (Sa ++ Sb) w) (h : Step m Sa w m' Sa' w') : Step m (Sa ++ Sb) w m' (Sa' ++ Sb) w' := by
 have hnd := hw.nodup
 rw [dom_append] at hnd
 obtain ⟨_, hb, hab⟩ := Yv.1 hnd
 have hbl : ∀ b ∈ dom Sb, b < w.heap.size := λ b hb => hw.dom_lt (by rw [dom_append]; exact Yw _ hb)
 have hna : ∀ b ∈ dom Sb, b ∉ dom Sa := λ b hb ha => hab b ha b hb rfl
 refine ⟨⟨h.rel.agree, ?_, ?_⟩, h.os, h.tape, h.output, h.size, ?_, h.mono, ?_, ?_⟩
 .rw [dom_append]
  refine Yv.2 ⟨h.rel.nodup, hb, λ a ha b hb' e => ?_⟩
  subst e
  rcases h.domn a ha with h1 | h1
  .exact hna a hb' h1
  have := hbl a hb'; omega
 .intro e he
  rcases Yj.1 he with he | he
  .exact h.rel.holds e he
  have hd : ∀ g, e.dom = some g -> g ∈ dom Sb := λ g hg => Yn.2 ⟨e, he, hg⟩
  refine Own.holds_kept (hw.holds e (Yw _ he)) h.mono (λ g hg => h.heap g (hbl g (hd g hg)) (hna g (hd g hg))) λ g hg o v hv => ?_
  rcases h.only g o v hv with h1 | h1 | h1
  .exact h1
  .exact absurd h1 (hna g (hd g hg))
  have := hbl g (hd g hg); omega
 .intro b hb1 hn
  rw [dom_append] at hn
  exact h.heap b hb1 (λ hd => hn (Yt _ hd))
 .intro b o v hv
  rw [dom_append]
  exact (h.only b o v hv).imp id (Or.imp (Yt _) id)
 intro b hb1
 rw [dom_append] at hb1 ⊢
 rcases Yj.1 hb1 with h1 | h1
 .exact (h.domn b h1).imp (Yt _) id
 exact .inl (Yw _ h1)
abbrev Fr := List (Nat × Option V)
def Fr.get : Fr -> Nat -> Option V
 | [], _ => none
 | (j, r) :: t, i => bif Yam i j then r else Fr.get t i
def Fr.ev (F : Fr) : Operand -> Option V
 | .tmp t => F.get t
 | .const v => some (.raw v)
 | .func f => some (.clo (.func f) [])
 | .global _ => none
def Fr.put (F : Fr) : Option Tmp -> Option V -> Fr
 | none, _ => F
 | some d, r => (d, r) :: F
def dstOk (nt : Nat) : Option Tmp -> Bool
 | none => true
 | some d => Yao (d + 1) nt
structure FRel (m : Mem) (nt : Nat) (F : Fr) (a : Act) : Prop where
 defers : a.defers = []
 size : a.tmps.size = nt
 get : ∀ i v, F.get i = some v -> Rep m v (a.tmps.getD i undef)
theorem FRel.mono {m m' : Mem} {nt : Nat} {F : Fr} {a : Act} (h : FRel m nt F a) (k : Sub m m') : FRel m' nt F a :=
 ⟨h.defers, h.size, λ i v hv => Rep.mono k _ _ (h.get i v hv)⟩
theorem FRel.ev {m : Mem} {nt : Nat} {F : Fr} {a : Act} (h : FRel m nt F a) {x : Operand} {v : V} (hx : F.ev x = some v) : Rep m v (a.eval x) := by
 cases x with
 | tmp t => exact h.get t v hx
 | const c => injection hx with hx; subst hx; rfl
 | global g => cases hx
 | func f => injection hx with hx; subst hx; exact ⟨#[], rfl, rfl⟩
def RepO (m : Mem) : Option V -> Value -> Prop
 | none, _ => True
 | some v, u => Rep m v u
theorem RepO.mono {m m' : Mem} (k : Sub m m') {r : Option V} {u : Value} (h : RepO m r u) : RepO m' r u := by
 cases r with
 | none => trivial
 | some v => exact Rep.mono k _ _ h
theorem FRel.put {m : Mem} {nt : Nat} {F : Fr} {a : Act} (h : FRel m nt F a) {d : Option Tmp} (hd : dstOk nt d = true) {r : Option V} {u : Value} (hr : RepO m r u) : FRel m nt (F.put d r) (a.put d u) := by
 cases d with
 | none => exact h
 | some d =>
  have hlt : d < a.tmps.size := by rw [h.size]; exact Yaq (n := d + 1) hd
  refine ⟨h.defers, by simp [Act.put, h.size], λ i v hv => ?_⟩
  simp only [Fr.put, Fr.get] at hv
  by_cases hi : i = d
  .subst hi
   simp only [Nat.beq_refl, cond_true] at hv
   subst hv
   have hr' : Rep m v u := hr
   simpa [Act.put, hlt] using hr'
  have hb : Yam i d = false := by rw [<- Bool.not_eq_true, Nat.beq_eq]; exact hi
  simp only [hb, cond_false] at hv
  have := h.get i v hv
  simpa [Act.put, Array.getElem?_setIfInBounds_ne (Ne.symm hi)] using this
def VOp (P : Program) (nt : Nat) (o : Oper) (F : Fr) (S : Store) (K : Option V -> Store -> Prop) : Prop :=
 ∀ (m : Mem) (w : World) (a : Act) (KK : Act -> World -> Prop) (QQ : Exit -> Act -> World -> Prop), FRel m nt F a -> WRel m S w ->
  (∀ r S' m' w' u, K r S' -> RepO m' r u -> Step m S w m' S' w' -> KK (a.put o.dst u) w') -> o.wp P a w KK QQ
def wantOf (ops : List Oper) (F : Fr) (o : Oper) : Option Bool :=
 match o.guard with
 | none => some true
 | some (j, want) =>
  match (ops[j]?).bind (·.dst) with
  | none => none
  | some d => match F.get d with
   | some (.raw (.bool b)) => some (b == want)
   | _ => none
def VOps (P : Program) (nt : Nat) (ops : List Oper) (l : List Oper) (F : Fr) (S : Store) (Q : Fr -> Store -> Prop) : Prop :=
 ∀ (m : Mem) (w : World) (a : Act) (QQ : Exit -> Act -> World -> Prop), FRel m nt F a -> WRel m S w ->
  (∀ F' S' m' w' a', Q F' S' -> FRel m' nt F' a' -> Step m S w m' S' w' -> QQ .normal a' w') -> wpList P ops.toArray QQ l a w
def VW (P : Program) (nt : Nat) (c : Code) (Q : Exit -> Fr -> Store -> Prop) (F : Fr) (S : Store) : Prop :=
 ∀ (m : Mem) (w : World) (a : Act) (QQ : Exit -> Act -> World -> Prop), FRel m nt F a -> WRel m S w ->
  (∀ e F' S' m' w' a', Q e F' S' -> FRel m' nt F' a' -> Step m S w m' S' w' -> QQ e a' w') -> c.wp P QQ a w
structure Enters (P : Program) (f : FuncId) : Prop where
  fn : ∃ fn, P.funcs[f]? = some fn ∧ (fn.name == "runtime.NumGoroutine") = false ∧ fn.body.isNone = false
def VCalls (P : Program) (f : FuncId) (args : List V) (S : Store) (R : V -> Store -> Prop) : Prop :=
 ∀ (m : Mem) (w : World) (us : List Value), RepL m args us -> WRel m S w ->
  Calls P f us.toArray w λ e w' => ∃ r S' m' u, R r S' /\ e = .returned u /\ Rep m' r u /\ Step m S w m' S' w'
theorem VOp.mono {P : Program} {nt : Nat} {o : Oper} {F : Fr} {S : Store} {K K' : Option V -> Store -> Prop} (h : VOp P nt o F S K) (hk : ∀ r S', K r S' -> K' r S') : VOp P nt o F S K' :=
 λ m w a KK QQ hf hw hK => h m w a KK QQ hf hw λ r S' m' w' u k => hK r S' m' w' u (hk _ _ k)
theorem VCalls.mono {P : Program} {f : FuncId} {args : List V} {S : Store} {R R' : V -> Store -> Prop} (h : VCalls P f args S R) (hr : ∀ r S', R r S' -> R' r S') : VCalls P f args S R' :=
 λ m w us ha hw => (h m w us ha hw).mono λ e w' ⟨r, S', m', u, k, rest⟩ => ⟨r, S', m', u, hr _ _ k, rest⟩
theorem VW.mono {P : Program} {nt : Nat} {c : Code} {Q Q' : Exit -> Fr -> Store -> Prop} {F : Fr} {S : Store} (h : VW P nt c Q F S) (hq : ∀ e F S, Q e F S -> Q' e F S) : VW P nt c Q' F S :=
 λ m w a QQ hf hw hK => h m w a QQ hf hw λ e F' S' m' w' a' k => hK e F' S' m' w' a' (hq _ _ _ k)
def Fr.sub : Fr -> Fr -> Prop
 | [], _ => True
 | (i, none) :: t, F => F.get i = none /\ Fr.sub t F
 | (i, some v) :: t, F => F.get i = some v /\ Fr.sub t F
theorem Fr.sub_get : ∀ {F' F : Fr}, Fr.sub F' F -> ∀ {i : Nat} {v : V}, F'.get i = some v -> F.get i = some v
 | (j, r) :: t, F, h, i, v, hv => by
  simp only [Fr.get] at hv
  have h2 : Fr.sub t F := by cases r <;> exact h.2
  cases hb : Yam i j with
  | true =>
   rw [hb, cond_true] at hv
   have := Yan hb
   subst this
   subst hv
   exact h.1
  | false =>
   rw [hb, cond_false] at hv
   exact Fr.sub_get h2 hv
theorem FRel.sub {m : Mem} {nt : Nat} {F F' : Fr} {a : Act} (h : FRel m nt F a) (hs : Fr.sub F' F) : FRel m nt F' a :=
 ⟨h.defers, h.size, λ i v hv => h.get i v (Fr.sub_get hs hv)⟩
theorem VW.weaken {P : Program} {nt : Nat} {c : Code} {Q : Exit -> Fr -> Store -> Prop} {F F' : Fr} {S S' : Store} (hs : Fr.sub F' F) (hp : S.Perm S') (h : VW P nt c Q F' S') : VW P nt c Q F S :=
 λ m w a QQ hf hw hK => h m w a QQ (hf.sub hs) (hw.perm hp) λ e F' S' m' w' a' k hf' st => hK e F' S' m' w' a' k hf' (st.permL hp)
theorem Step.drop1 {m : Mem} {e : Own} {S : Store} {w : World} (h : WRel m (e :: S) w) : Step m (e :: S) w m S w :=
 ⟨h.tail, rfl, rfl, rfl, Yap _, λ _ _ _ => rfl, Sub.refl m, λ _ _ _ h => .inl h, λ b hb => .inl (by
  unfold dom; rw [Yk]; split
  .exact hb
  exact Yd _ hb)⟩
theorem Step.dropAll {m : Mem} {w : World} : ∀ {S T : Store}, WRel m (S ++ T) w -> Step m (S ++ T) w m T w
 | [], T, h => Step.refl h
 | e :: S, T, h => (Step.drop1 (e := e) (S := S ++ T) h).trans (Step.dropAll h.tail)
theorem VW.drop {P : Program} {nt : Nat} {c : Code} {Q : Exit -> Fr -> Store -> Prop} {F : Fr} {S T : Store} (h : VW P nt c Q F T) : VW P nt c Q F (S ++ T) :=
 λ m w a QQ hf hw hK => h m w a QQ hf (Step.dropAll hw).rel λ e F' S' m' w' a' k hf' st => hK e F' S' m' w' a' k hf' ((Step.dropAll hw).trans st)
theorem VOps_nil {P : Program} {nt : Nat} {ops : List Oper} {F : Fr} {S : Store} {Q : Fr -> Store -> Prop} (h : Q F S) : VOps P nt ops [] F S Q :=
 λ m w a QQ hf hw hK => hK F S m w a h hf (Step.refl hw)
theorem wanted_of {ops : List Oper} {m : Mem} {nt : Nat} {F : Fr} {a : Act} {o : Oper} {b : Bool} (hf : FRel m nt F a) (h : wantOf ops F o = some b) : Region.wanted o (yielded ops.toArray a.tmps) = b := by
 unfold wantOf at h
 unfold Region.wanted
 cases hg : o.guard with
 | none => rw [hg] at h; injection h
 | some jw =>
  obtain ⟨j, want⟩ := jw
  rw [hg] at h
  dsimp only at h ⊢
  cases hd : (ops[j]?).bind (·.dst) with
  | none => rw [hd] at h; cases h
  | some d =>
   rw [hd] at h
   dsimp only at h
   cases hv : F.get d with
   | none => rw [hv] at h; cases h
   | some v =>
    rw [hv] at h
    have hr := hf.get d v hv
    cases v with
    | raw u =>
     cases u with
     | bool c =>
      injection h with h
      have hu : a.tmps.getD d undef = .bool c := hr
      have hd' : a.tmps[d]? = some (.bool c) := by
       rcases Yas d a.tmps.size with hl | hl
       .simpa [hl] using hu
       simp [Array.getElem?_eq_none hl, undef] at hu
      have hop : (ops.toArray[j]?).bind (·.dst) = some d := by simpa using hd
      unfold yielded
      rw [hop, Option.bind_some, hd']
      simp only
      rw [<- h]
      cases c <;> cases want <;> rfl
     | _ => cases h
    | _ => cases h
theorem VOps_cons {P : Program} {nt : Nat} {ops l : List Oper} {F : Fr} {S : Store} {Q : Fr -> Store -> Prop} {o : Oper} (hw : wantOf ops F o = some true) (hd : dstOk nt o.dst = true)
  (h : VOp P nt o F S λ r S' => VOps P nt ops l (F.put o.dst r) S' Q) : VOps P nt ops (o :: l) F S Q := by
 intro m w a QQ hf hwr hK
 refine wpList_step λ K hKl => ?_
 rw [if_pos (wanted_of hf hw)]
 refine h m w a K QQ hf hwr λ r S' m' w' u hk hr st => hKl _ _ ?_
 exact hk m' w' _ QQ ((hf.mono st.mono).put hd hr) st.rel λ F' S2 m2 w2 a2 q hf2 st2 => hK F' S2 m2 w2 a2 q hf2 (st.trans st2)
theorem VW_region {P : Program} {nt id : Nat} {l : List Oper} {F : Fr} {S : Store} {Q : Exit -> Fr -> Store -> Prop} (h : VOps P nt l l F S (Q .normal)) : VW P nt (.region id l.toArray false) Q F S :=
 λ m w a QQ hf hw hK => wp_region_lit (h m w a QQ hf hw λ F' S' m' w' a' q => hK _ F' S' m' w' a' q)
def Then (next : Fr -> Store -> Prop) (Q : Exit -> Fr -> Store -> Prop) : Exit -> Fr -> Store -> Prop
 | .normal, F, S => next F S
 | e, F, S => Q e F S
def InBlock (id : Nat) (Q : Exit -> Fr -> Store -> Prop) : Exit -> Fr -> Store -> Prop
 | .exit id', F, S => bif Yam id' id then Q .normal F S else Q (.exit id') F S
 | e, F, S => Q e F S
section
variable {P : Program} {nt : Nat} {F : Fr} {S : Store} {Q : Exit -> Fr -> Store -> Prop}
theorem VW_skip (h : Q .normal F S) : VW P nt .skip Q F S := λ m w a QQ hf hw hK => wp_skip (hK _ F S m w a h hf (Step.refl hw))
theorem VW_ret (h : Q .ret F S) : VW P nt .ret Q F S := λ m w a QQ hf hw hK => wp_ret (hK _ F S m w a h hf (Step.refl hw))
theorem VW_exit {id : Nat} (h : Q (.exit id) F S) : VW P nt (.exit id) Q F S := λ m w a QQ hf hw hK => wp_exit (hK _ F S m w a h hf (Step.refl hw))
theorem VW_seq {x y : Code} (h : VW P nt x (Then (VW P nt y Q) Q) F S) : VW P nt (.seq x y) Q F S := by
 intro m w a QQ hf hw hK
 refine wp_seq (h m w a _ hf hw λ e F' S' m' w' a' k hf' st => ?_)
 cases e with
 | normal => exact k m' w' a' QQ hf' st.rel λ e2 F2 S2 m2 w2 a2 k2 hf2 st2 => hK e2 F2 S2 m2 w2 a2 k2 hf2 (st.trans st2)
 | exit id => exact hK _ F' S' m' w' a' k hf' st
 | goto l => exact hK _ F' S' m' w' a' k hf' st
 | ret => exact hK _ F' S' m' w' a' k hf' st
 | panic ch => exact hK _ F' S' m' w' a' k hf' st
 | outgrown => exact hK _ F' S' m' w' a' k hf' st
theorem VW_cond {c : Operand} {x y : Code} {b : Bool} (hc : F.ev c = some (.raw (.bool b))) (ht : b = true -> VW P nt x Q F S) (he : b = false -> VW P nt y Q F S) : VW P nt (.cond c x y) Q F S := by
 intro m w a QQ hf hw hK
 have hb : a.eval c = .bool b := hf.ev hc
 exact wp_cond_split hb (λ h => ht h m w a QQ hf hw hK) (λ h => he h m w a QQ hf hw hK)
theorem VW_block {id : Nat} {c : Code} (h : VW P nt c (InBlock id Q) F S) : VW P nt (.block id c) Q F S := by
 intro m w a QQ hf hw hK
 refine wp_block (h m w a _ hf hw λ e F' S' m' w' a' k hf' st => ?_)
 cases e with
 | exit id' =>
  simp only [InBlock] at k
  simp only [Exit.inBlock]
  cases hb : Yam id' id with
  | true =>
   rw [hb, cond_true] at k
   rw [if_pos (Yan hb)]
   exact hK _ F' S' m' w' a' k hf' st
  | false =>
   rw [hb, cond_false] at k
   rw [if_neg (by intro h; subst h; simp at hb)]
   exact hK _ F' S' m' w' a' k hf' st
 | normal => exact hK _ F' S' m' w' a' k hf' st
 | goto l => exact hK _ F' S' m' w' a' k hf' st
 | ret => exact hK _ F' S' m' w' a' k hf' st
 | panic ch => exact hK _ F' S' m' w' a' k hf' st
 | outgrown => exact hK _ F' S' m' w' a' k hf' st
theorem VW_loop {c : Code} (I : Nat -> Fr -> Store -> Prop) (n0 : Nat) (h0 : I n0 F S)
  (round : ∀ n F S, I n F S -> VW P nt c (Then (λ F' S' => ∃ n', n' < n /\ I n' F' S') Q) F S) : VW P nt (.loop c) Q F S := by
 intro m w a QQ hf hw hK b k cs
 have key : ∀ n F1 S1 m' w' a', I n F1 S1 -> FRel m' nt F1 a' -> Step m S w m' S1 w' ->
   ∃ e a2 w2, QQ e a2 w2 /\ Arrives P (lone (b.at a' (.code c :: .inLoop c :: k)) cs w') b k cs e a2 w2 := by
  intro n
  induction n using Nat.strongRecOn with
  | _ n ih =>
   intro F1 S1 m' w' a' hI hf' st
   obtain ⟨e, a₁, w₁, hq, harr⟩ := round n F1 S1 hI m' w' a' (λ e a2 w2 => match e with
    | .normal => ∃ n' F2 S2 m2, n' < n /\ I n' F2 S2 /\ FRel m2 nt F2 a2 /\ Step m S w m2 S2 w2
    | e => QQ e a2 w2) hf' st.rel (λ e F2 S2 m2 w2 a2 k2 hf2 st2 => by
     cases e with
     | normal => obtain ⟨n', hn', hI'⟩ := k2; exact ⟨n', F2, S2, m2, hn', hI', hf2, st.trans st2⟩
     | exit id => exact hK _ F2 S2 m2 w2 a2 k2 hf2 (st.trans st2)
     | goto l => exact hK _ F2 S2 m2 w2 a2 k2 hf2 (st.trans st2)
     | ret => exact hK _ F2 S2 m2 w2 a2 k2 hf2 (st.trans st2)
     | panic ch => exact hK _ F2 S2 m2 w2 a2 k2 hf2 (st.trans st2)
     | outgrown => exact hK _ F2 S2 m2 w2 a2 k2 hf2 (st.trans st2)) b (.inLoop c :: k) cs
   cases e with
   | normal =>
    obtain ⟨n', F2, S2, m2, hn', hI', hf2, st2⟩ := hq
    obtain ⟨e₂, a₂, w₂, hq₂, harr₂⟩ := ih n' hn' F2 S2 m2 w₁ a₁ hI' hf2 st2
    exact ⟨e₂, a₂, w₂, hq₂, .of_steps (Steps.trans harr (.one step_inLoop)) harr₂⟩
   | exit id => exact ⟨_, a₁, w₁, hq, .pass (x := .inLoop c) rfl (λ _ _ => .inl (by simp)) harr⟩
   | goto l => exact ⟨_, a₁, w₁, hq, .pass (x := .inLoop c) rfl (λ _ _ => .inl (by simp)) harr⟩
   | ret => exact ⟨_, a₁, w₁, hq, .pass (x := .inLoop c) rfl (λ _ _ => .inl (by simp)) harr⟩
   | panic ch => exact ⟨_, a₁, w₁, hq, .pass (x := .inLoop c) rfl (λ _ _ => .inl (by simp)) harr⟩
   | outgrown => exact ⟨_, a₁, w₁, hq, .pass (x := .inLoop c) rfl (λ _ _ => .inl (by simp)) harr⟩
 obtain ⟨e, a', w', hq, harr⟩ := key n0 F S m w a h0 hf (Step.refl hw)
 exact ⟨e, a', w', hq, .of_steps (.one step_loop) harr⟩
end
def VRes (P : Program) (nt : Nat) (fn : Func) (F : Fr) (S : Store) (r : V) : Prop :=
 ∀ m w a, FRel m nt F a -> WRel m S w -> ∃ u, (results fn a.tmps).run P w = .ok u w /\ Rep m r u
def VRet (P : Program) (nt : Nat) (fn : Func) (R : V -> Store -> Prop) : Exit -> Fr -> Store -> Prop
 | .normal, F, S | .ret, F, S => ∃ r, VRes P nt fn F S r /\ R r S
 | _, _, _ => False
def argFr : Nat -> List V -> Fr
 | _, [] => []
 | i, v :: vs => (i, some v) :: argFr (i + 1) vs
theorem argFr_get {m : Mem} : ∀ {vs : List V} {us : List Value}, RepL m vs us -> ∀ (k i : Nat) (v : V), (argFr k vs).get i = some v -> k <= i /\ ∃ u, us[i - k]? = some u /\ Rep m v u
 | [], us, _, k, i, v, h => by cases h
 | x :: vs, us, ⟨u, us', e, r, h⟩, k, i, v, hv => by
  subst e
  simp only [argFr, Fr.get] at hv
  cases hb : Yam i k with
  | true =>
   rw [hb, cond_true] at hv
   have hik := Yan hb
   subst hik
   injection hv with hv
   subst hv
   exact ⟨Yap _, u, by simp, r⟩
  | false =>
   rw [hb, cond_false] at hv
   obtain ⟨h1, u', h2, h3⟩ := argFr_get h (k + 1) i v hv
   refine ⟨by omega, u', ?_, h3⟩
   rw [show i - k = (i - (k + 1)) + 1 by omega]
   simpa using h2
theorem VCalls_of {P : Program} {f : FuncId} {fn : Func} {c : Code} {args : List V} {S : Store} {R : V -> Store -> Prop} (hf : P.funcs[f]? = some fn) (hb : fn.body = some c)
  (hn : Yao args.length fn.ntmps = true) (h : VW P fn.ntmps c (VRet P fn.ntmps fn R) (argFr 0 args) S) : VCalls P f args S R := by
 intro m w us hr hw
 have hl := hr.length
 have hn' := Yaq hn
 refine calls_of_wp hf hb (h m w _ _ ⟨rfl, ?_, ?_⟩ hw ?_)
 .simp; omega
 .intro i v hv
  obtain ⟨_, u, h2, h3⟩ := argFr_get hr 0 i v hv
  simp only [Nat.sub_zero] at h2
  have hi : i < us.length := (Yc.1 h2).1
  have : (us.toArray ++ Array.replicate (fn.ntmps - us.toArray.size) undef).getD i undef = u := by
   simp [Array.getElem?_append, hi, h2]
   simpa [Yg hi] using h2
  rw [this]
  exact h3
 intro e F' S' m' w' a' hq hf' st
 cases e with
 | normal =>
  obtain ⟨r, hres, hR⟩ := hq
  obtain ⟨u, hu, hru⟩ := hres m' w' a' hf' st.rel
  exact ⟨hf'.defers, u, hu, r, S', m', u, hR, rfl, hru, st⟩
 | ret =>
  obtain ⟨r, hres, hR⟩ := hq
  obtain ⟨u, hu, hru⟩ := hres m' w' a' hf' st.rel
  exact ⟨hf'.defers, u, hu, r, S', m', u, hR, rfl, hru, st⟩
 | exit id => exact hq.elim
 | goto l => exact hq.elim
 | panic ch => exact hq.elim
 | outgrown => exact hq.elim
theorem cell_of_heap {w w' : World} {b o : Nat} (h : w'.heap[b]? = w.heap[b]?) : w'.cell? ⟨b, o, none⟩ = w.cell? ⟨b, o, none⟩ := World.cell?_of_block (w := w) h
theorem mem_set_cases {α : Type} {l : List α} {i : Nat} {x y : α} (h : y ∈ l.set i x) : y = x \/ y ∈ l := by
 rcases List.mem_or_eq_of_mem_set h with h | h
 .exact .inr h
 exact .inl h
theorem dom_set {S : Store} {i : Nat} {e e' : Own} (hi : S[i]? = some e) (hd : e'.dom = e.dom) : dom (S.set i e') = dom S := by
 induction S generalizing i with
 | nil => simp at hi
 | cons x S ih =>
  cases i with
  | zero =>
   simp at hi
   subst hi
   simp [dom, Yk, hd]
  | succ i =>
   simp at hi
   have := ih hi
   simp only [dom, Yab, Yk] at this ⊢
   rw [this]
theorem other_dom {S : Store} {i j : Nat} {e x : Own} {g : Nat} (hn : (dom S).Nodup) (hi : S[i]? = some e) (hj : S[j]? = some x) (hij : i ≠ j) (hd : e.dom = some g) : x.dom ≠ some g := by
 induction S generalizing i j with
 | nil => simp at hi
 | cons y S ih =>
  intro hx
  have hmem : ∀ {k : Nat} {z : Own}, S[k]? = some z -> z.dom = some g -> g ∈ dom S := λ hk hz => Yn.2 ⟨_, Yh hk, hz⟩
  cases i with
  | zero =>
   simp at hi
   subst hi
   cases j with
   | zero => exact hij rfl
   | succ j =>
    simp at hj
    simp only [dom, Yk, hd] at hn
    exact (Yp.1 hn).1 (hmem hj hx)
  | succ i =>
   simp at hi
   cases j with
   | zero =>
    simp at hj
    subst hj
    simp only [dom, Yk, hx] at hn
    exact (Yp.1 hn).1 (hmem hi hd)
   | succ j =>
    simp at hj
    refine ih ?_ hi hj (by omega) hx
    simp only [dom, Yk] at hn
    split at hn
    .exact hn
    exact (Yp.1 hn).2
theorem Step.update {m m' : Mem} {S : Store} {w w' : World} {i : Nat} {e e' : Own} {g : Nat} (hw : WRel m S w) (hi : S[i]? = some e) (hd : e.dom = some g) (hd' : e'.dom = some g)
  (h1 : w'.os = w.os) (h2 : w'.tape = w.tape) (h3 : w'.output = w.output) (h4 : w'.heap.size = w.heap.size) (h5 : ∀ b, b ≠ g -> w'.heap[b]? = w.heap[b]?)
  (hm : Sub m m') (ho : ∀ b o v, b ≠ g -> m' b o = some v -> m b o = some v) (hag : ∀ o v, m' g o = some v -> w'.cell? ⟨g, o, none⟩ = some v) (he : e'.holds m' w') :
  Step m S w m' (S.set i e') w' := by
 have hg : g ∈ dom S := Yn.2 ⟨e, Yh hi, hd⟩
 have hdom := dom_set (e' := e') hi (by rw [hd, hd'])
 refine ⟨⟨?_, by rw [hdom]; exact hw.nodup, ?_⟩, h1, h2, h3, by omega, ?_, hm, ?_, ?_⟩
 .intro b o v hv
  by_cases hb : b = g
  .subst hb; exact hag o v hv
  rw [cell_of_heap (h5 b hb)]; exact hw.agree b o v (ho b o v hb hv)
 .intro x hx
  obtain ⟨j, hj⟩ := Yac hx
  rw [List.getElem?_set] at hj
  by_cases hij : i = j
  .rw [if_pos hij] at hj
   have hil : i < S.length := (Yc.1 hi).1
   rw [if_pos hil] at hj
   injection hj with hj
   subst hj
   exact he
  rw [if_neg hij] at hj
  have hne := other_dom hw.nodup hi hj hij hd
  exact Own.holds_kept (hw.holds x (Yh hj)) hm (λ b hb => h5 b (λ h => hne (h ▸ hb))) (λ b hb o v hv => ho b o v (λ h => hne (h ▸ hb)) hv)
 .intro b hb hn
  exact h5 b (λ h => hn (h ▸ hg))
 .intro b o v hv
  by_cases hb : b = g
  .exact .inr (.inl (hb ▸ hg))
  exact .inl (ho b o v hb hv)
 intro b hb
 rw [hdom] at hb
 exact .inl hb
theorem alloc_heap (w : World) (o : Obj) : (w.alloc o).heap[w.heap.size]? = some o := by
 show (w.heap.push o)[w.heap.size]? = _
 simp
theorem Step.alloc {m m' : Mem} {S : Store} {w : World} {o : Obj} {e' : Own} (hw : WRel m S w) (hd' : e'.dom = some w.heap.size)
  (hm : Sub m m') (ho : ∀ b o v, b ≠ w.heap.size -> m' b o = some v -> m b o = some v) (hag : ∀ k v, m' w.heap.size k = some v -> (w.alloc o).cell? ⟨w.heap.size, k, none⟩ = some v) (he : e'.holds m' (w.alloc o)) :
  Step m S w m' (e' :: S) (w.alloc o) := by
 have hne : ∀ b, b ∈ dom S -> b ≠ w.heap.size := λ b hb h => by have := hw.dom_lt hb; omega
 have hheap : ∀ b, b < w.heap.size -> (w.alloc o).heap[b]? = w.heap[b]? := λ b hb => RowKit.Below.heap_alloc w o b hb
 refine ⟨⟨?_, ?_, ?_⟩, rfl, rfl, rfl, by simp, λ b hb _ => hheap b hb, hm, ?_, ?_⟩
 .intro b k v hv
  by_cases hb : b = w.heap.size
  .subst hb; exact hag k v hv
  have hb' := ho b k v hb hv
  rw [cell_of_heap (hheap b (hw.mem_lt hb'))]
  exact hw.agree b k v hb'
 .simp only [dom, Yk, hd']
  exact Yp.2 ⟨λ h => hne _ h rfl, hw.nodup⟩
 .intro x hx
  rcases Yf.1 hx with rfl | hx
  .exact he
  have hxd : ∀ g, x.dom = some g -> g ∈ dom S := λ g hg => Yn.2 ⟨x, hx, hg⟩
  exact Own.holds_kept (hw.holds x hx) hm (λ g hg => hheap g (hw.dom_lt (hxd g hg))) (λ g hg k v hv => ho g k v (hne g (hxd g hg)) hv)
 .intro b k v hv
  by_cases hb : b = w.heap.size
  .exact .inr (.inr (by omega))
  exact .inl (ho b k v hb hv)
 intro b hb
 simp only [dom, Yk, hd'] at hb
 rcases Yf.1 hb with rfl | hb
 .exact .inr (Yap _)
 exact .inl hb
def Mem.new (m : Mem) (g : Nat) (cs : List Value) : Mem := λ b o => if b = g then cs[o]? else m b o
theorem Step.allocImm {m : Mem} {S : Store} {w : World} {cs : Array Value} {T : TypeId} (hw : WRel m S w) :
  Step m S w (m.new w.heap.size cs.toList) S (w.alloc (.cells cs T)) := by
 have hnone : ∀ o, m w.heap.size o = none := λ o => by
  cases h : m w.heap.size o with
  | none => rfl
  | some v => have := hw.mem_lt h; omega
 have hsub : Sub m (m.new w.heap.size cs.toList) := λ b o v hv => by
  unfold Mem.new
  by_cases hb : b = w.heap.size
  .subst hb; rw [hnone o] at hv; cases hv
  rw [if_neg hb]; exact hv
 have := Step.alloc (m' := m.new w.heap.size cs.toList) (o := .cells cs T) (e' := .buf (.at w.heap.size cs.size) T 1 cs.size) hw rfl hsub
  (λ b o v hb hv => by unfold Mem.new at hv; rwa [if_neg hb] at hv)
  (λ k v hv => by unfold Mem.new at hv; rw [if_pos rfl] at hv; simpa using hv)
  ⟨Yap _, ⟨cs, alloc_heap _ _, by simp⟩, λ o ho => by unfold Mem.new; rw [if_pos rfl]; simp; omega⟩
 exact this.trans (Step.drop1 this.rel)
structure LeafTy (P : Program) (t : TypeId) : Prop where
 desc : ∃ d, P.underlying t = some d /\ d.isRow = false
 size : (P.info? t).map (·.size) = some 1
structure AggTy (P : Program) (t sz : Nat) : Prop where
 desc : ∃ d, P.underlying t = some d /\ d.isRow = true
 size : (P.info? t).map (·.size) = some sz
structure FieldTy (P : Program) (s f off sz : Nat) (agg : Bool) : Prop where
 fld : ∃ fs fd, P.underlying s = some (.struct fs) /\ fs[f]? = some fd /\ fd.offset = off /\ (P.info? fd.type).map (·.size) = some sz /\ (∃ d, P.underlying fd.type = some d /\ d.isRow = agg) /\ sz ≠ 0
structure SliceTy (P : Program) (t e sz bytes : Nat) (z : Value) : Prop where
 und : P.underlying t = some (.slice e)
 info : ∃ i, P.info? e = some i /\ i.size = sz /\ i.bytes = bytes /\ i.zero = some z
 cells : z.cells.size = sz
 pos : 0 < sz /\ 0 < bytes
section
variable {P : Program} {w : World}
theorem LeafTy.run_loadVar {t : TypeId} (h : LeafTy P t) (a : Addr) : (loadVar t a).run P w = (load a).run P w := by
 obtain ⟨d, hd, hr⟩ := h.desc
 have : (isAgg t).run P w = .ok false w := by
  unfold isAgg
  rw [Sem.run_bind, run_underlying hd w]
  cases d <;> simp_all
 simp [loadVar, this]
theorem run_sizeOf' {t sz : Nat} (h : (P.info? t).map (·.size) = some sz) : (sizeOf t).run P w = .ok sz w := by
 cases hq : P.info? t with
 | none => simp [hq] at h
 | some i => simp [hq] at h; simp [sizeOf, typeInfo, hq, h]
end
section
variable {P : Program} {nt : Nat} {F : Fr} {S : Store} {K : Option V -> Store -> Prop}
theorem VOp_pure {o : Oper} (r : Option V) (h : ∀ m w a, FRel m nt F a -> WRel m S w -> ∃ u, (execOp a.eval o).run P w = .ok (.value u) w /\ RepO m r u) (hk : K r S) : VOp P nt o F S K := by
 intro m w a KK QQ hf hw hK
 obtain ⟨u, hu, hr⟩ := h m w a hf hw
 unfold Oper.wp
 rw [hu]
 exact hK r S m w u hk hr (Step.refl hw)
variable {d : Option Tmp} {ty : TypeId} {pos : String} {af : Array Edge} {gd : Option (Nat × Bool)}
theorem V_move {x : Operand} {v : V} (hx : F.ev x = some v) (hk : K (some v) S) : VOp P nt ⟨d, .move x, ty, pos, af, gd⟩ F S K :=
 VOp_pure (some v) (λ m w a hf hw => ⟨a.eval x, rfl, hf.ev hx⟩) hk
theorem V_assign {x : Operand} {v : V} (hx : F.ev x = some v) (hk : K (some v) S) : VOp P nt ⟨d, .assign x, ty, pos, af, gd⟩ F S K :=
 VOp_pure (some v) (λ m w a hf hw => ⟨a.eval x, rfl, hf.ev hx⟩) hk
theorem V_pick {c x y : Operand} {b : Bool} {v : V} (hc : F.ev c = some (.bool b)) (hv : (bif b then F.ev x else F.ev y) = some v) (hk : K (some v) S) : VOp P nt ⟨d, .pick c x y, ty, pos, af, gd⟩ F S K := by
 refine VOp_pure (some v) (λ m w a hf hw => ?_) hk
 have hb : a.eval c = .bool b := hf.ev hc
 cases b with
 | true => exact ⟨a.eval x, by simp [execOp, hb, asBool], hf.ev hv⟩
 | false => exact ⟨a.eval y, by simp [execOp, hb, asBool], hf.ev hv⟩
def vbin64 : BinOp -> Int -> Int -> Option V
 | .add, a, b => some (.int (IntKind.i64.wrap (a + b)))
 | .sub, a, b => some (.int (IntKind.i64.wrap (a - b)))
 | .mul, a, b => some (.int (IntKind.i64.wrap (a * b)))
 | .eql, a, b => some (.bool (a == b))
 | .neq, a, b => some (.bool (a != b))
 | .lss, a, b => some (.bool (decide (a < b)))
 | .leq, a, b => some (.bool (decide (a <= b)))
 | .gtr, a, b => some (.bool (decide (a > b)))
 | .geq, a, b => some (.bool (decide (a ≥ b)))
 | _, _, _ => none
theorem eqGuard_int {op : BinOp} {t : TypeId} {x y : Operand} {k k' : IntKind} {a b : Int} {w : World} : (eqGuard op t x y (.int k a) (.int k' b)).run P w = .ok () w := by
 cases op <;> rfl
theorem V_bin {op : BinOp} {t t2 : TypeId} {x y : Operand} {a b : Int} {r : V} (hx : F.ev x = some (.int a)) (hy : F.ev y = some (.int b)) (hr : vbin64 op a b = some r) (hk : K (some r) S) :
    VOp P nt ⟨d, .binOp op t x y t2, ty, pos, af, gd⟩ F S K := by
  refine VOp_pure (some r) (λ m w ac hf hw => ?_) hk
  have ha : ac.eval x = .int .i64 a := hf.ev hx
  have hb : ac.eval y = .int .i64 b := hf.ev hy
  cases op <;> first
    | (simp [vbin64] at hr; done)
    | (injection hr with hr
       subst hr
       refine ⟨_, ?_, rfl⟩
       simp only [execOp, ha, hb, Sem.run_bind, eqGuard_int, Result.andThen_ok]
       simp [binOp, Op.intArith, Op.intCmp])
theorem V_add {t t2 : TypeId} {x y : Operand} {a b : Int} (hx : F.ev x = some (.int a)) (hy : F.ev y = some (.int b)) (h : -9223372036854775808 <= a + b /\ a + b <= 9223372036854775807) (hk : K (some (.int (a + b))) S) :
  VOp P nt ⟨d, .binOp .add t x y t2, ty, pos, af, gd⟩ F S K := by
 refine V_bin hx hy rfl ?_
 rwa [IntWalk.i64_in _ h]
theorem V_sub {t t2 : TypeId} {x y : Operand} {a b : Int} (hx : F.ev x = some (.int a)) (hy : F.ev y = some (.int b)) (h : -9223372036854775808 <= a - b /\ a - b <= 9223372036854775807) (hk : K (some (.int (a - b))) S) :
  VOp P nt ⟨d, .binOp .sub t x y t2, ty, pos, af, gd⟩ F S K := by
 refine V_bin hx hy rfl ?_
 rwa [IntWalk.i64_in _ h]
theorem bytes_toList (s : List UInt8) : (⟨s.toArray⟩ : ByteArray).toList = s := by
 simp
theorem V_streq {t t2 : TypeId} {x y : Operand} {a b : List UInt8} (hx : F.ev x = some (.str a)) (hy : F.ev y = some (.str b)) (hk : K (some (.bool (a == b))) S) :
  VOp P nt ⟨d, .binOp .eql t x y t2, ty, pos, af, gd⟩ F S K := by
 refine VOp_pure (some (.bool (a == b))) (λ m w ac hf hw => ?_) hk
 have ha : ac.eval x = .string ⟨a.toArray⟩ := hf.ev hx
 have hb : ac.eval y = .string ⟨b.toArray⟩ := hf.ev hy
 refine ⟨.bool (a == b), ?_, rfl⟩
 simp only [execOp, ha, hb, Sem.run_bind]
 simp [eqGuard, binOp, Op.stringOp]
theorem V_strne {t t2 : TypeId} {x y : Operand} {a b : List UInt8} (hx : F.ev x = some (.str a)) (hy : F.ev y = some (.str b)) (hk : K (some (.bool (a != b))) S) :
  VOp P nt ⟨d, .binOp .neq t x y t2, ty, pos, af, gd⟩ F S K := by
 refine VOp_pure (some (.bool (a != b))) (λ m w ac hf hw => ?_) hk
 have ha : ac.eval x = .string ⟨a.toArray⟩ := hf.ev hx
 have hb : ac.eval y = .string ⟨b.toArray⟩ := hf.ev hy
 refine ⟨.bool (a != b), ?_, rfl⟩
 simp only [execOp, ha, hb, Sem.run_bind]
 simp [eqGuard, binOp, Op.stringOp, bne]
theorem V_not {t : TypeId} {x : Operand} {b : Bool} (hx : F.ev x = some (.bool b)) (hk : K (some (.bool (!b))) S) : VOp P nt ⟨d, .unOp .not t x, ty, pos, af, gd⟩ F S K := by
 refine VOp_pure (some (.bool (!b))) (λ m w ac hf hw => ?_) hk
 have ha : ac.eval x = .bool b := hf.ev hx
 exact ⟨_, by simp [execOp, ha, Op.unary], rfl⟩
theorem V_extract {x : Operand} {i : Nat} {vs : List V} {v : V} (hx : F.ev x = some (.tup vs)) (hi : vs[i]? = some v) (hk : K (some v) S) : VOp P nt ⟨d, .extract x i, ty, pos, af, gd⟩ F S K := by
 refine VOp_pure (some v) (λ m w ac hf hw => ?_) hk
 obtain ⟨us, he, hr⟩ := hf.ev hx
 obtain ⟨u, hu, hru⟩ := hr.get hi
 exact ⟨u, by simp [execOp, he, Instr.extract, show us[i]? = some u by simpa using hu], hru⟩
theorem V_field {s x : Nat} {f off sz : Nat} {xo : Operand} {ls : List V} {v : V} (ht : FieldTy P s f off sz false) (hx : F.ev xo = some (.agg ls)) (hv : ls[off]? = some v) (hk : K (some v) S) : VOp P nt ⟨d, .field s xo f, ty, pos, af, gd⟩ F S K := by
 refine VOp_pure (some v) (λ m w ac hf hw => ?_) hk
 obtain ⟨_, cs, he, hr⟩ := hf.ev hx
 obtain ⟨u, hu, hru⟩ := hr.get hv
 obtain ⟨fs, fd, h1, h2, h3, h4, ⟨dd, h5, h6⟩, h7⟩ := ht.fld
 refine ⟨u, ?_, hru⟩
 have hagg : (isAgg fd.type).run P w = .ok false w := by
  unfold isAgg
  rw [Sem.run_bind, run_underlying h5 w]
  cases dd <;> simp_all
 have hcs : cs[fd.offset]? = some u := by rw [h3]; simpa using hu
 simp [execOp, he, Instr.field, run_underlying h1 w, h2, asAgg, part, hagg, hcs]
theorem V_nilCheck {x : Operand} {a : Addr} (hx : F.ev x = some (.raw (.pointer (some a)))) (hk : K (some (.raw (.pointer (some a)))) S) : VOp P nt ⟨d, .nilCheck x, ty, pos, af, gd⟩ F S K := by
 refine VOp_pure _ (λ m w ac hf hw => ?_) hk
 have ha : ac.eval x = .pointer (some a) := hf.ev hx
 exact ⟨.pointer (some a), by simp [execOp, ha], rfl⟩
theorem V_nilCheck_ep {x : Operand} {a : Addr} {v : V} (hx : F.ev x = some (.ep a v)) (hk : K (some (.ep a v)) S) : VOp P nt ⟨d, .nilCheck x, ty, pos, af, gd⟩ F S K := by
 refine VOp_pure _ (λ m w ac hf hw => ?_) hk
 have ha := hf.ev hx
 obtain ⟨h1, h2⟩ := ha
 exact ⟨ac.eval x, by simp [execOp, h1], h1, h2⟩
theorem fieldPlace_run {w : World} {fd : Field} {sz : Nat} (h : (P.info? fd.type).map (·.size) = some sz) (h0 : sz ≠ 0) (a : Addr) : (fieldPlace a fd).run P w = .ok (a.add fd.offset) w := by
 simp [fieldPlace, run_sizeOf' h, h0]
theorem addr_add (g o k : Nat) : (⟨g, o, none⟩ : Addr).add k = ⟨g, o + k, none⟩ := Addr.add_mid g o k
theorem V_fieldAddr {s f off sz : Nat} {agg : Bool} {x : Operand} {g o : Nat} (ht : FieldTy P s f off sz agg) (hx : F.ev x = some (.ptr g o)) (hk : K (some (.ptr g (o + off))) S) : VOp P nt ⟨d, .fieldAddr s x f, ty, pos, af, gd⟩ F S K := by
 refine VOp_pure _ (λ m w ac hf hw => ?_) hk
 have ha : ac.eval x = .pointer (some ⟨g, o, none⟩) := hf.ev hx
 obtain ⟨fs, fd, h1, h2, h3, h4, _, h7⟩ := ht.fld
 refine ⟨.pointer (some ⟨g, o + off, none⟩), ?_, rfl⟩
 simp [execOp, ha, Instr.fieldAt, run_underlying h1 w, h2, Instr.sureAddr, fieldPlace_run h4 h7, h3, addr_add]
theorem V_fieldAddr_ep {s f off sz : Nat} {x : Operand} {a : Addr} {ls : List V} {v : V} (ht : FieldTy P s f off sz false) (hx : F.ev x = some (.ep a (.agg ls))) (hv : ls[off]? = some v)
  (hk : K (some (.ep ⟨a.block, a.off + off, none⟩ v)) S) : VOp P nt ⟨d, .fieldAddr s x f, ty, pos, af, gd⟩ F S K := by
 refine VOp_pure _ (λ m w ac hf hw => ?_) hk
 obtain ⟨ha, hs, u, ⟨hl, cs, rfl, hr⟩, hat⟩ := hf.ev hx
 obtain ⟨fs, fd, h1, h2, h3, h4, _, h7⟩ := ht.fld
 obtain ⟨u, hu, hru⟩ := hr.get hv
 obtain ⟨b, o, sp⟩ := a
 dsimp only at hs
 subst hs
 refine ⟨.pointer (some ⟨b, o + off, none⟩), ?_, rfl, rfl, u, hru, λ j u' hu' => ?_⟩
 .simp [execOp, ha, Instr.fieldAt, run_underlying h1 w, h2, Instr.sureAddr, fieldPlace_run h4 h7, h3, addr_add]
 have h1c : u.oneCell' = true := hru.oneCell (by rw [Yb] at hl; exact hl v (Yh hv))
 rw [cells_oneCell h1c] at hu'
 have : j = 0 := by
  have := (Yc.1 hu').1
  simp at this
  exact this
 subst this
 simp at hu'
 subst hu'
 exact hat off u hu
theorem own_cells {m : Mem} {w : World} {i g : Nat} {T : TypeId} {ls : List V} (hw : WRel m S w) (hS : S[i]? = some (.cells g T ls)) : ls.all V.leaf = true /\ (∃ cs, w.heap[g]? = some (.cells cs T) /\ RepL m ls cs.toList) /\ ∀ o, m g o = none :=
 hw.holds _ (Yh hS)
theorem cell_at {w : World} {g o : Nat} {cs : Array Value} {T : TypeId} {u : Value} (h : w.heap[g]? = some (.cells cs T)) (hu : cs.toList[o]? = some u) : w.cell? ⟨g, o, none⟩ = some u := by
 simp [World.cell?, h]
 simpa using hu
theorem V_load (i : Nat) {t : TypeId} {x : Operand} {g o : Nat} {T : TypeId} {ls : List V} {v : V} (ht : LeafTy P t) (hx : F.ev x = some (.ptr g o)) (hS : S[i]? = some (.cells g T ls)) (hv : ls[o]? = some v) (hk : K (some v) S) :
  VOp P nt ⟨d, .load t x, ty, pos, af, gd⟩ F S K := by
 refine VOp_pure _ (λ m w ac hf hw => ?_) hk
 have ha : ac.eval x = .pointer (some ⟨g, o, none⟩) := hf.ev hx
 obtain ⟨_, ⟨cs, hh, hr⟩, _⟩ := own_cells hw hS
 obtain ⟨u, hu, hru⟩ := hr.get hv
 exact ⟨u, by simp [execOp, ha, Instr.loadAt, Instr.sureAddr, ht.run_loadVar, cell_at hh hu], hru⟩
theorem V_load_agg (i : Nat) {t sz : Nat} {x : Operand} {g o : Nat} {T : TypeId} {ls : List V} (ht : AggTy P t sz) (hx : F.ev x = some (.ptr g o)) (hS : S[i]? = some (.cells g T ls)) (hlen : Yao (o + sz) ls.length = true) (hk : K (some (.agg ((ls.drop o).take sz))) S) :
  VOp P nt ⟨d, .load t x, ty, pos, af, gd⟩ F S K := by
 refine VOp_pure _ (λ m w ac hf hw => ?_) hk
 have hlen := Yaq hlen
 have ha : ac.eval x = .pointer (some ⟨g, o, none⟩) := hf.ev hx
 obtain ⟨hl, ⟨cs, hh, hr⟩, _⟩ := own_cells hw hS
 have hcl := hr.length
 obtain ⟨dd, h1, h2⟩ := ht.desc
 have hr' : RepL m ((ls.drop o).take sz) ((cs.toList.drop o).take sz) := (hr.drop o).take sz
 have hll : ((cs.toList.drop o).take sz).length = sz := by simp only [Yl, Yq, hcl]; omega
 refine ⟨.agg ((cs.toList.drop o).take sz).toArray, ?_, ?_, _, rfl, hr'⟩
 .simp only [execOp, ha]
  rw [Sem.run_bind, run_loadAt_mid w g o t _ dd (λ j v hv => ?_) h1 h2 (by rw [hll]; exact ht.size)]
  .rfl
  rw [Yu] at hv
  split at hv
  .rw [Yad] at hv
   exact cell_at hh hv
  cases hv
 rw [Yb] at hl ⊢
 exact λ x hx => hl x (Yx (Yy hx))
theorem V_load_ep {t : TypeId} {x : Operand} {a : Addr} {v : V} (ht : LeafTy P t) (hx : F.ev x = some (.ep a v)) (hl : v.leaf = true) (hk : K (some v) S) :
  VOp P nt ⟨d, .load t x, ty, pos, af, gd⟩ F S K := by
 refine VOp_pure _ (λ m w ac hf hw => ?_) hk
 obtain ⟨ha, hs, u, hr, hat⟩ := hf.ev hx
 obtain ⟨b, o, sp⟩ := a
 dsimp only at hs
 subst hs
 have h1 := hr.oneCell hl
 rw [cells_oneCell h1] at hat
 have hc := hw.agree _ _ _ (hat 0 u (by simp))
 rw [Nat.add_zero] at hc
 exact ⟨u, by simp [execOp, ha, Instr.loadAt, Instr.sureAddr, ht.run_loadVar, hc], hr⟩
theorem V_load_ep_agg {t sz : Nat} {x : Operand} {a : Addr} {ls : List V} (ht : AggTy P t sz) (hx : F.ev x = some (.ep a (.agg ls))) (hlen : Yam ls.length sz = true) (hk : K (some (.agg ls)) S) :
  VOp P nt ⟨d, .load t x, ty, pos, af, gd⟩ F S K := by
 refine VOp_pure _ (λ m w ac hf hw => ?_) hk
 have hlen := Yan hlen
 obtain ⟨ha, hs, u, ⟨hl, cs, rfl, hr⟩, hat⟩ := hf.ev hx
 obtain ⟨b, o, sp⟩ := a
 dsimp only at hs
 subst hs
 obtain ⟨dd, h1, h2⟩ := ht.desc
 refine ⟨.agg cs, ?_, hl, cs, rfl, hr⟩
 simp only [execOp, ha]
 rw [Sem.run_bind, run_loadAt_mid w b o t cs.toList dd (λ j v hv => hw.agree _ _ _ (hat j v hv)) h1 h2 (by rw [hr.length, hlen]; exact ht.size)]
 rfl
theorem setCell_heap {w : World} {g o : Nat} {cs : Array Value} {T : TypeId} (h : w.heap[g]? = some (.cells cs T)) (u : Value) : (w.setCell ⟨g, o, none⟩ u).heap[g]? = some (.cells (cs.setIfInBounds o u) T) := by
 simp [World.setCell, Array.getElem?_modify, h]
theorem V_store (i : Nat) {t : TypeId} {x y : Operand} {g o : Nat} {T : TypeId} {ls : List V} {v : V} (ht : LeafTy P t) (hx : F.ev x = some (.ptr g o)) (hy : F.ev y = some v) (hl : v.leaf = true) (hS : S[i]? = some (.cells g T ls)) (hlen : Yao (o + 1) ls.length = true)
  (hk : K none (S.set i (.cells g T (ls.set o v)))) : VOp P nt ⟨d, .store t x y, ty, pos, af, gd⟩ F S K := by
 intro m w ac KK QQ hf hw hK
 have hlen := Yaq hlen
 have ha : ac.eval x = .pointer (some ⟨g, o, none⟩) := hf.ev hx
 have hv := hf.ev hy
 have h1 := hv.oneCell hl
 obtain ⟨hall, ⟨cs, hh, hr⟩, hm⟩ := own_cells hw hS
 have hcl := hr.length
 have hoc : o < cs.toList.length := by omega
 have hcell : w.cell? ⟨g, o, none⟩ = some (cs.toList[o]) := cell_at hh (Yg hoc)
 have hfz : w.frozen? ⟨g, o, none⟩ = false := by simp [World.frozen?, hh]
 have hsz : (sizeOf t).run P w = .ok 1 w := run_sizeOf' ht.size
 have hcsz : (ac.eval y).cells.size = 1 := by rw [cells_oneCell h1]; rfl
 have hrun : (execOp ac.eval ⟨d, .store t x y, ty, pos, af, gd⟩).run P w = .ok .skip (w.setCell ⟨g, o, none⟩ (ac.eval y)) := by
  simp only [execOp, Instr.storeAt, ha, Instr.sureAddr, storeVar, Sem.run_bind, Sem.run_pure, Result.andThen_ok, hsz, hcsz]
  rw [cells_oneCell h1]
  simp [storeCells, Addr.add, run_store P w ⟨g, o, none⟩ (ac.eval y) .plain h1, hcell, hfz]
 unfold Oper.wp
 rw [hrun]
 refine hK none _ m _ undef hk trivial ?_
 refine Step.update hw hS rfl rfl rfl rfl rfl (by simp) (λ b hb => ?_) (Sub.refl m) (λ b o v _ h => h) (λ o' v' h => by rw [hm o'] at h; cases h) ⟨?_, ⟨_, setCell_heap hh _, ?_⟩, hm⟩
 .exact RowKit.Below.heap_setCell _ _ _ _ hb
 .rw [Yb] at hall ⊢
  intro z hz
  rcases mem_set_cases hz with rfl | hz
  .exact hl
  exact hall z hz
 rw [Array.toList_setIfInBounds]
 exact hr.set o hv
theorem V_store_agg (i : Nat) {t sz : Nat} {x y : Operand} {g o : Nat} {T : TypeId} {ls vs : List V} (ht : AggTy P t sz) (hx : F.ev x = some (.ptr g o)) (hy : F.ev y = some (.agg vs)) (hvs : Yam vs.length sz = true) (hS : S[i]? = some (.cells g T ls)) (hlen : Yao (o + sz) ls.length = true)
  (hk : K none (S.set i (.cells g T (ls.take o ++ vs ++ ls.drop (o + sz))))) : VOp P nt ⟨d, .store t x y, ty, pos, af, gd⟩ F S K := by
 intro m w ac KK QQ hf hw hK
 have hlen := Yaq hlen
 have hvs := Yan hvs
 have ha : ac.eval x = .pointer (some ⟨g, o, none⟩) := hf.ev hx
 obtain ⟨hvl, us, hu, hru⟩ := hf.ev hy
 have hul := hru.length
 have h1 := hru.oneCells hvl
 obtain ⟨hall, ⟨cs, hh, hr⟩, hm⟩ := own_cells hw hS
 have hcl := hr.length
 have hst := run_storeCells_at (P := P) g o T us.toList 0 cs w hh (by simp at hcl hul ⊢; omega) h1
 have hsz : (sizeOf t).run P w = .ok sz w := run_sizeOf' ht.size
 have husz : us.size = sz := by simp at hul; omega
 have hnew : (cs.toList.take (o + 0) ++ us.toList ++ cs.toList.drop (o + 0 + us.toList.length)).toArray = (cs.toList.take o ++ us.toList ++ cs.toList.drop (o + sz)).toArray := by
  simp [husz]
 rw [hnew] at hst
 have hrun : (execOp ac.eval ⟨d, .store t x y, ty, pos, af, gd⟩).run P w = .ok .skip (w.setRow g (cs.toList.take o ++ us.toList ++ cs.toList.drop (o + sz)).toArray) := by
  simp only [execOp, Instr.storeAt, ha, hu, Instr.sureAddr, storeVar, Sem.run_bind, Sem.run_pure, Result.andThen_ok, hsz, Value.cells, husz]
  simp [hst]
 unfold Oper.wp
 rw [hrun]
 refine hK none _ m _ undef hk trivial ?_
 have hheap := setRow_heap w g cs (cs.toList.take o ++ us.toList ++ cs.toList.drop (o + sz)).toArray T (0, 0) hh
 refine Step.update hw hS rfl rfl rfl rfl rfl (by simp [World.setRow]) (λ b hb => ?_) (Sub.refl m) (λ b o v _ h => h) (λ o' v' h => by rw [hm o'] at h; cases h) ⟨?_, ⟨_, hheap, ?_⟩, hm⟩
 .simp [World.setRow, Array.getElem?_modify, Ne.symm hb]
 .rw [Yb] at hall hvl ⊢
  intro z hz
  rcases Yj.1 hz with hz | hz
  .rcases Yj.1 hz with hz | hz
   .exact hall z (Yy hz)
   exact hvl z hz
  exact hall z (Yx hz)
 exact ((hr.take o).append hru).append (hr.drop (o + sz))
theorem V_box {t : TypeId} {x : Operand} {v : V} (hx : F.ev x = some v) (hv : v.flat = true) (hk : ∀ g, K (some (.ptr g 0)) (.cells g t v.leaves :: S)) : VOp P nt ⟨d, .box t x, ty, pos, af, gd⟩ F S K := by
 intro m w ac KK QQ hf hw hK
 obtain ⟨hr, h1⟩ := (hf.ev hx).cells hv
 have hnone : ∀ o, m w.heap.size o = none := λ o => by
  cases h : m w.heap.size o with
  | none => rfl
  | some v => have := hw.mem_lt h; omega
 have hrun : (execOp ac.eval ⟨d, .box t x, ty, pos, af, gd⟩).run P w = .ok (.value (.pointer (some ⟨w.heap.size, 0, none⟩))) (w.alloc (.cells (ac.eval x).cells t)) := by
  simp [execOp, Instr.box, newVar, newRow]
 unfold Oper.wp
 rw [hrun]
 refine hK _ _ m _ _ (hk w.heap.size) rfl ?_
 refine Step.alloc hw rfl (Sub.refl m) (λ b o v _ h => h) (λ k v h => by rw [hnone k] at h; cases h) ⟨hv, ⟨_, alloc_heap _ _, hr⟩, hnone⟩
theorem V_alloc {t : TypeId} {z : Value} (hz : (P.info? t).map (·.zero) = some (some z)) (ls : List V) (hl : z.cells.toList.map V.raw = ls) (hls : ls.all V.leaf = true) (hk : ∀ g, K (some (.ptr g 0)) (.cells g t ls :: S)) : VOp P nt ⟨d, .alloc t, ty, pos, af, gd⟩ F S K := by
 intro m w ac KK QQ hf hw hK
 have hnone : ∀ o, m w.heap.size o = none := λ o => by
  cases h : m w.heap.size o with
  | none => rfl
  | some v => have := hw.mem_lt h; omega
 have hrun : (execOp ac.eval ⟨d, .alloc t, ty, pos, af, gd⟩).run P w = .ok (.value (.pointer (some ⟨w.heap.size, 0, none⟩))) (w.alloc (.cells z.cells t)) := by
  cases hq : P.info? t with
  | none => simp [hq] at hz
  | some i =>
   have hzz : i.zero = some z := by simpa [hq] using hz
   simp [execOp, Instr.alloc, zeroValue, typeInfo, hq, hzz, newVar, newRow]
 have hraw : ∀ (us : List Value), RepL m (us.map V.raw) us := λ us => by
  induction us with
  | nil => rfl
  | cons u us ih => exact ⟨u, us, rfl, rfl, ih⟩
 unfold Oper.wp
 rw [hrun]
 refine hK _ _ m _ _ (hk w.heap.size) rfl ?_
 refine Step.alloc hw rfl (Sub.refl m) (λ b o v _ h => h) (λ k v h => by rw [hnone k] at h; cases h) ⟨hls, ⟨_, alloc_heap _ _, by rw [<- hl]; exact hraw _⟩, hnone⟩
end
def RepF (m : Mem) (sz : Nat) : List V -> List Value -> Prop
 | [], cs => cs = []
 | x :: xs, cs => ∃ u cs', cs = u.cells.toList ++ cs' /\ Rep m x u /\ u.cells.size = sz /\ (∀ c ∈ u.cells.toList, c.oneCell' = true) /\ RepF m sz xs cs'
theorem RepF.length {m : Mem} {sz : Nat} : ∀ {xs : List V} {cs : List Value}, RepF m sz xs cs -> cs.length = xs.length * sz
 | [], cs, h => by rw [show cs = [] from h]; simp
 | x :: xs, cs, ⟨u, cs', e, _, hl, _, k⟩ => by
  subst e
  rw [Ye, RepF.length k, List.length_cons, Yau, Array.length_toList, hl, Nat.add_comm]
theorem RepF.one {m : Mem} {sz : Nat} : ∀ {xs : List V} {cs : List Value}, RepF m sz xs cs -> ∀ c ∈ cs, c.oneCell' = true
 | [], cs, h, c, hc => by rw [show cs = [] from h] at hc; cases hc
 | x :: xs, cs, ⟨u, cs', e, _, hl, ho, k⟩, c, hc => by
  subst e
  rcases Yj.1 hc with hc | hc
  .exact ho c hc
  exact RepF.one k c hc
theorem RepF.mono {m m' : Mem} (h : Sub m m') {sz : Nat} : ∀ {xs : List V} {cs : List Value}, RepF m sz xs cs -> RepF m' sz xs cs
 | [], cs, k => k
 | x :: xs, cs, ⟨u, cs', e, r, hl, ho, k⟩ => ⟨u, cs', e, Rep.mono h _ _ r, hl, ho, RepF.mono h k⟩
theorem RepF.append {m : Mem} {sz : Nat} : ∀ {xs ys : List V} {cs ds : List Value}, RepF m sz xs cs -> RepF m sz ys ds -> RepF m sz (xs ++ ys) (cs ++ ds)
 | [], ys, cs, ds, h, k => by rw [show cs = [] from h]; exact k
 | x :: xs, ys, cs, ds, ⟨u, cs', e, r, hl, ho, h⟩, k => ⟨u, cs' ++ ds, by simp [e], r, hl, ho, RepF.append h k⟩
theorem At.left {m : Mem} {b off : Nat} {cs ds : List Value} (h : At m b off (cs ++ ds)) : At m b off cs := λ j u hu => by
 have hj := (Yc.1 hu).1
 exact h j u (by rw [Yae hj]; exact hu)
theorem At.right {m : Mem} {b off : Nat} {cs ds : List Value} (h : At m b off (cs ++ ds)) : At m b (off + cs.length) ds := λ j u hu => by
 have := h (cs.length + j) u (by rw [Yaf (Nat.le_add_right _ _), Nat.add_sub_cancel_left]; exact hu)
 rwa [<- Nat.add_assoc] at this
theorem At.append {m : Mem} {b off : Nat} {cs ds : List Value} (h : At m b off cs) (k : At m b (off + cs.length) ds) : At m b off (cs ++ ds) := λ j u hu => by
 rcases Yas j cs.length with hj | hj
 .rw [Yae hj] at hu
  exact h j u hu
 rw [Yaf hj] at hu
 have := k _ u hu
 rwa [Nat.add_assoc, Nat.add_sub_cancel' hj] at this
theorem RepEls.flat {m : Mem} {sz b : Nat} : ∀ {off : Nat} {xs : List V}, RepEls m sz b off xs -> ∃ cs, RepF m sz xs cs /\ At m b off cs
 | off, [], _ => ⟨[], rfl, λ j u hu => by simp at hu⟩
 | off, x :: xs, ⟨⟨u, r, hl, ho, hat⟩, k⟩ => by
  obtain ⟨cs', h1, h2⟩ := RepEls.flat k
  exact ⟨u.cells.toList ++ cs', ⟨u, cs', rfl, r, hl, ho, h1⟩, hat.append (by rw [Array.length_toList, hl]; exact h2)⟩
theorem RepF.els {m : Mem} {sz b : Nat} : ∀ {off : Nat} {xs : List V} {cs : List Value}, RepF m sz xs cs -> At m b off cs -> RepEls m sz b off xs
 | off, [], cs, _, _ => trivial
 | off, x :: xs, cs, ⟨u, cs', e, r, hl, ho, k⟩, hat => by
  subst e
  refine ⟨⟨u, r, hl, ho, hat.left⟩, RepF.els k ?_⟩
  have := hat.right
  rwa [Array.length_toList, hl] at this
theorem RepF.flatOf {m : Mem} : ∀ {xs : List V} {cs : List Value} {sz : Nat}, RepF m sz xs cs -> (∀ x ∈ xs, x.flat = true) -> RepL m (xs.flatMap V.leaves) cs
 | [], cs, sz, h, _ => h
 | x :: xs, cs, sz, ⟨u, cs', e, r, hl, ho, k⟩, hf => by
  subst e
  exact (r.cells (hf x (Yi ..))).1.append (RepF.flatOf k λ y hy => hf y (Yd _ hy))
theorem RepEls.get {m : Mem} {sz b : Nat} : ∀ {off : Nat} {xs : List V}, RepEls m sz b off xs -> ∀ {i : Nat} {x : V}, xs[i]? = some x ->
  ∃ u, Rep m x u /\ u.cells.size = sz /\ (∀ c ∈ u.cells.toList, c.oneCell' = true) /\ At m b (off + i * sz) u.cells.toList
 | off, [], _, i, x, h => by simp at h
 | off, y :: xs, ⟨h, k⟩, 0, x, e => by
  simp at e
  subst e
  simpa using h
 | off, y :: xs, ⟨h, k⟩, i + 1, x, e => by
  simp at e
  have := RepEls.get k e
  rwa [show off + sz + i * sz = off + (i + 1) * sz by rw [Yau]; omega] at this
theorem RepEls.drop {m : Mem} {sz b : Nat} : ∀ (k : Nat) {off : Nat} {xs : List V}, RepEls m sz b off xs -> RepEls m sz b (off + k * sz) (xs.drop k)
 | 0, off, xs, h => by simpa using h
 | k + 1, off, [], h => trivial
 | k + 1, off, x :: xs, ⟨h, r⟩ => by
  have := RepEls.drop k r
  rw [List.drop_succ_cons]
  rwa [show off + sz + k * sz = off + (k + 1) * sz by rw [Yau]; omega] at this
theorem RepEls.take {m : Mem} {sz b : Nat} : ∀ (k : Nat) {off : Nat} {xs : List V}, RepEls m sz b off xs -> RepEls m sz b off (xs.take k)
 | 0, off, xs, h => by simp [RepEls]
 | k + 1, off, [], h => by simp [RepEls]
 | k + 1, off, x :: xs, ⟨h, r⟩ => by rw [List.take_succ_cons]; exact ⟨h, RepEls.take k r⟩
section
variable {P : Program} {nt : Nat} {F : Fr} {S : Store} {K : Option V -> Store -> Prop}
variable {d : Option Tmp} {ty : TypeId} {pos : String} {af : Array Edge} {gd : Option (Nat × Bool)}
theorem V_len {t e sz : Nat} {tok : Option Tok} {x : Operand} {xs : List V} (ht : P.underlying t = some (.slice e)) (hx : F.ev x = some (.sl sz tok xs)) (hk : xs.length <= 9223372036854775807 -> K (some (.int xs.length)) S) :
  VOp P nt ⟨d, .call ⟨.builtin .len, #[x], #[t]⟩, ty, pos, af, gd⟩ F S K := by
 intro m w ac KK QQ hf hw hK
 obtain ⟨A, cap, ha, hc, hm, _⟩ := hf.ev hx
 have hrun : (execOp ac.eval ⟨d, .call ⟨.builtin .len, #[x], #[t]⟩, ty, pos, af, gd⟩).run P w = .ok (.value (.int .i64 xs.length)) w := by
  simp [BigFrame.execOp_builtin, BigFrame.builtin_len, Builtin.len_, ha, run_underlying ht w, goInt]
 unfold Oper.wp
 rw [hrun]
 exact hK _ S m w _ (hk (by simp only [maxLen] at hm; omega)) rfl (Step.refl hw)
theorem V_lenN {t e sz n : Nat} {tok : Option Tok} {x : Operand} {xs : List V} (ht : P.underlying t = some (.slice e)) (hx : F.ev x = some (.sl sz tok xs)) (hn : xs.length = n) (hk : n <= 9223372036854775807 -> K (some (.int n)) S) :
  VOp P nt ⟨d, .call ⟨.builtin .len, #[x], #[t]⟩, ty, pos, af, gd⟩ F S K := by
 subst hn
 exact V_len ht hx hk
theorem V_len_raw {t e len cap : Nat} {A : Option Addr} {x : Operand} (ht : P.underlying t = some (.slice e)) (hx : F.ev x = some (.raw (.slice A len cap))) (hk : K (some (.int len)) S) :
  VOp P nt ⟨d, .call ⟨.builtin .len, #[x], #[t]⟩, ty, pos, af, gd⟩ F S K := by
 refine VOp_pure _ (λ m w ac hf hw => ?_) hk
 have ha : ac.eval x = .slice A len cap := hf.ev hx
 exact ⟨.int .i64 len, by simp [BigFrame.execOp_builtin, BigFrame.builtin_len, Builtin.len_, ha, run_underlying ht w, goInt], rfl⟩
theorem V_indexAddr {t e sz bytes : Nat} {z : Value} {tok : Option Tok} {x ix : Operand} {xs : List V} {n : Int} {el : V} (ht : SliceTy P t e sz bytes z) (hx : F.ev x = some (.sl sz tok xs)) (hi : F.ev ix = some (.int n)) (h0 : 0 <= n) (he : xs[n.toNat]? = some el)
  (hk : ∀ a, K (some (.ep a el)) S) : VOp P nt ⟨d, .indexAddr t x ix, ty, pos, af, gd⟩ F S K := by
 intro m w ac KK QQ hf hw hK
 obtain ⟨A, cap, ha, hc, hm, _, hels⟩ := hf.ev hx
 have hn : ac.eval ix = .int .i64 n := hf.ev hi
 have hlt : n.toNat < xs.length := (Yc.1 he).1
 rcases hels with rfl | ⟨b, off, rfl, hels⟩
 .simp at hlt
 obtain ⟨u, hr, hsz, ho, hat⟩ := hels.get he
 obtain ⟨i, h1, h2, h3, h4⟩ := ht.info
 have hrun : (execOp ac.eval ⟨d, .indexAddr t x ix, ty, pos, af, gd⟩).run P w = .ok (.value (.pointer (some ⟨b, off + n.toNat * sz, none⟩))) w := by
  have hcond : 0 <= n /\ n < (xs.length : Int) := ⟨h0, by omega⟩
  simp [execOp, ha, hn, Instr.indexAt, asIntOf, run_underlying ht.und w, hcond, sizeOf, typeInfo, h1, h2, addr_add]
 unfold Oper.wp
 rw [hrun]
 exact hK _ S m w _ (hk ⟨b, off + n.toNat * sz, none⟩) ⟨rfl, rfl, u, hr, hat⟩ (Step.refl hw)
theorem V_indexAddr_row {t e sz bytes : Nat} {z : Value} {x ix : Operand} {g o len cap : Nat} {n : Int} (ht : SliceTy P t e sz bytes z) (hx : F.ev x = some (.raw (.slice (some ⟨g, o, none⟩) len cap))) (hi : F.ev ix = some (.int n)) (h0 : 0 <= n) (hl : n < len)
  (hk : K (some (.ptr g (o + n.toNat * sz))) S) : VOp P nt ⟨d, .indexAddr t x ix, ty, pos, af, gd⟩ F S K := by
 refine VOp_pure _ (λ m w ac hf hw => ?_) hk
 have ha : ac.eval x = .slice (some ⟨g, o, none⟩) len cap := hf.ev hx
 have hn : ac.eval ix = .int .i64 n := hf.ev hi
 obtain ⟨i, h1, h2, h3, h4⟩ := ht.info
 refine ⟨.pointer (some ⟨g, o + n.toNat * sz, none⟩), ?_, rfl⟩
 have hcond : 0 <= n /\ n < (len : Int) := ⟨h0, hl⟩
 simp [execOp, ha, hn, Instr.indexAt, asIntOf, run_underlying ht.und w, hcond, sizeOf, typeInfo, h1, h2, addr_add]
theorem V_eqNil {t t2 e sz : Nat} {tok : Option Tok} {x : Operand} {xs : List V} (ht : P.underlying t = some (.slice e)) (hx : F.ev x = some (.sl sz tok xs)) (hk : ∀ b : Bool, (b = true -> xs = []) -> K (some (.bool b)) S) :
  VOp P nt ⟨d, .binOp .eql t x (.const (.slice none 0 0)) t2, ty, pos, af, gd⟩ F S K := by
 intro m w ac KK QQ hf hw hK
 obtain ⟨A, cap, ha, hc, hm, _, hels⟩ := hf.ev hx
 have hrun : (execOp ac.eval ⟨d, .binOp .eql t x (.const (.slice none 0 0)) t2, ty, pos, af, gd⟩).run P w = .ok (.value (.bool A.isNone)) w := by
  have hg : (eqGuard .eql t x (.const (.slice none 0 0)) (.slice A xs.length cap) (.slice none 0 0)).run P w = .ok () w := rfl
  simp only [execOp, ha, BigFrame.eval_const, Sem.run_bind, hg, Result.andThen_ok, Lib.run_eql_slice_nil w t e A xs.length cap 0 0 ht]
  rfl
 unfold Oper.wp
 rw [hrun]
 refine hK _ S m w _ (hk A.isNone λ hA => ?_) rfl (Step.refl hw)
 rcases hels with h | ⟨b, off, rfl, _⟩
 .exact h
 simp at hA
def bound (F : Fr) (dflt : Int) : Option Operand -> Option Int
 | none => some dflt
 | some o => match F.ev o with
  | some (.raw (.int .i64 n)) => some n
  | _ => none
theorem bound_some {dflt n : Int} {x : Operand} (h : bound F dflt (some x) = some n) : F.ev x = some (.int n) := by
 simp only [bound] at h
 split at h
 .rename_i q hq
  injection h with h
  rw [hq, h]
 cases h
theorem bound_of {dflt n : Int} {x : Operand} (h : F.ev x = some (.int n)) : bound F dflt (some x) = some n := by
 simp only [bound, h]
theorem bounds_run {m : Mem} {ac : Act} {w : World} {l h : Int} {lo hi : Option Operand} {len cap : Nat} (hf : FRel m nt F ac) (hl : bound F 0 lo = some l) (hh : bound F len hi = some h) (h0 : 0 <= l) (h1 : l <= h) (h2 : h <= cap) :
  (Instr.sliceBounds true len cap (lo.map ac.eval) (hi.map ac.eval) none).run P w = .ok (l.toNat, h.toNat, cap) w := by
 have key : ∀ (x : Operand) (n : Int) (y : Nat) (code : BoundsCode), F.ev x = some (.int n) -> 0 <= n -> n <= y -> (Instr.sliceBound (ac.eval x) y code).run P w = .ok n.toNat w := by
  intro x n y code hx hn0 hn1
  have he : ac.eval x = .int .i64 n := hf.ev hx
  simp [he, Instr.sliceBound, asIntOf, hn0, hn1]
 have hlh : l <= (h.toNat : Int) := by omega
 cases hi with
 | none =>
  injection hh with hh
  have hh' : len = h.toNat := by omega
  cases lo with
  | none =>
   injection hl with hl
   simp [Instr.sliceBounds, <- hl, hh']
  | some x => simp [Instr.sliceBounds, hh', key x l _ .sliceB (bound_some hl) h0 hlh]
 | some y =>
  cases lo with
  | none =>
   injection hl with hl
   simp [Instr.sliceBounds, <- hl, key y h cap .sliceAcap (bound_some hh) (by omega) h2]
  | some x => simp [Instr.sliceBounds, key y h cap .sliceAcap (bound_some hh) (by omega) h2, key x l _ .sliceB (bound_some hl) h0 hlh]
theorem V_slice {t e sz bytes : Nat} {z : Value} {tok : Option Tok} {x : Operand} {lo hi : Option Operand} {xs : List V} {l h : Int} (ht : SliceTy P t e sz bytes z) (hx : F.ev x = some (.sl sz tok xs))
  (hl : bound F 0 lo = some l) (hh : bound F xs.length hi = some h) (h0 : 0 <= l) (h1 : l <= h) (h2 : h <= xs.length) (hk : K (some (.sl sz none ((xs.take h.toNat).drop l.toNat))) S) :
  VOp P nt ⟨d, .slice t x lo hi none, ty, pos, af, gd⟩ F S K := by
 refine VOp_pure _ (λ m w ac hf hw => ?_) hk
 obtain ⟨A, cap, ha, hc, hm, _, hels⟩ := hf.ev hx
 obtain ⟨i, i1, i2, i3, i4⟩ := ht.info
 refine ⟨.slice (if cap = l.toNat then A else A.map (·.add (l.toNat * sz))) (h.toNat - l.toNat) (cap - l.toNat), ?_, (if cap = l.toNat then A else A.map (·.add (l.toNat * sz))), cap - l.toNat, ?_, ?_, Yar (Nat.sub_le _ _) hm, trivial, ?_⟩
 .simp only [execOp, ha, Instr.sliceAt, Sem.run_bind, run_underlying ht.und w, Result.andThen_ok, Instr.slice, Option.map_none, bounds_run hf hl hh h0 h1 (show h <= (cap : Int) by omega)]
  simp [sizeOf, typeInfo, i1, i2]
 .congr 1
  simp only [Yq, Yl]
  omega
 .simp only [Yq, Yl]
  omega
 rcases hels with rfl | ⟨b, off, rfl, hels⟩
 .left; simp
 by_cases hlt : l.toNat < h.toNat
 .right
  refine ⟨b, off + l.toNat * sz, ?_, (hels.take h.toNat).drop l.toNat⟩
  rw [if_neg (by omega), Option.map_some, addr_add]
 left
 apply List.drop_eq_nil_of_le
 rw [Yl]
 omega
def litCells : List Value -> List Value
 | [] => []
 | u :: us => u.cells.toList ++ litCells us
theorem foldl_set_at (cs : List Value) (pre post : List Value) : ∀ (off : Nat), pre.length = off -> ∀ (mid : List Value), mid.length = cs.length ->
  ((cs.toArray.zipIdx).foldl (λ (a : Array Value) (x : Value × Nat) => a.setIfInBounds (off + x.2) x.1) (pre ++ mid ++ post).toArray) = (pre ++ cs ++ post).toArray := by
 intro off hoff mid hmid
 have key : ∀ (l : List Value) (k : Nat) (p m : List Value), p.length = off + k -> m.length = l.length ->
   (l.zipIdx k).foldl (λ (a : Array Value) (x : Value × Nat) => a.setIfInBounds (off + x.2) x.1) (p ++ m ++ post).toArray = (p ++ l ++ post).toArray := by
  intro l
  induction l with
  | nil =>
   intro k p m hp hm
   have : m = [] := Yr (by simpa using hm)
   subst this
   rfl
  | cons c l ih =>
   intro k p m hp hm
   cases m with
   | nil => simp at hm
   | cons m0 m =>
    rw [Yag, List.foldl_cons]
    have hset : ((p ++ (m0 :: m) ++ post).toArray.setIfInBounds (off + k) c) = ((p ++ [c]) ++ m ++ post).toArray := by
     apply Array.ext'
     simp only [Array.toList_setIfInBounds, Yah, Yai]
     rw [List.set_append_right _ _ (by omega), hp, Nat.sub_self]
     simp
    rw [hset, ih (k + 1) (p ++ [c]) m (by simp; omega) (by simpa using hm)]
    simp
 have := key cs 0 pre mid (by omega) hmid
 rw [<- this, <- Array.foldl_toList]
 congr 1
 simp
theorem fill_lit {sz : Nat} : ∀ (us : List Value) (k : Nat) (pre mid : List Value), (∀ u ∈ us, u.cells.size = sz) -> pre.length = k * sz -> mid.length = us.length * sz ->
  Instr.fill (λ i => some (i * sz, sz)) (pre ++ mid).toArray ((us.zipIdx k).map λ x => (x.2, x.1)) = some (pre ++ litCells us).toArray
 | [], k, pre, mid, _, _, hm => by
  have : mid = [] := Yr (by simpa using hm)
  subst this
  simp [Instr.fill, litCells]
 | u :: us, k, pre, mid, hu, hp, hm => by
  have hus := hu u (Yi ..)
  have hul : u.cells.toList.length = sz := by rw [Array.length_toList]; exact hus
  have hm' : mid.length = sz + us.length * sz := by rw [hm, List.length_cons, Yau, Nat.add_comm]
  rw [Yag, Yo]
  simp only [Instr.fill]
  rw [if_neg (by
   simp only [hus, ne_eq, not_true_eq_false, decide_false, Bool.false_or, decide_eq_true_eq, List.size_toArray, Ye, hp, hm']
   simp)]
  have hsplit : pre ++ mid = pre ++ mid.take sz ++ mid.drop sz := by rw [Yah, Yz]
  have hf := foldl_set_at u.cells.toList pre (mid.drop sz) (k * sz) hp (mid.take sz) (by rw [Yl, hm', hul]; omega)
  rw [<- hsplit] at hf
  have hf' : Array.foldl (λ (cs : Array Value) (x : Value × Nat) => cs.setIfInBounds (k * sz + x.2) x.1) (pre ++ mid).toArray u.cells.zipIdx = (pre ++ u.cells.toList ++ mid.drop sz).toArray := by
   simpa using hf
  have hgoal : Array.foldl (λ cs (x : Value × Nat) => match x with | (c, j) => cs.setIfInBounds (k * sz + j) c) (pre ++ mid).toArray u.cells.zipIdx = (pre ++ u.cells.toList ++ mid.drop sz).toArray := hf'
  rw [hgoal, fill_lit us (k + 1) (pre ++ u.cells.toList) (mid.drop sz) (λ v hv => hu v (Yd _ hv)) (by rw [Ye, hp, hul, Yau]) (by rw [Yq, hm']; omega)]
  simp [litCells]
end
def evs (F : Fr) : List Operand -> Option (List V)
 | [] => some []
 | x :: xs => match F.ev x, evs F xs with
  | some v, some vs => some (v :: vs)
  | _, _ => none
theorem evs_rep {m : Mem} {nt : Nat} {F : Fr} {a : Act} (hf : FRel m nt F a) : ∀ {xs : List Operand} {vs : List V}, evs F xs = some vs -> RepL m vs (xs.map a.eval)
 | [], vs, h => by injection h with h; subst h; rfl
 | x :: xs, vs, h => by
  simp only [evs] at h
  split at h
  .rename_i v vs' h1 h2
   injection h with h
   subst h
   exact ⟨a.eval x, xs.map a.eval, rfl, hf.ev h1, evs_rep hf h2⟩
  cases h
def V.fits (sz : Nat) (v : V) : Bool := v.flat && Yam v.leaves.length sz
theorem fits_rep {m : Mem} {sz : Nat} {v : V} {u : Value} (h : Rep m v u) (hf : v.fits sz = true) : u.cells.size = sz /\ ∀ c ∈ u.cells.toList, c.oneCell' = true := by
 simp only [V.fits, Bool.and_eq_true] at hf
 obtain ⟨h1, h2⟩ := h.cells hf.1
 have := h1.length
 rw [Yan hf.2] at this
 exact ⟨by simpa using this, h2⟩
theorem fits_repF {m : Mem} {sz : Nat} : ∀ {vs : List V} {us : List Value}, RepL m vs us -> vs.all (V.fits sz) = true -> RepF m sz vs (litCells us) /\ ∀ u ∈ us, u.cells.size = sz
 | [], us, h, _ => by rw [show us = [] from h]; exact ⟨rfl, λ u hu => by cases hu⟩
 | v :: vs, us, ⟨u, us', e, r, k⟩, hf => by
  subst e
  simp only [List.all_cons, Bool.and_eq_true] at hf
  obtain ⟨h1, h2⟩ := fits_rep r hf.1
  obtain ⟨h3, h4⟩ := fits_repF k hf.2
  refine ⟨⟨u, litCells us', rfl, r, h1, h2, h3⟩, λ x hx => ?_⟩
  rcases Yf.1 hx with rfl | hx
  .exact h1
  exact h4 x hx
theorem WRel.fresh {m : Mem} {S : Store} {w : World} (hw : WRel m S w) (o : Nat) : m w.heap.size o = none := by
 cases h : m w.heap.size o with
 | none => rfl
 | some v => have := hw.mem_lt h; omega
theorem Mem.sub_new {m : Mem} {S : Store} {w : World} (hw : WRel m S w) (cs : List Value) : Sub m (m.new w.heap.size cs) := λ b o v hv => by
 unfold Mem.new
 by_cases hb : b = w.heap.size
 .subst hb; rw [hw.fresh o] at hv; cases hv
 rw [if_neg hb]; exact hv
theorem Mem.at_new (m : Mem) (g : Nat) (cs : List Value) : At (m.new g cs) g 0 cs := λ j u hu => by
 unfold Mem.new
 rw [if_pos rfl, Yat]
 exact hu
theorem Step.allocBuf {m : Mem} {S : Store} {w : World} {cs rest : List Value} {T : TypeId} {sz n cap : Nat} (hw : WRel m S w) (hc : cs.length = n * sz) (hn : n <= cap) (hcap : (cs ++ rest).length = cap * sz) :
  Step m S w (m.new w.heap.size cs) (.buf (.at w.heap.size cap) T sz n :: S) (w.alloc (.cells (cs ++ rest).toArray T)) := by
 refine Step.alloc hw rfl (Mem.sub_new hw cs) (λ b o v hb hv => by unfold Mem.new at hv; rwa [if_neg hb] at hv) (λ k v hv => ?_) ⟨hn, ⟨_, alloc_heap _ _, by simpa using hcap⟩, λ o ho => ?_⟩
 .unfold Mem.new at hv
  rw [if_pos rfl] at hv
  have hk := (Yc.1 hv).1
  simp [Yae hk, hv]
 unfold Mem.new
 rw [if_pos rfl]
 exact List.getElem?_eq_none (by omega)
theorem Step.allocRow {m : Mem} {S : Store} {w : World} {cs : Array Value} {ls : List V} {T : TypeId} (hw : WRel m S w) (hl : ls.all V.leaf = true) (hr : RepL m ls cs.toList) :
  Step m S w m (.cells w.heap.size T ls :: S) (w.alloc (.cells cs T)) :=
 Step.alloc hw rfl (Sub.refl m) (λ b o v _ h => h) (λ k v h => by rw [hw.fresh k] at h; cases h) ⟨hl, ⟨_, alloc_heap _ _, hr⟩, hw.fresh⟩
section
variable {P : Program} {nt : Nat} {F : Fr} {S : Store} {K : Option V -> Store -> Prop}
variable {d : Option Tmp} {ty : TypeId} {pos : String} {af : Array Edge} {gd : Option (Nat × Bool)}
def idx : Nat -> List Operand -> List (Nat × Operand)
 | _, [] => []
 | k, x :: xs => (k, x) :: idx (k + 1) xs
theorem idx_map (ρ : Operand -> Value) : ∀ (k : Nat) (xs : List Operand), (idx k xs).map (λ x => (x.1, ρ x.2)) = ((xs.map ρ).zipIdx k).map λ x => (x.2, x.1)
 | k, [] => rfl
 | k, x :: xs => by simp [idx, idx_map ρ (k + 1) xs, Yag]
theorem lit_run {t e sz bytes : Nat} {z : Value} {n : Nat} {parts : Array (Nat × Operand)} {ps : List Operand} {vs : List V} {m : Mem} {w : World} {ac : Act} (ht : SliceTy P t e sz bytes z) (hp : parts.toList = idx 0 ps) (hn : ps.length = n) (hn24 : Yao (n * sz) 16777216 = true)
  (hf : FRel m nt F ac) (hv : evs F ps = some vs) (hfit : vs.all (V.fits sz) = true) :
  ∃ cs, RepF m sz vs cs /\ vs.length = n /\ cs.length = n * sz /\ (execOp ac.eval ⟨d, .buildSlice t n parts, ty, pos, af, gd⟩).run P w = .ok (.value (.slice (some ⟨w.heap.size, 0, none⟩) n n)) (w.alloc (.cells cs.toArray e)) := by
 have hn24 := Yaq hn24
 have hrep := evs_rep hf hv
 obtain ⟨hF, hsz⟩ := fits_repF hrep hfit
 have hvl : vs.length = n := by have := hrep.length; rw [List.length_map] at this; omega
 refine ⟨litCells (ps.map ac.eval), hF, hvl, by rw [hF.length, hvl], ?_⟩
 obtain ⟨i, i1, i2, i3, i4⟩ := ht.info
 have hz0 := ht.cells
 have hpos := ht.pos.1
 have hmap : (parts.map λ (x : Nat × Operand) => (x.1, ac.eval x.2)).toList = ((ps.map ac.eval).zipIdx 0).map λ x => (x.2, x.1) := by
  rw [Array.toList_map, hp, idx_map]
 have hfill : ∀ cells : Array Value, cells.size = n * sz -> Instr.fill (λ i => some (i * sz, sz)) cells (parts.map λ (x : Nat × Operand) => (x.1, ac.eval x.2)).toList = some (litCells (ps.map ac.eval)).toArray := λ cells hc => by
  rw [hmap]
  have := fill_lit (sz := sz) (ps.map ac.eval) 0 [] cells.toList hsz (by simp) (by simp [hc, hn])
  simpa using this
 have hle : ¬ (16777216 < n * sz) := by omega
 have hfill1 := hfill ((Array.range (n * sz)).map (z.cells[· % z.cells.size]!)) (by simp)
 have hfill2 := hfill ((Array.range (n * sz)).map ((#[] : Array Value)[· % (#[] : Array Value).size]!)) (by simp)
 by_cases h0 : n * sz = 0
 .simp only [execOp, Instr.buildSlice, Sem.run_bind, run_underlying ht.und w, Result.andThen_ok, sizeOf, typeInfo, run_program, i1, Sem.run_pure, i2]
  simp only [gt_iff_lt, Nat.reducePow, hle, if_false, h0, if_true, Sem.run_pure, Result.andThen_ok, Sem.run_bind, pure_bind]
  rw [h0] at hfill2
  simp only [hfill2]
  simp [newRow]
 simp only [execOp, Instr.buildSlice, Sem.run_bind, run_underlying ht.und w, Result.andThen_ok, sizeOf, typeInfo, run_program, i1, Sem.run_pure, i2]
 simp only [gt_iff_lt, Nat.reducePow, hle, if_false, h0, zeroValue, typeInfo, Sem.run_bind, run_program, Result.andThen_ok, i1, i4, Sem.run_pure, pure_bind]
 simp only [hfill1]
 simp [newRow]
theorem V_lit {t e sz bytes : Nat} {z : Value} {n : Nat} {parts : Array (Nat × Operand)} (ps : List Operand) {vs : List V} (ht : SliceTy P t e sz bytes z) (hp : parts.toList = idx 0 ps) (hn : ps.length = n) (hn24 : Yao (n * sz) 16777216 = true)
  (hv : evs F ps = some vs) (hfit : vs.all (V.fits sz) = true) (hk : K (some (.sl sz none vs)) S) : VOp P nt ⟨d, .buildSlice t n parts, ty, pos, af, gd⟩ F S K := by
 intro m w ac KK QQ hf hw hK
 obtain ⟨cs, h1, h2, h3, hrun⟩ := lit_run (d := d) (ty := ty) (pos := pos) (af := af) (gd := gd) (w := w) ht hp hn hn24 hf hv hfit
 have hle := Yaq hn24
 have hpos := ht.pos.1
 have hnl : n <= 16777216 := Yar (Yax n hpos) hle
 unfold Oper.wp
 rw [hrun]
 refine hK _ S (m.new w.heap.size cs) _ _ hk ?_ (Step.allocImm hw)
 refine ⟨some ⟨w.heap.size, 0, none⟩, n, by rw [h2], by omega, by simp only [maxLen]; omega, trivial, .inr ⟨_, _, rfl, ?_⟩⟩
 exact (h1.mono (Mem.sub_new hw cs)).els (Mem.at_new m _ cs)
theorem V_litTok {t e sz bytes : Nat} {z : Value} {n : Nat} {parts : Array (Nat × Operand)} (ps : List Operand) {vs : List V} (ht : SliceTy P t e sz bytes z) (hp : parts.toList = idx 0 ps) (hn : ps.length = n) (hn24 : Yao (n * sz) 16777216 = true)
  (hv : evs F ps = some vs) (hfit : vs.all (V.fits sz) = true) (hk : ∀ tok, K (some (.sl sz (some tok) vs)) (.buf tok e sz n :: S)) : VOp P nt ⟨d, .buildSlice t n parts, ty, pos, af, gd⟩ F S K := by
 intro m w ac KK QQ hf hw hK
 obtain ⟨cs, h1, h2, h3, hrun⟩ := lit_run (d := d) (ty := ty) (pos := pos) (af := af) (gd := gd) (w := w) ht hp hn hn24 hf hv hfit
 have hle := Yaq hn24
 have hpos := ht.pos.1
 have hnl : n <= 16777216 := Yar (Yax n hpos) hle
 have hst := Step.allocBuf (T := e) (rest := []) hw h3 (Yap n) (by simpa using h3)
 rw [Yaa] at hst
 unfold Oper.wp
 rw [hrun]
 refine hK _ _ (m.new w.heap.size cs) _ _ (hk (.at w.heap.size n)) ?_ hst
 refine ⟨some ⟨w.heap.size, 0, none⟩, n, by rw [h2], by omega, by simp only [maxLen]; omega, ⟨rfl, rfl⟩, .inr ⟨_, _, rfl, ?_⟩⟩
 exact (h1.mono (Mem.sub_new hw cs)).els (Mem.at_new m _ cs)
theorem V_litRow {t e sz bytes : Nat} {z : Value} {n : Nat} {parts : Array (Nat × Operand)} (ps : List Operand) {vs : List V} (ht : SliceTy P t e sz bytes z) (hp : parts.toList = idx 0 ps) (hn : ps.length = n) (hn24 : Yao (n * sz) 16777216 = true)
  (hv : evs F ps = some vs) (hfit : vs.all (V.fits sz) = true) (hk : ∀ g, K (some (.raw (.slice (some ⟨g, 0, none⟩) n n))) (.cells g e (vs.flatMap V.leaves) :: S)) : VOp P nt ⟨d, .buildSlice t n parts, ty, pos, af, gd⟩ F S K := by
 intro m w ac KK QQ hf hw hK
 obtain ⟨cs, h1, h2, h3, hrun⟩ := lit_run (d := d) (ty := ty) (pos := pos) (af := af) (gd := gd) (w := w) ht hp hn hn24 hf hv hfit
 have hflat : ∀ x ∈ vs, x.flat = true := λ x hx => by
  have := Yb.1 hfit x hx
  simp only [V.fits, Bool.and_eq_true] at this
  exact this.1
 have hall : (vs.flatMap V.leaves).all V.leaf = true := by
  rw [Yb]
  intro x hx
  obtain ⟨y, hy, hxy⟩ := List.mem_flatMap.1 hx
  exact Yb.1 (hflat y hy) x hxy
 unfold Oper.wp
 rw [hrun]
 exact hK _ _ m _ _ (hk w.heap.size) rfl (Step.allocRow hw hall (by simpa using h1.flatOf hflat))
theorem makes_repF {m : Mem} {sz : Nat} {z : Value} {zv : V} (hz : Rep m zv z) (hfit : zv.fits sz = true) (hpos : 0 < sz) : ∀ n, RepF m sz (Ys n zv) (madeCells z.cells (n * sz)).toList := by
 obtain ⟨h1, h2⟩ := fits_rep hz hfit
 have key : ∀ n, (madeCells z.cells (n * sz)).toList = (Ys n z.cells.toList).flatten := by
  intro n
  induction n with
  | zero => simp [madeCells]
  | succ n ih =>
   rw [List.replicate_succ', List.flatten_append, <- ih]
   simp only [madeCells, Array.toList_map, Array.toList_range, Yau, List.range_add, Yaj, List.map_map]
   congr 1
   simp only [List.flatten_cons, List.flatten_nil, Yaa]
   apply List.ext_getElem
   .simp [h1]
   intro j hj1 hj2
   have hj : j < sz := by simpa using hj1
   simp only [List.getElem_map, List.getElem_range, Function.comp, h1]
   rw [Nat.add_comm, Nat.add_mul_mod_self_right, Nat.mod_eq_of_lt hj]
   simp [h1, hj]
 intro n
 rw [key n]
 induction n with
 | zero => rfl
 | succ n ih =>
  rw [List.replicate_succ, List.replicate_succ, List.flatten_cons]
  exact ⟨z, _, rfl, hz, h1, h2, ih⟩
theorem make_run {t e sz bytes : Nat} {z : Value} {l c : Operand} {n : Int} {m : Mem} {w : World} {ac : Act} (ht : SliceTy P t e sz bytes z) (hl : F.ev l = some (.int n)) (hc : F.ev c = some (.int n)) (h0 : 0 <= n) (hb : n * bytes <= 281474976710656) (hf : FRel m nt F ac) :
  (execOp ac.eval ⟨d, .makeSlice t l c, ty, pos, af, gd⟩).run P w = .ok (.value (.slice (some ⟨w.heap.size, 0, none⟩) n.toNat n.toNat)) (w.alloc (.cells (madeCells z.cells (n.toNat * sz)) e)) := by
 have h1 : ac.eval l = .int .i64 n := hf.ev hl
 have h2 : ac.eval c = .int .i64 n := hf.ev hc
 obtain ⟨i, i1, i2, i3, i4⟩ := ht.info
 have hpos := ht.pos.2
 have hb' : (i.bytes : Int) * n <= 281474976710656 := by rw [i3, Int.mul_comm]; exact hb
 have hnb : n <= n * bytes := by
  have := Yay (show (1 : Int) <= bytes by omega) h0
  omega
 have hr := run_make (P := P) w t e i z ht.und i1 i4 .i64 .i64 n n h0 (Int.le_refl _) hb' (by omega)
 simp only [execOp, h1, h2, Sem.run_bind, hr, Result.andThen_ok, i2]
 rfl
theorem make_small {n : Int} {bytes : Nat} (h0 : 0 <= n) (hb : n * bytes <= 281474976710656) (hp : 0 < bytes) : n.toNat <= maxLen := by
 have hnb : n <= n * bytes := by
  have := Yay (show (1 : Int) <= bytes by omega) h0
  omega
 simp only [maxLen]
 omega
theorem V_make {t e sz bytes : Nat} {z : Value} {l c : Operand} {n : Int} (zv : V) (hz : ∀ m, Rep m zv z) (hzf : zv.fits sz = true) (ht : SliceTy P t e sz bytes z) (hl : F.ev l = some (.int n)) (hc : F.ev c = some (.int n)) (h0 : 0 <= n) (hb : n * bytes <= 281474976710656)
  (hk : ∀ tok, K (some (.sl sz (some tok) (Ys n.toNat zv))) (.buf tok e sz n.toNat :: S)) : VOp P nt ⟨d, .makeSlice t l c, ty, pos, af, gd⟩ F S K := by
 intro m w ac KK QQ hf hw hK
 have hrun := make_run (d := d) (ty := ty) (pos := pos) (af := af) (gd := gd) (w := w) ht hl hc h0 hb hf
 have hF := makes_repF (hz m) hzf ht.pos.1 n.toNat
 have hlen : (madeCells z.cells (n.toNat * sz)).toList.length = n.toNat * sz := by simp [size_madeCells]
 have hst := Step.allocBuf (T := e) (rest := []) hw hlen (Yap n.toNat) (by simpa using hlen)
 simp only [Yaa, Array.toArray_toList] at hst
 unfold Oper.wp
 rw [hrun]
 refine hK _ _ _ _ _ (hk (.at w.heap.size n.toNat)) ?_ hst
 refine ⟨some ⟨w.heap.size, 0, none⟩, n.toNat, by simp, by simp, make_small h0 hb ht.pos.2, ⟨rfl, rfl⟩, .inr ⟨_, _, rfl, ?_⟩⟩
 exact (hF.mono (Mem.sub_new hw _)).els (Mem.at_new m _ _)
theorem V_makeRow {t e sz bytes : Nat} {z : Value} {l c : Operand} {n : Int} (zv : V) (hz : ∀ m, Rep m zv z) (hzf : zv.fits sz = true) (ht : SliceTy P t e sz bytes z) (hl : F.ev l = some (.int n)) (hc : F.ev c = some (.int n)) (h0 : 0 <= n) (hb : n * bytes <= 281474976710656)
  (hk : ∀ g, K (some (.raw (.slice (some ⟨g, 0, none⟩) n.toNat n.toNat))) (.cells g e ((Ys n.toNat zv).flatMap V.leaves) :: S)) : VOp P nt ⟨d, .makeSlice t l c, ty, pos, af, gd⟩ F S K := by
 intro m w ac KK QQ hf hw hK
 have hrun := make_run (d := d) (ty := ty) (pos := pos) (af := af) (gd := gd) (w := w) ht hl hc h0 hb hf
 have hF := makes_repF (hz m) hzf ht.pos.1 n.toNat
 have hzz : zv.flat = true := by simp only [V.fits, Bool.and_eq_true] at hzf; exact hzf.1
 have hflat : ∀ x ∈ Ys n.toNat zv, x.flat = true := λ x hx => by rw [List.eq_of_mem_replicate hx]; exact hzz
 have hall : ((Ys n.toNat zv).flatMap V.leaves).all V.leaf = true := by
  rw [Yb]
  intro x hx
  obtain ⟨y, hy, hxy⟩ := List.mem_flatMap.1 hx
  exact Yb.1 (hflat y hy) x hxy
 unfold Oper.wp
 rw [hrun]
 exact hK _ _ m _ _ (hk w.heap.size) rfl (Step.allocRow hw hall (hF.flatOf hflat))
theorem src_of {m : Mem} {w : World} {t e sz : Nat} {tx : Option Tok} {ys : List V} {u : Value} (hs : 0 < sz) (hu : P.underlying t = some (.slice e)) (hw : WRel m S w) (h : Rep m (.sl sz tx ys) u) : ∃ news, RepF m sz ys news /\ Src P sz t u ys.length news w := by
 obtain ⟨A, cap, rfl, hc, hm, _, hels⟩ := h
 have hnil : ys = [] -> ∃ news, RepF m sz ys news /\ Src P sz t (.slice A ys.length cap) ys.length news w := λ h0 => by
  subst h0
  refine ⟨[], rfl, ?_⟩
  cases A with
  | none => exact Src.ofNil w hu cap
  | some a => exact Src.ofSlice w hu a 0 cap [] (by simp) (λ j u h => by simp at h) (λ _ h => by cases h)
 rcases hels with h0 | ⟨b, off, rfl, hels⟩
 .exact hnil h0
 obtain ⟨cs, h1, h2⟩ := hels.flat
 exact ⟨cs, h1, Src.ofSlice w hu ⟨b, off, none⟩ ys.length cap cs h1.length (λ j u hju => by rw [addr_add]; exact hw.agree _ _ _ (h2 j u hju)) h1.one⟩
def Mem.more (m : Mem) (g off : Nat) (cs : List Value) : Mem := λ b o => if b = g /\ off <= o /\ o < off + cs.length then cs[o - off]? else m b o
theorem setCells_heap (b : Nat) (T : TypeId) : ∀ (vs : List Value) (o : Nat) (w : World) (cs : Array Value), w.heap[b]? = some (.cells cs T) -> o + vs.length <= cs.size ->
  ∃ cs', (w.setCells b o vs).heap[b]? = some (.cells cs' T) /\ cs'.size = cs.size /\ ∀ k, cs'.toList[k]? = if o <= k /\ k < o + vs.length then vs[k - o]? else cs.toList[k]?
 | [], o, w, cs, h, hl => ⟨cs, by simpa [World.setCells] using h, rfl, λ k => by simp; omega⟩
 | v :: vs, o, w, cs, h, hl => by
  obtain ⟨cs', h1, h2, h3⟩ := setCells_heap b T vs (o + 1) (w.setCell ⟨b, o, none⟩ v) (cs.setIfInBounds o v) (setCell_heap h v) (by simp at hl ⊢; omega)
  refine ⟨cs', by simpa [World.setCells] using h1, by simpa using h2, λ k => ?_⟩
  rw [h3 k]
  have hoc : o < cs.size := by simp at hl; omega
  by_cases hk : k = o
  .subst hk
   rw [if_neg (by omega), if_pos (by simp)]
   simp [hoc]
  by_cases hk2 : o + 1 <= k /\ k < o + 1 + vs.length
  .rw [if_pos hk2, if_pos (by simp; omega), show k - o = (k - (o + 1)) + 1 by omega]
   simp
  rw [if_neg hk2, if_neg (by simp; omega), Array.toList_setIfInBounds, List.getElem?_set_ne (Ne.symm hk)]
theorem setCells_others (b : Nat) : ∀ (vs : List Value) (o : Nat) (w : World) (k : Nat), k ≠ b -> (w.setCells b o vs).heap[k]? = w.heap[k]?
 | [], o, w, k, h => rfl
 | v :: vs, o, w, k, h => by
  have := setCells_others b vs (o + 1) (w.setCell ⟨b, o, none⟩ v) k h
  simp only [World.setCells]
  rw [this]
  exact RowKit.Below.heap_setCell _ _ _ _ h
theorem setCells_rest (b : Nat) : ∀ (vs : List Value) (o : Nat) (w : World), (w.setCells b o vs).os = w.os /\ (w.setCells b o vs).tape = w.tape /\ (w.setCells b o vs).output = w.output /\ (w.setCells b o vs).heap.size = w.heap.size
 | [], o, w => ⟨rfl, rfl, rfl, rfl⟩
 | v :: vs, o, w => by
  obtain ⟨h1, h2, h3, h4⟩ := setCells_rest b vs (o + 1) (w.setCell ⟨b, o, none⟩ v)
  exact ⟨h1, h2, h3, by rw [show (w.setCells b o (v :: vs)).heap.size = ((w.setCell ⟨b, o, none⟩ v).setCells b (o + 1) vs).heap.size from rfl, h4]; simp⟩
theorem zeroCells_len (z : Value) (n : Nat) : (Builtin.zeroCells z.cells n).toList.length = n * z.cells.size := by
 rw [Array.length_toList, size_zeroCells]
theorem Step.drew {m : Mem} {S : Store} {w : World} (h : WRel m S w) : Step m S w m S w.drew :=
 ⟨⟨h.agree, h.nodup, h.holds⟩, rfl, rfl, rfl, Yap _, λ _ _ _ => rfl, Sub.refl m, λ _ _ _ h => .inl h, λ _ h => .inl h⟩
theorem perm_set {S : Store} {i : Nat} {e e' : Own} (hi : S[i]? = some e) : (e' :: S.eraseIdx i).Perm (S.set i e') := by
 induction S generalizing i with
 | nil => simp at hi
 | cons x S ih =>
  cases i with
  | zero => simp
  | succ i =>
   simp at hi
   simp only [List.eraseIdx_cons_succ, Yab]
   exact (List.Perm.swap _ _ _).trans ((ih hi).cons x)
theorem perm_erase {S : Store} {i : Nat} {e : Own} (hi : S[i]? = some e) : S.Perm (e :: S.eraseIdx i) := by
 have h := perm_set (e' := e) hi
 have : S.set i e = S := by
  have hl := (Yc.1 hi)
  obtain ⟨hl, he⟩ := hl
  rw [<- he]
  exact List.set_getElem_self ..
 rw [this] at h
 exact h.symm
theorem V_append (i : Nat) {t e sz bytes : Nat} {z : Value} {s x : Operand} {tok : Tok} {tx : Option Tok} {xs ys : List V} (ht : SliceTy P t e sz bytes z) (hs : F.ev s = some (.sl sz (some tok) xs)) (hx : F.ev x = some (.sl sz tx ys))
  (hS : S[i]? = some (.buf tok e sz xs.length)) (hb : (xs.length + ys.length) * bytes <= 140737488355328) (hk : ∀ tok', K (some (.sl sz (some tok') (xs ++ ys))) (S.set i (.buf tok' e sz (xs ++ ys).length))) :
  VOp P nt ⟨d, .call ⟨.builtin .append, #[s, x], #[t, t]⟩, ty, pos, af, gd⟩ F S K := by
 intro m w ac KK QQ hf hw hK
 obtain ⟨A, cap, hsv, hc, hm, htok, hels⟩ := hf.ev hs
 obtain ⟨ii, i1, i2, i3, i4⟩ := ht.info
 have hpos := ht.pos.1
 have hbpos := ht.pos.2
 obtain ⟨news, hN, hsrc⟩ := src_of hpos ht.und hw (hf.ev hx)
 have hlen : xs.length + ys.length <= 140737488355328 := Yar (Yax _ hbpos) hb
 have hsrc' : Src P ii.size t (ac.eval x) ys.length news w := by rw [i2]; exact hsrc
 have hold := hw.holds _ (Yh hS)
 have happ : ∀ (w : World), (execOp ac.eval ⟨d, .call ⟨.builtin .append, #[s, x], #[t, t]⟩, ty, pos, af, gd⟩).run P w = ((Builtin.append_ #[t, t] ty #[ac.eval s, ac.eval x]).run P w).andThen λ v w' => .ok (.value v) w' := λ w => by
  simp only [BigFrame.execOp_builtin, BigFrame.builtin_append, Sem.run_bind]
  simp
 -- the elements that were there
 have holds0 : ∃ olds, RepF m sz xs olds /\ (Builtin.firstCells ii.size xs.length (.slice A xs.length cap)).run P w.drew = .ok olds.toArray w.drew := by
  rcases hels with h0 | ⟨b, off, rfl, hels⟩
  .subst h0
   refine ⟨[], rfl, ?_⟩
   cases A with
   | none => exact run_firstCells_none w.drew ii.size 0 0 cap
   | some a => exact run_firstCells_some (P := P) w.drew ii.size 0 a 0 cap [] (by simp) (λ j u h => by simp at h)
  obtain ⟨cs, h1, h2⟩ := hels.flat
  exact ⟨cs, h1, run_firstCells_some (P := P) w.drew ii.size xs.length ⟨b, off, none⟩ xs.length cap cs (by rw [h1.length, i2]) (λ j u hju => by rw [addr_add]; exact (World.cell?_drew w _).trans (hw.agree _ _ _ (h2 j u hju)))⟩
 -- no room: a new row
 have grow : cap < xs.length + ys.length -> Oper.wp P ⟨d, .call ⟨.builtin .append, #[s, x], #[t, t]⟩, ty, pos, af, gd⟩ ac w KK QQ := λ hlt => by
  obtain ⟨olds, hO, hfc⟩ := holds0
  have hrun := run_append_grow_src (P := P) w t t ty e ii z ht.und i1 i4 A xs.length cap olds hfc (ac.eval x) ys.length news hsrc' hlt (by omega) (growslice_fits hlt (by rw [i3]; exact hb))
  unfold Oper.wp
  rw [happ, hsv, hrun]
  have hge := grownCap_ge w (xs.length + ys.length) cap e
  have hcm : grownCap w (xs.length + ys.length) cap e <= maxLen := grownCap_le_maxLen w _ cap e (by simp only [maxLen]; omega)
  have hcl : (olds ++ news).length = (xs.length + ys.length) * sz := by rw [Ye, hO.length, hN.length, Yav]
  have hw1 : WRel m (S.eraseIdx i) w.drew := (hw.perm (perm_erase hS)).tail |> λ h => (Step.drew h).rel
  have hst := Step.allocBuf (T := e) (sz := sz) (n := xs.length + ys.length) (cap := grownCap w (xs.length + ys.length) cap e) (rest := (Builtin.zeroCells z.cells (grownCap w (xs.length + ys.length) cap e - (xs.length + ys.length))).toList) hw1 hcl hge (by
   rw [Ye, hcl, zeroCells_len, ht.cells, <- Yav]
   congr 1
   omega)
  have hstep := (((Step.drop1 (hw.perm (perm_erase hS))).permL (perm_erase hS)).trans (Step.drew (hw.perm (perm_erase hS)).tail)).trans (hst.permR (perm_set hS))
  have hkk := hk (.at w.heap.size (grownCap w (xs.length + ys.length) cap e))
  rw [Ye] at hkk
  have hcs : ((olds ++ news).toArray ++ Builtin.zeroCells z.cells (grownCap w (xs.length + ys.length) cap e - (xs.length + ys.length))) = (olds ++ news ++ (Builtin.zeroCells z.cells (grownCap w (xs.length + ys.length) cap e - (xs.length + ys.length))).toList).toArray := by
   apply Array.ext'
   simp
  rw [hcs]
  refine hK _ _ _ _ _ hkk ?_ hstep
  refine ⟨some ⟨w.heap.size, 0, none⟩, _, by rw [Ye], by rw [Ye]; exact hge, hcm, ⟨rfl, rfl⟩, .inr ⟨_, _, rfl, ?_⟩⟩
  exact ((hO.append hN).mono (Mem.sub_new hw1 _)).els (Mem.at_new m _ _)
 -- nothing is appended to what has no room
 have idle : cap = 0 -> ys = [] -> tokOk (some tok) A cap -> (tok = .nil \/ tok = .zero) -> Oper.wp P ⟨d, .call ⟨.builtin .append, #[s, x], #[t, t]⟩, ty, pos, af, gd⟩ ac w KK QQ := λ h0 hy htk hor => by
  subst h0
  subst hy
  have hx0 : xs = [] := Yr (by omega)
  subst hx0
  have hn0 : news = [] := hN
  subst hn0
  have hrun : (Builtin.append_ #[t, t] ty #[.slice A 0 0, ac.eval x]).run P w = .ok (.slice A 0 0) w := by
   have h1 := hsrc'.len
   have h2 := hsrc'.cells
   rcases hsrc'.kind with ⟨e', hk'⟩ | hk'
   .cases A with
    | none => simp [Builtin.append_, run_underlying ht.und, run_underlying hk', sizeOf, typeInfo, i1, h1]; simp at h2; simp [h2]
    | some a => simp [Builtin.append_, run_underlying ht.und, run_underlying hk', sizeOf, typeInfo, i1, h1]; simp at h2; simp [h2, storeCells]
   rw [ht.und] at hk'; cases hk'
  unfold Oper.wp
  rw [happ, hsv]
  simp only [List.length_nil]
  rw [hrun]
  refine hK _ _ m _ _ (hk tok) ⟨A, 0, by simp, by simp, by simp [maxLen], htk, .inl rfl⟩ ?_
  have : S.set i (.buf tok e sz ([] ++ [] : List V).length) = S := by
   obtain ⟨hl, he⟩ := Yc.1 hS
   conv => rhs; rw [<- List.set_getElem_self hl]
   rw [he]
   rfl
  rw [this]
  exact Step.refl hw
 cases tok with
 | nil =>
  obtain ⟨rfl, rfl⟩ := htok
  rcases Nat.eq_zero_or_pos ys.length with hy | hy
  .exact idle rfl (Yr hy) ⟨rfl, rfl⟩ (.inl rfl)
  exact grow (by omega)
 | zero =>
  have htok' : cap = 0 := htok
  subst htok'
  rcases Nat.eq_zero_or_pos ys.length with hy | hy
  .exact idle rfl (Yr hy) rfl (.inr rfl)
  exact grow (by omega)
 | pin a => exact hold.elim
 | «at» g cap' =>
  obtain ⟨rfl, rfl⟩ := htok
  rcases Yas cap (xs.length + ys.length) with hlt | hge
  .exact grow hlt
  -- there is room: in place
  obtain ⟨hn, ⟨cs, hh, hcs⟩, hfree⟩ := hold
  have hfit : xs.length * sz + news.length <= cs.size := by rw [hN.length, hcs, <- Yav]; exact Nat.mul_le_mul_right _ hge
  have hrun := run_append_room_src (P := P) w t t ty e ii ht.und i1 g 0 xs.length cap (ac.eval x) ys.length news hsrc' hge
   (λ j hj => by simp [World.cell?, hh, i2]; omega) (λ j hj => by simp [World.frozen?, hh])
  rw [i2, Yat] at hrun
  unfold Oper.wp
  rw [happ, hsv, hrun]
  obtain ⟨cs', hh', hs', hget⟩ := setCells_heap g e news (xs.length * sz) w cs hh hfit
  obtain ⟨r1, r2, r3, r4⟩ := setCells_rest g news (xs.length * sz) w
  have hsub : Sub m (m.more g (xs.length * sz) news) := λ b o v hv => by
   unfold Mem.more
   rw [if_neg]
   .exact hv
   rintro ⟨rfl, h1, _⟩
   rw [hfree o h1] at hv
   cases hv
  refine hK _ _ (m.more g (xs.length * sz) news) _ _ (hk (.at g cap)) ?_ ?_
  .refine ⟨some ⟨g, 0, none⟩, cap, by rw [Ye], by rw [Ye]; exact hge, hm, ⟨rfl, rfl⟩, .inr ⟨_, _, rfl, ?_⟩⟩
   have hold' : ∃ olds, RepF m sz xs olds /\ At m g 0 olds := by
    rcases hels with h0 | ⟨b, off, he, hels⟩
    .subst h0; exact ⟨[], rfl, λ j u h => by simp at h⟩
    injection he with he
    injection he with he1 he2
    subst he1
    subst he2
    exact hels.flat
   obtain ⟨olds, hO, hat⟩ := hold'
   refine ((hO.append hN).mono hsub).els ((hat.mono hsub).append λ j u hu => ?_)
   have hj := (Yc.1 hu).1
   unfold Mem.more
   rw [hO.length, Yat, if_pos ⟨rfl, by omega, by omega⟩, Nat.add_sub_cancel_left]
   exact hu
  refine Step.update hw hS rfl rfl r1 r2 r3 r4 (λ b hb => setCells_others g news _ w b hb) hsub (λ b o v hb hv => ?_) (λ o v hv => ?_) ⟨by rw [Ye]; exact hge, ⟨cs', hh', by rw [hs', hcs]⟩, λ o ho => ?_⟩
  .unfold Mem.more at hv
   rwa [if_neg (λ h => hb h.1)] at hv
  .unfold Mem.more at hv
   simp only [true_and] at hv
   have hcell : (w.setCells g (xs.length * sz) news).cell? ⟨g, o, none⟩ = cs'.toList[o]? := by
    simp [World.cell?, hh']
   rw [hcell, hget o]
   split at hv
   .rename_i hcond
    rw [if_pos hcond]
    exact hv
   rename_i hcond
   rw [if_neg hcond]
   have := hw.agree g o v hv
   simpa [World.cell?, hh] using this
  rw [Ye, Yav] at ho
  unfold Mem.more
  rw [if_neg (by rw [hN.length]; omega)]
  exact hfree o (by omega)
theorem V_appendN (i n : Nat) {t e sz bytes : Nat} {z : Value} {s x : Operand} {tok : Tok} {tx : Option Tok} {xs ys : List V} (ht : SliceTy P t e sz bytes z) (hs : F.ev s = some (.sl sz (some tok) xs)) (hx : F.ev x = some (.sl sz tx ys))
  (hS : S[i]? = some (.buf tok e sz n)) (hn : n = xs.length) (hb : (xs.length + ys.length) * bytes <= 140737488355328) (hk : ∀ tok', K (some (.sl sz (some tok') (xs ++ ys))) (S.set i (.buf tok' e sz (xs ++ ys).length))) :
  VOp P nt ⟨d, .call ⟨.builtin .append, #[s, x], #[t, t]⟩, ty, pos, af, gd⟩ F S K := by
 subst hn
 exact V_append i ht hs hx hS hb hk
theorem WRel.nilBuf {m : Mem} {S : Store} {w : World} (h : WRel m S w) (T : TypeId) (sz : Nat) (tok : Tok) (ht : tok = .nil \/ tok = .zero) : Step m S w m (.buf tok T sz 0 :: S) w := by
 have hd : dom (.buf tok T sz 0 :: S) = dom S := by rcases ht with rfl | rfl <;> rfl
 refine ⟨⟨h.agree, by rw [hd]; exact h.nodup, λ e he => ?_⟩, rfl, rfl, rfl, Yap _, λ _ _ _ => rfl, Sub.refl m, λ _ _ _ h => .inl h, λ b hb => by rw [hd] at hb; exact .inl hb⟩
 rcases Yf.1 he with rfl | he
 .rcases ht with rfl | rfl <;> rfl
 exact h.holds e he
theorem V_assign_nil (T sz : Nat) (hk : K (some (.sl sz (some .nil) [])) (.buf .nil T sz 0 :: S)) : VOp P nt ⟨d, .assign (.const (.slice none 0 0)), ty, pos, af, gd⟩ F S K := by
 intro m w ac KK QQ hf hw hK
 exact hK _ _ m w _ hk ⟨none, 0, rfl, Yap _, Nat.zero_le _, ⟨rfl, rfl⟩, .inl rfl⟩ (WRel.nilBuf hw T sz .nil (.inl rfl))
end
section
variable {P : Program} {nt : Nat} {F : Fr} {S : Store} {K : Option V -> Store -> Prop}
variable {d : Option Tmp} {ty : TypeId} {pos : String} {af : Array Edge} {gd : Option (Nat × Bool)}
theorem callFunc_run {f : FuncId} (hen : Enters P f) (args : Array Value) (w : World) : (callFunc f args).run P w = .ok (.enter f args) w := by
  obtain ⟨fn, h1, h2, h3⟩ := hen.fn
  have h2' : ¬ fn.name = "runtime.NumGoroutine" := by intro h; simp [h] at h2
  have h3' : ¬ fn.body = none := by intro h; simp [h] at h3
  simp [callFunc, h1, h2', h3']
theorem calls_op {o : Oper} {f : FuncId} {vs : List V} {Sa Sb : Store} {R : V -> Store -> Prop} (hen : Enters P f) (hp : S.Perm (Sa ++ Sb)) (hc : VCalls P f vs Sa R) (hk : ∀ r Sa', R r Sa' -> K (some r) (Sa' ++ Sb))
  (hrun : ∀ m w ac, FRel m nt F ac -> ∃ us, RepL m vs us /\ (execOp ac.eval o).run P w = .ok (.enter f us.toArray) w) : VOp P nt o F S K := by
 intro m w ac KK QQ hf hw hK
 obtain ⟨us, hus, hr⟩ := hrun m w ac hf
 have hw' := hw.perm hp
 unfold Oper.wp
 rw [hr]
 simp only [Oper.upon]
 refine (hc m w us hus hw'.left).mono λ e w' h => ?_
 obtain ⟨r, S', m', u, hR, rfl, hu, st⟩ := h
 exact hK _ _ m' w' u (hk r S' hR) hu ((Step.frame hw' st).permL hp)
theorem V_call {f : FuncId} {args : Array Operand} {ats : Array TypeId} (xs : List Operand) {vs : List V} (Sa Sb : Store) {R : V -> Store -> Prop} (ha : args.toList = xs) (hv : evs F xs = some vs) (hen : Enters P f) (hp : S.Perm (Sa ++ Sb)) (hc : VCalls P f vs Sa R)
  (hk : ∀ r Sa', R r Sa' -> K (some r) (Sa' ++ Sb)) : VOp P nt ⟨d, .call ⟨.value (.func f), args, ats⟩, ty, pos, af, gd⟩ F S K := by
 refine calls_op hen hp hc hk λ m w ac hf => ⟨xs.map ac.eval, evs_rep hf hv, ?_⟩
 have he : ac.eval (.func f) = .func (.func f) #[] #[] := rfl
 simp only [execOp, resolve, he, Deferred.ofValue, Sem.run_bind, Sem.run_pure, Result.andThen_ok, invoke, callFunc_run hen]
 congr 2
 apply Array.ext'
 simp [ha]
theorem V_callClo {f : FuncId} {q : Tmp} {args : Array Operand} {ats : Array TypeId} (xs : List Operand) {vs caps : List V} (Sa Sb : Store) {R : V -> Store -> Prop} (hq : F.get q = some (.clo (.func f) caps)) (ha : args.toList = xs) (hv : evs F xs = some vs) (hen : Enters P f) (hp : S.Perm (Sa ++ Sb)) (hc : VCalls P f (vs ++ caps) Sa R)
  (hk : ∀ r Sa', R r Sa' -> K (some r) (Sa' ++ Sb)) : VOp P nt ⟨d, .call ⟨.value (.tmp q), args, ats⟩, ty, pos, af, gd⟩ F S K := by
 refine calls_op hen hp hc hk λ m w ac hf => ?_
 obtain ⟨us, he, hu⟩ := hf.ev (x := .tmp q) hq
 refine ⟨xs.map ac.eval ++ us.toList, (evs_rep hf hv).append hu, ?_⟩
 simp only [execOp, resolve, he, Deferred.ofValue, Sem.run_bind, Sem.run_pure, Result.andThen_ok, invoke, callFunc_run hen]
 congr 2
 apply Array.ext'
 simp [ha]
theorem V_makeFunc {f : FuncId} {caps : Array Operand} (xs : List Operand) {vs : List V} (ha : caps.toList = xs) (hv : evs F xs = some vs) (hk : K (some (.clo (.func f) vs)) S) : VOp P nt ⟨d, .makeFunc (.func f) #[] caps, ty, pos, af, gd⟩ F S K := by
 refine VOp_pure _ (λ m w ac hf hw => ?_) hk
 refine ⟨.func (.func f) #[] (caps.map ac.eval), ?_, caps.map ac.eval, rfl, ?_⟩
 .simp [execOp, Instr.makeFunc]
 rw [Array.toList_map, ha]
 exact evs_rep hf hv
structure StructTy (P : Program) (t : TypeId) (places : List (Nat × Nat)) (zs : List V) : Prop where
 all : ∃ fs i z, P.underlying t = some (.struct fs) /\ P.info? t = some i /\ i.zero = some z /\ fs.toList.mapM (λ f => (P.info? f.type).map λ i => (f.offset, i.size)) = some places /\ z.cells.toList.map V.raw = zs
 leaf : zs.all V.leaf = true
def vfill (places : List (Nat × Nat)) : List V -> List (Nat × V) -> Option (List V)
 | ls, [] => some ls
 | ls, (i, v) :: rest => match places[i]? with
  | some (off, sz) => bif v.fits sz && Yao (off + sz) ls.length then vfill places (ls.take off ++ v.leaves ++ ls.drop (off + sz)) rest else none
  | none => none
theorem vfill_rep {m : Mem} {places : List (Nat × Nat)} : ∀ {parts : List (Nat × V)} {us : List (Nat × Value)} {ls ls' : List V} {cells : Array Value},
  us.map (·.1) = parts.map (·.1) -> RepL m (parts.map (·.2)) (us.map (·.2)) -> RepL m ls cells.toList -> ls.all V.leaf = true -> vfill places ls parts = some ls' ->
  ∃ cells', Instr.fill (places[·]?) cells us = some cells' /\ RepL m ls' cells'.toList /\ ls'.all V.leaf = true
 | [], us, ls, ls', cells, h1, h2, h3, h4, h5 => by
  have : us = [] := by cases us <;> simp_all
  subst this
  injection h5 with h5
  subst h5
  exact ⟨cells, rfl, h3, h4⟩
 | (i, v) :: parts, us, ls, ls', cells, h1, h2, h3, h4, h5 => by
  cases us with
  | nil => simp at h1
  | cons q us =>
   obtain ⟨j, u⟩ := q
   simp only [Yo, List.cons.injEq] at h1
   obtain ⟨rfl, h1⟩ := h1
   obtain ⟨u0, us0, he, hr, h2⟩ := h2
   simp only [Yo, List.cons.injEq] at he
   obtain ⟨rfl, he⟩ := he
   subst he
   simp only [vfill] at h5
   cases hp : places[j]? with
   | none => rw [hp] at h5; cases h5
   | some os =>
    obtain ⟨off, sz⟩ := os
    rw [hp] at h5
    dsimp only at h5
    cases hc : (v.fits sz && Yao (off + sz) ls.length) with
    | false => rw [hc] at h5; cases h5
    | true =>
     rw [hc, cond_true] at h5
     simp only [Bool.and_eq_true] at hc
     obtain ⟨hfit, hble⟩ := hc
     have hle := Yaq hble
     obtain ⟨hus, huo⟩ := fits_rep hr hfit
     have hff := hfit
     simp only [V.fits, Bool.and_eq_true] at hff
     obtain ⟨hrc, _⟩ := hr.cells hff.1
     have hcl := h3.length
     have hcs : cells.size = ls.length := by simpa using hcl
     have hul : u.cells.toList.length = sz := by rw [Array.length_toList]; exact hus
     have hfold := foldl_set_at u.cells.toList (cells.toList.take off) (cells.toList.drop (off + sz)) off (by rw [Yl]; omega) ((cells.toList.drop off).take sz) (by rw [Yl, Yq, hul]; omega)
     have hsplit : cells.toList.take off ++ (cells.toList.drop off).take sz ++ cells.toList.drop (off + sz) = cells.toList := by
      rw [Yah, <- List.drop_drop, Yz, Yz]
     rw [hsplit] at hfold
     have hfold' : Array.foldl (λ cs (x : Value × Nat) => match x with | (c, j) => cs.setIfInBounds (off + j) c) cells u.cells.zipIdx = (cells.toList.take off ++ u.cells.toList ++ cells.toList.drop (off + sz)).toArray := by
      have : u.cells.toList.toArray = u.cells := by simp
      rw [this] at hfold
      simpa using hfold
     have hall : (ls.take off ++ v.leaves ++ ls.drop (off + sz)).all V.leaf = true := by
      rw [Yb] at h4 ⊢
      intro y hy
      rcases Yj.1 hy with hy | hy
      .rcases Yj.1 hy with hy | hy
       .exact h4 y (Yy hy)
       exact Yb.1 hff.1 y hy
      exact h4 y (Yx hy)
     obtain ⟨cells', g1, g2, g3⟩ := vfill_rep (cells := (cells.toList.take off ++ u.cells.toList ++ cells.toList.drop (off + sz)).toArray) h1 h2
      (by simpa using ((h3.take off).append hrc).append (h3.drop (off + sz))) hall h5
     refine ⟨cells', ?_, g2, g3⟩
     simp only [Instr.fill, hp]
     rw [if_neg (by simp [hus]; omega), hfold']
     exact g1
theorem V_build {t : TypeId} {places : List (Nat × Nat)} {zs : List V} {parts : Array (Nat × Operand)} (is : List Nat) (xs : List Operand) {vs ls : List V} (ht : StructTy P t places zs) (hp : parts.toList = is.zip xs) (hl : Yam is.length xs.length = true) (hv : evs F xs = some vs) (hfill : vfill places zs (is.zip vs) = some ls)
  (hk : K (some (.agg ls)) S) : VOp P nt ⟨d, .build t parts, ty, pos, af, gd⟩ F S K := by
 refine VOp_pure _ (λ m w ac hf hw => ?_) hk
 obtain ⟨fs, i, z, h1, h2, h3, h4, h5⟩ := ht.all
 have hl := Yan hl
 have hrep := evs_rep hf hv
 have hvl : vs.length = xs.length := by have := hrep.length; rw [List.length_map] at this; omega
 have hraw : ∀ (us : List Value), RepL m (us.map V.raw) us := λ us => by
  induction us with
  | nil => rfl
  | cons u us ih => exact ⟨u, us, rfl, rfl, ih⟩
 have hus : (parts.map λ (x : Nat × Operand) => (x.1, ac.eval x.2)).toList = is.zip (xs.map ac.eval) := by
  rw [Array.toList_map, hp, List.zip_map_right]
  rfl
 obtain ⟨cells', g1, g2, g3⟩ := vfill_rep (us := is.zip (xs.map ac.eval)) (cells := z.cells) (parts := is.zip vs) (by rw [List.map_fst_zip (by simp; omega), List.map_fst_zip (by omega)])
  (by rw [List.map_snd_zip (by omega), List.map_snd_zip (by simp; omega)]; exact hrep) (by rw [<- h5]; exact hraw _) ht.leaf hfill
 refine ⟨.agg cells', ?_, g3, cells', rfl, g2⟩
 have hb : P.built t (parts.map λ (x : Nat × Operand) => (x.1, ac.eval x.2)).toList = some cells' := by
  unfold Program.built
  simp only [h2, h1, h3, h4]
  rw [hus]
  have : (λ (i : Nat) => places.toArray[i]?) = (λ (i : Nat) => places[i]?) := by funext i; simp
  rw [this]
  exact g1
 simp only [execOp, Sem.run_bind, run_build w t _ cells' hb, Result.andThen_ok]
 rfl
inductive ResOk (P : Program) (F : Fr) (S : Store) : ResultVar -> V -> Prop where
 | tmp {t : Tmp} {v : V} (h : F.get t = some v) : ResOk P F S (.tmp t) v
 | strip {t : Tmp} {sz : Nat} {tok : Option Tok} {xs : List V} (h : F.get t = some (.sl sz tok xs)) : ResOk P F S (.tmp t) (.sl sz none xs)
 | agg {a : Tmp} {t sz i g o : Nat} {T : TypeId} {ls : List V} (ht : AggTy P t sz) (h : F.get a = some (.ptr g o)) (hS : S[i]? = some (.cells g T ls)) (hl : Yao (o + sz) ls.length = true) : ResOk P F S (.cell a t) (.agg ((ls.drop o).take sz))
 | leaf {a : Tmp} {t i g o : Nat} {T : TypeId} {ls : List V} {v : V} (ht : LeafTy P t) (h : F.get a = some (.ptr g o)) (hS : S[i]? = some (.cells g T ls)) (hv : ls[o]? = some v) : ResOk P F S (.cell a t) v
theorem ResOk.run {x : ResultVar} {v : V} (h : ResOk P F S x v) {m : Mem} {w : World} {a : Act} (hf : FRel m nt F a) (hw : WRel m S w) :
  ∃ u, (match x with | .tmp t => pure (a.tmps.getD t undef) | .cell p t => do loadVar t (<- asAddr (a.tmps.getD p undef)) : Sem Value).run P w = .ok u w /\ Rep m v u := by
 cases h with
 | tmp h => exact ⟨_, rfl, hf.get _ _ h⟩
 | strip h =>
  obtain ⟨A, cap, h1, h2, h3, _, h4⟩ := hf.get _ _ h
  exact ⟨_, rfl, A, cap, h1, h2, h3, trivial, h4⟩
 | @agg p t sz i g o T ls ht h hS hl =>
  have hl := Yaq hl
  have hp : a.tmps.getD p undef = .pointer (some ⟨g, o, none⟩) := hf.get _ _ h
  obtain ⟨hall, ⟨cs, hh, hr⟩, _⟩ := own_cells hw hS
  have hcl := hr.length
  obtain ⟨dd, h1, h2⟩ := ht.desc
  have hll : ((cs.toList.drop o).take sz).length = sz := by simp only [Yl, Yq, hcl]; omega
  refine ⟨.agg ((cs.toList.drop o).take sz).toArray, ?_, ?_, _, rfl, (hr.drop o).take sz⟩
  .simp only [hp, asAddr, Sem.run_bind, Sem.run_pure, Result.andThen_ok]
   refine run_loadVar_mid w g o t _ dd (λ j v hv => ?_) h1 h2 (by rw [hll]; exact ht.size)
   rw [Yu] at hv
   split at hv
   .rw [Yad] at hv
    exact cell_at hh hv
   cases hv
  rw [Yb] at hall ⊢
  exact λ x hx => hall x (Yx (Yy hx))
 | @leaf p t i g o T ls v ht h hS hv =>
  have hp : a.tmps.getD p undef = .pointer (some ⟨g, o, none⟩) := hf.get _ _ h
  obtain ⟨hall, ⟨cs, hh, hr⟩, _⟩ := own_cells hw hS
  obtain ⟨u, hu, hru⟩ := hr.get hv
  exact ⟨u, by simp [hp, asAddr, ht.run_loadVar, cell_at hh hu], hru⟩
inductive ResOks (P : Program) (F : Fr) (S : Store) : List ResultVar -> List V -> Prop where
 | nil : ResOks P F S [] []
 | cons {x : ResultVar} {v : V} {xs : List ResultVar} {vs : List V} (h : ResOk P F S x v) (t : ResOks P F S xs vs) : ResOks P F S (x :: xs) (v :: vs)
theorem ResOks.run {xs : List ResultVar} {vs : List V} (h : ResOks P F S xs vs) {m : Mem} {w : World} {a : Act} (hf : FRel m nt F a) (hw : WRel m S w) (f : ResultVar -> Sem Value) (f1 : ∀ t, f (.tmp t) = pure (a.tmps.getD t undef)) (f2 : ∀ p t, f (.cell p t) = (do loadVar t (<- asAddr (a.tmps.getD p undef)))) :
  ∃ us, (xs.mapM f).run P w = .ok us w /\ RepL m vs us := by
 induction h with
 | nil => exact ⟨[], by simp, rfl⟩
 | @cons x v xs vs h t ih =>
  obtain ⟨u, hu, hru⟩ := h.run hf hw
  obtain ⟨us, hus, hrus⟩ := ih
  refine ⟨u :: us, ?_, u, us, rfl, hru, hrus⟩
  have hx : (f x).run P w = .ok u w := by
   cases x with
   | tmp t => rw [f1]; exact hu
   | cell p t => rw [f2]; exact hu
  rw [List.mapM_cons]
  simp only [Sem.run_bind, hx, hus, Result.andThen_ok, Sem.run_pure]
def resF (tmps : Array Value) : ResultVar -> Sem Value
 | .tmp t => pure (tmps.getD t undef)
 | .cell p t => do loadVar t (<- asAddr (tmps.getD p undef))
theorem results_eq (fn : Func) (tmps : Array Value) : results fn tmps = (do let vs <- fn.results.mapM (resF tmps); pure (if h : vs.size = 1 then vs[0] else .tuple vs)) := by
 unfold results
 congr 1
theorem ResOks.length {xs : List ResultVar} {vs : List V} (h : ResOks P F S xs vs) : xs.length = vs.length := by
 induction h with
 | nil => rfl
 | cons _ _ ih => simp [ih]
theorem VRes_one {fn : Func} {x : ResultVar} {v : V} (hr : fn.results.toList = [x]) (h : ResOk P F S x v) : VRes P nt fn F S v := by
 intro m w a hf hw
 have h' : ResOks P F S [x] [v] := .cons h .nil
 rw [results_eq, Array.mapM_eq_mapM_toList, hr]
 simp only [Sem.run_bind, Sem.run_map]
 obtain ⟨us, hus, u, us', rfl, hru, rfl⟩ := h'.run hf hw (resF a.tmps) (λ _ => rfl) (λ _ _ => rfl)
 exact ⟨u, by rw [hus]; simp, hru⟩
theorem VRes_many {fn : Func} {xs : List ResultVar} {vs : List V} (hr : fn.results.toList = xs) (hn : Yam xs.length 1 = false) (h : ResOks P F S xs vs) : VRes P nt fn F S (.tup vs) := by
 intro m w a hf hw
 rw [results_eq, Array.mapM_eq_mapM_toList, hr]
 simp only [Sem.run_bind, Sem.run_map]
 obtain ⟨us, hus, hrus⟩ := h.run hf hw (resF a.tmps) (λ _ => rfl) (λ _ _ => rfl)
 have hlen : us.length ≠ 1 := by
  have h1 := hrus.length
  have h2 := h.length
  intro h3
  have : xs.length = 1 := by omega
  rw [this] at hn
  cases hn
 exact ⟨.tuple us.toArray, by rw [hus]; simp [hlen], us.toArray, rfl, by simpa using hrus⟩
end
end Go.VL
namespace Go.VL
theorem info_zero {P : Program} {t : TypeId} {z : Value} (h : (P.info? t).map (·.zero) = some (some z)) : ∃ i, P.info? t = some i /\ i.zero = some z := by
 cases hq : P.info? t with
 | none => simp [hq] at h
 | some i => exact ⟨i, rfl, by simpa [hq] using h⟩
theorem info_all {P : Program} {e sz bytes : Nat} {z : Value} (h : (P.info? e).map (λ i => (i.size, i.bytes, i.zero)) = some (sz, bytes, some z)) : ∃ i, P.info? e = some i /\ i.size = sz /\ i.bytes = bytes /\ i.zero = some z := by
 cases hq : P.info? e with
 | none => simp [hq] at h
 | some i => simp [hq] at h; exact ⟨i, rfl, h.1, h.2.1, h.2.2⟩
end Go.VL
namespace Go.VL
def Drops (S T : Store) : Prop := ∃ R, S.Perm (R ++ T)
theorem Drops.refl (S : Store) : Drops S S := ⟨[], .refl _⟩
theorem Drops.of_perm {S T : Store} (h : S.Perm T) : Drops S T := ⟨[], h⟩
theorem Drops.drop {e : Own} {S T : Store} (h : Drops S T) : Drops (e :: S) T := by
 obtain ⟨R, h⟩ := h
 exact ⟨e :: R, h.cons e⟩
theorem Drops.keep {e : Own} {S T : Store} (h : Drops S T) : Drops (e :: S) (e :: T) := by
 obtain ⟨R, h⟩ := h
 exact ⟨R, (h.cons e).trans List.perm_middle.symm⟩
theorem Drops.buf {t : Tok} {T sz n n' : Nat} {S U : Store} (h : n = n') (k : Drops S U) : Drops (.buf t T sz n :: S) (.buf t T sz n' :: U) := by
 subst h
 exact k.keep
theorem Drops.nil (S : Store) : Drops S [] := ⟨S, by simp⟩
theorem Drops.swap {e f : Own} {S T : Store} (h : Drops (f :: e :: S) T) : Drops (e :: f :: S) T := by
 obtain ⟨R, h⟩ := h
 exact ⟨R, (List.Perm.swap _ _ _).trans h⟩
theorem Drops.step {m : Mem} {S T : Store} {w : World} (h : Drops S T) (hw : WRel m S w) : Step m S w m T w := by
 obtain ⟨R, h⟩ := h
 exact (Step.dropAll (hw.perm h)).permL h
section
variable {P : Program} {nt : Nat} {F : Fr} {S : Store} {Q : Exit -> Fr -> Store -> Prop} {K : Option V -> Store -> Prop}
theorem VW_sub {c : Code} {F' : Fr} {S' : Store} (hs : Fr.sub F' F) (hd : Drops S S') (h : VW P nt c Q F' S') : VW P nt c Q F S :=
 λ m w a QQ hf hw hK => h m w a QQ (hf.sub hs) (hd.step hw).rel λ e F2 S2 m2 w2 a2 k hf2 st => hK e F2 S2 m2 w2 a2 k hf2 ((hd.step hw).trans st)
theorem Then_n {next : Fr -> Store -> Prop} (h : next F S) : Then next Q .normal F S := h
theorem Then_e {next : Fr -> Store -> Prop} {id : Nat} (h : Q (.exit id) F S) : Then next Q (.exit id) F S := h
theorem Then_r {next : Fr -> Store -> Prop} (h : Q .ret F S) : Then next Q .ret F S := h
theorem InBlock_n {id : Nat} (h : Q .normal F S) : InBlock id Q .normal F S := h
theorem InBlock_r {id : Nat} (h : Q .ret F S) : InBlock id Q .ret F S := h
theorem InBlock_hit {id : Nat} (h : Q .normal F S) : InBlock id Q (.exit id) F S := by
 simp only [InBlock, Nat.beq_refl, cond_true]
 exact h
theorem VW_cut {x y : Code} (A : Fr -> Store -> Prop) (h1 : VW P nt x (Then A Q) F S) (h2 : ∀ F S, A F S -> VW P nt y Q F S) : VW P nt (.seq x y) Q F S :=
 VW_seq (h1.mono λ e F S k => by cases e <;> first | exact h2 F S k | exact k)
theorem VW_loopF {ι : Type} {c : Code} (mu : ι -> Nat) (Fi : ι -> Fr) (Si : ι -> Store) (A : ι -> Prop) (i0 : ι) (h0 : A i0) (hF : Fr.sub (Fi i0) F) (hS : Drops S (Si i0))
  (round : ∀ i, A i -> VW P nt c (Then (λ F' S' => ∃ j, mu j < mu i /\ A j /\ Fr.sub (Fi j) F' /\ Drops S' (Si j)) Q) (Fi i) (Si i)) : VW P nt (.loop c) Q F S := by
 refine VW_loop (λ n F S => ∃ i, mu i = n /\ A i /\ Fr.sub (Fi i) F /\ Drops S (Si i)) (mu i0) ⟨i0, rfl, h0, hF, hS⟩ ?_
 rintro n F S ⟨i, rfl, hA, hs, hd⟩
 refine VW_sub hs hd ((round i hA).mono λ e F S k => ?_)
 cases e with
 | normal =>
  obtain ⟨j, h1, h2, h3, h4⟩ := k
  exact ⟨mu j, h1, j, rfl, h2, h3, h4⟩
 | _ => exact k
def VPure (P : Program) (f : FuncId) (args : List V) (r : V) : Prop := VCalls P f args [] λ r' _ => r' = r
variable {d : Option Tmp} {ty : TypeId} {pos : String} {af : Array Edge} {gd : Option (Nat × Bool)}
theorem VCalls.forget {f : FuncId} {args : List V} {S : Store} {R : V -> Store -> Prop} (h : VCalls P f args S λ r _ => R r []) : VCalls P f args S λ r S' => R r S' /\ S' = [] :=
 λ m w us ha hw => (h m w us ha hw).mono λ e w' ⟨r, S', m', u, k, he, hr, st⟩ => ⟨r, [], m', u, ⟨k, rfl⟩, he, hr, st.trans ((Drops.nil S').step st.rel)⟩
theorem V_callP {f : FuncId} {args : Array Operand} {ats : Array TypeId} (xs : List Operand) {vs : List V} {r : V} (ha : args.toList = xs) (hv : evs F xs = some vs) (hen : Enters P f) (hc : VPure P f vs r) (hk : K (some r) S) :
  VOp P nt ⟨d, .call ⟨.value (.func f), args, ats⟩, ty, pos, af, gd⟩ F S K :=
 V_call xs [] S ha hv hen (.refl _) (VCalls.forget (R := λ r' _ => r' = r) hc) λ r' Sa' h => by obtain ⟨rfl, rfl⟩ := h; exact hk
theorem V_callCloP {f : FuncId} {q : Tmp} {args : Array Operand} {ats : Array TypeId} (xs : List Operand) {vs caps : List V} {r : V} (hq : F.get q = some (.clo (.func f) caps)) (ha : args.toList = xs) (hv : evs F xs = some vs) (hen : Enters P f) (hc : VPure P f (vs ++ caps) r) (hk : K (some r) S) :
  VOp P nt ⟨d, .call ⟨.value (.tmp q), args, ats⟩, ty, pos, af, gd⟩ F S K :=
 V_callClo xs [] S hq ha hv hen (.refl _) (VCalls.forget (R := λ r' _ => r' = r) hc) λ r' Sa' h => by obtain ⟨rfl, rfl⟩ := h; exact hk
theorem V_start {f : FuncId} {fn : Func} {c : Code} {args : List V} {R : V -> Store -> Prop} (hf : P.funcs[f]? = some fn) (hb : fn.body = some c) (hnt : fn.ntmps = nt)
  (hn : Yao args.length nt = true) (h : VW P nt c (VRet P nt fn R) (argFr 0 args) S) : VCalls P f args S R := by
 subst hnt
 exact VCalls_of hf hb hn h
theorem VRet_one {fn : Func} {R : V -> Store -> Prop} {x : ResultVar} {v : V} (hr : fn.results.toList = [x]) (h : ResOk P F S x v) (hR : R v S) : VRet P nt fn R .ret F S := ⟨v, VRes_one hr h, hR⟩
theorem VRet_many {fn : Func} {R : V -> Store -> Prop} {xs : List ResultVar} {vs : List V} (hr : fn.results.toList = xs) (hn : Yam xs.length 1 = false) (h : ResOks P F S xs vs) (hR : R (.tup vs) S) : VRet P nt fn R .ret F S := ⟨_, VRes_many hr hn h, hR⟩
theorem VW_condP {c : Operand} {x y : Code} {p : Prop} [Decidable p] (hc : F.ev c = some (.bool (decide p))) (ht : p -> VW P nt x Q F S) (he : ¬ p -> VW P nt y Q F S) : VW P nt (.cond c x y) Q F S :=
 VW_cond hc (λ h => ht (of_decide_eq_true h)) (λ h => he (of_decide_eq_false h))
theorem VW_condEq {α : Type} [BEq α] [LawfulBEq α] {c : Operand} {x y : Code} {a b : α} (hc : F.ev c = some (.bool (a == b))) (ht : a = b -> VW P nt x Q F S) (he : a ≠ b -> VW P nt y Q F S) : VW P nt (.cond c x y) Q F S :=
 VW_cond hc (λ h => ht (eq_of_beq h)) (λ h => he (λ e => by subst e; simp at h))
theorem VW_condNe {α : Type} [BEq α] [LawfulBEq α] {c : Operand} {x y : Code} {a b : α} (hc : F.ev c = some (.bool (a != b))) (ht : a ≠ b -> VW P nt x Q F S) (he : a = b -> VW P nt y Q F S) : VW P nt (.cond c x y) Q F S :=
 VW_cond hc (λ h => ht (λ e => by subst e; simp at h)) (λ h => he (by simpa using h))
theorem VW_condN {c : Operand} {x y : Code} {b : Bool} (hc : F.ev c = some (.bool (!b))) (ht : b = false -> VW P nt x Q F S) (he : b = true -> VW P nt y Q F S) : VW P nt (.cond c x y) Q F S :=
 VW_cond hc (λ h => ht (by simpa using h)) (λ h => he (by simpa using h))
theorem VW_condT {c : Operand} {x y : Code} {b : Bool} (hc : F.ev c = some (.bool b)) (h : b = true) (ht : VW P nt x Q F S) : VW P nt (.cond c x y) Q F S :=
 VW_cond hc (λ _ => ht) (λ h' => by rw [h] at h'; cases h')
theorem VW_condF {c : Operand} {x y : Code} {b : Bool} (hc : F.ev c = some (.bool b)) (h : b = false) (he : VW P nt y Q F S) : VW P nt (.cond c x y) Q F S :=
 VW_cond hc (λ h' => by rw [h] at h'; cases h') (λ _ => he)
variable {ops l : List Oper} {Q' : Fr -> Store -> Prop} {o : Oper}
theorem VOps_split {q : Tmp} {b : Bool} (hq : F.get q = some (.bool b)) (ht : b = true -> VOps P nt ops l F S Q') (he : b = false -> VOps P nt ops l F S Q') : VOps P nt ops l F S Q' := by
 cases b
 .exact he rfl
 exact ht rfl
theorem want_eq {j : Nat} {want b : Bool} {q : Tmp} (hg : o.guard = some (j, want)) (hd : (ops[j]?).bind (·.dst) = some q) (hF : F.get q = some (.bool b)) : wantOf ops F o = some (b == want) := by
 unfold wantOf
 rw [hg]
 dsimp only
 rw [hd]
 dsimp only
 rw [hF]
theorem want_of {j : Nat} {want b : Bool} {q : Tmp} (hg : o.guard = some (j, want)) (hd : (ops[j]?).bind (·.dst) = some q) (hF : F.get q = some (.bool b)) (h : b = want) : wantOf ops F o = some true := by
 rw [want_eq hg hd hF, h]
 simp
theorem skip_of {j : Nat} {want b : Bool} {q : Tmp} (hg : o.guard = some (j, want)) (hd : (ops[j]?).bind (·.dst) = some q) (hF : F.get q = some (.bool b)) (h : b = !want) : wantOf ops F o = some false := by
 rw [want_eq hg hd hF, h]
 cases want <;> rfl
theorem V_pickT {c x y : Operand} {b : Bool} {v : V} (hc : F.ev c = some (.bool b)) (h : b = true) (hv : F.ev x = some v) (hk : K (some v) S) : VOp P nt ⟨d, .pick c x y, ty, pos, af, gd⟩ F S K := by
 subst h
 exact V_pick hc hv hk
theorem V_pickF {c x y : Operand} {b : Bool} {v : V} (hc : F.ev c = some (.bool b)) (h : b = false) (hv : F.ev y = some v) (hk : K (some v) S) : VOp P nt ⟨d, .pick c x y, ty, pos, af, gd⟩ F S K := by
 subst h
 exact V_pick hc hv hk
end
abbrev DP := List Nat × List Nat × List Nat
abbrev DRes (G : Type) := List G -> Option V -> Prop
def eqRes {G : Type} (v : V) : DRes G := λ _ r => r = some v
def anyRes {G : Type} : DRes G := λ _ _ => True
def epRes {G : Type} (v : V) : DRes G := λ _ r => ∃ a, r = some (.ep a v)
def dpAt : List DP -> Nat -> DP
 | [], _ => ([], [], [])
 | p :: _, 0 => p
 | _ :: t, k + 1 => dpAt t k
def nth {α : Type} : List α -> Nat -> Option α
 | [], _ => none
 | x :: _, 0 => some x
 | _ :: t, k + 1 => nth t k
theorem nth_eq {α : Type} : ∀ (l : List α) (k : Nat), nth l k = l[k]?
 | [], k => by simp [nth]
 | x :: t, 0 => rfl
 | x :: t, k + 1 => by simp [nth, nth_eq t k]
def isUn : List Nat -> Nat -> Nat -> Option Nat
 | [], _, _ => none
 | u :: t, i, q => bif Yam u i then some q else isUn t i (q + 1)
def has (l : List Nat) (i : Nat) : Bool := l.any λ k => Yam k i
theorem has_iff {l : List Nat} {i : Nat} : has l i = true ↔ i ∈ l := by
 unfold has
 rw [List.any_eq_true]
 constructor
 .rintro ⟨k, hk, he⟩
  rw [<- Yan he]
  exact hk
 intro h
 exact ⟨i, h, Nat.beq_refl i⟩
section
variable {G : Type} (ops : List Oper) (F0 : Fr) (ps : List DP)
def isDst (k s : Nat) : Bool := match (nth ops k).bind (·.dst) with
 | some d => Yam d s
 | none => false
def lookP (acc : List (DRes G)) (γ : Nat -> G) (s : Nat) : List Nat -> Option V -> Prop
 | [] => λ r => r = F0.get s
 | k :: t => bif isDst ops k s then (match nth acc k with
   | some R => R ((dpAt ps k).2.2.map γ)
   | none => λ _ => False) else lookP acc γ s t
def Needs (acc : List (DRes G)) (γ : Nat -> G) (pre : List Nat) : List Nat -> (Fr -> Prop) -> Prop
 | [], k => k []
 | s :: t, k => ∀ r, lookP ops F0 ps acc γ s pre r -> Needs acc γ pre t (λ F => k ((s, r) :: F))
def UndefGuard (F : Fr) (o : Oper) : Prop := ∃ j want q, o.guard = some (j, want) /\ (ops[j]?).bind (·.dst) = some q /\ F.get q = some (.raw undef)
def VOpG (P : Program) (nt : Nat) (o : Oper) (F : Fr) (S : Store) (K : Option V -> Store -> Prop) : Prop :=
 ∃ b, (wantOf ops F o = some b \/ b = false /\ UndefGuard ops F o) /\ (b = true -> VOp P nt o F S K) /\ (b = false -> K (some (.raw undef)) S)
theorem wantedG {m : Mem} {nt : Nat} {F : Fr} {a : Act} {o : Oper} {b : Bool} (hf : FRel m nt F a) (h : wantOf ops F o = some b \/ b = false /\ UndefGuard ops F o) : Region.wanted o (yielded ops.toArray a.tmps) = b := by
 rcases h with hw | ⟨rfl, j, want, q, h1, h2, h3⟩
 .exact wanted_of hf hw
 have hu : a.tmps.getD q undef = undef := hf.get q _ h3
 have hop : (ops.toArray[j]?).bind (·.dst) = some q := by simpa using h2
 unfold Region.wanted
 rw [h1]
 dsimp only
 unfold yielded
 rw [hop, Option.bind_some]
 rcases Yas q a.tmps.size with hl | hl
 .have : a.tmps[q]? = some undef := by simpa [hl] using hu
  rw [this]
  cases want <;> rfl
 rw [Array.getElem?_eq_none hl]
 cases want <;> rfl
def upd (γ : Nat -> G) (q : Nat) (x : G) : Nat -> G := λ k => bif Yam k q then x else γ k
variable (un : List Nat) (St : Nat -> List G -> Store)
def may (i j : Nat) : Bool := (un.drop j).all (λ u => !has (dpAt ps i).1 u) && (un.take j).all (λ u => !has (dpAt ps u).1 i)
def stagesOf (i : Nat) : List Nat := (Ya (un.length + 1)).filter (may ps un i)
def AllJ : List Nat -> (Nat -> Prop) -> Prop
 | [], _ => True
 | j :: t, p => p j /\ AllJ t p
theorem AllJ_mem {p : Nat -> Prop} : ∀ {l : List Nat}, AllJ l p -> ∀ j ∈ l, p j
 | j :: t, h, k, hk => by
  rcases Yf.1 hk with rfl | hk
  .exact h.1
  exact AllJ_mem h.2 k hk
def OpGood (P : Program) (nt : Nat) (i : Nat) (o : Oper) (acc : List (DRes G)) (R : DRes G) : Prop :=
 match isUn un i 0 with
 | some q => ∀ γ : Nat -> G, Needs ops F0 ps acc γ (dpAt ps i).1 (dpAt ps i).2.1 λ F => VOpG ops P nt o F (St q ((Ya q).map γ)) λ r S' => ∃ x, R ((dpAt ps i).2.2.map (upd γ q x)) r /\ S' = St (q + 1) ((Ya q).map γ ++ [x])
 | none => AllJ (stagesOf ps un i) λ j => ∀ γ : Nat -> G, Needs ops F0 ps acc γ (dpAt ps i).1 (dpAt ps i).2.1 λ F => VOpG ops P nt o F (St j ((Ya j).map γ)) λ r S' => R ((dpAt ps i).2.2.map γ) r /\ S' = St j ((Ya j).map γ)
def DrawP (P : Program) (nt : Nat) : Nat -> List Oper -> List (DRes G) -> (List (DRes G) -> Prop) -> Prop
 | _, [], acc, k => k acc
 | i, o :: rest, acc, k => ∃ R, OpGood ops F0 ps un St P nt i o acc R /\ DrawP P nt (i + 1) rest (acc ++ [R]) k
def drawOk (nt : Nat) (ws : List Nat) : Bool :=
 (Ya ops.length).all λ i => match nth ops i with
  | none => false
  | some o => let p := dpAt ps i
   dstOk nt o.dst &&
   (match o.dst with
    | some d => has ws d
    | none => true) &&
   (o.after.all λ e => !Region.binds .any e || (Nat.blt e.on i && has p.1 e.on)) &&
   (p.1.all λ k => Nat.blt k i && o.after.any λ e => Region.binds .any e && (Yam k e.on || has (dpAt ps e.on).1 k)) &&
   ((p.2.1 ++ o.dst.toList).all λ s => (Ya ops.length).all λ k => Yam k i || !isDst ops k s || has p.1 k || has (dpAt ps k).1 i) &&
   (p.2.2.all λ j => match nth un j with
    | some u => Yam u i || has p.1 u
    | none => false)
def descOk : List Nat -> Bool
 | a :: b :: t => Nat.blt b a && descOk (b :: t)
 | _ => true
def unOk : Bool :=
 (un.all λ u => Nat.blt u ops.length) && ((Ya un.length).all λ q => (Ya q).all λ q' => match nth un q, nth un q' with
  | some u, some u' => has (dpAt ps u).1 u'
  | _, _ => false) && (ps.all λ p => descOk p.1)
end
section
variable {G : Type} {ops : List Oper} {F0 : Fr} {ps : List DP} {un : List Nat} {St : Nat -> List G -> Store} {nt : Nat} {ws : List Nat}
structure Checked' (ops : List Oper) (ps : List DP) (un : List Nat) (nt : Nat) (ws : List Nat) : Prop where
 dst : ∀ (i : Nat) (o : Oper), ops[i]? = some o -> dstOk nt o.dst = true
 wr : ∀ (i : Nat) (o : Oper) (d : Nat), ops[i]? = some o -> o.dst = some d -> d ∈ ws
 edge : ∀ (i : Nat) (o : Oper), ops[i]? = some o -> ∀ e ∈ o.after, Region.binds .any e = true -> e.on < i /\ e.on ∈ (dpAt ps i).1
 pre : ∀ (i : Nat) (o : Oper), ops[i]? = some o -> ∀ k ∈ (dpAt ps i).1, k < i /\ ∃ e ∈ o.after, Region.binds .any e = true /\ (k = e.on \/ k ∈ (dpAt ps e.on).1)
 ord : ∀ (i : Nat) (o : Oper), ops[i]? = some o -> ∀ s, s ∈ (dpAt ps i).2.1 \/ o.dst = some s -> ∀ k, k < ops.length -> k ≠ i -> isDst ops k s = true -> k ∈ (dpAt ps i).1 \/ i ∈ (dpAt ps k).1
 js : ∀ (i : Nat) (o : Oper), ops[i]? = some o -> ∀ j ∈ (dpAt ps i).2.2, ∃ u, un[j]? = some u /\ (u = i \/ u ∈ (dpAt ps i).1)
 ulen : ∀ u ∈ un, u < ops.length
 uord : ∀ (q q' u u' : Nat), q' < q -> un[q]? = some u -> un[q']? = some u' -> u' ∈ (dpAt ps u).1
 desc : ∀ i, ((dpAt ps i).1).Pairwise (· > ·)
theorem descOk_pw : ∀ {l : List Nat}, descOk l = true -> l.Pairwise (· > ·)
 | [], _ => List.Pairwise.nil
 | [a], _ => by simp
 | a :: b :: t, h => by
  simp only [descOk, Bool.and_eq_true] at h
  have ih := descOk_pw h.2
  have hab : b < a := by have := h.1; simpa [Yaw] using this
  refine Yak.2 ⟨λ x hx => ?_, ih⟩
  rcases Yf.1 hx with rfl | hx
  .exact hab
  have := (Yak.1 ih).1 x hx
  omega
theorem dpAt_mem : ∀ (l : List DP) (i : Nat), dpAt l i = ([], [], []) \/ dpAt l i ∈ l
 | [], i => .inl rfl
 | p :: t, 0 => .inr (Yi ..)
 | p :: t, i + 1 => (dpAt_mem t i).imp id (Yd _)
theorem checked_of (h1 : drawOk ops ps un nt ws = true) (h2 : unOk ops ps un = true) : Checked' ops ps un nt ws := by
 simp only [unOk, Bool.and_eq_true] at h2
 obtain ⟨⟨hu, hq⟩, hd⟩ := h2
 have key : ∀ i o, ops[i]? = some o -> _ := λ i o ho => by
  have hi : i < ops.length := (Yc.1 ho).1
  have := Yb.1 h1 i (Ym.2 hi)
  rw [nth_eq, ho] at this
  dsimp only at this
  simp only [Bool.and_eq_true] at this
  exact this
 refine ⟨λ i o ho => (key i o ho).1.1.1.1.1, ?_, ?_, ?_, ?_, ?_, ?_, ?_, ?_⟩
 .intro i o d ho hod
  have := (key i o ho).1.1.1.1.2
  rw [hod] at this
  exact has_iff.1 this
 .intro i o ho e he hb
  have := Array.all_eq_true_iff_forall_mem.1 (key i o ho).1.1.1.2 e he
  rw [hb] at this
  simp only [Bool.not_true, Bool.false_or, Bool.and_eq_true] at this
  exact ⟨by simpa [Yaw] using this.1, has_iff.1 this.2⟩
 .intro i o ho k hk
  have := Yb.1 (key i o ho).1.1.2 k hk
  simp only [Bool.and_eq_true] at this
  obtain ⟨h3, h4⟩ := this
  rw [<- Array.any_toList] at h4
  obtain ⟨e, he, h5⟩ := List.any_eq_true.1 h4
  rw [Array.mem_toList_iff] at he
  simp only [Bool.and_eq_true, Bool.or_eq_true] at h5
  exact ⟨by simpa [Yaw] using h3, e, he, h5.1, h5.2.imp Yan has_iff.1⟩
 .intro i o ho s hs k hk hki hdst
  have hmem : s ∈ (dpAt ps i).2.1 ++ o.dst.toList := by
   rcases hs with h | h
   .exact Yt _ h
   exact Yw _ (by rw [h]; simp)
  have := Yb.1 (Yb.1 (key i o ho).1.2 s hmem) k (Ym.2 hk)
  rw [hdst] at this
  simp only [Bool.not_true, Bool.or_false, Bool.or_eq_true] at this
  rcases this with (h | h) | h
  .exact absurd (Yan h) hki
  .exact .inl (has_iff.1 h)
  exact .inr (has_iff.1 h)
 .intro i o ho j hj
  have := Yb.1 (key i o ho).2 j hj
  rw [nth_eq] at this
  cases hun : un[j]? with
  | none => rw [hun] at this; cases this
  | some u =>
   rw [hun] at this
   simp only [Bool.or_eq_true] at this
   exact ⟨u, rfl, this.imp Yan has_iff.1⟩
 .intro u hu'
  have := Yb.1 hu u hu'
  simpa [Yaw] using this
 .intro q q' u u' hlt h3 h4
  have hql : q < un.length := (Yc.1 h3).1
  have := Yb.1 (Yb.1 hq q (Ym.2 hql)) q' (Ym.2 hlt)
  rw [nth_eq, nth_eq, h3, h4] at this
  exact has_iff.1 this
 intro i
 rcases dpAt_mem ps i with h | h
 .rw [h]; exact List.Pairwise.nil
 exact descOk_pw (Yb.1 hd _ h)
def lookS (ops : List Oper) (F0 : Fr) (ps : List DP) (acc : List (DRes G)) (γ : Nat -> G) (s : Nat) (L : Nat -> Prop) (r : Option V) : Prop :=
 (∃ k R, L k /\ isDst ops k s = true /\ (∀ k', L k' -> isDst ops k' s = true -> k' <= k) /\ nth acc k = some R /\ R ((dpAt ps k).2.2.map γ) r) \/ ((∀ k, L k -> isDst ops k s = false) /\ r = F0.get s)
theorem lookP_of {acc : List (DRes G)} {γ : Nat -> G} {s : Nat} {r : Option V} : ∀ {l : List Nat}, l.Pairwise (· > ·) -> lookS ops F0 ps acc γ s (· ∈ l) r -> lookP ops F0 ps acc γ s l r
 | [], _, h => by
  rcases h with ⟨k, R, hk, _⟩ | ⟨_, h⟩
  .cases hk
  exact h
 | k :: t, hp, h => by
  obtain ⟨hp1, hp2⟩ := Yak.1 hp
  simp only [lookP]
  cases hd : isDst ops k s with
  | true =>
   rw [cond_true]
   rcases h with ⟨k', R, hk', h1, h2, h3, h4⟩ | ⟨h1, _⟩
   .have hle := h2 k (Yi ..) hd
    have : k' = k := by
     rcases Yf.1 hk' with h | h
     .exact h
     have := hp1 k' h; omega
    subst this
    rw [h3]
    exact h4
   rw [h1 k (Yi ..)] at hd
   cases hd
  | false =>
   rw [cond_false]
   refine lookP_of hp2 ?_
   rcases h with ⟨k', R, hk', h1, h2, h3, h4⟩ | ⟨h1, h2⟩
   .refine .inl ⟨k', R, ?_, h1, λ k'' hk'' hd' => h2 k'' (Yd _ hk'') hd', h3, h4⟩
    rcases Yf.1 hk' with rfl | h
    .rw [hd] at h1; cases h1
    exact h
   exact .inr ⟨λ k' hk' => h1 k' (Yd _ hk'), h2⟩
theorem get_map_fr (ρ : Nat -> Option V) (T : Fr) : ∀ (slots : List Nat) (i : Nat), Fr.get (slots.map (λ s => (s, ρ s)) ++ T) i = if i ∈ slots then ρ i else Fr.get T i
 | [], i => by simp
 | s :: t, i => by
  simp only [Yo, Yai, Fr.get]
  cases hb : Yam i s with
  | true => rw [cond_true, Yan hb, if_pos (Yi ..)]
  | false =>
   have hne : i ≠ s := by intro h; subst h; simp at hb
   rw [cond_false, get_map_fr ρ T t i]
   simp [hne]
theorem needs_frame {acc : List (DRes G)} {γ : Nat -> G} {pre : List Nat} (ρ : Nat -> Option V) : ∀ {slots : List Nat} {k : Fr -> Prop}, Needs ops F0 ps acc γ pre slots k ->
  (∀ s ∈ slots, lookP ops F0 ps acc γ s pre (ρ s)) -> k (slots.map λ s => (s, ρ s))
 | [], k, h, _ => h
 | s :: t, k, h, hs => needs_frame ρ (slots := t) (k := λ F => k ((s, ρ s) :: F)) (h (ρ s) (hs s (Yi ..))) (λ s' hs' => hs s' (Yd _ hs'))
theorem isUn_some : ∀ {un : List Nat} {i q0 q : Nat}, isUn un i q0 = some q -> ∃ k, q = q0 + k /\ un[k]? = some i
 | u :: t, i, q0, q, h => by
  simp only [isUn] at h
  cases hb : Yam u i with
  | true =>
   rw [hb, cond_true] at h
   injection h with h
   exact ⟨0, by omega, by rw [<- Yan hb]; rfl⟩
  | false =>
   rw [hb, cond_false] at h
   obtain ⟨k, h1, h2⟩ := isUn_some h
   exact ⟨k + 1, by omega, by simpa using h2⟩
theorem isUn_none : ∀ {un : List Nat} {i q0 : Nat}, isUn un i q0 = none -> i ∉ un
 | [], i, q0, _ => by simp
 | u :: t, i, q0, h => by
  simp only [isUn] at h
  cases hb : Yam u i with
  | true => rw [hb, cond_true] at h; cases h
  | false =>
   rw [hb, cond_false] at h
   intro hm
   rcases Yf.1 hm with rfl | hm
   .simp at hb
   exact isUn_none h hm
theorem drawP_all {P : Program} {k : List (DRes G) -> Prop} : ∀ {rest : List Oper} {i : Nat} {acc : List (DRes G)}, DrawP ops F0 ps un St P nt i rest acc k -> acc.length = i ->
  ∃ full, k full /\ (∃ t, full = acc ++ t /\ t.length = rest.length) /\ ∀ j o, rest[j]? = some o -> ∃ R, full[i + j]? = some R /\ OpGood ops F0 ps un St P nt (i + j) o (full.take (i + j)) R
 | [], i, acc, h, _ => ⟨acc, h, ⟨[], by simp, rfl⟩, λ j o hj => by simp at hj⟩
 | o :: rest, i, acc, ⟨R, hR, h⟩, hl => by
  obtain ⟨full, h1, ⟨t, ht, htl⟩, h2⟩ := drawP_all h (by simp [hl])
  have hfull : full = acc ++ (R :: t) := by rw [ht]; simp
  refine ⟨full, h1, ⟨R :: t, hfull, by simp [htl]⟩, λ j o' hj => ?_⟩
  cases j with
  | zero =>
   simp at hj
   subst hj
   refine ⟨R, by rw [hfull, Nat.add_zero, Yaf (by omega), hl]; simp, ?_⟩
   have : full.take (i + 0) = acc := by rw [hfull, Nat.add_zero, <- hl]; simp
   rw [this]
   exact hR
  | succ j =>
   simp at hj
   obtain ⟨R', h3, h4⟩ := h2 j o' hj
   rw [show i + (j + 1) = i + 1 + j by omega]
   exact ⟨R', h3, h4⟩
theorem lookP_take {acc : List (DRes G)} {n : Nat} {γ : Nat -> G} {s : Nat} : ∀ {l : List Nat} {r : Option V}, (∀ k ∈ l, k < n) -> lookP ops F0 ps acc γ s l r -> lookP ops F0 ps (acc.take n) γ s l r
 | [], r, _, h => h
 | k :: t, r, hl, h => by
  simp only [lookP] at h ⊢
  cases hd : isDst ops k s with
  | true =>
   rw [hd, cond_true] at h
   rw [cond_true]
   have hk := hl k (Yi ..)
   have : nth (acc.take n) k = nth acc k := by rw [nth_eq, nth_eq, Yu, if_pos hk]
   rw [this]
   exact h
  | false =>
   rw [hd, cond_false] at h
   rw [cond_false]
   exact lookP_take (λ k' hk' => hl k' (Yd _ hk')) h
end
section
variable {G : Type} {ops : List Oper} {F0 : Fr} {ps : List DP}
theorem lookS_pre {acc : List (DRes G)} {γ : Nat -> G} {s : Nat} {L L' : Nat -> Prop} {r : Option V} (h1 : ∀ k, L k -> isDst ops k s = true -> L' k) (h2 : ∀ k, L' k -> L k) (h : lookS ops F0 ps acc γ s L r) : lookS ops F0 ps acc γ s L' r := by
 rcases h with ⟨k, R, hk, hd, hm, hn, hR⟩ | ⟨hk, hr⟩
 .exact .inl ⟨k, R, h1 k hk hd, hd, λ k' hk' hd' => hm k' (h2 k' hk') hd', hn, hR⟩
 exact .inr ⟨λ k hk' => hk k (h2 k hk'), hr⟩
end
section
variable {G : Type} {P : Program} {nt : Nat} {ops : List Oper} {F0 : Fr} {S0 : Store}
theorem isDst_of {k s : Nat} {o : Oper} (ho : ops[k]? = some o) : isDst ops k s = true ↔ o.dst = some s := by
 unfold isDst
 rw [nth_eq, ho, Option.bind_some]
 cases o.dst with
 | none => simp
 | some d => simp
def lis (listed : Array Bool) (k : Nat) : Prop := listed.getD k false = true
structure DInv (ops : List Oper) (F0 : Fr) (S0 : Store) (nt : Nat) (ps : List DP) (un : List Nat) (St : Nat -> List G -> Store) (full : List (DRes G)) (m0 : Mem) (w0 : World) (listed : Array Bool) (γ : Nat -> G) (q : Nat) (m : Mem) (w : World) (a : Act) : Prop where
 size : listed.size = ops.length
 closed : ∀ k, lis listed k -> ∀ k' ∈ (dpAt ps k).1, lis listed k'
 stage : ∀ (p u : Nat), un[p]? = some u -> (lis listed u ↔ p < q)
 qle : q <= un.length
 defers : a.defers = []
 tmps : a.tmps.size = nt
 look : ∀ s, ∃ r, lookS ops F0 ps full γ s (lis listed) r /\ ∀ v, r = some v -> Rep m v (a.tmps.getD s undef)
 step : Step m0 S0 w0 m (St q ((Ya q).map γ)) w
theorem lis_lt {listed : Array Bool} {k : Nat} (h : lis listed k) : k < listed.size := by
 unfold lis at h
 rcases Yas k listed.size with h' | h'
 .exact h'
 simp [Array.getElem?_eq_none h'] at h
theorem lis_set {listed : Array Bool} {i k : Nat} (hi : i < listed.size) : lis (listed.setIfInBounds i true) k ↔ lis listed k \/ k = i := by
 unfold lis
 by_cases h : i = k
 .subst h
  simp [hi]
 rw [getD_set_ne false h]
 constructor
 .exact λ h' => .inl h'
 rintro (h' | h')
 .exact h'
 exact absurd h'.symm h
theorem not_lis {listed : Array Bool} {k : Nat} (h : listed.getD k true = false) : ¬ lis listed k := by
 unfold lis
 intro h'
 rcases Yas k listed.size with hk | hk
 .simp [hk] at h h'
  rw [h] at h'
  cases h'
 simp [Array.getElem?_eq_none hk] at h
variable {ps : List DP} {un : List Nat} {St : Nat -> List G -> Store} {full : List (DRes G)} {m0 : Mem} {w0 : World} {ws : List Nat}
theorem map_upd_lt (γ : Nat -> G) (q : Nat) (x : G) (l : List Nat) (h : ∀ j ∈ l, j < q) : l.map (upd γ q x) = l.map γ := by
 apply List.map_congr_left
 intro j hj
 have hj := h j hj
 have hb : Yam j q = false := by rw [<- Bool.not_eq_true, Nat.beq_eq]; omega
 simp only [upd, hb, cond_false]
theorem range_upd (γ : Nat -> G) (q : Nat) (x : G) : (Ya (q + 1)).map (upd γ q x) = (Ya q).map γ ++ [x] := by
 rw [List.range_succ, Yaj, map_upd_lt γ q x _ (λ j hj => Ym.1 hj)]
 simp [upd]
theorem DInv.next (C : Checked' ops ps un nt ws) {listed : Array Bool} {γ γ2 : Nat -> G} {q q2 : Nat} {m m2 : Mem} {w w2 : World} {a : Act} {i : Nat} {o : Oper} {R : DRes G} {r : Option V} {u : Value} (h : DInv ops F0 S0 nt ps un St full m0 w0 listed γ q m w a)
  (ho : ops[i]? = some o) (hni : ¬ lis listed i) (hpre : ∀ k ∈ (dpAt ps i).1, lis listed k) (hR : full[i]? = some R) (hres : R ((dpAt ps i).2.2.map γ2) r) (hru : RepO m2 r u) (hg : ∀ j, j < q -> γ2 j = γ j) (hq2 : q2 <= un.length)
  (hstage : ∀ (p u : Nat), un[p]? = some u -> ((lis listed u \/ u = i) ↔ p < q2)) (hst : Step m (St q ((Ya q).map γ)) w m2 (St q2 ((Ya q2).map γ2)) w2) :
  DInv ops F0 S0 nt ps un St full m0 w0 (listed.setIfInBounds i true) γ2 q2 m2 w2 (a.put o.dst u) := by
 have hi : i < listed.size := by rw [h.size]; exact (Yc.1 ho).1
 have hjs : ∀ k o', ops[k]? = some o' -> lis listed k -> (dpAt ps k).2.2.map γ2 = (dpAt ps k).2.2.map γ := λ k o' ho' hk => by
  apply List.map_congr_left
  intro j hj
  obtain ⟨u', hu', hor⟩ := C.js k o' ho' j hj
  have hlu : lis listed u' := by
   rcases hor with rfl | hp
   .exact hk
   exact h.closed k hk u' hp
  exact hg j ((h.stage j u' hu').1 hlu)
 refine ⟨by simpa using h.size, ?_, ?_, hq2, ?_, ?_, ?_, h.step.trans hst⟩
 .intro k hk k' hk'
  rw [lis_set hi] at hk ⊢
  rcases hk with hk | rfl
  .exact .inl (h.closed k hk k' hk')
  exact .inl (hpre k' hk')
 .intro p u' hu'
  rw [lis_set hi]
  exact hstage p u' hu'
 .cases hd : o.dst <;> exact h.defers
 .cases hd : o.dst with
  | none => exact h.tmps
  | some d => simp [Act.put, h.tmps]
 intro s
 by_cases hd : o.dst = some s
 .refine ⟨r, .inl ⟨i, R, (lis_set hi).2 (.inr rfl), (isDst_of ho).2 hd, λ k' hk' hd' => ?_, by rw [nth_eq]; exact hR, hres⟩, λ v hv => ?_⟩
  .rcases (lis_set hi).1 hk' with hk | rfl
   .by_cases hki : k' = i
    .omega
    rcases C.ord i o ho s (.inr hd) k' (by have := lis_lt hk; rw [h.size] at this; exact this) hki hd' with h1 | h1
    .exact Nat.le_of_lt (C.pre i o ho k' h1).1
    exact absurd (h.closed k' hk i h1) hni
   exact Yap _
  subst hv
  have hs : s < a.tmps.size := by
   have := C.dst i o ho
   rw [hd] at this
   rw [h.tmps]
   exact Yaq (n := s + 1) this
  rw [hd]
  have hru' : Rep m2 v u := hru
  simpa [Act.put, hs] using hru'
 obtain ⟨r', hl, hv⟩ := h.look s
 refine ⟨r', ?_, λ v hv' => ?_⟩
 .rcases hl with ⟨k, R', hk, hdk, hm, hn, hR'⟩ | ⟨hk, hr⟩
  .have hkn : k < ops.length := by have := lis_lt hk; rw [h.size] at this; exact this
   refine .inl ⟨k, R', (lis_set hi).2 (.inl hk), hdk, λ k' hk' hd' => ?_, hn, ?_⟩
   .rcases (lis_set hi).1 hk' with hk'' | rfl
    .exact hm k' hk'' hd'
    exact absurd ((isDst_of ho).1 hd') hd
   rw [hjs k _ (Yg hkn) hk]
   exact hR'
  refine .inr ⟨λ k hk' => ?_, hr⟩
  rcases (lis_set hi).1 hk' with hk'' | rfl
  .exact hk k hk''
  rw [<- Bool.not_eq_true]
  exact λ hd' => hd ((isDst_of ho).1 hd')
 have := Rep.mono hst.mono _ _ (hv v hv')
 cases hdd : o.dst with
 | none => exact this
 | some d =>
  have hne : d ≠ s := λ e => hd (by rw [hdd, e])
  simpa [Act.put, Array.getElem?_setIfInBounds_ne hne] using this
theorem FRel_of_slots {m : Mem} {a : Act} (hd : a.defers = []) (hs : a.tmps.size = nt) {ρ : Nat -> Option V} {slots : List Nat} (h : ∀ s ∈ slots, ∀ v, ρ s = some v -> Rep m v (a.tmps.getD s undef)) : FRel m nt (slots.map λ s => (s, ρ s)) a :=
 ⟨hd, hs, λ i v hv => by
  have := get_map_fr ρ [] slots i
  rw [Yaa] at this
  rw [this] at hv
  split at hv
  .rename_i hi
   exact h i hi v hv
  cases hv⟩
theorem VW_draw [Inhabited G] {id : Nat} {Q : Exit -> Fr -> Store -> Prop} (ps : List DP) (un : List Nat) (St : Nat -> List G -> Store) (outs ws : List Nat) (hS0 : St 0 [] = S0) (hmix : P.follows .mixedOrders = true)
  (h1 : drawOk ops ps un nt ws = true) (h2 : unOk ops ps un = true)
  (h : DrawP ops F0 ps un St P nt 0 ops [] λ acc => ∀ γ : Nat -> G, Needs ops F0 ps acc γ (Ya ops.length).reverse outs λ F => Q .normal (F ++ (ws.map (λ s => (s, none)) ++ F0)) (St un.length ((Ya un.length).map γ))) :
  VW P nt (.region id ops.toArray true) Q F0 S0 := by
 have C := checked_of h1 h2
 obtain ⟨full, hfin, ⟨t, ht, htl⟩, hall⟩ := drawP_all h rfl
 simp only [List.nil_append] at ht
 subst ht
 intro m0 w0 a0 QQ hf0 hw0 hK
 refine wp_region_any hmix ?_
 -- the end
 have fin : ∀ (listed : Array Bool) (γ : Nat -> G) (q : Nat) (m : Mem) (w : World) (a : Act), DInv ops F0 S0 nt ps un St full m0 w0 listed γ q m w a -> Region.ready .any ops.toArray listed = [] -> QQ .normal a w := by
  intro listed γ q m w a D hr
  have hallL : ∀ k, k < ops.length -> lis listed k := by
   intro k
   induction k using Nat.strongRecOn with
   | _ k ihk =>
    intro hk
    by_cases hlk : lis listed k
    .exact hlk
    exfalso
    have hmem : k ∈ Region.ready .any ops.toArray listed := by
     rw [mem_ready]
     refine ⟨?_, ops[k], by simp [hk], λ e he hb => ?_⟩
     .have hks : k < listed.size := by rw [D.size]; exact hk
      unfold lis at hlk
      simp [hks] at hlk ⊢
      exact hlk
     have := C.edge k _ (Yg hk) e he hb
     exact ihk e.on this.1 (by omega)
    rw [hr] at hmem
    cases hmem
  have hq : q = un.length := by
   rcases Yas q un.length with hlt | hge
   .have hu := C.ulen _ (List.getElem_mem hlt)
    have := (D.stage q _ (Yg hlt)).1 (hallL _ hu)
    omega
   have := D.qle
   omega
  subst hq
  have hpw : ((Ya ops.length).reverse).Pairwise (· > ·) := by
   rw [List.pairwise_reverse]
   exact List.pairwise_lt_range
  have hρ : ∀ s, ∃ r, lookP ops F0 ps full γ s (Ya ops.length).reverse r /\ lookS ops F0 ps full γ s (lis listed) r /\ ∀ v, r = some v -> Rep m v (a.tmps.getD s undef) := λ s => by
   obtain ⟨r, hl, hv⟩ := D.look s
   refine ⟨r, lookP_of hpw (lookS_pre (λ k hk _ => ?_) (λ k hk => ?_) hl), hl, hv⟩
   .have := lis_lt hk
    rw [D.size] at this
    simpa using this
   exact hallL k (by simpa using hk)
  let ρ : Nat -> Option V := λ s => Classical.choose (hρ s)
  have hρs : ∀ s, lookP ops F0 ps full γ s (Ya ops.length).reverse (ρ s) /\ lookS ops F0 ps full γ s (lis listed) (ρ s) /\ ∀ v, ρ s = some v -> Rep m v (a.tmps.getD s undef) := λ s => Classical.choose_spec (hρ s)
  have hQ := needs_frame ρ (hfin γ) (λ s _ => (hρs s).1)
  refine hK _ _ _ m w a hQ ⟨D.defers, D.tmps, λ i v hv => ?_⟩ D.step
  rw [get_map_fr] at hv
  split at hv
  .exact (hρs i).2.2 v hv
  have hv2 := hv
  rw [get_map_fr (λ _ => none)] at hv2
  split at hv2
  .cases hv2
  rename_i hiw
  refine (hρs i).2.2 v ?_
  rcases (hρs i).2.1 with ⟨k, R, hk, hd, _⟩ | ⟨_, hr'⟩
  .exfalso
   have hkn : k < ops.length := by have := lis_lt hk; rw [D.size] at this; exact this
   exact hiw (C.wr k _ i (Yg hkn) ((isDst_of (Yg hkn)).1 hd))
  rw [hr']
  exact hv2
 -- one operation's turn
 have inv : ∀ (fuel : Nat) (listed : Array Bool) (γ : Nat -> G) (q : Nat) (m : Mem) (w : World) (a : Act), ((Ya ops.length).filter λ k => !listed.getD k false).length <= fuel ->
   DInv ops F0 S0 nt ps un St full m0 w0 listed γ q m w a -> wpAny P .any ops.toArray QQ fuel listed a w := by
  intro fuel
  induction fuel with
  | zero =>
   intro listed γ q m w a hcnt D
   have hr : Region.ready .any ops.toArray listed = [] := by
    rw [List.eq_nil_iff_forall_not_mem]
    intro k hk
    obtain ⟨hk1, o, ho, _⟩ := mem_ready.1 hk
    have hkn : k < ops.length := by
     have := (Array.getElem?_eq_some_iff.1 ho).1
     simpa using this
    have : k ∈ (Ya ops.length).filter λ k => !listed.getD k false := Yal.2 ⟨Ym.2 hkn, by
     have := not_lis hk1
     unfold lis at this
     simpa using this⟩
    have hnil := Yr (Nat.le_zero.1 hcnt)
    rw [hnil] at this
    cases this
   exact ⟨hr, fin listed γ q m w a D hr⟩
  | succ fuel ih =>
   intro listed γ q m w a hcnt D
   refine ⟨fin listed γ q m w a D, λ i hi => ?_⟩
   obtain ⟨hi1, o, ho', hedge⟩ := mem_ready.1 hi
   have ho : ops[i]? = some o := by simpa using ho'
   have hin : i < ops.length := (Yc.1 ho).1
   have hni := not_lis hi1
   have hpre : ∀ k ∈ (dpAt ps i).1, lis listed k := λ k hk => by
    obtain ⟨_, e, he, hb, hor⟩ := C.pre i o ho k hk
    have hle := hedge e he hb
    rcases hor with rfl | hk'
    .exact hle
    exact D.closed _ hle k hk'
   have hcnt' : ((Ya ops.length).filter λ k => !(listed.setIfInBounds i true).getD k false).length <= fuel := by
    have hsub : ((Ya ops.length).filter λ k => !(listed.setIfInBounds i true).getD k false) = ((Ya ops.length).filter λ k => !listed.getD k false).filter λ k => decide (k ≠ i) := by
     rw [List.filter_filter]
     apply List.filter_congr
     intro k _
     by_cases hk : i = k
     .subst hk
      have : i < listed.size := by rw [D.size]; exact hin
      simp [this]
     rw [getD_set_ne false hk]
     simp [Ne.symm hk]
    rw [hsub]
    have hlt := (List.length_filter_lt_length_iff_exists (l := (Ya ops.length).filter λ k => !listed.getD k false) (p := λ k => decide (k ≠ i))).2 ⟨i, Yal.2 ⟨Ym.2 hin, by
     unfold lis at hni
     simpa using hni⟩, by simp⟩
    omega
   obtain ⟨R, hR, hgood⟩ := hall i o ho
   rw [Yat] at hR hgood
   -- what the operation looks at
   have hρ : ∀ s, ∃ r, lookS ops F0 ps full γ s (lis listed) r /\ ∀ v, r = some v -> Rep m v (a.tmps.getD s undef) := D.look
   let ρ : Nat -> Option V := λ s => Classical.choose (hρ s)
   have hρs : ∀ s, lookS ops F0 ps full γ s (lis listed) (ρ s) /\ ∀ v, ρ s = some v -> Rep m v (a.tmps.getD s undef) := λ s => Classical.choose_spec (hρ s)
   have hlook : ∀ s ∈ (dpAt ps i).2.1, lookP ops F0 ps (full.take i) γ s (dpAt ps i).1 (ρ s) := λ s hs => by
    refine lookP_take (λ k hk => (C.pre i o ho k hk).1) (lookP_of (C.desc i) (lookS_pre (λ k hk hd => ?_) hpre (hρs s).1))
    have hkn : k < ops.length := by have := lis_lt hk; rw [D.size] at this; exact this
    rcases C.ord i o ho s (.inl hs) k hkn (λ e => hni (e ▸ hk)) hd with h3 | h3
    .exact h3
    exact absurd (D.closed k hk i h3) hni
   have hfr : FRel m nt ((dpAt ps i).2.1.map λ s => (s, ρ s)) a := FRel_of_slots D.defers D.tmps λ s _ v hv => (hρs s).2 v hv
   have go : ∀ (K : Option V -> Store -> Prop), VOpG ops P nt o ((dpAt ps i).2.1.map λ s => (s, ρ s)) (St q ((Ya q).map γ)) K ->
     (∀ r S' m' w' u, K r S' -> RepO m' r u -> Step m (St q ((Ya q).map γ)) w m' S' w' -> wpAny P .any ops.toArray QQ fuel (listed.setIfInBounds i true) (a.put o.dst u) w') ->
     wpOp P ops.toArray QQ i (wpAny P .any ops.toArray QQ fuel (listed.setIfInBounds i true)) a w := by
    intro K ⟨b, hb, ht, hfa⟩ hnext
    unfold wpOp
    rw [ho']
    dsimp only
    rw [wantedG ops hfr hb]
    cases b with
    | true =>
     rw [if_pos rfl]
     exact .inl (ht rfl m w a _ QQ hfr D.step.rel hnext)
    | false =>
     rw [if_neg Bool.false_ne_true]
     exact hnext (some (.raw undef)) _ m w undef (hfa rfl) rfl (Step.refl D.step.rel)
   unfold OpGood at hgood
   cases hun : isUn un i 0 with
   | none =>
    rw [hun] at hgood
    have hiu := isUn_none hun
    have hmay : q ∈ stagesOf ps un i := by
     refine Yal.2 ⟨Ym.2 (by have := D.qle; omega), ?_⟩
     unfold may
     rw [Bool.and_eq_true]
     constructor
     .rw [Yb]
      intro u hu
      rw [Bool.not_eq_true', <- Bool.not_eq_true, has_iff]
      intro hup
      obtain ⟨p, hp⟩ := Yac hu
      rw [Yad] at hp
      have := (D.stage _ _ hp).1 (hpre u hup)
      omega
     rw [Yb]
     intro u hu
     rw [Bool.not_eq_true', <- Bool.not_eq_true, has_iff]
     intro hup
     obtain ⟨p, hp⟩ := Yac hu
     rw [Yu] at hp
     split at hp
     .rename_i hpq
      exact hni (D.closed u ((D.stage _ _ hp).2 hpq) i hup)
     cases hp
    have hj := AllJ_mem hgood q hmay γ
    refine go _ (needs_frame ρ hj hlook) λ r S' m' w' u hk hru st => ?_
    obtain ⟨hres, rfl⟩ := hk
    refine ih _ γ q m' w' _ hcnt' (D.next C ho hni hpre hR hres hru (λ j _ => rfl) D.qle (λ p u' hu' => ?_) st)
    constructor
    .rintro (h3 | rfl)
     .exact (D.stage p u' hu').1 h3
     exact absurd (Yh hu') hiu
    exact λ h3 => .inl ((D.stage p u' hu').2 h3)
   | some q0 =>
    rw [hun] at hgood
    obtain ⟨k, hk0, hk⟩ := isUn_some hun
    have hqk : q0 = k := by omega
    subst hqk
    have hq0 : q0 = q := by
     rcases Nat.lt_trichotomy q0 q with hlt | heq | hgt
     .exact absurd ((D.stage q0 i hk).2 hlt) hni
     .exact heq
     exfalso
     have hq0l : q0 < un.length := (Yc.1 hk).1
     have hql : q < un.length := by omega
     have hu' := C.uord q0 q i _ hgt hk (Yg hql)
     have := (D.stage q _ (Yg hql)).1 (hpre _ hu')
     omega
    subst hq0
    have hj := hgood γ
    refine go _ (needs_frame ρ hj hlook) λ r S' m' w' u hk' hru st => ?_
    obtain ⟨x, hres, rfl⟩ := hk'
    rw [<- range_upd γ q0 x] at st
    have hq0l : q0 < un.length := (Yc.1 hk).1
    refine ih _ (upd γ q0 x) (q0 + 1) m' w' _ hcnt' (D.next C ho hni hpre hR hres hru (λ j hjq => ?_) (by omega) (λ p u' hu' => ?_) st)
    .have hb : Yam j q0 = false := by rw [<- Bool.not_eq_true, Nat.beq_eq]; omega
     simp [upd, hb]
    constructor
    .rintro (h3 | rfl)
     .have := (D.stage p u' hu').1 h3; omega
     rcases Nat.lt_trichotomy p q0 with hlt | heq | hgt
     .omega
     .omega
     exfalso
     have := C.uord p q0 u' u' hgt hu' hk
     have := (C.pre u' o ho u' this).1
     omega
    intro h3
    rcases Yas p q0 with hlt | hge
    .exact .inl ((D.stage p u' hu').2 hlt)
    have : p = q0 := by omega
    subst this
    rw [hk] at hu'
    injection hu' with hu'
    exact .inr hu'.symm
 have hsz : ops.toArray.size = ops.length := by simp
 rw [hsz]
 refine inv ops.length _ (λ _ => default) 0 m0 _ a0 ?_ ⟨by simp, ?_, ?_, Nat.zero_le _, hf0.defers, hf0.size, ?_, ?_⟩
 .exact Yar (List.length_filter_le _ _) (by simp)
 .intro k hk
  have := lis_lt hk
  unfold lis at hk
  simp at this hk
  simp [this] at hk
 .intro p u hu
  constructor
  .intro hk
   have := lis_lt hk
   unfold lis at hk
   simp at this hk
   simp [this] at hk
  intro h3; omega
 .intro s
  refine ⟨F0.get s, .inr ⟨λ k hk => ?_, rfl⟩, λ v hv => hf0.get s v hv⟩
  have := lis_lt hk
  unfold lis at hk
  simp at this hk
  simp [this] at hk
 have : St 0 ((Ya 0).map (λ _ => (default : G))) = S0 := hS0
 rw [this]
 exact Step.drew hw0
end
def kmap {κ : Type} (kv : κ -> Value) (l : List (κ × V)) : List (Value × V) := l.map λ p => (kv p.1, p.2)
section
variable {κ : Type} {P : Program} {kv : κ -> Value} {nt : Nat} {F : Fr} {S : Store} {K : Option V -> Store -> Prop}
variable {d : Option Tmp} {ty : TypeId} {pos : String} {af : Array Edge} {gd : Option (Nat × Bool)}
theorem V_makeMap {t : TypeId} (hk : ∀ g, K (some (.raw (.map (some g)))) (.map g (kmap kv []) :: S)) : VOp P nt ⟨d, .makeMap t none, ty, pos, af, gd⟩ F S K := by
 intro m w ac KK QQ hf hw hK
 have hrun : (execOp ac.eval ⟨d, .makeMap t none, ty, pos, af, gd⟩).run P w = .ok (.value (.map (some w.heap.size))) (w.alloc (.map #[] 0)) := by
  simp [execOp, Instr.makeMap]
 unfold Oper.wp
 rw [hrun]
 exact hK _ _ m _ _ (hk w.heap.size) rfl (Step.alloc hw rfl (Sub.refl m) (λ b o v _ h => h) (λ k v h => by rw [hw.fresh k] at h; cases h) ⟨⟨#[], 0, alloc_heap _ _, rfl, (λ x hx => by cases hx), List.nodup_nil⟩, hw.fresh⟩)
end
section
variable {κ : Type} [DecidableEq κ]
def kget : List (κ × V) -> κ -> Option V
 | [], _ => none
 | (a, v) :: t, k => if a = k then some v else kget t k
def kput : List (κ × V) -> κ -> V -> List (κ × V)
 | [], k, v => [(k, v)]
 | (a, u) :: t, k, v => if a = k then (a, v) :: t else (a, u) :: kput t k v
structure KeyTy (P : Program) (kt : TypeId) (kv : κ -> Value) : Prop where
 all : ∃ kind, P.underlying kt = some kind /\ (∀ a b, Instr.sameNow kind (kv a) (kv b) = some (decide (a = b))) /\ (∀ (e : Bool) (a : κ) (w : World), (Instr.checkKey e 10000 kt (kv a)).run P w = .ok () w) /\ ∀ a, Instr.sameBits 10000 (kv a) (kv a) = true
variable {P : Program} {kt : TypeId} {kv : κ -> Value} {m : Mem}
theorem findNow_kget {kind : TypeDesc} (hs : ∀ a b, Instr.sameNow kind (kv a) (kv b) = some (decide (a = b))) (k : κ) : ∀ {l : List (κ × V)} {es : List MapEntry} (i : Nat), RepMap m (kmap kv l) es ->
  (kget l k = none /\ Instr.findNow kind (kv k) es i = some none /\ ∀ (v : V) (e' : MapEntry), e'.key = kv k -> Rep m v e'.val -> RepMap m (kmap kv (kput l k v)) (es ++ [e'])) \/
  (∃ v j e, kget l k = some v /\ Instr.findNow kind (kv k) es i = some (some (i + j, e.val)) /\ es[j]? = some e /\ e.key = kv k /\ Rep m v e.val /\ ∀ (v' : V) (e' : MapEntry), e'.key = kv k -> Rep m v' e'.val -> RepMap m (kmap kv (kput l k v')) (es.set j e'))
 | [], es, i, h => by
  have he : es = [] := h
  subst he
  exact .inl ⟨rfl, rfl, λ v e' hk hr => ⟨e', [], rfl, hk, hr, rfl⟩⟩
 | (a, u) :: l, es, i, h => by
  obtain ⟨e, es', rfl, hk, hr, ht⟩ := h
  by_cases hak : a = k
  .subst hak
   refine .inr ⟨u, 0, e, by simp [kget], ?_, rfl, hk, hr, λ v' e' hk' hr' => ?_⟩
   .simp [Instr.findNow, hk, hs]
   simp only [kput, if_pos, kmap, Yo, List.set_cons_zero]
   exact ⟨e', es', rfl, hk', hr', ht⟩
  have hne : decide (k = a) = false := by simp; exact λ h => hak h.symm
  rcases findNow_kget hs k (i + 1) ht with ⟨h1, h2, h3⟩ | ⟨v, j, e2, h1, h2, h3, h4, h5, h6⟩
  .refine .inl ⟨by simp [kget, hak, h1], ?_, λ v e' hk' hr' => ?_⟩
   .simp only [Instr.findNow, hk, hs, hne]
    exact h2
   simp only [kput, if_neg hak, kmap, Yo, Yai]
   exact ⟨e, _, rfl, hk, hr, h3 v e' hk' hr'⟩
  refine .inr ⟨v, j + 1, e2, by simp [kget, hak, h1], ?_, by simpa using h3, h4, h5, λ v' e' hk' hr' => ?_⟩
  .simp only [Instr.findNow, hk, hs, hne]
   rw [h2]
   simp only [Option.some.injEq, Prod.mk.injEq, and_true]
   omega
  simp only [kput, if_neg hak, kmap, Yo, Yab]
  exact ⟨e, _, rfl, hk, hr, h6 v' e' hk' hr'⟩
variable {nt : Nat} {F : Fr} {S : Store} {K : Option V -> Store -> Prop}
variable {d : Option Tmp} {ty : TypeId} {pos : String} {af : Array Edge} {gd : Option (Nat × Bool)}
theorem own_map {m : Mem} {w : World} {i g : Nat} {es : List (Value × V)} (hw : WRel m S w) (hS : S[i]? = some (.map g es)) : (∃ ents clock, w.heap[g]? = some (.map ents clock) /\ RepMap m es ents.toList /\ BornOk ents clock) /\ ∀ o, m g o = none :=
 hw.holds _ (Yh hS)
theorem lookup_run {t et : TypeId} {x ix : Operand} {ok : Bool} {g i : Nat} {k : κ} {l : List (κ × V)} {z : Value} {m : Mem} {w : World} {ac : Act} (ht : P.underlying t = some (.map kt et)) (hkt : KeyTy P kt kv) (hz : (P.info? et).map (·.zero) = some (some z)) (hf : FRel m nt F ac) (hw : WRel m S w)
    (hx : F.ev x = some (.raw (.map (some g)))) (hi : F.ev ix = some (.raw (kv k))) (hS : S[i]? = some (.map g (kmap kv l))) :
    ∃ u, (match kget l k with | some v => Rep m v u | none => u = z) /\ (execOp ac.eval ⟨d, .lookup t x ix ok, ty, pos, af, gd⟩).run P w = .ok (.value (if ok then .tuple #[u, .bool (kget l k).isSome] else u)) w := by
  have hxv : ac.eval x = .map (some g) := hf.ev hx
  have hiv : ac.eval ix = kv k := hf.ev hi
  obtain ⟨⟨ents, clock, hh, hr, _⟩, _⟩ := own_map hw hS
  obtain ⟨kind, h1, h2, h3, h4⟩ := hkt.all
  have hzv : (zeroValue et).run P w = .ok z w := by
    cases hq : P.info? et with
    | none => simp [hq] at hz
    | some i => have hzz : i.zero = some z := by simpa [hq] using hz
                simp [zeroValue, typeInfo, hq, hzz]
  have hget : (getObj g).run P w = .ok (.map ents clock) w := by simp [getObj, Sem.run, hh]
  rcases findNow_kget h2 k 0 hr with ⟨g1, g2, g3⟩ | ⟨v, j, e, g1, g2, g3, g4, g5, g6⟩
  . refine ⟨z, by rw [g1], ?_⟩
    have hfk : (Instr.findKey kt (kv k) ents.toList).run P w = .ok none w := by
      simp [Instr.findKey, run_underlying h1 w, g2]
    rw [g1]
    simp only [execOp, Instr.lookup, hxv, hiv, Sem.run_bind, run_underlying ht w, Result.andThen_ok, hget, Sem.run_pure, h3, hfk, hzv]
    cases ok <;> rfl
  refine ⟨e.val, by rw [g1]; exact g5, ?_⟩
  have hfk : (Instr.findKey kt (kv k) ents.toList).run P w = .ok (some (0 + j, e.val)) w := by
    simp [Instr.findKey, run_underlying h1 w, g2]
  rw [g1]
  simp only [execOp, Instr.lookup, hxv, hiv, Sem.run_bind, run_underlying ht w, Result.andThen_ok, hget, Sem.run_pure, h3, hfk, hzv]
  cases ok <;> rfl
theorem V_lookupOk {t et : TypeId} {x ix : Operand} {g : Nat} (i : Nat) {k : κ} {l : List (κ × V)} {z : Value} {v : V} (ht : P.underlying t = some (.map kt et)) (hkt : KeyTy P kt kv) (hz : (P.info? et).map (·.zero) = some (some z))
  (hx : F.ev x = some (.raw (.map (some g)))) (hi : F.ev ix = some (.raw (kv k))) (hS : S[i]? = some (.map g (kmap kv l))) (hg : kget l k = some v) (hk : K (some (.tup [v, .bool true])) S) : VOp P nt ⟨d, .lookup t x ix true, ty, pos, af, gd⟩ F S K := by
 refine VOp_pure _ (λ m w ac hf hw => ?_) hk
 obtain ⟨u, hu, hrun⟩ := lookup_run (d := d) (ty := ty) (pos := pos) (af := af) (gd := gd) (ok := true) ht hkt hz hf hw hx hi hS
 rw [hg] at hu hrun
 exact ⟨_, hrun, _, rfl, u, _, rfl, hu, _, _, rfl, rfl, rfl⟩
theorem V_lookupNo {t et : TypeId} {x ix : Operand} {g : Nat} (i : Nat) {k : κ} {l : List (κ × V)} {z : Value} (zv : V) (hzv : ∀ m, Rep m zv z) (ht : P.underlying t = some (.map kt et)) (hkt : KeyTy P kt kv) (hz : (P.info? et).map (·.zero) = some (some z))
  (hx : F.ev x = some (.raw (.map (some g)))) (hi : F.ev ix = some (.raw (kv k))) (hS : S[i]? = some (.map g (kmap kv l))) (hg : kget l k = none) (hk : K (some (.tup [zv, .bool false])) S) : VOp P nt ⟨d, .lookup t x ix true, ty, pos, af, gd⟩ F S K := by
 refine VOp_pure _ (λ m w ac hf hw => ?_) hk
 obtain ⟨u, hu, hrun⟩ := lookup_run (d := d) (ty := ty) (pos := pos) (af := af) (gd := gd) (ok := true) ht hkt hz hf hw hx hi hS
 rw [hg] at hu hrun
 have hu' : u = z := hu
 subst hu'
 exact ⟨_, hrun, _, rfl, u, _, rfl, hzv m, _, _, rfl, rfl, rfl⟩
theorem V_lookup1 {t et : TypeId} {x ix : Operand} {g : Nat} (i : Nat) {k : κ} {l : List (κ × V)} {z : Value} {v : V} (ht : P.underlying t = some (.map kt et)) (hkt : KeyTy P kt kv) (hz : (P.info? et).map (·.zero) = some (some z))
  (hx : F.ev x = some (.raw (.map (some g)))) (hi : F.ev ix = some (.raw (kv k))) (hS : S[i]? = some (.map g (kmap kv l))) (hg : kget l k = some v) (hk : K (some v) S) : VOp P nt ⟨d, .lookup t x ix false, ty, pos, af, gd⟩ F S K := by
 refine VOp_pure _ (λ m w ac hf hw => ?_) hk
 obtain ⟨u, hu, hrun⟩ := lookup_run (d := d) (ty := ty) (pos := pos) (af := af) (gd := gd) (ok := false) ht hkt hz hf hw hx hi hS
 rw [hg] at hu
 exact ⟨_, hrun, hu⟩
theorem V_lookup0 {t et : TypeId} {x ix : Operand} {g : Nat} (i : Nat) {k : κ} {l : List (κ × V)} {z : Value} (zv : V) (hzv : ∀ m, Rep m zv z) (ht : P.underlying t = some (.map kt et)) (hkt : KeyTy P kt kv) (hz : (P.info? et).map (·.zero) = some (some z))
  (hx : F.ev x = some (.raw (.map (some g)))) (hi : F.ev ix = some (.raw (kv k))) (hS : S[i]? = some (.map g (kmap kv l))) (hg : kget l k = none) (hk : K (some zv) S) : VOp P nt ⟨d, .lookup t x ix false, ty, pos, af, gd⟩ F S K := by
 refine VOp_pure _ (λ m w ac hf hw => ?_) hk
 obtain ⟨u, hu, hrun⟩ := lookup_run (d := d) (ty := ty) (pos := pos) (af := af) (gd := gd) (ok := false) ht hkt hz hf hw hx hi hS
 rw [hg] at hu
 have hu' : u = z := hu
 subst hu'
 exact ⟨_, hrun, hzv m⟩
theorem V_mapUpdate {t et : TypeId} {x ix y : Operand} {g : Nat} (i : Nat) {k : κ} {l : List (κ × V)} {v : V} (ht : P.underlying t = some (.map kt et)) (hkt : KeyTy P kt kv)
  (hx : F.ev x = some (.raw (.map (some g)))) (hi : F.ev ix = some (.raw (kv k))) (hy : F.ev y = some v) (hS : S[i]? = some (.map g (kmap kv l))) (hk : K none (S.set i (.map g (kmap kv (kput l k v))))) : VOp P nt ⟨d, .mapUpdate t x ix y, ty, pos, af, gd⟩ F S K := by
 intro m w ac KK QQ hf hw hK
 have hxv : ac.eval x = .map (some g) := hf.ev hx
 have hiv : ac.eval ix = kv k := hf.ev hi
 have hyr := hf.ev hy
 obtain ⟨⟨ents, clock, hh, hr, hbo⟩, hm⟩ := own_map hw hS
 obtain ⟨kind, h1, h2, h3, h4⟩ := hkt.all
 have hget : (getObj g).run P w = .ok (.map ents clock) w := by simp [getObj, Sem.run, hh]
 have hset : ∀ o, (setObj g o).run P w = .ok () { w with heap := w.heap.setIfInBounds g o } := λ o => by simp [setObj, Sem.run, hh]
 have hgl : g < w.heap.size := (Array.getElem?_eq_some_iff.1 hh).1
 have key : ∀ (ents' : Array MapEntry) (clock' : Nat), (execOp ac.eval ⟨d, .mapUpdate t x ix y, ty, pos, af, gd⟩).run P w = .ok .skip { w with heap := w.heap.setIfInBounds g (.map ents' clock') } -> RepMap m (kmap kv (kput l k v)) ents'.toList -> BornOk ents' clock' ->
   Oper.wp P ⟨d, .mapUpdate t x ix y, ty, pos, af, gd⟩ ac w KK QQ := λ ents' clock' hrun hrep hbo' => by
  unfold Oper.wp
  rw [hrun]
  refine hK none _ m _ undef hk trivial (Step.update hw hS rfl rfl rfl rfl rfl (by simp) (λ b hb => ?_) (Sub.refl m) (λ b o v _ h => h) (λ o v h => by rw [hm o] at h; cases h) ⟨⟨ents', clock', ?_, hrep, hbo'⟩, hm⟩)
  .simp [Array.getElem?_setIfInBounds_ne (Ne.symm hb)]
  simp [hgl]
 rcases findNow_kget h2 k 0 hr with ⟨g1, g2, g3⟩ | ⟨v0, j, e, g1, g2, g3, g4, g5, g6⟩
 .have hfk : (Instr.findKey kt (kv k) ents.toList).run P w = .ok none w := by
   simp [Instr.findKey, run_underlying h1 w, g2]
  refine key (ents.push { key := kv k, val := ac.eval y, born := clock }) (clock + 1) ?_ ?_ ?_
  .simp only [execOp, Instr.mapUpdate, hxv, hiv, Sem.run_bind, run_underlying ht w, Result.andThen_ok, hget, h3, hfk, hset, Sem.run_pure]
  .rw [Array.toList_push]
   exact g3 v { key := kv k, val := ac.eval y, born := clock } rfl hyr
  unfold BornOk
  rw [Array.toList_push, Yaj]
  refine ⟨λ x hx => ?_, Yv.2 ⟨hbo.2, by simp, λ a ha b hb e9 => ?_⟩⟩
  .rcases Yj.1 hx with hx | hx
   .have := hbo.1 x hx
    omega
   rw [List.mem_singleton.1 hx]
   exact Nat.lt_succ_self _
  rw [List.map_singleton, List.mem_singleton] at hb
  obtain ⟨x, hx, rfl⟩ := List.mem_map.1 ha
  have := hbo.1 x hx
  have hb : b = clock := hb
  have e9 : x.born = b := e9
  omega
 have hfk : (Instr.findKey kt (kv k) ents.toList).run P w = .ok (some (0 + j, e.val)) w := by
  simp [Instr.findKey, run_underlying h1 w, g2]
 have hej : ents[0 + j]? = some e := by rw [Yat]; simpa using g3
 have hkts : (Instr.keyThatStays (((ents[0 + j]?).map (·.key)).getD (kv k)) (kv k)).run P w = .ok (kv k) w := by
  rw [hej]
  simp [Instr.keyThatStays, g4, h4]
 refine key (ents.modify (0 + j) λ e => { e with key := kv k, val := ac.eval y }) clock ?_ ?_ ?_
 .simp only [execOp, Instr.mapUpdate, hxv, hiv, Sem.run_bind, run_underlying ht w, Result.andThen_ok, hget, h3, hfk, hkts, hset, Sem.run_pure]
 .have : (ents.modify (0 + j) λ e => { e with key := kv k, val := ac.eval y }).toList = ents.toList.set j { e with key := kv k, val := ac.eval y } := by
   rw [Yat, Array.toList_modify]
   apply List.ext_getElem?
   intro q
   rw [List.getElem?_modify, List.getElem?_set]
   by_cases hq : j = q
   .subst hq
    have hjl := (Yc.1 g3).1
    rw [g3, if_pos rfl, if_pos hjl]
    simp
   rw [if_neg hq]
   simp [hq]
  rw [this]
  exact g6 v _ rfl hyr
 have hml : (ents.modify (0 + j) λ e => { e with key := kv k, val := ac.eval y }).toList.map (·.born) = ents.toList.map (·.born) := by
  rw [Yat, Array.toList_modify]
  apply List.ext_getElem?
  intro q
  rw [List.getElem?_map, List.getElem?_modify, List.getElem?_map]
  cases ents.toList[q]? with
  | none => rfl
  | some x => by_cases hq : j = q <;> simp [hq]
 refine ⟨λ x hx => ?_, by rw [hml]; exact hbo.2⟩
 have hxm : x.born ∈ ents.toList.map (·.born) := by
  rw [<- hml]
  exact List.mem_map.2 ⟨x, hx, rfl⟩
 obtain ⟨y, hy, e9⟩ := List.mem_map.1 hxm
 have := hbo.1 y hy
 omega
end
abbrev kstr (s : List UInt8) : Value := .string ⟨s.toArray⟩
abbrev kint (n : Int) : Value := .int .i64 n
theorem kstr_beq (a b : List UInt8) : ((⟨a.toArray⟩ : ByteArray) == ⟨b.toArray⟩) = decide (a = b) := by
 rw [beq_toListBytes]
 simp only [bytes_toList]
 by_cases h : a = b
 .simp [h]
 simp [h]
theorem key_str {P : Program} {t : TypeId} (h : P.underlying t = some .string) : KeyTy P t kstr := by
 refine ⟨.string, h, λ a b => ?_, λ e a w => ?_, λ a => by simp [Instr.sameBits, kstr_beq]⟩
 .simp only [Instr.sameNow, kstr_beq]
 rw [show (10000 : Nat) = 9999 + 1 from rfl, Instr.checkKey]
 simp [run_underlying h w]
theorem key_int {P : Program} {t : TypeId} (h : P.underlying t = some (.int .i64)) : KeyTy P t kint := by
 refine ⟨.int .i64, h, λ a b => ?_, λ e a w => ?_, λ a => by simp [Instr.sameBits]⟩
 .simp only [Instr.sameNow, if_true, Option.some.injEq]
  by_cases hab : a = b
  .subst hab; simp
  simp [hab]
 rw [show (10000 : Nat) = 9999 + 1 from rfl, Instr.checkKey]
 simp [run_underlying h w]
def Mem.frozen (m : Mem) (g : Nat) (cs : List Value) : Mem := λ b o => if b = g then cs[o]? else m b o
section
variable {P : Program} {nt : Nat} {F : Fr} {S : Store} {Q : Exit -> Fr -> Store -> Prop} {K : Option V -> Store -> Prop}
variable {d : Option Tmp} {ty : TypeId} {pos : String} {af : Array Edge} {gd : Option (Nat × Bool)}
theorem repL_flat_repF {m : Mem} {sz : Nat} : ∀ {xs : List V} {cs : List Value}, RepL m (xs.flatMap V.leaves) cs -> (∀ x ∈ xs, x.fits sz = true /\ ((∃ ls, x = .agg ls) \/ x.leaf = true)) -> RepF m sz xs cs
 | [], cs, h, _ => h
 | x :: xs, cs, h, hx => by
  obtain ⟨hf, hor⟩ := hx x (Yi ..)
  simp only [V.fits, Bool.and_eq_true] at hf
  have hlen : x.leaves.length = sz := Yan hf.2
  rw [List.flatMap_cons] at h
  have h1 := h.take x.leaves.length
  have h2 := h.drop x.leaves.length
  rw [List.take_left' rfl] at h1
  rw [List.drop_left' rfl] at h2
  have hone := h1.oneCells hf.1
  have hl1 := h1.length
  have hcs : cs = cs.take x.leaves.length ++ cs.drop x.leaves.length := (Yz _ _).symm
  rcases hor with ⟨ls, rfl⟩ | hleaf
  .refine ⟨.agg (cs.take (V.agg ls).leaves.length).toArray, cs.drop (V.agg ls).leaves.length, ?_, ⟨hf.1, _, rfl, h1⟩, ?_, ?_, repL_flat_repF h2 λ y hy => hx y (Yd _ hy)⟩
   .simp only [Value.cells]
    exact hcs
   .show (cs.take (V.agg ls).leaves.length).toArray.size = sz
    rw [List.size_toArray, hl1, hlen]
   simpa [Value.cells] using hone
  have hle : x.leaves = [x] := by cases x <;> first | rfl | (simp [V.leaf] at hleaf)
  rw [hle] at h1 hcs hl1 hone h2
  obtain ⟨u, us, he, hr, hn⟩ := h1
  have hn' : us = [] := hn
  subst hn'
  rw [he] at hcs hone
  have h1c := hr.oneCell hleaf
  refine ⟨u, cs.drop [x].length, ?_, hr, ?_, ?_, repL_flat_repF h2 λ y hy => hx y (Yd _ hy)⟩
  .rw [cells_oneCell h1c]; exact hcs
  .rw [cells_oneCell h1c, <- hlen, hle]; rfl
  rw [cells_oneCell h1c]; exact hone
theorem VW_freeze (i : Nat) {q g n cap sz : Nat} {T : TypeId} {ls rest : List V} (xs : List V) {c : Code} (hq : F.get q = some (.raw (.slice (some ⟨g, 0, none⟩) n cap))) (hS : S[i]? = some (.cells g T ls)) (hls : ls = xs.flatMap V.leaves ++ rest) (hn : xs.length = n) (hcap : n <= cap) (hm : cap <= maxLen)
  (hx : ∀ x ∈ xs, x.fits sz = true /\ ((∃ ls, x = .agg ls) \/ x.leaf = true)) (h : VW P nt c Q ((q, some (.sl sz none xs)) :: F) (S.eraseIdx i)) : VW P nt c Q F S := by
 intro m w a QQ hf hw hK
 obtain ⟨hall, ⟨cs, hh, hr⟩, hnone⟩ := own_cells hw hS
 have hw2 := hw.perm (perm_erase hS)
 have hsub : Sub m (m.frozen g cs.toList) := λ b o v hv => by
  unfold Mem.frozen
  by_cases hb : b = g
  .subst hb; rw [hnone o] at hv; cases hv
  rw [if_neg hb]; exact hv
 have hst : Step m S w (m.frozen g cs.toList) (S.eraseIdx i) w := by
  have hnd := hw2.nodup
  have hdom : dom (Own.cells g T ls :: S.eraseIdx i) = g :: dom (S.eraseIdx i) := rfl
  rw [hdom] at hnd
  have hgS : g ∈ dom S := Yn.2 ⟨_, Yh hS, rfl⟩
  refine ⟨⟨λ b o v hv => ?_, (Yp.1 hnd).2, λ e he => ?_⟩, rfl, rfl, rfl, Yap _, λ _ _ _ => rfl, hsub, λ b o v hv => ?_, λ b hb => .inl ?_⟩
  .unfold Mem.frozen at hv
   by_cases hb : b = g
   .subst hb
    rw [if_pos rfl] at hv
    exact cell_at hh hv
   rw [if_neg hb] at hv
   exact hw.agree b o v hv
  .refine Own.holds_kept (hw2.holds e (Yd _ he)) hsub (λ _ _ => rfl) λ g' hg' o v hv => ?_
   have hne : g' ≠ g := λ h => (Yp.1 hnd).1 (by rw [<- h]; exact Yn.2 ⟨e, he, hg'⟩)
   unfold Mem.frozen at hv
   rwa [if_neg hne] at hv
  .unfold Mem.frozen at hv
   by_cases hb : b = g
   .exact .inr (.inl (hb ▸ hgS))
   rw [if_neg hb] at hv
   exact .inl hv
  have : b ∈ dom (Own.cells g T ls :: S.eraseIdx i) := Yd _ hb
  exact (dom_perm (perm_erase hS)).mem_iff.2 this
 have hrep : Rep (m.frozen g cs.toList) (.sl sz none xs) (a.tmps.getD q undef) := by
  have hv : a.tmps.getD q undef = .slice (some ⟨g, 0, none⟩) n cap := hf.get q _ hq
  rw [hls] at hr
  have h1 := hr.take (xs.flatMap V.leaves).length
  rw [List.take_left' rfl] at h1
  have hF := (repL_flat_repF h1 hx).mono hsub
  refine ⟨_, cap, by rw [hv, hn], by rw [hn]; exact hcap, hm, trivial, .inr ⟨g, 0, rfl, hF.els λ j u hu => ?_⟩⟩
  unfold Mem.frozen
  rw [if_pos rfl, Yat]
  rw [Yu] at hu
  split at hu
  .exact hu
  cases hu
 refine h _ w a QQ ⟨hf.defers, hf.size, λ j v hv => ?_⟩ hst.rel λ e F' S' m' w' a' k hf' st => hK e F' S' m' w' a' k hf' (hst.trans st)
 simp only [Fr.get] at hv
 cases hb : Yam j q with
 | true =>
  rw [hb, cond_true] at hv
  injection hv with hv
  subst hv
  rw [Yan hb]
  exact hrep
 | false =>
  rw [hb, cond_false] at hv
  exact Rep.mono hsub _ _ (hf.get j v hv)
end
end Go.VL
namespace Go.VL
section
variable {P : Program} {nt : Nat} {F : Fr} {S : Store} {K : Option V -> Store -> Prop} {G : Type} {ops : List Oper} {F0 : Fr} {ps : List DP} {un : List Nat} {St : Nat -> List G -> Store} {acc : List (DRes G)} {i : Nat} {o : Oper} {R : DRes G}
theorem evs_nil : evs F [] = some [] := rfl
theorem evs_cons {x : Operand} {xs : List Operand} {v : V} {vs : List V} (h : F.ev x = some v) (t : evs F xs = some vs) : evs F (x :: xs) = some (v :: vs) := by
 simp only [evs, h, t]
theorem vopT (hw : wantOf ops F o = some true) (h : VOp P nt o F S K) : VOpG ops P nt o F S K := ⟨true, .inl hw, (λ _ => h), λ h => by cases h⟩
theorem vopF (hw : wantOf ops F o = some false) (h : K (some (.raw undef)) S) : VOpG ops P nt o F S K := ⟨false, .inl hw, (λ h => by cases h), λ _ => h⟩
theorem vopU {j : Nat} {want : Bool} {q : Tmp} (h1 : o.guard = some (j, want)) (h2 : (ops[j]?).bind (·.dst) = some q) (h3 : F.get q = some (.raw undef)) (h : K (some (.raw undef)) S) : VOpG ops P nt o F S K := ⟨false, .inr ⟨rfl, j, want, q, h1, h2, h3⟩, (λ h => by cases h), λ _ => h⟩
theorem epE {C : Prop} {r : Option V} {el : V} (h : ∃ a, r = some (.ep a el)) (k : ∀ a, r = some (.ep a el) -> C) : C := by
 obtain ⟨a, h⟩ := h
 exact k a h
def constSt (S : Store) : Nat -> List G -> Store := λ _ _ => S
def oneSt (A : Store) (B : G -> Store) : Nat -> List G -> Store
 | 0, _ => A
 | _ + 1, [x] => B x
 | _ + 1, _ => []
def twoSt (A : Store) (B : G -> Store) (C : G -> G -> Store) : Nat -> List G -> Store
 | 0, _ => A
 | 1, [x] => B x
 | 2, [x, y] => C x y
 | _, _ => []
theorem DrawP_cons {rest : List Oper} {k : List (DRes G) -> Prop} (R : DRes G) (h : OpGood ops F0 ps un St P nt i o acc R) (t : DrawP ops F0 ps un St P nt (i + 1) rest (acc ++ [R]) k) : DrawP ops F0 ps un St P nt i (o :: rest) acc k := ⟨R, h, t⟩
theorem DrawP_nil {k : List (DRes G) -> Prop} (h : k acc) : DrawP ops F0 ps un St P nt i [] acc k := h
theorem good0 (h : ∀ γ : Nat -> G, Needs ops F0 ps acc γ (dpAt ps i).1 (dpAt ps i).2.1 λ F => VOpG ops P nt o F S λ r S' => R ((dpAt ps i).2.2.map γ) r /\ S' = S) : OpGood ops F0 ps [] (constSt S) P nt i o acc R :=
 ⟨h, trivial⟩
theorem goodS {l : List Nat} (hu : isUn un i 0 = none) (hs : stagesOf ps un i = l) (h : AllJ l λ j => ∀ γ : Nat -> G, Needs ops F0 ps acc γ (dpAt ps i).1 (dpAt ps i).2.1 λ F => VOpG ops P nt o F (St j ((Ya j).map γ)) λ r S' => R ((dpAt ps i).2.2.map γ) r /\ S' = St j ((Ya j).map γ)) :
  OpGood ops F0 ps un St P nt i o acc R := by
 unfold OpGood
 rw [hu]
 subst hs
 exact h
theorem goodU (q : Nat) (hu : isUn un i 0 = some q) (h : ∀ γ : Nat -> G, Needs ops F0 ps acc γ (dpAt ps i).1 (dpAt ps i).2.1 λ F => VOpG ops P nt o F (St q ((Ya q).map γ)) λ r S' => ∃ x, R ((dpAt ps i).2.2.map (upd γ q x)) r /\ S' = St (q + 1) ((Ya q).map γ ++ [x])) :
  OpGood ops F0 ps un St P nt i o acc R := by
 unfold OpGood
 rw [hu]
 exact h
end
end Go.VL
namespace Go.VL
section
variable {P : Program} {nt : Nat} {F : Fr} {S : Store}
theorem VCalls_drops {f : FuncId} {args : List V} {R : V -> Store -> Prop} (h : VCalls P f args S λ r S' => ∃ T, Drops S' T /\ R r T) : VCalls P f args S R :=
 λ m w us ha hw => (h m w us ha hw).mono λ e w' ⟨r, S', m', u, ⟨T, hd, hR⟩, he, hr, st⟩ => ⟨r, T, m', u, hR, he, hr, st.trans (hd.step st.rel)⟩
end
end Go.VL
end
