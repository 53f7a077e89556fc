import Derived.Test.YtjekhhgjfelpgaaGreatV5
set_option linter.all false
open List renaming range → Ya, all_eq_true → Yb, mem_range → Yc, getElem?_eq_getElem → Yd, mem_cons_self → Ye, getElem?_eq_some_iff → Yf, mem_cons → Yg, mem_cons_of_mem → Yh, pairwise_cons → Yi, mem_filter → Yj
open Nat renaming beq → Yk, eq_of_beq_eq_true → Yl, lt_or_ge → Ym, blt_eq → Yn
namespace Go.VL
abbrev DP := List Nat × List Nat × List Nat
abbrev DRes (G : Type) := List G → Option V → Prop
def eqRes {G : Type} (v : V) : DRes G := fun _ r => r = some v
def anyRes {G : Type} : DRes G := fun _ _ => True
def epRes {G : Type} (v : V) : DRes G := fun _ r => ∃ a, r = some (.ep a v)
def dpAt : List DP → Nat → DP
 | [], _ => ([], [], [])
 | p :: _, 0 => p
 | _ :: t, k + 1 => dpAt t k
def nth {α : Type} : List α → Nat → Option α
 | [], _ => none
 | x :: _, 0 => some x
 | _ :: t, k + 1 => nth t k
theorem nth_eq {α : Type} : ∀ (l : List α) (k : Nat), nth l k = l[k]?
 | [], k => by simp [nth]
 | x :: t, 0 => rfl
 | x :: t, k + 1 => by simp [nth, nth_eq t k]
def isUn : List Nat → Nat → Nat → Option Nat
 | [], _, _ => none
 | u :: t, i, q => bif Yk u i then some q else isUn t i (q + 1)
def has (l : List Nat) (i : Nat) : Bool := l.any fun k => Yk k i
theorem has_iff {l : List Nat} {i : Nat} : has l i = true ↔ i ∈ l := by
 unfold has
 rw [List.any_eq_true]
 constructor
 ·rintro ⟨k, hk, he⟩
  rw [← Yl he]
  exact hk
 ·intro h
  exact ⟨i, h, Nat.beq_refl i⟩
section
variable {G : Type} (ops : List Oper) (F0 : Fr) (ps : List DP)
def isDst (k s : Nat) : Bool := match (nth ops k).bind (·.dst) with
 | some d => Yk d s
 | none => false
def lookP (acc : List (DRes G)) (γ : Nat → G) (s : Nat) : List Nat → Option V → Prop
 | [] => fun r => r = F0.get s
 | k :: t => bif isDst ops k s then (match nth acc k with
   | some R => R ((dpAt ps k).2.2.map γ)
   | none => fun _ => False) else lookP acc γ s t
def Needs (acc : List (DRes G)) (γ : Nat → G) (pre : List Nat) : List Nat → (Fr → Prop) → Prop
 | [], k => k []
 | s :: t, k => ∀ r, lookP ops F0 ps acc γ s pre r → Needs acc γ pre t (fun F => k ((s, r) :: F))
def UndefGuard (F : Fr) (o : Oper) : Prop := ∃ j want q, o.guard = some (j, want) ∧ (ops[j]?).bind (·.dst) = some q ∧ F.get q = some (.raw undef)
def VOpG (P : Program) (nt : Nat) (o : Oper) (F : Fr) (S : Store) (K : Option V → Store → Prop) : Prop :=
 ∃ b, (wantOf ops F o = some b ∨ b = false ∧ UndefGuard ops F o) ∧ (b = true → VOp P nt o F S K) ∧ (b = false → K (some (.raw undef)) S)
theorem wantedG {m : Mem} {nt : Nat} {F : Fr} {a : Act} {o : Oper} {b : Bool} (hf : FRel m nt F a) (h : wantOf ops F o = some b ∨ b = false ∧ UndefGuard ops F o) : Region.wanted o (yielded ops.toArray a.tmps) = b := by
 rcases h with hw | ⟨rfl, j, want, q, h1, h2, h3⟩
 ·exact wanted_of hf hw
 ·have hu : a.tmps.getD q undef = undef := hf.get q _ h3
  have hop : (ops.toArray[j]?).bind (·.dst) = some q := by simpa using h2
  unfold Region.wanted
  rw [h1]
  dsimp only
  unfold yielded
  rw [hop, Option.bind_some]
  rcases Ym q a.tmps.size with hl | hl
  ·have : a.tmps[q]? = some undef := by simpa [hl] using hu
   rw [this]
   cases want <;> rfl
  ·rw [Array.getElem?_eq_none hl]
   cases want <;> rfl
def upd (γ : Nat → G) (q : Nat) (x : G) : Nat → G := fun k => bif Yk k q then x else γ k
variable (un : List Nat) (St : Nat → List G → Store)
def may (i j : Nat) : Bool := (un.drop j).all (fun u => !has (dpAt ps i).1 u) && (un.take j).all (fun u => !has (dpAt ps u).1 i)
def stagesOf (i : Nat) : List Nat := (Ya (un.length + 1)).filter (may ps un i)
def AllJ : List Nat → (Nat → Prop) → Prop
 | [], _ => True
 | j :: t, p => p j ∧ AllJ t p
theorem AllJ_mem {p : Nat → Prop} : ∀ {l : List Nat}, AllJ l p → ∀ j ∈ l, p j
 | j :: t, h, k, hk => by
  rcases Yg.1 hk with rfl | hk
  ·exact h.1
  ·exact AllJ_mem h.2 k hk
def OpGood (P : Program) (nt : Nat) (i : Nat) (o : Oper) (acc : List (DRes G)) (R : DRes G) : Prop :=
 match isUn un i 0 with
 | some q => ∀ γ : Nat → G, Needs ops F0 ps acc γ (dpAt ps i).1 (dpAt ps i).2.1 fun F => VOpG ops P nt o F (St q ((Ya q).map γ)) fun r S' => ∃ x, R ((dpAt ps i).2.2.map (upd γ q x)) r ∧ S' = St (q + 1) ((Ya q).map γ ++ [x])
 | none => AllJ (stagesOf ps un i) fun j => ∀ γ : Nat → G, Needs ops F0 ps acc γ (dpAt ps i).1 (dpAt ps i).2.1 fun F => VOpG ops P nt o F (St j ((Ya j).map γ)) fun r S' => R ((dpAt ps i).2.2.map γ) r ∧ S' = St j ((Ya j).map γ)
def DrawP (P : Program) (nt : Nat) : Nat → List Oper → List (DRes G) → (List (DRes G) → Prop) → Prop
 | _, [], acc, k => k acc
 | i, o :: rest, acc, k => ∃ R, OpGood ops F0 ps un St P nt i o acc R ∧ DrawP P nt (i + 1) rest (acc ++ [R]) k
def drawOk (nt : Nat) (ws : List Nat) : Bool :=
 (Ya ops.length).all fun i => match nth ops i with
  | none => false
  | some o => let p := dpAt ps i
   dstOk nt o.dst &&
   (match o.dst with
    | some d => has ws d
    | none => true) &&
   (o.after.all fun e => !Region.binds .any e || (Nat.blt e.on i && has p.1 e.on)) &&
   (p.1.all fun k => Nat.blt k i && o.after.any fun e => Region.binds .any e && (Yk k e.on || has (dpAt ps e.on).1 k)) &&
   ((p.2.1 ++ o.dst.toList).all fun s => (Ya ops.length).all fun k => Yk k i || !isDst ops k s || has p.1 k || has (dpAt ps k).1 i) &&
   (p.2.2.all fun j => match nth un j with
    | some u => Yk u i || has p.1 u
    | none => false)
def descOk : List Nat → Bool
 | a :: b :: t => Nat.blt b a && descOk (b :: t)
 | _ => true
def unOk : Bool :=
 (un.all fun u => Nat.blt u ops.length) && ((Ya un.length).all fun q => (Ya q).all fun q' => match nth un q, nth un q' with
  | some u, some u' => has (dpAt ps u).1 u'
  | _, _ => false) && (ps.all fun p => descOk p.1)
end
section
variable {G : Type} {ops : List Oper} {F0 : Fr} {ps : List DP} {un : List Nat} {St : Nat → List G → Store} {nt : Nat} {ws : List Nat}
structure Checked' (ops : List Oper) (ps : List DP) (un : List Nat) (nt : Nat) (ws : List Nat) : Prop where
 dst : ∀ (i : Nat) (o : Oper), ops[i]? = some o → dstOk nt o.dst = true
 wr : ∀ (i : Nat) (o : Oper) (d : Nat), ops[i]? = some o → o.dst = some d → d ∈ ws
 edge : ∀ (i : Nat) (o : Oper), ops[i]? = some o → ∀ e ∈ o.after, Region.binds .any e = true → e.on < i ∧ e.on ∈ (dpAt ps i).1
 pre : ∀ (i : Nat) (o : Oper), ops[i]? = some o → ∀ k ∈ (dpAt ps i).1, k < i ∧ ∃ e ∈ o.after, Region.binds .any e = true ∧ (k = e.on ∨ k ∈ (dpAt ps e.on).1)
 ord : ∀ (i : Nat) (o : Oper), ops[i]? = some o → ∀ s, s ∈ (dpAt ps i).2.1 ∨ o.dst = some s → ∀ k, k < ops.length → k ≠ i → isDst ops k s = true → k ∈ (dpAt ps i).1 ∨ i ∈ (dpAt ps k).1
 js : ∀ (i : Nat) (o : Oper), ops[i]? = some o → ∀ j ∈ (dpAt ps i).2.2, ∃ u, un[j]? = some u ∧ (u = i ∨ u ∈ (dpAt ps i).1)
 ulen : ∀ u ∈ un, u < ops.length
 uord : ∀ (q q' u u' : Nat), q' < q → un[q]? = some u → un[q']? = some u' → u' ∈ (dpAt ps u).1
 desc : ∀ i, ((dpAt ps i).1).Pairwise (· > ·)
theorem descOk_pw : ∀ {l : List Nat}, descOk l = true → l.Pairwise (· > ·)
 | [], _ => List.Pairwise.nil
 | [a], _ => by simp
 | a :: b :: t, h => by
  simp only [descOk, Bool.and_eq_true] at h
  have ih := descOk_pw h.2
  have hab : b < a := by have := h.1; simpa [Yn] using this
  refine Yi.2 ⟨fun x hx => ?_, ih⟩
  rcases Yg.1 hx with rfl | hx
  ·exact hab
  ·have := (Yi.1 ih).1 x hx
   omega
theorem dpAt_mem : ∀ (l : List DP) (i : Nat), dpAt l i = ([], [], []) ∨ dpAt l i ∈ l
 | [], i => .inl rfl
 | p :: t, 0 => .inr (Ye ..)
 | p :: t, i + 1 => (dpAt_mem t i).imp id (Yh _)
theorem checked_of (h1 : drawOk ops ps un nt ws = true) (h2 : unOk ops ps un = true) : Checked' ops ps un nt ws := by
 simp only [unOk, Bool.and_eq_true] at h2
 obtain ⟨⟨hu, hq⟩, hd⟩ := h2
 have key : ∀ i o, ops[i]? = some o → _ := fun i o ho => by
  have hi : i < ops.length := (Yf.1 ho).1
  have := Yb.1 h1 i (Yc.2 hi)
  rw [nth_eq, ho] at this
  dsimp only at this
  simp only [Bool.and_eq_true] at this
  exact this
 refine ⟨fun i o ho => (key i o ho).1.1.1.1.1, ?_, ?_, ?_, ?_, ?_, ?_, ?_, ?_⟩
 ·intro i o d ho hod
  have := (key i o ho).1.1.1.1.2
  rw [hod] at this
  exact has_iff.1 this
 ·intro i o ho e he hb
  have := Array.all_eq_true_iff_forall_mem.1 (key i o ho).1.1.1.2 e he
  rw [hb] at this
  simp only [Bool.not_true, Bool.false_or, Bool.and_eq_true] at this
  exact ⟨by simpa [Yn] using this.1, has_iff.1 this.2⟩
 ·intro i o ho k hk
  have := Yb.1 (key i o ho).1.1.2 k hk
  simp only [Bool.and_eq_true] at this
  obtain ⟨h3, h4⟩ := this
  rw [← Array.any_toList] at h4
  obtain ⟨e, he, h5⟩ := List.any_eq_true.1 h4
  rw [Array.mem_toList_iff] at he
  simp only [Bool.and_eq_true, Bool.or_eq_true] at h5
  exact ⟨by simpa [Yn] using h3, e, he, h5.1, h5.2.imp Yl has_iff.1⟩
 ·intro i o ho s hs k hk hki hdst
  have hmem : s ∈ (dpAt ps i).2.1 ++ o.dst.toList := by
   rcases hs with h | h
   ·exact List.mem_append_left _ h
   ·exact List.mem_append_right _ (by rw [h]; simp)
  have := Yb.1 (Yb.1 (key i o ho).1.2 s hmem) k (Yc.2 hk)
  rw [hdst] at this
  simp only [Bool.not_true, Bool.or_false, Bool.or_eq_true] at this
  rcases this with (h | h) | h
  ·exact absurd (Yl h) hki
  ·exact .inl (has_iff.1 h)
  ·exact .inr (has_iff.1 h)
 ·intro i o ho j hj
  have := Yb.1 (key i o ho).2 j hj
  rw [nth_eq] at this
  cases hun : un[j]? with
  | none => rw [hun] at this; cases this
  | some u =>
   rw [hun] at this
   simp only [Bool.or_eq_true] at this
   exact ⟨u, rfl, this.imp Yl has_iff.1⟩
 ·intro u hu'
  have := Yb.1 hu u hu'
  simpa [Yn] using this
 ·intro q q' u u' hlt h3 h4
  have hql : q < un.length := (Yf.1 h3).1
  have := Yb.1 (Yb.1 hq q (Yc.2 hql)) q' (Yc.2 hlt)
  rw [nth_eq, nth_eq, h3, h4] at this
  exact has_iff.1 this
 ·intro i
  rcases dpAt_mem ps i with h | h
  ·rw [h]; exact List.Pairwise.nil
  ·exact descOk_pw (Yb.1 hd _ h)
def lookS (ops : List Oper) (F0 : Fr) (ps : List DP) (acc : List (DRes G)) (γ : Nat → G) (s : Nat) (L : Nat → Prop) (r : Option V) : Prop :=
 (∃ k R, L k ∧ isDst ops k s = true ∧ (∀ k', L k' → isDst ops k' s = true → k' ≤ k) ∧ nth acc k = some R ∧ R ((dpAt ps k).2.2.map γ) r) ∨ ((∀ k, L k → isDst ops k s = false) ∧ r = F0.get s)
theorem lookP_of {acc : List (DRes G)} {γ : Nat → G} {s : Nat} {r : Option V} : ∀ {l : List Nat}, l.Pairwise (· > ·) → lookS ops F0 ps acc γ s (· ∈ l) r → lookP ops F0 ps acc γ s l r
 | [], _, h => by
  rcases h with ⟨k, R, hk, _⟩ | ⟨_, h⟩
  ·cases hk
  ·exact h
 | k :: t, hp, h => by
  obtain ⟨hp1, hp2⟩ := Yi.1 hp
  simp only [lookP]
  cases hd : isDst ops k s with
  | true =>
   rw [cond_true]
   rcases h with ⟨k', R, hk', h1, h2, h3, h4⟩ | ⟨h1, _⟩
   ·have hle := h2 k (Ye ..) hd
    have : k' = k := by
     rcases Yg.1 hk' with h | h
     ·exact h
     ·have := hp1 k' h; omega
    subst this
    rw [h3]
    exact h4
   ·rw [h1 k (Ye ..)] at hd
    cases hd
  | false =>
   rw [cond_false]
   refine lookP_of hp2 ?_
   rcases h with ⟨k', R, hk', h1, h2, h3, h4⟩ | ⟨h1, h2⟩
   ·refine .inl ⟨k', R, ?_, h1, fun k'' hk'' hd' => h2 k'' (Yh _ hk'') hd', h3, h4⟩
    rcases Yg.1 hk' with rfl | h
    ·rw [hd] at h1; cases h1
    ·exact h
   ·exact .inr ⟨fun k' hk' => h1 k' (Yh _ hk'), h2⟩
theorem get_map_fr (ρ : Nat → Option V) (T : Fr) : ∀ (slots : List Nat) (i : Nat), Fr.get (slots.map (fun s => (s, ρ s)) ++ T) i = if i ∈ slots then ρ i else Fr.get T i
 | [], i => by simp
 | s :: t, i => by
  simp only [List.map_cons, List.cons_append, Fr.get]
  cases hb : Yk i s with
  | true => rw [cond_true, Yl hb, if_pos (Ye ..)]
  | false =>
   have hne : i ≠ s := by intro h; subst h; simp at hb
   rw [cond_false, get_map_fr ρ T t i]
   simp [hne]
theorem needs_frame {acc : List (DRes G)} {γ : Nat → G} {pre : List Nat} (ρ : Nat → Option V) : ∀ {slots : List Nat} {k : Fr → Prop}, Needs ops F0 ps acc γ pre slots k →
  (∀ s ∈ slots, lookP ops F0 ps acc γ s pre (ρ s)) → k (slots.map fun s => (s, ρ s))
 | [], k, h, _ => h
 | s :: t, k, h, hs => needs_frame ρ (slots := t) (k := fun F => k ((s, ρ s) :: F)) (h (ρ s) (hs s (Ye ..))) (fun s' hs' => hs s' (Yh _ hs'))
theorem isUn_some : ∀ {un : List Nat} {i q0 q : Nat}, isUn un i q0 = some q → ∃ k, q = q0 + k ∧ un[k]? = some i
 | u :: t, i, q0, q, h => by
  simp only [isUn] at h
  cases hb : Yk u i with
  | true =>
   rw [hb, cond_true] at h
   injection h with h
   exact ⟨0, by omega, by rw [← Yl hb]; rfl⟩
  | false =>
   rw [hb, cond_false] at h
   obtain ⟨k, h1, h2⟩ := isUn_some h
   exact ⟨k + 1, by omega, by simpa using h2⟩
theorem isUn_none : ∀ {un : List Nat} {i q0 : Nat}, isUn un i q0 = none → i ∉ un
 | [], i, q0, _ => by simp
 | u :: t, i, q0, h => by
  simp only [isUn] at h
  cases hb : Yk u i with
  | true => rw [hb, cond_true] at h; cases h
  | false =>
   rw [hb, cond_false] at h
   intro hm
   rcases Yg.1 hm with rfl | hm
   ·simp at hb
   ·exact isUn_none h hm
theorem drawP_all {P : Program} {k : List (DRes G) → Prop} : ∀ {rest : List Oper} {i : Nat} {acc : List (DRes G)}, DrawP ops F0 ps un St P nt i rest acc k → acc.length = i →
  ∃ full, k full ∧ (∃ t, full = acc ++ t ∧ t.length = rest.length) ∧ ∀ j o, rest[j]? = some o → ∃ R, full[i + j]? = some R ∧ OpGood ops F0 ps un St P nt (i + j) o (full.take (i + j)) R
 | [], i, acc, h, _ => ⟨acc, h, ⟨[], by simp, rfl⟩, fun j o hj => by simp at hj⟩
 | o :: rest, i, acc, ⟨R, hR, h⟩, hl => by
  obtain ⟨full, h1, ⟨t, ht, htl⟩, h2⟩ := drawP_all h (by simp [hl])
  have hfull : full = acc ++ (R :: t) := by rw [ht]; simp
  refine ⟨full, h1, ⟨R :: t, hfull, by simp [htl]⟩, fun j o' hj => ?_⟩
  cases j with
  | zero =>
   simp at hj
   subst hj
   refine ⟨R, by rw [hfull, Nat.add_zero, List.getElem?_append_right (by omega), hl]; simp, ?_⟩
   have : full.take (i + 0) = acc := by rw [hfull, Nat.add_zero, ← hl]; simp
   rw [this]
   exact hR
  | succ j =>
   simp at hj
   obtain ⟨R', h3, h4⟩ := h2 j o' hj
   rw [show i + (j + 1) = i + 1 + j by omega]
   exact ⟨R', h3, h4⟩
theorem lookP_take {acc : List (DRes G)} {n : Nat} {γ : Nat → G} {s : Nat} : ∀ {l : List Nat} {r : Option V}, (∀ k ∈ l, k < n) → lookP ops F0 ps acc γ s l r → lookP ops F0 ps (acc.take n) γ s l r
 | [], r, _, h => h
 | k :: t, r, hl, h => by
  simp only [lookP] at h ⊢
  cases hd : isDst ops k s with
  | true =>
   rw [hd, cond_true] at h
   rw [cond_true]
   have hk := hl k (Ye ..)
   have : nth (acc.take n) k = nth acc k := by rw [nth_eq, nth_eq, List.getElem?_take, if_pos hk]
   rw [this]
   exact h
  | false =>
   rw [hd, cond_false] at h
   rw [cond_false]
   exact lookP_take (fun k' hk' => hl k' (Yh _ hk')) h
end
section
variable {G : Type} {ops : List Oper} {F0 : Fr} {ps : List DP}
theorem lookS_pre {acc : List (DRes G)} {γ : Nat → G} {s : Nat} {L L' : Nat → Prop} {r : Option V} (h1 : ∀ k, L k → isDst ops k s = true → L' k) (h2 : ∀ k, L' k → L k) (h : lookS ops F0 ps acc γ s L r) : lookS ops F0 ps acc γ s L' r := by
 rcases h with ⟨k, R, hk, hd, hm, hn, hR⟩ | ⟨hk, hr⟩
 ·exact .inl ⟨k, R, h1 k hk hd, hd, fun k' hk' hd' => hm k' (h2 k' hk') hd', hn, hR⟩
 ·exact .inr ⟨fun k hk' => hk k (h2 k hk'), hr⟩
end
section
variable {G : Type} {P : Program} {nt : Nat} {ops : List Oper} {F0 : Fr} {S0 : Store}
theorem isDst_of {k s : Nat} {o : Oper} (ho : ops[k]? = some o) : isDst ops k s = true ↔ o.dst = some s := by
 unfold isDst
 rw [nth_eq, ho, Option.bind_some]
 cases o.dst with
 | none => simp
 | some d => simp
def lis (listed : Array Bool) (k : Nat) : Prop := listed.getD k false = true
structure DInv (ops : List Oper) (F0 : Fr) (S0 : Store) (nt : Nat) (ps : List DP) (un : List Nat) (St : Nat → List G → Store) (full : List (DRes G)) (m0 : Mem) (w0 : World) (listed : Array Bool) (γ : Nat → G) (q : Nat) (m : Mem) (w : World) (a : Act) : Prop where
 size : listed.size = ops.length
 closed : ∀ k, lis listed k → ∀ k' ∈ (dpAt ps k).1, lis listed k'
 stage : ∀ (p u : Nat), un[p]? = some u → (lis listed u ↔ p < q)
 qle : q ≤ un.length
 defers : a.defers = []
 tmps : a.tmps.size = nt
 look : ∀ s, ∃ r, lookS ops F0 ps full γ s (lis listed) r ∧ ∀ v, r = some v → Rep m v (a.tmps.getD s undef)
 step : Step m0 S0 w0 m (St q ((Ya q).map γ)) w
theorem lis_lt {listed : Array Bool} {k : Nat} (h : lis listed k) : k < listed.size := by
 unfold lis at h
 rcases Ym k listed.size with h' | h'
 ·exact h'
 ·simp [Array.getElem?_eq_none h'] at h
theorem lis_set {listed : Array Bool} {i k : Nat} (hi : i < listed.size) : lis (listed.setIfInBounds i true) k ↔ lis listed k ∨ k = i := by
 unfold lis
 by_cases h : i = k
 ·subst h
  simp [hi]
 ·rw [getD_set_ne false h]
  constructor
  ·exact fun h' => .inl h'
  ·rintro (h' | h')
   ·exact h'
   ·exact absurd h'.symm h
theorem not_lis {listed : Array Bool} {k : Nat} (h : listed.getD k true = false) : ¬ lis listed k := by
 unfold lis
 intro h'
 rcases Ym k listed.size with hk | hk
 ·simp [hk] at h h'
  rw [h] at h'
  cases h'
 ·simp [Array.getElem?_eq_none hk] at h
variable {ps : List DP} {un : List Nat} {St : Nat → List G → Store} {full : List (DRes G)} {m0 : Mem} {w0 : World} {ws : List Nat}
theorem map_upd_lt (γ : Nat → G) (q : Nat) (x : G) (l : List Nat) (h : ∀ j ∈ l, j < q) : l.map (upd γ q x) = l.map γ := by
 apply List.map_congr_left
 intro j hj
 have hj := h j hj
 have hb : Yk j q = false := by rw [← Bool.not_eq_true, Nat.beq_eq]; omega
 simp only [upd, hb, cond_false]
theorem range_upd (γ : Nat → G) (q : Nat) (x : G) : (Ya (q + 1)).map (upd γ q x) = (Ya q).map γ ++ [x] := by
 rw [List.range_succ, List.map_append, map_upd_lt γ q x _ (fun j hj => Yc.1 hj)]
 simp [upd]
theorem DInv.next (C : Checked' ops ps un nt ws) {listed : Array Bool} {γ γ2 : Nat → G} {q q2 : Nat} {m m2 : Mem} {w w2 : World} {a : Act} {i : Nat} {o : Oper} {R : DRes G} {r : Option V} {u : Value} (h : DInv ops F0 S0 nt ps un St full m0 w0 listed γ q m w a)
  (ho : ops[i]? = some o) (hni : ¬ lis listed i) (hpre : ∀ k ∈ (dpAt ps i).1, lis listed k) (hR : full[i]? = some R) (hres : R ((dpAt ps i).2.2.map γ2) r) (hru : RepO m2 r u) (hg : ∀ j, j < q → γ2 j = γ j) (hq2 : q2 ≤ un.length)
  (hstage : ∀ (p u : Nat), un[p]? = some u → ((lis listed u ∨ u = i) ↔ p < q2)) (hst : Step m (St q ((Ya q).map γ)) w m2 (St q2 ((Ya q2).map γ2)) w2) :
  DInv ops F0 S0 nt ps un St full m0 w0 (listed.setIfInBounds i true) γ2 q2 m2 w2 (a.put o.dst u) := by
 have hi : i < listed.size := by rw [h.size]; exact (Yf.1 ho).1
 have hjs : ∀ k o', ops[k]? = some o' → lis listed k → (dpAt ps k).2.2.map γ2 = (dpAt ps k).2.2.map γ := fun k o' ho' hk => by
  apply List.map_congr_left
  intro j hj
  obtain ⟨u', hu', hor⟩ := C.js k o' ho' j hj
  have hlu : lis listed u' := by
   rcases hor with rfl | hp
   ·exact hk
   ·exact h.closed k hk u' hp
  exact hg j ((h.stage j u' hu').1 hlu)
 refine ⟨by simpa using h.size, ?_, ?_, hq2, ?_, ?_, ?_, h.step.trans hst⟩
 ·intro k hk k' hk'
  rw [lis_set hi] at hk ⊢
  rcases hk with hk | rfl
  ·exact .inl (h.closed k hk k' hk')
  ·exact .inl (hpre k' hk')
 ·intro p u' hu'
  rw [lis_set hi]
  exact hstage p u' hu'
 ·cases hd : o.dst <;> exact h.defers
 ·cases hd : o.dst with
  | none => exact h.tmps
  | some d => simp [Act.put, h.tmps]
 ·intro s
  by_cases hd : o.dst = some s
  ·refine ⟨r, .inl ⟨i, R, (lis_set hi).2 (.inr rfl), (isDst_of ho).2 hd, fun k' hk' hd' => ?_, by rw [nth_eq]; exact hR, hres⟩, fun v hv => ?_⟩
   ·rcases (lis_set hi).1 hk' with hk | rfl
    ·by_cases hki : k' = i
     ·omega
     ·rcases C.ord i o ho s (.inr hd) k' (by have := lis_lt hk; rw [h.size] at this; exact this) hki hd' with h1 | h1
      ·exact Nat.le_of_lt (C.pre i o ho k' h1).1
      ·exact absurd (h.closed k' hk i h1) hni
    ·exact Nat.le_refl _
   ·subst hv
    have hs : s < a.tmps.size := by
     have := C.dst i o ho
     rw [hd] at this
     rw [h.tmps]
     exact Nat.le_of_ble_eq_true (n := s + 1) this
    rw [hd]
    have hru' : Rep m2 v u := hru
    simpa [Act.put, hs] using hru'
  ·obtain ⟨r', hl, hv⟩ := h.look s
   refine ⟨r', ?_, fun v hv' => ?_⟩
   ·rcases hl with ⟨k, R', hk, hdk, hm, hn, hR'⟩ | ⟨hk, hr⟩
    ·have hkn : k < ops.length := by have := lis_lt hk; rw [h.size] at this; exact this
     refine .inl ⟨k, R', (lis_set hi).2 (.inl hk), hdk, fun k' hk' hd' => ?_, hn, ?_⟩
     ·rcases (lis_set hi).1 hk' with hk'' | rfl
      ·exact hm k' hk'' hd'
      ·exact absurd ((isDst_of ho).1 hd') hd
     ·rw [hjs k _ (Yd hkn) hk]
      exact hR'
    ·refine .inr ⟨fun k hk' => ?_, hr⟩
     rcases (lis_set hi).1 hk' with hk'' | rfl
     ·exact hk k hk''
     ·rw [← Bool.not_eq_true]
      exact fun hd' => hd ((isDst_of ho).1 hd')
   ·have := Rep.mono hst.mono _ _ (hv v hv')
    cases hdd : o.dst with
    | none => exact this
    | some d =>
     have hne : d ≠ s := fun e => hd (by rw [hdd, e])
     simpa [Act.put, Array.getElem?_setIfInBounds_ne hne] using this
theorem FRel_of_slots {m : Mem} {a : Act} (hd : a.defers = []) (hs : a.tmps.size = nt) {ρ : Nat → Option V} {slots : List Nat} (h : ∀ s ∈ slots, ∀ v, ρ s = some v → Rep m v (a.tmps.getD s undef)) : FRel m nt (slots.map fun s => (s, ρ s)) a :=
 ⟨hd, hs, fun i v hv => by
  have := get_map_fr ρ [] slots i
  rw [List.append_nil] at this
  rw [this] at hv
  split at hv
  ·rename_i hi
   exact h i hi v hv
  ·cases hv⟩
theorem VW_draw [Inhabited G] {id : Nat} {Q : Exit → Fr → Store → Prop} (ps : List DP) (un : List Nat) (St : Nat → List G → Store) (outs ws : List Nat) (hS0 : St 0 [] = S0) (hmix : P.follows .mixedOrders = true)
  (h1 : drawOk ops ps un nt ws = true) (h2 : unOk ops ps un = true)
  (h : DrawP ops F0 ps un St P nt 0 ops [] fun acc => ∀ γ : Nat → G, Needs ops F0 ps acc γ (Ya ops.length).reverse outs fun F => Q .normal (F ++ (ws.map (fun s => (s, none)) ++ F0)) (St un.length ((Ya un.length).map γ))) :
  VW P nt (.region id ops.toArray true) Q F0 S0 := by
 have C := checked_of h1 h2
 obtain ⟨full, hfin, ⟨t, ht, htl⟩, hall⟩ := drawP_all h rfl
 simp only [List.nil_append] at ht
 subst ht
 intro m0 w0 a0 QQ hf0 hw0 hK
 refine wp_region_any hmix ?_
 -- the end
 have fin : ∀ (listed : Array Bool) (γ : Nat → G) (q : Nat) (m : Mem) (w : World) (a : Act), DInv ops F0 S0 nt ps un St full m0 w0 listed γ q m w a → Region.ready .any ops.toArray listed = [] → QQ .normal a w := by
  intro listed γ q m w a D hr
  have hallL : ∀ k, k < ops.length → lis listed k := by
   intro k
   induction k using Nat.strongRecOn with
   | _ k ihk =>
    intro hk
    by_cases hlk : lis listed k
    ·exact hlk
    ·exfalso
     have hmem : k ∈ Region.ready .any ops.toArray listed := by
      rw [mem_ready]
      refine ⟨?_, ops[k], by simp [hk], fun e he hb => ?_⟩
      ·have hks : k < listed.size := by rw [D.size]; exact hk
       unfold lis at hlk
       simp [hks] at hlk ⊢
       exact hlk
      ·have := C.edge k _ (Yd hk) e he hb
       exact ihk e.on this.1 (by omega)
     rw [hr] at hmem
     cases hmem
  have hq : q = un.length := by
   rcases Ym q un.length with hlt | hge
   ·have hu := C.ulen _ (List.getElem_mem hlt)
    have := (D.stage q _ (Yd hlt)).1 (hallL _ hu)
    omega
   ·have := D.qle
    omega
  subst hq
  have hpw : ((Ya ops.length).reverse).Pairwise (· > ·) := by
   rw [List.pairwise_reverse]
   exact List.pairwise_lt_range
  have hρ : ∀ s, ∃ r, lookP ops F0 ps full γ s (Ya ops.length).reverse r ∧ lookS ops F0 ps full γ s (lis listed) r ∧ ∀ v, r = some v → Rep m v (a.tmps.getD s undef) := fun s => by
   obtain ⟨r, hl, hv⟩ := D.look s
   refine ⟨r, lookP_of hpw (lookS_pre (fun k hk _ => ?_) (fun k hk => ?_) hl), hl, hv⟩
   ·have := lis_lt hk
    rw [D.size] at this
    simpa using this
   ·exact hallL k (by simpa using hk)
  let ρ : Nat → Option V := fun s => Classical.choose (hρ s)
  have hρs : ∀ s, lookP ops F0 ps full γ s (Ya ops.length).reverse (ρ s) ∧ lookS ops F0 ps full γ s (lis listed) (ρ s) ∧ ∀ v, ρ s = some v → Rep m v (a.tmps.getD s undef) := fun s => Classical.choose_spec (hρ s)
  have hQ := needs_frame ρ (hfin γ) (fun s _ => (hρs s).1)
  refine hK _ _ _ m w a hQ ⟨D.defers, D.tmps, fun i v hv => ?_⟩ D.step
  rw [get_map_fr] at hv
  split at hv
  ·exact (hρs i).2.2 v hv
  ·have hv2 := hv
   rw [get_map_fr (fun _ => none)] at hv2
   split at hv2
   ·cases hv2
   ·rename_i hiw
    refine (hρs i).2.2 v ?_
    rcases (hρs i).2.1 with ⟨k, R, hk, hd, _⟩ | ⟨_, hr'⟩
    ·exfalso
     have hkn : k < ops.length := by have := lis_lt hk; rw [D.size] at this; exact this
     exact hiw (C.wr k _ i (Yd hkn) ((isDst_of (Yd hkn)).1 hd))
    ·rw [hr']
     exact hv2
 -- one operation's turn
 have inv : ∀ (fuel : Nat) (listed : Array Bool) (γ : Nat → G) (q : Nat) (m : Mem) (w : World) (a : Act), ((Ya ops.length).filter fun k => !listed.getD k false).length ≤ fuel →
   DInv ops F0 S0 nt ps un St full m0 w0 listed γ q m w a → wpAny P .any ops.toArray QQ fuel listed a w := by
  intro fuel
  induction fuel with
  | zero =>
   intro listed γ q m w a hcnt D
   have hr : Region.ready .any ops.toArray listed = [] := by
    rw [List.eq_nil_iff_forall_not_mem]
    intro k hk
    obtain ⟨hk1, o, ho, _⟩ := mem_ready.1 hk
    have hkn : k < ops.length := by
     have := (Array.getElem?_eq_some_iff.1 ho).1
     simpa using this
    have : k ∈ (Ya ops.length).filter fun k => !listed.getD k false := Yj.2 ⟨Yc.2 hkn, by
     have := not_lis hk1
     unfold lis at this
     simpa using this⟩
    have hnil := List.eq_nil_of_length_eq_zero (Nat.le_zero.1 hcnt)
    rw [hnil] at this
    cases this
   exact ⟨hr, fin listed γ q m w a D hr⟩
  | succ fuel ih =>
   intro listed γ q m w a hcnt D
   refine ⟨fin listed γ q m w a D, fun i hi => ?_⟩
   obtain ⟨hi1, o, ho', hedge⟩ := mem_ready.1 hi
   have ho : ops[i]? = some o := by simpa using ho'
   have hin : i < ops.length := (Yf.1 ho).1
   have hni := not_lis hi1
   have hpre : ∀ k ∈ (dpAt ps i).1, lis listed k := fun k hk => by
    obtain ⟨_, e, he, hb, hor⟩ := C.pre i o ho k hk
    have hle := hedge e he hb
    rcases hor with rfl | hk'
    ·exact hle
    ·exact D.closed _ hle k hk'
   have hcnt' : ((Ya ops.length).filter fun k => !(listed.setIfInBounds i true).getD k false).length ≤ fuel := by
    have hsub : ((Ya ops.length).filter fun k => !(listed.setIfInBounds i true).getD k false) = ((Ya ops.length).filter fun k => !listed.getD k false).filter fun k => decide (k ≠ i) := by
     rw [List.filter_filter]
     apply List.filter_congr
     intro k _
     by_cases hk : i = k
     ·subst hk
      have : i < listed.size := by rw [D.size]; exact hin
      simp [this]
     ·rw [getD_set_ne false hk]
      simp [Ne.symm hk]
    rw [hsub]
    have hlt := (List.length_filter_lt_length_iff_exists (l := (Ya ops.length).filter fun k => !listed.getD k false) (p := fun k => decide (k ≠ i))).2 ⟨i, Yj.2 ⟨Yc.2 hin, by
     unfold lis at hni
     simpa using hni⟩, by simp⟩
    omega
   obtain ⟨R, hR, hgood⟩ := hall i o ho
   rw [Nat.zero_add] at hR hgood
   -- what the operation looks at
   have hρ : ∀ s, ∃ r, lookS ops F0 ps full γ s (lis listed) r ∧ ∀ v, r = some v → Rep m v (a.tmps.getD s undef) := D.look
   let ρ : Nat → Option V := fun s => Classical.choose (hρ s)
   have hρs : ∀ s, lookS ops F0 ps full γ s (lis listed) (ρ s) ∧ ∀ v, ρ s = some v → Rep m v (a.tmps.getD s undef) := fun s => Classical.choose_spec (hρ s)
   have hlook : ∀ s ∈ (dpAt ps i).2.1, lookP ops F0 ps (full.take i) γ s (dpAt ps i).1 (ρ s) := fun s hs => by
    refine lookP_take (fun k hk => (C.pre i o ho k hk).1) (lookP_of (C.desc i) (lookS_pre (fun k hk hd => ?_) hpre (hρs s).1))
    have hkn : k < ops.length := by have := lis_lt hk; rw [D.size] at this; exact this
    rcases C.ord i o ho s (.inl hs) k hkn (fun e => hni (e ▸ hk)) hd with h3 | h3
    ·exact h3
    ·exact absurd (D.closed k hk i h3) hni
   have hfr : FRel m nt ((dpAt ps i).2.1.map fun s => (s, ρ s)) a := FRel_of_slots D.defers D.tmps fun s _ v hv => (hρs s).2 v hv
   have go : ∀ (K : Option V → Store → Prop), VOpG ops P nt o ((dpAt ps i).2.1.map fun s => (s, ρ s)) (St q ((Ya q).map γ)) K →
     (∀ r S' m' w' u, K r S' → RepO m' r u → Step m (St q ((Ya q).map γ)) w m' S' w' → wpAny P .any ops.toArray QQ fuel (listed.setIfInBounds i true) (a.put o.dst u) w') →
     wpOp P ops.toArray QQ i (wpAny P .any ops.toArray QQ fuel (listed.setIfInBounds i true)) a w := by
    intro K ⟨b, hb, ht, hfa⟩ hnext
    unfold wpOp
    rw [ho']
    dsimp only
    rw [wantedG ops hfr hb]
    cases b with
    | true =>
     rw [if_pos rfl]
     exact .inl (ht rfl m w a _ QQ hfr D.step.rel hnext)
    | false =>
     rw [if_neg Bool.false_ne_true]
     exact hnext (some (.raw undef)) _ m w undef (hfa rfl) rfl (Step.refl D.step.rel)
   unfold OpGood at hgood
   cases hun : isUn un i 0 with
   | none =>
    rw [hun] at hgood
    have hiu := isUn_none hun
    have hmay : q ∈ stagesOf ps un i := by
     refine Yj.2 ⟨Yc.2 (by have := D.qle; omega), ?_⟩
     unfold may
     rw [Bool.and_eq_true]
     constructor
     ·rw [Yb]
      intro u hu
      rw [Bool.not_eq_true', ← Bool.not_eq_true, has_iff]
      intro hup
      obtain ⟨p, hp⟩ := List.getElem?_of_mem hu
      rw [List.getElem?_drop] at hp
      have := (D.stage _ _ hp).1 (hpre u hup)
      omega
     ·rw [Yb]
      intro u hu
      rw [Bool.not_eq_true', ← Bool.not_eq_true, has_iff]
      intro hup
      obtain ⟨p, hp⟩ := List.getElem?_of_mem hu
      rw [List.getElem?_take] at hp
      split at hp
      ·rename_i hpq
       exact hni (D.closed u ((D.stage _ _ hp).2 hpq) i hup)
      ·cases hp
    have hj := AllJ_mem hgood q hmay γ
    refine go _ (needs_frame ρ hj hlook) fun r S' m' w' u hk hru st => ?_
    obtain ⟨hres, rfl⟩ := hk
    refine ih _ γ q m' w' _ hcnt' (D.next C ho hni hpre hR hres hru (fun j _ => rfl) D.qle (fun p u' hu' => ?_) st)
    constructor
    ·rintro (h3 | rfl)
     ·exact (D.stage p u' hu').1 h3
     ·exact absurd (List.mem_of_getElem? hu') hiu
    ·exact fun h3 => .inl ((D.stage p u' hu').2 h3)
   | some q0 =>
    rw [hun] at hgood
    obtain ⟨k, hk0, hk⟩ := isUn_some hun
    have hqk : q0 = k := by omega
    subst hqk
    have hq0 : q0 = q := by
     rcases Nat.lt_trichotomy q0 q with hlt | heq | hgt
     ·exact absurd ((D.stage q0 i hk).2 hlt) hni
     ·exact heq
     ·exfalso
      have hq0l : q0 < un.length := (Yf.1 hk).1
      have hql : q < un.length := by omega
      have hu' := C.uord q0 q i _ hgt hk (Yd hql)
      have := (D.stage q _ (Yd hql)).1 (hpre _ hu')
      omega
    subst hq0
    have hj := hgood γ
    refine go _ (needs_frame ρ hj hlook) fun r S' m' w' u hk' hru st => ?_
    obtain ⟨x, hres, rfl⟩ := hk'
    rw [← range_upd γ q0 x] at st
    have hq0l : q0 < un.length := (Yf.1 hk).1
    refine ih _ (upd γ q0 x) (q0 + 1) m' w' _ hcnt' (D.next C ho hni hpre hR hres hru (fun j hjq => ?_) (by omega) (fun p u' hu' => ?_) st)
    ·have hb : Yk j q0 = false := by rw [← Bool.not_eq_true, Nat.beq_eq]; omega
     simp [upd, hb]
    ·constructor
     ·rintro (h3 | rfl)
      ·have := (D.stage p u' hu').1 h3; omega
      ·rcases Nat.lt_trichotomy p q0 with hlt | heq | hgt
       ·omega
       ·omega
       ·exfalso
        have := C.uord p q0 u' u' hgt hu' hk
        have := (C.pre u' o ho u' this).1
        omega
     ·intro h3
      rcases Ym p q0 with hlt | hge
      ·exact .inl ((D.stage p u' hu').2 hlt)
      ·have : p = q0 := by omega
       subst this
       rw [hk] at hu'
       injection hu' with hu'
       exact .inr hu'.symm
 have hsz : ops.toArray.size = ops.length := by simp
 rw [hsz]
 refine inv ops.length _ (fun _ => default) 0 m0 _ a0 ?_ ⟨by simp, ?_, ?_, Nat.zero_le _, hf0.defers, hf0.size, ?_, ?_⟩
 ·exact Nat.le_trans (List.length_filter_le _ _) (by simp)
 ·intro k hk
  have := lis_lt hk
  unfold lis at hk
  simp at this hk
  simp [this] at hk
 ·intro p u hu
  constructor
  ·intro hk
   have := lis_lt hk
   unfold lis at hk
   simp at this hk
   simp [this] at hk
  ·intro h3; omega
 ·intro s
  refine ⟨F0.get s, .inr ⟨fun k hk => ?_, rfl⟩, fun v hv => hf0.get s v hv⟩
  have := lis_lt hk
  unfold lis at hk
  simp at this hk
  simp [this] at hk
 ·have : St 0 ((Ya 0).map (fun _ => (default : G))) = S0 := hS0
  rw [this]
  exact Step.drew hw0
end
end Go.VL
