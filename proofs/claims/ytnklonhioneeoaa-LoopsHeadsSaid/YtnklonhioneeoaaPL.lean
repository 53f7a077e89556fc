import Derived.Test.YtnklonhioneeoaaD5
import Derived.Test.YtnklonhioneeoaaL1
set_option linter.unusedVariables false
set_option linter.unusedSimpArgs false
namespace Go.SM
open Go.VL
def overZ (f : SFunc) (a b : Int) : Bool := climbB (treeF f.blocks) (f.blocks.length + 1) a b
def backsF (f : SFunc) : List (Int × Int) := (reachL f).flatMap fun k => ((toAt f.blocks k.toNat).filter fun e => overZ f e.block k).map fun e => (k, e.block)
def workF (f : SFunc) (h : Int) : List Int := ((backsF f).filter fun x => x.2 == h).map (·.1)
def inR (f : SFunc) (k : Int) : Bool := (reachL f).any fun x => decide (k = x)
def loopStep (f : SFunc) (s : List Int × List Int) : List Int × List Int :=
  match s.1.getLast? with
  | none => s
  | some k => if (inR f k && !(s.2.any fun x => decide (k = x))) = true then (s.1.dropLast ++ ((predsF f.blocks)[k.toNat]?.getD []), s.2 ++ [k]) else (s.1.dropLast, s.2)
def loopRun (f : SFunc) : Nat → List Int × List Int → List Int × List Int
  | 0, s => s
  | n + 1, s => if s.1 = [] then s else loopRun f n (loopStep f s)
def loopC (f : SFunc) (all : List Int) : Nat := ((List.range f.blocks.length).map fun (k : Nat) => if ((k : Int) ∈ all) then 0 else ((predsF f.blocks)[k]?.getD []).length).sum
def loopW (f : SFunc) (s : List Int × List Int) : Nat := s.1.length + loopC f s.2
def bodyF (f : SFunc) (h : Int) : List Int := (loopRun f (loopW f (workF f h, [h])) (workF f h, [h])).2
def headsF (f : SFunc) : List Int := ((List.range f.blocks.length).map fun (k : Nat) => (k : Int)).filter fun h => !(workF f h).isEmpty
def sortL (l : List Int) : List Int := l.mergeSort fun x y => decide (x ≤ y)
def findF (f : SFunc) : List (Int × List Int) := (headsF f).map fun h => (h, sortL (bodyF f h))
theorem loopC_add {f : SFunc} {all : List Int} {v : Nat} (hv : v < f.blocks.length) (hn : (v : Int) ∉ all) : loopC f (all ++ [(v : Int)]) + ((predsF f.blocks)[v]?.getD []).length = loopC f all := by
  unfold loopC
  have key : ∀ l : List Nat, l.Nodup → (l.map fun (k : Nat) => if ((k : Int) ∈ all ++ [(v : Int)]) then 0 else ((predsF f.blocks)[k]?.getD []).length).sum + (if v ∈ l then ((predsF f.blocks)[v]?.getD []).length else 0) = (l.map fun (k : Nat) => if ((k : Int) ∈ all) then 0 else ((predsF f.blocks)[k]?.getD []).length).sum := by
    intro l
    induction l with
    | nil => intro _; rfl
    | cons a l ih =>
      intro hnd
      obtain ⟨h1, h2⟩ := List.nodup_cons.1 hnd
      have ih := ih h2
      rw [List.map_cons, List.map_cons, List.sum_cons, List.sum_cons]
      by_cases hav : a = v
      · subst hav
        rw [if_neg h1] at ih
        rw [if_pos (List.mem_append_right _ (List.mem_singleton.2 rfl)), if_neg hn, if_pos (List.mem_cons_self ..)]
        omega
      · have hm : ((a : Int) ∈ all ++ [(v : Int)]) ↔ (a : Int) ∈ all := by
          rw [List.mem_append, List.mem_singleton]
          constructor
          · rintro (h | h)
            · exact h
            · omega
          · exact .inl
        have hvl : v ∈ a :: l ↔ v ∈ l := by
          rw [List.mem_cons]
          constructor
          · rintro (h | h)
            · exact absurd h.symm hav
            · exact h
          · exact .inr
        simp only [hm, hvl]
        omega
  have h := key (List.range f.blocks.length) List.nodup_range
  rw [if_pos (List.mem_range.2 hv)] at h
  exact h
theorem inR_iff {f : SFunc} {k : Int} : inR f k = true ↔ ∃ v : Nat, k = v ∧ v ∈ orderF f.blocks := by
  unfold inR
  rw [List.any_eq_true]
  constructor
  · rintro ⟨x, hx, e⟩
    rw [of_decide_eq_true e]
    have hx2 := hx
    rw [reachL, List.mem_mergeSort, ordZ, List.mem_map] at hx2
    obtain ⟨v, hv, rfl⟩ := hx2
    exact ⟨v, rfl, hv⟩
  · rintro ⟨v, rfl, hv⟩
    exact ⟨_, reach_mem.2 hv, decide_eq_true rfl⟩
theorem loopstep_w {f : SFunc} (ho : OrderOk f.blocks (orderF f.blocks)) {s : List Int × List Int} (hs : s.1 ≠ []) : loopW f (loopStep f s) + 1 = loopW f s := by
  obtain ⟨w, all⟩ := s
  obtain ⟨w0, k, rfl⟩ : ∃ w0 k, w = w0 ++ [k] := ⟨w.dropLast, w.getLast hs, (List.dropLast_concat_getLast hs).symm⟩
  unfold loopStep loopW
  dsimp only
  rw [List.getLast?_concat]
  dsimp only
  rw [List.dropLast_concat, List.length_append, List.length_singleton]
  split
  · rename_i h
    rw [Bool.and_eq_true, inR_iff] at h
    obtain ⟨⟨v, rfl, hv⟩, hn⟩ := h
    have hnm : (v : Int) ∉ all := fun hm => by
      have : (all.any fun x => decide ((v : Int) = x)) = true := List.any_eq_true.2 ⟨_, hm, decide_eq_true rfl⟩
      rw [this] at hn
      cases hn
    have := loopC_add (f := f) (ho.lt v hv) hnm
    dsimp only
    rw [Int.toNat_natCast, List.length_append]
    omega
  · dsimp only
    omega
inductive NatLoop (f : SFunc) (h : Nat) : Nat → Prop where
  | head : NatLoop f h h
  | latch {k : Nat} : k ∈ orderF f.blocks → Edge f.blocks k h → domsF f h k = true → NatLoop f h k
  | pred {x p : Nat} : NatLoop f h x → x ≠ h → p ∈ orderF f.blocks → Edge f.blocks p x → NatLoop f h p
structure LoopInv (f : SFunc) (h : Nat) (s : List Int × List Int) : Prop where
  sound : ∀ v ∈ s.2, ∃ n : Nat, v = n ∧ NatLoop f h n
  work : ∀ v ∈ s.1, ∃ n : Nat, v = n ∧ n < f.blocks.length ∧ (n ∈ orderF f.blocks → NatLoop f h n)
  head : (h : Int) ∈ s.2
  nodup : s.2.Nodup
  latch : ∀ k : Nat, k ∈ orderF f.blocks → Edge f.blocks k h → domsF f h k = true → (k : Int) ∈ s.2 ∨ (k : Int) ∈ s.1
  closed : ∀ x p : Nat, (x : Int) ∈ s.2 → x ≠ h → p ∈ orderF f.blocks → Edge f.blocks p x → (p : Int) ∈ s.2 ∨ (p : Int) ∈ s.1
theorem back_mem {f : SFunc} (hf : FuncOk f) {k : Int} {h : Nat} : k ∈ workF f h ↔ ∃ v : Nat, k = v ∧ v ∈ orderF f.blocks ∧ Edge f.blocks v h ∧ domsF f h v = true := by
  have ho := order_ok hf.pos hf.edges
  have hdz : ∀ {v : Nat}, v ∈ orderF f.blocks → ∀ a : Int, domsF f a v = overZ f a v := fun {v} hv a => by
    unfold domsF overZ
    rw [if_neg (by rw [(place_of ho hv).1]; omega)]
  unfold workF backsF
  rw [List.mem_map]
  constructor
  · rintro ⟨⟨a, b⟩, hx, rfl⟩
    obtain ⟨hx1, hx2⟩ := List.mem_filter.1 hx
    obtain ⟨y, hy, hx3⟩ := List.mem_flatMap.1 hx1
    obtain ⟨e, he, heq⟩ := List.mem_map.1 hx3
    obtain ⟨he1, he2⟩ := List.mem_filter.1 he
    injection heq with e1 e2
    subst e1
    rw [reachL, List.mem_mergeSort, ordZ, List.mem_map] at hy
    obtain ⟨v, hv, rfl⟩ := hy
    have hbh : b = (h : Int) := by simpa using hx2
    rw [Int.toNat_natCast] at he1
    refine ⟨v, rfl, hv, ⟨e, he1, by omega⟩, ?_⟩
    rw [hdz hv, ← hbh, ← e2]
    exact he2
  · rintro ⟨v, rfl, hv, ⟨e, he1, he2⟩, hd⟩
    have hvl := ho.lt v hv
    obtain ⟨bl, hbl⟩ := get_of_lt f.blocks v (by omega)
    have hem := he1
    rw [toAt_get hbl] at hem
    have hb1 := (hf.edges bl (List.mem_of_getElem? hbl) e hem).1
    have hbe : e.block = (h : Int) := by omega
    refine ⟨((v : Int), e.block), List.mem_filter.2 ⟨List.mem_flatMap.2 ⟨(v : Int), reach_mem.2 hv, List.mem_map.2 ⟨e, List.mem_filter.2 ⟨by rw [Int.toNat_natCast]; exact he1, ?_⟩, rfl⟩⟩, by rw [hbe]; simp⟩, rfl⟩
    rw [hbe, ← hdz hv]
    exact hd
theorem loop_start {f : SFunc} (hf : FuncOk f) {h : Nat} (hh : h < f.blocks.length) : LoopInv f h (workF f h, [(h : Int)]) := by
  have ho := order_ok hf.pos hf.edges
  refine ⟨fun v hv => ?_, fun v hv => ?_, List.mem_singleton.2 rfl, by simp, fun k hk he hd => .inr ((back_mem hf).2 ⟨k, rfl, hk, he, hd⟩), fun x p hx hne => ?_⟩
  · rw [List.mem_singleton.1 hv]; exact ⟨h, rfl, .head⟩
  · obtain ⟨k, rfl, hk, he, hd⟩ := (back_mem hf).1 hv
    exact ⟨k, rfl, ho.lt k hk, fun _ => .latch hk he hd⟩
  · have : x = h := by have := List.mem_singleton.1 hx; omega
    exact absurd this hne
theorem loop_step {f : SFunc} (hf : FuncOk f) {h : Nat} {s : List Int × List Int} (inv : LoopInv f h s) (hs : s.1 ≠ []) : LoopInv f h (loopStep f s) := by
  have ho := order_ok hf.pos hf.edges
  obtain ⟨w, all⟩ := s
  obtain ⟨w0, k, rfl⟩ : ∃ w0 k, w = w0 ++ [k] := ⟨w.dropLast, w.getLast hs, (List.dropLast_concat_getLast hs).symm⟩
  obtain ⟨i1, i2, i3, i4, i5, i6⟩ := inv
  dsimp only at i1 i2 i3 i4 i5 i6
  unfold loopStep
  dsimp only
  rw [List.getLast?_concat]
  dsimp only
  rw [List.dropLast_concat]
  obtain ⟨n, rfl, hn, hnl⟩ := i2 k (List.mem_append_right _ (List.mem_singleton.2 rfl))
  have split : ∀ {v : Int}, v ∈ w0 ++ [(n : Int)] → v = n ∨ v ∈ w0 := fun {v} hv => (List.mem_append.1 hv).elim .inr fun h => .inl (List.mem_singleton.1 h)
  split
  · rename_i hc
    rw [Bool.and_eq_true, inR_iff] at hc
    obtain ⟨⟨v, hv, hvo⟩, hnot⟩ := hc
    have hvn : n = v := by omega
    subst hvn
    have hnm : (n : Int) ∉ all := fun hm => by
      have : (all.any fun x => decide ((n : Int) = x)) = true := List.any_eq_true.2 ⟨_, hm, decide_eq_true rfl⟩
      rw [this] at hnot
      cases hnot
    have hnh : n ≠ h := fun e => hnm (by rw [e]; exact i3)
    rw [Int.toNat_natCast]
    have hpm : ∀ y : Int, y ∈ ((predsF f.blocks)[n]?.getD []) ↔ ∃ p : Nat, y = p ∧ Edge f.blocks p n := fun y => preds_mem hf.edges
    refine ⟨fun v hv => ?_, fun v hv => ?_, List.mem_append_left _ i3, ?_, fun k hk he hd => ?_, fun x p hx hne hp he => ?_⟩
    · rcases List.mem_append.1 hv with hv | hv
      · exact i1 v hv
      · rw [List.mem_singleton.1 hv]; exact ⟨n, rfl, hnl hvo⟩
    · rcases List.mem_append.1 hv with hv | hv
      · exact i2 v (List.mem_append_left _ hv)
      · obtain ⟨p, rfl, he⟩ := (hpm v).1 hv
        refine ⟨p, rfl, ?_, fun hp => .pred (hnl hvo) hnh hp he⟩
        obtain ⟨x, hx, _⟩ := he
        refine Classical.byContradiction fun hge => ?_
        unfold toAt at hx
        rw [List.getElem?_eq_none (by omega)] at hx
        cases hx
    · refine List.nodup_append.2 ⟨i4, by simp, fun a ha b hb => ?_⟩
      rw [List.mem_singleton.1 hb]
      exact fun e => hnm (e ▸ ha)
    · rcases i5 k hk he hd with h1 | h1
      · exact .inl (List.mem_append_left _ h1)
      · rcases split h1 with h1 | h1
        · exact .inl (List.mem_append_right _ (List.mem_singleton.2 h1))
        · exact .inr (List.mem_append_left _ h1)
    · rcases List.mem_append.1 hx with hx | hx
      · rcases i6 x p hx hne hp he with h1 | h1
        · exact .inl (List.mem_append_left _ h1)
        · rcases split h1 with h1 | h1
          · exact .inl (List.mem_append_right _ (List.mem_singleton.2 h1))
          · exact .inr (List.mem_append_left _ h1)
      · have hxn : x = n := by have := List.mem_singleton.1 hx; omega
        subst hxn
        exact .inr (List.mem_append_right _ ((hpm p).2 ⟨p, rfl, he⟩))
  · rename_i hc
    have hor : (n : Int) ∈ all ∨ n ∉ orderF f.blocks := by
      by_cases hm : (n : Int) ∈ all
      · exact .inl hm
      · refine .inr fun ho' => hc ?_
        rw [Bool.and_eq_true, inR_iff, Bool.not_eq_true', ← Bool.not_eq_true, List.any_eq_true]
        exact ⟨⟨n, rfl, ho'⟩, fun ⟨x, hx, e⟩ => hm (by rw [of_decide_eq_true e]; exact hx)⟩
    refine ⟨i1, fun v hv => i2 v (List.mem_append_left _ hv), i3, i4, fun k hk he hd => ?_, fun x p hx hne hp he => ?_⟩
    · rcases i5 k hk he hd with h1 | h1
      · exact .inl h1
      · rcases split h1 with h1 | h1
        · have hkn : k = n := by omega
          subst hkn
          exact .inl (hor.resolve_right fun h => h hk)
        · exact .inr h1
    · rcases i6 x p hx hne hp he with h1 | h1
      · exact .inl h1
      · rcases split h1 with h1 | h1
        · have hpn : p = n := by omega
          subst hpn
          exact .inl (hor.resolve_right fun h => h hp)
        · exact .inr h1
theorem looprun_inv {f : SFunc} (hf : FuncOk f) {h : Nat} : ∀ (n : Nat) (s : List Int × List Int), LoopInv f h s → loopW f s ≤ n → LoopInv f h (loopRun f n s) ∧ (loopRun f n s).1 = []
  | 0, s, inv, hw => by
    have : s.1.length = 0 := by unfold loopW at hw; omega
    exact ⟨inv, List.length_eq_zero_iff.1 this⟩
  | n + 1, s, inv, hw => by
    rw [loopRun]
    by_cases h0 : s.1 = []
    · rw [if_pos h0]
      exact ⟨inv, h0⟩
    · rw [if_neg h0]
      have := loopstep_w (order_ok hf.pos hf.edges) h0
      exact looprun_inv hf n _ (loop_step hf inv h0) (by omega)
theorem body_mem {f : SFunc} (hf : FuncOk f) {h : Nat} (hh : h < f.blocks.length) : (bodyF f h).Nodup ∧ (∀ v ∈ bodyF f h, ∃ n : Nat, v = n ∧ NatLoop f h n) ∧ ∀ n : Nat, NatLoop f h n → (n : Int) ∈ bodyF f h := by
  obtain ⟨inv, h0⟩ := looprun_inv hf _ _ (loop_start hf hh) (Nat.le_refl _)
  change (loopRun f (loopW f (workF f h, [(h : Int)])) (workF f h, [(h : Int)])).1 = [] at h0
  have hb : bodyF f h = (loopRun f (loopW f (workF f h, [(h : Int)])) (workF f h, [(h : Int)])).2 := rfl
  rw [hb]
  refine ⟨inv.nodup, inv.sound, fun n hn => ?_⟩
  induction hn with
  | head => exact inv.head
  | latch hk he hd => exact (inv.latch _ hk he hd).resolve_right fun h1 => by rw [h0] at h1; cases h1
  | pred hx hne hp he ih => exact (inv.closed _ _ ih hne hp he).resolve_right fun h1 => by rw [h0] at h1; cases h1
theorem work_head {f : SFunc} (hf : FuncOk f) {h : Nat} (hw : workF f h ≠ []) : h ∈ orderF f.blocks ∧ ∃ k : Nat, k ∈ orderF f.blocks ∧ Edge f.blocks k h ∧ domsF f h k = true := by
  obtain ⟨x, hx⟩ := List.exists_mem_of_ne_nil _ hw
  obtain ⟨k, rfl, hk, he, hd⟩ := (back_mem hf).1 hx
  exact ⟨edge_mem (order_ok hf.pos hf.edges) hk he, k, hk, he, hd⟩
theorem nat_anc {f : SFunc} (hf : FuncOk f) {h n : Nat} (hh : h ∈ orderF f.blocks) (hn : NatLoop f h n) : n ∈ orderF f.blocks ∧ Anc (treeF f.blocks) n h := by
  have ho := order_ok hf.pos hf.edges
  have ht := tree_ok ho hf.edges
  induction hn with
  | head => exact ⟨hh, .refl _⟩
  | latch hk he hd => exact ⟨hk, (doms_anc ho ht hk).1 hd⟩
  | pred hx hne hp he ih =>
    obtain ⟨hb0, hxo, q, hq, hi, ha⟩ := idom_anc hf hp he
    refine ⟨hp, ?_⟩
    rcases ht.inv.tree.cases ho hq ih.2 with e | h1
    · exact absurd e.symm hne
    · exact ha.trans h1
theorem order_way {f : SFunc} (hf : FuncOk f) : ∀ (n v : Nat), pos f.blocks v < n → v ∈ orderF f.blocks → ∃ l, Way f.blocks l v
  | 0, v, hn, _ => by omega
  | n + 1, v, hn, hv => by
    have ho := order_ok hf.pos hf.edges
    by_cases h0 : v = 0
    · subst h0; exact ⟨[], .start⟩
    · obtain ⟨p, hp, hlt, he⟩ := par_of ho hv h0
      obtain ⟨l, hl⟩ := order_way hf n p (by omega) hp
      exact ⟨p :: l, .step hl he⟩
theorem way_order {f : SFunc} (hf : FuncOk f) {l : List Nat} {v : Nat} (hw : Way f.blocks l v) : v ∈ orderF f.blocks := by
  have ho := order_ok hf.pos hf.edges
  induction hw with
  | start => exact zero_mem ho
  | step hw he ih => exact edge_mem ho ih he
theorem nat_into {f : SFunc} (hf : FuncOk f) {h1 h2 : Nat} (hh2 : h2 ∈ orderF f.blocks) (hn : ¬ NatLoop f h2 h1) {l : List Nat} {k : Nat} (hw : Way f.blocks l k) : NatLoop f h1 k → NatLoop f h2 k → NatLoop f h1 h2 := by
  have ho := order_ok hf.pos hf.edges
  have ht := tree_ok ho hf.edges
  induction hw with
  | start =>
    intro k1 k2
    have := ht.inv.tree.zero ho (nat_anc hf hh2 k2).2
    rw [this]
    exact k1
  | @step l p k hw he ih =>
    intro k1 k2
    by_cases hk2 : k = h2
    · rw [← hk2]; exact k1
    · have hp := way_order hf hw
      have hk1 : k ≠ h1 := fun e => hn (e ▸ k2)
      exact ih (.pred k1 hk1 hp he) (.pred k2 hk2 hp he)
theorem nat_sub {f : SFunc} {h1 h2 : Nat} (hn : ¬ NatLoop f h2 h1) (hi : NatLoop f h1 h2) {n : Nat} (hn2 : NatLoop f h2 n) : NatLoop f h1 n := by
  induction hn2 with
  | head => exact hi
  | latch hk he hd => exact .pred hi (fun e => hn (e ▸ .head)) hk he
  | pred hx hne hp he ih => exact .pred ih (fun e => hn (e ▸ hx)) hp he
theorem nest_law {f : SFunc} (hf : FuncOk f) {h1 h2 k : Nat} (hh1 : h1 ∈ orderF f.blocks) (hh2 : h2 ∈ orderF f.blocks) (hk1 : NatLoop f h1 k) (hk2 : NatLoop f h2 k) : (∀ n, NatLoop f h2 n → NatLoop f h1 n) ∨ ∀ n, NatLoop f h1 n → NatLoop f h2 n := by
  have ho := order_ok hf.pos hf.edges
  have ht := tree_ok ho hf.edges
  obtain ⟨hk, a1⟩ := nat_anc hf hh1 hk1
  have a2 := (nat_anc hf hh2 hk2).2
  obtain ⟨l, hw⟩ := order_way hf _ k (Nat.lt_succ_self _) hk
  by_cases he : h1 = h2
  · subst he; exact .inl fun n hn => hn
  · have key : ∀ {h1 h2 : Nat}, h1 ∈ orderF f.blocks → h2 ∈ orderF f.blocks → h1 ≠ h2 → Anc (treeF f.blocks) h2 h1 → NatLoop f h1 k → NatLoop f h2 k → ∀ n, NatLoop f h2 n → NatLoop f h1 n := fun {h1 h2} hh1 hh2 hne ha k1 k2 n hn => by
      have hnot : ¬ NatLoop f h2 h1 := fun hl => hne (anc_eq ho ht.inv.tree (ht.all h1 hh1) (nat_anc hf hh2 hl).2 ha)
      exact nat_sub hnot (nat_into hf hh2 hnot hw k1 k2) hn
    rcases Nat.le_total (pos f.blocks h1) (pos f.blocks h2) with hp | hp
    · exact .inl (key hh1 hh2 he (ht.inv.tree.chain ho (ht.all k hk) a1 a2 hp) hk1 hk2)
    · exact .inr (key hh2 hh1 (Ne.symm he) (ht.inv.tree.chain ho (ht.all k hk) a2 a1 hp) hk2 hk1)
theorem heads_mem {f : SFunc} {h : Int} : h ∈ headsF f ↔ ∃ k : Nat, h = k ∧ k < f.blocks.length ∧ workF f k ≠ [] := by
  unfold headsF
  rw [List.mem_filter, List.mem_map]
  constructor
  · rintro ⟨⟨k, hk, rfl⟩, hw⟩
    exact ⟨k, rfl, List.mem_range.1 hk, fun e => by rw [e] at hw; simp at hw⟩
  · rintro ⟨k, rfl, hk, hw⟩
    exact ⟨⟨k, List.mem_range.2 hk, rfl⟩, by cases hw2 : workF f k with
      | nil => exact absurd hw2 hw
      | cons a l => rfl⟩
theorem heads_nodup (f : SFunc) : (headsF f).Nodup := by
  unfold headsF
  refine List.Pairwise.filter _ ?_
  rw [List.pairwise_map]
  exact List.nodup_range.imp fun hne e => hne (by omega)
theorem sort_mem {l : List Int} {x : Int} : x ∈ sortL l ↔ x ∈ l := List.mem_mergeSort
theorem sort_nodup {l : List Int} (h : l.Nodup) : (sortL l).Nodup := (List.mergeSort_perm l _).nodup_iff.2 h
structure LoopOk (f : SFunc) (x : Int × List Int) : Prop where
  head : ∃ h : Nat, x.1 = h ∧ h ∈ orderF f.blocks ∧ h < f.blocks.length ∧ (∀ v ∈ x.2, ∃ n : Nat, v = n ∧ NatLoop f h n) ∧ (∀ n : Nat, NatLoop f h n → (n : Int) ∈ x.2) ∧ ∃ k : Nat, k ∈ orderF f.blocks ∧ Edge f.blocks k h ∧ domsF f h k = true
  nodup : x.2.Nodup
theorem find_ok {f : SFunc} (hf : FuncOk f) : ∀ x ∈ findF f, LoopOk f x := fun x hx => by
  obtain ⟨h, hh, rfl⟩ := List.mem_map.1 hx
  obtain ⟨k, rfl, hk, hw⟩ := heads_mem.1 hh
  obtain ⟨b1, b2, b3⟩ := body_mem hf hk
  obtain ⟨ho, hl⟩ := work_head hf hw
  exact ⟨⟨k, rfl, ho, hk, fun v hv => b2 v (sort_mem.1 hv), fun n hn => sort_mem.2 (b3 n hn), hl⟩, sort_nodup b1⟩
def sharedF (x y : List Int) : Nat := x.countP fun k => y.any fun z => decide (z = k)
theorem any_mem {y : List Int} {k : Int} : (y.any fun z => decide (z = k)) = true ↔ k ∈ y := by
  rw [List.any_eq_true]
  constructor
  · rintro ⟨z, hz, e⟩; rwa [← of_decide_eq_true e]
  · intro h; exact ⟨_, h, decide_eq_true rfl⟩
theorem shared_law {f : SFunc} (hf : FuncOk f) {x y : Int × List Int} (hx : LoopOk f x) (hy : LoopOk f y) : ¬ (sharedF x.2 y.2 > 0 ∧ sharedF x.2 y.2 < x.2.length ∧ sharedF x.2 y.2 < y.2.length) := by
  rintro ⟨h0, h1, h2⟩
  obtain ⟨⟨hx1, e1, o1, l1, s1, c1, _⟩, nx⟩ := hx
  obtain ⟨⟨hy1, e2, o2, l2, s2, c2, _⟩, ny⟩ := hy
  obtain ⟨k, hk, hky⟩ := List.countP_pos_iff.1 h0
  rw [any_mem] at hky
  obtain ⟨n, rfl, hn1⟩ := s1 k hk
  obtain ⟨m, hm, hn2⟩ := s2 _ hky
  have hnm : n = m := by omega
  subst hnm
  rcases nest_law hf o1 o2 hn1 hn2 with hs | hs
  · -- all of y lies in x
    have hsub : ∀ z ∈ y.2, z ∈ x.2 := fun z hz => by
      obtain ⟨w, rfl, hw⟩ := s2 z hz
      exact c1 w (hs w hw)
    have : y.2.length ≤ sharedF x.2 y.2 := by
      unfold sharedF
      rw [List.countP_eq_length_filter]
      refine ny.length_le_of_subset fun z hz => List.mem_filter.2 ⟨hsub z hz, any_mem.2 hz⟩
    omega
  · have : sharedF x.2 y.2 = x.2.length := by
      unfold sharedF
      rw [List.countP_eq_length]
      intro z hz
      obtain ⟨w, rfl, hw⟩ := s1 z hz
      exact any_mem.2 (c2 w (hs w hw))
    omega
theorem heads_ne {f : SFunc} {i j : Nat} {x y : Int × List Int} (hx : (findF f)[i]? = some x) (hy : (findF f)[j]? = some y) (hij : i ≠ j) : x.1 ≠ y.1 := by
  intro e
  unfold findF at hx hy
  rw [List.getElem?_map] at hx hy
  obtain ⟨a, ha, rfl⟩ := Option.map_eq_some_iff.1 hx
  obtain ⟨b, hb, rfl⟩ := Option.map_eq_some_iff.1 hy
  have e : a = b := e
  subst e
  have hn := heads_nodup f
  obtain ⟨hi, hie⟩ := List.getElem?_eq_some_iff.1 ha
  obtain ⟨hj, hje⟩ := List.getElem?_eq_some_iff.1 hb
  exact hij ((List.getElem_inj hn).1 (hie.trans hje.symm))
theorem head_law {f : SFunc} (hf : FuncOk f) {x : Int × List Int} (hx : LoopOk f x) : ∃ h : Nat, x.1 = h ∧ h < f.blocks.length ∧ (h : Int) ∈ x.2 ∧ (∀ v ∈ x.2, ∃ n : Nat, v = n ∧ n < f.blocks.length ∧ domsF f h n = true) ∧ ∃ k : Nat, (k : Int) ∈ x.2 ∧ Edge f.blocks k h := by
  have ho := order_ok hf.pos hf.edges
  have ht := tree_ok ho hf.edges
  obtain ⟨⟨h, e1, o1, l1, s1, c1, k, hk, he, hd⟩, nx⟩ := hx
  refine ⟨h, e1, l1, c1 h .head, fun v hv => ?_, k, c1 k (.latch hk he hd), he⟩
  obtain ⟨n, rfl, hn⟩ := s1 v hv
  obtain ⟨hno, ha⟩ := nat_anc hf o1 hn
  exact ⟨n, rfl, ho.lt n hno, (doms_anc ho ht hno).2 ha⟩
theorem flat_le {α β : Type} {g : α → List β} {c : Nat} : ∀ {l : List α}, (∀ x ∈ l, (g x).length ≤ c) → (l.flatMap g).length ≤ l.length * c
  | [], _ => by simp
  | x :: l, h => by
    rw [List.flatMap_cons, List.length_append, List.length_cons, Nat.succ_mul]
    have h1 := h x (List.mem_cons_self ..)
    have h2 := flat_le fun y hy => h y (List.mem_cons_of_mem _ hy)
    omega
theorem toAt_le {f : SFunc} (hf : FuncOk f) (k : Nat) : (toAt f.blocks k).length ≤ 257 := by
  cases hb : f.blocks[k]? with
  | none => rw [toAt, hb]; exact Nat.zero_le _
  | some b => rw [toAt_get hb]; exact term_edges hf (List.mem_of_getElem? hb)
theorem backs_small {f : SFunc} (hf : FuncOk f) : (backsF f).length ≤ 32896 := by
  have ho := order_ok hf.pos hf.edges
  have h1 := nodup_lt ho.nodup ho.lt
  have h2 := reach_len f
  have h3 := hf.len
  have h4 : (backsF f).length ≤ (reachL f).length * 257 := flat_le fun k _ => by
    rw [List.length_map]
    exact Nat.le_trans (List.length_filter_le ..) (toAt_le hf _)
  have h5 : (reachL f).length * 257 ≤ 128 * 257 := Nat.mul_le_mul_right _ (by omega)
  omega
theorem work_le (f : SFunc) (h : Int) : (workF f h).length ≤ (backsF f).length := by
  unfold workF
  rw [List.length_map]
  exact List.length_filter_le ..
theorem work_cons {e : Int × Int} {l : List (Int × Int)} {h : Int} : ((e :: l).filter fun x => x.2 == h).map (·.1) = (if e.2 = h then [e.1] else []) ++ (l.filter fun x => x.2 == h).map (·.1) := by
  rw [List.filter_cons]
  by_cases h1 : e.2 = h
  · rw [if_pos h1, if_pos (by rw [h1]; simp)]
    rfl
  · rw [if_neg h1, if_neg (by simpa using h1)]
    rfl
theorem range_total (P : List (List Int)) : ((List.range P.length).map fun k => (P[k]?.getD []).length).sum = total P := by
  have h : (List.range P.length).map (fun k => (P[k]?.getD []).length) = P.map List.length := by
    apply List.ext_getElem
    · simp
    · intro i h1 h2
      have h3 : i < P.length := by simpa using h2
      simp [List.getElem?_eq_getElem h3]
  rw [h]
  rfl
theorem loopC_small {f : SFunc} (hf : FuncOk f) (all : List Int) : loopC f all ≤ 32896 := by
  have h1 := edges_small hf
  have h2 := preds_total hf.edges
  have h3 := range_total (predsF f.blocks)
  rw [predsF_len] at h3
  have h4 : loopC f all ≤ ((List.range f.blocks.length).map fun k => ((predsF f.blocks)[k]?.getD []).length).sum := by
    unfold loopC
    generalize List.range f.blocks.length = l
    induction l with
    | nil => exact Nat.le_refl _
    | cons a l ih =>
      rw [List.map_cons, List.map_cons, List.sum_cons, List.sum_cons]
      split <;> omega
  omega
def hdr (f : SFunc) (k : Nat) : List (Int × List Int) := ((((List.range f.blocks.length).map fun (k : Nat) => (k : Int)).drop k).filter fun h => !(workF f h).isEmpty).map fun h => (h, sortL (bodyF f h))
theorem hdr_end {f : SFunc} : hdr f f.blocks.length = [] := by
  unfold hdr
  rw [List.drop_of_length_le (by simp)]
  rfl
theorem hdr_step {f : SFunc} {k : Nat} (hk : k < f.blocks.length) : hdr f k = (if workF f k = [] then [] else [((k : Int), sortL (bodyF f k))]) ++ hdr f (k + 1) := by
  have hx : ((List.range f.blocks.length).map fun (k : Nat) => (k : Int))[k]? = some (k : Int) := by simp [hk]
  unfold hdr
  rw [drop_cons hx, List.filter_cons]
  by_cases h : workF f k = []
  · rw [if_pos h, if_neg (by rw [h]; simp)]
    rfl
  · rw [if_neg h, if_pos (by cases hw : workF f k with
      | nil => exact absurd hw h
      | cons a l => rfl)]
    rfl
def bodyR (f : SFunc) (s : List Int × List Int) : List Int := (loopRun f (loopW f s) s).2
theorem body_eq (f : SFunc) (h : Int) : bodyR f (workF f h, [h]) = bodyF f h := rfl
theorem bodyR_end {f : SFunc} (sa : List Int) : bodyR f ([], sa) = sa := by
  unfold bodyR
  cases loopW f ([], sa) with
  | zero => rfl
  | succ n => rw [loopRun, if_pos rfl]
theorem lstep {f : SFunc} (hf : FuncOk f) {h : Nat} {s s' : List Int × List Int} (inv : LoopInv f h s) (hs : s.1 ≠ []) (e : loopStep f s = s') : LoopInv f h s' ∧ loopW f s' + 1 = loopW f s ∧ bodyR f s' = bodyR f s := by
  subst e
  have hw := loopstep_w (order_ok hf.pos hf.edges) hs
  refine ⟨loop_step hf inv hs, hw, ?_⟩
  unfold bodyR
  rw [← hw, loopRun, if_neg hs]
theorem lstep_T {f : SFunc} {w : List Int} {n : Nat} {all : List Int} (h1 : inR f n = true) (h2 : (all.any fun x => decide ((n : Int) = x)) = false) : loopStep f (w ++ [(n : Int)], all) = (w ++ ((predsF f.blocks)[n]?.getD []), all ++ [(n : Int)]) := by
  unfold loopStep
  dsimp only
  rw [List.getLast?_concat]
  dsimp only
  rw [h1, h2, List.dropLast_concat, Int.toNat_natCast]
  rfl
theorem lstep_F {f : SFunc} {w : List Int} {n : Nat} {all : List Int} (h : inR f n = false ∨ (all.any fun x => decide ((n : Int) = x)) = true) : loopStep f (w ++ [(n : Int)], all) = (w, all) := by
  unfold loopStep
  dsimp only
  rw [List.getLast?_concat]
  dsimp only
  rw [List.dropLast_concat, if_neg]
  rintro h2
  rw [Bool.and_eq_true] at h2
  rcases h with h | h
  · rw [h2.1] at h; cases h
  · rw [h] at h2; exact absurd h2.2 (by decide)
theorem has_inR (f : SFunc) (k : Int) : (reachL f).contains k = inR f k := by
  unfold inR
  rw [Bool.eq_iff_iff, List.contains_iff_mem, List.any_eq_true]
  constructor
  · intro h; exact ⟨_, h, decide_eq_true rfl⟩
  · rintro ⟨x, hx, e⟩; rw [of_decide_eq_true e]; exact hx
theorem reach_sorted (f : SFunc) : (reachL f).Pairwise (· ≤ ·) := by
  have h := List.pairwise_mergeSort (le := fun (x y : Int) => decide (x ≤ y)) (fun a b c h1 h2 => by simp at h1 h2 ⊢; omega) (fun a b => by simp; omega) (ordZ f.blocks)
  exact h.imp fun h => of_decide_eq_true h
theorem reach_ne {f : SFunc} (hf : FuncOk f) : reachL f ≠ [] := by
  have h := reach_mem.2 (zero_mem (order_ok hf.pos hf.edges))
  exact List.ne_nil_of_mem h
theorem all_len {f : SFunc} (hf : FuncOk f) {h : Nat} (hh : h ∈ orderF f.blocks) {s : List Int × List Int} (inv : LoopInv f h s) : s.2.length ≤ 128 := by
  have ho := order_ok hf.pos hf.edges
  have h3 := hf.len
  have h1 := nodup_lt (l := s.2.map Int.toNat) (n := f.blocks.length) ?_ fun v hv => by
    obtain ⟨x, hx, rfl⟩ := List.mem_map.1 hv
    obtain ⟨n, rfl, hn⟩ := inv.sound x hx
    rw [Int.toNat_natCast]
    exact ho.lt n (nat_anc hf hh hn).1
  · rw [List.length_map] at h1; omega
  · rw [List.Nodup, List.pairwise_map]
    refine List.Pairwise.imp_of_mem (fun {a c} ha hc hne e => hne ?_) inv.nodup
    obtain ⟨n, rfl, _⟩ := inv.sound a ha
    obtain ⟨m, rfl, _⟩ := inv.sound c hc
    omega
def addD (d l : List Int) : List Int := l.foldl (fun d k => d.set k.toNat ((d[k.toNat]?.getD 0) + 1)) d
def depthsF (f : SFunc) : List Int := (findF f).foldl (fun d x => addD d x.2) (List.replicate f.blocks.length 0)
theorem find_len (f : SFunc) : (findF f).length ≤ f.blocks.length := by
  unfold findF headsF
  rw [List.length_map]
  refine Nat.le_trans (List.length_filter_le ..) ?_
  simp
theorem loop_small {f : SFunc} (hf : FuncOk f) {x : Int × List Int} (hx : LoopOk f x) : x.2.length ≤ 128 ∧ ∀ v ∈ x.2, ∃ n : Nat, v = n ∧ n < f.blocks.length := by
  obtain ⟨h, e1, hl, hh, hm, _⟩ := head_law hf hx
  have hv : ∀ v ∈ x.2, ∃ n : Nat, v = n ∧ n < f.blocks.length := fun v hv => by
    obtain ⟨n, e, hn, _⟩ := hm v hv
    exact ⟨n, e, hn⟩
  have h3 := hf.len
  refine ⟨?_, hv⟩
  have h1 := nodup_lt (l := x.2.map Int.toNat) (n := f.blocks.length) ?_ fun v hv2 => by
    obtain ⟨y, hy, rfl⟩ := List.mem_map.1 hv2
    obtain ⟨n, rfl, hn⟩ := hv y hy
    rw [Int.toNat_natCast]
    exact hn
  · rw [List.length_map] at h1; omega
  · rw [List.Nodup, List.pairwise_map]
    refine List.Pairwise.imp_of_mem (fun {a c} ha hc hne e => hne ?_) hx.nodup
    obtain ⟨n, rfl, _⟩ := hv a ha
    obtain ⟨m, rfl, _⟩ := hv c hc
    omega
theorem addD_len : ∀ (l d : List Int), (addD d l).length = d.length
  | [], d => rfl
  | k :: l, d => by
    show (addD (d.set _ _) l).length = _
    rw [addD_len l, List.length_set]
theorem sumI_set : ∀ (d : List Int) (k : Nat) (y x : Int), d[k]? = some y → (d.set k x).sum = d.sum + x - y
  | [], k, y, x, h => by simp at h
  | a :: d, 0, y, x, h => by
    have h : a = y := by simpa using h
    subst h
    rw [List.set_cons_zero, List.sum_cons, List.sum_cons]
    omega
  | a :: d, k + 1, y, x, h => by
    have h : d[k]? = some y := by simpa using h
    rw [List.set_cons_succ, List.sum_cons, List.sum_cons, sumI_set d k y x h]
    omega
theorem addD_sum : ∀ (l d : List Int), (∀ v ∈ l, ∃ n : Nat, v = n ∧ n < d.length) → (addD d l).sum = d.sum + l.length
  | [], d, _ => by simp [addD]
  | k :: l, d, h => by
    show (addD (d.set _ _) l).sum = _
    obtain ⟨n, rfl, hn⟩ := h k (List.mem_cons_self ..)
    obtain ⟨y, hy⟩ : ∃ y, d[n]? = some y := ⟨_, List.getElem?_eq_getElem hn⟩
    rw [addD_sum l _ (fun v hv => by rw [List.length_set]; exact h v (List.mem_cons_of_mem _ hv)), Int.toNat_natCast, hy, sumI_set d n y _ hy, List.length_cons]
    simp only [Option.getD_some]
    omega
def sizes (L : List (Int × List Int)) : Int := (L.map fun x => (x.2.length : Int)).sum
theorem depth_fold : ∀ (L : List (Int × List Int)) (d : List Int), (∀ x ∈ L, ∀ v ∈ x.2, ∃ n : Nat, v = n ∧ n < d.length) → (L.foldl (fun d x => addD d x.2) d).length = d.length ∧ (L.foldl (fun d x => addD d x.2) d).sum = d.sum + sizes L
  | [], d, _ => by simp [sizes]
  | x :: L, d, h => by
    have h1 := addD_sum x.2 d (h x (List.mem_cons_self ..))
    have h2 := addD_len x.2 d
    obtain ⟨h3, h4⟩ := depth_fold L (addD d x.2) fun y hy v hv => by rw [h2]; exact h y (List.mem_cons_of_mem _ hy) v hv
    rw [List.foldl_cons]
    refine ⟨by rw [h3, h2], ?_⟩
    rw [h4, h1]
    show _ = _ + (((x.2.length : Int) :: (L.map fun x => (x.2.length : Int))).sum)
    rw [List.sum_cons]
    show _ + (L.map fun x => (x.2.length : Int)).sum = _
    omega
theorem depths_len {f : SFunc} (hf : FuncOk f) : (depthsF f).length = f.blocks.length ∧ (depthsF f).sum = sizes (findF f) := by
  obtain ⟨h1, h2⟩ := depth_fold (findF f) (List.replicate f.blocks.length 0) fun x hx v hv => by
    obtain ⟨n, e, hn⟩ := (loop_small hf (find_ok hf x hx)).2 v hv
    exact ⟨n, e, by rw [List.length_replicate]; exact hn⟩
  refine ⟨by unfold depthsF; rw [h1, List.length_replicate], ?_⟩
  unfold depthsF
  rw [h2]
  have : (List.replicate f.blocks.length (0 : Int)).sum = 0 := by
    induction f.blocks.length with
    | zero => rfl
    | succ n ih => rw [List.replicate_succ, List.sum_cons, ih]; rfl
  omega
def DB (d : List Int) (N : Nat) : Prop := ∀ v ∈ d, 0 ≤ v ∧ v ≤ (N : Int)
theorem db_zero (n : Nat) : DB (List.replicate n 0) 0 := fun v hv => by
  rw [(List.mem_replicate.1 hv).2]
  omega
theorem db_set {d : List Int} {N k : Nat} {y : Int} (h : DB d N) (hy : d[k]? = some y) : DB (d.set k (y + 1)) (N + 1) := fun v hv => by
  rcases List.mem_or_eq_of_mem_set hv with hv | rfl
  · have := h v hv
    omega
  · have := h y (List.mem_of_getElem? hy)
    omega
theorem db_mono {d : List Int} {N M : Nat} (h : DB d N) (hm : N ≤ M) : DB d M := fun v hv => by
  have := h v hv
  omega
theorem addD_take {d l : List Int} {j : Nat} {k : Int} (h : l[j]? = some k) : addD d (l.take (j + 1)) = (addD d (l.take j)).set k.toNat (((addD d (l.take j))[k.toNat]?.getD 0) + 1) := by
  rw [take_snoc h]
  unfold addD
  rw [List.foldl_append]
  rfl
theorem fold_take {L : List (Int × List Int)} {d : List Int} {i : Nat} {x : Int × List Int} (h : L[i]? = some x) : (L.take (i + 1)).foldl (fun d x => addD d x.2) d = addD ((L.take i).foldl (fun d x => addD d x.2) d) x.2 := by
  rw [take_snoc h, List.foldl_append]
  rfl
theorem sumI_take {d : List Int} {i : Nat} {x : Int} (h : d[i]? = some x) : (d.take (i + 1)).sum = (d.take i).sum + x := by
  rw [take_snoc h, List.sum_append]
  simp
theorem sizes_take {L : List (Int × List Int)} {i : Nat} {x : Int × List Int} (h : L[i]? = some x) : sizes (L.take (i + 1)) = sizes (L.take i) + x.2.length := by
  unfold sizes
  rw [take_snoc h, List.map_append, List.sum_append]
  simp
theorem shared_take {x y : List Int} {m : Nat} {k : Int} (h : x[m]? = some k) : (x.take (m + 1)).countP (fun k => y.any fun z => decide (z = k)) = (x.take m).countP (fun k => y.any fun z => decide (z = k)) + (if (y.any fun z => decide (z = k)) = true then 1 else 0) := by
  rw [take_snoc h, List.countP_append, List.countP_singleton]
def depI (f : SFunc) (i : Nat) : List Int := ((findF f).take i).foldl (fun d x => addD d x.2) (List.replicate f.blocks.length 0)
theorem depI_zero (f : SFunc) : depI f 0 = List.replicate f.blocks.length 0 := rfl
theorem depI_end (f : SFunc) : depI f (findF f).length = depthsF f := by rw [depI, List.take_length]; rfl
theorem depI_step {f : SFunc} {i : Nat} {x : Int × List Int} (h : (findF f)[i]? = some x) : depI f (i + 1) = addD (depI f i) x.2 := fold_take h
theorem depI_len {f : SFunc} : ∀ (i : Nat), (depI f i).length = f.blocks.length := fun i => by
  unfold depI
  generalize (findF f).take i = L
  have key : ∀ (L : List (Int × List Int)) (d : List Int), (L.foldl (fun d x => addD d x.2) d).length = d.length := by
    intro L
    induction L with
    | nil => intro d; rfl
    | cons x L ih => intro d; rw [List.foldl_cons, ih, addD_len]
  rw [key, List.length_replicate]
theorem db_addD : ∀ (l d : List Int) (N : Nat), (∀ v ∈ l, ∃ n : Nat, v = n ∧ n < d.length) → DB d N → DB (addD d l) (N + l.length)
  | [], d, N, _, h => h
  | k :: l, d, N, hv, h => by
    obtain ⟨n, rfl, hn⟩ := hv k (List.mem_cons_self ..)
    obtain ⟨y, hy⟩ : ∃ y, d[n]? = some y := ⟨_, List.getElem?_eq_getElem hn⟩
    have h1 : addD d ((n : Int) :: l) = addD (d.set n (y + 1)) l := by
      show addD (d.set (n : Int).toNat ((d[(n : Int).toNat]?.getD 0) + 1)) l = _
      rw [Int.toNat_natCast, hy]
      rfl
    rw [h1, List.length_cons]
    have h2 := db_addD l (d.set n (y + 1)) (N + 1) (fun v hv2 => by rw [List.length_set]; exact hv v (List.mem_cons_of_mem _ hv2)) (db_set h hy)
    exact db_mono h2 (by omega)
theorem depI_db {f : SFunc} (hf : FuncOk f) : ∀ (i : Nat), i ≤ (findF f).length → DB (depI f i) (128 * i)
  | 0, _ => db_zero _
  | i + 1, hi => by
    obtain ⟨x, hx⟩ : ∃ x, (findF f)[i]? = some x := ⟨_, List.getElem?_eq_getElem (by omega)⟩
    obtain ⟨h1, h2⟩ := loop_small hf (find_ok hf x (List.mem_of_getElem? hx))
    rw [depI_step hx]
    exact db_mono (db_addD x.2 _ _ (fun v hv => by rw [depI_len]; exact h2 v hv) (depI_db hf i (by omega))) (by omega)
theorem depJ_db {f : SFunc} (hf : FuncOk f) {i j : Nat} {x : Int × List Int} (hx : (findF f)[i]? = some x) (hj : j ≤ x.2.length) : DB (addD (depI f i) (x.2.take j)) (16384 + 128) := by
  obtain ⟨h1, h2⟩ := loop_small hf (find_ok hf x (List.mem_of_getElem? hx))
  have h3 := (List.getElem?_eq_some_iff.1 hx).1
  have h4 := find_len f
  have h5 := hf.len
  have h6 := db_addD (x.2.take j) _ _ (fun v hv => by rw [depI_len]; exact h2 v (List.mem_of_mem_take hv)) (depI_db hf i (by omega))
  rw [List.length_take] at h6
  exact db_mono h6 (by omega)
theorem depths_db {f : SFunc} (hf : FuncOk f) : DB (depthsF f) 16384 := by
  have h4 := find_len f
  have h5 := hf.len
  rw [← depI_end]
  exact db_mono (depI_db hf _ (Nat.le_refl _)) (by omega)
theorem db_sum {d : List Int} {N : Nat} (h : DB d N) : ∀ (i : Nat), i ≤ d.length → 0 ≤ (d.take i).sum ∧ (d.take i).sum ≤ ((i * N : Nat) : Int)
  | 0, _ => by simp
  | i + 1, hi => by
    obtain ⟨y, hy⟩ : ∃ y, d[i]? = some y := ⟨_, List.getElem?_eq_getElem (by omega)⟩
    have h1 := db_sum h i (by omega)
    have h2 := h y (List.mem_of_getElem? hy)
    rw [sumI_take hy, Nat.succ_mul]
    omega
theorem sizes_le {f : SFunc} (hf : FuncOk f) : ∀ (i : Nat), i ≤ (findF f).length → 0 ≤ sizes ((findF f).take i) ∧ sizes ((findF f).take i) ≤ ((i * 128 : Nat) : Int)
  | 0, _ => by simp [sizes]
  | i + 1, hi => by
    obtain ⟨y, hy⟩ : ∃ y, (findF f)[i]? = some y := ⟨_, List.getElem?_eq_getElem (by omega)⟩
    have h1 := sizes_le hf i (by omega)
    have h2 := (loop_small hf (find_ok hf y (List.mem_of_getElem? hy))).1
    rw [sizes_take hy]
    omega
end Go.SM
