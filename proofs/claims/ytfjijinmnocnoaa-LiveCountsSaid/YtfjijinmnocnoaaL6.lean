/- What is live at each place of a block; the ranges of the values. -/
import Derived.Test.YtfjijinmnocnoaaL5
set_option linter.unusedVariables false
set_option linter.unusedSimpArgs false
namespace Go.SM
open Go.VL
def liveAt (b : SBlock) (s : List Bool) (p : Nat) : List Bool := backI (b.ins.drop p).reverse s
theorem backI_app : ∀ (a c : List SIns) (s : List Bool), backI (a ++ c) s = backI c (backI a s)
  | [], c, s => rfl
  | i :: a, c, s => by rw [List.cons_append, backI, backI, backI_app]
theorem liveAt_end (b : SBlock) (s : List Bool) : liveAt b s b.ins.length = s := by rw [liveAt, List.drop_length]; rfl
theorem liveAt_zero (b : SBlock) (s : List Bool) : liveAt b s 0 = backF b s := by rw [liveAt, List.drop_zero]; rfl
theorem liveAt_step {b : SBlock} {s : List Bool} {p : Nat} {i : SIns} (h : b.ins[p]? = some i) : liveAt b s p = setsF ((liveAt b s (p + 1)).set i.to.toNat false) i.args := by
  rw [liveAt, drop_cons h, List.reverse_cons, backI_app]
  rfl
theorem liveAt_len (b : SBlock) (s : List Bool) (p : Nat) : (liveAt b s p).length = s.length := back_len _ _
/-- What is done at all places from n down to 0. -/
def visitN {σ : Type} (b : SBlock) (s : List Bool) (g : σ → Nat → List Bool → σ) : Nat → σ → σ
  | 0, x => g x 0 (liveAt b s 0)
  | n + 1, x => visitN b s g n (g x (n + 1) (liveAt b s (n + 1)))
structure Rg where
  v : Nat
  k : Nat
  a : Nat
  b : Nat
abbrev Parts := List (List Rg)
def markR (k p v : Nat) (l : List Rg) : List Rg := match l.getLast? with
  | none => l ++ [⟨v, k, p, p⟩]
  | some r => if r.k = k then l.dropLast ++ [⟨r.v, r.k, p, r.b⟩] else l ++ [⟨v, k, p, p⟩]
def valR (k p : Nat) (ps : Parts) (v : Int) : Parts := ps.set v.toNat (markR k p v.toNat (ps[v.toNat]?.getD []))
def placeR (k : Nat) (ps : Parts) (p : Nat) (live : List Bool) : Parts := (listF 0 live).foldl (valR k p) ps
def behindAt (f : SFunc) (many k : Nat) : List Bool := setAt (liveF f.blocks many).behind k
def blockR (f : SFunc) (many : Nat) (ps : Parts) (k : Nat) : Parts := let b := f.blocks[k]?.getD default; visitN b (behindAt f many k) (placeR k) b.ins.length ps
def rangesP (f : SFunc) (many n : Nat) : Parts := (List.range n).foldl (blockR f many) (List.replicate many [])
/-! ### One value at one place -/
theorem fold_val_len (k p : Nat) : ∀ (l : List Int) (ps : Parts), (l.foldl (valR k p) ps).length = ps.length
  | [], ps => rfl
  | v :: l, ps => by rw [List.foldl_cons, fold_val_len, valR, List.length_set]
theorem fold_val_get (k p : Nat) {v : Nat} : ∀ (l : List Int) (ps : Parts), l.Nodup → (∀ x ∈ l, 0 ≤ x) → v < ps.length → (l.foldl (valR k p) ps)[v]?.getD [] = if (v : Int) ∈ l then markR k p v (ps[v]?.getD []) else ps[v]?.getD []
  | [], ps, _, _, _ => by simp
  | x :: l, ps, hn, h0, hv => by
    rw [List.foldl_cons]
    obtain ⟨hx, hn⟩ := List.nodup_cons.1 hn
    have hx0 := h0 x (List.mem_cons_self ..)
    rw [fold_val_get k p l _ hn (fun y hy => h0 y (List.mem_cons_of_mem _ hy)) (by rw [valR, List.length_set]; exact hv)]
    have hvx : (valR k p ps x)[v]?.getD [] = if (v : Int) = x then markR k p v (ps[v]?.getD []) else ps[v]?.getD [] := by
      rw [valR, List.getElem?_set]
      by_cases h : x.toNat = v
      · rw [if_pos h, if_pos (by omega), if_pos (by omega), h]
        rfl
      · rw [if_neg h, if_neg (by omega)]
    rw [hvx]
    by_cases h1 : (v : Int) = x
    · rw [if_pos h1, if_neg (by rw [h1]; exact hx), if_pos (by rw [h1]; exact List.mem_cons_self ..)]
    · rw [if_neg h1]
      by_cases h2 : (v : Int) ∈ l
      · rw [if_pos h2, if_pos (List.mem_cons_of_mem _ h2)]
      · rw [if_neg h2, if_neg (fun h => (List.mem_cons.1 h).elim h1 h2)]
theorem list_nodup : ∀ (l : List Bool) (w : Nat), (listF w l).Nodup
  | [], w => by simp [listF]
  | b :: l, w => by
    rw [listF]
    split
    · rw [List.nodup_cons]
      refine ⟨fun h => ?_, list_nodup l (w + 1)⟩
      have := (mem_list.1 h).1
      omega
    · exact list_nodup l (w + 1)
theorem place_get {k p v : Nat} {ps : Parts} {live : List Bool} (hv : v < ps.length) : (placeR k ps p live)[v]?.getD [] = if live[v]? = some true then markR k p v (ps[v]?.getD []) else ps[v]?.getD [] := by
  rw [placeR, fold_val_get k p _ ps (list_nodup live 0) (fun x hx => by obtain ⟨n, rfl⟩ := list_nat hx; omega) hv]
  have : (v : Int) ∈ listF 0 live ↔ live[v]? = some true := by rw [mem_list]; exact ⟨fun h => h.2, fun h => ⟨Nat.zero_le _, h⟩⟩
  by_cases h : live[v]? = some true
  · rw [if_pos h, if_pos (this.2 h)]
  · rw [if_neg h, if_neg (fun h2 => h (this.1 h2))]
theorem place_len (k p : Nat) (ps : Parts) (live : List Bool) : (placeR k ps p live).length = ps.length := fold_val_len k p _ ps
/-! ### What the parts of one value say -/
/-- vis: the places that were visited; lv: those of them where the value is live. -/
structure PartOk (v k : Nat) (vis lv : Nat → Nat → Prop) (l : List Rg) : Prop where
  ord : l.Pairwise fun r s => r.k < s.k
  top : ∀ r ∈ l, r.k ≤ k
  cov : ∀ j p, vis j p → lv j p → ∃ r ∈ l, r.k = j ∧ r.a ≤ p ∧ p ≤ r.b
  ran : ∀ r ∈ l, r.v = v ∧ r.a ≤ r.b ∧ vis r.k r.a ∧ lv r.k r.a ∧ vis r.k r.b ∧ lv r.k r.b
theorem PartOk.skip {v k p : Nat} {vis lv : Nat → Nat → Prop} {l : List Rg} (h : PartOk v k vis lv l) (hn : ¬ lv k p) : PartOk v k (fun j q => vis j q ∨ j = k ∧ q = p) lv l :=
  ⟨h.ord, h.top, fun j q hv hl => by
    rcases hv with hv | ⟨rfl, rfl⟩
    · exact h.cov j q hv hl
    · exact absurd hl hn, fun r hr => by
    obtain ⟨h1, h2, h3, h4, h5, h6⟩ := h.ran r hr
    exact ⟨h1, h2, .inl h3, h4, .inl h5, h6⟩⟩
theorem PartOk.mark {v k p : Nat} {vis lv : Nat → Nat → Prop} {l : List Rg} (h : PartOk v k vis lv l) (hy : lv k p) (hlow : ∀ q, vis k q → p ≤ q) : PartOk v k (fun j q => vis j q ∨ j = k ∧ q = p) lv (markR k p v l) := by
  have new : (∀ r ∈ l, r.k < k) → PartOk v k (fun j q => vis j q ∨ j = k ∧ q = p) lv (l ++ [⟨v, k, p, p⟩]) := fun hlt => by
    refine ⟨?_, ?_, ?_, ?_⟩
    · rw [List.pairwise_append]
      refine ⟨h.ord, by simp, fun r hr s hs => ?_⟩
      rw [List.mem_singleton.1 hs]
      exact hlt r hr
    · intro r hr
      rcases List.mem_append.1 hr with hr | hr
      · exact h.top r hr
      · rw [List.mem_singleton.1 hr]; exact Nat.le_refl _
    · intro j q hv hl
      rcases hv with hv | ⟨rfl, rfl⟩
      · obtain ⟨r, hr, h1⟩ := h.cov j q hv hl
        exact ⟨r, List.mem_append_left _ hr, h1⟩
      · exact ⟨_, List.mem_append_right _ (List.mem_singleton.2 rfl), rfl, Nat.le_refl _, Nat.le_refl _⟩
    · intro r hr
      rcases List.mem_append.1 hr with hr | hr
      · obtain ⟨h1, h2, h3, h4, h5, h6⟩ := h.ran r hr
        exact ⟨h1, h2, .inl h3, h4, .inl h5, h6⟩
      · rw [List.mem_singleton.1 hr]
        exact ⟨rfl, Nat.le_refl _, .inr ⟨rfl, rfl⟩, hy, .inr ⟨rfl, rfl⟩, hy⟩
  unfold markR
  cases hg : l.getLast? with
  | none =>
    rw [List.getLast?_eq_none_iff] at hg
    subst hg
    exact new (fun r hr => by cases hr)
  | some r =>
    dsimp only
    obtain ⟨l0, rfl⟩ : ∃ l0, l = l0 ++ [r] := List.getLast?_eq_some_iff.1 hg
    have hrm : r ∈ l0 ++ [r] := List.mem_append_right _ (List.mem_singleton.2 rfl)
    have hord := List.pairwise_append.1 h.ord
    have hlt0 : ∀ s ∈ l0, s.k < r.k := fun s hs => hord.2.2 s hs r (List.mem_singleton.2 rfl)
    by_cases hk : r.k = k
    · rw [if_pos hk, List.dropLast_concat]
      obtain ⟨g1, g2, g3, g4, g5, g6⟩ := h.ran r hrm
      have hpa : p ≤ r.a := hlow _ (by rw [← hk]; exact g3)
      refine ⟨?_, ?_, ?_, ?_⟩
      · rw [List.pairwise_append]
        refine ⟨hord.1, by simp, fun s hs t ht => ?_⟩
        rw [List.mem_singleton.1 ht]
        exact hlt0 s hs
      · intro s hs
        rcases List.mem_append.1 hs with hs | hs
        · exact h.top s (List.mem_append_left _ hs)
        · rw [List.mem_singleton.1 hs]; exact Nat.le_of_eq hk
      · intro j q hv hl
        rcases hv with hv | ⟨rfl, rfl⟩
        · obtain ⟨s, hs, h1, h2, h3⟩ := h.cov j q hv hl
          rcases List.mem_append.1 hs with hs | hs
          · exact ⟨s, List.mem_append_left _ hs, h1, h2, h3⟩
          · rw [List.mem_singleton.1 hs] at h1 h2 h3
            exact ⟨_, List.mem_append_right _ (List.mem_singleton.2 rfl), h1, Nat.le_trans hpa h2, h3⟩
        · exact ⟨_, List.mem_append_right _ (List.mem_singleton.2 rfl), hk, Nat.le_refl _, Nat.le_trans hpa g2⟩
      · intro s hs
        rcases List.mem_append.1 hs with hs | hs
        · obtain ⟨h1, h2, h3, h4, h5, h6⟩ := h.ran s (List.mem_append_left _ hs)
          exact ⟨h1, h2, .inl h3, h4, .inl h5, h6⟩
        · rw [List.mem_singleton.1 hs]
          exact ⟨g1, Nat.le_trans hpa g2, .inr ⟨hk, rfl⟩, by show lv r.k p; rw [hk]; exact hy, .inl g5, g6⟩
    · rw [if_neg hk]
      have hrk := h.top r hrm
      refine new fun s hs => ?_
      rcases List.mem_append.1 hs with hs | hs
      · have := hlt0 s hs; omega
      · rw [List.mem_singleton.1 hs]; omega
theorem PartOk.next {v k : Nat} {vis lv : Nat → Nat → Prop} {l : List Rg} (h : PartOk v k vis lv l) {k' : Nat} (hk : k ≤ k') : PartOk v k' vis lv l := ⟨h.ord, fun r hr => Nat.le_trans (h.top r hr) hk, h.cov, h.ran⟩
theorem PartOk.len {v k : Nat} {vis lv : Nat → Nat → Prop} {l : List Rg} (h : PartOk v k vis lv l) : l.length ≤ k + 1 := by
  have key : ∀ (l : List Rg) (lo : Nat), l.Pairwise (fun r s => r.k < s.k) → (∀ r ∈ l, lo ≤ r.k ∧ r.k ≤ k) → l.length ≤ k + 1 - lo := by
    intro l
    induction l with
    | nil => intro lo _ _; exact Nat.zero_le _
    | cons r l ih =>
      intro lo ho ht
      obtain ⟨h1, h2⟩ := List.pairwise_cons.1 ho
      obtain ⟨g1, g2⟩ := ht r (List.mem_cons_self ..)
      have := ih (r.k + 1) h2 (fun s hs => ⟨h1 s hs, (ht s (List.mem_cons_of_mem _ hs)).2⟩)
      rw [List.length_cons]
      omega
  exact key l 0 h.ord fun r hr => ⟨Nat.zero_le _, h.top r hr⟩
/-! ### All values, all places -/
def lvAt (f : SFunc) (many v j p : Nat) : Prop := (liveAt (f.blocks[j]?.getD default) (behindAt f many j) p)[v]? = some true
/-- All places of the blocks below k, and those of block k from n on. -/
def visAt (f : SFunc) (k n j p : Nat) : Prop := j < k ∧ p ≤ (f.blocks[j]?.getD default).ins.length ∨ j = k ∧ n ≤ p ∧ p ≤ (f.blocks[k]?.getD default).ins.length
def PartsOk (f : SFunc) (many k n : Nat) (ps : Parts) : Prop := ps.length = many ∧ ∀ v, v < many → PartOk v k (visAt f k n) (lvAt f many v) (ps[v]?.getD [])
theorem PartOk.congr {v k : Nat} {vis vis' lv : Nat → Nat → Prop} {l : List Rg} (h : PartOk v k vis lv l) (he : ∀ j p, vis' j p ↔ vis j p) : PartOk v k vis' lv l := by
  have : vis' = vis := funext fun j => funext fun p => propext (he j p)
  rw [this]
  exact h
theorem parts_place {f : SFunc} {many k n : Nat} {ps : Parts} (h : PartsOk f many k (n + 1) ps) (hn : n ≤ (f.blocks[k]?.getD default).ins.length) :
    PartsOk f many k n (placeR k ps n (liveAt (f.blocks[k]?.getD default) (behindAt f many k) n)) := by
  refine ⟨by rw [place_len]; exact h.1, fun v hv => ?_⟩
  have hp := h.2 v hv
  have he : ∀ j p, visAt f k n j p ↔ (visAt f k (n + 1) j p ∨ j = k ∧ p = n) := fun j p => by
    unfold visAt
    constructor
    · rintro (h1 | ⟨rfl, h1, h2⟩)
      · exact .inl (.inl h1)
      · by_cases hq : p = n
        · exact .inr ⟨rfl, hq⟩
        · exact .inl (.inr ⟨rfl, by omega, h2⟩)
    · rintro ((h1 | ⟨rfl, h1, h2⟩) | ⟨rfl, rfl⟩)
      · exact .inl h1
      · exact .inr ⟨rfl, by omega, h2⟩
      · exact .inr ⟨rfl, Nat.le_refl _, hn⟩
  refine PartOk.congr ?_ he
  rw [place_get (by rw [h.1]; exact hv)]
  by_cases hl : lvAt f many v k n
  · rw [if_pos (show (liveAt (f.blocks[k]?.getD default) (behindAt f many k) n)[v]? = some true from hl)]
    refine hp.mark hl fun q hq => ?_
    rcases hq with ⟨h1, _⟩ | ⟨_, h1, _⟩ <;> omega
  · rw [if_neg (show ¬ (liveAt (f.blocks[k]?.getD default) (behindAt f many k) n)[v]? = some true from hl)]
    exact hp.skip hl
theorem parts_visit {f : SFunc} {many k : Nat} : ∀ {n : Nat} {ps : Parts}, PartsOk f many k (n + 1) ps → n ≤ (f.blocks[k]?.getD default).ins.length → PartsOk f many k 0 (visitN (f.blocks[k]?.getD default) (behindAt f many k) (placeR k) n ps)
  | 0, ps, h, hn => parts_place h hn
  | n + 1, ps, h, hn => parts_visit (n := n) (parts_place h hn) (by omega)
theorem parts_next {f : SFunc} {many k : Nat} {ps : Parts} (h : PartsOk f many k 0 ps) : PartsOk f many (k + 1) ((f.blocks[k + 1]?.getD default).ins.length + 1) ps := by
  refine ⟨h.1, fun v hv => ((h.2 v hv).next (Nat.le_succ _)).congr fun j p => ?_⟩
  unfold visAt
  constructor
  · rintro (⟨h1, h2⟩ | ⟨rfl, h1, h2⟩)
    · by_cases hj : j = k
      · subst hj; exact .inr ⟨rfl, Nat.zero_le _, h2⟩
      · exact .inl ⟨by omega, h2⟩
    · omega
  · rintro (⟨h1, h2⟩ | ⟨rfl, _, h2⟩)
    · exact .inl ⟨by omega, h2⟩
    · exact .inl ⟨by omega, h2⟩
theorem parts_start (f : SFunc) (many : Nat) : PartsOk f many 0 ((f.blocks[0]?.getD default).ins.length + 1) (List.replicate many []) := by
  refine ⟨List.length_replicate, fun v hv => ?_⟩
  have : (List.replicate many ([] : List Rg))[v]?.getD [] = [] := by rw [List.getElem?_replicate]; split <;> rfl
  rw [this]
  refine ⟨.nil, (fun r hr => by cases hr), fun j p hvis _ => ?_, (fun r hr => by cases hr)⟩
  rcases hvis with ⟨h1, _⟩ | ⟨rfl, h1, h2⟩ <;> omega
theorem parts_ok (f : SFunc) (many : Nat) : ∀ n, PartsOk f many n ((f.blocks[n]?.getD default).ins.length + 1) (rangesP f many n)
  | 0 => parts_start f many
  | n + 1 => by
    rw [rangesP, List.range_succ, List.foldl_append]
    exact parts_next (parts_visit (parts_ok f many n) (Nat.le_refl _))
end Go.SM
