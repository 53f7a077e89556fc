import Derived.Test.YtpkbgamoboojaaaGreatSY
set_option linter.all false
open List renaming mem_cons → Ya, mem_cons_of_mem → Yb, not_mem_nil → Yc, mem_cons_self → Yd, mem_of_getElem? → Ye, range → Yf, countP_cons → Yg, cons_append → Yh, getElem?_eq_getElem → Yi, map_append → Yj, mem_or_eq_of_mem_set → Yk, exists_cons_of_ne_nil → Yl
open Nat renaming le_refl → Ym
open Int renaming le_refl → Yn
section
namespace Go.SM
open Go.VL
theorem bit_eq (w : BitVec 64) (j : Nat) : ((w >>> j) &&& 1#64 == 1#64) = w.getLsbD j := by
 rw [BitVec.and_one_eq_setWidth_ofBool_getLsbD, BitVec.getLsbD_ushiftRight, Nat.add_zero]
 cases w.getLsbD j <;> rfl
theorem has_eq (s : BSet) (k : Nat) : s.has k = (s.word k).getLsbD (k % 64) := bit_eq _ _
theorem two_cases {k : Nat} (h : k < 128) : k / 64 = 0 /\ k % 64 = k /\ k < 64 \/ k / 64 = 1 /\ k % 64 = k - 64 /\ 64 <= k := by omega
theorem one_bit (i j : Nat) (hj : j < 64) (hi : i < 64) : (1#64 <<< i).getLsbD j = decide (j = i) := by
 rw [BitVec.getLsbD_shiftLeft]
 by_cases h : j = i
 .subst h
  simp [hj]
 by_cases h2 : j < i
 .simp [h2, h]
 have : j - i ≠ 0 := by omega
 simp [h, BitVec.getLsbD_one, this]
theorem has_with (s : BSet) {k j : Nat} (hk : k < 128) (hj : j < 128) : (s.with k).has j = (s.has j || decide (j = k)) := by
 rw [has_eq, has_eq]
 unfold BSet.with BSet.word
 rcases two_cases hk with ⟨a1, a2, a3⟩ | ⟨a1, a2, a3⟩ <;> rcases two_cases hj with ⟨b1, b2, b3⟩ | ⟨b1, b2, b3⟩
 .rw [if_pos a1, if_pos b1, if_pos b1, BitVec.getLsbD_or, one_bit _ _ (by omega) (by omega), a2, b2]
 .rw [if_pos a1, if_neg (by omega), if_neg (by omega), decide_eq_false (by omega : ¬ j = k), Bool.or_false]
 .rw [if_neg (by omega : ¬ k / 64 = 0), if_pos b1, if_pos b1, decide_eq_false (by omega : ¬ j = k), Bool.or_false]
 rw [if_neg (by omega : ¬ k / 64 = 0), if_neg (by omega), if_neg (by omega), BitVec.getLsbD_or, one_bit _ _ (by omega) (by omega), a2, b2]
 congr 1
 rw [Bool.eq_iff_iff]
 simp
 omega
theorem has_both (s t : BSet) (j : Nat) : (s.both t).has j = (s.has j && t.has j) := by
 rw [has_eq, has_eq, has_eq]
 unfold BSet.both BSet.word
 split <;> rw [BitVec.getLsbD_and]
theorem has_ext {s t : BSet} (h : ∀ j, j < 128 -> s.has j = t.has j) : s = t := by
 apply Prod.ext
 .apply BitVec.eq_of_getLsbD_eq
  intro i hi
  have := h i (by omega)
  rw [has_eq, has_eq] at this
  unfold BSet.word at this
  rwa [if_pos (by omega), if_pos (by omega), Nat.mod_eq_of_lt hi] at this
 apply BitVec.eq_of_getLsbD_eq
 intro i hi
 have := h (64 + i) (by omega)
 rw [has_eq, has_eq] at this
 unfold BSet.word at this
 rwa [if_neg (by omega), if_neg (by omega), show (64 + i) % 64 = i by omega] at this
theorem has_no (j : Nat) : noSet.has j = false := by
 rw [has_eq]
 unfold BSet.word noSet
 split <;> simp
theorem has_all : ∀ (n : Nat), n <= 128 -> ∀ j, j < 128 -> (allSet n).has j = decide (j < n)
 | 0, _, j, _ => by rw [allSet, has_no]; simp
 | n + 1, h, j, hj => by
  rw [allSet, has_with _ (by omega) hj, has_all n (by omega) j hj, Bool.eq_iff_iff]
  simp
  omega
theorem countP_le {α : Type} {p q : α -> Bool} : ∀ {l : List α}, (∀ x ∈ l, p x = true -> q x = true) -> l.countP p <= l.countP q := λ h => List.countP_mono_left h
theorem countP_lt {α : Type} {p q : α -> Bool} : ∀ {l : List α}, (∀ x ∈ l, p x = true -> q x = true) -> (∃ x ∈ l, q x = true /\ p x = false) -> l.countP p < l.countP q
 | [], _, h => by obtain ⟨x, hx, _⟩ := h; cases hx
 | y :: l, h, ⟨x, hx, h1, h2⟩ => by
  have hl := countP_le (p := p) (q := q) (l := l) λ z hz => h z (Yb _ hz)
  rcases Ya.1 hx with rfl | hx
  .rw [Yg, Yg, h1, h2]
   simp
   omega
  have := countP_lt (p := p) (q := q) (l := l) (λ z hz => h z (Yb _ hz)) ⟨x, hx, h1, h2⟩
  have hy := h y (Yd ..)
  rw [Yg, Yg]
  cases hp : p y
  .simp
   split <;> omega
  rw [hy hp]
  simp
  exact this
def cnt (s : BSet) : Nat := (Yf 128).countP s.has
def unseen (n : Nat) (s : BSet) : Nat := (Yf n).countP λ k => !s.has k
def weight (n : Nat) (d : Dom) : Nat := (d.over.map cnt).sum + unseen n d.seen
theorem sum_set {l : List Nat} {k x y : Nat} (h : l[k]? = some x) : (l.set k y).sum + x = l.sum + y := by
 induction l generalizing k with
 | nil => simp at h
 | cons a l ih =>
  cases k with
  | zero => simp at h; subst h; simp; omega
  | succ k => simp at h; have := ih h; simp; omega
structure DomOk (n : Nat) (d : Dom) : Prop where
 len : d.over.length = n
 le : n <= 128
 self : ∀ k, k < n -> (d.at k).has k = true
theorem at_set {d : Dom} {t k : Nat} {s : BSet} {u : BSet} {a : Bool} (h : t < d.over.length) : (Dom.mk (d.over.set t s) u a).at k = if t = k then s else d.at k := by
 unfold Dom.at
 rw [List.getElem?_set]
 split
 .rename_i e; subst e; simp [h]
 rfl
def StepW (n : Nat) (d d' : Dom) : Prop := DomOk n d' /\ (d' = d \/ d'.again = true /\ weight n d' < weight n d)
theorem StepW.trans {n : Nat} {a b c : Dom} (h : StepW n a b) (k : StepW n b c) : StepW n a c := by
 refine ⟨k.1, ?_⟩
 rcases h.2 with rfl | ⟨h1, h2⟩
 .exact k.2
 rcases k.2 with rfl | ⟨k1, k2⟩
 .exact .inr ⟨h1, h2⟩
 exact .inr ⟨k1, by omega⟩
theorem domEdge_w {n k : Nat} {d : Dom} {e : SEdge} (ok : DomOk n d) (hk : k < n) (h1 : 1 <= e.block) (h2 : e.block < n) : StepW n d (domEdge k d e) := by
 have hn := ok.le
 have ht : e.block.toNat < n := by omega
 unfold domEdge
 dsimp only
 split
 .rename_i hc
  have hself := ok.self _ ht
  have hsub : ∀ j, j < 128 -> (((d.at e.block.toNat).both (d.at k)).with e.block.toNat).has j = true -> (d.at e.block.toNat).has j = true := λ j hj hh => by
   rw [has_with _ (by omega) hj, has_both, Bool.or_eq_true, Bool.and_eq_true, decide_eq_true_eq] at hh
   rcases hh with hh | rfl
   .exact hh.1
   exact hself
  have hget : (d.over.map cnt)[e.block.toNat]? = some (cnt (d.at e.block.toNat)) := by
   unfold Dom.at
   rw [List.getElem?_map, Yi (by rw [ok.len]; exact ht)]
   rfl
  have hle : cnt (((d.at e.block.toNat).both (d.at k)).with e.block.toNat) <= cnt (d.at e.block.toNat) := countP_le λ j hj => hsub j (by simpa using hj)
  have hsum := sum_set (y := cnt (((d.at e.block.toNat).both (d.at k)).with e.block.toNat)) hget
  have hseen : unseen n (d.seen.with e.block.toNat) <= unseen n d.seen := countP_le λ j hj => by
   have hj' : j < n := by simpa using hj
   rw [has_with _ (by omega) (by omega)]
   cases d.seen.has j <;> simp
  refine ⟨⟨by simp [ok.len], hn, λ j hj => ?_⟩, .inr ⟨rfl, ?_⟩⟩
  .rw [at_set (by rw [ok.len]; exact ht)]
   split
   .rename_i e'; subst e'; rw [has_with _ (by omega) (by omega)]; simp
   exact ok.self j hj
  unfold weight
  dsimp only
  rw [List.map_set]
  rcases hc with hc | hc
  .have : cnt (((d.at e.block.toNat).both (d.at k)).with e.block.toNat) < cnt (d.at e.block.toNat) := by
    refine countP_lt (λ j hj => hsub j (by simpa using hj)) ?_
    apply Classical.byContradiction
    intro hno
    refine hc (has_ext λ j hj => ?_)
    rw [Bool.eq_iff_iff]
    refine ⟨hsub j hj, λ hh => ?_⟩
    apply Classical.byContradiction
    intro hf
    exact hno ⟨j, by simpa using hj, hh, by simpa using hf⟩
   omega
  have : unseen n (d.seen.with e.block.toNat) < unseen n d.seen := by
   refine countP_lt (λ j hj => ?_) ⟨e.block.toNat, by simpa using ht, by rw [hc]; rfl, by rw [has_with _ (by omega) (by omega)]; simp⟩
   have hj' : j < n := by simpa using hj
   rw [has_with _ (by omega) (by omega)]
   cases d.seen.has j <;> simp
  omega
 exact ⟨ok, .inl rfl⟩
theorem edges_w {n k : Nat} (hk : k < n) : ∀ {l : List SEdge} {d : Dom}, DomOk n d -> (∀ e ∈ l, 1 <= e.block /\ e.block < n) -> StepW n d (l.foldl (domEdge k) d)
 | [], d, ok, _ => ⟨ok, .inl rfl⟩
 | e :: l, d, ok, h => by
  have h1 := domEdge_w ok hk (h e (Yd ..)).1 (h e (Yd ..)).2
  exact h1.trans (edges_w hk h1.1 λ x hx => h x (Yb _ hx))
theorem block_w {n k : Nat} {b : SBlock} {d : Dom} (hk : k < n) (ok : DomOk n d) (h : ∀ e ∈ b.term.to, 1 <= e.block /\ e.block < n) : StepW n d (domBlock d k b) := by
 unfold domBlock
 split
 .exact edges_w hk ok h
 exact ⟨ok, .inl rfl⟩
theorem pass_w {n : Nat} : ∀ {l : List SBlock} {k : Nat} {d : Dom}, k + l.length = n -> DomOk n d -> (∀ b ∈ l, ∀ e ∈ b.term.to, 1 <= e.block /\ e.block < n) -> StepW n d (domPass k l d)
 | [], k, d, _, ok, _ => ⟨ok, .inl rfl⟩
 | b :: l, k, d, hl, ok, h => by
  have hl' : k + (l.length + 1) = n := hl
  have h1 := block_w (k := k) (by omega) ok (h b (Yd ..))
  exact h1.trans (pass_w (by omega) h1.1 λ x hx => h x (Yb _ hx))
theorem cnt_le (s : BSet) : cnt s <= 128 := by
 have := List.countP_le_length (p := s.has) (l := Yf 128)
 rw [List.length_range] at this
 exact this
theorem sum_le : ∀ (l : List BSet), (l.map cnt).sum <= 128 * l.length
 | [] => by simp
 | s :: l => by
  have := sum_le l
  have := cnt_le s
  simp
  omega
theorem start_ok {n : Nat} (h0 : 0 < n) (hn : n <= 128) : DomOk n (domStart n) := by
 refine ⟨by simp [domStart], hn, λ k hk => ?_⟩
 unfold domStart Dom.at
 rw [List.getElem?_set]
 split
 .rename_i e; subst e
  simp [h0]
  rw [has_with _ (by omega) (by omega)]
  simp
 rw [List.getElem?_replicate, if_pos hk]
 rw [Option.getD_some, has_all n hn k (by omega), decide_eq_true hk]
theorem start_w (n : Nat) : weight n (domStart n) <= 129 * n := by
 unfold weight
 have h1 := sum_le (domStart n).over
 have h2 := List.countP_le_length (p := λ k => !(domStart n).seen.has k) (l := Yf n)
 have h3 : (domStart n).over.length = n := by simp [domStart]
 rw [h3] at h1
 rw [List.length_range] at h2
 unfold unseen
 omega
theorem round {bs : List SBlock} {n : Nat} {d : Dom} (ok : DomOk bs.length d) (h : ∀ b ∈ bs, ∀ e ∈ b.term.to, 1 <= e.block /\ e.block < bs.length) (hw : weight bs.length d + (if d.again then 1 else 0) <= n) (ha : d.again = true) :
  ∃ n', n = n' + 1 /\ domIter bs n d = domIter bs n' (domPass 0 bs { d with again := false }) /\ DomOk bs.length (domPass 0 bs { d with again := false }) /\
   weight bs.length (domPass 0 bs { d with again := false }) + (if (domPass 0 bs { d with again := false }).again then 1 else 0) <= n' := by
 rw [ha, if_pos rfl] at hw
 obtain ⟨n', rfl⟩ : ∃ n', n = n' + 1 := ⟨n - 1, by omega⟩
 have hp := pass_w (l := bs) (k := 0) (d := { d with again := false }) (by omega) ⟨ok.len, ok.le, ok.self⟩ h
 refine ⟨n', rfl, by rw [domIter, if_pos ha], hp.1, ?_⟩
 have hwe : weight bs.length { d with again := false } = weight bs.length d := rfl
 rcases hp.2 with e | ⟨h1, h2⟩
 .rw [e]
  simp only [Bool.false_eq_true, if_false]
  omega
 rw [h1, if_pos rfl]
 omega
def DefsIn (n : Int) (d : Defs) : Prop := ∀ v p, dget d v = some p -> 0 <= p.1 /\ p.1 < n
theorem dget_snoc (v x : Int) (p : Int × Int) : ∀ d : Defs, dget (d ++ [(v, p)]) x = (dget d x).orElse λ _ => if v = x then some p else none
 | [] => by simp [dget]
 | (k, q) :: d => by
  rw [Yh, dget, dget, dget_snoc v x p d]
  split <;> simp
theorem DefsIn.nil (n : Int) : DefsIn n [] := λ v p h => by cases h
theorem defineF_in {n : Int} {v : Int} {p : Int × Int} {d : Defs} (h : DefsIn n d) (h0 : 0 <= p.1) (h1 : p.1 < n) : DefsIn n (defineF v p d).2 := by
 unfold defineF
 split
 .exact h
 split
 .exact h
 intro x q hx
 dsimp only at hx
 rw [dget_snoc] at hx
 cases hd : dget d x with
 | some y => rw [hd] at hx; simp at hx; subst hx; exact h _ _ hd
 | none =>
  rw [hd] at hx
  simp at hx
  obtain ⟨_, rfl⟩ := hx
  exact ⟨h0, h1⟩
theorem paramsF_in {n k : Int} (h0 : 0 <= k) (h1 : k < n) : ∀ (l : List Int) {d : Defs}, DefsIn n d -> DefsIn n (paramsF k l d).2
 | [], d, h => h
 | p :: l, d, h => by
  rw [paramsF]
  split
  .exact defineF_in h h0 h1
  exact paramsF_in h0 h1 l (defineF_in h h0 h1)
theorem inssF_in {n k : Int} (h0 : 0 <= k) (h1 : k < n) : ∀ (l : List SIns) (j : Int) {d : Defs}, DefsIn n d -> DefsIn n (inssF k j l d).2
 | [], j, d, h => h
 | i :: l, j, d, h => by
  rw [inssF]
  split
  .exact defineF_in h h0 h1
  split
  .exact defineF_in h h0 h1
  exact inssF_in h0 h1 l _ (defineF_in h h0 h1)
theorem blockF_in {n k : Int} (h0 : 0 <= k) (h1 : k < n) (bs : List SBlock) (b : SBlock) {d : Defs} (h : DefsIn n d) : DefsIn n (blockF bs k b d).2 := by
 unfold blockF
 split
 .exact paramsF_in h0 h1 _ h
 split
 .exact inssF_in h0 h1 _ _ (paramsF_in h0 h1 _ h)
 exact inssF_in h0 h1 _ _ (paramsF_in h0 h1 _ h)
theorem blocksF_in {n : Int} (bs : List SBlock) : ∀ (l : List SBlock) (k : Int) {d : Defs}, 0 <= k -> k + l.length <= n -> DefsIn n d -> DefsIn n (blocksF bs k l d).2
 | [], k, d, _, _, h => h
 | b :: l, k, d, h0, h1, h => by
  rw [List.length_cons] at h1
  rw [blocksF]
  split
  .exact blockF_in h0 (by omega) bs b h
  exact blocksF_in bs l (k + 1) (by omega) (by omega) (blockF_in h0 (by omega) bs b h)
theorem iter_len {bs : List SBlock} (h : ∀ b ∈ bs, ∀ e ∈ b.term.to, 1 <= e.block /\ e.block < bs.length) : ∀ (n : Nat) {d : Dom}, DomOk bs.length d -> DomOk bs.length (domIter bs n d)
 | 0, d, ok => ok
 | n + 1, d, ok => by
  rw [domIter]
  split
  .exact iter_len h n (pass_w (l := bs) (k := 0) (d := { d with again := false }) (by omega) ⟨ok.len, ok.le, ok.self⟩ h).1
  exact ok
theorem dom_len {bs : List SBlock} (h0 : 0 < bs.length) (hn : bs.length <= 128) (h : ∀ b ∈ bs, ∀ e ∈ b.term.to, 1 <= e.block /\ e.block < bs.length) : (domF bs).over.length = bs.length := (iter_len h _ (start_ok h0 hn)).len
def blockOk (bs : List SBlock) (b : SBlock) : Prop := (∀ i ∈ b.ins, formF i = 0) /\ endF bs b.term = 0
theorem inssF_forms {k : Int} : ∀ (l : List SIns) (j : Int) (d : Defs), (inssF k j l d).1 = 0 -> ∀ i ∈ l, formF i = 0
 | [], _, _, _, i, hi => by cases hi
 | x :: l, j, d, h, i, hi => by
  rw [inssF] at h
  split at h
  .rename_i hc; exact absurd h hc
  split at h
  .rename_i hc; exact absurd h hc
  rename_i hc
  rcases Ya.1 hi with rfl | hi
  .exact Classical.not_not.1 hc
  exact inssF_forms l _ _ h i hi
theorem blockF_ok {bs : List SBlock} {k : Int} {b : SBlock} {d : Defs} (h : (blockF bs k b d).1 = 0) : blockOk bs b := by
 unfold blockF at h
 split at h
 .rename_i hc; exact absurd h hc
 split at h
 .rename_i hc; exact absurd h hc
 rename_i hc
 exact ⟨inssF_forms _ _ _ (Classical.not_not.1 hc), h⟩
theorem blocksF_ok {bs : List SBlock} : ∀ (l : List SBlock) (k : Int) (d : Defs), (blocksF bs k l d).1 = 0 -> ∀ b ∈ l, blockOk bs b
 | [], _, _, _, b, hb => by cases hb
 | x :: l, k, d, h, b, hb => by
  rw [blocksF] at h
  split at h
  .rename_i hc; exact absurd h hc
  rename_i hc
  rcases Ya.1 hb with rfl | hb
  .exact blockF_ok (Classical.not_not.1 hc)
  exact blocksF_ok l _ _ h b hb
theorem edgesF_ok {bs : List SBlock} : ∀ {l : List SEdge}, edgesF bs l = 0 -> ∀ e ∈ l, 1 <= e.block /\ e.block < bs.length /\ e.args.length = (paramsOf bs e.block).length
 | [], _, e, he => by cases he
 | x :: l, h, e, he => by
  rw [edgesF] at h
  split at h
  .cases h
  rename_i h1
  split at h
  .cases h
  rename_i h2
  rcases Ya.1 he with rfl | he
  .have h1 : wi e.block 1 (bs.length - 1) = true := by simpa using h1
   have := wi_iff.1 h1
   exact ⟨this.1, by omega, Classical.not_not.1 h2⟩
  exact edgesF_ok h e he
structure EndOk (bs : List SBlock) (t : STerm) : Prop where
 shape : shapeF t = true
 many : (t.cases.length : Int) <= 256
 trap : t.kind = 4 -> 1 <= t.n /\ t.n <= 6
 cases : casesF [] t.cases = 0
 edges : ∀ e ∈ t.to, 1 <= e.block /\ e.block < bs.length /\ e.args.length = (paramsOf bs e.block).length
theorem endF_ok {bs : List SBlock} {t : STerm} (h : endF bs t = 0) : EndOk bs t := by
 unfold endF at h
 split at h
 .cases h
 rename_i h1
 split at h
 .cases h
 rename_i h2
 split at h
 .cases h
 rename_i h3
 split at h
 .rename_i hc; exact absurd h hc
 rename_i hc
 refine ⟨by simpa using h1, by omega, λ hk => ?_, Classical.not_not.1 hc, edgesF_ok h⟩
 have : wi t.n 1 6 = true := by
  cases hw : wi t.n 1 6 with
  | true => rfl
  | false => exact absurd ⟨hk, hw⟩ h3
 exact wi_iff.1 this
theorem blocks_edges {bs : List SBlock} {k : Int} {d : Defs} (h : (blocksF bs k bs d).1 = 0) : ∀ b ∈ bs, ∀ e ∈ b.term.to, 1 <= e.block /\ e.block < bs.length := λ b hb e he =>
 have := (endF_ok (blocksF_ok bs k d h b hb).2).edges e he
 ⟨this.1, this.2.1⟩
theorem form_n {i : SIns} (h : formF i = 0) (ho : i.op = 13 \/ i.op = 9) : 0 <= i.n := by
 unfold formF at h
 split at h
 .cases h
 split at h
 .cases h
 split at h
 .rename_i hn
  unfold numberF at hn
  have e : elemJ i.op [9, 13] = true := by rcases ho with h | h <;> simp [elemJ, h]
  rw [if_neg (by omega), if_neg (by omega), if_neg (by omega), if_pos e] at hn
  exact (wi_iff.1 hn).1
 cases h
structure FuncOk (f : SFunc) : Prop where
 pos : 0 < f.blocks.length
 len : f.blocks.length <= 128
 ins : countIns 0 f.blocks <= 1024
 params : (paramsOf f.blocks 0).length <= 6
 name : -1 <= f.name /\ f.name <= 1048575
 blocks : (blocksF f.blocks 0 f.blocks []).1 = 0
 uses : usesF (blocksF f.blocks 0 f.blocks []).2 (domF f.blocks) 0 f.blocks = 0
theorem func_ok {f : SFunc} (h : funcF f = 0) : FuncOk f := by
 unfold funcF at h
 split at h
 .cases h
 rename_i h1
 split at h
 .cases h
 rename_i h2
 split at h
 .cases h
 rename_i h3
 split at h
 .rename_i hc; exact absurd h hc
 rename_i hc
 have h3 : wi f.name (-1) 1048575 = true := by simpa using h3
 exact ⟨by omega, by omega, by omega, by omega, wi_iff.1 h3, Classical.not_not.1 hc, h⟩
theorem FuncOk.block {f : SFunc} (h : FuncOk f) {b : SBlock} (hb : b ∈ f.blocks) : blockOk f.blocks b := blocksF_ok _ _ _ h.blocks b hb
theorem FuncOk.ne {f : SFunc} (h : FuncOk f) : f.blocks ≠ [] := λ e => by have := h.pos; rw [e] at this; cases this
theorem firstE_ok {α : Type} {f : α -> Int} : ∀ {l : List α}, firstE f l = 0 -> ∀ x ∈ l, f x = 0
 | [], _, x, hx => by cases hx
 | y :: l, h, x, hx => by
  rw [firstE] at h
  split at h
  .rename_i hc; exact absurd h hc
  rename_i hc
  rcases Ya.1 hx with rfl | hx
  .exact Classical.not_not.1 hc
  exact firstE_ok h x hx
def okArr (nh : Nat) (kind : Int) : Option Nat -> Bool
 | none => decide (kind ≠ 3)
 | some j => decide (j < nh)
mutual
def okV (nf : Nat) (nh : Nat) : Val -> Bool
 | .mk k n l a => okArr nh k a && (decide (k ≠ 2) || wi n 0 (nf - 1)) && (decide (l.length <= 4096) && okVs nf nh l)
def okVs (nf : Nat) (nh : Nat) : List Val -> Bool
 | [] => true
 | v :: l => okV nf nh v && okVs nf nh l
end
theorem okVs_all (nf nh : Nat) : ∀ l, okVs nf nh l = l.all (okV nf nh)
 | [] => rfl
 | v :: l => by rw [okVs, okVs_all nf nh l, List.all_cons]
theorem okV_iff {nf nh : Nat} {v : Val} : okV nf nh v = true ↔ okArr nh v.kind v.arr = true /\ (v.kind = 2 -> 0 <= v.n /\ v.n < nf) /\ v.list.length <= 4096 /\ ∀ x ∈ v.list, okV nf nh x = true := by
 cases v with
 | mk k n l a =>
  rw [okV, okVs_all]
  simp only [Bool.and_eq_true, Bool.or_eq_true, decide_eq_true_eq, List.all_eq_true, Val.kind, Val.n, Val.list, Val.arr, wi_iff]
  constructor
  .rintro ⟨⟨h1, h2⟩, h4, h3⟩
   exact ⟨h1, λ h => by rcases h2 with h2 | h2; exact absurd h h2; omega, h4, h3⟩
  rintro ⟨h1, h2, h4, h3⟩
  refine ⟨⟨h1, ?_⟩, h4, h3⟩
  by_cases h : k = 2
  .have := h2 h; exact .inr ⟨this.1, by omega⟩
  exact .inl h
theorem okV_zero (nf nh : Nat) : okV nf nh Val.zero = true := by simp [Val.zero, okV, okArr, okVs]
theorem okV_word (nf nh : Nat) (n : Int) : okV nf nh (Val.word n) = true := by simp [Val.word, okV, okArr, okVs]
theorem okArr_mono {nh nh' : Nat} (h : nh <= nh') {k : Int} : ∀ {a : Option Nat}, okArr nh k a = true -> okArr nh' k a = true
 | none, h1 => h1
 | some j, h1 => by simp [okArr] at h1 ⊢; omega
mutual
theorem okV_mono {nf nh nh' : Nat} (h : nh <= nh') : ∀ v, okV nf nh v = true -> okV nf nh' v = true
 | .mk k n l a, h1 => by
  rw [okV, Bool.and_eq_true, Bool.and_eq_true, Bool.and_eq_true] at h1 ⊢
  exact ⟨⟨okArr_mono h h1.1.1, h1.1.2⟩, h1.2.1, okVs_mono h l h1.2.2⟩
theorem okVs_mono {nf nh nh' : Nat} (h : nh <= nh') : ∀ l, okVs nf nh l = true -> okVs nf nh' l = true
 | [], _ => rfl
 | v :: l, h1 => by
  rw [okVs, Bool.and_eq_true] at h1 ⊢
  exact ⟨okV_mono h v h1.1, okVs_mono h l h1.2⟩
end
mutual
theorem valV_ext {nf nh : Nat} {ρ ρ' : Nat -> Nat} (h : ∀ k, k < nh -> ρ k = ρ' k) : ∀ v, okV nf nh v = true -> valV ρ v = valV ρ' v
 | .mk k n l a, h1 => by
  rw [okV, Bool.and_eq_true, Bool.and_eq_true, Bool.and_eq_true] at h1
  rw [valV, valV, valsV_ext h l h1.2.2]
  have : arrV ρ a = arrV ρ' a := by
   cases a with
   | none => rfl
   | some j =>
    have := h1.1.1
    simp [okArr] at this
    simp [arrV, h j this]
  rw [this]
theorem valsV_ext {nf nh : Nat} {ρ ρ' : Nat -> Nat} (h : ∀ k, k < nh -> ρ k = ρ' k) : ∀ l, okVs nf nh l = true -> valsV ρ l = valsV ρ' l
 | [], _ => rfl
 | v :: l, h1 => by
  rw [okVs, Bool.and_eq_true] at h1
  rw [valsV, valsV, valV_ext h v h1.1, valsV_ext h l h1.2]
end
theorem valX_ext {nf nh : Nat} {ρ ρ' : Nat -> Nat} (h : ∀ k, k < nh -> ρ k = ρ' k) {v : Val} (hv : okV nf nh v = true) : valX ρ v = valX ρ' v := by rw [<- valV_eq, <- valV_eq, valV_ext h v hv]
theorem argAt_ok {nf nh : Nat} {l : List Val} (hv : ∀ v ∈ l, okV nf nh v = true) (k : Nat) : okV nf nh (argAt l k) = true := by
 unfold argAt
 cases h : l[k]? with
 | none => exact okV_zero nf nh
 | some v => exact hv v (Ye h)
theorem argAt_mem {l : List Val} {k : Nat} (h : k < l.length) : argAt l k ∈ l := by
 rw [argAt, Yi h]
 exact List.getElem_mem h
theorem vget_ok {nf nh : Nat} (v : Int) : ∀ {m : Vals}, (∀ e ∈ m, okV nf nh e.2 = true) -> okV nf nh (vget m v) = true
 | [], _ => okV_zero nf nh
 | e :: m, h => by
  obtain ⟨k, x⟩ := e
  rw [vget]
  split
  .exact h _ (Yd ..)
  exact vget_ok v λ e he => h e (Yb _ he)
theorem lanes_snoc (op : Int) : ∀ (as bs : List Val) (a b : Val), as.length = bs.length -> lanesF op (as ++ [a]) (bs ++ [b]) = lanesF op as bs ++ [(binaryF op a.n b.n).1]
 | [], [], a, b, _ => rfl
 | x :: as, y :: bs, a, b, h => by
  simp at h
  rw [Yh, Yh, lanesF, lanes_snoc op as bs a b h, lanesF, Yh]
 | [], _ :: _, a, b, h => by simp at h
 | _ :: _, [], a, b, h => by simp at h
theorem lanes_len (op : Int) : ∀ (as bs : List Val), (lanesF op as bs).length <= as.length
 | x :: as, y :: bs => by
  have := lanes_len op as bs
  simp [lanesF]
  exact this
 | [], _ => by simp [lanesF]
 | _ :: _, [] => by simp [lanesF]
structure OpOk (i : SIns) (n : Nat) : Prop where
 known : elemJ i.op [0, 1, 2, 3, 4, 5, 6, 7, 8, 9, 10, 11, 12, 21, 22, 23, 24, 100, 15, 16, 17, 18, 19, 20] = true
 many : n <= 4096
 two : elemJ i.op [1, 2, 3, 4, 5, 6, 7, 16, 18, 19, 21, 23] = true -> n = 2
 one : elemJ i.op [10, 11, 12, 15, 17, 24, 100] = true -> n = 1
 three : i.op = 20 -> n = 3
 num : i.op = 11 \/ i.op = 24 -> 0 <= i.n
structure TermOk (fn : SFunc) (t : STerm) : Prop where
 one : t.kind = 1 -> 1 <= t.to.length
 two : t.kind = 2 -> t.to.length = 2
 many : t.kind ≠ 0 -> t.kind ≠ 1 -> t.kind ≠ 2 -> t.kind ≠ 4 -> t.to.length = t.cases.length + 1
 edges : ∀ e ∈ t.to, 0 <= e.block /\ (∃ b, fn.blocks[e.block.toNat]? = some b /\ e.args.length = b.params.length) /\ e.args.length <= 4096
structure InsOk (u : SUnit) (i : SIns) : Prop where
 ops : i.op ≠ 13 -> i.op ≠ 14 -> OpOk i i.args.length
 call : i.op = 13 -> 0 <= i.n /\ i.n < u.fns.length /\ (entryOf u i.n).length = i.args.length
 app : i.op = 14 -> 1 <= i.args.length
 clos : i.op = 9 -> 0 <= i.n /\ i.n < u.fns.length
 many : i.args.length <= 4096
structure UOk (u : SUnit) : Prop where
 main : 0 <= u.main /\ u.main < u.fns.length
 entry : entryOf u u.main = []
 ne : ∀ f ∈ u.fns, f.blocks ≠ []
 term : ∀ f ∈ u.fns, ∀ b ∈ f.blocks, TermOk f b.term
 ins : ∀ f ∈ u.fns, ∀ b ∈ f.blocks, ∀ i ∈ b.ins, InsOk u i
theorem choice_lt {fn : SFunc} {t : STerm} (h : TermOk fn t) (n : Int) (h0 : t.kind ≠ 0) (h1 : t.kind ≠ 1) (h4 : t.kind ≠ 4) : 0 <= choiceF t n /\ choiceF t n < t.to.length := by
 unfold choiceF
 split
 .rename_i h2
  have := h.two h2
  split <;> omega
 rename_i h2
 have hm := h.many h0 h1 h2 h4
 split
 .rename_i h3
  rcases idxOf_range (λ x => decide (n = x)) t.cases with ⟨e, _⟩ | ⟨k, x, e, hx, _⟩
  .omega
  have := (List.getElem?_eq_some_iff.1 hx).1
  omega
 omega
structure FrameOk (u : SUnit) (nh : Nat) (f : MFrame) : Prop where
 fn0 : 0 <= f.fn
 blk0 : 0 <= f.block
 code : ∃ F b, u.fns[f.fn.toNat]? = some F /\ F.blocks[f.block.toNat]? = some b /\ 0 <= f.at_ /\ f.at_ <= b.ins.length
 vals : ∀ e ∈ f.vals, okV u.fns.length nh e.2 = true
structure MOk (u : SUnit) (M : Mach) : Prop where
 frames : ∀ f ∈ M.stack, FrameOk u M.heap.length f
 heap : ∀ l ∈ M.heap, l.length <= 1024 /\ ∀ v ∈ l, okV u.fns.length M.heap.length v = true
 out : M.out.length <= 1000
 left0 : 0 <= M.left
 left : M.left + M.stack.length <= 1000001
def rho (A : List (Nat × Nat)) : Nat -> Nat := λ k => (A[k]?.getD (0, 0)).1
theorem rho_ext (A B : List (Nat × Nat)) : ∀ k, k < A.length -> rho A k = rho (A ++ B) k := λ k h => by rw [rho, rho, List.getElem?_append_left h]
theorem rho_new (A : List (Nat × Nat)) (x : Nat × Nat) : rho (A ++ [x]) A.length = x.1 := by simp [rho]
theorem okV_truth (nf nh : Nat) (b : Bool) : okV nf nh (truthF b) = true := by unfold truthF; split <;> exact okV_word _ _ _
theorem binary_ok (nf nh : Nat) (op a b : Int) : okV nf nh (binaryF op a b).1 = true := by
 unfold binaryF
 repeat' split
 all_goals first | exact okV_word _ _ _ | exact okV_truth _ _ _ | exact okV_zero _ _
theorem object_ok {nf nh : Nat} {i : SIns} {args : List Val} (h : ∀ a ∈ args, okV nf nh a = true) : okV nf nh (objectF i args).1 = true := by
 have ho : ∀ k, okV nf nh (argAt (argAt args 0).list k) = true := λ k => argAt_ok (okV_iff.1 (argAt_ok h 0)).2.2.2 k
 unfold objectF
 dsimp only
 repeat' split
 all_goals first | exact okV_word _ _ _ | exact okV_zero _ _ | exact ho _
theorem lanes_ok (nf nh : Nat) (op : Int) : ∀ (as bs : List Val), ∀ v ∈ lanesF op as bs, okV nf nh v = true
 | a :: as, b :: bs, v, hv => by
  rw [lanesF] at hv
  rcases Ya.1 hv with rfl | hv
  .exact binary_ok _ _ _ _ _
  exact lanes_ok nf nh op as bs v hv
 | [], _, v, hv => by simp [lanesF] at hv
 | _ :: _, [], v, hv => by simp [lanesF] at hv
theorem okV_mk {nf nh : Nat} {k n : Int} {l : List Val} (h2 : k = 2 -> 0 <= n /\ n < nf) (h3 : k ≠ 3) (hl : l.length <= 4096) (h : ∀ v ∈ l, okV nf nh v = true) : okV nf nh (.mk k n l none) = true :=
 okV_iff.2 ⟨by simp [Val.arr, Val.kind, okArr, h3], h2, hl, h⟩
theorem vector_ok {nf nh : Nat} {i : SIns} {args : List Val} (hl : args.length <= 4096) (h : ∀ a ∈ args, okV nf nh a = true) : okV nf nh (vectorF i args).1 = true := by
 have h0 := okV_iff.1 (argAt_ok h 0)
 unfold vectorF
 repeat' split
 all_goals first | exact okV_zero _ _ | exact argAt_ok h0.2.2.2 _ | exact okV_mk (λ h => by cases h) (by decide) hl h | skip
 refine okV_mk (λ h => by cases h) (by decide) ?_ (lanes_ok nf nh _ _ _)
 exact Nat.le_trans (lanes_len _ _ _) h0.2.2.1
structure ExecPost (nf : Nat) (M M' : Mach) (v : Val) : Prop where
 heap : ∀ l ∈ M'.heap, l.length <= 1024 /\ ∀ v ∈ l, okV nf M'.heap.length v = true
 grows : M.heap.length <= M'.heap.length
 val : okV nf M'.heap.length v = true
 stack : M'.stack = M.stack
 out : M'.out.length <= 1000
 left0 : 0 <= M'.left
 left : M'.left <= M.left
structure HeapOk (nf : Nat) (M : Mach) : Prop where
 heap : ∀ l ∈ M.heap, l.length <= 1024 /\ ∀ v ∈ l, okV nf M.heap.length v = true
 out : M.out.length <= 1000
 left0 : 0 <= M.left
theorem HeapOk.same {nf : Nat} {M : Mach} (h : HeapOk nf M) {v : Val} (hv : okV nf M.heap.length v = true) : ExecPost nf M M v := ⟨h.heap, Ym _, hv, rfl, h.out, h.left0, Yn _⟩
theorem payF_post {nf : Nat} {M : Mach} (h : HeapOk nf M) {n : Int} (hn : 0 <= n) {v : Val} (hv : okV nf M.heap.length v = true) : ExecPost nf M (payF n M) v := by
 have h0 := h.left0
 unfold payF
 split
 .exact ⟨h.heap, Ym _, hv, rfl, h.out, h.left0, Yn _⟩
 exact ⟨h.heap, Ym _, hv, rfl, h.out, by dsimp only; omega, by dsimp only; omega⟩
theorem alloc_post {nf : Nat} {M : Mach} (h : HeapOk nf M) {size fill : Val} (hf : okV nf M.heap.length fill = true) : ExecPost nf M (allocF size fill M).1 (allocF size fill M).2.1 := by
 unfold allocF
 split
 .exact h.same (okV_zero _ _)
 split
 .exact h.same (okV_zero _ _)
 rename_i h1 h2
 have hp := payF_post h (n := size.n) (by omega) (okV_zero nf M.heap.length)
 split
 .exact hp
 dsimp only
 refine ⟨λ l hl => ?_, by simp, ?_, hp.stack, hp.out, hp.left0, hp.left⟩
 .simp only [List.length_append, List.length_cons, List.length_nil]
  rcases List.mem_append.1 hl with hl | hl
  .exact ⟨(h.heap l hl).1, λ v hv => okV_mono (by omega) v ((h.heap l hl).2 v hv)⟩
  rw [List.mem_singleton.1 hl, List.length_replicate]
  exact ⟨by omega, λ v hv => by rw [(List.mem_replicate.1 hv).2]; exact okV_mono (by omega) _ hf⟩
 rw [okV, okVs]
 simp [okArr]
theorem setArr_post {nf : Nat} {M : Mach} (h : HeapOk nf M) {v x : Val} {k : Nat} {w : Val} (hx : okV nf M.heap.length x = true) (hw : okV nf M.heap.length w = true) : ExecPost nf M (setArr M v ((arrOf M v).set k x)) w := by
 unfold setArr
 cases ha : v.arr with
 | none => exact h.same hw
 | some j =>
  dsimp only
  refine ⟨λ l hl => ?_, by simp, by simpa using hw, rfl, h.out, h.left0, Yn _⟩
  simp only [List.length_set]
  rcases Yk hl with hl | rfl
  .exact h.heap l hl
  have hao : arrOf M v = (M.heap[j]?).getD [] := by rw [arrOf, ha]; rfl
  rw [hao, List.length_set]
  cases hj : M.heap[j]? with
  | none => exact ⟨by simp, λ v hv => by simp at hv⟩
  | some l =>
   have hl := h.heap l (Ye hj)
   refine ⟨hl.1, λ v hv => ?_⟩
   rcases Yk hv with hv | rfl
   .exact hl.2 v hv
   exact hx
theorem arrOf_ok {nf : Nat} {M : Mach} (h : HeapOk nf M) (v : Val) : ∀ x ∈ arrOf M v, okV nf M.heap.length x = true := by
 unfold arrOf
 cases v.arr with
 | none => intro x hx; simp at hx
 | some j =>
  cases hj : M.heap[j]? with
  | none => intro x hx; simp [hj] at hx
  | some l => intro x hx; simp [hj] at hx; exact (h.heap l (Ye hj)).2 x hx
theorem effect_post {nf : Nat} {M : Mach} (h : HeapOk nf M) {i : SIns} {args : List Val} (ha : ∀ a ∈ args, okV nf M.heap.length a = true) : ExecPost nf M (effectF i args M).1 (effectF i args M).2.1 := by
 unfold effectF
 split
 .split
  .exact h.same (okV_zero _ _)
  split
  .exact h.same (okV_zero _ _)
  have := h.out
  exact ⟨h.heap, Ym _, okV_word _ _ _, rfl, by simp; omega, h.left0, Yn _⟩
 split
 .exact alloc_post h (argAt_ok ha 1)
 split
 .split
  .exact h.same (okV_zero _ _)
  split
  .exact h.same (okV_zero _ _)
  exact h.same (okV_word _ _ _)
 split
 .exact h.same (okV_zero _ _)
 split
 .exact h.same (okV_word _ _ _)
 split
 .exact h.same (okV_zero _ _)
 split
 .exact h.same (argAt_ok (arrOf_ok h _) _)
 exact setArr_post h (argAt_ok ha 2) (okV_word _ _ _)
theorem exec_post {nf : Nat} {M : Mach} (h : HeapOk nf M) {i : SIns} {args : List Val} (hc : i.op = 9 -> 0 <= i.n /\ i.n < nf) (hl : args.length <= 4096) (ha : ∀ a ∈ args, okV nf M.heap.length a = true) : ExecPost nf M (execF i args M).1 (execF i args M).2.1 := by
 unfold execF
 split
 .exact h.same (okV_word _ _ _)
 split
 .split
  .exact h.same (okV_zero _ _)
  exact h.same (binary_ok _ _ _ _ _)
 split
 .exact h.same (okV_mk (λ h => by cases h) (by decide) hl ha)
 split
 .rename_i h9
  exact h.same (okV_mk (λ _ => hc h9) (by decide) hl ha)
 split
 .exact h.same (object_ok ha)
 split
 .exact h.same (vector_ok hl ha)
 split
 .exact h.same (argAt_ok ha 0)
 exact effect_post h ha
theorem vput_ok {nf nh : Nat} {x : Int} {v : Val} (hv : okV nf nh v = true) : ∀ {m : Vals}, (∀ e ∈ m, okV nf nh e.2 = true) -> ∀ e ∈ vput m x v, okV nf nh e.2 = true
 | [], _, e, he => by rw [vput, List.mem_singleton] at he; subst he; exact hv
 | (k, u) :: m, h, e, he => by
  rw [vput] at he
  split at he
  .rcases Ya.1 he with rfl | he
   .exact hv
   exact h e (Yb _ he)
  rcases Ya.1 he with rfl | he
  .exact h _ (Yd ..)
  exact vput_ok hv (λ e he => h e (Yb _ he)) e he
theorem vputs_ok {nf nh : Nat} : ∀ (ps : List Int) (vs : List Val) {m : Vals}, (∀ v ∈ vs, okV nf nh v = true) -> (∀ e ∈ m, okV nf nh e.2 = true) -> ∀ e ∈ vputs m ps vs, okV nf nh e.2 = true
 | p :: ps, v :: vs, m, hv, h => vputs_ok ps vs (λ x hx => hv x (Yb _ hx)) (vput_ok (hv v (Yd ..)) h)
 | [], _, m, _, h => h
 | _ :: _, [], m, _, h => h
theorem take_ok {nf nh : Nat} {m : Vals} (h : ∀ e ∈ m, okV nf nh e.2 = true) (l : List Int) : ∀ v ∈ takeF m l, okV nf nh v = true := λ v hv => by
 obtain ⟨x, _, rfl⟩ := List.mem_map.1 hv
 exact vget_ok x h
theorem FrameOk.mono {u : SUnit} {nh nh' : Nat} {f : MFrame} (h : FrameOk u nh f) (hn : nh <= nh') : FrameOk u nh' f := ⟨h.fn0, h.blk0, h.code, λ e he => okV_mono hn _ (h.vals e he)⟩
theorem follow_ok {u : SUnit} {nh : Nat} {f : MFrame} {F : SFunc} {t : STerm} {e : SEdge} (h : FrameOk u nh f) (hF : u.fns[f.fn.toNat]? = some F) (ht : TermOk F t) (he : e ∈ t.to) : FrameOk u nh (followF u f e) := by
 obtain ⟨h0, ⟨b, hb, hl⟩, _⟩ := ht.edges e he
 exact ⟨h.fn0, h0, ⟨F, b, hF, hb, Yn _, by show (0 : Int) <= _; omega⟩, vputs_ok _ _ (take_ok h.vals _) h.vals⟩
theorem entered_ok {u : SUnit} (hU : UOk u) {nh : Nat} {n to : Int} {args : List Val} (h0 : 0 <= n) (h1 : n < u.fns.length) (ha : ∀ a ∈ args, okV u.fns.length nh a = true) : FrameOk u nh (entered u n args to) := by
 obtain ⟨F, hF⟩ := get_of_lt u.fns n.toNat (by omega)
 obtain ⟨b, tl, hb⟩ := Yl (hU.ne F (Ye hF))
 exact ⟨h0, Yn _, ⟨F, b, hF, by show F.blocks[0]? = _; rw [hb]; rfl, Yn _, by show (0 : Int) <= _; omega⟩, vputs_ok _ _ ha λ e he => by cases he⟩
theorem stop_ok {u : SUnit} {M : Mach} (h : MOk u M) (e n : Int) : MOk u (stopF e n M) := ⟨h.frames, h.heap, h.out, h.left0, h.left⟩
theorem edgeAt_mem {t : STerm} {k : Nat} (h : k < t.to.length) : edgeAt t k ∈ t.to := by
 rw [edgeAt, Yi h]
 exact List.getElem_mem h
theorem MOk.restack {u : SUnit} {M : Mach} (h : MOk u M) {fs : List MFrame} (hf : ∀ f ∈ fs, FrameOk u M.heap.length f) (hl : fs.length <= M.stack.length) : MOk u { M with stack := fs } :=
 ⟨hf, h.heap, h.out, h.left0, by have := h.left; dsimp only; omega⟩
theorem term_ok {u : SUnit} {M : Mach} (h : MOk u M) {f : MFrame} {fs : List MFrame} (hst : M.stack = f :: fs) {F : SFunc} {t : STerm} (hF : u.fns[f.fn.toNat]? = some F) (ht : TermOk F t) : MOk u (termF u f t fs M) := by
 have hfo := h.frames f (by rw [hst]; exact Yd ..)
 have hfs : ∀ g ∈ fs, FrameOk u M.heap.length g := λ g hg => h.frames g (by rw [hst]; exact Yb _ hg)
 have goto : ∀ e ∈ t.to, MOk u { M with stack := followF u f e :: fs } := λ e he => h.restack (λ g hg => by
  rcases Ya.1 hg with rfl | hg
  .exact follow_ok hfo hF ht he
  exact hfs g hg) (by rw [hst]; simp)
 unfold termF
 split
 .exact stop_ok h _ _
 rename_i h4
 split
 .rename_i h1
  exact goto _ (edgeAt_mem (ht.one h1))
 rename_i h1
 split
 .unfold leaveF
  split
  .rename_i g gs
   refine h.restack (λ x hx => ?_) (by rw [hst]; simp)
   rcases Ya.1 hx with rfl | hx
   .have hg := hfs g (Yd ..)
    exact ⟨hg.fn0, hg.blk0, hg.code, vput_ok (vget_ok _ hfo.vals) hg.vals⟩
   exact hfs x (Yb _ hx)
  exact stop_ok (h.restack (λ x hx => by cases hx) (by simp)) _ _
 rename_i h0
 split
 .exact stop_ok h _ _
 have := choice_lt ht (vget f.vals t.arg).n h0 h1 h4
 exact goto _ (edgeAt_mem (by omega))
theorem enter_ok {u : SUnit} (hU : UOk u) {M : Mach} (h : MOk u M) (hl : M.left + M.stack.length <= 1000000) {n to : Int} {args : List Val} (h0 : 0 <= n) (h1 : n < u.fns.length) (ha : ∀ a ∈ args, okV u.fns.length M.heap.length a = true) : MOk u (enterF u n args to M) := by
 refine ⟨λ g hg => ?_, h.heap, h.out, h.left0, by show M.left + ((M.stack.length + 1 : Nat) : Int) <= _; omega⟩
 rcases Ya.1 hg with rfl | hg
 .exact entered_ok hU h0 h1 ha
 exact h.frames g hg
theorem ins_ok {u : SUnit} (hU : UOk u) {M : Mach} (h : MOk u M) (hl : M.left + M.stack.length <= 1000000) {f : MFrame} {fs : List MFrame} (hst : M.stack = f :: fs) {i : SIns} (hi : InsOk u i) : MOk u (insF u f i fs M) := by
 have hfo := h.frames f (by rw [hst]; exact Yd ..)
 have ha := take_ok hfo.vals i.args
 have hlen : (takeF f.vals i.args).length = i.args.length := by rw [takeF, List.length_map]
 have hm := hi.many
 unfold insF
 dsimp only
 split
 .rename_i h13
  have := hi.call h13
  exact enter_ok hU h hl this.1 this.2.1 ha
 split
 .split
  .rename_i hc
   have := (okV_iff.1 (argAt_ok ha 0)).2.1 hc.1
   exact enter_ok hU h hl this.1 this.2 ha
  exact stop_ok h _ _
 have hp := exec_post (i := i) ⟨h.heap, h.out, h.left0⟩ hi.clos (by rw [hlen]; exact hm) ha
 have key : ∀ M1 : Mach, M1.heap = (execF i (takeF f.vals i.args) M).1.heap -> M1.out = (execF i (takeF f.vals i.args) M).1.out -> M1.left = (execF i (takeF f.vals i.args) M).1.left -> MOk u { M1 with stack := { f with vals := vput f.vals i.to (execF i (takeF f.vals i.args) M).2.1 } :: fs } := λ M1 h1 h2 h3 => by
  refine ⟨λ g hg => ?_, by dsimp only; rw [h1]; exact hp.heap, by dsimp only; rw [h2]; exact hp.out, by dsimp only; rw [h3]; exact hp.left0, ?_⟩
  .dsimp only
   rw [h1]
   rcases Ya.1 hg with rfl | hg
   .exact ⟨hfo.fn0, hfo.blk0, hfo.code, vput_ok hp.val λ e he => okV_mono hp.grows _ (hfo.vals e he)⟩
   exact (h.frames g (by rw [hst]; exact Yb _ hg)).mono hp.grows
  dsimp only
  rw [h3]
  have := hp.left
  rw [hst] at hl
  simp at hl ⊢
  omega
 split
 .exact key _ rfl rfl rfl
 exact key _ rfl rfl rfl
theorem step_ok {u : SUnit} (hU : UOk u) {M : Mach} (h : MOk u M) (hl : M.left + M.stack.length <= 1000000) : MOk u (stepF u M) := by
 unfold stepF
 split
 .exact h
 rename_i f fs hst
 dsimp only
 have hfo := h.frames f (by rw [hst]; exact Yd ..)
 obtain ⟨F, b, hF, hb, hat0, hat⟩ := hfo.code
 have hblk : blockAt u f.fn f.block = b := by rw [blockAt, hF]; simp [hb]
 have hFm := Ye hF
 have hbm := Ye hb
 rw [hblk]
 split
 .exact term_ok h hst hF (hU.term F hFm b hbm)
 rename_i hne
 obtain ⟨i, hi⟩ := get_of_lt b.ins f.at_.toNat (by omega)
 rw [hi, Option.getD_some]
 refine ins_ok (M := { M with stack := { f with at_ := f.at_ + 1 } :: fs }) hU ?_ ?_ rfl (hU.ins F hFm b hbm i (Ye hi))
 .refine h.restack (λ g hg => ?_) (by rw [hst]; simp)
  rcases Ya.1 hg with rfl | hg
  .exact ⟨hfo.fn0, hfo.blk0, ⟨F, b, hF, hb, by show (0 : Int) <= f.at_ + 1; omega, by show f.at_ + 1 <= _; omega⟩, hfo.vals⟩
  exact h.frames g (by rw [hst]; exact Yb _ hg)
 show M.left + _ <= _
 rw [hst] at hl
 simpa using hl
theorem step_stack {u : SUnit} (hU : UOk u) {M : Mach} (h : MOk u M) {f : MFrame} {fs : List MFrame} (hst : M.stack = f :: fs) (ho : M.over = false) : (stepF u M).over = true \/ (stepF u M).stack ≠ [] := by
 unfold stepF
 rw [hst]
 dsimp only
 split
 .unfold termF
  split
  .exact .inl rfl
  split
  .exact .inr (by simp)
  split
  .unfold leaveF
   cases fs with
   | nil => exact .inl rfl
   | cons g gs => exact .inr (by simp)
  split
  .exact .inl rfl
  exact .inr (by simp)
 unfold insF
 dsimp only
 split
 .exact .inr (by simp [enterF])
 split
 .split
  .exact .inr (by simp [enterF])
  exact .inl rfl
 exact .inr (by simp)
def dkeys (d : Defs) : List Int := d.map (·.1)
def defsP (k : Int) (ps : List Int) : Defs := ps.map λ p => (p, k, 0)
def defsI (k : Int) : Int -> List SIns -> Defs
 | _, [] => []
 | n, i :: is => (i.to, k, n + 1) :: defsI k (n + 1) is
def defsB (k : Int) (b : SBlock) : Defs := defsP k b.params ++ defsI k 0 b.ins
def defsL : Int -> List SBlock -> Defs
 | _, [] => []
 | k, b :: l => defsB k b ++ defsL (k + 1) l
structure DKeys (d : Defs) : Prop where
 nodup : (dkeys d).Nodup
 range : ∀ v ∈ dkeys d, 0 <= v /\ v <= 4095
theorem dget_none {v : Int} : ∀ {d : Defs}, dget d v = none ↔ v ∉ dkeys d
 | [] => by simp [dget, dkeys]
 | (k, p) :: d => by
  have ih := dget_none (v := v) (d := d)
  rw [dget]
  split
  .rename_i h; subst h; simp [dkeys]
  rename_i h
  rw [ih]
  simp [dkeys]
  exact λ h1 h2 => h h2.symm
theorem defineF_zero {v : Int} {p : Int × Int} {d : Defs} (h : (defineF v p d).1 = 0) (hd : DKeys d) : (defineF v p d).2 = d ++ [(v, p)] /\ DKeys (d ++ [(v, p)]) := by
 unfold defineF at h ⊢
 split at h
 .cases h
 rename_i h1
 split at h
 .cases h
 rename_i h2
 rw [if_neg h1, if_neg h2]
 refine ⟨rfl, ?_, ?_⟩
 .have hn : dget d v = none := by
   cases hg : dget d v with
   | none => rfl
   | some x => rw [hg] at h2; simp at h2
  have := dget_none.1 hn
  rw [dkeys, Yj]
  refine List.nodup_append.2 ⟨hd.nodup, by simp, λ a ha b hb e => ?_⟩
  simp at hb
  subst hb e
  exact this ha
 intro x hx
 rw [dkeys, Yj] at hx
 rcases List.mem_append.1 hx with hx | hx
 .exact hd.range x hx
 simp at hx
 subst hx
 have h1 : wi x 0 4095 = true := by simpa using h1
 exact wi_iff.1 h1
theorem paramsF_zero {k : Int} : ∀ (ps : List Int) {d : Defs}, (paramsF k ps d).1 = 0 -> DKeys d -> (paramsF k ps d).2 = d ++ defsP k ps /\ DKeys (d ++ defsP k ps)
 | [], d, _, hd => by simp [paramsF, defsP, hd]
 | p :: ps, d, h, hd => by
  rw [paramsF] at h ⊢
  split at h
  .rename_i hc; exact absurd h hc
  rename_i hc
  rw [if_neg hc]
  obtain ⟨e1, h1⟩ := defineF_zero (Classical.not_not.1 hc) hd
  rw [e1] at h ⊢
  have := paramsF_zero ps h h1
  simpa [defsP] using this
theorem inssF_zero {k : Int} : ∀ (l : List SIns) (n : Int) {d : Defs}, (inssF k n l d).1 = 0 -> DKeys d -> (inssF k n l d).2 = d ++ defsI k n l /\ DKeys (d ++ defsI k n l)
 | [], n, d, _, hd => by simp [inssF, defsI, hd]
 | i :: l, n, d, h, hd => by
  rw [inssF] at h ⊢
  split at h
  .rename_i hc; exact absurd h hc
  rename_i hc
  rw [if_neg hc]
  obtain ⟨e1, h1⟩ := defineF_zero (Classical.not_not.1 hc) hd
  split at h
  .rename_i hf; exact absurd h hf
  rename_i hf
  rw [if_neg hf]
  rw [e1] at h ⊢
  have := inssF_zero l (n + 1) h h1
  simpa [defsI] using this
theorem blockF_zero {bs : List SBlock} {k : Int} {b : SBlock} {d : Defs} (h : (blockF bs k b d).1 = 0) (hd : DKeys d) : (blockF bs k b d).2 = d ++ defsB k b /\ DKeys (d ++ defsB k b) := by
 unfold blockF at h ⊢
 split at h
 .rename_i hc; exact absurd h hc
 rename_i hc
 rw [if_neg hc]
 obtain ⟨e1, h1⟩ := paramsF_zero b.params (Classical.not_not.1 hc) hd
 split at h
 .rename_i hc2; exact absurd h hc2
 rename_i hc2
 rw [if_neg hc2]
 rw [e1] at hc2 ⊢
 have := inssF_zero b.ins 0 (Classical.not_not.1 hc2) h1
 simpa [defsB] using this
theorem blocksF_zero {bs : List SBlock} : ∀ (l : List SBlock) (k : Int) {d : Defs}, (blocksF bs k l d).1 = 0 -> DKeys d -> (blocksF bs k l d).2 = d ++ defsL k l /\ DKeys (d ++ defsL k l)
 | [], k, d, _, hd => by simp [blocksF, defsL, hd]
 | b :: l, k, d, h, hd => by
  rw [blocksF] at h ⊢
  split at h
  .rename_i hc; exact absurd h hc
  rename_i hc
  rw [if_neg hc]
  obtain ⟨e1, h1⟩ := blockF_zero (Classical.not_not.1 hc) hd
  rw [e1] at h ⊢
  have := blocksF_zero l (k + 1) h h1
  simpa [defsL] using this
theorem dkeys_nil : DKeys [] := ⟨List.nodup_nil, λ v hv => by cases hv⟩
theorem FuncOk.defs {f : SFunc} (h : FuncOk f) : (blocksF f.blocks 0 f.blocks []).2 = defsL 0 f.blocks /\ DKeys (defsL 0 f.blocks) := by simpa using blocksF_zero f.blocks 0 h.blocks dkeys_nil
theorem FuncOk.keys {f : SFunc} (h : FuncOk f) : DKeys (defsL 0 f.blocks) := h.defs.2
theorem dkeys_append (a b : Defs) : dkeys (a ++ b) = dkeys a ++ dkeys b := Yj
theorem dkeys_defsP (k : Int) (ps : List Int) : dkeys (defsP k ps) = ps := by simp [dkeys, defsP, List.map_map, Function.comp_def]
theorem dkeys_defsI (k : Int) : ∀ (n : Int) (l : List SIns), dkeys (defsI k n l) = l.map (·.to)
 | n, [] => rfl
 | n, i :: l => by rw [defsI]; show i.to :: dkeys (defsI k (n + 1) l) = _; rw [dkeys_defsI k (n + 1) l]; rfl
theorem dkeys_defsL : ∀ (k : Int) (l : List SBlock), dkeys (defsL k l) = l.flatMap λ b => b.params ++ b.ins.map (·.to)
 | k, [] => rfl
 | k, b :: l => by rw [defsL, dkeys_append, dkeys_defsL (k + 1) l, defsB, dkeys_append, dkeys_defsP, dkeys_defsI]; rfl
theorem nodup_4096 {l : List Int} (h : l.Nodup) (hr : ∀ v ∈ l, 0 <= v /\ v <= 4095) : l.length <= 4096 := by
 have := h.length_le_of_subset (l₂ := (Yf 4096).map Int.ofNat) λ v hv => by
  have := hr v hv
  exact List.mem_map.2 ⟨v.toNat, List.mem_range.2 (by omega), by show ((v.toNat : Nat) : Int) = v; omega⟩
 simpa using this
theorem FuncOk.block_params {f : SFunc} (h : FuncOk f) {b : SBlock} (hb : b ∈ f.blocks) : b.params.Nodup /\ (∀ v ∈ b.params, 0 <= v /\ v <= 4095) /\ b.params.length <= 4096 := by
 have hk := h.keys
 have hn := hk.nodup
 have hr := hk.range
 rw [dkeys_defsL] at hn hr
 have hsub : List.Sublist b.params (f.blocks.flatMap λ b => b.params ++ b.ins.map (·.to)) := by
  obtain ⟨l1, l2, e⟩ := List.append_of_mem hb
  rw [e, List.flatMap_append, List.flatMap_cons]
  exact ((List.sublist_append_left _ _).trans (List.sublist_append_left _ _)).trans (List.sublist_append_right _ _)
 have h1 := hn.sublist hsub
 have h2 := λ v hv => hr v (hsub.subset hv)
 exact ⟨h1, h2, nodup_4096 h1 h2⟩
theorem paramsOf_get {bs : List SBlock} {k : Int} {b : SBlock} (h : bs[k.toNat]? = some b) : paramsOf bs k = b.params := by rw [paramsOf, h]; rfl
theorem term_ok_of {f : SFunc} (h : FuncOk f) {b : SBlock} (hb : b ∈ f.blocks) : TermOk f b.term := by
 have he := endF_ok (h.block hb).2
 have hs := he.shape
 unfold shapeF at hs
 refine ⟨λ h1 => ?_, λ h2 => ?_, λ h0 h1 h2 h4 => ?_, λ e hm => ?_⟩
 .rw [if_neg (by omega), if_pos h1] at hs
  simp at hs
  omega
 .rw [if_neg (by omega), if_neg (by omega), if_pos h2] at hs
  simp at hs
  omega
 .rw [if_neg h0, if_neg h1, if_neg h2] at hs
  split at hs
  .simp at hs; omega
  .first | cases hs | (rw [if_neg h4] at hs; cases hs)
 obtain ⟨e1, e2, e3⟩ := he.edges e hm
 obtain ⟨c, hc⟩ := get_of_lt f.blocks e.block.toNat (by omega)
 rw [paramsOf_get hc] at e3
 exact ⟨by omega, ⟨c, hc, e3⟩, by rw [e3]; exact (h.block_params (Ye hc)).2.2⟩
theorem form_ok {i : SIns} (h : formF i = 0) : formBad i = false /\ formLarge i = false /\ numberF i = true := by
 unfold formF at h
 split at h
 .cases h
 rename_i h1
 split at h
 .cases h
 rename_i h2
 split at h
 .rename_i h3; exact ⟨by simpa using h1, by simpa using h2, h3⟩
 cases h
theorem elem_iff (x : Int) : ∀ l : List Int, elemJ x l = true ↔ x ∈ l
 | [] => by simp [elemJ]
 | y :: l => by
  have := elem_iff x l
  simp [elemJ, this]
structure FormOk (i : SIns) : Prop where
 known : i.op ∈ [0, 1, 2, 3, 4, 5, 6, 7, 8, 9, 10, 11, 12, 13, 14, 15, 16, 17, 18, 19, 20, 21, 22, 23, 24]
 none : i.op = 0 -> i.args.length = 0
 two : i.op ∈ op2 -> i.args.length = 2
 one : i.op ∈ op1 -> i.args.length = 1
 three : i.op = 20 -> i.args.length = 3
 pack : i.op = 22 -> (i.args.length : Int) = i.n /\ (i.n = 2 \/ i.n = 4)
 app : i.op = 14 -> 1 <= i.args.length
 num : numberF i = true
 many : i.args.length <= 16
theorem operands_cases (i : SIns) : (i.op = 0 /\ operandsF i = (0, true)) \/ (i.op ∈ op2 /\ operandsF i = (2, true)) \/ (i.op = 20 /\ operandsF i = (3, true)) \/ (i.op ∈ op1 /\ operandsF i = (1, true)) \/ (i.op ∈ opAny /\ operandsF i = (-1, true)) \/
  (i.op = 22 /\ operandsF i = (i.n, decide (i.n = 2) || decide (i.n = 4))) \/ operandsF i = (0, false) := by
 unfold operandsF
 split
 .rename_i h; exact .inl ⟨h, rfl⟩
 split
 .rename_i h; exact .inr (.inl ⟨(elem_iff _ _).1 h, rfl⟩)
 split
 .rename_i h; exact .inr (.inr (.inl ⟨h, rfl⟩))
 split
 .rename_i h; exact .inr (.inr (.inr (.inl ⟨(elem_iff _ _).1 h, rfl⟩)))
 split
 .rename_i h; exact .inr (.inr (.inr (.inr (.inl ⟨(elem_iff _ _).1 h, rfl⟩))))
 split
 .rename_i h; exact .inr (.inr (.inr (.inr (.inr (.inl ⟨h, rfl⟩)))))
 exact .inr (.inr (.inr (.inr (.inr (.inr rfl)))))
theorem form_of {i : SIns} (h : formF i = 0) : FormOk i := by
 obtain ⟨hb, hl, hn⟩ := form_ok h
 unfold formBad at hb
 unfold formLarge at hl
 simp only [Bool.or_eq_false_iff, Bool.not_eq_false', Bool.and_eq_false_iff, decide_eq_false_iff_not] at hb hl
 obtain ⟨⟨hk, hm⟩, ha⟩ := hb
 rcases operands_cases i with ⟨h1, e⟩ | ⟨h1, e⟩ | ⟨h1, e⟩ | ⟨h1, e⟩ | ⟨h1, e⟩ | ⟨h1, e⟩ | e <;> rw [e] at hk hm
 .simp at hm
  refine ⟨?_, ?_, ?_, ?_, ?_, ?_, ?_, hn, ?_⟩ <;> simp_all [op2, op1]
 .simp only [op2, Ya, Yc, or_false] at h1
  refine ⟨?_, ?_, ?_, ?_, ?_, ?_, ?_, hn, ?_⟩ <;> first | omega | (simp only [op1, op2, Ya, Yc, or_false]; omega)
 .refine ⟨?_, ?_, ?_, ?_, ?_, ?_, ?_, hn, ?_⟩ <;> first | omega | (simp only [op1, op2, Ya, Yc, or_false]; omega)
 .simp only [op1, Ya, Yc, or_false] at h1
  refine ⟨?_, ?_, ?_, ?_, ?_, ?_, ?_, hn, ?_⟩ <;> first | omega | (simp only [op1, op2, Ya, Yc, or_false]; omega)
 .simp only [opAny, Ya, Yc, or_false] at h1
  refine ⟨?_, ?_, ?_, ?_, ?_, ?_, ?_, hn, ?_⟩ <;> first | omega | (simp only [op1, op2, Ya, Yc, or_false]; omega)
 .simp at hk
  refine ⟨?_, ?_, ?_, ?_, ?_, ?_, ?_, hn, ?_⟩ <;> first | omega | (simp only [op1, op2, Ya, Yc, or_false]; omega)
 cases hk
theorem number_nn {i : SIns} (h : numberF i = true) (ho : i.op = 11 \/ i.op = 24) : 0 <= i.n := by
 unfold numberF at h
 rcases ho with ho | ho
 .rw [if_neg (by omega), if_neg (by omega), if_pos ho] at h
  exact (wi_iff.1 h).1
 have e : elemJ i.op [9, 13] = false := by simp [elemJ, ho]
 rw [if_neg (by omega), if_neg (by omega), if_neg (by omega), if_neg (by rw [e]; decide), if_neg (by omega), if_pos ho] at h
 exact (wi_iff.1 h).1
theorem ins_ok_of {u : SUnit} {i : SIns} (h : formF i = 0) (hc : callF u i = 0) : InsOk u i := by
 have hf := form_of h
 have hk := hf.known
 have hm := hf.many
 have two := hf.two
 have one := hf.one
 have h3 := hf.three
 have hp := hf.pack
 have hz := hf.none
 simp only [op1, op2, Ya, Yc, or_false] at hk two one
 have callc : i.op = 13 \/ i.op = 9 -> 0 <= i.n /\ i.n < u.fns.length /\ (i.op = 13 -> (entryOf u i.n).length = i.args.length) := λ ho => by
  unfold callF at hc
  rw [if_neg (by omega)] at hc
  split at hc
  .cases hc
  split at hc
  .cases hc
  rename_i h1 h2
  refine ⟨form_n h ho, by omega, λ h13 => ?_⟩
  apply Classical.byContradiction
  intro hne
  exact h2 (.inl ⟨h13, hne⟩)
 refine ⟨λ h13 h14 => ⟨?_, by omega, λ ht => ?_, λ ho => ?_, h3, λ ho => number_nn hf.num ho⟩, λ h13 => ?_, hf.app, λ h9 => ?_, by omega⟩
 .rw [elem_iff]
  simp only [Ya, Yc, or_false]
  omega
 .rw [elem_iff] at ht
  simp only [Ya, Yc, or_false] at ht
  omega
 .rw [elem_iff] at ho
  simp only [Ya, Yc, or_false] at ho
  omega
 .have := callc (.inl h13)
  exact ⟨this.1, this.2.1, this.2.2 h13⟩
 have := callc (.inr h9)
 exact ⟨this.1, this.2.1⟩
structure UnitOk (u : SUnit) : Prop where
 pos : 0 < u.fns.length
 len : u.fns.length <= 256
 main : 0 <= u.main /\ u.main < u.fns.length
 fns : ∀ f ∈ u.fns, FuncOk f
 entry : entryOf u u.main = []
 calls : ∀ f ∈ u.fns, ∀ b ∈ f.blocks, ∀ i ∈ b.ins, callF u i = 0
theorem unit_of {u : SUnit} (h : unitF u = 0) : UnitOk u := by
 unfold unitF at h
 split at h
 .cases h
 rename_i h1
 split at h
 .cases h
 rename_i h2
 split at h
 .cases h
 rename_i h3
 split at h
 .rename_i hc; exact absurd h hc
 rename_i hc
 split at h
 .cases h
 rename_i h5
 have h3 : wi u.main 0 (u.fns.length - 1) = true := by simpa using h3
 have h3 := wi_iff.1 h3
 have h4 := firstE_ok (Classical.not_not.1 hc)
 refine ⟨by omega, by omega, ⟨h3.1, by omega⟩, λ f hf => func_ok (h4 f hf), ?_, λ f hf b hb i hi => ?_⟩
 .cases he : entryOf u u.main with
  | nil => rfl
  | cons a l => rw [he] at h5; simp at h5
 exact firstE_ok (firstE_ok (firstE_ok h f hf) b hb) i hi
theorem UnitOk.u {u : SUnit} (h : UnitOk u) : UOk u :=
 ⟨h.main, h.entry, λ f hf => (h.fns f hf).ne, λ f hf b hb => term_ok_of (h.fns f hf) hb, λ f hf b hb i hi => ins_ok_of (((h.fns f hf).block hb).1 i hi) (h.calls f hf b hb i hi)⟩
theorem start_ok' {u : SUnit} (hU : UOk u) {fuel : Int} (h0 : 0 <= fuel) (h1 : fuel <= 1000000) : MOk u (startF u fuel) := by
 have hm : MOk u ⟨[], fuel, false, false, [], 0, 0, []⟩ := ⟨λ f hf => (by cases hf), λ l hl => (by cases hl), Nat.zero_le _, h0, (by show fuel + (0 : Nat) <= 1000001; omega)⟩
 exact enter_ok hU hm (by show fuel + (0 : Nat) <= 1000000; omega) hU.main.1 hU.main.2 λ a ha => (by cases ha)
theorem alloc_left (a b : Val) (M : Mach) : (allocF a b M).1.left <= M.left := by
 have hp : ∀ n : Int, 0 <= n -> (payF n M).left <= M.left := λ n hn => by unfold payF; split <;> dsimp only <;> omega
 unfold allocF
 split
 .exact Yn _
 split
 .exact Yn _
 rename_i h
 split <;> exact hp _ (by omega)
theorem effect_left (i : SIns) (args : List Val) (M : Mach) : (effectF i args M).1.left <= M.left := by
 have hs : ∀ v l, (setArr M v l).left <= M.left := λ v l => by unfold setArr; split <;> exact Yn _
 unfold effectF
 split
 .split
  .exact Yn _
  split <;> exact Yn _
 split
 .exact alloc_left _ _ _
 split
 .split
  .exact Yn _
  split <;> exact Yn _
 split
 .exact Yn _
 split
 .exact Yn _
 split
 .exact Yn _
 split
 .exact Yn _
 exact hs _ _
theorem exec_left (i : SIns) (args : List Val) (M : Mach) : (execF i args M).1.left <= M.left := by
 unfold execF
 split
 .exact Yn _
 split
 .split <;> exact Yn _
 split
 .exact Yn _
 split
 .exact Yn _
 split
 .exact Yn _
 split
 .exact Yn _
 split
 .exact Yn _
 exact effect_left _ _ _
theorem term_left (u : SUnit) (f : MFrame) (t : STerm) (fs : List MFrame) (M : Mach) : (termF u f t fs M).left = M.left := by
 unfold termF
 split
 .rfl
 split
 .rfl
 split
 .unfold leaveF
  split <;> rfl
 split <;> rfl
theorem step_left (u : SUnit) (M : Mach) : (stepF u M).left <= M.left := by
 unfold stepF
 split
 .exact Yn _
 dsimp only
 split
 .rw [term_left]; exact Yn _
 unfold insF
 dsimp only
 split
 .exact Yn _
 split
 .split <;> exact Yn _
 split <;> exact exec_left _ _ _
theorem goF_over {u : SUnit} {M : Mach} (h : M.over = true) : ∀ k, goF u k M = M
 | 0 => rfl
 | k + 1 => by rw [goF, if_pos h]
theorem goF_short {u : SUnit} {M : Mach} (h : M.over = false) (k : Nat) (hs : (payF 1 M).short = true) : goF u (k + 1) M = payF 1 M := by rw [goF, if_neg (by rw [h]; decide), if_pos hs]
theorem goF_step {u : SUnit} {M : Mach} (h : M.over = false) (k : Nat) (hs : (payF 1 M).short = false) : goF u (k + 1) M = goF u k (stepF u (payF 1 M)) := by rw [goF, if_neg (by rw [h]; decide), if_neg (by rw [hs]; decide)]
theorem payF_ok {M : Mach} (hs : (payF 1 M).short = false) : payF 1 M = { M with left := M.left - 1 } /\ 1 <= M.left := by
 unfold payF at hs ⊢
 split at hs
 .cases hs
 rename_i h
 rw [if_neg h]
 exact ⟨rfl, by omega⟩
theorem MOk.paid {u : SUnit} {M : Mach} (h : MOk u M) (h1 : 1 <= M.left) : MOk u { M with left := M.left - 1 } := ⟨h.frames, h.heap, h.out, by show 0 <= M.left - 1; omega, by have := h.left; show M.left - 1 + (M.stack.length : Int) <= 1000001; omega⟩
theorem paid_next {u : SUnit} (hU : UOk u) {M : Mach} (hM : MOk u M) (h1 : 1 <= M.left) (ho : M.over = false) (hne : M.stack ≠ []) {k : Nat} (hk : M.left + 1 <= ((k + 1 : Nat) : Int)) : (stepF u { M with left := M.left - 1 }).over = true \/ (stepF u { M with left := M.left - 1 }).stack ≠ [] /\ (stepF u { M with left := M.left - 1 }).left + 1 <= k := by
 obtain ⟨f, fs, hst⟩ := Yl hne
 rcases step_stack (M := { M with left := M.left - 1 }) hU (hM.paid h1) hst ho with h | h
 .exact .inl h
 have := step_left u { M with left := M.left - 1 }
 exact .inr ⟨h, by dsimp only at this; omega⟩
end Go.SM
end
