import Derived.Test.YtnklonhioneeoaaS3
set_option linter.unusedVariables false
set_option linter.unusedSimpArgs false
namespace Go.SM
open Go.VL
def DefsIn (n : Int) (d : Defs) : Prop := ∀ v p, dget d v = some p → 0 ≤ p.1 ∧ p.1 < n
theorem dget_snoc (v x : Int) (p : Int × Int) : ∀ d : Defs, dget (d ++ [(v, p)]) x = (dget d x).orElse fun _ => if v = x then some p else none
  | [] => by simp [dget]
  | (k, q) :: d => by
    rw [List.cons_append, dget, dget, dget_snoc v x p d]
    split <;> simp
theorem DefsIn.nil (n : Int) : DefsIn n [] := fun v p h => by cases h
theorem defineF_in {n : Int} {v : Int} {p : Int × Int} {d : Defs} (h : DefsIn n d) (h0 : 0 ≤ p.1) (h1 : p.1 < n) : DefsIn n (defineF v p d).2 := by
  unfold defineF
  split
  · exact h
  · split
    · exact h
    · intro x q hx
      dsimp only at hx
      rw [dget_snoc] at hx
      cases hd : dget d x with
      | some y => rw [hd] at hx; simp at hx; subst hx; exact h _ _ hd
      | none =>
        rw [hd] at hx
        simp at hx
        obtain ⟨_, rfl⟩ := hx
        exact ⟨h0, h1⟩
theorem paramsF_in {n k : Int} (h0 : 0 ≤ k) (h1 : k < n) : ∀ (l : List Int) {d : Defs}, DefsIn n d → DefsIn n (paramsF k l d).2
  | [], d, h => h
  | p :: l, d, h => by
    rw [paramsF]
    split
    · exact defineF_in h h0 h1
    · exact paramsF_in h0 h1 l (defineF_in h h0 h1)
theorem inssF_in {n k : Int} (h0 : 0 ≤ k) (h1 : k < n) : ∀ (l : List SIns) (j : Int) {d : Defs}, DefsIn n d → DefsIn n (inssF k j l d).2
  | [], j, d, h => h
  | i :: l, j, d, h => by
    rw [inssF]
    split
    · exact defineF_in h h0 h1
    · split
      · exact defineF_in h h0 h1
      · exact inssF_in h0 h1 l _ (defineF_in h h0 h1)
theorem blockF_in {n k : Int} (h0 : 0 ≤ k) (h1 : k < n) (bs : List SBlock) (b : SBlock) {d : Defs} (h : DefsIn n d) : DefsIn n (blockF bs k b d).2 := by
  unfold blockF
  split
  · exact paramsF_in h0 h1 _ h
  · split
    · exact inssF_in h0 h1 _ _ (paramsF_in h0 h1 _ h)
    · exact inssF_in h0 h1 _ _ (paramsF_in h0 h1 _ h)
theorem blocksF_in {n : Int} (bs : List SBlock) : ∀ (l : List SBlock) (k : Int) {d : Defs}, 0 ≤ k → k + l.length ≤ n → DefsIn n d → DefsIn n (blocksF bs k l d).2
  | [], k, d, _, _, h => h
  | b :: l, k, d, h0, h1, h => by
    rw [List.length_cons] at h1
    rw [blocksF]
    split
    · exact blockF_in h0 (by omega) bs b h
    · exact blocksF_in bs l (k + 1) (by omega) (by omega) (blockF_in h0 (by omega) bs b h)
theorem iter_len {bs : List SBlock} (h : ∀ b ∈ bs, ∀ e ∈ b.term.to, 1 ≤ e.block ∧ e.block < bs.length) : ∀ (n : Nat) {d : Dom}, DomOk bs.length d → DomOk bs.length (domIter bs n d)
  | 0, d, ok => ok
  | n + 1, d, ok => by
    rw [domIter]
    split
    · exact iter_len h n (pass_w (l := bs) (k := 0) (d := { d with again := false }) (by omega) ⟨ok.len, ok.le, ok.self⟩ h).1
    · exact ok
theorem dom_len {bs : List SBlock} (h0 : 0 < bs.length) (hn : bs.length ≤ 128) (h : ∀ b ∈ bs, ∀ e ∈ b.term.to, 1 ≤ e.block ∧ e.block < bs.length) : (domF bs).over.length = bs.length := (iter_len h _ (start_ok h0 hn)).len
def blockOk (bs : List SBlock) (b : SBlock) : Prop := (∀ i ∈ b.ins, formF i = 0) ∧ endF bs b.term = 0
theorem inssF_forms {k : Int} : ∀ (l : List SIns) (j : Int) (d : Defs), (inssF k j l d).1 = 0 → ∀ i ∈ l, formF i = 0
  | [], _, _, _, i, hi => by cases hi
  | x :: l, j, d, h, i, hi => by
    rw [inssF] at h
    split at h
    · rename_i hc; exact absurd h hc
    · split at h
      · rename_i hc; exact absurd h hc
      · rename_i hc
        rcases List.mem_cons.1 hi with rfl | hi
        · exact Classical.not_not.1 hc
        · exact inssF_forms l _ _ h i hi
theorem blockF_ok {bs : List SBlock} {k : Int} {b : SBlock} {d : Defs} (h : (blockF bs k b d).1 = 0) : blockOk bs b := by
  unfold blockF at h
  split at h
  · rename_i hc; exact absurd h hc
  · split at h
    · rename_i hc; exact absurd h hc
    · rename_i hc
      exact ⟨inssF_forms _ _ _ (Classical.not_not.1 hc), h⟩
theorem blocksF_ok {bs : List SBlock} : ∀ (l : List SBlock) (k : Int) (d : Defs), (blocksF bs k l d).1 = 0 → ∀ b ∈ l, blockOk bs b
  | [], _, _, _, b, hb => by cases hb
  | x :: l, k, d, h, b, hb => by
    rw [blocksF] at h
    split at h
    · rename_i hc; exact absurd h hc
    · rename_i hc
      rcases List.mem_cons.1 hb with rfl | hb
      · exact blockF_ok (Classical.not_not.1 hc)
      · exact blocksF_ok l _ _ h b hb
theorem edgesF_ok {bs : List SBlock} : ∀ {l : List SEdge}, edgesF bs l = 0 → ∀ e ∈ l, 1 ≤ e.block ∧ e.block < bs.length ∧ e.args.length = (paramsOf bs e.block).length
  | [], _, e, he => by cases he
  | x :: l, h, e, he => by
    rw [edgesF] at h
    split at h
    · cases h
    · rename_i h1
      split at h
      · cases h
      · rename_i h2
        rcases List.mem_cons.1 he with rfl | he
        · have h1 : wi e.block 1 (bs.length - 1) = true := by simpa using h1
          have := wi_iff.1 h1
          exact ⟨this.1, by omega, Classical.not_not.1 h2⟩
        · exact edgesF_ok h e he
structure EndOk (bs : List SBlock) (t : STerm) : Prop where
  shape : shapeF t = true
  many : (t.cases.length : Int) ≤ 256
  trap : t.kind = 4 → 1 ≤ t.n ∧ t.n ≤ 6
  cases : casesF [] t.cases = 0
  edges : ∀ e ∈ t.to, 1 ≤ e.block ∧ e.block < bs.length ∧ e.args.length = (paramsOf bs e.block).length
theorem endF_ok {bs : List SBlock} {t : STerm} (h : endF bs t = 0) : EndOk bs t := by
  unfold endF at h
  split at h
  · cases h
  · rename_i h1
    split at h
    · cases h
    · rename_i h2
      split at h
      · cases h
      · rename_i h3
        split at h
        · rename_i hc; exact absurd h hc
        · rename_i hc
          refine ⟨by simpa using h1, by omega, fun hk => ?_, Classical.not_not.1 hc, edgesF_ok h⟩
          have : wi t.n 1 6 = true := by
            cases hw : wi t.n 1 6 with
            | true => rfl
            | false => exact absurd ⟨hk, hw⟩ h3
          exact wi_iff.1 this
theorem blocks_edges {bs : List SBlock} {k : Int} {d : Defs} (h : (blocksF bs k bs d).1 = 0) : ∀ b ∈ bs, ∀ e ∈ b.term.to, 1 ≤ e.block ∧ e.block < bs.length := fun b hb e he =>
  have := (endF_ok (blocksF_ok bs k d h b hb).2).edges e he
  ⟨this.1, this.2.1⟩
theorem form_n {i : SIns} (h : formF i = 0) (ho : i.op = 13 ∨ i.op = 9) : 0 ≤ i.n := by
  unfold formF at h
  split at h
  · cases h
  · split at h
    · cases h
    · split at h
      · rename_i hn
        unfold numberF at hn
        have e : elemJ i.op [9, 13] = true := by rcases ho with h | h <;> simp [elemJ, h]
        rw [if_neg (by omega), if_neg (by omega), if_neg (by omega), if_pos e] at hn
        exact (wi_iff.1 hn).1
      · cases h
structure FuncOk (f : SFunc) : Prop where
  pos : 0 < f.blocks.length
  len : f.blocks.length ≤ 128
  ins : countIns 0 f.blocks ≤ 1024
  params : (paramsOf f.blocks 0).length ≤ 6
  name : -1 ≤ f.name ∧ f.name ≤ 1048575
  blocks : (blocksF f.blocks 0 f.blocks []).1 = 0
  uses : usesF (blocksF f.blocks 0 f.blocks []).2 (domF f.blocks) 0 f.blocks = 0
theorem func_ok {f : SFunc} (h : funcF f = 0) : FuncOk f := by
  unfold funcF at h
  split at h
  · cases h
  · rename_i h1
    split at h
    · cases h
    · rename_i h2
      split at h
      · cases h
      · rename_i h3
        split at h
        · rename_i hc; exact absurd h hc
        · rename_i hc
          have h3 : wi f.name (-1) 1048575 = true := by simpa using h3
          exact ⟨by omega, by omega, by omega, by omega, wi_iff.1 h3, Classical.not_not.1 hc, h⟩
theorem FuncOk.block {f : SFunc} (h : FuncOk f) {b : SBlock} (hb : b ∈ f.blocks) : blockOk f.blocks b := blocksF_ok _ _ _ h.blocks b hb
theorem FuncOk.ne {f : SFunc} (h : FuncOk f) : f.blocks ≠ [] := fun e => by have := h.pos; rw [e] at this; cases this
theorem firstE_ok {α : Type} {f : α → Int} : ∀ {l : List α}, firstE f l = 0 → ∀ x ∈ l, f x = 0
  | [], _, x, hx => by cases hx
  | y :: l, h, x, hx => by
    rw [firstE] at h
    split at h
    · rename_i hc; exact absurd h hc
    · rename_i hc
      rcases List.mem_cons.1 hx with rfl | hx
      · exact Classical.not_not.1 hc
      · exact firstE_ok h x hx
end Go.SM
