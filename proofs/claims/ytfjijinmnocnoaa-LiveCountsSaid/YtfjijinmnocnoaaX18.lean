/- Walks, printed by walk.py. -/
import Derived.Test.YtfjijinmnocnoaaVT
import Derived.Test.YtfjijinmnocnoaaS2
import Derived.Test.YtfjijinmnocnoaaVI
import Derived.Test.YtfjijinmnocnoaaL7
import Derived.Test.YtfjijinmnocnoaaX1
import Derived.Test.YtfjijinmnocnoaaX2
import Derived.Test.YtfjijinmnocnoaaX3
import Derived.Test.YtfjijinmnocnoaaX4
import Derived.Test.YtfjijinmnocnoaaX5
import Derived.Test.YtfjijinmnocnoaaX6
import Derived.Test.YtfjijinmnocnoaaX7
import Derived.Test.YtfjijinmnocnoaaX8
import Derived.Test.YtfjijinmnocnoaaX9
import Derived.Test.YtfjijinmnocnoaaX10
import Derived.Test.YtfjijinmnocnoaaX16
import Derived.Test.YtfjijinmnocnoaaXW
set_option linter.unusedVariables false
set_option linter.unusedSimpArgs false
namespace Go.Proofs.Ytfjijinmnocnoaa.X18
open Go.VL Go.SM Go.Proofs.Ytfjijinmnocnoaa Go.Proofs.Ytfjijinmnocnoaa.X1 Go.Proofs.Ytfjijinmnocnoaa.X2 Go.Proofs.Ytfjijinmnocnoaa.X3 Go.Proofs.Ytfjijinmnocnoaa.X4 Go.Proofs.Ytfjijinmnocnoaa.X5 Go.Proofs.Ytfjijinmnocnoaa.X6 Go.Proofs.Ytfjijinmnocnoaa.X7 Go.Proofs.Ytfjijinmnocnoaa.X8 Go.Proofs.Ytfjijinmnocnoaa.X9 Go.Proofs.Ytfjijinmnocnoaa.X10 Go.Proofs.Ytfjijinmnocnoaa.X16 Go.Proofs.Ytfjijinmnocnoaa.XW

theorem perm_b {r a b c : Own} {O : Store} : (r :: a :: b :: c :: O).Perm ((r :: O) ++ [a, b, c]) := .cons _ (List.perm_append_comm (l₁ := [a, b, c]))
theorem drop_b {r a b c : Own} {O : Store} : Drops ((r :: O) ++ [a, b, c]) (r :: a :: b :: c :: O) := Drops.of_perm perm_b.symm

def rgV (r : Rg) : V := .agg [.int r.v, .int r.k, .int r.a, .int r.b]
abbrev rgL (l : List Rg) : List V := (l.map rgV).flatMap V.leaves
theorem rg_fit (l : List Rg) : ∀ x ∈ l.map rgV, x.leaves.length = 4 := fun x hx => by
  obtain ⟨n, _, rfl⟩ := List.mem_map.1 hx
  rfl
theorem rg_fits (l : List Rg) : ∀ x ∈ l.map rgV, x.fits 4 = true ∧ ((∃ ls, x = .agg ls) ∨ x.leaf = true) := fun x hx => by
  obtain ⟨n, _, rfl⟩ := List.mem_map.1 hx
  exact ⟨rfl, .inl ⟨_, rfl⟩⟩
theorem rgL_cons (r : Rg) (l : List Rg) : rgL (r :: l) = V.int r.v :: V.int r.k :: V.int r.a :: V.int r.b :: rgL l := rfl
theorem rgL_app (a b : List Rg) : rgL (a ++ b) = rgL a ++ rgL b := by simp [rgL]
theorem rgL_len : ∀ l : List Rg, (rgL l).length = l.length * 4
  | [] => rfl
  | p :: l => by rw [rgL_cons, List.length_cons, List.length_cons, List.length_cons, List.length_cons, rgL_len, List.length_cons]; omega
/-- A value's row of ranges: it is nil, or lies in a block of its own. -/
structure RRow where
  g : Nat
  cap : Nat
  l : List Rg
  rest : List V
abbrev Rows := List (Option RRow)
def rl : Option RRow → List Rg
  | none => []
  | some r => r.l
def rLeaf : Option RRow → V
  | none => V.nilSl
  | some r => .raw (.slice (some ⟨r.g, 0, none⟩) r.l.length r.cap)
abbrev rowC (r : RRow) : Own := .cells r.g 41 (rgL r.l ++ r.rest)
def rOwn : Option RRow → Store
  | none => []
  | some r => [rowC r]
def SOk (k : Nat) (l : List Rg) : Prop := l.Pairwise (fun r s => r.k < s.k) ∧ ∀ r ∈ l, r.k ≤ k
def rOk (k : Nat) : Option RRow → Prop
  | none => True
  | some r => r.l ≠ [] ∧ r.l.length ≤ r.cap ∧ r.cap ≤ maxLen ∧ (rgL r.l ++ r.rest).length = r.cap * 4 ∧ SOk k r.l
theorem sok_len {k : Nat} {l : List Rg} (h : SOk k l) : l.length ≤ k + 1 := by
  have key : ∀ (l : List Rg) (lo : Nat), l.Pairwise (fun r s => r.k < s.k) → (∀ r ∈ l, lo ≤ r.k ∧ r.k ≤ k) → l.length ≤ k + 1 - lo := by
    intro l
    induction l with
    | nil => intro lo _ _; exact Nat.zero_le _
    | cons r l ih =>
      intro lo ho ht
      obtain ⟨h1, h2⟩ := List.pairwise_cons.1 ho
      obtain ⟨g1, g2⟩ := ht r (List.mem_cons_self ..)
      have := ih (r.k + 1) h2 (fun s hs => ⟨h1 s hs, (ht s (List.mem_cons_of_mem _ hs)).2⟩)
      rw [List.length_cons]
      omega
  exact key l 0 h.1 fun r hr => ⟨Nat.zero_le _, h.2 r hr⟩
theorem sok_same {k p : Nat} {l0 : List Rg} {r : Rg} (h : SOk k (l0 ++ [r])) : SOk k (l0 ++ [⟨r.v, r.k, p, r.b⟩]) := by
  obtain ⟨h1, h2⟩ := h
  have h1 := List.pairwise_append.1 h1
  refine ⟨List.pairwise_append.2 ⟨h1.1, by simp, fun s hs t ht => ?_⟩, fun s hs => ?_⟩
  · rw [List.mem_singleton.1 ht]
    exact h1.2.2 s hs r (List.mem_singleton.2 rfl)
  · rcases List.mem_append.1 hs with hs | hs
    · exact h2 s (List.mem_append_left _ hs)
    · rw [List.mem_singleton.1 hs]
      exact h2 r (List.mem_append_right _ (List.mem_singleton.2 rfl))
theorem sok_new {k v p : Nat} {l0 : List Rg} {r : Rg} (h : SOk k (l0 ++ [r])) (hne : r.k ≠ k) : SOk k ((l0 ++ [r]) ++ [⟨v, k, p, p⟩]) := by
  obtain ⟨h1, h2⟩ := h
  have h3 := List.pairwise_append.1 h1
  have hr := h2 r (List.mem_append_right _ (List.mem_singleton.2 rfl))
  refine ⟨List.pairwise_append.2 ⟨h1, by simp, fun s hs t ht => ?_⟩, fun s hs => ?_⟩
  · rw [List.mem_singleton.1 ht]
    show s.k < k
    rcases List.mem_append.1 hs with hs | hs
    · have := h3.2.2 s hs r (List.mem_singleton.2 rfl)
      omega
    · rw [List.mem_singleton.1 hs]; omega
  · rcases List.mem_append.1 hs with hs | hs
    · exact h2 s hs
    · rw [List.mem_singleton.1 hs]; exact Nat.le_refl _
theorem sok_one {k v p : Nat} : SOk k [⟨v, k, p, p⟩] := ⟨by simp, fun r hr => by rw [List.mem_singleton.1 hr]; exact Nat.le_refl _⟩
theorem sok_next {k : Nat} {l : List Rg} (h : SOk k l) : SOk (k + 1) l := ⟨h.1, fun r hr => Nat.le_succ_of_le (h.2 r hr)⟩
theorem rows_split {rows : Rows} {w : Nat} {o : Option RRow} (h : rows[w]? = some o) (o' : Option RRow) : (rows.flatMap rOwn).Perm (rOwn o ++ (rows.set w none).flatMap rOwn) ∧ (rOwn o' ++ (rows.set w none).flatMap rOwn).Perm ((rows.set w o').flatMap rOwn) := by
  obtain ⟨hw, he⟩ := List.getElem?_eq_some_iff.1 h
  have h1 : rows = rows.take w ++ o :: rows.drop (w + 1) := by
    conv => lhs; rw [← List.take_append_drop w rows, drop_cons h]
  have h2 : ∀ x, rows.set w x = rows.take w ++ x :: rows.drop (w + 1) := fun x => by rw [List.set_eq_take_append_cons_drop, if_pos hw]
  have h3 : (rows.set w none).flatMap rOwn = (rows.take w).flatMap rOwn ++ (rows.drop (w + 1)).flatMap rOwn := by
    rw [h2, List.flatMap_append, List.flatMap_cons]
    rfl
  have h4 : ∀ x : Option RRow, (rOwn x ++ ((rows.take w).flatMap rOwn ++ (rows.drop (w + 1)).flatMap rOwn)).Perm ((rows.take w ++ x :: rows.drop (w + 1)).flatMap rOwn) := fun x => by
    rw [List.flatMap_append, List.flatMap_cons, ← List.append_assoc, ← List.append_assoc]
    exact List.perm_append_comm.append_right _
  refine ⟨?_, ?_⟩
  · rw [h3]
    conv => lhs; rw [h1]
    exact (h4 o).symm
  · rw [h3, h2]
    exact h4 o'
theorem front4 {a b c d x : Own} {Y Y2 : Store} (h : Y.Perm (x :: Y2)) : (a :: b :: c :: d :: Y).Perm (x :: a :: b :: c :: d :: Y2) :=
  ((((h.cons d).cons c).cons b).cons a).trans (List.perm_middle (l₁ := [a, b, c, d]))
theorem back4 {a b c d x : Own} {Y Y2 : Store} (h : (x :: Y2).Perm Y) : (x :: a :: b :: c :: d :: Y2).Perm (a :: b :: c :: d :: Y) := (front4 h.symm).symm
theorem same4 {a b c d : Own} {Y Y2 : Store} (h : Y.Perm Y2) : (a :: b :: c :: d :: Y).Perm (a :: b :: c :: d :: Y2) := ((((h.cons d).cons c).cons b).cons a)
theorem leaf_set (rows : Rows) (w : Nat) (o : Option RRow) : (rows.map rLeaf).set w (rLeaf o) ++ [] = (rows.set w o).map rLeaf := by rw [List.append_nil, List.map_set]
theorem leaf_same {rows : Rows} {w : Nat} {o o' : Option RRow} (h : rows[w]? = some o) (he : rLeaf o = rLeaf o') : rows.map rLeaf = (rows.set w o').map rLeaf := by
  obtain ⟨hw, hg⟩ := List.getElem?_eq_some_iff.1 h
  rw [List.map_set, ← he, ← hg]
  have h2 : (rows.map rLeaf)[w]'(by simpa using hw) = rLeaf rows[w] := List.getElem_map ..
  rw [← h2, List.set_getElem_self]
theorem rl_set {rows : Rows} {w k p : Nat} {o o' : Option RRow} (h : rows[w]? = some o) (he : rl o' = markR k p w (rl o)) : (rows.set w o').map rl = valR k p (rows.map rl) (w : Int) := by
  rw [valR, List.map_set, he, Int.toNat_natCast, List.getElem?_map, h]
  rfl
theorem rows_ok_set {k : Nat} {rows : Rows} {w : Nat} {o : Option RRow} (h : ∀ x ∈ rows, rOk k x) (ho : rOk k o) : ∀ x ∈ rows.set w o, rOk k x := fun x hx => by
  rcases List.mem_or_eq_of_mem_set hx with hx | rfl
  · exact h x hx
  · exact ho
theorem rg_at (l0 : List Rg) (r : Rg) (rest : List V) (j : Nat) : (rgL (l0 ++ [r]) ++ rest)[l0.length * 4 + j]? = ((V.int r.v :: V.int r.k :: V.int r.a :: V.int r.b :: rest))[j]? := by
  rw [rgL_app, List.append_assoc, List.getElem?_append_right (by rw [rgL_len]; omega), rgL_len, show l0.length * 4 + j - l0.length * 4 = j by omega]
  rfl
theorem rg_set2 (l0 : List Rg) (r : Rg) (rest : List V) (p : Nat) : (rgL (l0 ++ [r]) ++ rest).set (l0.length * 4 + 2) (V.int p) = rgL (l0 ++ [⟨r.v, r.k, p, r.b⟩]) ++ rest := by
  rw [rgL_app, rgL_app, List.append_assoc, List.append_assoc, List.set_append_right _ _ (by rw [rgL_len]; omega), rgL_len, show l0.length * 4 + 2 - l0.length * 4 = 2 by omega]
  rfl
theorem mark_same {k p v : Nat} {l0 : List Rg} {r : Rg} (h : r.k = k) : markR k p v (l0 ++ [r]) = l0 ++ [⟨r.v, r.k, p, r.b⟩] := by
  unfold markR
  rw [List.getLast?_concat]
  dsimp only
  rw [if_pos h, List.dropLast_concat]
theorem mark_new {k p v : Nat} {l0 : List Rg} {r : Rg} (h : r.k ≠ k) : markR k p v (l0 ++ [r]) = (l0 ++ [r]) ++ [⟨v, k, p, p⟩] := by
  unfold markR
  rw [List.getLast?_concat]
  dsimp only
  rw [if_neg h]
/-- What a growing row gives, made fit where it is not. -/
def nrm (n : Nat) (x : Nat × Nat × List V) : Nat × Nat × List V := if n ≤ x.2.1 ∧ x.2.1 ≤ maxLen ∧ n * 4 + x.2.2.length = x.2.1 * 4 then x else (x.1, n, [])
theorem nrm_ok {n : Nat} (hn : n ≤ maxLen) (x : Nat × Nat × List V) : n ≤ (nrm n x).2.1 ∧ (nrm n x).2.1 ≤ maxLen ∧ n * 4 + (nrm n x).2.2.length = (nrm n x).2.1 * 4 := by
  unfold nrm
  split
  · assumption
  · exact ⟨Nat.le_refl _, hn, rfl⟩
theorem nrm_eq {n g cap : Nat} {rest : List V} (h1 : n ≤ cap) (h2 : cap ≤ maxLen) (h3 : n * 4 + rest.length = cap * 4) : nrm n (g, cap, rest) = (g, cap, rest) := if_pos ⟨h1, h2, h3⟩
theorem app_len (a b : List V) : (a ++ b).length = a.length + b.length := List.length_append
theorem rg_take (l : List Rg) (rest X : List V) : (rgL l ++ rest).take (l.length * 4) ++ X = rgL l ++ X := by
  rw [← rgL_len l, List.take_left]

theorem flatten_le {α : Type} {rows : List (List α)} {k : Nat} {r : List α} (h : rows[k]? = some r) : (rows.take k).flatten.length + r.length ≤ rows.flatten.length := by
  have h1 : (rows.take (k + 1)).flatten.length ≤ rows.flatten.length := by
    conv => rhs; rw [← List.take_append_drop (k + 1) rows, List.flatten_append, List.length_append]
    omega
  rw [take_snoc h, List.flatten_append, List.length_append] at h1
  simpa using h1

open Go.VL renaming VOps_nil → Za, VW_seq → Zb, VW_region → Zd, Needs_nil → Ze, want_of → Zg, VOps_skipU → Zh, Then_n → Zi, V_fieldAddr → Zj, V_assign → Zk, V_move → Zl, eqRes → Zm, vopT → Zn, goodS → Zo, good0 → Zq, skip_of → Zr, VW_block → Zs, VW_exit → Zt, V_load → Zu, V_load_agg → Zv, V_store_agg → Zx, V_store → Zy, V_indexAddr → Zz, InBlock_r → Za1, InBlock_n → Zb1, InBlock_hit → Zc1, Then_r → Zd1, Then_e → Ze1, VW_ret → Zf1, VRet_one → Zg1, VRet_many → Zh1, VW_skip → Zi1, V_bin → Zj1, VW_condEq → Zl1, VW_condNe → Zm1, VW_condP → Zn1, VW_condN → Zo1, VW_condT → Zp1, VW_condF → Zq1, VW_cond → Zr1, V_pickT → Zs1, V_pickF → Zt1, V_nilCheck → Zv1, V_fieldAddr_ep → Zw1, V_callP → Zx1, V_load_ep → Zz1, V_load_ep_agg → Za2, V_alloc → Zb2, V_box → Zc2, V_lenN → Zd2, V_build → Zf2, V_extract → Zg2, V_add → Zh2, VW_loopF → Zi2, VOps_split → Zj2, V_sub → Zk2, V_not → Zl2, goodA → Zm2, goodU → Zo2, evs_cons → Zp2, evs_nil → Zq2, V_indexAddr_row → Zr2, Drops.refl → Zt2, VOp_as → Zu2, perm_erase → Zv2, oneRes → Zw2, oneE → Zx2, vopF → Zy2, anyRes → Za3, V_load_elem1 → Zf3, V_store_elem1 → Zh3, V_appendN → Zi3, V_lit → Zk3, V_callKs → Zl3, V_call → Zm3, VRet_end → Zn3
set_option maxRecDepth 100000 in
theorem listR_c (l : List Bool) (hl : l.length ≤ 1000000) (gr cap : Nat) (rest : List V) : VKeep Try.prog 17 [.raw (.slice (some ⟨gr, 0, none⟩) l.length cap)] [.cells gr 4 (l.map V.bool ++ rest)] (intsX (listF 0 l)) := by
 refine VKeep.drops ?_
 refine V_start (nt := 20) Try.func17 rfl rfl rfl ?_
 refine Zb (Zd (Zc (Zk rfl (Za (Zi (Zb (Zd (Zc (V_assign_nil 3 1 (Za (Zi (Zb (Zb (Zd (Zc (Zl rfl ?_))))))))))))))))
 refine Zc (V_len_raw Try.underlying45 rfl ?_)
 refine Zc (Zl rfl (Za (Zi (Zs ?_))))
 refine Zi2 (ι := Tok × Nat × List Int) (fun (tok, k, out) => l.length - k) (fun (tok, k, out) => [(3, some (.sl 1 (some tok) (out.map V.int))), (6, some (.raw (.slice (some ⟨gr, 0, none⟩) l.length cap))), (7, some (.int l.length)), (8, some (.int k))]) (fun (tok, k, out) => [.buf tok 3 1 out.length, .cells gr 4 (l.map V.bool ++ rest)]) (fun (tok, k, out) => k ≤ l.length ∧ out ++ listF k (l.drop k) = listF 0 l ∧ out.length ≤ k) (.nil, 0, []) ⟨Nat.zero_le _, rfl, Nat.le_refl _⟩ ⟨rfl, rfl, rfl, rfl, trivial⟩ (Drops.buf (by simp) (Drops.keep (Zt2 _))) ?_
 rintro ⟨tok, k, out⟩ hA
 change k ≤ l.length ∧ out ++ listF k (l.drop k) = listF 0 l ∧ out.length ≤ k at hA
 obtain ⟨hk, hq, hol⟩ := hA
 refine Zb (Zd (Zc (Zj1 rfl rfl rfl (Za (Zi (Zb ?_))))))
 refine Zn1 rfl (fun h9 => ?_) (fun h9 => ?_)
 ·
  obtain ⟨b, hb⟩ := get_of_lt l k h9
  rw [drop_cons hb, listF] at hq
  refine Zi1 (Zi (Zb (Zs (Zb (Zd (Zc (Zl rfl ?_)))))))
  refine Zc (Zr2 VT.sl45 rfl rfl (by omega) (by omega) ?_)
  refine Zc (Zf3 1 k VT.ty4 rfl (by simp) rfl rfl (get_bool hb) ?_)
  refine Zc (Zk rfl (Zc (Zk rfl (Za (Zi (Zb (Zd (Zc (Zl rfl (Za (Zi ?_)))))))))))
  refine Zr1 rfl (fun h13 => ?_) (fun h13 => ?_)
  ·
   rw [if_pos h13] at hq
   have hA2 : k + 1 ≤ l.length ∧ (out ++ [(k : Int)]) ++ listF (k + 1) (l.drop (k + 1)) = listF 0 l ∧ (out ++ [(k : Int)]).length ≤ k + 1 := ⟨by omega, by rw [List.append_assoc]; exact hq, by simp; omega⟩
   refine Zd (Zc (Zl rfl (Zc (Zl rfl ?_))))
   refine Zc (Zk3 [.tmp 15] VT.sl31 rfl rfl rfl rfl rfl ?_)
   refine Zc (Zi3 0 _ VT.sl31 rfl rfl rfl (by simp) (by simp; omega) (fun t17 => ?_))
   refine Zc (Zk rfl (Za (Zb1 (Zi (Zd ?_)))))
   refine Zc (Zh2 rfl rfl (by omega) ?_)
   refine Zc (Zl rfl (Za (Zi ?_)))
   exact ⟨(t17, k + 1, out ++ [(k : Int)]), (by (try simp only []); omega), hA2, ⟨(by first | rfl | (rw [List.map_append]; rfl)), rfl, rfl, rfl, trivial⟩, (Drops.buf (by simp) (Drops.keep (Zt2 _)))⟩
  ·
   rw [if_neg (by rw [h13]; decide)] at hq
   have hA2 : k + 1 ≤ l.length ∧ out ++ listF (k + 1) (l.drop (k + 1)) = listF 0 l ∧ out.length ≤ k + 1 := ⟨by omega, hq, by omega⟩
   refine Zi1 (Zb1 (Zi (Zd ?_)))
   refine Zc (Zh2 rfl rfl (by omega) ?_)
   refine Zc (Zl rfl (Za (Zi ?_)))
   exact ⟨(tok, k + 1, out), (by (try simp only []); omega), hA2, ⟨(by first | rfl | (rw [List.map_append]; rfl)), rfl, rfl, rfl, trivial⟩, (Drops.buf (by simp) (Drops.keep (Zt2 _)))⟩
 ·
  have hke : k = l.length := by omega
  subst hke
  rw [List.drop_length, listF, List.append_nil] at hq
  refine Zt (Ze1 (Ze1 (Zc1 (Zi (Zb (Zd (Zc (Zl rfl (Zc (Zk rfl (Za (Zi (Zf1 ?_)))))))))))))
  refine Zg1 rfl (.strip rfl) ?_
  exact ⟨by rw [← hq]; rfl, (Drops.drop (Drops.keep (Zt2 _)))⟩


set_option maxRecDepth 100000 in
set_option maxHeartbeats 4000000 in
theorem backC_c {bs : List SBlock} {many k : Nat} {b : SBlock} {behind : Sets} {s : List Bool} (ok : RangeOk bs many) (hb : bs[k]? = some b) (hbl : behind.length = bs.length) (hs : behind[k]? = some (some s)) (hsl : s.length = many) (h1 : 1 ≤ many) (hm : many ≤ 1000000) (gl gb : Nat) (name : Int) {c : FuncId} {caps : List V} (hen : Enters Try.prog c) {ι : Type} (O : ι → Store) (Ok : Nat → ι → Prop) (x0 : ι) (hok0 : Ok (b.ins.length + 1) x0) (hc : ∀ x p gr cap rest, p ≤ b.ins.length → Ok (p + 1) x → VCalls Try.prog c (.int (p : Nat) :: .raw (.slice (some ⟨gr, 0, none⟩) s.length cap) :: caps) (.cells gr 4 ((liveAt b s p).map V.bool ++ rest) :: O x) fun r S' => ∃ y, S' = .cells gr 4 ((liveAt b s p).map V.bool ++ rest) :: O y ∧ Ok p y) : VCalls Try.prog 15 [.ptr gl 0, .int k, .clo (.func c) caps] (.cells gl 64 (lifeL name bs many (.raw (.slice (some ⟨gb, 0, none⟩) bs.length bs.length))) :: .cells gb 45 (behind.map lsV) :: O x0) fun r S' => ∃ y, S' = .cells gl 64 (lifeL name bs many (.raw (.slice (some ⟨gb, 0, none⟩) bs.length bs.length))) :: .cells gb 45 (behind.map lsV) :: O y ∧ Ok 0 y := by
 refine VCalls_drops ?_
 have hbm := List.mem_of_getElem? hb
 have hkl : k < bs.length := (List.getElem?_eq_some_iff.1 hb).1
 have hil : b.ins.length ≤ b.ins.length := Nat.le_refl _
 refine V_start (nt := 64) Try.func15 rfl rfl rfl ?_
 refine Zb (Zd (Zc (Zk rfl (Za (Zi (Zb (Zd (Zc (Zl rfl (Zc (Zv1 rfl (Zc (Zj VT.fa64_0 rfl (Zc (Zj VT.fa24_1 rfl (Zc (Zu 0 VT.ty22 rfl rfl rfl (Zc (Zl rfl ?_)))))))))))))))))))
 refine Zc (Zz (el := blockV b) VT.sl22 rfl rfl (by omega) (get_mapS _ hb) (fun a19 => ?_))
 refine Zc (Za2 VT.ty37 rfl rfl ?_)
 refine Zc (Zb2 VT.zr37 _ rfl rfl (fun g7 => ?_))
 refine Zc (Zx 0 VT.ty37 rfl rfl rfl rfl rfl (Za (Zi (Zb (Zd (Zc (Zl rfl (Zc (Zv1 rfl (Zc (Zj VT.fa64_2 rfl (Zc (Zu 1 VT.ty59 rfl rfl rfl (Zc (Zl rfl ?_)))))))))))))))
 refine Zc (Zr2 VT.sl59 rfl rfl (by omega) (by omega) ?_)
 refine Zc (Zf3 2 k VT.ty45 rfl (by simp) rfl (List.append_nil _).symm (get_mapS lsV hs) ?_)
 refine Zc (V_callG [.tmp 27] [] _ rfl rfl VT.en33 (.refl _) ((boolCloneRow_c s (fun e => by rw [e] at hsl; simp at hsl; omega) (by omega))) ?_)
 rintro r Sa ⟨gr, cap, rest, hcc, hcm, rfl, rfl⟩
 refine ⟨_, Zt2 _, ?_⟩
 rw [flat_bools]
 refine Zc (Zk rfl (Za (Zi (Zb (Zd (Zc (Zj VT.fa37_1 rfl (Zc (Zu 1 VT.ty32 rfl rfl rfl ?_)))))))))
 refine Zc (Zd2 (n := b.ins.length) Try.underlying32 rfl (by simp) (fun hl31 => ?_))
 refine Zc (Zk rfl (Za (Zi (Zs ?_))))
 refine Zi2 (ι := Nat × ι) (fun (n, x) => n) (fun (n, x) => [(2, some (.clo (.func c) caps)), (7, some (.ptr g7 0)), (8, some (.raw (.slice (some ⟨gr, 0, none⟩) s.length cap))), (9, some (.int n))]) (fun (n, x) => .cells gr 4 ((liveAt b s n).map V.bool ++ rest) :: .cells g7 37 (blockV b).leaves :: .cells gl 64 (lifeL name bs many (.raw (.slice (some ⟨gb, 0, none⟩) bs.length bs.length))) :: .cells gb 45 (behind.map lsV) :: O x) (fun (n, x) => n ≤ b.ins.length ∧ Ok (n + 1) x) (b.ins.length, x0) ⟨Nat.le_refl _, hok0⟩ ⟨rfl, rfl, rfl, rfl, trivial⟩ (Drops.keepE (by rw [liveAt_end]) (Drops.keep (Drops.keep (Drops.keep (Zt2 _))))) ?_
 rintro ⟨n, x⟩ hA
 change n ≤ b.ins.length ∧ Ok (n + 1) x at hA
 obtain ⟨hn, hokx⟩ := hA
 have hnl : (liveAt b s n).length = s.length := liveAt_len b s n
 refine Zb (Zs (Zb (Zb (Zd (Zc (Zl rfl ?_))))))
 refine Zc (V_fnNeT Try.underlying67 rfl ?_)
 refine Za (Zi ?_)
 refine Zp1 rfl rfl ?_
 refine Zd (Zc (Zl rfl (Zc (Zl rfl (Zc (Zl rfl ?_))))))
 refine Zc (V_callCloG [.tmp 37, .tmp 38] (.cells gr 4 ((liveAt b s n).map V.bool ++ rest) :: O x) [_, _, _] rfl rfl rfl hen perm_b (hc x n gr cap rest hn hokx) ?_)
 rintro r Sa ⟨y, rfl, hoky⟩
 refine ⟨_, drop_b, ?_⟩
 refine Za (Zi (Zb (Zb (Zd (Zc (Zl rfl (Zc (Zj1 rfl rfl rfl (Za (Zi ?_))))))))))
 refine Zl1 rfl (fun h41 => ?_) (fun h41 => ?_)
 ·
  have hn0 : n = 0 := by omega
  subst hn0
  refine VW_freeze 0 (q := 8) (rest := rest) ((liveAt b s 0).map V.bool) rfl rfl (by rw [flat_bools]) (by simp [hnl]) hcc hcm (fits_boolsR _) ?_
  refine Zb (Zd (Zc (Zl rfl (Zc (Zk rfl (Za (Zi (Zf1 ?_))))))))
  refine Zd1 (Za1 (Zd1 (Zd1 (Za1 (Zg1 rfl (.tmp rfl) ?_)))))
  exact ⟨_, (Drops.drop (Drops.keep (Drops.keep (Zt2 _)))), y, rfl, hoky⟩
 ·
  obtain ⟨m, rfl⟩ : ∃ m, n = m + 1 := ⟨n - 1, by omega⟩
  obtain ⟨i, hi⟩ := get_of_lt b.ins m (by omega)
  have him := List.mem_of_getElem? hi
  obtain ⟨ht1, ht2⟩ := ok.to b hbm i him
  have hia := ok.args b hbm i him
  have hls := liveAt_step (s := s) hi
  refine Zi1 (Zi (Zb (Zd (Zc (Zj VT.fa37_1 rfl (Zc (Zu 1 VT.ty32 rfl rfl rfl (Zc (Zl rfl ?_)))))))))
  refine Zc (Zu2 (Zk2 rfl rfl (by omega) ⟨rfl, rfl⟩) ((V.le.of_eq (congrArg V.int (show ((m + 1 : Nat) : Int) - 1 = (m : Int) by omega)) : V.le _ (.int (m : Int)))) ?_)
  refine Zc (Zz (el := insV i) VT.sl32 rfl rfl (by omega) (get_mapS _ hi) (fun a47 => ?_))
  refine Zc (Za2 VT.ty39 rfl rfl ?_)
  refine Zc (Zb2 VT.zr39 _ rfl rfl (fun g10 => ?_))
  refine Zc (Zx 0 VT.ty39 rfl rfl rfl rfl rfl (Za (Zi (Zb (Zd (Zc (Zl rfl (Zc (Zj VT.fa39_0 rfl (Zc (Zu 0 VT.ty3 rfl rfl rfl ?_)))))))))))
  refine Zc (Zr2 VT.sl45 rfl rfl (by omega) (by omega) ?_)
  refine Zc (Zh3 1 i.to.toNat VT.ty4 rfl (by simp) rfl rfl rfl rfl (by rw [List.length_map]; omega) ?_)
  refine Za (Zi ?_)
  rw [bools_set2]
  refine Zb (Zd (Zc (Zj VT.fa39_3 rfl (Zc (Zu 0 VT.ty31 rfl rfl rfl ?_)))))
  refine Zc (Zd2 (n := i.args.length) Try.underlying31 rfl (by simp) (fun hl55 => ?_))
  refine Zc (Zl rfl (Za (Zi (Zs ?_))))
  refine Zi2 (ι := Nat × List Bool) (fun (j, now2) => i.args.length - j) (fun (j, now2) => [(2, some (.clo (.func c) caps)), (7, some (.ptr g7 0)), (8, some (.raw (.slice (some ⟨gr, 0, none⟩) s.length cap))), (9, some (.int ((m + 1 : Nat) : Int))), (54, some (intsX i.args)), (55, some (.int i.args.length)), (56, some (.int j))]) (fun (j, now2) => .cells gr 4 (now2.map V.bool ++ rest) :: .cells g7 37 (blockV b).leaves :: .cells gl 64 (lifeL name bs many (.raw (.slice (some ⟨gb, 0, none⟩) bs.length bs.length))) :: .cells gb 45 (behind.map lsV) :: O y) (fun (j, now2) => j ≤ i.args.length ∧ now2.length = s.length ∧ setsF now2 (i.args.drop j) = (liveAt b s m)) (0, (liveAt b s (m + 1)).set i.to.toNat false) ⟨Nat.zero_le _, by rw [List.length_set]; exact hnl, hls.symm⟩ ⟨rfl, rfl, rfl, rfl, rfl, rfl, rfl, trivial⟩ (Drops.drop (Drops.keep (Drops.keep (Drops.keep (Drops.keep (Zt2 _)))))) ?_
  rintro ⟨j, now2⟩ hA2
  change j ≤ i.args.length ∧ now2.length = s.length ∧ setsF now2 (i.args.drop j) = (liveAt b s m) at hA2
  obtain ⟨hj, hnl2, hq2⟩ := hA2
  refine Zb (Zd (Zc (Zj1 rfl rfl rfl (Za (Zi (Zb ?_))))))
  refine Zn1 rfl (fun h57 => ?_) (fun h57 => ?_)
  ·
   obtain ⟨a, ha⟩ := get_of_lt i.args j h57
   obtain ⟨ha1, ha2⟩ := hia a (List.mem_of_getElem? ha)
   rw [drop_cons ha] at hq2
   change setsF (now2.set a.toNat true) (i.args.drop (j + 1)) = _ at hq2
   refine Zi1 (Zi (Zb (Zs (Zb (Zd ?_)))))
   refine Zc (Zz (el := V.int a) VT.sl31 rfl rfl (by omega) (get_int ha) (fun a58 => ?_))
   refine Zc (Zz1 VT.ty3 rfl rfl (Zc (Zk rfl (Za (Zi (Zd (Zc (Zl rfl (Zc (Zl rfl ?_))))))))))
   refine Zc (Zr2 VT.sl45 rfl rfl (by omega) (by omega) ?_)
   refine Zc (Zh3 0 a.toNat VT.ty4 rfl (by simp) rfl rfl rfl rfl (by rw [List.length_map]; omega) ?_)
   refine Za (Zb1 (Zi (Zd ?_)))
   refine Zc (Zh2 rfl rfl (by omega) ?_)
   refine Zc (Zl rfl (Za (Zi ?_)))
   exact ⟨(j + 1, now2.set a.toNat true), (by (try simp only []); omega), ⟨by omega, by rw [List.length_set]; exact hnl2, hq2⟩, ⟨rfl, rfl, rfl, rfl, rfl, rfl, rfl, trivial⟩, (Drops.keepE (congrArg (Own.cells gr 4) (bools_set2 _ _ _ _)) (Drops.keep (Drops.keep (Drops.keep (Zt2 _)))))⟩
  ·
   have hje : j = i.args.length := by omega
   subst hje
   rw [List.drop_length] at hq2
   change now2 = _ at hq2
   refine Zt (Ze1 (Ze1 (Zc1 (Zb1 (Zi (Zd (Zc (Zl rfl ?_))))))))
   refine Zc (Zk2 rfl rfl (by omega) ?_)
   refine Zc (Zk rfl (Za (Zi ?_)))
   exact ⟨(m, y), (by (try simp only []); omega), ⟨by omega, hoky⟩, ⟨rfl, rfl, rfl, (congrArg (fun n : Int => some (V.int n)) (by omega)), trivial⟩, (Drops.keepE (by rw [hq2]) (Drops.keep (Drops.keep (Drops.keep (Zt2 _)))))⟩


set_option maxRecDepth 100000 in
set_option maxHeartbeats 16000000 in
theorem ranges1_c (live : List Bool) (gr cap : Nat) (rest : List V) (gv gk gp k p many : Nat) (rows0 : Rows) (hlive : live.length = many) (hm : many ≤ 1000000) (hk : k ≤ 200) (hlen0 : rows0.length = many) (hok0 : ∀ x ∈ rows0, rOk k x) : VCalls Try.prog 16 [.int p, .raw (.slice (some ⟨gr, 0, none⟩) live.length cap), .ptr gv 0, .ptr gk 0] (.cells gr 4 (live.map V.bool ++ rest) :: .cells gv 62 [.raw (.slice (some ⟨gp, 0, none⟩) many many)] :: .cells gk 3 [.int k] :: .cells gp 26 (rows0.map rLeaf) :: (rows0.flatMap rOwn)) fun r S' => ∃ rows : Rows, S' = .cells gr 4 (live.map V.bool ++ rest) :: .cells gv 62 [.raw (.slice (some ⟨gp, 0, none⟩) many many)] :: .cells gk 3 [.int k] :: .cells gp 26 (rows.map rLeaf) :: (rows.flatMap rOwn) ∧ rows.map rl = placeR k (rows0.map rl) p live ∧ rows.length = many ∧ (∀ x ∈ rows, rOk k x) := by
 refine VCalls_drops ?_
 refine V_start (nt := 60) Try.func16 rfl rfl rfl ?_
 refine Zb (Zd (Zc (Zl rfl ?_)))
 refine Zc (Zl3 [.tmp 9] [_] _ rfl rfl VT.en17 (.refl _) (listR_c live (by omega) gr cap rest) ?_)
 refine Zc (Zd2 (n := (listF 0 live).length) Try.underlying31 rfl (by simp) (fun hl11 => ?_))
 refine Zc (Zl rfl (Za (Zi (Zs ?_))))
 refine Zi2 (ι := Nat × Rows) (fun (j, rows) => (listF 0 live).length - j) (fun (j, rows) => [(0, some (.int p)), (2, some (.ptr gv 0)), (3, some (.ptr gk 0)), (10, some (intsX (listF 0 live))), (11, some (.int (listF 0 live).length)), (12, some (.int j))]) (fun (j, rows) => .cells gr 4 (live.map V.bool ++ rest) :: .cells gv 62 [.raw (.slice (some ⟨gp, 0, none⟩) many many)] :: .cells gk 3 [.int k] :: .cells gp 26 (rows.map rLeaf) :: rows.flatMap rOwn) (fun (j, rows) => j ≤ (listF 0 live).length ∧ ((listF 0 live).drop j).foldl (valR k p) (rows.map rl) = (listF 0 live).foldl (valR k p) (rows0.map rl) ∧ rows.length = many ∧ ∀ x ∈ rows, rOk k x) (0, rows0) ⟨Nat.zero_le _, rfl, hlen0, hok0⟩ ⟨rfl, rfl, rfl, rfl, rfl, rfl, trivial⟩ (Drops.keep (Drops.keep (Drops.keep (Drops.keep (Zt2 _))))) ?_
 rintro ⟨j, rows⟩ hA
 change j ≤ (listF 0 live).length ∧ ((listF 0 live).drop j).foldl (valR k p) (rows.map rl) = (listF 0 live).foldl (valR k p) (rows0.map rl) ∧ rows.length = many ∧ ∀ x ∈ rows, rOk k x at hA
 obtain ⟨hj, hq, hlen, hok⟩ := hA
 refine Zb (Zd (Zc (Zj1 rfl rfl rfl (Za (Zi (Zb ?_))))))
 refine Zn1 rfl (fun h13 => ?_) (fun h13 => ?_)
 ·
  obtain ⟨v, hv⟩ := get_of_lt (listF 0 live) j h13
  obtain ⟨w, rfl⟩ := list_nat (List.mem_of_getElem? hv)
  have hwl : w < live.length := (List.getElem?_eq_some_iff.1 (mem_list.1 (List.mem_of_getElem? hv)).2).1
  rw [drop_cons hv, List.foldl_cons] at hq
  obtain ⟨o, hro⟩ := get_of_lt rows w (by omega)
  refine Zi1 (Zi (Zb (Zs (Zb (Zd ?_)))))
  refine Zc (Zz (el := V.int w) VT.sl31 rfl rfl (by omega) (get_int hv) (fun a14 => ?_))
  refine Zc (Zz1 VT.ty3 rfl rfl (Zc (Zk rfl (Za (Zi (Zb (Zd ?_)))))))
  rcases o with _ | rr
  ·
   refine Zc (Zu 1 VT.ty62 rfl rfl rfl (Zc (Zl rfl ?_)))
   refine Zc (Zr2 VT.sl62 rfl rfl (by omega) (by omega) ?_)
   refine Zc (Zu2 (Zf3 3 w VT.ty26 rfl (by simp) rfl (List.append_nil _).symm (get_mapS rLeaf hro) ⟨rfl, rfl⟩) ((V.le.refl _ : V.le _ V.nilSl)) ?_)
   refine Zc (V_len_raw Try.underlying26 rfl ?_)
   refine Zc (Zk rfl (Za (Zi (Zb ?_))))
   refine VW_drawR (G := Unit) [([], [8], []), ([0], [21], []), ([1, 0], [22], []), ([2, 1, 0], [2, 23], []), ([2, 1, 0], [7, 23], []), (dn 5, [24, 25, 23], []), (dn 6, [26, 23], []), ([2, 1, 0], [8, 23], []), ([7, 2, 1, 0], [28, 23], []), (dn 9, [27, 29, 23], []), (dn 10, [30, 23], []), (dn 11, [31, 23], []), ([2, 1, 0], [3, 23], []), (dn 13, [32, 33, 23], []), (dn 14, [23, 34], [])] [] (constSt _) [35] [21, 22, 23, 24, 25, 26, 27, 28, 29, 30, 31, 32, 33, 34, 35] rfl VT.mix ?_
   refine Zp (Zm _) (Zq (fun γ => Zf (fun _ h8 => Ze (Zn rfl (Zl h8 ⟨rfl, rfl⟩))))) ?_
   refine Zp (Zm _) (Zq (fun γ => Zw 0 0 rfl (fun _ h21 => Ze (Zn rfl (Zj1 h21 rfl rfl ⟨rfl, rfl⟩))))) ?_
   refine Zp (Zm _) (Zq (fun γ => Zw 1 0 rfl (fun _ h22 => Ze (Zn rfl (Zl h22 ⟨rfl, rfl⟩))))) ?_
   refine Zp (Zm _) (Zq (fun γ => Zf (fun _ h2 => Zw 2 0 rfl (fun _ h23 => Ze (Zy2 (Zr rfl rfl h23 (decide_eq_false (by simp))) ⟨rfl, rfl⟩))))) ?_
   refine Zp (Zm _) (Zq (fun γ => Zf (fun _ h7 => Zw 2 1 rfl (fun _ h23 => Ze (Zy2 (Zr rfl rfl h23 (decide_eq_false (by simp))) ⟨rfl, rfl⟩))))) ?_
   refine Zp (Zm _) (Zq (fun γ => Zw 3 1 rfl (fun _ h24 => Zw 4 0 rfl (fun _ h25 => Zw 2 2 rfl (fun _ h23 => Ze (Zy2 (Zr rfl rfl h23 (decide_eq_false (by simp))) ⟨rfl, rfl⟩)))))) ?_
   refine Zp (Zm _) (Zq (fun γ => Zw 5 0 rfl (fun _ h26 => Zw 2 3 rfl (fun _ h23 => Ze (Zy2 (Zr rfl rfl h23 (decide_eq_false (by simp))) ⟨rfl, rfl⟩))))) ?_
   refine Zp (Zm _) (Zq (fun γ => Zf (fun _ h8 => Zw 2 4 rfl (fun _ h23 => Ze (Zy2 (Zr rfl rfl h23 (decide_eq_false (by simp))) ⟨rfl, rfl⟩))))) ?_
   refine Zp (Zm _) (Zq (fun γ => Zw 7 0 rfl (fun _ h28 => Zw 2 5 rfl (fun _ h23 => Ze (Zy2 (Zr rfl rfl h23 (decide_eq_false (by simp))) ⟨rfl, rfl⟩))))) ?_
   refine Zp (Zm _) (Zq (fun γ => Zw 6 2 rfl (fun _ h27 => Zw 8 0 rfl (fun _ h29 => Zw 2 6 rfl (fun _ h23 => Ze (Zy2 (Zr rfl rfl h23 (decide_eq_false (by simp))) ⟨rfl, rfl⟩)))))) ?_
   refine Zp (Zm _) (Zq (fun γ => Zw 9 0 rfl (fun _ h30 => Zw 2 7 rfl (fun _ h23 => Ze (Zy2 (Zr rfl rfl h23 (decide_eq_false (by simp))) ⟨rfl, rfl⟩))))) ?_
   refine Zp (Zm _) (Zq (fun γ => Zw 10 0 rfl (fun _ h31 => Zw 2 8 rfl (fun _ h23 => Ze (Zy2 (Zr rfl rfl h23 (decide_eq_false (by simp))) ⟨rfl, rfl⟩))))) ?_
   refine Zp (Zm _) (Zq (fun γ => Zf (fun _ h3 => Zw 2 9 rfl (fun _ h23 => Ze (Zy2 (Zr rfl rfl h23 (decide_eq_false (by simp))) ⟨rfl, rfl⟩))))) ?_
   refine Zp (Zm _) (Zq (fun γ => Zw 11 1 rfl (fun _ h32 => Zw 12 0 rfl (fun _ h33 => Zw 2 10 rfl (fun _ h23 => Ze (Zy2 (Zr rfl rfl h23 (decide_eq_false (by simp))) ⟨rfl, rfl⟩)))))) ?_
   refine Zp (Zm _) (Zq (fun γ => Zw 2 11 rfl (fun _ h23 => Zw 13 0 rfl (fun _ h34 => Ze (Zn rfl (Zt1 h23 (decide_eq_false (by simp)) rfl ⟨rfl, rfl⟩)))))) ?_
   refine DrawP_nil (fun γ => Zw 14 0 rfl (fun r35 h35 => Ze ?_))
   have e35 : r35 = some _ := h35
   subst e35
   clear h35
   refine Zi ?_
   refine Zq1 rfl rfl ?_
   refine VW_drawR (G := (Nat × Nat × List V)) [([], [2], []), ([], [7], []), ([], [2], []), ([], [7], []), ([3, 2], [47, 48], []), ([4, 3, 2], [49], []), ([], [7], []), ([], [3], []), ([], [0], []), ([], [0], []), ([9, 8, 7, 6], [51, 52, 53, 54], []), ([10, 9, 8, 7, 6], [55], []), ([11, 10, 9, 8, 7, 6, 5, 4, 3, 2], [50, 56], [0]), (dn 13, [45, 46], []), (dn 14, [58, 57], [])] [12, 14] (twoSt _ (fun x => [.cells (nrm 1 x).1 41 (rgL [Rg.mk w k p p] ++ (nrm 1 x).2.2), .cells gr 4 (live.map V.bool ++ rest), .cells gv 62 [.raw (.slice (some ⟨gp, 0, none⟩) many many)], .cells gk 3 [.int k], .cells gp 26 (rows.map rLeaf)] ++ rows.flatMap rOwn) (fun x _ => [.cells (nrm 1 x).1 41 (rgL [Rg.mk w k p p] ++ (nrm 1 x).2.2), .cells gr 4 (live.map V.bool ++ rest), .cells gv 62 [.raw (.slice (some ⟨gp, 0, none⟩) many many)], .cells gk 3 [.int k], .cells gp 26 ((rows.map rLeaf).set w (.raw (.slice (some ⟨(nrm 1 x).1, 0, none⟩) 1 (nrm 1 x).2.1)) ++ [])] ++ rows.flatMap rOwn)) [] [45, 46, 47, 48, 49, 50, 51, 52, 53, 54, 55, 56, 57, 58] rfl VT.mix ?_
   refine Zp (Zm _) (Zo rfl rfl ⟨(fun γ => Zf (fun _ h2 => Ze (Zn rfl (Zu 1 VT.ty62 h2 rfl rfl ⟨rfl, rfl⟩)))), (fun γ => Zf (fun _ h2 => Ze (Zn rfl (Zu 2 VT.ty62 h2 rfl rfl ⟨rfl, rfl⟩)))), trivial⟩) ?_
   refine Zp (Zm _) (Zm2 rfl (fun _ => (fun γ => Zf (fun _ h7 => Ze (Zn rfl (Zl h7 ⟨rfl, rfl⟩)))))) ?_
   refine Zp (Zm _) (Zo rfl rfl ⟨(fun γ => Zf (fun _ h2 => Ze (Zn rfl (Zu 1 VT.ty62 h2 rfl rfl ⟨rfl, rfl⟩)))), trivial⟩) ?_
   refine Zp (Zm _) (Zo rfl rfl ⟨(fun γ => Zf (fun _ h7 => Ze (Zn rfl (Zl h7 ⟨rfl, rfl⟩)))), trivial⟩) ?_
   refine Zp (Zm _) (Zo rfl rfl ⟨(fun γ => Zw 2 1 rfl (fun _ h47 => Zw 3 0 rfl (fun _ h48 => Ze (Zn rfl (Zr2 VT.sl62 h47 h48 (by omega) (by omega) ⟨rfl, rfl⟩))))), trivial⟩) ?_
   refine Zp (Zm _) (Zo rfl rfl ⟨(fun γ => Zw 4 0 rfl (fun _ h49 => Ze (Zn rfl (Zu2 (Zf3 3 w VT.ty26 h49 (by simp) rfl (List.append_nil _).symm (get_mapS rLeaf hro) ⟨rfl, rfl⟩) ((V.le.refl _ : V.le _ V.nilSl)) ⟨rfl, rfl⟩)))), trivial⟩) ?_
   refine Zp (Zm _) (Zo rfl rfl ⟨(fun γ => Zf (fun _ h7 => Ze (Zn rfl (Zl h7 ⟨rfl, rfl⟩)))), trivial⟩) ?_
   refine Zp (Zm _) (Zo rfl rfl ⟨(fun γ => Zf (fun _ h3 => Ze (Zn rfl (Zu 2 VT.ty3 h3 rfl rfl ⟨rfl, rfl⟩)))), trivial⟩) ?_
   refine Zp (Zm _) (Zo rfl rfl ⟨(fun γ => Zf (fun _ h0 => Ze (Zn rfl (Zl h0 ⟨rfl, rfl⟩)))), trivial⟩) ?_
   refine Zp (Zm _) (Zo rfl rfl ⟨(fun γ => Zf (fun _ h0 => Ze (Zn rfl (Zl h0 ⟨rfl, rfl⟩)))), trivial⟩) ?_
   refine Zp (Zm _) (Zo rfl rfl ⟨(fun γ => Zw 6 3 rfl (fun _ h51 => Zw 7 2 rfl (fun _ h52 => Zw 8 1 rfl (fun _ h53 => Zw 9 0 rfl (fun _ h54 => Ze (Zn rfl (Zf2 [0, 1, 2, 3] [.tmp 51, .tmp 52, .tmp 53, .tmp 54] VT.st41 rfl rfl (Zp2 h51 (Zp2 h52 (Zp2 h53 (Zp2 h54 Zq2)))) rfl ⟨rfl, rfl⟩))))))), trivial⟩) ?_
   refine Zp (Zm _) (Zo rfl rfl ⟨(fun γ => Zw 10 0 rfl (fun _ h55 => Ze (Zn rfl (Zk3 [.tmp 55] VT.sl26 rfl rfl rfl (Zp2 h55 Zq2) rfl ⟨rfl, rfl⟩)))), trivial⟩) ?_
   refine Zp (Zw2 (fun x => .raw (.slice (some ⟨(nrm 1 x).1, 0, none⟩) 1 (nrm 1 x).2.1))) (Zo2 0 rfl (fun γ => Zw 5 6 rfl (fun _ h50 => Zw 11 0 rfl (fun _ h56 => Ze (Zn rfl (V_appendRowL VT.sl26 (by decide) h50 h56 (by simp) (by simp) (by intro y hy; rw [List.mem_singleton.1 hy]; rfl) (fun g57 cap57 rest57 hc57 hm57 hl57 => ⟨(g57, cap57, rest57), ⟨_, rfl, (by show some (V.raw (.slice (some ⟨g57, 0, none⟩) 1 cap57)) = some (V.raw (.slice (some ⟨(nrm 1 (g57, cap57, rest57)).1, 0, none⟩) 1 (nrm 1 (g57, cap57, rest57)).2.1)); rw [nrm_eq (n := 1) hc57 hm57 (by have h9 := hl57; rw [List.length_append] at h9; exact h9)])⟩, (by show Own.cells g57 41 (rgL [Rg.mk w k p p] ++ rest57) :: _ = Own.cells (nrm 1 (g57, cap57, rest57)).1 41 (rgL [Rg.mk w k p p] ++ (nrm 1 (g57, cap57, rest57)).2.2) :: _; rw [nrm_eq (n := 1) hc57 hm57 (by have h9 := hl57; rw [List.length_append] at h9; exact h9)]; try rfl)⟩))))))) ?_
   refine Zp (Zm _) (Zo rfl rfl ⟨(fun γ => Zw 0 12 rfl (fun _ h45 => Zw 1 11 rfl (fun _ h46 => Ze (Zn rfl (Zr2 VT.sl62 h45 h46 (by omega) (by omega) ⟨rfl, rfl⟩))))), trivial⟩) ?_
   refine Zp Za3 (Zo2 1 rfl (fun γ => Zw 13 0 rfl (fun _ h58 => Zw 12 1 rfl (fun _ h57 => Ze (Zx2 h57 (fun e57 => Zn rfl (Zh3 4 w VT.ty26 h58 (by simp) e57 rfl rfl (List.append_nil _).symm (by rw [List.length_map]; omega) ⟨default, trivial, rfl⟩))))))) ?_
   refine DrawP_nil (fun γ => Ze ?_)
   refine Zb1 (Zi ?_)
   obtain ⟨n1, n2, n3⟩ := nrm_ok (n := 1) (by simp only [maxLen]; omega) (γ 0)
   have hq2 : ((listF 0 live).drop (j + 1)).foldl (valR k p) ((rows.set w (some (RRow.mk (nrm 1 (γ 0)).1 (nrm 1 (γ 0)).2.1 [Rg.mk w k p p] (nrm 1 (γ 0)).2.2))).map rl) = (listF 0 live).foldl (valR k p) (rows0.map rl) := by rw [rl_set hro (o' := (some (RRow.mk (nrm 1 (γ 0)).1 (nrm 1 (γ 0)).2.1 [Rg.mk w k p p] (nrm 1 (γ 0)).2.2))) (rfl)]; exact hq
   have hlen2 : (rows.set w (some (RRow.mk (nrm 1 (γ 0)).1 (nrm 1 (γ 0)).2.1 [Rg.mk w k p p] (nrm 1 (γ 0)).2.2))).length = many := by rw [List.length_set]; exact hlen
   have hok2 : ∀ x ∈ (rows.set w (some (RRow.mk (nrm 1 (γ 0)).1 (nrm 1 (γ 0)).2.1 [Rg.mk w k p p] (nrm 1 (γ 0)).2.2))), rOk k x := rows_ok_set hok ⟨by simp, n1, n2, by rw [List.length_append]; exact n3, sok_one⟩
   refine VW_drops (S' := .cells gr 4 (live.map V.bool ++ rest) :: .cells gv 62 [.raw (.slice (some ⟨gp, 0, none⟩) many many)] :: .cells gk 3 [.int k] :: .cells gp 26 ((rows.set w (some (RRow.mk (nrm 1 (γ 0)).1 (nrm 1 (γ 0)).2.1 [Rg.mk w k p p] (nrm 1 (γ 0)).2.2))).map rLeaf) :: ((rows.set w (some (RRow.mk (nrm 1 (γ 0)).1 (nrm 1 (γ 0)).2.1 [Rg.mk w k p p] (nrm 1 (γ 0)).2.2))).flatMap rOwn)) (by show Drops (.cells (nrm 1 (γ 0)).1 41 (rgL [Rg.mk w k p p] ++ (nrm 1 (γ 0)).2.2) :: .cells gr 4 (live.map V.bool ++ rest) :: .cells gv 62 [.raw (.slice (some ⟨gp, 0, none⟩) many many)] :: .cells gk 3 [.int k] :: .cells gp 26 ((rows.map rLeaf).set w (.raw (.slice (some ⟨(nrm 1 (γ 0)).1, 0, none⟩) 1 (nrm 1 (γ 0)).2.1)) ++ []) :: rows.flatMap rOwn) _; rw [show (.raw (.slice (some ⟨(nrm 1 (γ 0)).1, 0, none⟩) 1 (nrm 1 (γ 0)).2.1) : V) = rLeaf (some (RRow.mk (nrm 1 (γ 0)).1 (nrm 1 (γ 0)).2.1 [Rg.mk w k p p] (nrm 1 (γ 0)).2.2)) from by simp [rLeaf], leaf_set]; exact Drops.of_perm ((List.Perm.cons _ (same4 (rows_split hro none).1)).trans (back4 (rows_split hro (some (RRow.mk (nrm 1 (γ 0)).1 (nrm 1 (γ 0)).2.1 [Rg.mk w k p p] (nrm 1 (γ 0)).2.2))).2))) ?_
   refine Zd ?_
   refine Zc (Zh2 rfl rfl (by omega) ?_)
   refine Zc (Zl rfl (Za (Zi ?_)))
   exact ⟨(j + 1, (rows.set w (some (RRow.mk (nrm 1 (γ 0)).1 (nrm 1 (γ 0)).2.1 [Rg.mk w k p p] (nrm 1 (γ 0)).2.2)))), (by (try simp only []); omega), ⟨by omega, hq2, hlen2, hok2⟩, ⟨rfl, rfl, rfl, rfl, rfl, rfl, trivial⟩, (Drops.keep (Drops.keep (Drops.keep (Drops.keep (Zt2 _)))))⟩
  ·
   obtain ⟨g, cap1, l1, rest1⟩ := rr
   obtain ⟨q1, q2, q3, q4, q5⟩ := hok _ (List.mem_of_getElem? hro)
   dsimp only at q1 q2 q3 q4 q5
   obtain ⟨l0, r, rfl⟩ : ∃ l0 r, l1 = l0 ++ [r] := ⟨l1.dropLast, l1.getLast q1, (List.dropLast_concat_getLast q1).symm⟩
   have hsl := sok_len q5
   refine Zc (Zu 1 VT.ty62 rfl rfl rfl (Zc (Zl rfl ?_)))
   refine Zc (Zr2 VT.sl62 rfl rfl (by omega) (by omega) ?_)
   refine Zc (Zu2 (Zf3 3 w VT.ty26 rfl (by simp) rfl (List.append_nil _).symm (get_mapS rLeaf hro) ⟨rfl, rfl⟩) ((V.le.refl _ : V.le _ (.raw (.slice (some ⟨g, 0, none⟩) (l0 ++ [r]).length cap1)))) ?_)
   refine Zc (V_len_raw Try.underlying26 rfl ?_)
   refine Zc (Zk rfl (Za (Zi ?_)))
   refine VW_drops (Drops.of_perm (front4 (rows_split hro none).1)) ?_
   refine Zb ?_
   refine VW_drawR (G := Unit) [([], [8], []), ([0], [21], []), ([1, 0], [22], []), ([2, 1, 0], [2, 23], []), ([2, 1, 0], [7, 23], []), (dn 5, [24, 25, 23], []), (dn 6, [26, 23], []), ([2, 1, 0], [8, 23], []), ([7, 2, 1, 0], [28, 23], []), (dn 9, [27, 29, 23], []), (dn 10, [30, 23], []), (dn 11, [31, 23], []), ([2, 1, 0], [3, 23], []), (dn 13, [32, 33, 23], []), (dn 14, [23, 34], [])] [] (constSt _) [35] [21, 22, 23, 24, 25, 26, 27, 28, 29, 30, 31, 32, 33, 34, 35] rfl VT.mix ?_
   refine Zp (Zm _) (Zq (fun γ => Zf (fun _ h8 => Ze (Zn rfl (Zl h8 ⟨rfl, rfl⟩))))) ?_
   refine Zp (Zm _) (Zq (fun γ => Zw 0 0 rfl (fun _ h21 => Ze (Zn rfl (Zj1 h21 rfl rfl ⟨rfl, rfl⟩))))) ?_
   refine Zp (Zm _) (Zq (fun γ => Zw 1 0 rfl (fun _ h22 => Ze (Zn rfl (Zl h22 ⟨rfl, rfl⟩))))) ?_
   refine Zp (Zm _) (Zq (fun γ => Zf (fun _ h2 => Zw 2 0 rfl (fun _ h23 => Ze (Zn (Zg rfl rfl h23 (decide_eq_true (by simp))) (Zu 2 VT.ty62 h2 rfl rfl ⟨rfl, rfl⟩)))))) ?_
   refine Zp (Zm _) (Zq (fun γ => Zf (fun _ h7 => Zw 2 1 rfl (fun _ h23 => Ze (Zn (Zg rfl rfl h23 (decide_eq_true (by simp))) (Zl h7 ⟨rfl, rfl⟩)))))) ?_
   refine Zp (Zm _) (Zq (fun γ => Zw 3 1 rfl (fun _ h24 => Zw 4 0 rfl (fun _ h25 => Zw 2 2 rfl (fun _ h23 => Ze (Zn (Zg rfl rfl h23 (decide_eq_true (by simp))) (Zr2 VT.sl62 h24 h25 (by omega) (by omega) ⟨rfl, rfl⟩))))))) ?_
   refine Zp (Zm _) (Zq (fun γ => Zw 5 0 rfl (fun _ h26 => Zw 2 3 rfl (fun _ h23 => Ze (Zn (Zg rfl rfl h23 (decide_eq_true (by simp))) (Zu2 (Zf3 4 w VT.ty26 h26 (by simp) rfl (List.append_nil _).symm (get_mapS rLeaf hro) ⟨rfl, rfl⟩) ((V.le.refl _ : V.le _ (.raw (.slice (some ⟨g, 0, none⟩) (l0 ++ [r]).length cap1)))) ⟨rfl, rfl⟩)))))) ?_
   refine Zp (Zm _) (Zq (fun γ => Zf (fun _ h8 => Zw 2 4 rfl (fun _ h23 => Ze (Zn (Zg rfl rfl h23 (decide_eq_true (by simp))) (Zl h8 ⟨rfl, rfl⟩)))))) ?_
   refine Zp (Zm _) (Zq (fun γ => Zw 7 0 rfl (fun _ h28 => Zw 2 5 rfl (fun _ h23 => Ze (Zn (Zg rfl rfl h23 (decide_eq_true (by simp))) (Zu2 (Zk2 h28 rfl (by omega) ⟨rfl, rfl⟩) ((V.le.of_eq (congrArg V.int (by simp)) : V.le _ (.int (l0.length : Int)))) ⟨rfl, rfl⟩)))))) ?_
   refine Zp (Zm _) (Zq (fun γ => Zw 6 2 rfl (fun _ h27 => Zw 8 0 rfl (fun _ h29 => Zw 2 6 rfl (fun _ h23 => Ze (Zn (Zg rfl rfl h23 (decide_eq_true (by simp))) (Zu2 (Zr2 VT.sl26 h27 h29 (by omega) (by simp; omega) ⟨rfl, rfl⟩) ((V.le.of_eq (congrArg (V.ptr g) (by simp)) : V.le _ (.ptr g (l0.length * 4)))) ⟨rfl, rfl⟩))))))) ?_
   refine Zp (Zm _) (Zq (fun γ => Zw 9 0 rfl (fun _ h30 => Zw 2 7 rfl (fun _ h23 => Ze (Zn (Zg rfl rfl h23 (decide_eq_true (by simp))) (Zj VT.fa41_1 h30 ⟨rfl, rfl⟩)))))) ?_
   refine Zp (Zm _) (Zq (fun γ => Zw 10 0 rfl (fun _ h31 => Zw 2 8 rfl (fun _ h23 => Ze (Zn (Zg rfl rfl h23 (decide_eq_true (by simp))) (Zu 0 VT.ty3 h31 rfl ((rg_at l0 r rest1 1).trans rfl) ⟨rfl, rfl⟩)))))) ?_
   refine Zp (Zm _) (Zq (fun γ => Zf (fun _ h3 => Zw 2 9 rfl (fun _ h23 => Ze (Zn (Zg rfl rfl h23 (decide_eq_true (by simp))) (Zu 3 VT.ty3 h3 rfl rfl ⟨rfl, rfl⟩)))))) ?_
   refine Zp (Zm _) (Zq (fun γ => Zw 11 1 rfl (fun _ h32 => Zw 12 0 rfl (fun _ h33 => Zw 2 10 rfl (fun _ h23 => Ze (Zn (Zg rfl rfl h23 (decide_eq_true (by simp))) (Zj1 h32 h33 rfl ⟨rfl, rfl⟩))))))) ?_
   refine Zp (Zm _) (Zq (fun γ => Zw 2 11 rfl (fun _ h23 => Zw 13 0 rfl (fun _ h34 => Ze (Zn rfl (Zs1 h23 (decide_eq_true (by simp)) h34 ⟨rfl, rfl⟩)))))) ?_
   refine DrawP_nil (fun γ => Zw 14 0 rfl (fun r35 h35 => Ze ?_))
   have e35 : r35 = some _ := h35
   subst e35
   clear h35
   refine Zi ?_
   refine Zl1 rfl (fun h35 => ?_) (fun h35 => ?_)
   ·
    have h35k : r.k = k := by omega
    refine Zd (Zc (Zu 2 VT.ty62 rfl rfl rfl (Zc (Zl rfl ?_))))
    refine Zc (Zr2 VT.sl62 rfl rfl (by omega) (by omega) ?_)
    refine Zc (Zu2 (Zf3 4 w VT.ty26 rfl (by simp) rfl (List.append_nil _).symm (get_mapS rLeaf hro) ⟨rfl, rfl⟩) ((V.le.refl _ : V.le _ (.raw (.slice (some ⟨g, 0, none⟩) (l0 ++ [r]).length cap1)))) ?_)
    refine Zc (Zl rfl ?_)
    refine Zc (Zu2 (Zk2 rfl rfl (by omega) ⟨rfl, rfl⟩) ((V.le.of_eq (congrArg V.int (by simp)) : V.le _ (.int (l0.length : Int)))) ?_)
    refine Zc (Zl rfl ?_)
    refine Zc (Zu2 (Zr2 VT.sl26 rfl rfl (by omega) (by simp; omega) ⟨rfl, rfl⟩) ((V.le.of_eq (congrArg (V.ptr g) (by simp)) : V.le _ (.ptr g (l0.length * 4)))) ?_)
    refine Zc (Zj VT.fa41_2 rfl ?_)
    refine Zc (Zy 0 VT.ty3 rfl rfl rfl rfl (Nat.ble_eq_true_of_le (by rw [List.length_append, rgL_len]; simp; omega)) ?_)
    refine Za (Zb1 (Zi ?_))
    have hq2 : ((listF 0 live).drop (j + 1)).foldl (valR k p) ((rows.set w (some (RRow.mk g cap1 (l0 ++ [Rg.mk r.v r.k p r.b]) rest1))).map rl) = (listF 0 live).foldl (valR k p) (rows0.map rl) := by rw [rl_set hro (o' := (some (RRow.mk g cap1 (l0 ++ [Rg.mk r.v r.k p r.b]) rest1))) (mark_same h35k |>.symm)]; exact hq
    have hlen2 : (rows.set w (some (RRow.mk g cap1 (l0 ++ [Rg.mk r.v r.k p r.b]) rest1))).length = many := by rw [List.length_set]; exact hlen
    have hok2 : ∀ x ∈ (rows.set w (some (RRow.mk g cap1 (l0 ++ [Rg.mk r.v r.k p r.b]) rest1))), rOk k x := rows_ok_set hok ⟨by simp, by simpa using q2, q3, by rw [List.length_append, rgL_len] at q4 ⊢; simpa using q4, sok_same q5⟩
    refine VW_drops (S' := .cells gr 4 (live.map V.bool ++ rest) :: .cells gv 62 [.raw (.slice (some ⟨gp, 0, none⟩) many many)] :: .cells gk 3 [.int k] :: .cells gp 26 ((rows.set w (some (RRow.mk g cap1 (l0 ++ [Rg.mk r.v r.k p r.b]) rest1))).map rLeaf) :: ((rows.set w (some (RRow.mk g cap1 (l0 ++ [Rg.mk r.v r.k p r.b]) rest1))).flatMap rOwn)) (by rw [rg_set2, leaf_same hro (o' := (some (RRow.mk g cap1 (l0 ++ [Rg.mk r.v r.k p r.b]) rest1))) (by simp [rLeaf])]; exact Drops.of_perm (back4 (rows_split hro (some (RRow.mk g cap1 (l0 ++ [Rg.mk r.v r.k p r.b]) rest1))).2)) ?_
    refine Zd ?_
    refine Zc (Zh2 rfl rfl (by omega) ?_)
    refine Zc (Zl rfl (Za (Zi ?_)))
    exact ⟨(j + 1, (rows.set w (some (RRow.mk g cap1 (l0 ++ [Rg.mk r.v r.k p r.b]) rest1)))), (by (try simp only []); omega), ⟨by omega, hq2, hlen2, hok2⟩, ⟨rfl, rfl, rfl, rfl, rfl, rfl, trivial⟩, (Drops.keep (Drops.keep (Drops.keep (Drops.keep (Zt2 _)))))⟩
   ·
    have h35k : r.k ≠ k := by omega
    refine VW_drawR (G := (Nat × Nat × List V)) [([], [2], []), ([], [7], []), ([], [2], []), ([], [7], []), ([3, 2], [47, 48], []), ([4, 3, 2], [49], []), ([], [7], []), ([], [3], []), ([], [0], []), ([], [0], []), ([9, 8, 7, 6], [51, 52, 53, 54], []), ([10, 9, 8, 7, 6], [55], []), ([11, 10, 9, 8, 7, 6, 5, 4, 3, 2], [50, 56], [0]), (dn 13, [45, 46], []), (dn 14, [58, 57], [])] [12, 14] (twoSt _ (fun x => [.cells (nrm ((l0 ++ [r]).length + 1) x).1 41 (rgL ((l0 ++ [r]) ++ [Rg.mk w k p p]) ++ (nrm ((l0 ++ [r]).length + 1) x).2.2), .cells gr 4 (live.map V.bool ++ rest), .cells gv 62 [.raw (.slice (some ⟨gp, 0, none⟩) many many)], .cells gk 3 [.int k], .cells gp 26 (rows.map rLeaf)] ++ (rows.set w none).flatMap rOwn) (fun x _ => [.cells (nrm ((l0 ++ [r]).length + 1) x).1 41 (rgL ((l0 ++ [r]) ++ [Rg.mk w k p p]) ++ (nrm ((l0 ++ [r]).length + 1) x).2.2), .cells gr 4 (live.map V.bool ++ rest), .cells gv 62 [.raw (.slice (some ⟨gp, 0, none⟩) many many)], .cells gk 3 [.int k], .cells gp 26 ((rows.map rLeaf).set w (.raw (.slice (some ⟨(nrm ((l0 ++ [r]).length + 1) x).1, 0, none⟩) ((l0 ++ [r]).length + 1) (nrm ((l0 ++ [r]).length + 1) x).2.1)) ++ [])] ++ (rows.set w none).flatMap rOwn)) [] [45, 46, 47, 48, 49, 50, 51, 52, 53, 54, 55, 56, 57, 58] rfl VT.mix ?_
    refine Zp (Zm _) (Zo rfl rfl ⟨(fun γ => Zf (fun _ h2 => Ze (Zn rfl (Zu 2 VT.ty62 h2 rfl rfl ⟨rfl, rfl⟩)))), (fun γ => Zf (fun _ h2 => Ze (Zn rfl (Zu 2 VT.ty62 h2 rfl rfl ⟨rfl, rfl⟩)))), trivial⟩) ?_
    refine Zp (Zm _) (Zm2 rfl (fun _ => (fun γ => Zf (fun _ h7 => Ze (Zn rfl (Zl h7 ⟨rfl, rfl⟩)))))) ?_
    refine Zp (Zm _) (Zo rfl rfl ⟨(fun γ => Zf (fun _ h2 => Ze (Zn rfl (Zu 2 VT.ty62 h2 rfl rfl ⟨rfl, rfl⟩)))), trivial⟩) ?_
    refine Zp (Zm _) (Zo rfl rfl ⟨(fun γ => Zf (fun _ h7 => Ze (Zn rfl (Zl h7 ⟨rfl, rfl⟩)))), trivial⟩) ?_
    refine Zp (Zm _) (Zo rfl rfl ⟨(fun γ => Zw 2 1 rfl (fun _ h47 => Zw 3 0 rfl (fun _ h48 => Ze (Zn rfl (Zr2 VT.sl62 h47 h48 (by omega) (by omega) ⟨rfl, rfl⟩))))), trivial⟩) ?_
    refine Zp (Zm _) (Zo rfl rfl ⟨(fun γ => Zw 4 0 rfl (fun _ h49 => Ze (Zn rfl (Zu2 (Zf3 4 w VT.ty26 h49 (by simp) rfl (List.append_nil _).symm (get_mapS rLeaf hro) ⟨rfl, rfl⟩) ((V.le.refl _ : V.le _ (.raw (.slice (some ⟨g, 0, none⟩) (l0 ++ [r]).length cap1)))) ⟨rfl, rfl⟩)))), trivial⟩) ?_
    refine Zp (Zm _) (Zo rfl rfl ⟨(fun γ => Zf (fun _ h7 => Ze (Zn rfl (Zl h7 ⟨rfl, rfl⟩)))), trivial⟩) ?_
    refine Zp (Zm _) (Zo rfl rfl ⟨(fun γ => Zf (fun _ h3 => Ze (Zn rfl (Zu 3 VT.ty3 h3 rfl rfl ⟨rfl, rfl⟩)))), trivial⟩) ?_
    refine Zp (Zm _) (Zo rfl rfl ⟨(fun γ => Zf (fun _ h0 => Ze (Zn rfl (Zl h0 ⟨rfl, rfl⟩)))), trivial⟩) ?_
    refine Zp (Zm _) (Zo rfl rfl ⟨(fun γ => Zf (fun _ h0 => Ze (Zn rfl (Zl h0 ⟨rfl, rfl⟩)))), trivial⟩) ?_
    refine Zp (Zm _) (Zo rfl rfl ⟨(fun γ => Zw 6 3 rfl (fun _ h51 => Zw 7 2 rfl (fun _ h52 => Zw 8 1 rfl (fun _ h53 => Zw 9 0 rfl (fun _ h54 => Ze (Zn rfl (Zf2 [0, 1, 2, 3] [.tmp 51, .tmp 52, .tmp 53, .tmp 54] VT.st41 rfl rfl (Zp2 h51 (Zp2 h52 (Zp2 h53 (Zp2 h54 Zq2)))) rfl ⟨rfl, rfl⟩))))))), trivial⟩) ?_
    refine Zp (Zm _) (Zo rfl rfl ⟨(fun γ => Zw 10 0 rfl (fun _ h55 => Ze (Zn rfl (Zk3 [.tmp 55] VT.sl26 rfl rfl rfl (Zp2 h55 Zq2) rfl ⟨rfl, rfl⟩)))), trivial⟩) ?_
    refine Zp (Zw2 (fun x => .raw (.slice (some ⟨(nrm ((l0 ++ [r]).length + 1) x).1, 0, none⟩) ((l0 ++ [r]).length + 1) (nrm ((l0 ++ [r]).length + 1) x).2.1))) (Zo2 0 rfl (fun γ => Zw 5 6 rfl (fun _ h50 => Zw 11 0 rfl (fun _ h56 => Ze (Zn rfl (V_appendRaw 0 VT.sl26 (by decide) h50 h56 rfl q4 q2 q3 (by simp; simp at hsl; omega) (by intro y hy; rw [List.mem_singleton.1 hy]; rfl) (fun g57 cap57 rest57 hc57 hm57 hl57 => ⟨(g57, cap57, rest57), ⟨_, rfl, (by show some (V.raw (.slice (some ⟨g57, 0, none⟩) ((l0 ++ [r]).length + 1) cap57)) = some (V.raw (.slice (some ⟨(nrm ((l0 ++ [r]).length + 1) (g57, cap57, rest57)).1, 0, none⟩) ((l0 ++ [r]).length + 1) (nrm ((l0 ++ [r]).length + 1) (g57, cap57, rest57)).2.1)); rw [nrm_eq (n := (l0 ++ [r]).length + 1) hc57 hm57 (by have h9 : ((rgL (l0 ++ [r]) ++ rest1).take ((l0 ++ [r]).length * 4) ++ (rgL [Rg.mk w k p p] ++ rest57)).length = cap57 * 4 := hl57; rw [rg_take, app_len (rgL (l0 ++ [r])), app_len (rgL [Rg.mk w k p p]), rgL_len, rgL_len] at h9; have h10 : [Rg.mk w k p p].length = 1 := rfl; omega)])⟩, (by show Own.cells g57 41 ((rgL (l0 ++ [r]) ++ rest1).take ((l0 ++ [r]).length * 4) ++ (rgL [Rg.mk w k p p] ++ rest57)) :: _ = Own.cells (nrm ((l0 ++ [r]).length + 1) (g57, cap57, rest57)).1 41 (rgL ((l0 ++ [r]) ++ [Rg.mk w k p p]) ++ (nrm ((l0 ++ [r]).length + 1) (g57, cap57, rest57)).2.2) :: _; rw [nrm_eq (n := (l0 ++ [r]).length + 1) hc57 hm57 (by have h9 : ((rgL (l0 ++ [r]) ++ rest1).take ((l0 ++ [r]).length * 4) ++ (rgL [Rg.mk w k p p] ++ rest57)).length = cap57 * 4 := hl57; rw [rg_take, app_len (rgL (l0 ++ [r])), app_len (rgL [Rg.mk w k p p]), rgL_len, rgL_len] at h9; have h10 : [Rg.mk w k p p].length = 1 := rfl; omega), rg_take, rgL_app (l0 ++ [r]), List.append_assoc]; try rfl)⟩))))))) ?_
    refine Zp (Zm _) (Zo rfl rfl ⟨(fun γ => Zw 0 12 rfl (fun _ h45 => Zw 1 11 rfl (fun _ h46 => Ze (Zn rfl (Zr2 VT.sl62 h45 h46 (by omega) (by omega) ⟨rfl, rfl⟩))))), trivial⟩) ?_
    refine Zp Za3 (Zo2 1 rfl (fun γ => Zw 13 0 rfl (fun _ h58 => Zw 12 1 rfl (fun _ h57 => Ze (Zx2 h57 (fun e57 => Zn rfl (Zh3 4 w VT.ty26 h58 (by simp) e57 rfl rfl (List.append_nil _).symm (by rw [List.length_map]; omega) ⟨default, trivial, rfl⟩))))))) ?_
    refine DrawP_nil (fun γ => Ze ?_)
    refine Zb1 (Zi ?_)
    obtain ⟨n1, n2, n3⟩ := nrm_ok (n := (l0 ++ [r]).length + 1) (by simp only [maxLen]; omega) (γ 0)
    have hq2 : ((listF 0 live).drop (j + 1)).foldl (valR k p) ((rows.set w (some (RRow.mk (nrm ((l0 ++ [r]).length + 1) (γ 0)).1 (nrm ((l0 ++ [r]).length + 1) (γ 0)).2.1 ((l0 ++ [r]) ++ [Rg.mk w k p p]) (nrm ((l0 ++ [r]).length + 1) (γ 0)).2.2))).map rl) = (listF 0 live).foldl (valR k p) (rows0.map rl) := by rw [rl_set hro (o' := (some (RRow.mk (nrm ((l0 ++ [r]).length + 1) (γ 0)).1 (nrm ((l0 ++ [r]).length + 1) (γ 0)).2.1 ((l0 ++ [r]) ++ [Rg.mk w k p p]) (nrm ((l0 ++ [r]).length + 1) (γ 0)).2.2))) ((mark_new h35k).symm)]; exact hq
    have hlen2 : (rows.set w (some (RRow.mk (nrm ((l0 ++ [r]).length + 1) (γ 0)).1 (nrm ((l0 ++ [r]).length + 1) (γ 0)).2.1 ((l0 ++ [r]) ++ [Rg.mk w k p p]) (nrm ((l0 ++ [r]).length + 1) (γ 0)).2.2))).length = many := by rw [List.length_set]; exact hlen
    have hok2 : ∀ x ∈ (rows.set w (some (RRow.mk (nrm ((l0 ++ [r]).length + 1) (γ 0)).1 (nrm ((l0 ++ [r]).length + 1) (γ 0)).2.1 ((l0 ++ [r]) ++ [Rg.mk w k p p]) (nrm ((l0 ++ [r]).length + 1) (γ 0)).2.2))), rOk k x := rows_ok_set hok ⟨by simp, by rw [List.length_append]; exact n1, n2, by rw [List.length_append, rgL_len, List.length_append]; exact n3, sok_new q5 h35k⟩
    refine VW_drops (S' := .cells gr 4 (live.map V.bool ++ rest) :: .cells gv 62 [.raw (.slice (some ⟨gp, 0, none⟩) many many)] :: .cells gk 3 [.int k] :: .cells gp 26 ((rows.set w (some (RRow.mk (nrm ((l0 ++ [r]).length + 1) (γ 0)).1 (nrm ((l0 ++ [r]).length + 1) (γ 0)).2.1 ((l0 ++ [r]) ++ [Rg.mk w k p p]) (nrm ((l0 ++ [r]).length + 1) (γ 0)).2.2))).map rLeaf) :: ((rows.set w (some (RRow.mk (nrm ((l0 ++ [r]).length + 1) (γ 0)).1 (nrm ((l0 ++ [r]).length + 1) (γ 0)).2.1 ((l0 ++ [r]) ++ [Rg.mk w k p p]) (nrm ((l0 ++ [r]).length + 1) (γ 0)).2.2))).flatMap rOwn)) (by show Drops (.cells (nrm ((l0 ++ [r]).length + 1) (γ 0)).1 41 (rgL ((l0 ++ [r]) ++ [Rg.mk w k p p]) ++ (nrm ((l0 ++ [r]).length + 1) (γ 0)).2.2) :: .cells gr 4 (live.map V.bool ++ rest) :: .cells gv 62 [.raw (.slice (some ⟨gp, 0, none⟩) many many)] :: .cells gk 3 [.int k] :: .cells gp 26 ((rows.map rLeaf).set w (.raw (.slice (some ⟨(nrm ((l0 ++ [r]).length + 1) (γ 0)).1, 0, none⟩) ((l0 ++ [r]).length + 1) (nrm ((l0 ++ [r]).length + 1) (γ 0)).2.1)) ++ []) :: (rows.set w none).flatMap rOwn) _; rw [show (.raw (.slice (some ⟨(nrm ((l0 ++ [r]).length + 1) (γ 0)).1, 0, none⟩) ((l0 ++ [r]).length + 1) (nrm ((l0 ++ [r]).length + 1) (γ 0)).2.1) : V) = rLeaf (some (RRow.mk (nrm ((l0 ++ [r]).length + 1) (γ 0)).1 (nrm ((l0 ++ [r]).length + 1) (γ 0)).2.1 ((l0 ++ [r]) ++ [Rg.mk w k p p]) (nrm ((l0 ++ [r]).length + 1) (γ 0)).2.2)) from by simp [rLeaf], leaf_set]; exact Drops.of_perm (back4 (rows_split hro (some (RRow.mk (nrm ((l0 ++ [r]).length + 1) (γ 0)).1 (nrm ((l0 ++ [r]).length + 1) (γ 0)).2.1 ((l0 ++ [r]) ++ [Rg.mk w k p p]) (nrm ((l0 ++ [r]).length + 1) (γ 0)).2.2))).2)) ?_
    refine Zd ?_
    refine Zc (Zh2 rfl rfl (by omega) ?_)
    refine Zc (Zl rfl (Za (Zi ?_)))
    exact ⟨(j + 1, (rows.set w (some (RRow.mk (nrm ((l0 ++ [r]).length + 1) (γ 0)).1 (nrm ((l0 ++ [r]).length + 1) (γ 0)).2.1 ((l0 ++ [r]) ++ [Rg.mk w k p p]) (nrm ((l0 ++ [r]).length + 1) (γ 0)).2.2)))), (by (try simp only []); omega), ⟨by omega, hq2, hlen2, hok2⟩, ⟨rfl, rfl, rfl, rfl, rfl, rfl, trivial⟩, (Drops.keep (Drops.keep (Drops.keep (Drops.keep (Zt2 _)))))⟩
 ·
  have hje : j = (listF 0 live).length := by omega
  subst hje
  rw [List.drop_length, List.foldl_nil] at hq
  refine Zt (Ze1 (Ze1 (Zc1 ?_)))
  refine Zn3 rfl ?_
  exact ⟨_, (Drops.keep (Drops.keep (Drops.keep (Drops.keep (Zt2 _))))), rows, rfl, hq, hlen, hok⟩


theorem rOk_next {k : Nat} {o : Option RRow} (h : rOk k o) : rOk (k + 1) o := by
  cases o with
  | none => trivial
  | some r => exact ⟨h.1, h.2.1, h.2.2.1, h.2.2.2.1, sok_next h.2.2.2.2⟩
def seenV {σ : Type} (b : SBlock) (s : List Bool) (g : σ → Nat → List Bool → σ) (goal : σ) : Nat → σ → Prop
  | 0, x => x = goal
  | p + 1, x => visitN b s g p x = goal
theorem seenV_step {σ : Type} {b : SBlock} {s : List Bool} {g : σ → Nat → List Bool → σ} {goal : σ} {p : Nat} {x : σ} (h : seenV b s g goal (p + 1) x) : seenV b s g goal p (g x p (liveAt b s p)) := by
  cases p with
  | zero => exact h
  | succ p => exact h
abbrev rgsX (l : List Rg) : V := .sl 4 none (l.map rgV)
def rLeaf2 : Option RRow → V
  | none => .sl 4 none []
  | some r => .raw (.slice (some ⟨r.g, 0, none⟩) r.l.length r.cap)
theorem les_rows : ∀ rows : Rows, V.les (rows.map rLeaf) (rows.map rLeaf2)
  | [] => trivial
  | none :: l => ⟨V.le.nil 4, rfl, les_rows l⟩
  | some r :: l => ⟨V.le.refl _, rfl, les_rows l⟩
theorem freeze_rows {nt : Nat} {Q : Exit → Fr → Store → Prop} {F : Fr} {c : Code} {k : Nat} (gp : Nat) : ∀ (rows : Rows) (pre : List V) (R : Store), (∀ o ∈ rows, rOk k o) → VW Try.prog nt c Q F (.cells gp 26 (pre ++ rows.map fun o => rgsX (rl o)) :: R) → VW Try.prog nt c Q F (.cells gp 26 (pre ++ rows.map rLeaf2) :: (rows.flatMap rOwn ++ R))
  | [], pre, R, _, h => h
  | none :: rows, pre, R, ho, h => by
    have e : ∀ (a : V) (l : List V), pre ++ a :: l = (pre ++ [a]) ++ l := fun a l => by simp
    have h2 := freeze_rows gp rows (pre ++ [.sl 4 none []]) R (fun o h => ho o (List.mem_cons_of_mem _ h)) (by rw [List.map_cons, e] at h; exact h)
    rw [List.map_cons, e]
    exact h2
  | some r :: rows, pre, R, ho, h => by
    have e : ∀ (a : V) (l : List V), pre ++ a :: l = (pre ++ [a]) ++ l := fun a l => by simp
    obtain ⟨q1, q2, q3, q4, q5⟩ := ho _ (List.mem_cons_self ..)
    have h2 := freeze_rows gp rows (pre ++ [rgsX r.l]) R (fun o h => ho o (List.mem_cons_of_mem _ h)) (by rw [List.map_cons, e] at h; exact h)
    refine VW_freezeC 1 0 pre.length (sz := 4) (rest := r.rest) (r.l.map rgV) rfl rfl (by rw [List.getElem?_append_right (Nat.le_refl _), Nat.sub_self]; rfl) rfl (by simp) q2 q3 (rg_fits _) ?_
    have e2 : (pre ++ (some r :: rows).map rLeaf2).set pre.length (.sl 4 none (r.l.map rgV)) = (pre ++ [rgsX r.l]) ++ rows.map rLeaf2 := by
      rw [List.set_append_right _ _ (Nat.le_refl _), Nat.sub_self, List.map_cons, ← e]
      rfl
    show VW Try.prog nt c Q F (.cells gp 26 ((pre ++ (some r :: rows).map rLeaf2).set pre.length (.sl 4 none (r.l.map rgV))) :: (rows.flatMap rOwn ++ R))
    rw [e2]
    exact h2
theorem none_own (n : Nat) : (List.replicate n (none : Option RRow)).flatMap rOwn = [] := by
  induction n with
  | zero => rfl
  | succ n ih => rw [List.replicate_succ, List.flatMap_cons, ih]; rfl
theorem perm_r {a v rw L bh b1 : Own} {Y : Store} : (a :: v :: rw :: L :: bh :: b1 :: Y).Perm ((L :: bh :: v :: a :: rw :: Y) ++ [b1]) :=
  (Zv2 (i := 3) (S := a :: v :: rw :: L :: bh :: b1 :: Y) rfl).trans (.cons _ ((Zv2 (i := 3) (S := a :: v :: rw :: bh :: b1 :: Y) rfl).trans (.cons _ ((Zv2 (i := 1) (S := a :: v :: rw :: b1 :: Y) rfl).trans (.cons _ (.cons _ (.cons _ (List.perm_append_comm (l₁ := [b1])))))))))
theorem drop_r {a v rw L bh b1 : Own} {Y : Store} : Drops ((L :: bh :: v :: a :: rw :: Y) ++ [b1]) (v :: rw :: L :: bh :: b1 :: Y) := (Drops.of_perm perm_r.symm).trans (Drops.drop (Zt2 _))
theorem drop_f {v rw L bh b1 : Own} {Y : Store} : Drops (v :: rw :: L :: bh :: b1 :: Y) (rw :: (Y ++ [v])) :=
  (Drops.of_perm ((Zv2 (i := 2) (S := v :: rw :: L :: bh :: b1 :: Y) rfl).trans (.cons _ ((Zv2 (i := 2) (S := v :: rw :: bh :: b1 :: Y) rfl).trans (.cons _ (Zv2 (i := 2) (S := v :: rw :: b1 :: Y) rfl)))))).trans (Drops.drop (Drops.drop (Drops.drop (Drops.of_perm ((List.Perm.swap _ _ _).trans (.cons _ (List.perm_append_comm (l₁ := [v]))))))))
/-! Every block has been met. -/
def FullB (s : LState) (k : Nat) : Prop := ∃ l, s.behind[k]? = some (some l)
theorem node_full {bs : List SBlock} {many k : Nat} {s : LState} (ok : LiveOk bs many s) (hk : k < bs.length) : FullB (liveNode bs many s k) k ∧ ∀ j, FullB s j → FullB (liveNode bs many s k) j := by
  obtain ⟨b, hb⟩ := get_of_lt bs k (by omega)
  obtain ⟨o, ho⟩ := get_of_lt s.behind k (by rw [ok.blen]; omega)
  rw [node_eq hb ho]
  have hkl : k < s.behind.length := by rw [ok.blen]; exact hk
  split
  · rename_i h
    exact ⟨⟨_, by rw [ho, h]⟩, fun j hj => hj⟩
  · refine ⟨⟨_, by rw [List.getElem?_set_self hkl]⟩, fun j ⟨l, hl⟩ => ?_⟩
    unfold FullB
    dsimp only
    by_cases hj : k = j
    · subst hj; exact ⟨_, by rw [List.getElem?_set_self hkl]⟩
    · exact ⟨l, by rw [List.getElem?_set_ne hj]; exact hl⟩
theorem pass_full {bs : List SBlock} {many : Nat} : ∀ (k : Nat) (s : LState), k ≤ bs.length → LiveOk bs many s → (∀ j, j < k → FullB (livePass bs many k s) j) ∧ ∀ j, FullB s j → FullB (livePass bs many k s) j
  | 0, s, _, ok => ⟨fun j hj => by omega, fun j hj => hj⟩
  | k + 1, s, hk, ok => by
    obtain ⟨h1, h2⟩ := node_full ok (k := k) (by omega)
    obtain ⟨g1, g2⟩ := pass_full k _ (by omega) (live_node ok (k := k) (by omega)).1
    rw [livePass]
    refine ⟨fun j hj => ?_, fun j hj => g2 j (h2 j hj)⟩
    by_cases hjk : j = k
    · subst hjk; exact g2 j h1
    · exact g1 j (by omega)
theorem iter_full {bs : List SBlock} {many : Nat} : ∀ (n : Nat) (s : LState), LiveOk bs many s → (∀ j, j < bs.length → FullB s j) → ∀ j, j < bs.length → FullB (liveIter bs many n s) j
  | 0, s, _, h => h
  | n + 1, s, ok, h => by
    rw [liveIter]
    split
    · have ok0 : LiveOk bs many { s with again := false } := ⟨ok.blen, ok.flen, ok.emp, ok.full, ok.live⟩
      exact iter_full n _ (live_pass bs.length _ (Nat.le_refl _) ok0).1 (pass_full bs.length _ (Nat.le_refl _) ok0).1
    · exact h
theorem live_full (bs : List SBlock) (many : Nat) : ∀ j, j < bs.length → FullB (liveF bs many) j := by
  unfold liveF
  rw [show bs.length * (many + 1) + 2 = (bs.length * (many + 1) + 1) + 1 by omega, liveIter, if_pos (show (liveStart bs.length).again = true from rfl)]
  have ok := live_start bs many
  have ok0 : LiveOk bs many { liveStart bs.length with again := false } := ⟨ok.blen, ok.flen, ok.emp, ok.full, ok.live⟩
  exact iter_full _ _ (live_pass bs.length _ (Nat.le_refl _) ok0).1 (pass_full bs.length _ (Nat.le_refl _) ok0).1
theorem behind_get {f : SFunc} {k : Nat} (hk : k < f.blocks.length) : ∃ s, (liveZ f).behind[k]? = some (some s) ∧ behindAt f (manyF f) k = s ∧ s.length = manyF f := by
  obtain ⟨s, hs⟩ := live_full f.blocks (manyF f) k hk
  exact ⟨s, hs, by rw [behindAt, set_at hs]; rfl, ((live_ok f.blocks (manyF f)).full k s hs).1⟩
theorem ranges_succ {f : SFunc} {many k : Nat} {b : SBlock} {s : List Bool} (hb : f.blocks[k]? = some b) (hs : behindAt f many k = s) : rangesP f many (k + 1) = visitN b s (placeR k) b.ins.length (rangesP f many k) := by
  unfold rangesP
  rw [List.range_succ, List.foldl_append, List.foldl_cons, List.foldl_nil, blockR, hb, hs]
  rfl
theorem flatten_bound {α : Type} (c : Nat) : ∀ ps : List (List α), (∀ l ∈ ps, l.length ≤ c) → ps.flatten.length ≤ ps.length * c
  | [], _ => by simp
  | l :: ps, h => by
    rw [List.flatten_cons, List.length_append, List.length_cons, Nat.succ_mul]
    have h1 := h l (List.mem_cons_self ..)
    have h2 := flatten_bound c ps fun x hx => h x (List.mem_cons_of_mem _ hx)
    omega
theorem ranges_small {f : SFunc} (h : FuncOk f) : (rangesZ f (manyF f)).length ≤ 1000000 := by
  obtain ⟨hl, hok⟩ := parts_ok f (manyF f) f.blocks.length
  have hn := h.len
  have hm : manyF f ≤ 4097 := by have := fresh_ok h; unfold manyF; omega
  have h1 := flatten_bound 129 (rangesP f (manyF f) f.blocks.length) fun l hlm => by
    obtain ⟨v, hv⟩ := List.getElem?_of_mem hlm
    have hvl := (List.getElem?_eq_some_iff.1 hv).1
    have := (hok v (by rw [← hl]; exact hvl)).len
    rw [hv] at this
    change l.length ≤ _ at this
    omega
  rw [hl] at h1
  have h2 : manyF f * 129 ≤ 4097 * 129 := Nat.mul_le_mul_right _ hm
  exact Nat.le_trans h1 (Nat.le_trans h2 (by decide))
def rangesX (f : SFunc) : V := if funcF f = 0 then .tup [rgsX (rangesZ f (manyF f)), .int 0] else .tup [rgsX [], .int (funcF f)]

theorem flat_rgs (rows : Rows) : (rows.map fun o => rgsX (rl o)).flatMap V.leaves = rows.map fun o => rgsX (rl o) := by
  induction rows with
  | nil => rfl
  | cons o l ih => rw [List.map_cons, List.flatMap_cons, ih]; rfl
theorem fits_rgs (rows : Rows) : ∀ x ∈ rows.map (fun o => rgsX (rl o)), x.fits 1 = true ∧ ((∃ ls, x = .agg ls) ∨ x.leaf = true) := fun x hx => by
  obtain ⟨o, _, rfl⟩ := List.mem_map.1 hx
  exact ⟨rfl, .inr rfl⟩

set_option maxRecDepth 100000 in
theorem rgGrow_c (n : Int) (h0 : 0 ≤ n) (hn : n ≤ 2000000) : VCalls Try.prog 34 [V.nilSl, .int n] [] fun r S' => ∃ tok, r = .sl 4 (some tok) [] ∧ S' = [.buf tok 41 4 0] := by
 refine V_start (nt := 27) Try.func34 rfl rfl rfl ?_
 refine Zb (Zd (Zc (Zk rfl (Za (Zi (Zb (Zb (Zd (Zc (Zl rfl (Zc (Zj1 rfl rfl rfl (Za (Zi ?_))))))))))))))
 refine Zq1 rfl (by simp; omega) ?_
 refine Zi1 (Zi (Zb (Zb (Zd (Zc (Zl rfl (Zc (Zl rfl ?_))))))))
 refine Zc (V_cap_raw Try.underlying26 rfl ?_)
 refine Zc (Zl rfl ?_)
 refine Zc (V_len_raw Try.underlying26 rfl ?_)
 refine Zc (Zk2 rfl rfl (by omega) ?_)
 refine Zc (Zk2 rfl rfl (by omega) ?_)
 refine Zc (Zk rfl (Za (Zi (Zb (Zd (Zc (Zl rfl (Zc (Zj1 rfl rfl rfl (Za (Zi ?_)))))))))))
 refine Zn1 rfl (fun h16 => ?_) (fun h16 => ?_)
 ·
  refine Zd (Zc (Zl rfl (Zc (Zl rfl ?_))))
  refine Zc (V_cap_raw Try.underlying26 rfl ?_)
  refine Zc (V_slice_raw VT.sl26 rfl rfl rfl (by omega) (by omega) (by omega) ?_)
  refine Zc (Zl rfl ?_)
  refine Zc (V_growNil VT.sl26 Try.underlying3 rfl rfl (by omega) (by omega) (fun g22 cap22 hcg22 hmg22 => ?_))
  refine Zc (Zl rfl ?_)
  refine Zc (V_len_raw Try.underlying26 rfl ?_)
  refine Zc (V_slice0 VT.sl26 rfl rfl (by omega) hmg22 ?_)
  refine Zc (Zk rfl (Za (Zi (Zb (Zd (Zc (Zl rfl (Zc (Zk rfl (Za (Zi (Zf1 ?_))))))))))))
  refine Zg1 rfl (.tmp rfl) ?_
  exact ⟨_, rfl, rfl⟩
 ·
  refine VW_nil (q := 0) 41 4 rfl ?_
  refine Zi1 (Zi (Zb (Zd (Zc (Zl rfl (Zc (Zk rfl (Za (Zi (Zf1 ?_))))))))))
  refine Zg1 rfl (.tmp rfl) ?_
  exact ⟨_, rfl, rfl⟩


set_option maxRecDepth 100000 in
theorem rgConcat_c (rows : List (List Rg)) (hs : rows.flatten.length ≤ 1000000) : VPure Try.prog 18 [.sl 1 none (rows.map rgsX)] (.sl 4 none (rows.flatten.map rgV)) := by
 refine V_start (nt := 36) Try.func18 rfl rfl rfl ?_
 refine Zb (Zd (Zc (Zk rfl (Za (Zi (Zb (Zd (Zc (Zk rfl (Za (Zi (Zb (Zb (Zd (Zc (Zl rfl ?_))))))))))))))))
 refine Zc (Zd2 (n := rows.length) Try.underlying62 rfl (by simp) (fun hl10 => ?_))
 refine Zc (Zl rfl (Za (Zi (Zs ?_))))
 refine Zi2 (ι := Nat) (fun k => rows.length - k) (fun k => [(0, some (.sl 1 none (rows.map rgsX))), (3, some (.int (rows.take k).flatten.length)), (9, some (.sl 1 none (rows.map rgsX))), (10, some (.int rows.length)), (11, some (.int k))]) (fun k => []) (fun k => k ≤ rows.length) 0 (by simp) ⟨rfl, rfl, rfl, rfl, rfl, trivial⟩ (Drops.nil _) ?_
 rintro k hk
 change k ≤ rows.length at hk
 refine Zb (Zd (Zc (Zj1 rfl rfl rfl (Za (Zi (Zb ?_))))))
 refine Zn1 rfl (fun h12 => ?_) (fun h12 => ?_)
 ·
  obtain ⟨r, hr⟩ := get_of_lt rows k h12
  have hfl := flatten_le hr
  refine Zi1 (Zi (Zb (Zs (Zb (Zd ?_)))))
  refine Zc (Zz (el := rgsX r) VT.sl62 rfl rfl (by omega) (get_mapS _ hr) (fun a13 => ?_))
  refine Zc (Zz1 VT.ty26 rfl rfl (Zc (Zk rfl (Za (Zi (Zb (Zd (Zc (Zl rfl (Zc (Zl rfl ?_)))))))))))
  refine Zc (Zd2 (n := r.length) Try.underlying26 rfl (by simp) (fun hl17 => ?_))
  refine Zc (Zh2 rfl rfl (by omega) ?_)
  refine Zc (Zk rfl (Za (Zi (Zb (Zd (Zc (Zl rfl (Zc (Zj1 rfl rfl rfl (Za (Zi ?_)))))))))))
  refine Zq1 rfl (by simp; omega) ?_
  refine Zi1 (Zb1 (Zi (Zd ?_)))
  refine Zc (Zh2 rfl rfl (by omega) ?_)
  refine Zc (Zl rfl (Za (Zi ?_)))
  exact ⟨k + 1, (by (try simp only []); omega), (by omega), ⟨rfl, (by rw [take_snoc hr, List.flatten_append, List.length_append, List.flatten_singleton]; rfl), rfl, rfl, rfl, trivial⟩, (Drops.nil _)⟩
 ·
  have hT : (rows.take k).flatten.length ≤ 1000000 := by rw [take_end h12]; exact hs
  refine Zt (Ze1 (Ze1 (Zc1 (Zi (Zb (Zd (Zc (Zl rfl ?_))))))))
  refine Zc (Zm3 [.const _, .tmp 23] [] _ rfl rfl VT.en34 (.refl _) (rgGrow_c _ (by omega) (by omega)) ?_)
  rintro r Sa ⟨tok0, rfl, rfl⟩
  refine Zc (Zk rfl (Za (Zi (Zb (Zb (Zd (Zc (Zl rfl ?_))))))))
  refine Zc (Zd2 (n := rows.length) Try.underlying62 rfl (by simp) (fun hl26 => ?_))
  refine Zc (Zl rfl (Za (Zi (Zs ?_))))
  refine Zi2 (ι := Nat × Tok) (fun (j, t) => rows.length - j) (fun (j, t) => [(6, some (.sl 4 (some t) ((rows.take j).flatten.map rgV))), (25, some (.sl 1 none (rows.map rgsX))), (26, some (.int rows.length)), (27, some (.int j))]) (fun (j, t) => [.buf t 41 4 (rows.take j).flatten.length]) (fun (j, t) => j ≤ rows.length) (0, tok0) (by simp) ⟨rfl, rfl, rfl, rfl, trivial⟩ (Drops.buf rfl (Zt2 _)) ?_
  rintro ⟨j, t⟩ hj
  change j ≤ rows.length at hj
  refine Zb (Zd (Zc (Zj1 rfl rfl rfl (Za (Zi (Zb ?_))))))
  refine Zn1 rfl (fun h28 => ?_) (fun h28 => ?_)
  ·
   obtain ⟨r, hr⟩ := get_of_lt rows j h28
   have hfl := flatten_le hr
   refine Zi1 (Zi (Zb (Zs (Zb (Zd ?_)))))
   refine Zc (Zz (el := rgsX r) VT.sl62 rfl rfl (by omega) (get_mapS _ hr) (fun a29 => ?_))
   refine Zc (Zz1 VT.ty26 rfl rfl (Zc (Zk rfl (Za (Zi (Zd (Zc (Zl rfl (Zc (Zl rfl ?_))))))))))
   refine Zc (Zi3 0 _ VT.sl26 rfl rfl rfl (by rw [List.length_map]) (by rw [List.length_map, List.length_map]; omega) (fun t33 => ?_))
   refine Zc (Zk rfl (Za (Zb1 (Zi (Zd ?_)))))
   refine Zc (Zh2 rfl rfl (by omega) ?_)
   refine Zc (Zl rfl (Za (Zi ?_)))
   exact ⟨(j + 1, t33), (by (try simp only []); omega), (by omega), ⟨(by rw [take_snoc hr, List.flatten_append, List.map_append, List.flatten_singleton]; rfl), rfl, rfl, rfl, trivial⟩, (Drops.buf (by rw [take_snoc hr, List.flatten_append, List.length_append, List.length_append, List.length_map, List.length_map, List.flatten_singleton]) (Zt2 _))⟩
  ·
   refine Zt (Ze1 (Ze1 (Zc1 (Zi (Zb (Zd (Zc (Zl rfl (Zc (Zk rfl (Za (Zi (Zf1 ?_)))))))))))))
   refine Zg1 rfl (.strip rfl) ?_
   rw [take_end h28]


set_option maxRecDepth 100000 in
set_option maxHeartbeats 8000000 in
theorem Ranges_c (f : SFunc) : VPure Try.prog 6 [funcV f] (rangesX f) := by
 have hr := rangesX.eq_def f
 refine V_start (nt := 36) Try.func6 rfl rfl rfl ?_
 refine Zb (Zd ?_)
 refine Zc (Zc2 rfl rfl (fun g1 => ?_))
 refine Zc (Zk rfl (Zc (Zk rfl (Za (Zi (Zb (Zd (Zc (Zv 0 VT.ty24 rfl rfl rfl ?_)))))))))
 by_cases h0 : funcF f = 0
 ·
  rw [if_pos h0] at hr
  have hok := func_ok h0
  obtain ⟨hmi, hm1, hm2, rok⟩ := many_ok hok
  have hbp := hok.pos
  have h128 := hok.len
  have lok := live_ok f.blocks (manyF f)
  have hblen : (liveZ f).behind.length = f.blocks.length := lok.blen
  refine Zc (Zm3 [.tmp 10] [] _ rfl rfl VT.en14 (.refl _) (build_o h0) ?_)
  rintro r Sa ⟨gl, gb, rfl, rfl⟩
  refine Zc (Zl rfl (Zc (Zg2 rfl rfl (Zc (Zg2 rfl rfl (Zc (Zg2 rfl rfl (Zc (Zk rfl (Zc (Zk rfl (Zc (Zk rfl (Za (Zi (Zb (Zb (Zd (Zc (Zl rfl ?_))))))))))))))))))))
  refine Zc (Zj1 rfl rfl rfl (Za (Zi ?_)))
  refine Zm1 rfl (fun h16 => ?_) (fun h16 => ?_)
  · exact absurd rfl h16
  ·
   refine Zi1 (Zi (Zb (Zd (Zc (Zl rfl (Zc (Zv1 rfl (Zc (Zj VT.fa64_1 rfl (Zc (Zu 0 VT.ty3 rfl rfl rfl ?_)))))))))))
   refine Zc (V_makeRow (.raw (.slice none 0 0)) (fun m => rfl) rfl VT.sl62 rfl rfl (by omega) (by omega) (fun g22 => ?_))
   refine Zc (Zb2 VT.zr62 _ rfl rfl (fun g7 => ?_))
   refine Zc (Zy 0 VT.ty62 rfl rfl rfl rfl rfl (Za (Zi ?_)))
   refine VW_drops (S' := .cells g7 62 [.raw (.slice (some ⟨g22, 0, none⟩) (manyF f) (manyF f))] :: .cells g22 26 ((List.replicate (manyF f) (none : Option RRow)).map rLeaf) :: .cells gl 64 (lifeL f.name f.blocks (manyF f) (.raw (.slice (some ⟨gb, 0, none⟩) f.blocks.length f.blocks.length))) :: .cells gb 45 ((liveZ f).behind.map lsV) :: .cells g1 24 [.int f.name, blocksX f.blocks] :: (List.replicate (manyF f) (none : Option RRow)).flatMap rOwn) (by rw [none_own, Int.toNat_natCast, flat_nil, List.map_replicate]; exact Zt2 _) ?_
   refine Zb (Zb (Zd (Zc (Zj VT.fa24_1 rfl (Zc (Zu 4 VT.ty22 rfl rfl rfl ?_))))))
   refine Zc (Zd2 (n := f.blocks.length) Try.underlying22 rfl (by simp) (fun hl25 => ?_))
   refine Zc (Zl rfl (Za (Zi (Zs ?_))))
   refine Zi2 (ι := Nat × Rows) (fun (k, rows) => f.blocks.length - k) (fun (k, rows) => [(1, some (.ptr g1 0)), (4, some (.ptr gl 0)), (7, some (.ptr g7 0)), (25, some (.int f.blocks.length)), (26, some (.int k))]) (fun (k, rows) => .cells g7 62 [.raw (.slice (some ⟨g22, 0, none⟩) (manyF f) (manyF f))] :: .cells g22 26 (rows.map rLeaf) :: .cells gl 64 (lifeL f.name f.blocks (manyF f) (.raw (.slice (some ⟨gb, 0, none⟩) f.blocks.length f.blocks.length))) :: .cells gb 45 ((liveZ f).behind.map lsV) :: .cells g1 24 [.int f.name, blocksX f.blocks] :: rows.flatMap rOwn) (fun (k, rows) => k ≤ f.blocks.length ∧ rows.map rl = (rangesP f (manyF f) k) ∧ rows.length = (manyF f) ∧ ∀ x ∈ rows, rOk k x) (0, List.replicate (manyF f) (none : Option RRow)) ⟨Nat.zero_le _, by rw [List.map_replicate]; rfl, List.length_replicate, fun x hx => by rw [List.eq_of_mem_replicate hx]; trivial⟩ ⟨rfl, rfl, rfl, rfl, rfl, trivial⟩ (Drops.keep (Drops.keep (Drops.keep (Drops.keep (Drops.keep (Zt2 _)))))) ?_
   rintro ⟨k, rows⟩ hA
   change k ≤ f.blocks.length ∧ rows.map rl = (rangesP f (manyF f) k) ∧ rows.length = (manyF f) ∧ ∀ x ∈ rows, rOk k x at hA
   obtain ⟨hk, hq, hlen, hrows⟩ := hA
   refine Zb (Zd (Zc (Zj1 rfl rfl rfl (Za (Zi (Zb ?_))))))
   refine Zn1 rfl (fun h27 => ?_) (fun h27 => ?_)
   ·
    obtain ⟨b, hb⟩ := get_of_lt f.blocks k h27
    obtain ⟨s, hs, hsb, hsl⟩ := behind_get (f := f) (k := k) (by omega)
    refine Zi1 (Zi (Zb (Zs (Zb (Zd (Zc (Zl rfl ?_)))))))
    refine Zc (Zb2 VT.zr3 _ rfl rfl (fun g8 => ?_))
    refine Zc (Zy 0 VT.ty3 rfl rfl rfl rfl rfl (Za (Zi ?_)))
    refine VW_drops (S' := .cells g8 3 [.int k] :: .cells g7 62 [.raw (.slice (some ⟨g22, 0, none⟩) (manyF f) (manyF f))] :: .cells g22 26 (rows.map rLeaf) :: .cells gl 64 (lifeL f.name f.blocks (manyF f) (.raw (.slice (some ⟨gb, 0, none⟩) f.blocks.length f.blocks.length))) :: .cells gb 45 ((liveZ f).behind.map lsV) :: .cells g1 24 [.int f.name, blocksX f.blocks] :: rows.flatMap rOwn) (Zt2 _) ?_
    refine Zd (Zc (Zl rfl (Zc (Zu 0 VT.ty3 rfl rfl rfl ?_))))
    refine Zc (V_makeFunc [.tmp 7, .tmp 8] rfl rfl ?_)
    refine Zc (V_callG [.tmp 29, .tmp 30, .tmp 31] (.cells gl 64 (lifeL f.name f.blocks (manyF f) (.raw (.slice (some ⟨gb, 0, none⟩) f.blocks.length f.blocks.length))) :: .cells gb 45 ((liveZ f).behind.map lsV) :: (fun rows : Rows => .cells g7 62 [.raw (.slice (some ⟨g22, 0, none⟩) (manyF f) (manyF f))] :: .cells g8 3 [.int k] :: .cells g22 26 (rows.map rLeaf) :: rows.flatMap rOwn) rows) [_] rfl rfl VT.en15 perm_r (backC_c rok hb hblen hs hsl hm1 hm2 gl gb f.name VT.en16 (fun rows : Rows => .cells g7 62 [.raw (.slice (some ⟨g22, 0, none⟩) (manyF f) (manyF f))] :: .cells g8 3 [.int k] :: .cells g22 26 (rows.map rLeaf) :: rows.flatMap rOwn) (fun p (rows : Rows) => seenV b s (placeR k) (visitN b s (placeR k) b.ins.length (rangesP f (manyF f) k)) p (rows.map rl) ∧ rows.length = (manyF f) ∧ ∀ x ∈ rows, rOk k x) rows ⟨by rw [hq]; rfl, hlen, hrows⟩ (fun x p gr cap rest hp ⟨h1, h2, h3⟩ => by have h9 := ranges1_c (liveAt b s p) gr cap rest g7 g8 g22 k p (manyF f) x (by rw [liveAt_len]; exact hsl) hm2 (by omega) h2 h3; rw [liveAt_len] at h9; exact h9.mono fun r Sx ⟨rows2, e1, e2, e3, e4⟩ => ⟨rows2, e1, by rw [e2]; exact seenV_step h1, e3, e4⟩)) ?_)
    rintro r Sa ⟨rows2, rfl, hsn, hlen2, hrk⟩
    refine ⟨_, drop_r, ?_⟩
    have hq2 : rows2.map rl = (rangesP f (manyF f) (k + 1)) := by rw [ranges_succ hb hsb]; exact hsn
    have hrows2 : ∀ x ∈ rows2, rOk (k + 1) x := fun x hx => rOk_next (hrk x hx)
    refine Za (Zb1 (Zi (Zd ?_)))
    refine Zc (Zh2 rfl rfl (by omega) ?_)
    refine Zc (Zl rfl (Za (Zi ?_)))
    exact ⟨(k + 1, rows2), (by (try simp only []); omega), ⟨by omega, hq2, hlen2, hrows2⟩, ⟨rfl, rfl, rfl, rfl, rfl, trivial⟩, (Drops.keep (Drops.keep (Drops.keep (Drops.keep (Drops.keep (Zt2 _))))))⟩
   ·
    have hke : k = f.blocks.length := by omega
    subst hke
    refine Zt (Ze1 (Ze1 (Zc1 (Zi ?_))))
    refine VW_drops drop_f ?_
    refine VW_cells 0 (ls' := rows.map rLeaf2) rfl (les_rows rows) ?_
    refine freeze_rows g22 rows [] [.cells g7 62 [.raw (.slice (some ⟨g22, 0, none⟩) (manyF f) (manyF f))]] hrows ?_
    refine VW_freezeC 0 0 0 (sz := 1) (rest := []) (rows.map fun o => rgsX (rl o)) rfl rfl rfl (by rw [flat_rgs, List.append_nil]; rfl) (by rw [List.length_map]; exact hlen) (Nat.le_refl _) (by simp only [maxLen]; omega) (fits_rgs rows) ?_
    refine Zb (Zd ?_)
    refine Zc (Zu2 (Zu 0 VT.ty62 rfl rfl rfl ⟨rfl, rfl⟩) ((V.le.of_eq (by rw [← hq, List.map_map]; rfl) : V.le _ (.sl 1 none ((rangesP f (manyF f) f.blocks.length).map rgsX)))) ?_)
    refine Zc (Zx1 [.tmp 34] rfl rfl VT.en18 (rgConcat_c (rangesP f (manyF f) f.blocks.length) (ranges_small hok)) ?_)
    refine Zc (Zk rfl (Zc (Zk rfl (Za (Zi (Zf1 ?_))))))
    refine Zh1 rfl rfl (.cons (.tmp rfl) (.cons (.tmp rfl) (.nil))) ?_
    rw [hr]
    rfl
 ·
  rw [if_neg h0] at hr
  refine Zc (Zx1 [.tmp 10] rfl rfl VT.en14 (build_e h0) ?_)
  refine Zc (Zl rfl (Zc (Zg2 rfl rfl (Zc (Zg2 rfl rfl (Zc (Zg2 rfl rfl (Zc (Zk rfl (Zc (Zk rfl (Zc (Zk rfl (Za (Zi (Zb (Zb (Zd (Zc (Zl rfl ?_))))))))))))))))))))
  refine Zc (Zj1 rfl rfl rfl (Za (Zi ?_)))
  refine Zm1 rfl (fun h16 => ?_) (fun h16 => ?_)
  ·
   refine Zb (Zd (Zc (Zl rfl ?_)))
   refine Zc (Zu2 (Zk rfl ⟨rfl, rfl⟩) ((V.le.nil 4)) ?_)
   refine Zc (Zk rfl (Za (Zi (Zf1 ?_))))
   refine Zd1 (Zh1 rfl rfl (.cons (.tmp rfl) (.cons (.tmp rfl) (.nil))) ?_)
   rw [hr]
   rfl
  · exact absurd h16 h0


theorem ins_small {f : SFunc} (h : FuncOk f) {b : SBlock} (hb : b ∈ f.blocks) : b.ins.length ≤ 4096 := by
  have hn := h.keys.nodup
  rw [dkeys_defsL] at hn
  have hr := values_keys h
  obtain ⟨l1, l2, e⟩ := List.append_of_mem hb
  rw [e, List.flatMap_append, List.flatMap_cons] at hn
  have hn2 := (List.nodup_append.1 (List.nodup_append.1 (List.nodup_append.1 hn).2.1).1).2.1
  have hm : ∀ v ∈ b.ins.map (·.to), 0 ≤ v ∧ v ≤ 4095 := fun v hv => hr v (List.mem_flatMap.2 ⟨b, hb, List.mem_append_right _ hv⟩)
  have h1 := nodup_lt (l := (b.ins.map (·.to)).map Int.toNat) (n := 4096) ?_ fun v hv => by
    obtain ⟨x, hx, rfl⟩ := List.mem_map.1 hv
    have := hm x hx
    omega
  · simpa using h1
  · rw [List.Nodup, List.pairwise_map]
    refine List.Pairwise.imp_of_mem (fun {a c} ha hc hne e => hne ?_) hn2
    have h1 := hm a ha
    have h2 := hm c hc
    omega
def qR (a k n : Int) (r : Rg) : Bool := ((r.v : Int) == a) && ((r.k : Int) == k) && decide ((r.a : Int) ≤ n) && decide (n ≤ (r.b : Int))
theorem any_rg {q : Rg → Bool} {l : List Rg} {m : Nat} {r : Rg} (h : l[m]? = some r) : (l.take (m + 1)).any q = ((l.take m).any q || q r) := by rw [take_snoc h, List.any_append]; simp
theorem uses_any {f : SFunc} (h : funcF f = 0) {k n : Nat} {b : SBlock} {i : SIns} {a : Int} (hb : f.blocks[k]? = some b) (hi : b.ins[n]? = some i) (ha : a ∈ i.args) : (rangesZ f (manyF f)).any (qR a k n) = true := by
  have hok := func_ok h
  have rok := (many_ok hok).2.2.2
  have hk : k < f.blocks.length := (List.getElem?_eq_some_iff.1 hb).1
  obtain ⟨s, hs, hsb, hsl⟩ := behind_get (f := f) hk
  have hl := uses_live hok rok (by rw [hsb]; exact hsl) hb hi ha
  have hbd : f.blocks[k]?.getD default = b := by rw [hb]; rfl
  obtain ⟨r, hr, h1, h2, h3, h4⟩ := ranges_cov hok hk (by rw [hbd]; exact Nat.le_of_lt (List.getElem?_eq_some_iff.1 hi).1) hl
  have h0 := (rok.args b (List.mem_of_getElem? hb) i (List.mem_of_getElem? hi) a ha).1
  rw [List.any_eq_true]
  refine ⟨r, hr, ?_⟩
  unfold qR
  rw [Bool.and_eq_true, Bool.and_eq_true, Bool.and_eq_true, beq_iff_eq, beq_iff_eq, decide_eq_true_eq, decide_eq_true_eq]
  omega

set_option maxRecDepth 100000 in
set_option maxHeartbeats 8000000 in
theorem liveUses_c (f : SFunc) (k0 n0 : Int) : VPure Try.prog 3 [funcV f, .int k0, .int n0] (.bool true) := by
 have hL := Ranges_c f
 unfold rangesX at hL
 refine V_start (nt := 98) Try.func3 rfl rfl rfl ?_
 refine Zb (Zd ?_)
 refine Zc (Zc2 rfl rfl (fun g3 => ?_))
 refine Zc (Zk rfl (Za (Zi (Zb (Zb (Zd ?_))))))
 refine Zc (Zx1 [] rfl rfl VT.en5 (works_c) ?_)
 refine Zc (Zl2 rfl (Za (Zi ?_)))
 refine Zq1 rfl (rfl) ?_
 refine Zi1 (Zi (Zb (Zd (Zc (Zv 0 VT.ty24 rfl rfl rfl ?_)))))
 by_cases h0 : funcF f = 0
 ·
  rw [if_pos h0] at hL
  have hok := func_ok h0
  have hbp := hok.pos
  have h128 := hok.len
  obtain ⟨k, hk, hkl⟩ : ∃ k : Nat, withinF k0 f.blocks.length = k ∧ k < f.blocks.length := within_ok hbp
  obtain ⟨b, hb⟩ := get_of_lt f.blocks k (by omega)
  refine Zc (Zx1 [.tmp 17] rfl rfl VT.en6 (hL) ?_)
  refine Zc (Zl rfl (Zc (Zg2 rfl rfl (Zc (Zg2 rfl rfl (Zc (Zk rfl (Zc (Zk rfl (Za (Zi (Zb (Zb (Zd (Zc (Zl rfl (Zc (Zj1 rfl rfl rfl (Za (Zi ?_))))))))))))))))))))
  refine Zm1 rfl (fun h22 => ?_) (fun h22 => ?_)
  · exact absurd rfl h22
  ·
   refine Zi1 (Zi (Zb (Zd (Zc (Zl rfl (Zc (Zj VT.fa24_1 rfl (Zc (Zu 0 VT.ty22 rfl rfl rfl ?_)))))))))
   refine Zc (Zd2 (n := f.blocks.length) Try.underlying22 rfl (by simp) (fun hl29 => ?_))
   refine Zc (Zu2 (Zx1 [.tmp 26, .tmp 29] rfl rfl VT.en7 (within_c k0 f.blocks.length (by omega) (by omega)) ⟨rfl, rfl⟩) ((V.le.of_eq (congrArg V.int hk) : V.le _ (.int (k : Int)))) ?_)
   refine Zc (Zk rfl (Za (Zi (Zb (Zb (Zd (Zc (Zj VT.fa24_1 rfl (Zc (Zu 0 VT.ty22 rfl rfl rfl (Zc (Zl rfl ?_))))))))))))
   refine Zc (Zz (el := blockV b) VT.sl22 rfl rfl (by omega) (get_mapS _ hb) (fun a34 => ?_))
   refine Zc (Zw1 VT.fa37_1 rfl rfl (Zc (Zz1 VT.ty32 rfl rfl ?_)))
   refine Zc (Zd2 (n := b.ins.length) Try.underlying32 rfl (by simp) (fun hl37 => ?_))
   refine Zc (Zj1 rfl rfl rfl (Za (Zi ?_)))
   refine Zl1 rfl (fun h38 => ?_) (fun h38 => ?_)
   ·
    refine Zb (Zd (Zc (Zk rfl (Za (Zi (Zf1 ?_))))))
    refine Zd1 (Zg1 rfl (.tmp rfl) ?_)
    rfl
   ·
    have hil := ins_small hok (List.mem_of_getElem? hb)
    obtain ⟨n, hn, hnl⟩ : ∃ n : Nat, withinF n0 b.ins.length = n ∧ n < b.ins.length := within_ok (by omega)
    obtain ⟨i, hi⟩ := get_of_lt b.ins n (by omega)
    have hil := ins_small hok (List.mem_of_getElem? hb)
    refine Zi1 (Zi (Zb (Zd (Zc (Zl rfl (Zc (Zj VT.fa24_1 rfl (Zc (Zu 0 VT.ty22 rfl rfl rfl (Zc (Zl rfl ?_)))))))))))
    refine Zc (Zz (el := blockV b) VT.sl22 rfl rfl (by omega) (get_mapS _ hb) (fun a43 => ?_))
    refine Zc (Zw1 VT.fa37_1 rfl rfl (Zc (Zz1 VT.ty32 rfl rfl ?_)))
    refine Zc (Zd2 (n := b.ins.length) Try.underlying32 rfl (by simp) (fun hl46 => ?_))
    refine Zc (Zu2 (Zx1 [.tmp 39, .tmp 46] rfl rfl VT.en7 (within_c n0 b.ins.length (by omega) (by omega)) ⟨rfl, rfl⟩) ((V.le.of_eq (congrArg V.int hn) : V.le _ (.int (n : Int)))) ?_)
    refine Zc (Zk rfl (Za (Zi (Zb (Zb (Zd (Zc (Zj VT.fa24_1 rfl (Zc (Zu 0 VT.ty22 rfl rfl rfl (Zc (Zl rfl ?_))))))))))))
    refine Zc (Zz (el := blockV b) VT.sl22 rfl rfl (by omega) (get_mapS _ hb) (fun a51 => ?_))
    refine Zc (Zw1 VT.fa37_1 rfl rfl (Zc (Zz1 VT.ty32 rfl rfl (Zc (Zl rfl ?_)))))
    refine Zc (Zz (el := insV i) VT.sl32 rfl rfl (by omega) (get_mapS _ hi) (fun a55 => ?_))
    refine Zc (Zw1 VT.fa39_3 rfl rfl (Zc (Zz1 VT.ty31 rfl rfl ?_)))
    refine Zc (Zd2 (n := i.args.length) Try.underlying31 rfl (by simp) (fun hl58 => ?_))
    refine Zc (Zl rfl (Za (Zi (Zs ?_))))
    refine Zi2 (ι := Nat) (fun j => i.args.length - j) (fun j => [(1, some (.int k)), (2, some (.int n)), (7, some (rgsX (rangesZ f (manyF f)))), (57, some (intsX i.args)), (58, some (.int i.args.length)), (59, some (.int j))]) (fun j => []) (fun j => j ≤ i.args.length) 0 (Nat.zero_le _) ⟨rfl, rfl, rfl, rfl, rfl, rfl, trivial⟩ (Drops.nil _) ?_
    rintro j hj
    change j ≤ i.args.length at hj
    refine Zb (Zd (Zc (Zj1 rfl rfl rfl (Za (Zi (Zb ?_))))))
    refine Zn1 rfl (fun h60 => ?_) (fun h60 => ?_)
    ·
     obtain ⟨a, ha⟩ := get_of_lt i.args j h60
     have hany := uses_any h0 hb hi (List.mem_of_getElem? ha)
     refine Zi1 (Zi (Zb (Zs (Zb (Zd ?_)))))
     refine Zc (Zz (el := V.int a) VT.sl31 rfl rfl (by omega) (get_int ha) (fun a61 => ?_))
     refine Zc (Zz1 VT.ty3 rfl rfl (Zc (Zk rfl (Za (Zi (Zb (Zd (Zc (Zk rfl (Za (Zi (Zb (Zb (Zd (Zc (Zl rfl ?_))))))))))))))))
     refine Zc (Zd2 (n := (rangesZ f (manyF f)).length) Try.underlying26 rfl (by simp) (fun hl64 => ?_))
     refine Zc (Zl rfl (Za (Zi (Zs ?_))))
     refine Zi2 (ι := Nat × Bool) (fun (m, fd) => (rangesZ f (manyF f)).length - m) (fun (m, fd) => [(1, some (.int k)), (2, some (.int n)), (7, some (rgsX (rangesZ f (manyF f)))), (10, some (.int a)), (11, some (.bool fd)), (57, some (intsX i.args)), (58, some (.int i.args.length)), (59, some (.int j)), (63, some (rgsX (rangesZ f (manyF f)))), (64, some (.int (rangesZ f (manyF f)).length)), (65, some (.int m))]) (fun (m, fd) => []) (fun (m, fd) => m ≤ (rangesZ f (manyF f)).length ∧ fd = ((rangesZ f (manyF f)).take m).any (qR a k n)) (0, false) ⟨Nat.zero_le _, rfl⟩ ⟨rfl, rfl, rfl, rfl, rfl, rfl, rfl, rfl, rfl, rfl, rfl, trivial⟩ (Drops.nil _) ?_
     rintro ⟨m, fd⟩ hA
     change m ≤ (rangesZ f (manyF f)).length ∧ fd = ((rangesZ f (manyF f)).take m).any (qR a k n) at hA
     obtain ⟨hm, hfd⟩ := hA
     refine Zb (Zd (Zc (Zj1 rfl rfl rfl (Za (Zi (Zb ?_))))))
     refine Zn1 rfl (fun h66 => ?_) (fun h66 => ?_)
     ·
      obtain ⟨r, hr2⟩ := get_of_lt (rangesZ f (manyF f)) m h66
      refine Zi1 (Zi (Zb (Zs (Zb (Zd ?_)))))
      refine Zc (Zz (el := rgV r) VT.sl26 rfl rfl (by omega) (get_mapS rgV hr2) (fun a67 => ?_))
      refine Zc (Za2 VT.ty41 rfl rfl ?_)
      refine Zc (Zb2 VT.zr41 _ rfl rfl (fun g13 => ?_))
      refine Zc (Zx 0 VT.ty41 rfl rfl rfl rfl rfl (Za (Zi (Zd (Zc (Zl rfl (Zc (Zl rfl ?_))))))))
      refine Zj2 (q := 70) rfl (fun hq70 => ?_) (fun hq70 => ?_)
      ·
       refine Zk0 hq70 ?_
       refine Zk0 hq70 ?_
       refine Zk0 hq70 ?_
       refine Zk0 hq70 ?_
       refine Zk0 hq70 ?_
       refine Zh (.inr ⟨_, _, 75, rfl, rfl, rfl⟩) rfl ?_
       refine Zh (.inr ⟨_, _, 75, rfl, rfl, rfl⟩) rfl ?_
       refine Zh (.inr ⟨_, _, 75, rfl, rfl, rfl⟩) rfl ?_
       refine Zh (.inr ⟨_, _, 75, rfl, rfl, rfl⟩) rfl ?_
       refine Zk0 hq70 ?_
       refine Zk0 hq70 ?_
       refine Zh (.inr ⟨_, _, 81, rfl, rfl, rfl⟩) rfl ?_
       refine Zh (.inr ⟨_, _, 81, rfl, rfl, rfl⟩) rfl ?_
       refine Zh (.inr ⟨_, _, 81, rfl, rfl, rfl⟩) rfl ?_
       refine Zh (.inr ⟨_, _, 81, rfl, rfl, rfl⟩) rfl ?_
       refine Zk0 hq70 ?_
       refine Zk0 hq70 ?_
       refine Zh (.inr ⟨_, _, 87, rfl, rfl, rfl⟩) rfl ?_
       refine Zh (.inr ⟨_, _, 87, rfl, rfl, rfl⟩) rfl ?_
       refine Zh (.inr ⟨_, _, 87, rfl, rfl, rfl⟩) rfl ?_
       refine Zh (.inr ⟨_, _, 87, rfl, rfl, rfl⟩) rfl ?_
       refine Zk0 hq70 ?_
       refine Zc (Zs1 rfl hq70 rfl ?_)
       refine Zc (Zk rfl (Za (Zb1 (Zi (Zd ?_)))))
       refine Zc (Zh2 rfl rfl (by omega) ?_)
       refine Zc (Zl rfl (Za (Zi ?_)))
       exact ⟨(m + 1, ((rangesZ f (manyF f)).take (m + 1)).any (qR a k n)), (by (try simp only []); omega), ⟨by omega, rfl⟩, ⟨rfl, rfl, rfl, rfl, (congrArg (fun b : Bool => some (V.bool b)) (by rw [any_rg hr2, ← hfd, qR]; first | (rw [hq70, hq75, hq81, hq87]; simp; done) | (rw [hq70, hq75, hq81]; simp; done) | (rw [hq70, hq75]; simp; done) | (rw [hq70]; simp; done))), rfl, rfl, rfl, rfl, rfl, rfl, trivial⟩, (Drops.nil _)⟩
      ·
       refine Zc (Zj VT.fa41_0 rfl ?_) (Zy0 hq70)
       refine Zc (Zu 0 VT.ty3 rfl rfl rfl ?_) (Zy0 hq70)
       refine Zc (Zl rfl ?_) (Zy0 hq70)
       refine Zc (Zj1 rfl rfl rfl ?_) (Zy0 hq70)
       refine Zc (Zl rfl ?_) (Zy0 hq70)
       refine Zj2 (q := 75) rfl (fun hq75 => ?_) (fun hq75 => ?_)
       ·
        refine Zc (Zj VT.fa41_1 rfl ?_) (Zy1 hq75)
        refine Zc (Zu 0 VT.ty3 rfl rfl rfl ?_) (Zy1 hq75)
        refine Zc (Zl rfl ?_) (Zy1 hq75)
        refine Zc (Zj1 rfl rfl rfl ?_) (Zy1 hq75)
        refine Zc (Zs1 rfl hq75 rfl ?_) (Zy0 hq70)
        refine Zc (Zl rfl ?_) (Zy0 hq70)
        refine Zj2 (q := 81) rfl (fun hq81 => ?_) (fun hq81 => ?_)
        ·
         refine Zc (Zj VT.fa41_2 rfl ?_) (Zy1 hq81)
         refine Zc (Zu 0 VT.ty3 rfl rfl rfl ?_) (Zy1 hq81)
         refine Zc (Zl rfl ?_) (Zy1 hq81)
         refine Zc (Zj1 rfl rfl rfl ?_) (Zy1 hq81)
         refine Zc (Zs1 rfl hq81 rfl ?_) (Zy0 hq70)
         refine Zc (Zl rfl ?_) (Zy0 hq70)
         refine Zj2 (q := 87) rfl (fun hq87 => ?_) (fun hq87 => ?_)
         ·
          refine Zc (Zl rfl ?_) (Zy1 hq87)
          refine Zc (Zj VT.fa41_3 rfl ?_) (Zy1 hq87)
          refine Zc (Zu 0 VT.ty3 rfl rfl rfl ?_) (Zy1 hq87)
          refine Zc (Zj1 rfl rfl rfl ?_) (Zy1 hq87)
          refine Zc (Zs1 rfl hq87 rfl ?_) (Zy0 hq70)
          refine Zc (Zt1 rfl hq70 rfl ?_)
          refine Zc (Zk rfl (Za (Zb1 (Zi (Zd ?_)))))
          refine Zc (Zh2 rfl rfl (by omega) ?_)
          refine Zc (Zl rfl (Za (Zi ?_)))
          exact ⟨(m + 1, ((rangesZ f (manyF f)).take (m + 1)).any (qR a k n)), (by (try simp only []); omega), ⟨by omega, rfl⟩, ⟨rfl, rfl, rfl, rfl, (congrArg (fun b : Bool => some (V.bool b)) (by rw [any_rg hr2, ← hfd, qR]; first | (rw [hq70, hq75, hq81, hq87]; simp; done) | (rw [hq70, hq75, hq81]; simp; done) | (rw [hq70, hq75]; simp; done) | (rw [hq70]; simp; done))), rfl, rfl, rfl, rfl, rfl, rfl, trivial⟩, (Drops.nil _)⟩
         ·
          refine Zk1 hq87 ?_
          refine Zk1 hq87 ?_
          refine Zk1 hq87 ?_
          refine Zk1 hq87 ?_
          refine Zc (Zt1 rfl hq87 rfl ?_) (Zy0 hq70)
          refine Zc (Zt1 rfl hq70 rfl ?_)
          refine Zc (Zk rfl (Za (Zb1 (Zi (Zd ?_)))))
          refine Zc (Zh2 rfl rfl (by omega) ?_)
          refine Zc (Zl rfl (Za (Zi ?_)))
          exact ⟨(m + 1, ((rangesZ f (manyF f)).take (m + 1)).any (qR a k n)), (by (try simp only []); omega), ⟨by omega, rfl⟩, ⟨rfl, rfl, rfl, rfl, (congrArg (fun b : Bool => some (V.bool b)) (by rw [any_rg hr2, ← hfd, qR]; first | (rw [hq70, hq75, hq81, hq87]; simp; done) | (rw [hq70, hq75, hq81]; simp; done) | (rw [hq70, hq75]; simp; done) | (rw [hq70]; simp; done))), rfl, rfl, rfl, rfl, rfl, rfl, trivial⟩, (Drops.nil _)⟩
        ·
         refine Zk1 hq81 ?_
         refine Zk1 hq81 ?_
         refine Zk1 hq81 ?_
         refine Zk1 hq81 ?_
         refine Zc (Zt1 rfl hq81 rfl ?_) (Zy0 hq70)
         refine Zc (Zl rfl ?_) (Zy0 hq70)
         refine Zk1 rfl ?_
         refine Zk1 rfl ?_
         refine Zk1 rfl ?_
         refine Zk1 rfl ?_
         refine Zc (Zt1 rfl rfl rfl ?_) (Zy0 hq70)
         refine Zc (Zt1 rfl hq70 rfl ?_)
         refine Zc (Zk rfl (Za (Zb1 (Zi (Zd ?_)))))
         refine Zc (Zh2 rfl rfl (by omega) ?_)
         refine Zc (Zl rfl (Za (Zi ?_)))
         exact ⟨(m + 1, ((rangesZ f (manyF f)).take (m + 1)).any (qR a k n)), (by (try simp only []); omega), ⟨by omega, rfl⟩, ⟨rfl, rfl, rfl, rfl, (congrArg (fun b : Bool => some (V.bool b)) (by rw [any_rg hr2, ← hfd, qR]; first | (rw [hq70, hq75, hq81, hq87]; simp; done) | (rw [hq70, hq75, hq81]; simp; done) | (rw [hq70, hq75]; simp; done) | (rw [hq70]; simp; done))), rfl, rfl, rfl, rfl, rfl, rfl, trivial⟩, (Drops.nil _)⟩
       ·
        refine Zk1 hq75 ?_
        refine Zk1 hq75 ?_
        refine Zk1 hq75 ?_
        refine Zk1 hq75 ?_
        refine Zc (Zt1 rfl hq75 rfl ?_) (Zy0 hq70)
        refine Zc (Zl rfl ?_) (Zy0 hq70)
        refine Zk1 rfl ?_
        refine Zk1 rfl ?_
        refine Zk1 rfl ?_
        refine Zk1 rfl ?_
        refine Zc (Zt1 rfl rfl rfl ?_) (Zy0 hq70)
        refine Zc (Zl rfl ?_) (Zy0 hq70)
        refine Zk1 rfl ?_
        refine Zk1 rfl ?_
        refine Zk1 rfl ?_
        refine Zk1 rfl ?_
        refine Zc (Zt1 rfl rfl rfl ?_) (Zy0 hq70)
        refine Zc (Zt1 rfl hq70 rfl ?_)
        refine Zc (Zk rfl (Za (Zb1 (Zi (Zd ?_)))))
        refine Zc (Zh2 rfl rfl (by omega) ?_)
        refine Zc (Zl rfl (Za (Zi ?_)))
        exact ⟨(m + 1, ((rangesZ f (manyF f)).take (m + 1)).any (qR a k n)), (by (try simp only []); omega), ⟨by omega, rfl⟩, ⟨rfl, rfl, rfl, rfl, (congrArg (fun b : Bool => some (V.bool b)) (by rw [any_rg hr2, ← hfd, qR]; first | (rw [hq70, hq75, hq81, hq87]; simp; done) | (rw [hq70, hq75, hq81]; simp; done) | (rw [hq70, hq75]; simp; done) | (rw [hq70]; simp; done))), rfl, rfl, rfl, rfl, rfl, rfl, trivial⟩, (Drops.nil _)⟩
     ·
      have hme : m = (rangesZ f (manyF f)).length := by omega
      rw [hme, List.take_length, hany] at hfd
      subst hfd
      refine Zt (Ze1 (Ze1 (Zc1 (Zi (Zb (Zd (Zc (Zl rfl (Zc (Zl2 rfl (Za (Zi ?_))))))))))))
      refine Zo1 rfl (fun h96 => ?_) (fun h96 => ?_)
      · cases h96
      ·
       refine Zi1 (Zb1 (Zi (Zd ?_)))
       refine Zc (Zh2 rfl rfl (by omega) ?_)
       refine Zc (Zl rfl (Za (Zi ?_)))
       exact ⟨j + 1, (by (try simp only []); omega), (by omega), ⟨rfl, rfl, rfl, rfl, rfl, rfl, trivial⟩, (Drops.nil _)⟩
    ·
     refine Zt (Ze1 (Ze1 (Zc1 (Zi (Zb (Zd (Zc (Zk rfl (Za (Zi (Zf1 ?_)))))))))))
     refine Zg1 rfl (.tmp rfl) ?_
     rfl
 ·
  rw [if_neg h0] at hL
  refine Zc (Zx1 [.tmp 17] rfl rfl VT.en6 (hL) ?_)
  refine Zc (Zl rfl (Zc (Zg2 rfl rfl (Zc (Zg2 rfl rfl (Zc (Zk rfl (Zc (Zk rfl (Za (Zi (Zb (Zb (Zd (Zc (Zl rfl (Zc (Zj1 rfl rfl rfl (Za (Zi ?_))))))))))))))))))))
  refine Zm1 rfl (fun h22 => ?_) (fun h22 => ?_)
  ·
   refine Zb (Zd (Zc (Zl rfl ?_)))
   refine Zc (Zd2 (n := 0) Try.underlying26 rfl (by simp) (fun hl24 => ?_))
   refine Zc (Zj1 rfl rfl rfl (Zc (Zk rfl (Za (Zi (Zf1 ?_))))))
   refine Zd1 (Zg1 rfl (.tmp rfl) ?_)
   rfl
  · exact absurd h22 h0


end Go.Proofs.Ytfjijinmnocnoaa.X18
