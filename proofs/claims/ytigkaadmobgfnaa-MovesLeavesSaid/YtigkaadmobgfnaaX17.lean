import Derived.Test.YtigkaadmobgfnaaVT
import Derived.Test.YtigkaadmobgfnaaS2
import Derived.Test.YtigkaadmobgfnaaVI
import Derived.Test.YtigkaadmobgfnaaDZ
import Derived.Test.YtigkaadmobgfnaaX1
import Derived.Test.YtigkaadmobgfnaaX2
import Derived.Test.YtigkaadmobgfnaaX3
import Derived.Test.YtigkaadmobgfnaaX4
import Derived.Test.YtigkaadmobgfnaaX5
import Derived.Test.YtigkaadmobgfnaaX6
import Derived.Test.YtigkaadmobgfnaaX7
import Derived.Test.YtigkaadmobgfnaaX8
import Derived.Test.YtigkaadmobgfnaaX9
import Derived.Test.YtigkaadmobgfnaaX10
open List renaming length_append → Ya, take_length → Yb, append_nil → Yc, map_append → Yd, drop_drop → Ye, getElem?_eq_some_iff → Yf, length_eraseIdx → Yg, length_singleton → Yh
open Nat renaming zero_le → Yi
set_option linter.unusedVariables false
set_option linter.unusedSimpArgs false
namespace Go.Proofs.Ytigkaadmobgfnaa.X17
open Go.VL Go.SM Go.Proofs.Ytigkaadmobgfnaa Go.Proofs.Ytigkaadmobgfnaa.X1 Go.Proofs.Ytigkaadmobgfnaa.X2 Go.Proofs.Ytigkaadmobgfnaa.X3 Go.Proofs.Ytigkaadmobgfnaa.X4 Go.Proofs.Ytigkaadmobgfnaa.X5 Go.Proofs.Ytigkaadmobgfnaa.X6 Go.Proofs.Ytigkaadmobgfnaa.X7 Go.Proofs.Ytigkaadmobgfnaa.X8 Go.Proofs.Ytigkaadmobgfnaa.X9 Go.Proofs.Ytigkaadmobgfnaa.X10
theorem mv_ble {l : List Mv} {rest : List V} {k : Nat} (h : k < l.length) : Nat.ble (k * 2 + 1 + 1) (mvL l ++ rest).length = true := Nat.ble_eq_true_of_le (by rw [Ya, mvL_len]; omega)
theorem mv_set {l : List Mv} {rest : List V} {k : Nat} (p : Mv) : ((l.map mvV).set k (.agg [.int p.1, .int p.2])).flatMap V.leaves ++ rest = mvL (l.set k p) ++ rest := by
  show ((l.map mvV).set k (mvV p)).flatMap V.leaves ++ rest = _
  rw [← List.map_set]
theorem perm_213 {a b c : Own} : [a, b, c].Perm ([b, a] ++ [c]) := .swap _ _ _
theorem perm_21 {a b : Own} : [a, b].Perm [b, a] := .swap _ _ _
theorem VKeep.perm {f : FuncId} {vs : List V} {S S' : Store} {r : V} (h : VKeep Try.prog f vs S r) (hp : S'.Perm S) : VKeep Try.prog f vs S' r :=
  VCalls_drops fun m w us hu hw => (h m w us hu (hw.perm hp)).mono fun e w' ⟨r', S1, m', u, ⟨h1, h2⟩, he, hr, st⟩ => ⟨r', S', m', u, ⟨S', Drops.refl _, h1, rfl⟩, he, hr, ((by rw [h2] at st; exact st : Step m S w m' S w').permL hp).permR hp.symm⟩
def keepF (p : Mv → Bool) (l : List Mv) : List Mv := l.filter fun x => !(p x)
theorem filter_pre {p : Mv → Bool} {l : List Mv} {k : Nat} (h : (l.take k).any p = false) : keepF p (l.take k) = l.take k := by
  rw [keepF, List.filter_eq_self]
  intro a ha
  have := List.any_eq_false.1 h a ha
  simpa using this
theorem idx_bounds {p : Mv → Bool} {l : List Mv} {i : Int} (h : idxOf p l = i) : i = -1 ∧ l.any p = false ∨ ∃ (k : Nat) (x : Mv), i = k ∧ l[k]? = some x ∧ p x = true ∧ (l.take k).any p = false := by
  by_cases hn : l.any p = false
  · have h2 := idxOf_none p hn
    exact .inl ⟨by rw [← h, h2], hn⟩
  · right
    have : ∀ (n : Nat), n ≤ l.length → (l.take n).any p = false ∨ ∃ (k : Nat) (x : Mv), l[k]? = some x ∧ p x = true ∧ (l.take k).any p = false := fun n => by
      induction n with
      | zero => exact fun _ => .inl rfl
      | succ n ih =>
        intro hn2
        rcases ih (by omega) with h1 | h1
        · obtain ⟨x, hx⟩ := get_of_lt l n (by omega)
          cases hp : p x with
          | true => exact .inr ⟨n, x, hx, hp, h1⟩
          | false => exact .inl (any_snoc hx h1 hp)
        · exact .inr h1
    rcases this l.length (Nat.le_refl _) with h1 | ⟨k, x, hx, hp, hk⟩
    · rw [Yb] at h1; exact absurd h1 hn
    · exact ⟨k, x, by rw [← h, idxOf_at p hx hk hp], hx, hp, hk⟩
theorem keep_snoc {p : Mv → Bool} {l : List Mv} {k : Nat} {x : Mv} (h : l[k]? = some x) : keepF p (l.take (k + 1)) = keepF p (l.take k) ++ (if p x = true then [] else [x]) := by
  rw [take_snoc h, keepF, List.filter_append]
  congr 1
  cases hp : p x <;> simp [hp]
theorem get_of_drop {c l : List Mv} {j : Nat} {x : Mv} (h : c.drop j = l.drop j) (hx : l[j]? = some x) : c[j]? = some x := by
  have h9 : (c.drop j)[0]? = (l.drop j)[0]? := by rw [h]
  rw [List.getElem?_drop, List.getElem?_drop, Nat.add_zero] at h9
  rw [h9]; exact hx
theorem drop_of_drop {c l : List Mv} {j : Nat} (h : c.drop j = l.drop j) : c.drop (j + 1) = l.drop (j + 1) := by
  have h1 : (c.drop j).drop 1 = (l.drop j).drop 1 := by rw [h]
  rwa [Ye, Ye] at h1
theorem set_keep {c : List Mv} {i j : Nat} {K : List Mv} {l : List Mv} {x : Mv} (hi : K.length = i) (hij : i < j) (hc : c.length = l.length) (hjl : j < l.length) (hp : c.take i = K) (hs : c.drop j = l.drop j) : (c.set i x).take (i + 1) = K ++ [x] ∧ (c.set i x).drop (j + 1) = l.drop (j + 1) := by
  constructor
  · rw [take_set_succ (by omega), hp]
  · rw [List.drop_set, if_pos (by omega)]
    have h1 : (c.drop j).drop 1 = (l.drop j).drop 1 := by rw [hs]
    rwa [Ye, Ye] at h1
def seqX (l : List Mv) (spare : Int) : V := .tup [mvsX (seqF l spare).1, .int (seqF l spare).2]
theorem mv_app (l : List Mv) (p : Mv) : l.map mvV ++ [.agg [.int p.1, .int p.2]] = (l ++ [p]).map mvV := by rw [Yd]; rfl
theorem idx_at {p : Mv → Bool} {l : List Mv} (h : ¬ idxOf p l < 0) : ∃ (m : Nat) (y : Mv), idxOf p l = m ∧ m < l.length ∧ l[m]? = some y := by
  rcases idx_bounds (p := p) (l := l) rfl with ⟨h1, _⟩ | ⟨k, x, h1, h2, _⟩
  · omega
  · exact ⟨k, x, h1, (Yf.1 h2).1, h2⟩
theorem brk_cell {left : List Mv} {rest : List V} {k : Nat} {p : Mv} {spare v : Int} (hp : left[k]? = some p) (h : p.2 = v) : (mvL ((left.take k).map (brkF spare v) ++ left.drop k) ++ rest).set (k * 2 + 1) (V.int spare) = mvL ((left.take (k + 1)).map (brkF spare v) ++ left.drop (k + 1)) ++ rest := by
  rw [mvL_set1 (brk_get _ hp), ← brk_step _ hp, brkF, if_pos h]
theorem brk_same {left : List Mv} (rest : List V) {k : Nat} {p : Mv} {spare v : Int} (hp : left[k]? = some p) (h : p.2 ≠ v) : mvL ((left.take k).map (brkF spare v) ++ left.drop k) ++ rest = mvL ((left.take (k + 1)).map (brkF spare v) ++ left.drop (k + 1)) ++ rest := by
  have h2 := brk_get (brkF spare v) hp
  obtain ⟨hl, he⟩ := Yf.1 h2
  rw [← brk_step _ hp, show brkF spare v p = p from if_neg h]
  conv => rhs; rw [← he]
  rw [List.set_getElem_self]
theorem brk_ble {left : List Mv} {rest : List V} {k : Nat} {f : Mv → Mv} (hk : k ≤ left.length) (h : (k : Int) < left.length) : Nat.ble (k * 2 + 1 + 1) (mvL ((left.take k).map f ++ left.drop k) ++ rest).length = true := mv_ble (by simp; omega)
theorem perm_3to {a b c : Own} : [a, b, c].Perm ([c, b] ++ [a]) := ((List.Perm.swap b a [c]).trans (.cons b (.swap c a []))).trans (.swap c b [a])
open Go.VL renaming VOps_nil → Za, VW_seq → Zb, VW_region → Zd, Needs_nil → Ze, Then_n → Zi, V_assign → Zk, V_move → Zl, eqRes → Zm, vopT → Zn, goodS → Zo, VW_block → Zs, VW_exit → Zt, V_load → Zu, V_load_agg → Zv, V_store_agg → Zx, V_store → Zy, V_indexAddr → Zz, InBlock_r → Za1, InBlock_n → Zb1, InBlock_hit → Zc1, Then_r → Zd1, Then_e → Ze1, VW_ret → Zf1, VRet_one → Zg1, VRet_many → Zh1, VW_skip → Zi1, V_bin → Zj1, VW_condEq → Zl1, VW_condP → Zn1, VW_condN → Zo1, VW_condT → Zp1, VW_cond → Zr1, V_pickT → Zs1, V_pickF → Zt1, V_load_ep_agg → Za2, V_alloc → Zb2, V_box → Zc2, V_lenN → Zd2, V_add → Zh2, VW_loopF → Zi2, VOps_split → Zj2, V_not → Zl2, goodU1 → Zn2, V_indexAddr_row → Zr2, Drops.refl → Zt2, VOp_as → Zu2, perm_erase → Zv2, V_load_elem → Ze3, V_store_elem → Zg3, V_appendN → Zi3, V_lit → Zk3, V_callKs → Zl3, V_call → Zm3
set_option maxRecDepth 100000 in
theorem mvCloneRow_c (l : List Mv) (hne : l ≠ []) (hl : l.length ≤ 1000000) : VCalls Try.prog 61 [.sl 2 none (l.map mvV)] [] fun r S' => ∃ g cap rest, l.length ≤ cap ∧ cap ≤ maxLen ∧ r = .raw (.slice (some ⟨g, 0, none⟩) l.length cap) ∧ S' = [.cells g 86 ((l.map mvV).flatMap V.leaves ++ rest)] := by
 refine VCalls_drops ?_
 refine V_start (nt := 8) Try.func61 rfl rfl rfl ?_
 refine Zb (Zd (Zc (Zk rfl (Za (Zi (Zb (Zb (Zd (Zc (Zl rfl ?_))))))))))
 refine Zc (V_eqNil Try.underlying85 rfl (fun b4 hb4 => ?_))
 refine Za (Zi ?_)
 refine Zr1 rfl (fun h4 => ?_) (fun h4 => ?_)
 · exact absurd (hb4 h4) (by simpa using hne)
 ·
  refine Zi1 (Zi (Zb (Zd ?_)))
  refine Zc (V_litRow [] VT.sl85 rfl rfl rfl rfl rfl (fun g5 => ?_))
  refine Zc (Zl rfl ?_)
  refine Zc (V_appendRow VT.sl85 (by decide) rfl rfl (by have := List.length_pos_iff.2 hne; simpa using this) (by simp; omega) (mv_flat l) (fun g7 cap7 rest7 hc7 hm7 => ?_))
  refine Zc (Zk rfl (Za (Zi (Zf1 ?_))))
  refine Zg1 rfl (.tmp rfl) ?_
  exact ⟨_, Drops.keep (Drops.drop (Zt2 _)), g7, cap7, rest7, by simpa using hc7, hm7, by simp, rfl⟩
set_option maxRecDepth 100000 in
theorem mvIdx_c {l : List Mv} {tok : Option Tok} {p : Mv → Bool} {c : FuncId} {caps : List V} {o : Own} (hen : Enters Try.prog c) (hp : ∀ x ∈ l, VKeep Try.prog c (mvV x :: caps) [o] (.bool (p x))) : VKeep Try.prog 63 [.sl 2 tok (l.map mvV), .clo (.func c) caps] [o] (.int (idxOf p l)) := by
 refine V_start (nt := 19) Try.func63 rfl rfl rfl ?_
 refine Zb (Zd (Zc (Zk rfl (Za (Zi (Zb (Zb (Zd (Zc (Zl rfl ?_))))))))))
 refine Zc (Zd2 (n := l.length) Try.underlying85 rfl (by simp) (fun hl7 => ?_))
 refine Zc (Zl rfl (Za (Zi (Zs ?_))))
 refine Zi2 (ι := Nat) (fun k => l.length - k) (fun k => [(0, some (.sl 2 tok (l.map mvV))), (1, some (.clo (.func c) caps)), (7, some (.int l.length)), (8, some (.int k))]) (fun k => [o]) (fun k => k ≤ l.length ∧ (l.take k).any p = false) 0 ⟨Yi _, rfl⟩ ⟨rfl, rfl, rfl, rfl, trivial⟩ (Zt2 _) ?_
 rintro k hA
 change k ≤ l.length ∧ (l.take k).any p = false at hA
 obtain ⟨hk, hany⟩ := hA
 refine Zb (Zd (Zc (Zj1 rfl rfl rfl (Za (Zi (Zb ?_))))))
 refine Zn1 rfl (fun h9 => ?_) (fun h9 => ?_)
 ·
  obtain ⟨x, hr⟩ := get_of_lt l k h9
  refine Zi1 (Zi (Zb (Zs (Zb (Zd (Zc (Zl rfl (Zc (Zk rfl (Za (Zi (Zb (Zd (Zc (Zl rfl (Zc (Zl rfl (Zc (Zl rfl ?_)))))))))))))))))))
  refine Zc (Zz (el := mvV x) VT.sl85 rfl rfl (by omega) (get_mv hr) (fun a14 => ?_))
  refine Zc (Za2 VT.ty86 rfl rfl ?_)
  refine Zc (V_callClo [.tmp 15] [_] _ rfl rfl rfl hen (Zv2 (i := 0) rfl) (hp x (List.mem_of_getElem? hr)) ?_)
  rintro r Sa ⟨rfl, rfl⟩
  refine Za (Zi ?_)
  refine Zr1 rfl (fun h16 => ?_) (fun h16 => ?_)
  ·
   refine Zb (Zd (Zc (Zl rfl (Zc (Zk rfl (Za (Zi (Zf1 ?_))))))))
   refine Za1 (Zd1 (Zd1 (Za1 (Zd1 (Zg1 rfl (.tmp rfl) ?_)))))
   rw [idxOf_at p hr hany h16]
   exact ⟨rfl, rfl⟩
  ·
   refine Zi1 (Zb1 (Zi (Zd ?_)))
   refine Zc (Zh2 rfl rfl (by omega) ?_)
   refine Zc (Zl rfl (Za (Zi ?_)))
   exact ⟨k + 1, (by (try simp only []); omega), ⟨by omega, any_snoc hr hany h16⟩, ⟨rfl, rfl, rfl, rfl, trivial⟩, (Drops.keep (Zt2 _))⟩
 ·
  have hke : k = l.length := by omega
  subst hke
  rw [Yb] at hany
  refine Zt (Ze1 (Ze1 (Zc1 (Zi (Zb (Zd (Zc (Zk rfl (Za (Zi (Zf1 ?_)))))))))))
  refine Zg1 rfl (.tmp rfl) ?_
  rw [idxOf_none p hany]
  exact ⟨rfl, rfl⟩
set_option maxRecDepth 100000 in
theorem mvAny_c {l : List Mv} {tok : Option Tok} {p : Mv → Bool} {c : FuncId} {caps : List V} {o : Own} (hen : Enters Try.prog c) (hp : ∀ x ∈ l, VKeep Try.prog c (mvV x :: caps) [o] (.bool (p x))) : VKeep Try.prog 58 [.sl 2 tok (l.map mvV), .clo (.func c) caps] [o] (.bool (l.any p)) := by
 refine V_start (nt := 9) Try.func58 rfl rfl rfl ?_
 refine Zb (Zd (Zc (Zk rfl (Za (Zi (Zb (Zd (Zc (Zl rfl (Zc (Zl rfl ?_)))))))))))
 refine Zc (Zm3 [.tmp 5, .tmp 6] [_] _ rfl rfl VT.en63 (Zv2 (i := 0) rfl) (mvIdx_c hen hp) ?_)
 rintro r Sa ⟨rfl, rfl⟩
 refine Zc (Zj1 rfl rfl rfl (Zc (Zk rfl (Za (Zi (Zf1 ?_))))))
 refine Zg1 rfl (.tmp rfl) ?_
 rw [idxOf_ge]
 exact ⟨rfl, rfl⟩
set_option maxRecDepth 100000 in
theorem mvIdxR_c {l : List Mv} (hl : l.length ≤ 1000000) {gr cap : Nat} {rest : List V} {O : Store} {p : Mv → Bool} {c : FuncId} {caps : List V} (hen : Enters Try.prog c) (hp : ∀ x ∈ l, VKeep Try.prog c (mvV x :: caps) (.cells gr 86 (mvL (l) ++ rest) :: O) (.bool (p x))) : VKeep Try.prog 63 [.raw (.slice (some ⟨gr, 0, none⟩) l.length cap), .clo (.func c) caps] (.cells gr 86 (mvL (l) ++ rest) :: O) (.int (idxOf p l)) := by
 refine V_start (nt := 19) Try.func63 rfl rfl rfl ?_
 refine Zb (Zd (Zc (Zk rfl (Za (Zi (Zb (Zb (Zd (Zc (Zl rfl ?_))))))))))
 refine Zc (V_len_raw Try.underlying85 rfl ?_)
 refine Zc (Zl rfl (Za (Zi (Zs ?_))))
 refine Zi2 (ι := Nat) (fun k => l.length - k) (fun k => [(0, some (.raw (.slice (some ⟨gr, 0, none⟩) l.length cap))), (1, some (.clo (.func c) caps)), (7, some (.int l.length)), (8, some (.int k))]) (fun k => .cells gr 86 (mvL (l) ++ rest) :: O) (fun k => k ≤ l.length ∧ (l.take k).any p = false) 0 ⟨Yi _, rfl⟩ ⟨rfl, rfl, rfl, rfl, trivial⟩ (Drops.keep (Zt2 _)) ?_
 rintro k hA
 change k ≤ l.length ∧ (l.take k).any p = false at hA
 obtain ⟨hk, hany⟩ := hA
 refine Zb (Zd (Zc (Zj1 rfl rfl rfl (Za (Zi (Zb ?_))))))
 refine Zn1 rfl (fun h9 => ?_) (fun h9 => ?_)
 ·
  obtain ⟨x, hr⟩ := get_of_lt l k h9
  refine Zi1 (Zi (Zb (Zs (Zb (Zd (Zc (Zl rfl (Zc (Zk rfl (Za (Zi (Zb (Zd (Zc (Zl rfl (Zc (Zl rfl (Zc (Zl rfl ?_)))))))))))))))))))
  refine Zc (Zr2 VT.sl85 rfl rfl (by omega) (by omega) ?_)
  refine Zc (Ze3 0 k VT.ty86 rfl (by simp) rfl rfl (mvs_fit l) (get_mv hr) ?_)
  refine Zc (V_callCloG [.tmp 15] (.cells gr 86 (mvL (l) ++ rest) :: O) [] rfl rfl rfl hen (by rw [Yc]) (hp x (List.mem_of_getElem? hr)) ?_)
  rintro r Sa ⟨rfl, rfl⟩
  refine ⟨_, Drops.of_perm (by rw [Yc]), ?_⟩
  refine Za (Zi ?_)
  refine Zr1 rfl (fun h16 => ?_) (fun h16 => ?_)
  ·
   refine Zb (Zd (Zc (Zl rfl (Zc (Zk rfl (Za (Zi (Zf1 ?_))))))))
   refine Za1 (Zd1 (Zd1 (Za1 (Zd1 (Zg1 rfl (.tmp rfl) ?_)))))
   rw [idxOf_at p hr hany h16]
   exact ⟨rfl, rfl⟩
  ·
   refine Zi1 (Zb1 (Zi (Zd ?_)))
   refine Zc (Zh2 rfl rfl (by omega) ?_)
   refine Zc (Zl rfl (Za (Zi ?_)))
   exact ⟨k + 1, (by (try simp only []); omega), ⟨by omega, any_snoc hr hany h16⟩, ⟨rfl, rfl, rfl, rfl, trivial⟩, (Drops.keep (Zt2 _))⟩
 ·
  have hke : k = l.length := by omega
  subst hke
  rw [Yb] at hany
  refine Zt (Ze1 (Ze1 (Zc1 (Zi (Zb (Zd (Zc (Zk rfl (Za (Zi (Zf1 ?_)))))))))))
  refine Zg1 rfl (.tmp rfl) ?_
  rw [idxOf_none p hany]
  exact ⟨rfl, rfl⟩
set_option maxRecDepth 100000 in
theorem mvAnyR_c {l : List Mv} (hl : l.length ≤ 1000000) {gr cap : Nat} {rest : List V} {O : Store} {p : Mv → Bool} {c : FuncId} {caps : List V} (hen : Enters Try.prog c) (hp : ∀ x ∈ l, VKeep Try.prog c (mvV x :: caps) (.cells gr 86 (mvL (l) ++ rest) :: O) (.bool (p x))) : VKeep Try.prog 58 [.raw (.slice (some ⟨gr, 0, none⟩) l.length cap), .clo (.func c) caps] (.cells gr 86 (mvL (l) ++ rest) :: O) (.bool (l.any p)) := by
 refine V_start (nt := 9) Try.func58 rfl rfl rfl ?_
 refine Zb (Zd (Zc (Zk rfl (Za (Zi (Zb (Zd (Zc (Zl rfl (Zc (Zl rfl ?_)))))))))))
 refine Zc (V_callG [.tmp 5, .tmp 6] (.cells gr 86 (mvL (l) ++ rest) :: O) [] rfl rfl VT.en63 (by rw [Yc]) (mvIdxR_c hl hen hp) ?_)
 rintro r Sa ⟨rfl, rfl⟩
 refine ⟨_, Drops.of_perm (by rw [Yc]), ?_⟩
 refine Zc (Zj1 rfl rfl rfl (Zc (Zk rfl (Za (Zi (Zf1 ?_))))))
 refine Zg1 rfl (.tmp rfl) ?_
 rw [idxOf_ge]
 exact ⟨rfl, rfl⟩
set_option maxRecDepth 100000 in
theorem seq1_c (x y : Mv) (gx : Nat) : VKeep Try.prog 59 [mvV y, .ptr gx 0] [.cells gx 86 [.int x.1, .int x.2]] (.bool (y.1 == x.1)) := by
 refine VKeep.drops ?_
 refine V_start (nt := 9) Try.func59 rfl rfl rfl ?_
 refine Zb (Zd ?_)
 refine Zc (Zc2 rfl rfl (fun g2 => ?_))
 refine Zc (Zk rfl (Za (Zi (Zb (Zd ?_)))))
 refine Zc (V_indexAddr_arr Try.underlying86 VT.se86 rfl rfl (by omega) (by omega) ?_)
 refine Zc (Zu 0 VT.ty3 rfl rfl rfl ?_)
 refine Zc (V_indexAddr_arr Try.underlying86 VT.se86 rfl rfl (by omega) (by omega) ?_)
 refine Zc (Zu 1 VT.ty3 rfl rfl rfl (Zc (Zj1 rfl rfl rfl (Zc (Zk rfl (Za (Zi (Zf1 ?_))))))))
 refine Zg1 rfl (.tmp rfl) ?_
 exact ⟨rfl, (Drops.drop (Drops.keep (Zt2 _)))⟩
set_option maxRecDepth 100000 in
theorem seq2_c (x : Mv) : VPure Try.prog 62 [mvV x] (.bool (x.1 == x.2)) := by
 refine V_start (nt := 8) Try.func62 rfl rfl rfl ?_
 refine Zb (Zd ?_)
 refine Zc (Zc2 rfl rfl (fun g1 => ?_))
 refine Zc (Zk rfl (Za (Zi (Zb (Zd ?_)))))
 refine Zc (V_indexAddr_arr Try.underlying86 VT.se86 rfl rfl (by omega) (by omega) ?_)
 refine Zc (Zu 0 VT.ty3 rfl rfl rfl ?_)
 refine Zc (V_indexAddr_arr Try.underlying86 VT.se86 rfl rfl (by omega) (by omega) ?_)
 refine Zc (Zu 0 VT.ty3 rfl rfl rfl (Zc (Zj1 rfl rfl rfl (Zc (Zk rfl (Za (Zi (Zf1 ?_))))))))
 refine Zg1 rfl (.tmp rfl) ?_
 rfl
set_option maxRecDepth 100000 in
theorem seq31_c (x y : Mv) (gx : Nat) : VKeep Try.prog 65 [mvV y, .ptr gx 0] [.cells gx 86 [.int x.1, .int x.2]] (.bool (y.2 == x.1)) := by
 refine VKeep.drops ?_
 refine V_start (nt := 9) Try.func65 rfl rfl rfl ?_
 refine Zb (Zd ?_)
 refine Zc (Zc2 rfl rfl (fun g2 => ?_))
 refine Zc (Zk rfl (Za (Zi (Zb (Zd ?_)))))
 refine Zc (V_indexAddr_arr Try.underlying86 VT.se86 rfl rfl (by omega) (by omega) ?_)
 refine Zc (Zu 0 VT.ty3 rfl rfl rfl ?_)
 refine Zc (V_indexAddr_arr Try.underlying86 VT.se86 rfl rfl (by omega) (by omega) ?_)
 refine Zc (Zu 1 VT.ty3 rfl rfl rfl (Zc (Zj1 rfl rfl rfl (Zc (Zk rfl (Za (Zi (Zf1 ?_))))))))
 refine Zg1 rfl (.tmp rfl) ?_
 exact ⟨rfl, (Drops.drop (Drops.keep (Zt2 _)))⟩
theorem seq31_k (l : List Mv) (x y : Mv) (gr cap : Nat) (rest : List V) (gx : Nat) : VKeep Try.prog 65 [mvV y, .ptr gx 0] [.cells gr 86 (mvL (l) ++ rest), .cells gx 86 [.int x.1, .int x.2]] (.bool (y.2 == x.1)) :=
  VKeep.perm (VKeep.frame [.cells gr 86 (mvL (l) ++ rest)] (seq31_c x y gx)) perm_21
set_option maxRecDepth 100000 in
theorem seq3_c (l : List Mv) (hl : l.length ≤ 1000000) (x : Mv) (gl gr cap : Nat) (rest : List V) : VKeep Try.prog 64 [mvV x, .ptr gl 0] [.cells gr 86 (mvL (l) ++ rest), .cells gl 85 [.raw (.slice (some ⟨gr, 0, none⟩) l.length cap)]] (.bool (!(l.any fun y => y.2 == x.1))) := by
 refine VKeep.drops ?_
 refine V_start (nt := 8) Try.func64 rfl rfl rfl ?_
 refine Zb (Zd ?_)
 refine Zc (Zc2 rfl rfl (fun g2 => ?_))
 refine Zc (Zk rfl (Za (Zi (Zb (Zd (Zc (Zu 2 VT.ty85 rfl rfl rfl ?_)))))))
 refine Zc (V_makeFunc [.tmp 2] rfl rfl ?_)
 refine Zc (V_callG [.tmp 4, .tmp 5] (.cells gr 86 (mvL (l) ++ rest) :: [.cells g2 86 [.int x.1, .int x.2]]) [_] rfl rfl VT.en58 (perm_213) (mvAnyR_c (O := [.cells g2 86 [.int x.1, .int x.2]]) hl VT.en65 (fun y _ => seq31_k l x y gr cap rest g2)) ?_)
 rintro r Sa ⟨rfl, rfl⟩
 refine ⟨_, Zt2 _, ?_⟩
 refine Zc (Zl2 rfl (Zc (Zk rfl (Za (Zi (Zf1 ?_))))))
 refine Zg1 rfl (.tmp rfl) ?_
 exact ⟨rfl, (Drops.keep (Drops.drop (Drops.keep (Zt2 _))))⟩
set_option maxRecDepth 100000 in
set_option maxHeartbeats 4000000 in
theorem mvDel_c {l : List Mv} {gr cap : Nat} {rest : List V} {p : Mv → Bool} {c : FuncId} {caps : List V} (hen : Enters Try.prog c) (hp : ∀ x, VPure Try.prog c (mvV x :: caps) (.bool (p x))) (hl : l.length ≤ 1000000) (hlc : l.length ≤ cap) (hcm : cap ≤ maxLen) : VCalls Try.prog 60 [.raw (.slice (some ⟨gr, 0, none⟩) l.length cap), .clo (.func c) caps] [.cells gr 86 (mvL (l) ++ rest)] fun r S' => ∃ rest', r = .raw (.slice (some ⟨gr, 0, none⟩) (keepF p l).length cap) ∧ S' = [.cells gr 86 (mvL (keepF p l) ++ rest')] := by
 refine VCalls_drops ?_
 refine V_start (nt := 42) Try.func60 rfl rfl rfl ?_
 refine Zb (Zd (Zc (Zk rfl (Za (Zi (Zb (Zd (Zc (Zl rfl (Zc (Zl rfl ?_)))))))))))
 refine Zc (V_callG [.tmp 8, .tmp 9] [.cells gr 86 (mvL (l) ++ rest)] [] rfl rfl VT.en63 (by rw [Yc]) (mvIdxR_c (O := []) hl hen (fun x _ => (hp x).keep _)) ?_)
 rintro r Sa ⟨rfl, rfl⟩
 refine ⟨[.cells gr 86 (mvL (l) ++ rest)], Zt2 _, ?_⟩
 obtain ⟨i, hi⟩ : ∃ i, idxOf p l = i := ⟨_, rfl⟩
 rw [hi]
 have hib := idx_bounds hi
 refine Zc (Zk rfl (Za (Zi (Zb (Zb (Zd (Zc (Zl rfl (Zc (Zj1 rfl rfl rfl (Za (Zi ?_))))))))))))
 refine Zl1 rfl (fun h12 => ?_) (fun h12 => ?_)
 ·
  subst h12
  have hn : l.any p = false := by rcases hib with ⟨_, h⟩ | ⟨k, x, h, _⟩; exact h; omega
  have hkk : keepF p l = l := by have := filter_pre (p := p) (l := l) (k := l.length) (by rw [Yb]; exact hn); rwa [Yb] at this
  refine Zb (Zd (Zc (Zl rfl (Zc (Zk rfl (Za (Zi (Zf1 ?_))))))))
  refine Zd1 (Zg1 rfl (.tmp rfl) ?_)
  exact ⟨_, (Drops.keep (Zt2 _)), rest, by rw [hkk], by rw [hkk]⟩
 ·
  obtain ⟨k0, x0, rfl, hx0, hp0, hpre⟩ := hib.resolve_left (fun h => h12 h.1)
  have hk0 := (Yf.1 hx0).1
  have hke0 : keepF p (l.take (k0 + 1)) = l.take k0 := by rw [keep_snoc hx0, filter_pre hpre, if_pos hp0, Yc]
  refine Zi1 (Zi (Zb (Zb (Zd (Zc (Zl rfl ?_))))))
  refine Zc (Zh2 rfl rfl (by omega) ?_)
  refine Zc (Zk rfl (Za (Zi (Zs ?_))))
  refine Zi2 (ι := Nat × Nat × List Mv) (fun (i, j, c2) => l.length - j) (fun (i, j, c2) => [(0, some (.raw (.slice (some ⟨gr, 0, none⟩) l.length cap))), (1, some (.clo (.func c) caps)), (5, some (.int i)), (6, some (.int j))]) (fun (i, j, c2) => [.cells gr 86 (mvL (c2) ++ rest)]) (fun (i, j, c2) => i < j ∧ j ≤ l.length ∧ c2.length = l.length ∧ (keepF p (l.take j)).length = i ∧ c2.take i = keepF p (l.take j) ∧ c2.drop j = l.drop j) (k0, k0 + 1, l) ⟨by omega, by omega, rfl, by rw [hke0, List.length_take]; omega, by rw [hke0], rfl⟩ ⟨rfl, rfl, rfl, rfl, trivial⟩ (Drops.keep (Zt2 _)) ?_
  rintro ⟨i, j, c2⟩ hA
  change i < j ∧ j ≤ l.length ∧ c2.length = l.length ∧ (keepF p (l.take j)).length = i ∧ c2.take i = keepF p (l.take j) ∧ c2.drop j = l.drop j at hA
  obtain ⟨hij, hj, hcl, hki, hct, hcd⟩ := hA
  refine Zb (Zb (Zd (Zc (Zl rfl (Zc (Zl rfl ?_))))))
  refine Zc (V_len_raw Try.underlying85 rfl ?_)
  refine Zc (Zj1 rfl rfl rfl (Za (Zi ?_)))
  refine Zn1 rfl (fun h19 => ?_) (fun h19 => ?_)
  ·
   obtain ⟨x, hx⟩ := get_of_lt l j h19
   have hxc : c2[j]? = some x := get_of_drop hcd hx
   have hks := keep_snoc (p := p) hx
   refine Zi1 (Zi (Zb (Zs (Zb (Zd (Zc (Zl rfl (Zc (Zl rfl ?_)))))))))
   refine Zc (Zr2 VT.sl85 rfl rfl (by omega) (by omega) ?_)
   refine Zc (Ze3 0 j VT.ty86 rfl (by simp) rfl rfl (mvs_fit c2) (get_mv hxc) ?_)
   refine Zc (Zb2 VT.zr86 _ rfl rfl (fun g7 => ?_))
   refine Zc (Zx 0 VT.ty86 rfl rfl rfl rfl rfl (Za (Zi (Zb (Zd (Zc (Zl rfl (Zc (Zv 0 VT.ty86 rfl rfl rfl ?_)))))))))
   refine Zc (V_callCloP [.tmp 27] rfl rfl rfl hen (hp x) ?_)
   refine Zc (Zl2 rfl (Za (Zi ?_)))
   refine Zo1 rfl (fun h29 => ?_) (fun h29 => ?_)
   ·
    rw [if_neg (by rw [h29]; decide)] at hks
    have hA3 := set_keep (x := x) hki hij hcl (by omega) hct hcd
    have hA2 : i + 1 < j + 1 ∧ j + 1 ≤ l.length ∧ (c2.set i x).length = l.length ∧ (keepF p (l.take (j + 1))).length = i + 1 ∧ (c2.set i x).take (i + 1) = keepF p (l.take (j + 1)) ∧ (c2.set i x).drop (j + 1) = l.drop (j + 1) := ⟨by omega, by omega, by rw [List.length_set]; exact hcl, by rw [hks, Ya, hki]; rfl, by rw [hks]; exact hA3.1, hA3.2⟩
    refine Zb (Zd (Zc (Zl rfl (Zc (Zl rfl (Zc (Zv 0 VT.ty86 rfl rfl rfl ?_)))))))
    refine Zc (Zr2 VT.sl85 rfl rfl (by omega) (by omega) ?_)
    refine Zc (Zg3 1 i VT.ty86 rfl (by simp) rfl rfl rfl rfl (mvs_fit c2) (by rw [List.length_map]; omega) ?_)
    refine Za (Zi (Zd (Zc (Zl rfl ?_))))
    refine Zc (Zh2 rfl rfl (by omega) ?_)
    refine Zc (Zk rfl (Za (Zb1 (Zi (Zd (Zc (Zl rfl ?_)))))))
    refine Zc (Zh2 rfl rfl (by omega) ?_)
    refine Zc (Zk rfl (Za (Zi ?_)))
    exact ⟨(i + 1, j + 1, c2.set i x), (by (try simp only []); omega), hA2, ⟨rfl, rfl, rfl, rfl, trivial⟩, (Drops.drop (Drops.keepE (by first | rfl | exact congrArg (Own.cells gr 86) (mv_set x)) (Zt2 _)))⟩
   ·
    rw [if_pos h29, Yc] at hks
    have hA2 : i < j + 1 ∧ j + 1 ≤ l.length ∧ c2.length = l.length ∧ (keepF p (l.take (j + 1))).length = i ∧ c2.take i = keepF p (l.take (j + 1)) ∧ c2.drop (j + 1) = l.drop (j + 1) := ⟨by omega, by omega, hcl, by rw [hks]; exact hki, by rw [hks]; exact hct, drop_of_drop hcd⟩
    refine Zi1 (Zb1 (Zi (Zd (Zc (Zl rfl ?_)))))
    refine Zc (Zh2 rfl rfl (by omega) ?_)
    refine Zc (Zk rfl (Za (Zi ?_)))
    exact ⟨(i, j + 1, c2), (by (try simp only []); omega), hA2, ⟨rfl, rfl, rfl, rfl, trivial⟩, (Drops.drop (Drops.keepE (by first | rfl | exact congrArg (Own.cells gr 86) (mv_set x)) (Zt2 _)))⟩
  ·
   have hje : j = l.length := by omega
   subst hje
   rw [Yb] at hki hct
   refine Zt (Ze1 (Ze1 (Zc1 (Zi (Zb (Zd (Zc (Zl rfl (Zc (Zl rfl ?_))))))))))
   refine Zc (V_slice_rawFrom VT.sl85 rfl rfl (by omega) (by omega) (by omega) (by omega) ?_)
   refine Zc (V_clear_row 0 VT.sl85 (by decide) rfl rfl (by rw [Ya, mvL_len]; omega) (fun r11 rest11 => ?_))
   refine Za (Zi ?_)
   rw [Nat.zero_add, show ((i : Int)).toNat = i by omega, mvL_take c2 rest (by omega), hct]
   refine Zb (Zd (Zc (Zl rfl (Zc (Zl rfl ?_)))))
   refine Zc (V_slice_rawTo VT.sl85 rfl rfl (by omega) (by omega) ?_)
   refine Zc (Zk rfl (Za (Zi (Zf1 ?_))))
   refine Zg1 rfl (.tmp rfl) ?_
   exact ⟨_, (Drops.keep (Zt2 _)), rest11, by rw [hki]; rfl, rfl⟩
set_option maxRecDepth 100000 in
set_option maxHeartbeats 4000000 in
theorem mvDelete_c (l : List Mv) (gr cap i : Nat) (rest : List V) (hi : i < l.length) (hl : l.length ≤ 1000000) (hlc : l.length ≤ cap) (hcm : cap ≤ maxLen) : VCalls Try.prog 66 [.raw (.slice (some ⟨gr, 0, none⟩) l.length cap), .int i, .int ((i : Int) + 1)] [.cells gr 86 (mvL (l) ++ rest)] fun r S' => ∃ rest', r = .raw (.slice (some ⟨gr, 0, none⟩) (l.eraseIdx i).length cap) ∧ S' = [.cells gr 86 (mvL (l.eraseIdx i) ++ rest')] := by
 refine VCalls_drops ?_
 have hel : (l.eraseIdx i).length = l.length - 1 := by rw [Yg, if_pos hi]
 refine V_start (nt := 33) Try.func66 rfl rfl rfl ?_
 refine Zb (Zd (Zc (Zk rfl (Za (Zi (Zb (Zd (Zc (Zl rfl (Zc (Zl rfl (Zc (Zl rfl (Zc (Zl rfl ?_)))))))))))))))
 refine Zc (V_len_raw Try.underlying85 rfl ?_)
 refine Zc (V_slice3_row VT.sl85 rfl rfl rfl rfl (by omega) (by omega) (by omega) (by omega) ?_)
 refine Za (Zi (Zb (Zb (Zd (Zc (Zl rfl (Zc (Zl rfl (Zc (Zj1 rfl rfl rfl (Za (Zi ?_))))))))))))
 refine Zl1 rfl (fun h16 => ?_) (fun h16 => ?_)
 · omega
 ·
  refine Zi1 (Zi (Zb (Zd (Zc (Zl rfl ?_)))))
  refine Zc (V_len_raw Try.underlying85 rfl ?_)
  refine Zc (Zk rfl (Za (Zi (Zb ?_))))
  refine VW_drawR (G := Unit) [([], [0], []), ([], [1], []), ([1, 0], [20, 21], []), ([], [0], []), ([], [2], []), ([4, 3], [23, 24], []), (dn 6, [22, 25], []), (dn 7, [26], [])] [6] (setSt _ 0 (fun _ => .cells gr 86 ((mvL l ++ rest).take (i * 2) ++ (((mvL l ++ rest).drop (if cap = i + 1 then 0 else 0 + (i + 1) * 2)).take ((l.length - (i + 1)) * 2) ++ (mvL l ++ rest).drop (i * 2 + (l.length - (i + 1)) * 2))))) [0] [0, 20, 21, 22, 23, 24, 25, 26] rfl VT.mix ?_
  refine Zp (Zm _) (Zo rfl rfl ⟨(fun γ => Zf (fun _ h0 => Ze (Zn rfl (Zl h0 ⟨rfl, rfl⟩)))), trivial⟩) ?_
  refine Zp (Zm _) (Zo rfl rfl ⟨(fun γ => Zf (fun _ h1 => Ze (Zn rfl (Zl h1 ⟨rfl, rfl⟩)))), trivial⟩) ?_
  refine Zp (Zm _) (Zo rfl rfl ⟨(fun γ => Zw 0 1 rfl (fun _ h20 => Zw 1 0 rfl (fun _ h21 => Ze (Zn rfl (V_slice_rawTo VT.sl85 h20 h21 (by omega) (by omega) ⟨rfl, rfl⟩))))), trivial⟩) ?_
  refine Zp (Zm _) (Zo rfl rfl ⟨(fun γ => Zf (fun _ h0 => Ze (Zn rfl (Zl h0 ⟨rfl, rfl⟩)))), trivial⟩) ?_
  refine Zp (Zm _) (Zo rfl rfl ⟨(fun γ => Zf (fun _ h2 => Ze (Zn rfl (Zl h2 ⟨rfl, rfl⟩)))), trivial⟩) ?_
  refine Zp (Zm _) (Zo rfl rfl ⟨(fun γ => Zw 3 1 rfl (fun _ h23 => Zw 4 0 rfl (fun _ h24 => Ze (Zn rfl (V_slice_rawFromE VT.sl85 h23 h24 (by omega) (by omega) (by omega) ⟨rfl, rfl⟩))))), trivial⟩) ?_
  refine Zp (Zm (.raw (.slice (some ⟨gr, 0, none⟩) (l.eraseIdx i).length cap))) (Zn2 rfl (fun γ => Zw 2 3 rfl (fun _ h22 => Zw 5 0 rfl (fun _ h25 => Ze (Zn rfl (V_appendIn 0 VT.sl85 h22 h25 rfl (by omega) (by rw [Ya, mvL_len]; split <;> omega) (by rw [Ya, mvL_len]; omega) ⟨(), congrArg (fun n : Nat => some (V.raw (.slice (some ⟨gr, 0, none⟩) n cap))) (by rw [hel]; omega), rfl⟩)))))) ?_
  refine Zp (Zm _) (Zo rfl rfl ⟨(fun γ => Zw 6 0 rfl (fun _ h26 => Ze (Zn rfl (Zk h26 ⟨rfl, rfl⟩)))), trivial⟩) ?_
  refine DrawP_nil (fun γ => Zw 7 0 rfl (fun r0 h0 => Ze ?_))
  have e0 : r0 = some _ := h0
  subst e0
  clear h0
  refine Zi ?_
  obtain ⟨Y, hY⟩ : ∃ Y, Y = (mvL l ++ rest).drop (i * 2 + (l.length - (i + 1)) * 2) := ⟨_, rfl⟩
  have hYl : 2 ≤ Y.length := by rw [hY, List.length_drop, Ya, mvL_len]; omega
  refine VW_drops (S' := [.cells gr 86 (mvL (l.eraseIdx i) ++ Y)]) (Drops.keepE (congrArg (Own.cells gr 86) (by rw [hY]; exact mvL_moveE hi hlc)) (Drops.nil _)) ?_
  refine Zb (Zd (Zc (Zl rfl (Zc (Zl rfl ?_)))))
  refine Zc (V_len_raw Try.underlying85 rfl ?_)
  refine Zc (Zl rfl ?_)
  refine Zc (V_slice_rawBoth VT.sl85 rfl rfl rfl (by omega) (by omega) (by omega) (by omega) ?_)
  refine Zc (V_clear_row 0 VT.sl85 (by decide) rfl rfl (by rw [Ya, mvL_len]; omega) (fun r6 rest6 => ?_))
  refine Za (Zi (Zb (Zd (Zc (Zl rfl (Zc (Zk rfl (Za (Zi (Zf1 ?_))))))))))
  refine Zg1 rfl (.tmp rfl) ?_
  exact ⟨_, (Drops.keep (Zt2 _)), rest6, rfl, by rw [Nat.zero_add, Int.toNat_natCast, mvL_take _ _ (Nat.le_refl _), Yb]⟩
set_option maxRecDepth 100000 in
set_option maxHeartbeats 16000000 in
theorem Sequence_c (l : List Mv) (spare : Int) (hne : l ≠ []) (hl : l.length ≤ 10000) : VPure Try.prog 42 [mvsX l, .int spare] (seqX l spare) := by
 have hr := seqX.eq_def l spare
 rw [seqF] at hr
 refine V_start (nt := 99) Try.func42 rfl rfl rfl ?_
 refine Zb (Zd (Zc (Zk rfl (Zc (Zk rfl (Za (Zi (Zb (Zb (Zd (Zc (Zl rfl ?_))))))))))))
 refine Zc (Zd2 (n := l.length) Try.underlying85 rfl (by simp) (fun hl14 => ?_))
 refine Zc (Zl rfl (Za (Zi (Zs ?_))))
 refine Zi2 (ι := Nat) (fun k => l.length - k) (fun k => [(0, some (mvsX l)), (1, some (.int spare)), (13, some (mvsX l)), (14, some (.int l.length)), (15, some (.int k))]) (fun k => []) (fun k => k ≤ l.length ∧ seqBad spare (l.take k) (l.drop k) = seqBad spare [] l) 0 ⟨Yi _, rfl⟩ ⟨rfl, rfl, rfl, rfl, rfl, trivial⟩ (Drops.nil _) ?_
 rintro k hA
 change k ≤ l.length ∧ seqBad spare (l.take k) (l.drop k) = seqBad spare [] l at hA
 obtain ⟨hk, hq⟩ := hA
 refine Zb (Zd (Zc (Zj1 rfl rfl rfl (Za (Zi (Zb ?_))))))
 refine Zn1 rfl (fun h16 => ?_) (fun h16 => ?_)
 ·
  obtain ⟨x, hx⟩ := get_of_lt l k h16
  rw [drop_cons hx, seqBad] at hq
  refine Zi1 (Zi (Zb (Zs (Zb (Zd (Zc (Zl rfl ?_)))))))
  refine Zc (Zz (el := mvV x) VT.sl85 rfl rfl (by omega) (get_mv hx) (fun a18 => ?_))
  refine Zc (Za2 VT.ty86 rfl rfl ?_)
  refine Zc (Zb2 VT.zr86 _ rfl rfl (fun g7 => ?_))
  refine Zc (Zk rfl (Zc (Zx 0 VT.ty86 rfl rfl rfl rfl rfl (Za (Zi (Zs (Zb (Zd ?_))))))))
  refine Zc (V_indexAddr_arr Try.underlying86 VT.se86 rfl rfl (by omega) (by omega) ?_)
  refine Zc (Zu 0 VT.ty3 rfl rfl rfl (Zc (Zj1 rfl rfl rfl (Zc (Zl rfl ?_)))))
  refine Zj2 (q := 24) rfl (fun hq24 => ?_) (fun hq24 => ?_)
  ·
   have h24 : x.1 < 0 := of_decide_eq_true hq24
   rw [if_pos (.inl h24)] at hq
   rw [← hq, if_neg (by decide)] at hr
   refine Zk0 hq24 ?_
   refine Zk0 hq24 ?_
   refine Zk0 hq24 ?_
   refine Zc (Zs1 rfl hq24 rfl ?_)
   refine Zc (Zk rfl (Za (Zi ?_)))
   refine Zp1 rfl rfl ?_
   refine Zb (Zd ?_)
   refine Zc (Zu2 (Zk rfl ⟨rfl, rfl⟩) ((V.le.nil 2)) ?_)
   refine Zc (Zk rfl (Za (Zi (Zf1 ?_))))
   refine Za1 (Za1 (Zd1 (Zd1 (Za1 (Zd1 (Zh1 rfl rfl (.cons (.tmp rfl) (.cons (.tmp rfl) (.nil))) ?_))))))
   first | (rw [hr]; done) | (rw [hr]; rfl) | (rw [hr, hq]; done) | (rw [hr, hq]; rfl)
  ·
   have h24 : ¬ x.1 < 0 := of_decide_eq_false hq24
   refine Zc (V_indexAddr_arr Try.underlying86 VT.se86 rfl rfl (by omega) (by omega) ?_) (Zy0 hq24)
   refine Zc (Zu 0 VT.ty3 rfl rfl rfl ?_) (Zy0 hq24)
   refine Zc (Zj1 rfl rfl rfl ?_) (Zy0 hq24)
   refine Zc (Zt1 rfl hq24 rfl ?_)
   refine Zc (Zk rfl (Za (Zi ?_)))
   refine Zn1 rfl (fun h20 => ?_) (fun h20 => ?_)
   ·
    rw [if_pos (.inr h20)] at hq
    rw [← hq, if_neg (by decide)] at hr
    refine Zb (Zd ?_)
    refine Zc (Zu2 (Zk rfl ⟨rfl, rfl⟩) ((V.le.nil 2)) ?_)
    refine Zc (Zk rfl (Za (Zi (Zf1 ?_))))
    refine Za1 (Za1 (Zd1 (Zd1 (Za1 (Zd1 (Zh1 rfl rfl (.cons (.tmp rfl) (.cons (.tmp rfl) (.nil))) ?_))))))
    first | (rw [hr]; done) | (rw [hr]; rfl) | (rw [hr, hq]; done) | (rw [hr, hq]; rfl)
   ·
    rw [if_neg (fun h => h.elim h24 h20)] at hq
    refine Zb (Zd (Zc (Zl rfl (Zc (Zl rfl ?_)))))
    refine Zc (Zu2 (V_sliceTo VT.sl85 rfl rfl (by omega) (by simp; omega) ⟨rfl, rfl⟩) ((V.le.of_eq (congrArg (V.sl 2 none) (by rw [Int.toNat_natCast, List.map_take])) : V.le _ (.sl 2 none ((l.take k).map mvV)))) ?_)
    refine Zc (V_makeFunc [.tmp 7] rfl rfl ?_)
    refine Zc (Zl3 [.tmp 32, .tmp 33] [_] _ rfl rfl VT.en58 (.refl _) (mvAny_c (o := .cells g7 86 [.int x.1, .int x.2]) VT.en59 (fun y _ => seq1_c x y g7)) ?_)
    refine Zc (Zk rfl (Za (Zi ?_)))
    refine Zr1 rfl (fun h29 => ?_) (fun h29 => ?_)
    ·
     rw [if_pos h29] at hq
     rw [← hq, if_neg (by decide)] at hr
     refine Zb (Zd ?_)
     refine Zc (Zu2 (Zk rfl ⟨rfl, rfl⟩) ((V.le.nil 2)) ?_)
     refine Zc (Zk rfl (Za (Zi (Zf1 ?_))))
     refine Za1 (Za1 (Zd1 (Zd1 (Za1 (Zd1 (Zh1 rfl rfl (.cons (.tmp rfl) (.cons (.tmp rfl) (.nil))) ?_))))))
     first | (rw [hr]; done) | (rw [hr]; rfl) | (rw [hr, hq]; done) | (rw [hr, hq]; rfl)
    ·
     rw [if_neg (by rw [h29]; decide)] at hq
     refine Zb (Zd ?_)
     refine Zc (V_indexAddr_arr Try.underlying86 VT.se86 rfl rfl (by omega) (by omega) ?_)
     refine Zc (Zu 0 VT.ty3 rfl rfl rfl (Zc (Zl rfl (Zc (Zj1 rfl rfl rfl (Zc (Zl rfl ?_)))))))
     refine Zj2 (q := 40) rfl (fun hq40 => ?_) (fun hq40 => ?_)
     ·
      have h40 : x.1 = spare := by simpa using hq40
      rw [if_pos (.inl h40)] at hq
      rw [← hq, if_neg (by decide)] at hr
      refine Zk0 hq40 ?_
      refine Zk0 hq40 ?_
      refine Zk0 hq40 ?_
      refine Zk0 hq40 ?_
      refine Zc (Zs1 rfl hq40 rfl ?_)
      refine Zc (Zk rfl (Za (Zi ?_)))
      refine Zp1 rfl rfl ?_
      refine Zb (Zd ?_)
      refine Zc (Zu2 (Zk rfl ⟨rfl, rfl⟩) ((V.le.nil 2)) ?_)
      refine Zc (Zk rfl (Za (Zi (Zf1 ?_))))
      refine Za1 (Za1 (Zd1 (Zd1 (Za1 (Zd1 (Zh1 rfl rfl (.cons (.tmp rfl) (.cons (.tmp rfl) (.nil))) ?_))))))
      first | (rw [hr]; done) | (rw [hr]; rfl) | (rw [hr, hq]; done) | (rw [hr, hq]; rfl)
     ·
      have h40 : ¬ x.1 = spare := by simpa using hq40
      refine Zc (V_indexAddr_arr Try.underlying86 VT.se86 rfl rfl (by omega) (by omega) ?_) (Zy0 hq40)
      refine Zc (Zu 0 VT.ty3 rfl rfl rfl ?_) (Zy0 hq40)
      refine Zc (Zl rfl ?_) (Zy0 hq40)
      refine Zc (Zj1 rfl rfl rfl ?_) (Zy0 hq40)
      refine Zc (Zt1 rfl hq40 rfl ?_)
      refine Zc (Zk rfl (Za (Zi ?_)))
      refine Zl1 rfl (fun h35 => ?_) (fun h35 => ?_)
      ·
       rw [if_pos (.inr h35)] at hq
       rw [← hq, if_neg (by decide)] at hr
       refine Zb (Zd ?_)
       refine Zc (Zu2 (Zk rfl ⟨rfl, rfl⟩) ((V.le.nil 2)) ?_)
       refine Zc (Zk rfl (Za (Zi (Zf1 ?_))))
       refine Za1 (Za1 (Zd1 (Zd1 (Za1 (Zd1 (Zh1 rfl rfl (.cons (.tmp rfl) (.cons (.tmp rfl) (.nil))) ?_))))))
       first | (rw [hr]; done) | (rw [hr]; rfl) | (rw [hr, hq]; done) | (rw [hr, hq]; rfl)
      ·
       rw [if_neg (fun h => h.elim h40 h35)] at hq
       refine Zi1 (Zb1 (Zb1 (Zi (Zd ?_))))
       refine Zc (Zh2 rfl rfl (by omega) ?_)
       refine Zc (Zl rfl (Za (Zi ?_)))
       exact ⟨k + 1, (by (try simp only []); omega), ⟨by omega, by rw [take_snoc hx]; exact hq⟩, ⟨rfl, rfl, rfl, rfl, rfl, trivial⟩, (Drops.nil _)⟩
 ·
  have hke : k = l.length := by omega
  subst hke
  rw [List.drop_length, Yb, seqBad] at hq
  rw [← hq, if_pos rfl] at hr
  refine Zt (Ze1 (Ze1 (Zc1 (Zi (Zb (Zd (Zc (Zl rfl ?_))))))))
  refine Zc (Zm3 [.tmp 47] [] _ rfl rfl VT.en61 (.refl _) (mvCloneRow_c l hne (by omega)) ?_)
  rintro r Sa ⟨gr, cap, rest0, hcc, hcm, rfl, rfl⟩
  refine Zc (V_callG [.tmp 48, .func 62] [.cells gr 86 (mvL (l) ++ rest0)] [] rfl rfl VT.en60 (by rw [Yc]) (mvDel_c VT.en62 (fun x => seq2_c x) (by omega) hcc hcm) ?_)
  rintro r Sa ⟨rest1, rfl, rfl⟩
  refine ⟨[.cells gr 86 (mvL (keepF (fun x => x.1 == x.2) l) ++ rest1)], Zt2 _, ?_⟩
  have hll : (keepF (fun x : Mv => x.1 == x.2) l).length ≤ l.length := List.length_filter_le _ _
  refine Zc (Zb2 VT.zr85 _ rfl rfl (fun g8 => ?_))
  refine Zc (Zy 0 VT.ty85 rfl rfl rfl rfl rfl (Za (Zi (Zb (Zd (Zc (V_assign_nil 86 2 (Za (Zi (Zb (Zs ?_)))))))))))
  refine Zi2 (ι := Tok × List Mv × List Mv × List V) (fun (tok, left, out, rest) => left.length) (fun (tok, left, out, rest) => [(1, some (.int spare)), (8, some (.ptr g8 0)), (9, some (.sl 2 (some tok) (out.map mvV)))]) (fun (tok, left, out, rest) => [.buf tok 86 2 out.length, .cells g8 85 [.raw (.slice (some ⟨gr, 0, none⟩) left.length cap)], .cells gr 86 (mvL (left) ++ rest)]) (fun (tok, left, out, rest) => seqLoop spare (leftF l).length (leftF l, []) = seqLoop spare left.length (left, out) ∧ left.length ≤ cap ∧ left.length ≤ 10000 ∧ out.length + 2 * left.length ≤ 20000) (.nil, leftF l, [], rest1) ⟨rfl, Nat.le_trans hll hcc, Nat.le_trans hll hl, by have := Nat.le_trans hll hl; show 0 + 2 * (keepF (fun x : Mv => x.1 == x.2) l).length ≤ 20000; omega⟩ ⟨rfl, rfl, rfl, trivial⟩ (Drops.buf (by simp) (Drops.keep (Drops.keep (Zt2 _)))) ?_
  rintro ⟨tok, left, out, rest⟩ hA
  change seqLoop spare (leftF l).length (leftF l, []) = seqLoop spare left.length (left, out) ∧ left.length ≤ cap ∧ left.length ≤ 10000 ∧ out.length + 2 * left.length ≤ 20000 at hA
  obtain ⟨hq, hlc, hlm, hol⟩ := hA
  refine Zb (Zb (Zd (Zc (Zu 1 VT.ty85 rfl rfl rfl ?_))))
  refine Zc (V_len_raw Try.underlying85 rfl ?_)
  refine Zc (Zj1 rfl rfl rfl (Za (Zi ?_)))
  refine Zn1 rfl (fun h52 => ?_) (fun h52 => ?_)
  ·
   refine Zi1 (Zi (Zs (Zb (Zd (Zc (Zu 1 VT.ty85 rfl rfl rfl ?_))))))
   refine Zc (V_makeFunc [.tmp 8] rfl rfl ?_)
   refine Zc (V_callG [.tmp 53, .tmp 54] (.cells gr 86 (mvL (left) ++ rest) :: [.cells g8 85 [.raw (.slice (some ⟨gr, 0, none⟩) left.length cap)]]) [_] rfl rfl VT.en63 (perm_3to) (mvIdxR_c (O := [.cells g8 85 [.raw (.slice (some ⟨gr, 0, none⟩) left.length cap)]]) (by omega) VT.en64 (fun x _ => seq3_c left (by omega) x g8 gr cap rest)) ?_)
   rintro r Sa ⟨rfl, rfl⟩
   refine ⟨_, Zt2 _, ?_⟩
   refine Zc (Zk rfl (Za (Zi (Zb (Zb (Zd (Zc (Zl rfl (Zc (Zj1 rfl rfl rfl (Za (Zi ?_))))))))))))
   refine Zn1 rfl (fun h57 => ?_) (fun h57 => ?_)
   ·
    obtain ⟨x, hx⟩ := get_of_lt left 0 (by omega)
    obtain ⟨n, hn⟩ : ∃ n, left.length = n + 1 := ⟨left.length - 1, by omega⟩
    obtain ⟨ou, hou⟩ : ∃ ou, ou = out ++ [(spare, x.1)] := ⟨_, rfl⟩
    obtain ⟨lf, hlf⟩ : ∃ lf, lf = left.map (brkF spare x.1) := ⟨_, rfl⟩
    have hlfl : left.length = lf.length := by rw [hlf, List.length_map]
    obtain ⟨m, hat, hm0⟩ : ∃ m : Nat, (0 : Int) = (m : Int) ∧ m = 0 := ⟨0, rfl, rfl⟩
    have hml : m < lf.length := by omega
    obtain ⟨y, hget⟩ := get_of_lt lf m (by omega)
    have hstep : seqStep spare (left, out) = (lf.eraseIdx m, ou ++ [y]) := by subst hm0; rw [hou, hlf]; rw [hlf] at hget; exact step_break h57 hx hget
    have hll3 : (lf.eraseIdx m).length = n := by rw [Yg, if_pos hml]; omega
    have houl : ou.length = out.length + 1 := by rw [hou, Ya, Yh]
    refine Zb (Zd (Zc (Zu 1 VT.ty85 rfl rfl rfl ?_)))
    refine Zc (Zr2 VT.sl85 rfl rfl (by omega) (by omega) ?_)
    refine Zc (V_indexAddr_arr Try.underlying86 VT.se86 rfl rfl (by omega) (by omega) ?_)
    refine Zc (Zu 0 VT.ty3 rfl rfl (mvL_get0 hx) ?_)
    refine Zc (Zk rfl (Za (Zi (Zb (Zd (Zc (Zl rfl (Zc (Zl rfl (Zc (Zl rfl ?_)))))))))))
    refine Zc (V_buildArr [0, 1] [.tmp 63, .tmp 64] VT.at86 rfl rfl rfl rfl ?_)
    refine Zc (Zk3 [.tmp 65] VT.sl85 rfl rfl rfl rfl rfl ?_)
    refine Zc (Zi3 2 _ VT.sl85 rfl rfl rfl (by simp) (by simp; omega) (fun t67 => ?_))
    refine Zc (Zu2 (Zk rfl ⟨rfl, rfl⟩) ((V.le.of_eq (congrArg (V.sl 2 (some t67)) (by rw [hou]; exact mv_app out (spare, x.1))) : V.le _ (.sl 2 (some t67) (ou.map mvV)))) ?_)
    refine Za (Zi (Zb (Zb (Zd (Zc (Zu 1 VT.ty85 rfl rfl rfl ?_))))))
    refine Zc (V_len_raw Try.underlying85 rfl ?_)
    refine Zc (Zl rfl (Za (Zi (Zs ?_))))
    refine Zi2 (ι := Nat) (fun k => left.length - k) (fun k => [(1, some (.int spare)), (8, some (.ptr g8 0)), (9, some (.sl 2 (some t67) (ou.map mvV))), (11, some (.int x.1)), (69, some (.int left.length)), (70, some (.int k))]) (fun k => [.cells gr 86 (mvL ((left.take k).map (brkF spare x.1) ++ left.drop k) ++ rest), .cells g8 85 [.raw (.slice (some ⟨gr, 0, none⟩) left.length cap)], .buf t67 86 2 ou.length]) (fun k => k ≤ left.length) 0 (Yi _) ⟨rfl, rfl, rfl, rfl, rfl, rfl, trivial⟩ (Drops.keep (Drops.keep (Drops.buf (by rw [hou]; simp) (Zt2 _)))) ?_
    rintro k hk
    change k ≤ left.length at hk
    refine Zb (Zd (Zc (Zj1 rfl rfl rfl (Za (Zi (Zb ?_))))))
    refine Zn1 rfl (fun h71 => ?_) (fun h71 => ?_)
    ·
     obtain ⟨p, hp⟩ := get_of_lt left k h71
     refine Zi1 (Zi (Zb (Zs (Zb (Zd (Zc (Zl rfl (Zc (Zk rfl (Za (Zi (Zb (Zd (Zc (Zu 1 VT.ty85 rfl rfl rfl (Zc (Zl rfl ?_)))))))))))))))))
     refine Zc (Zu2 (Zr2 VT.sl85 rfl rfl (by omega) (by omega) ⟨rfl, rfl⟩) ((V.le.of_eq (congrArg (V.ptr gr) (by omega)) : V.le _ (.ptr gr (k * 2)))) ?_)
     refine Zc (V_indexAddr_arr Try.underlying86 VT.se86 rfl rfl (by omega) (by omega) ?_)
     refine Zc (Zu 0 VT.ty3 rfl rfl (mvL_get1 (brk_get _ hp)) ?_)
     refine Zc (Zl rfl (Zc (Zj1 rfl rfl rfl (Za (Zi ?_)))))
     refine Zl1 rfl (fun h79 => ?_) (fun h79 => ?_)
     ·
      refine Zd (Zc (Zu 1 VT.ty85 rfl rfl rfl (Zc (Zl rfl (Zc (Zl rfl ?_))))))
      refine Zc (Zu2 (Zr2 VT.sl85 rfl rfl (by omega) (by omega) ⟨rfl, rfl⟩) ((V.le.of_eq (congrArg (V.ptr gr) (by omega)) : V.le _ (.ptr gr (k * 2)))) ?_)
      refine Zc (V_indexAddr_arr Try.underlying86 VT.se86 rfl rfl (by omega) (by omega) ?_)
      refine Zc (Zy 0 VT.ty3 rfl rfl rfl rfl (brk_ble hk h71) ?_)
      refine Za (Zb1 (Zi (Zd ?_)))
      refine Zc (Zh2 rfl rfl (by omega) ?_)
      refine Zc (Zl rfl (Za (Zi ?_)))
      exact ⟨k + 1, (by (try simp only []); omega), (by omega), ⟨rfl, rfl, rfl, rfl, rfl, rfl, trivial⟩, (Drops.keepE (congrArg (Own.cells gr 86) (by first | exact brk_cell hp h79 | exact brk_same rest hp h79)) (Drops.keep (Drops.buf (by simp) (Zt2 _))))⟩
     ·
      refine Zi1 (Zb1 (Zi (Zd ?_)))
      refine Zc (Zh2 rfl rfl (by omega) ?_)
      refine Zc (Zl rfl (Za (Zi ?_)))
      exact ⟨k + 1, (by (try simp only []); omega), (by omega), ⟨rfl, rfl, rfl, rfl, rfl, rfl, trivial⟩, (Drops.keepE (congrArg (Own.cells gr 86) (by first | exact brk_cell hp h79 | exact brk_same rest hp h79)) (Drops.keep (Drops.buf (by simp) (Zt2 _))))⟩
    ·
     have hke : k = left.length := by omega
     refine VW_drops (S' := [.cells gr 86 (mvL (lf) ++ rest), .cells g8 85 [.raw (.slice (some ⟨gr, 0, none⟩) left.length cap)], .buf t67 86 2 ou.length]) (Drops.keepE (congrArg (Own.cells gr 86) (by rw [hlf, hke, Yb, List.drop_length, Yc])) (Drops.keep (Drops.keep (Drops.nil _)))) ?_
     refine Zt (Ze1 (Ze1 (Zc1 (Zi (Zd (Zc (Zk rfl (Za (Zi (Zb (Zd (Zc (Zl rfl ?_)))))))))))))
     refine Zc (Zu2 (Zu 1 VT.ty85 rfl rfl rfl ⟨rfl, rfl⟩) ((V.le.of_eq (congrArg (fun n : Nat => V.raw (.slice (some ⟨gr, 0, none⟩) n cap)) hlfl) : V.le _ (.raw (.slice (some ⟨gr, 0, none⟩) lf.length cap)))) ?_)
     refine Zc (Zu2 (Zl rfl ⟨rfl, rfl⟩) ((V.le.of_eq (congrArg V.int hat) : V.le _ (.int (m : Int)))) ?_)
     refine Zc (Zr2 VT.sl85 rfl rfl (by omega) (by omega) ?_)
     refine Zc (Ze3 0 m VT.ty86 rfl (by simp) rfl rfl (mvs_fit lf) (get_mv hget) ?_)
     refine Zc (Zk3 [.tmp 90] VT.sl85 rfl rfl rfl rfl rfl ?_)
     refine Zc (Zi3 2 _ VT.sl85 rfl rfl rfl (by first | (simp; done) | (rw [hou]; simp)) (by simp; omega) (fun t92 => ?_))
     refine Zc (Zk rfl (Za (Zi (Zd ?_))))
     refine Zc (Zu2 (Zu 1 VT.ty85 rfl rfl rfl ⟨rfl, rfl⟩) ((V.le.of_eq (congrArg (fun n : Nat => V.raw (.slice (some ⟨gr, 0, none⟩) n cap)) hlfl) : V.le _ (.raw (.slice (some ⟨gr, 0, none⟩) lf.length cap)))) ?_)
     refine Zc (Zu2 (Zl rfl ⟨rfl, rfl⟩) ((V.le.of_eq (congrArg V.int hat) : V.le _ (.int (m : Int)))) ?_)
     refine Zc (Zu2 (Zl rfl ⟨rfl, rfl⟩) ((V.le.of_eq (congrArg V.int hat) : V.le _ (.int (m : Int)))) ?_)
     refine Zc (Zh2 rfl rfl (by omega) ?_)
     refine Zc (V_callG [.tmp 93, .tmp 94, .tmp 96] [.cells gr 86 (mvL (lf) ++ rest)] [_, _] rfl rfl VT.en66 (.refl _) (mvDelete_c lf gr cap m rest hml (by omega) (by omega) hcm) ?_)
     rintro r Sa ⟨rest2, rfl, rfl⟩
     refine ⟨_, Zt2 _, ?_⟩
     refine Zc (Zy 1 VT.ty85 rfl rfl rfl rfl rfl (Za (Zb1 (Zi ?_))))
     exact ⟨(t92, lf.eraseIdx m, ou ++ [y], rest2), (by (try simp only []); rw [hll3]; omega), ⟨by rw [hq, hn, seqLoop, hstep, hll3], by rw [hll3]; omega, by rw [hll3]; omega, by rw [hll3, Ya, Yh]; omega⟩, ⟨rfl, rfl, (by first | (rw [Yd]; rfl) | (rw [hou, Yd]; rfl)), trivial⟩, (Drops.pickBuf 2 rfl (by first | (simp; done) | (rw [hou]; simp)) (Drops.pick 1 rfl rfl (Drops.pick 0 rfl rfl (Drops.nil _))))⟩
   ·
    obtain ⟨m, y, hat, hml, hget⟩ := idx_at h57
    obtain ⟨n, hn⟩ : ∃ n, left.length = n + 1 := ⟨left.length - 1, by omega⟩
    obtain ⟨ou, hou⟩ : ∃ ou, ou = out := ⟨_, rfl⟩
    obtain ⟨lf, hlf⟩ : ∃ lf, lf = left := ⟨_, rfl⟩
    have hlfl : left.length = lf.length := by rw [hlf]
    have hstep : seqStep spare (left, out) = (lf.eraseIdx m, ou ++ [y]) := by rw [hlf, hou]; exact step_take hat hget
    rw [← hlf] at hml hget
    have hll3 : (lf.eraseIdx m).length = n := by rw [Yg, if_pos hml]; omega
    have houl : ou.length ≤ out.length + 1 := by rw [hou]; omega
    refine VW_drops (S' := [.cells gr 86 (mvL (lf) ++ rest), .cells g8 85 [.raw (.slice (some ⟨gr, 0, none⟩) left.length cap)], .buf tok 86 2 out.length]) (Drops.keepE (congrArg (Own.cells gr 86) (by rw [hlf])) (Drops.keep (Drops.keep (Drops.nil _)))) ?_
    refine Zi1 (Zi (Zb (Zd (Zc (Zl rfl ?_)))))
    refine Zc (Zu2 (Zu 1 VT.ty85 rfl rfl rfl ⟨rfl, rfl⟩) ((V.le.of_eq (congrArg (fun n : Nat => V.raw (.slice (some ⟨gr, 0, none⟩) n cap)) hlfl) : V.le _ (.raw (.slice (some ⟨gr, 0, none⟩) lf.length cap)))) ?_)
    refine Zc (Zu2 (Zl rfl ⟨rfl, rfl⟩) ((V.le.of_eq (congrArg V.int hat) : V.le _ (.int (m : Int)))) ?_)
    refine Zc (Zr2 VT.sl85 rfl rfl (by omega) (by omega) ?_)
    refine Zc (Ze3 0 m VT.ty86 rfl (by simp) rfl rfl (mvs_fit lf) (get_mv hget) ?_)
    refine Zc (Zk3 [.tmp 90] VT.sl85 rfl rfl rfl rfl rfl ?_)
    refine Zc (Zi3 2 _ VT.sl85 rfl rfl rfl (by first | (simp; done) | (rw [hou]; simp)) (by simp; omega) (fun t92 => ?_))
    refine Zc (Zk rfl (Za (Zi (Zd ?_))))
    refine Zc (Zu2 (Zu 1 VT.ty85 rfl rfl rfl ⟨rfl, rfl⟩) ((V.le.of_eq (congrArg (fun n : Nat => V.raw (.slice (some ⟨gr, 0, none⟩) n cap)) hlfl) : V.le _ (.raw (.slice (some ⟨gr, 0, none⟩) lf.length cap)))) ?_)
    refine Zc (Zu2 (Zl rfl ⟨rfl, rfl⟩) ((V.le.of_eq (congrArg V.int hat) : V.le _ (.int (m : Int)))) ?_)
    refine Zc (Zu2 (Zl rfl ⟨rfl, rfl⟩) ((V.le.of_eq (congrArg V.int hat) : V.le _ (.int (m : Int)))) ?_)
    refine Zc (Zh2 rfl rfl (by omega) ?_)
    refine Zc (V_callG [.tmp 93, .tmp 94, .tmp 96] [.cells gr 86 (mvL (lf) ++ rest)] [_, _] rfl rfl VT.en66 (.refl _) (mvDelete_c lf gr cap m rest hml (by omega) (by omega) hcm) ?_)
    rintro r Sa ⟨rest2, rfl, rfl⟩
    refine ⟨_, Zt2 _, ?_⟩
    refine Zc (Zy 1 VT.ty85 rfl rfl rfl rfl rfl (Za (Zb1 (Zi ?_))))
    exact ⟨(t92, lf.eraseIdx m, ou ++ [y], rest2), (by (try simp only []); rw [hll3]; omega), ⟨by rw [hq, hn, seqLoop, hstep, hll3], by rw [hll3]; omega, by rw [hll3]; omega, by rw [hll3, Ya, Yh]; omega⟩, ⟨rfl, rfl, (by first | (rw [Yd]; rfl) | (rw [hou, Yd]; rfl)), trivial⟩, (Drops.pickBuf 2 rfl (by first | (simp; done) | (rw [hou]; simp)) (Drops.pick 1 rfl rfl (Drops.pick 0 rfl rfl (Drops.nil _))))⟩
  ·
   have hl0 : left.length = 0 := by omega
   rw [hl0, seqLoop] at hq
   refine Zt (Ze1 (Ze1 (Zc1 (Zi (Zb (Zd ?_))))))
   refine Zc (Zu2 (Zl rfl ⟨rfl, rfl⟩) ((V.le.strip : V.le (.sl 2 (some _) _) (.sl 2 none _))) ?_)
   refine Zc (Zk rfl (Zc (Zk rfl (Za (Zi (Zf1 ?_))))))
   refine Zh1 rfl rfl (.cons (.tmp rfl) (.cons (.tmp rfl) (.nil))) ?_
   first | (rw [hr]; done) | (rw [hr]; rfl) | (rw [hr, hq]; done) | (rw [hr, hq]; rfl)
end Go.Proofs.Ytigkaadmobgfnaa.X17
