import Derived.Test.YtpkbgamoboojaaaGreatW21
set_option maxRecDepth 100000
set_option maxHeartbeats 8000000
open Go.VL.Drops renaming keep → Dk
set_option linter.all false
open List renaming mem_of_getElem? → Ya, take_length → Yb, length_pos_iff → Yc, any_eq_false → Yd, drop_length → Ye, getElem?_eq_some_iff → Yf
open Nat renaming zero_le → Yg
section
namespace Go.Proofs.YtpkbgamoboojaaaGreat.W23
open Go.VL Go.PM Go.Proofs.YtpkbgamoboojaaaGreat W16 W20
theorem any_false {α : Type} (l : List α) : (l.any λ _ => false) = false := by simp
theorem kidP {n : MNode} {y : Int} {i : Nat} {D : DataSig} {b : Bool} (h : y = -1 ↔ (i = n.names.length /\ n.kind = 2 /\ n.names ≠ [] /\ n.names.length = D.cons.length)) (hb : b = true ↔ (i = n.names.length /\ n.kind = 2 /\ n.names ≠ [] /\ n.names.length = D.cons.length)) : (y == -1) = b := by
 rw [Bool.eq_iff_iff, hb, <- h]
 simp
theorem neg_c (n : Int) : VPure Tryz.prog 64 [.int n] (.bool (decide (n < 0))) := by
 refine V_start (nt := 5) Tryz.func64 rfl rfl rfl ?_
 refine Zb (Zd (Zc (Zk rfl (Za (Zi (Zb (Zd (Zc (Zl rfl (Zc (Zj1 rfl rfl rfl (Zc (Zk rfl (Za (Zi (Zf1 ?_))))))))))))))))
 refine Zg1 rfl (.tmp rfl) ?_
 rfl
theorem far_c (n : Int) : VPure Tryz.prog 67 [.int n] (.bool (decide (n < -1073741824) || decide (n > 1073741823))) := by
 refine V_start (nt := 9) Tryz.func67 rfl rfl rfl ?_
 refine Zb (Zd (Zc (Zk rfl (Za (Zi (Zb (Zd (Zc (Zl rfl (Zc (Zj1 rfl rfl rfl (Zc (Zl rfl ?_)))))))))))))
 refine Zj2 (q := 5) rfl (λ hq5 => ?_) (λ hq5 => ?_)
 .
  refine Zk0 hq5 ?_
  refine Zk0 hq5 ?_
  refine Zc (Zs1 rfl hq5 rfl ?_)
  refine Zc (Zk rfl (Za (Zi (Zf1 ?_))))
  refine Zg1 rfl (.tmp rfl) ?_
  exact congrArg V.bool (by rw [hq5]; rfl)
 refine Zc (Zl rfl ?_) (Zy0 hq5)
 refine Zc (Zj1 rfl rfl rfl ?_) (Zy0 hq5)
 refine Zc (Zt1 rfl hq5 rfl ?_)
 refine Zc (Zk rfl (Za (Zi (Zf1 ?_))))
 refine Zg1 rfl (.tmp rfl) ?_
 exact congrArg V.bool (by rw [hq5]; rfl)
theorem intsIdx_c {l : List Int} {tok : Option Tok} {p : Int -> Bool} {c : FuncId} {caps : List V} (hen : Enters Tryz.prog c) (hp : ∀ x ∈ l, VPure Tryz.prog c (V.int x :: caps) (.bool (p x))) : VPure Tryz.prog 93 [.sl 1 tok (l.map V.int), .clo (.func c) caps] (.int (idxOf p l)) := by
 refine V_start (nt := 19) Tryz.func93 rfl rfl rfl ?_
 refine Zb (Zd (Zc (Zk rfl (Za (Zi (Zb (Zb (Zd (Zc (Zl rfl ?_))))))))))
 refine Zc (Zd2 (n := l.length) Tryz.underlying36 rfl (by simp) (λ hl7 => ?_))
 refine Zc (Zl rfl (Za (Zi (Zs ?_))))
 refine Zi2 (ι := Nat) (λ k => l.length - k) (λ k => [(0, some (.sl 1 tok (l.map V.int))), (1, some (.clo (.func c) caps)), (7, some (.int l.length)), (8, some (.int k))]) (λ k => []) (λ k => k <= l.length /\ (l.take k).any p = false) 0 ⟨Yg _, rfl⟩ ⟨rfl, rfl, rfl, rfl, trivial⟩ (Zt2 _) ?_
 rintro k hA
 change k <= l.length /\ (l.take k).any p = false at hA
 obtain ⟨hk, hany⟩ := hA
 refine Zb (Zd (Zc (Zj1 rfl rfl rfl (Za (Zi (Zb ?_))))))
 refine Zn1 rfl (λ h9 => ?_) (λ h9 => ?_)
 .
  obtain ⟨x, hr⟩ := get_of_lt l k h9
  refine Zi1 (Zi (Zb (Zs (Zb (Zd (Zc (Zl rfl (Zc (Zk rfl (Za (Zi (Zb (Zd (Zc (Zl rfl (Zc (Zl rfl (Zc (Zl rfl ?_)))))))))))))))))))
  refine Zc (Zz (el := V.int x) VT.sl36 rfl rfl (by omega) (get_int hr) (λ a14 => ?_))
  refine Zc (Zz1 VT.ty3 rfl rfl ?_)
  refine Zc (V_callCloP [.tmp 15] rfl rfl rfl hen (hp x (Ya hr)) ?_)
  refine Za (Zi ?_)
  refine Zr1 rfl (λ h16 => ?_) (λ h16 => ?_)
  .
   refine Zb (Zd (Zc (Zl rfl (Zc (Zk rfl (Za (Zi (Zf1 ?_))))))))
   refine Za1 (Zd1 (Zd1 (Za1 (Zd1 (Zg1 rfl (.tmp rfl) ?_)))))
   rw [idxOf_at p hr hany h16]
  refine Zi1 (Zb1 (Zi (Zd ?_)))
  refine Zc (Zh2 rfl rfl (by omega) ?_)
  refine Zc (Zl rfl (Za (Zi ?_)))
  exact ⟨k + 1, (by (try simp only []); omega), ⟨by omega, any_snoc hr hany h16⟩, ⟨rfl, rfl, rfl, rfl, trivial⟩, (Drops.nil _)⟩
 have hke : k = l.length := by omega
 subst hke
 rw [Yb] at hany
 refine Zt (Ze1 (Ze1 (Zc1 (Zi (Zb (Zd (Zc (Zk rfl (Za (Zi (Zf1 ?_)))))))))))
 refine Zg1 rfl (.tmp rfl) ?_
 rw [idxOf_none p hany]
theorem intsAny_c {l : List Int} {tok : Option Tok} {p : Int -> Bool} {c : FuncId} {caps : List V} (hen : Enters Tryz.prog c) (hp : ∀ x ∈ l, VPure Tryz.prog c (V.int x :: caps) (.bool (p x))) : VPure Tryz.prog 66 [.sl 1 tok (l.map V.int), .clo (.func c) caps] (.bool (l.any p)) := by
 refine V_start (nt := 9) Tryz.func66 rfl rfl rfl ?_
 refine Zb (Zd (Zc (Zk rfl (Za (Zi (Zb (Zd (Zc (Zl rfl (Zc (Zl rfl ?_)))))))))))
 refine Zc (Zx1 [.tmp 5, .tmp 6] rfl rfl VT.en93 (intsIdx_c hen hp) ?_)
 refine Zc (Zj1 rfl rfl rfl (Zc (Zk rfl (Za (Zi (Zf1 ?_))))))
 refine Zg1 rfl (.tmp rfl) ?_
 rw [idxOf_ge]
theorem strsAIdx_c {l : List Str} {tok : Option Tok} {p : Str -> Bool} {c : FuncId} {caps : List V} {o1 o2 : Own} (hen : Enters Tryz.prog c) (hp : ∀ x ∈ l, VKeep Tryz.prog c (V.str x :: caps) [o1, o2] (.bool (p x))) : VKeep Tryz.prog 94 [.sl 1 tok (l.map V.str), .clo (.func c) caps] [o1, o2] (.int (idxOf p l)) := by
 refine V_start (nt := 19) Tryz.func94 rfl rfl rfl ?_
 refine Zb (Zd (Zc (Zk rfl (Za (Zi (Zb (Zb (Zd (Zc (Zl rfl ?_))))))))))
 refine Zc (Zd2 (n := l.length) Tryz.underlying68 rfl (by simp) (λ hl7 => ?_))
 refine Zc (Zl rfl (Za (Zi (Zs ?_))))
 refine Zi2 (ι := Nat) (λ k => l.length - k) (λ k => [(0, some (.sl 1 tok (l.map V.str))), (1, some (.clo (.func c) caps)), (7, some (.int l.length)), (8, some (.int k))]) (λ k => [o1, o2]) (λ k => k <= l.length /\ (l.take k).any p = false) 0 ⟨Yg _, rfl⟩ ⟨rfl, rfl, rfl, rfl, trivial⟩ (Zt2 _) ?_
 rintro k hA
 change k <= l.length /\ (l.take k).any p = false at hA
 obtain ⟨hk, hany⟩ := hA
 refine Zb (Zd (Zc (Zj1 rfl rfl rfl (Za (Zi (Zb ?_))))))
 refine Zn1 rfl (λ h9 => ?_) (λ h9 => ?_)
 .
  obtain ⟨x, hr⟩ := get_of_lt l k h9
  refine Zi1 (Zi (Zb (Zs (Zb (Zd (Zc (Zl rfl (Zc (Zk rfl (Za (Zi (Zb (Zd (Zc (Zl rfl (Zc (Zl rfl (Zc (Zl rfl ?_)))))))))))))))))))
  refine Zc (Zz (el := V.str x) VT.sl68 rfl rfl (by omega) (get_str hr) (λ a14 => ?_))
  refine Zc (Zz1 VT.ty9 rfl rfl ?_)
  refine Zc (V_callClo [.tmp 15] _ _ rfl rfl rfl hen (.refl _) (hp x (Ya hr)) ?_)
  rintro r Sa ⟨rfl, rfl⟩
  refine Za (Zi ?_)
  refine Zr1 rfl (λ h16 => ?_) (λ h16 => ?_)
  .
   refine Zb (Zd (Zc (Zl rfl (Zc (Zk rfl (Za (Zi (Zf1 ?_))))))))
   refine Za1 (Zd1 (Zd1 (Za1 (Zd1 (Zg1 rfl (.tmp rfl) ?_)))))
   rw [idxOf_at p hr hany h16]
   exact ⟨rfl, rfl⟩
  refine Zi1 (Zb1 (Zi (Zd ?_)))
  refine Zc (Zh2 rfl rfl (by omega) ?_)
  refine Zc (Zl rfl (Za (Zi ?_)))
  exact ⟨k + 1, (by (try simp only []); omega), ⟨by omega, any_snoc hr hany h16⟩, ⟨rfl, rfl, rfl, rfl, trivial⟩, (Dk (Dk (Zt2 _)))⟩
 have hke : k = l.length := by omega
 subst hke
 rw [Yb] at hany
 refine Zt (Ze1 (Ze1 (Zc1 (Zi (Zb (Zd (Zc (Zk rfl (Za (Zi (Zf1 ?_)))))))))))
 refine Zg1 rfl (.tmp rfl) ?_
 rw [idxOf_none p hany]
 exact ⟨rfl, rfl⟩
theorem strsAAny_c {l : List Str} {tok : Option Tok} {p : Str -> Bool} {c : FuncId} {caps : List V} {o1 o2 : Own} (hen : Enters Tryz.prog c) (hp : ∀ x ∈ l, VKeep Tryz.prog c (V.str x :: caps) [o1, o2] (.bool (p x))) : VKeep Tryz.prog 68 [.sl 1 tok (l.map V.str), .clo (.func c) caps] [o1, o2] (.bool (l.any p)) := by
 refine V_start (nt := 9) Tryz.func68 rfl rfl rfl ?_
 refine Zb (Zd (Zc (Zk rfl (Za (Zi (Zb (Zd (Zc (Zl rfl (Zc (Zl rfl ?_)))))))))))
 refine Zc (Zm3 [.tmp 5, .tmp 6] _ _ rfl rfl VT.en94 (.refl _) (strsAIdx_c hen hp) ?_)
 rintro r Sa ⟨rfl, rfl⟩
 refine Zc (Zj1 rfl rfl rfl (Zc (Zk rfl (Za (Zi (Zf1 ?_))))))
 refine Zg1 rfl (.tmp rfl) ?_
 rw [idxOf_ge]
 exact ⟨rfl, rfl⟩
theorem strsBIdx_c {l : List Str} {tok : Option Tok} {p : Str -> Bool} {c : FuncId} {caps : List V} {o1 o2 o3 : Own} (hen : Enters Tryz.prog c) (hp : ∀ x ∈ l, VKeep Tryz.prog c (V.str x :: caps) [o1, o2, o3] (.bool (p x))) : VKeep Tryz.prog 94 [.sl 1 tok (l.map V.str), .clo (.func c) caps] [o1, o2, o3] (.int (idxOf p l)) := by
 refine V_start (nt := 19) Tryz.func94 rfl rfl rfl ?_
 refine Zb (Zd (Zc (Zk rfl (Za (Zi (Zb (Zb (Zd (Zc (Zl rfl ?_))))))))))
 refine Zc (Zd2 (n := l.length) Tryz.underlying68 rfl (by simp) (λ hl7 => ?_))
 refine Zc (Zl rfl (Za (Zi (Zs ?_))))
 refine Zi2 (ι := Nat) (λ k => l.length - k) (λ k => [(0, some (.sl 1 tok (l.map V.str))), (1, some (.clo (.func c) caps)), (7, some (.int l.length)), (8, some (.int k))]) (λ k => [o1, o2, o3]) (λ k => k <= l.length /\ (l.take k).any p = false) 0 ⟨Yg _, rfl⟩ ⟨rfl, rfl, rfl, rfl, trivial⟩ (Zt2 _) ?_
 rintro k hA
 change k <= l.length /\ (l.take k).any p = false at hA
 obtain ⟨hk, hany⟩ := hA
 refine Zb (Zd (Zc (Zj1 rfl rfl rfl (Za (Zi (Zb ?_))))))
 refine Zn1 rfl (λ h9 => ?_) (λ h9 => ?_)
 .
  obtain ⟨x, hr⟩ := get_of_lt l k h9
  refine Zi1 (Zi (Zb (Zs (Zb (Zd (Zc (Zl rfl (Zc (Zk rfl (Za (Zi (Zb (Zd (Zc (Zl rfl (Zc (Zl rfl (Zc (Zl rfl ?_)))))))))))))))))))
  refine Zc (Zz (el := V.str x) VT.sl68 rfl rfl (by omega) (get_str hr) (λ a14 => ?_))
  refine Zc (Zz1 VT.ty9 rfl rfl ?_)
  refine Zc (V_callClo [.tmp 15] _ _ rfl rfl rfl hen (.refl _) (hp x (Ya hr)) ?_)
  rintro r Sa ⟨rfl, rfl⟩
  refine Za (Zi ?_)
  refine Zr1 rfl (λ h16 => ?_) (λ h16 => ?_)
  .
   refine Zb (Zd (Zc (Zl rfl (Zc (Zk rfl (Za (Zi (Zf1 ?_))))))))
   refine Za1 (Zd1 (Zd1 (Za1 (Zd1 (Zg1 rfl (.tmp rfl) ?_)))))
   rw [idxOf_at p hr hany h16]
   exact ⟨rfl, rfl⟩
  refine Zi1 (Zb1 (Zi (Zd ?_)))
  refine Zc (Zh2 rfl rfl (by omega) ?_)
  refine Zc (Zl rfl (Za (Zi ?_)))
  exact ⟨k + 1, (by (try simp only []); omega), ⟨by omega, any_snoc hr hany h16⟩, ⟨rfl, rfl, rfl, rfl, trivial⟩, (Dk (Dk (Dk (Zt2 _))))⟩
 have hke : k = l.length := by omega
 subst hke
 rw [Yb] at hany
 refine Zt (Ze1 (Ze1 (Zc1 (Zi (Zb (Zd (Zc (Zk rfl (Za (Zi (Zf1 ?_)))))))))))
 refine Zg1 rfl (.tmp rfl) ?_
 rw [idxOf_none p hany]
 exact ⟨rfl, rfl⟩
theorem strsBAny_c {l : List Str} {tok : Option Tok} {p : Str -> Bool} {c : FuncId} {caps : List V} {o1 o2 o3 : Own} (hen : Enters Tryz.prog c) (hp : ∀ x ∈ l, VKeep Tryz.prog c (V.str x :: caps) [o1, o2, o3] (.bool (p x))) : VKeep Tryz.prog 68 [.sl 1 tok (l.map V.str), .clo (.func c) caps] [o1, o2, o3] (.bool (l.any p)) := by
 refine V_start (nt := 9) Tryz.func68 rfl rfl rfl ?_
 refine Zb (Zd (Zc (Zk rfl (Za (Zi (Zb (Zd (Zc (Zl rfl (Zc (Zl rfl ?_)))))))))))
 refine Zc (Zm3 [.tmp 5, .tmp 6] _ _ rfl rfl VT.en94 (.refl _) (strsBIdx_c hen hp) ?_)
 rintro r Sa ⟨rfl, rfl⟩
 refine Zc (Zj1 rfl rfl rfl (Zc (Zk rfl (Za (Zi (Zf1 ?_))))))
 refine Zg1 rfl (.tmp rfl) ?_
 rw [idxOf_ge]
 exact ⟨rfl, rfl⟩
theorem known_c {s : Str} {g3 gm : Nat} {tab : List (Str × V)} {a : Addr} {v : V} (h : kget tab s = some (.ep a v)) : VKeep Tryz.prog 69 [.str s, .ptr g3 0] [.cells g3 56 [.raw (.map (some gm))], .map gm (kmap kstr tab)] (.bool false) := by
 refine V_start (nt := 8) Tryz.func69 rfl rfl rfl ?_
 refine Zb (Zd (Zc (Zk rfl (Za (Zi (Zb (Zd (Zc (Zu 0 VT.ty56 rfl rfl rfl (Zc (Zl rfl ?_)))))))))))
 refine Zc (V_lookup1 1 Tryz.underlying56 (key_str Tryz.underlying9) VT.zr96 rfl rfl rfl (h) ?_)
 refine Zc (V_epEqNil Tryz.underlying96 rfl ?_)
 refine Zc (Zk rfl (Za (Zi (Zf1 ?_))))
 refine Zg1 rfl (.tmp rfl) ?_
 exact ⟨rfl, rfl⟩
theorem alike_c {s s0 : Str} {g3 g4 gm : Nat} {tab : List (Str × V)} {a : Addr} {u v : V} {n : MNode} (h : kget tab s = some (.ep a u)) (h0 : n.names[0]? = some s0) (h2 : kget tab s0 = some (.ep a v)) : VKeep Tryz.prog 72 [.str s, .ptr g3 0, .ptr g4 0] [.cells g3 56 [.raw (.map (some gm))], .cells g4 70 [.int n.kind, .int n.row, intsX n.path, strsX n.names, intsX n.words, intsX n.kids], .map gm (kmap kstr tab)] (.bool false) := by
 refine V_start (nt := 15) Tryz.func72 rfl rfl rfl ?_
 refine Zb (Zd (Zc (Zk rfl (Za (Zi (Zb ?_))))))
 refine VW_drawR (G := Unit) [([], [1], []), ([], [0], []), ([1, 0], [5, 6], []), ([], [1], []), ([], [2], []), ([4], [9], []), ([5, 4], [10], []), ([6, 5, 4], [11], []), ([7, 6, 5, 4, 3], [8, 12], []), (dn 9, [7, 13], []), (dn 10, [14], [])] [] (constSt _) [4] [4, 5, 6, 7, 8, 9, 10, 11, 12, 13, 14] rfl VT.mix ?_
 refine ZA (λ γ => Zf (λ _ h1 => Ze (Zn rfl (Zu 0 VT.ty56 h1 rfl rfl z0)))) ?_
 refine ZA (λ γ => Zf (λ _ h0 => Ze (Zn rfl (Zl h0 z0)))) ?_
 refine ZA (λ γ => Zw 0 1 rfl (λ _ h5 => Zw 1 0 rfl (λ _ h6 => Ze (Zn rfl (V_lookup1 2 Tryz.underlying56 (key_str Tryz.underlying9) VT.zr96 h5 h6 rfl (h) z0))))) ?_
 refine ZA (λ γ => Zf (λ _ h1 => Ze (Zn rfl (Zu 0 VT.ty56 h1 rfl rfl z0)))) ?_
 refine ZA (λ γ => Zf (λ _ h2 => Ze (Zn rfl (Zj VT.fa70_3 h2 z0)))) ?_
 refine ZA (λ γ => Zw 4 0 rfl (λ _ h9 => Ze (Zn rfl (Zu 1 VT.ty68 h9 rfl rfl z0)))) ?_
 refine Zp (Zb3 _) (Zq (λ γ => Zw 5 0 rfl (λ _ h10 => Ze (Zn rfl (Zz (el := V.str s0) VT.sl68 h10 rfl (by omega) (get_str h0) (λ a11 => ⟨⟨_, rfl⟩, rfl⟩)))))) ?_
 refine ZA (λ γ => Zw 6 0 rfl (λ _ h11 => Ze (Zc3 h11 (λ a_11 e11 => Zn rfl (Zz1 VT.ty9 e11 rfl z0))))) ?_
 refine ZA (λ γ => Zw 3 4 rfl (λ _ h8 => Zw 7 0 rfl (λ _ h12 => Ze (Zn rfl (V_lookup1 2 Tryz.underlying56 (key_str Tryz.underlying9) VT.zr96 h8 h12 rfl (h2) z0))))) ?_
 refine ZA (λ γ => Zw 2 6 rfl (λ _ h7 => Zw 8 0 rfl (λ _ h13 => Ze (Zn rfl (V_ptrNeSame Tryz.underlying96 (by obtain ⟨_, i, _, _, h, _⟩ := VT.st92.all; exact ⟨i, h⟩) h7 h13 z0))))) ?_
 refine ZA (λ γ => Zw 9 0 rfl (λ _ h14 => Ze (Zn rfl (Zk h14 z0)))) ?_
 refine DrawP_nil (λ γ => Zw 10 0 rfl (λ r4 h4 => Ze ?_))
 have e4 : r4 = some _ := h4
 subst e4
 clear h4
 refine Zi (Zf1 ?_)
 refine Zg1 rfl (.tmp rfl) ?_
 exact ⟨rfl, rfl⟩
theorem strsIndex_c (l : List Str) (tok : Option Tok) (v : Str) : VPure Tryz.prog 21 [.sl 1 tok (l.map V.str), .str v] (.int (idxOf (λ x => decide (v = x)) l)) := by
 refine V_start (nt := 19) Tryz.func21 rfl rfl rfl ?_
 refine Zb (Zd (Zc (Zk rfl (Za (Zi (Zb (Zb (Zd (Zc (Zl rfl ?_))))))))))
 refine Zc (Zd2 (n := l.length) Tryz.underlying68 rfl (by simp) (λ hl7 => ?_))
 refine Zc (Zl rfl (Za (Zi (Zs ?_))))
 refine Zi2 (ι := Nat) (λ k => l.length - k) (λ k => [(0, some (.sl 1 tok (l.map V.str))), (1, some (.str v)), (7, some (.int l.length)), (8, some (.int k))]) (λ k => []) (λ k => k <= l.length /\ (l.take k).any (λ x => decide (v = x)) = false) 0 ⟨Yg _, rfl⟩ ⟨rfl, rfl, rfl, rfl, trivial⟩ (Zt2 _) ?_
 rintro k hA
 change k <= l.length /\ (l.take k).any (λ x => decide (v = x)) = false at hA
 obtain ⟨hk, hany⟩ := hA
 refine Zb (Zd (Zc (Zj1 rfl rfl rfl (Za (Zi (Zb ?_))))))
 refine Zn1 rfl (λ h9 => ?_) (λ h9 => ?_)
 .
  obtain ⟨x, hr⟩ := get_of_lt l k h9
  refine Zi1 (Zi (Zb (Zs (Zb (Zd (Zc (Zl rfl (Zc (Zk rfl (Za (Zi (Zb (Zd (Zc (Zl rfl (Zc (Zl rfl (Zc (Zl rfl ?_)))))))))))))))))))
  refine Zc (Zz (el := V.str x) VT.sl68 rfl rfl (by omega) (get_str hr) (λ a14 => ?_))
  refine Zc (Zz1 VT.ty9 rfl rfl (Zc (V_streq rfl rfl (Za (Zi ?_)))))
  refine Zl1 rfl (λ h16 => ?_) (λ h16 => ?_)
  .
   refine Zb (Zd (Zc (Zl rfl (Zc (Zk rfl (Za (Zi (Zf1 ?_))))))))
   refine Za1 (Zd1 (Zd1 (Za1 (Zd1 (Zg1 rfl (.tmp rfl) ?_)))))
   rw [idxOf_at (λ x => decide (v = x)) hr hany (decide_eq_true h16)]
  refine Zi1 (Zb1 (Zi (Zd ?_)))
  refine Zc (Zh2 rfl rfl (by omega) ?_)
  refine Zc (Zl rfl (Za (Zi ?_)))
  exact ⟨k + 1, (by (try simp only []); omega), ⟨by omega, any_snoc hr hany (decide_eq_false h16)⟩, ⟨rfl, rfl, rfl, rfl, trivial⟩, (Drops.nil _)⟩
 have hke : k = l.length := by omega
 subst hke
 rw [Yb] at hany
 refine Zt (Ze1 (Ze1 (Zc1 (Zi (Zb (Zd (Zc (Zk rfl (Za (Zi (Zf1 ?_)))))))))))
 refine Zg1 rfl (.tmp rfl) ?_
 rw [idxOf_none (λ x => decide (v = x)) hany]
theorem strsContains_c (l : List Str) (tok : Option Tok) (v : Str) : VPure Tryz.prog 95 [.sl 1 tok (l.map V.str), .str v] (.bool (l.any λ x => decide (v = x))) := by
 refine V_start (nt := 9) Tryz.func95 rfl rfl rfl ?_
 refine Zb (Zd (Zc (Zk rfl (Za (Zi (Zb (Zd (Zc (Zl rfl (Zc (Zl rfl ?_)))))))))))
 refine Zc (Zx1 [.tmp 5, .tmp 6] rfl rfl VT.en21 (strsIndex_c l tok v) ?_)
 refine Zc (Zj1 rfl rfl rfl (Zc (Zk rfl (Za (Zi (Zf1 ?_))))))
 refine Zg1 rfl (.tmp rfl) ?_
 rw [idxOf_ge]
theorem strsTwice_c (l : List Str) (h : l.Nodup) : VPure Tryz.prog 70 [.sl 1 none (l.map V.str)] (.bool false) := by
 refine V_start (nt := 18) Tryz.func70 rfl rfl rfl ?_
 refine Zb (Zd (Zc (Zk rfl (Za (Zi (Zb (Zb (Zd (Zc (Zl rfl ?_))))))))))
 refine Zc (Zd2 (n := l.length) Tryz.underlying68 rfl (by simp) (λ hl6 => ?_))
 refine Zc (Zl rfl (Za (Zi (Zs ?_))))
 refine Zi2 (ι := Nat) (λ k => l.length - k) (λ k => [(0, some (.sl 1 none (l.map V.str))), (5, some (.sl 1 none (l.map V.str))), (6, some (.int l.length)), (7, some (.int k))]) (λ k => []) (λ k => k <= l.length) 0 (Yg _) ⟨rfl, rfl, rfl, rfl, trivial⟩ (Drops.nil _) ?_
 rintro k hk
 change k <= l.length at hk
 refine Zb (Zd (Zc (Zj1 rfl rfl rfl (Za (Zi (Zb ?_))))))
 refine Zn1 rfl (λ h8 => ?_) (λ h8 => ?_)
 .
  obtain ⟨x, hx⟩ := get_of_lt l k h8
  have hno : ((l.take k).any λ y => decide (x = y)) = false := by rw [Yd]; intro y hy; rw [decide_eq_true_eq]; rintro rfl; rw [split_at hx, List.nodup_append] at h; exact h.2.2 x hy x (List.mem_cons_self ..) rfl
  refine Zi1 (Zi (Zb (Zs (Zb (Zd (Zc (Zl rfl ?_)))))))
  refine Zc (Zz (el := V.str x) VT.sl68 rfl rfl (by omega) (get_str hx) (λ a10 => ?_))
  refine Zc (Zz1 VT.ty9 rfl rfl (Zc (Zk rfl (Zc (Zk rfl (Za (Zi (Zb (Zd (Zc (Zl rfl (Zc (Zl rfl ?_)))))))))))))
  refine Zc (Zu2 (V_sliceTo VT.sl68 rfl rfl (by omega) (by simp; omega) ⟨rfl, rfl⟩) (V.le.of_eq (v' := .sl 1 none ((l.take k).map V.str)) (by rw [List.map_take]; rfl)) ?_)
  refine Zc (Zl rfl ?_)
  refine Zc (Zx1 [.tmp 14, .tmp 15] rfl rfl VT.en95 (strsContains_c (l.take k) none x) ?_)
  refine Za (Zi ?_)
  refine Zq1 rfl (hno) ?_
  refine Zi1 (Zb1 (Zi (Zd ?_)))
  refine Zc (Zh2 rfl rfl (by omega) ?_)
  refine Zc (Zl rfl (Za (Zi ?_)))
  exact ⟨k + 1, (by (try simp only []); omega), (by omega), ⟨rfl, rfl, rfl, rfl, trivial⟩, (Drops.nil _)⟩
 refine Zt (Ze1 (Ze1 (Zc1 (Zi (Zb (Zd (Zc (Zk rfl (Za (Zi (Zf1 ?_)))))))))))
 refine Zg1 rfl (.tmp rfl) ?_
 rfl
theorem intsTwice_c (l : List Int) (h : l.Nodup) : VPure Tryz.prog 71 [.sl 1 none (l.map V.int)] (.bool false) := by
 refine V_start (nt := 18) Tryz.func71 rfl rfl rfl ?_
 refine Zb (Zd (Zc (Zk rfl (Za (Zi (Zb (Zb (Zd (Zc (Zl rfl ?_))))))))))
 refine Zc (Zd2 (n := l.length) Tryz.underlying36 rfl (by simp) (λ hl6 => ?_))
 refine Zc (Zl rfl (Za (Zi (Zs ?_))))
 refine Zi2 (ι := Nat) (λ k => l.length - k) (λ k => [(0, some (.sl 1 none (l.map V.int))), (5, some (.sl 1 none (l.map V.int))), (6, some (.int l.length)), (7, some (.int k))]) (λ k => []) (λ k => k <= l.length) 0 (Yg _) ⟨rfl, rfl, rfl, rfl, trivial⟩ (Drops.nil _) ?_
 rintro k hk
 change k <= l.length at hk
 refine Zb (Zd (Zc (Zj1 rfl rfl rfl (Za (Zi (Zb ?_))))))
 refine Zn1 rfl (λ h8 => ?_) (λ h8 => ?_)
 .
  obtain ⟨x, hx⟩ := get_of_lt l k h8
  have hno : ((l.take k).any λ y => decide (x = y)) = false := by rw [Yd]; intro y hy; rw [decide_eq_true_eq]; rintro rfl; rw [split_at hx, List.nodup_append] at h; exact h.2.2 x hy x (List.mem_cons_self ..) rfl
  refine Zi1 (Zi (Zb (Zs (Zb (Zd (Zc (Zl rfl ?_)))))))
  refine Zc (Zz (el := V.int x) VT.sl36 rfl rfl (by omega) (get_int hx) (λ a10 => ?_))
  refine Zc (Zz1 VT.ty3 rfl rfl (Zc (Zk rfl (Zc (Zk rfl (Za (Zi (Zb (Zd (Zc (Zl rfl (Zc (Zl rfl ?_)))))))))))))
  refine Zc (Zu2 (V_sliceTo VT.sl36 rfl rfl (by omega) (by simp; omega) ⟨rfl, rfl⟩) (V.le.of_eq (v' := .sl 1 none ((l.take k).map V.int)) (by rw [List.map_take]; rfl)) ?_)
  refine Zc (Zl rfl ?_)
  refine Zc (Zx1 [.tmp 14, .tmp 15] rfl rfl VT.en58 (intsContains_c (l.take k) none x) ?_)
  refine Za (Zi ?_)
  refine Zq1 rfl (hno) ?_
  refine Zi1 (Zb1 (Zi (Zd ?_)))
  refine Zc (Zh2 rfl rfl (by omega) ?_)
  refine Zc (Zl rfl (Za (Zi ?_)))
  exact ⟨k + 1, (by (try simp only []); omega), (by omega), ⟨rfl, rfl, rfl, rfl, trivial⟩, (Drops.nil _)⟩
 refine Zt (Ze1 (Ze1 (Zc1 (Zi (Zb (Zd (Zc (Zk rfl (Za (Zi (Zf1 ?_)))))))))))
 refine Zg1 rfl (.tmp rfl) ?_
 rfl
theorem bare0_c (n : MNode) (hk : n.kind = 0) (h1 : n.row = 0) (h2 : n.path = []) (h3 : n.names = []) (h4 : n.words = []) (h5 : n.kids = []) : VPure Tryz.prog 65 [nodeX n] (.bool true) := by
 have e2 : n.path.length = 0 := by rw [h2]; rfl
 have e3 : n.names.length = 0 := by rw [h3]; rfl
 have e4 : n.words.length = 0 := by rw [h4]; rfl
 have e5 : n.kids.length = 0 := by rw [h5]; rfl
 refine V_start (nt := 100) Tryz.func65 rfl rfl rfl ?_
 refine Zb (Zd ?_)
 refine Zc (Zc2 rfl rfl (λ g1 => ?_))
 refine Zc (Zk rfl (Za (Zi (Zb (Zb (Zd (Zc (Zj VT.fa70_0 rfl (Zc (Zu 0 VT.ty3 rfl rfl rfl (Za (Zi (Zs (Zb (Zd (Zc (Zj1 rfl rfl rfl (Zc (Zk rfl (Za (Zi ?_)))))))))))))))))))))
 refine Zp1 rfl ((by rw [hk]; rfl)) ?_
 refine Zb (Zd (Zc (Zj VT.fa70_1 rfl (Zc (Zu 0 VT.ty3 rfl rfl rfl (Zc (Zj1 rfl rfl rfl (Zc (Zl rfl ?_)))))))))
 refine Zj2 (q := 10) rfl (λ hq10 => ?_) (λ hq10 => ?_)
 .
  refine Zc (Zj VT.fa70_2 rfl ?_) (Zy1 hq10)
  refine Zc (Zu 0 VT.ty36 rfl rfl rfl ?_) (Zy1 hq10)
  refine Zc (Zd2 (n := n.path.length) Tryz.underlying36 rfl (by simp) (λ hl13 => ?_)) (Zy1 hq10)
  refine Zc (Zj VT.fa70_3 rfl ?_) (Zy1 hq10)
  refine Zc (Zu 0 VT.ty68 rfl rfl rfl ?_) (Zy1 hq10)
  refine Zc (Zd2 (n := n.names.length) Tryz.underlying68 rfl (by simp) (λ hl16 => ?_)) (Zy1 hq10)
  refine Zc (Zh2 rfl rfl (by omega) ?_) (Zy1 hq10)
  refine Zc (Zj VT.fa70_4 rfl ?_) (Zy1 hq10)
  refine Zc (Zu 0 VT.ty36 rfl rfl rfl ?_) (Zy1 hq10)
  refine Zc (Zd2 (n := n.words.length) Tryz.underlying36 rfl (by simp) (λ hl20 => ?_)) (Zy1 hq10)
  refine Zc (Zh2 rfl rfl (by omega) ?_) (Zy1 hq10)
  refine Zc (Zj VT.fa70_5 rfl ?_) (Zy1 hq10)
  refine Zc (Zu 0 VT.ty36 rfl rfl rfl ?_) (Zy1 hq10)
  refine Zc (Zd2 (n := n.kids.length) Tryz.underlying36 rfl (by simp) (λ hl24 => ?_)) (Zy1 hq10)
  refine Zc (Zh2 rfl rfl (by omega) ?_) (Zy1 hq10)
  refine Zc (Zj1 rfl rfl rfl ?_) (Zy1 hq10)
  refine Zc (Zs1 rfl hq10 rfl ?_)
  refine Zc (Zk rfl (Za (Zi (Zf1 ?_))))
  refine Za1 (Zd1 (Zg1 rfl (.tmp rfl) ?_))
  exact congrArg V.bool (by rw [h2, h3, h4, h5]; rfl)
 exact absurd hq10 (by rw [h1]; simp)
theorem bare1_c (n : MNode) (hk : n.kind = 1) (h2 : n.path = []) (h3 : n.names = []) (h4 : n.words = []) (h5 : n.kids = []) : VPure Tryz.prog 65 [nodeX n] (.bool true) := by
 have e2 : n.path.length = 0 := by rw [h2]; rfl
 have e3 : n.names.length = 0 := by rw [h3]; rfl
 have e4 : n.words.length = 0 := by rw [h4]; rfl
 have e5 : n.kids.length = 0 := by rw [h5]; rfl
 refine V_start (nt := 100) Tryz.func65 rfl rfl rfl ?_
 refine Zb (Zd ?_)
 refine Zc (Zc2 rfl rfl (λ g1 => ?_))
 refine Zc (Zk rfl (Za (Zi (Zb (Zb (Zd (Zc (Zj VT.fa70_0 rfl (Zc (Zu 0 VT.ty3 rfl rfl rfl (Za (Zi (Zs (Zb (Zd (Zc (Zj1 rfl rfl rfl (Zc (Zk rfl (Za (Zi ?_)))))))))))))))))))))
 refine Zq1 rfl ((by rw [hk]; rfl)) ?_
 refine Zb (Zd (Zc (Zj1 rfl rfl rfl (Zc (Zk rfl (Za (Zi ?_)))))))
 refine Zp1 rfl ((by rw [hk]; rfl)) ?_
 refine Zb (Zd (Zc (Zj VT.fa70_2 rfl (Zc (Zu 0 VT.ty36 rfl rfl rfl ?_)))))
 refine Zc (Zd2 (n := n.path.length) Tryz.underlying36 rfl (by simp) (λ hl32 => ?_))
 refine Zc (Zj VT.fa70_3 rfl (Zc (Zu 0 VT.ty68 rfl rfl rfl ?_)))
 refine Zc (Zd2 (n := n.names.length) Tryz.underlying68 rfl (by simp) (λ hl35 => ?_))
 refine Zc (Zh2 rfl rfl (by omega) ?_)
 refine Zc (Zj VT.fa70_4 rfl (Zc (Zu 0 VT.ty36 rfl rfl rfl ?_)))
 refine Zc (Zd2 (n := n.words.length) Tryz.underlying36 rfl (by simp) (λ hl39 => ?_))
 refine Zc (Zh2 rfl rfl (by omega) ?_)
 refine Zc (Zj VT.fa70_5 rfl (Zc (Zu 0 VT.ty36 rfl rfl rfl ?_)))
 refine Zc (Zd2 (n := n.kids.length) Tryz.underlying36 rfl (by simp) (λ hl43 => ?_))
 refine Zc (Zh2 rfl rfl (by omega) ?_)
 refine Zc (Zj1 rfl rfl rfl (Zc (Zk rfl (Za (Zi (Zf1 ?_))))))
 refine Za1 (Zd1 (Zg1 rfl (.tmp rfl) ?_))
 exact congrArg V.bool (by rw [h2, h3, h4, h5]; rfl)
theorem bare2_c (n : MNode) (hk : n.kind = 2) (h1 : n.row = 0) (h4 : n.words = []) (h2 : n.path ≠ []) (h5 : n.kids.length = n.names.length + 1) : VPure Tryz.prog 65 [nodeX n] (.bool true) := by
 have hpl := Yc.2 h2
 have hwl : n.words.length = 0 := by rw [h4]; rfl
 refine V_start (nt := 100) Tryz.func65 rfl rfl rfl ?_
 refine Zb (Zd ?_)
 refine Zc (Zc2 rfl rfl (λ g1 => ?_))
 refine Zc (Zk rfl (Za (Zi (Zb (Zb (Zd (Zc (Zj VT.fa70_0 rfl (Zc (Zu 0 VT.ty3 rfl rfl rfl (Za (Zi (Zs (Zb (Zd (Zc (Zj1 rfl rfl rfl (Zc (Zk rfl (Za (Zi ?_)))))))))))))))))))))
 refine Zq1 rfl ((by rw [hk]; rfl)) ?_
 refine Zb (Zd (Zc (Zj1 rfl rfl rfl (Zc (Zk rfl (Za (Zi ?_)))))))
 refine Zq1 rfl ((by rw [hk]; rfl)) ?_
 refine Zb (Zd (Zc (Zj1 rfl rfl rfl (Zc (Zk rfl (Za (Zi ?_)))))))
 refine Zp1 rfl ((by rw [hk]; rfl)) ?_
 refine Zb (Zd (Zc (Zj VT.fa70_1 rfl (Zc (Zu 0 VT.ty3 rfl rfl rfl (Zc (Zj1 rfl rfl rfl (Zc (Zl rfl ?_)))))))))
 refine Zj2 (q := 51) rfl (λ hq51 => ?_) (λ hq51 => ?_)
 .
  refine Zc (Zj VT.fa70_4 rfl ?_) (Zy1 hq51)
  refine Zc (Zu 0 VT.ty36 rfl rfl rfl ?_) (Zy1 hq51)
  refine Zc (Zd2 (n := n.words.length) Tryz.underlying36 rfl (by simp) (λ hl54 => ?_)) (Zy1 hq51)
  refine Zc (Zj1 rfl rfl rfl ?_) (Zy1 hq51)
  refine Zc (Zs1 rfl hq51 rfl ?_)
  refine Zc (Zl rfl ?_)
  refine Zj2 (q := 57) rfl (λ hq57 => ?_) (λ hq57 => ?_)
  .
   refine Zc (Zj VT.fa70_2 rfl ?_) (Zy1 hq57)
   refine Zc (Zu 0 VT.ty36 rfl rfl rfl ?_) (Zy1 hq57)
   refine Zc (Zd2 (n := n.path.length) Tryz.underlying36 rfl (by simp) (λ hl60 => ?_)) (Zy1 hq57)
   refine Zc (Zj1 rfl rfl rfl ?_) (Zy1 hq57)
   refine Zc (Zs1 rfl hq57 rfl ?_)
   refine Zc (Zl rfl ?_)
   refine Zj2 (q := 63) rfl (λ hq63 => ?_) (λ hq63 => ?_)
   .
    refine Zc (Zj VT.fa70_5 rfl ?_) (Zy1 hq63)
    refine Zc (Zu 0 VT.ty36 rfl rfl rfl ?_) (Zy1 hq63)
    refine Zc (Zd2 (n := n.kids.length) Tryz.underlying36 rfl (by simp) (λ hl66 => ?_)) (Zy1 hq63)
    refine Zc (Zj VT.fa70_3 rfl ?_) (Zy1 hq63)
    refine Zc (Zu 0 VT.ty68 rfl rfl rfl ?_) (Zy1 hq63)
    refine Zc (Zd2 (n := n.names.length) Tryz.underlying68 rfl (by simp) (λ hl69 => ?_)) (Zy1 hq63)
    refine Zc (Zh2 rfl rfl (by omega) ?_) (Zy1 hq63)
    refine Zc (Zj1 rfl rfl rfl ?_) (Zy1 hq63)
    refine Zc (Zs1 rfl hq63 rfl ?_)
    refine Zc (Zk rfl (Za (Zi (Zf1 ?_))))
    refine Za1 (Zd1 (Zg1 rfl (.tmp rfl) ?_))
    exact congrArg V.bool (by rw [h5]; simp)
   exact absurd hq63 (by rw [decide_eq_true (by omega)]; simp)
  exact absurd hq57 (by rw [hwl]; simp)
 exact absurd hq51 (by rw [h1]; simp)
theorem bare3_c (n : MNode) (hk : n.kind = 3) (h1 : n.row = 0) (h4 : n.names = []) (h2 : n.path ≠ []) (h5 : n.kids.length = n.words.length + 1) : VPure Tryz.prog 65 [nodeX n] (.bool true) := by
 have hpl := Yc.2 h2
 have hwl : n.names.length = 0 := by rw [h4]; rfl
 refine V_start (nt := 100) Tryz.func65 rfl rfl rfl ?_
 refine Zb (Zd ?_)
 refine Zc (Zc2 rfl rfl (λ g1 => ?_))
 refine Zc (Zk rfl (Za (Zi (Zb (Zb (Zd (Zc (Zj VT.fa70_0 rfl (Zc (Zu 0 VT.ty3 rfl rfl rfl (Za (Zi (Zs (Zb (Zd (Zc (Zj1 rfl rfl rfl (Zc (Zk rfl (Za (Zi ?_)))))))))))))))))))))
 refine Zq1 rfl ((by rw [hk]; rfl)) ?_
 refine Zb (Zd (Zc (Zj1 rfl rfl rfl (Zc (Zk rfl (Za (Zi ?_)))))))
 refine Zq1 rfl ((by rw [hk]; rfl)) ?_
 refine Zb (Zd (Zc (Zj1 rfl rfl rfl (Zc (Zk rfl (Za (Zi ?_)))))))
 refine Zq1 rfl ((by rw [hk]; rfl)) ?_
 refine Zb (Zd (Zc (Zj1 rfl rfl rfl (Zc (Zk rfl (Za (Zi ?_)))))))
 refine Zp1 rfl ((by rw [hk]; rfl)) ?_
 refine Zb (Zd (Zc (Zj VT.fa70_1 rfl (Zc (Zu 0 VT.ty3 rfl rfl rfl (Zc (Zj1 rfl rfl rfl (Zc (Zl rfl ?_)))))))))
 refine Zj2 (q := 78) rfl (λ hq78 => ?_) (λ hq78 => ?_)
 .
  refine Zc (Zj VT.fa70_3 rfl ?_) (Zy1 hq78)
  refine Zc (Zu 0 VT.ty68 rfl rfl rfl ?_) (Zy1 hq78)
  refine Zc (Zd2 (n := n.names.length) Tryz.underlying68 rfl (by simp) (λ hl81 => ?_)) (Zy1 hq78)
  refine Zc (Zj1 rfl rfl rfl ?_) (Zy1 hq78)
  refine Zc (Zs1 rfl hq78 rfl ?_)
  refine Zc (Zl rfl ?_)
  refine Zj2 (q := 84) rfl (λ hq84 => ?_) (λ hq84 => ?_)
  .
   refine Zc (Zj VT.fa70_2 rfl ?_) (Zy1 hq84)
   refine Zc (Zu 0 VT.ty36 rfl rfl rfl ?_) (Zy1 hq84)
   refine Zc (Zd2 (n := n.path.length) Tryz.underlying36 rfl (by simp) (λ hl87 => ?_)) (Zy1 hq84)
   refine Zc (Zj1 rfl rfl rfl ?_) (Zy1 hq84)
   refine Zc (Zs1 rfl hq84 rfl ?_)
   refine Zc (Zl rfl ?_)
   refine Zj2 (q := 90) rfl (λ hq90 => ?_) (λ hq90 => ?_)
   .
    refine Zc (Zj VT.fa70_5 rfl ?_) (Zy1 hq90)
    refine Zc (Zu 0 VT.ty36 rfl rfl rfl ?_) (Zy1 hq90)
    refine Zc (Zd2 (n := n.kids.length) Tryz.underlying36 rfl (by simp) (λ hl93 => ?_)) (Zy1 hq90)
    refine Zc (Zj VT.fa70_4 rfl ?_) (Zy1 hq90)
    refine Zc (Zu 0 VT.ty36 rfl rfl rfl ?_) (Zy1 hq90)
    refine Zc (Zd2 (n := n.words.length) Tryz.underlying36 rfl (by simp) (λ hl96 => ?_)) (Zy1 hq90)
    refine Zc (Zh2 rfl rfl (by omega) ?_) (Zy1 hq90)
    refine Zc (Zj1 rfl rfl rfl ?_) (Zy1 hq90)
    refine Zc (Zs1 rfl hq90 rfl ?_)
    refine Zc (Zk rfl (Za (Zi (Zf1 ?_))))
    refine Za1 (Zd1 (Zg1 rfl (.tmp rfl) ?_))
    exact congrArg V.bool (by rw [h5]; simp)
   exact absurd hq90 (by rw [decide_eq_true (by omega)]; simp)
  exact absurd hq84 (by rw [hwl]; simp)
 exact absurd hq78 (by rw [h1]; simp)
theorem bare_c {t : Tab} {ds : List DataSig} {n : MNode} (h : NodeP t ds n) : VPure Tryz.prog 65 [nodeX n] (.bool true) := by
 rcases h.form with ⟨h0, h1, h2, h3, h4, h5⟩ | ⟨h0, h2, h3, h4, h5⟩ | ⟨h0, h1, h2, h3, h4⟩ | ⟨h0, h1, h2, h3, h4⟩
 .exact bare0_c n h0 h1 h2 h3 h4 h5
 .exact bare1_c n h0 h2 h3 h4 h5
 .exact bare2_c n h0 h1 h2 h3 h4
 exact bare3_c n h0 h1 h2 h3 h4
end Go.Proofs.YtpkbgamoboojaaaGreat.W23
end
section
namespace Go.Proofs.YtpkbgamoboojaaaGreat.W24
open Go.VL Go.PM Go.Proofs.YtpkbgamoboojaaaGreat W9 W10 W16 W20 W21 W23
theorem node_c {t : Tab} {ds : List DataSig} {base : Addr} {tab : List (Str × V)} (gm : Nat) (n : MNode) (k : Nat) (htr : TabRel ds base t tab) (h : NodeP t ds n) (hkid : ∀ y ∈ n.kids, y < (k : Int)) : VKeep Tryz.prog 39 [.raw (.map (some gm)), nodeX n, .int k] [.map gm (kmap kstr tab)] (.int 0) := by
 obtain ⟨hform, hrow, hpath, hwords, hwn, hnn, d, D, hD, hnm, hdat⟩ := id h
 have hget : ∀ s ∈ n.names, ∃ D2, ds[d]? = some D2 /\ kget tab s = some (.ep ⟨base.block, base.off + d * 3, none⟩ (dataV D2)) := λ s hs => by obtain ⟨c, hc, hcd⟩ := hnm s hs; obtain ⟨D2, h1, h2⟩ := htr.yes s c hc; rw [hcd] at h1 h2; exact ⟨D2, h1, h2⟩
 have hneg : n.path.any (λ x => decide (x < 0)) = false := by rw [Yd]; intro x hx; have := hpath x hx; simp; omega
 have hfar : n.words.any (λ x => decide (x < -1073741824) || decide (x > 1073741823)) = false := by rw [Yd]; intro x hx; have := hwords x hx; simp; omega
 refine VCalls_drops ?_
 refine V_start (nt := 103) Tryz.func39 rfl rfl rfl ?_
 refine Zb (Zd ?_)
 refine Zc (Zc2 rfl rfl (λ g3 => ?_))
 refine Zc (Zc2 rfl rfl (λ g4 => ?_))
 refine Zc (Zk rfl (Za (Zi (Zb (Zd (Zc (Zk rfl (Za (Zi (Zb (Zs (Zb (Zd (Zc (Zv 0 VT.ty70 rfl rfl rfl ?_)))))))))))))))
 refine Zc (Zx1 [.tmp 12] rfl rfl VT.en65 (bare_c h) ?_)
 refine Zc (Zl2 rfl (Zc (Zk rfl (Za (Zi ?_)))))
 refine Zq1 rfl (rfl) ?_
 refine Zb (Zd (Zc (Zj VT.fa70_1 rfl (Zc (Zu 0 VT.ty3 rfl rfl rfl (Zc (Zj1 rfl rfl rfl (Zc (Zl rfl ?_)))))))))
 refine Zj2 (q := 19) rfl (λ hq19 => ?_) (λ hq19 => ?_)
 . exact absurd (of_decide_eq_true hq19) (by omega)
 refine Zc (Zj VT.fa70_2 rfl ?_) (Zy0 hq19)
 refine Zc (Zu 0 VT.ty36 rfl rfl rfl ?_) (Zy0 hq19)
 refine Zc (Zl rfl ?_) (Zy0 hq19)
 refine Zc (Zx1 [.tmp 21, .tmp 22] rfl rfl VT.en66 (by have e := intsAny_c (l := n.path) (tok := none) (p := λ x => decide (x < 0)) (caps := []) VT.en64 (λ x _ => neg_c x); rw [hneg] at e; exact e) ?_) (Zy0 hq19)
 refine Zc (Zt1 rfl hq19 rfl ?_)
 refine Zc (Zl rfl ?_)
 refine Zj2 (q := 25) rfl (λ hq25 => ?_) (λ hq25 => ?_)
 . exact absurd hq25 (by simp)
 refine Zc (Zj VT.fa70_4 rfl ?_) (Zy0 hq25)
 refine Zc (Zu 0 VT.ty36 rfl rfl rfl ?_) (Zy0 hq25)
 refine Zc (Zx1 [.tmp 27, .func 67] rfl rfl VT.en66 (by have e := intsAny_c (l := n.words) (tok := none) (p := λ x => decide (x < -1073741824) || decide (x > 1073741823)) (caps := []) VT.en67 (λ x _ => far_c x); rw [hfar] at e; exact e) ?_) (Zy0 hq25)
 refine Zc (Zt1 rfl hq25 rfl ?_)
 refine Zc (Zk rfl (Za (Zi ?_)))
 refine Zq1 rfl (rfl) ?_
 refine Zb (Zd (Zc (Zj VT.fa70_3 rfl (Zc (Zu 0 VT.ty68 rfl rfl rfl ?_)))))
 refine Zc (V_makeFunc [.tmp 3] rfl rfl ?_)
 refine Zc (Zm3 [.tmp 32, .tmp 33] _ _ rfl rfl VT.en68 ((Zv2 (i := 1) rfl).trans (.cons _ ((Zv2 (i := 1) rfl).trans (.cons _ (.refl _))))) (strsAAny_c (p := λ _ => false) VT.en69 (λ s hs => by obtain ⟨D2, _, h2⟩ := hget s hs; exact known_c h2)) ?_)
 rintro r Sa ⟨rfl, rfl⟩
 refine Zc (Zk rfl (Za (Zi ?_)))
 refine Zq1 rfl (any_false _) ?_
 refine Zb (Zd (Zc (Zj VT.fa70_3 rfl (Zc (Zu 2 VT.ty68 rfl rfl rfl ?_)))))
 refine Zc (Zx1 [.tmp 37] rfl rfl VT.en70 (strsTwice_c n.names hnn) ?_)
 refine Zc (Zl rfl ?_)
 refine Zj2 (q := 39) rfl (λ hq39 => ?_) (λ hq39 => ?_)
 . exact absurd hq39 (by simp)
 refine Zc (Zj VT.fa70_4 rfl ?_) (Zy0 hq39)
 refine Zc (Zu 2 VT.ty36 rfl rfl rfl ?_) (Zy0 hq39)
 refine Zc (Zx1 [.tmp 41] rfl rfl VT.en71 (intsTwice_c n.words hwn) ?_) (Zy0 hq39)
 refine Zc (Zt1 rfl hq39 rfl ?_)
 refine Zc (Zk rfl (Za (Zi ?_)))
 refine Zq1 rfl (rfl) ?_
 refine Zb (Zd (Zc (Zj VT.fa70_3 rfl (Zc (Zu 2 VT.ty68 rfl rfl rfl ?_)))))
 refine Zc (V_makeFunc [.tmp 3, .tmp 4] rfl rfl ?_)
 refine Zc (Zm3 [.tmp 46, .tmp 47] _ _ rfl rfl VT.en68 ((Zv2 (i := 0) rfl).trans (.cons _ ((Zv2 (i := 1) rfl).trans (.cons _ (.refl _))))) (strsBAny_c (p := λ _ => false) VT.en72 (λ s hs => by obtain ⟨D2, e2, h2⟩ := hget s hs; obtain ⟨s0, hs0⟩ := get_of_lt n.names 0 (by have := List.length_pos_of_mem hs; omega); obtain ⟨D3, e3, h3⟩ := hget s0 (Ya hs0); exact alike_c h2 hs0 h3)) ?_)
 rintro r Sa ⟨rfl, rfl⟩
 refine Zc (Zk rfl (Za (Zi ?_)))
 refine Zq1 rfl (any_false _) ?_
 refine Zi1 (Zb1 (Zi (Zb (Zb (Zd (Zc (Zj VT.fa70_5 rfl (Zc (Zu 1 VT.ty36 rfl rfl rfl ?_)))))))))
 refine Zc (Zd2 (n := n.kids.length) Tryz.underlying36 rfl (by simp) (λ hl51 => ?_))
 refine Zc (Zl rfl (Za (Zi (Zs ?_))))
 refine Zi2 (ι := Nat) (λ i => n.kids.length - i) (λ i => [(2, some (.int k)), (3, some (.ptr g3 0)), (4, some (.ptr g4 0)), (50, some (intsX n.kids)), (51, some (.int n.kids.length)), (52, some (.int i))]) (λ i => [.cells g3 56 [.raw (.map (some gm))], .cells g4 70 [.int n.kind, .int n.row, intsX n.path, strsX n.names, intsX n.words, intsX n.kids], .map gm (kmap kstr tab)]) (λ i => i <= n.kids.length) 0 (Yg _) ⟨rfl, rfl, rfl, rfl, rfl, rfl, trivial⟩ (Dk (Dk (Dk (Zt2 _)))) ?_
 rintro i hi
 change i <= n.kids.length at hi
 refine Zb (Zd (Zc (Zj1 rfl rfl rfl (Za (Zi (Zb ?_))))))
 refine Zn1 rfl (λ h53 => ?_) (λ h53 => ?_)
 .
  obtain ⟨y, hy⟩ := get_of_lt n.kids i h53
  obtain ⟨hy1, hy2⟩ := hdat i y hy
  have hyk := hkid y (Ya hy)
  refine Zi1 (Zi (Zb (Zs (Zb (Zd (Zc (Zl rfl ?_)))))))
  refine Zc (Zz (el := V.int y) VT.sl36 rfl rfl (by omega) (get_int hy) (λ a55 => ?_))
  refine Zc (Zz1 VT.ty3 rfl rfl (Zc (Zk rfl (Zc (Zk rfl (Za (Zi (Zb ?_))))))))
  rcases Bool.eq_false_or_eq_true (((i : Int) == (n.names.length : Int))) with hq62 | hq62
  .
   have hin0 : (i : Int) = n.names.length := by simpa using hq62
   have hin : i = n.names.length := by omega
   rcases Bool.eq_false_or_eq_true ((n.kind == 2)) with hq67 | hq67
   .
    have hk2 : n.kind = 2 := by simpa using hq67
    rcases Bool.eq_false_or_eq_true (decide ((n.names.length : Int) > 0)) with hq73 | hq73
    .
     have hnl : 0 < n.names.length := by have h2 := of_decide_eq_true hq73; omega
     obtain ⟨s0, hs0⟩ := get_of_lt n.names 0 (by omega)
     have hDD := hD (Yc.1 hnl)
     obtain ⟨D2, hD2, hk0⟩ := hget s0 (Ya hs0)
     rw [hDD] at hD2
     injection hD2 with hD2
     subst hD2
     have hlen : ((n.names.length : Int) == (D.cons.length : Int)) = true ↔ (i = n.names.length /\ n.kind = 2 /\ n.names ≠ [] /\ n.names.length = D.cons.length) := by rw [beq_iff_eq]; exact ⟨λ h => ⟨hin, hk2, Yc.1 hnl, by omega⟩, λ h => by omega⟩
     have hyy : (y == -1) = ((n.names.length : Int) == (D.cons.length : Int)) := kidP hy2 hlen
     refine VW_drawR (G := Unit) [([], [8], []), ([], [4], []), ([1], [58], []), ([2, 1], [59], []), (dn 4, [57, 60], []), (dn 5, [61], []), (dn 6, [4, 62], []), (dn 7, [63, 62], []), (dn 8, [64, 62], []), (dn 9, [62, 65], []), (dn 10, [66], []), (dn 11, [4, 67], []), (dn 12, [68, 67], []), (dn 13, [69, 67], []), (dn 14, [70, 67], []), (dn 15, [67, 71], []), (dn 16, [72], []), (dn 17, [4, 73], []), (dn 18, [74, 73], []), (dn 19, [75, 73], []), (dn 17, [3, 73], []), (dn 17, [4, 73], []), ([21, 16, 15, 14, 13, 12, 11, 10, 9, 8, 7, 6, 5, 4, 3, 2, 1, 0], [78, 73], []), ([22, 21, 16, 15, 14, 13, 12, 11, 10, 9, 8, 7, 6, 5, 4, 3, 2, 1, 0], [79, 73], []), ([23, 22, 21, 16, 15, 14, 13, 12, 11, 10, 9, 8, 7, 6, 5, 4, 3, 2, 1, 0], [80, 73], []), ([24, 23, 22, 21, 20, 16, 15, 14, 13, 12, 11, 10, 9, 8, 7, 6, 5, 4, 3, 2, 1, 0], [77, 81, 73], []), ([25, 24, 23, 22, 21, 20, 16, 15, 14, 13, 12, 11, 10, 9, 8, 7, 6, 5, 4, 3, 2, 1, 0], [82, 73], []), ([26, 25, 24, 23, 22, 21, 20, 16, 15, 14, 13, 12, 11, 10, 9, 8, 7, 6, 5, 4, 3, 2, 1, 0], [83, 73], []), ([27, 26, 25, 24, 23, 22, 21, 20, 16, 15, 14, 13, 12, 11, 10, 9, 8, 7, 6, 5, 4, 3, 2, 1, 0], [84, 73], []), ([28, 27, 26, 25, 24, 23, 22, 21, 20, 16, 15, 14, 13, 12, 11, 10, 9, 8, 7, 6, 5, 4, 3, 2, 1, 0], [85, 73], []), (dn 30, [76, 86, 73], []), (dn 31, [73, 87], []), (dn 32, [88], [])] [] (constSt _) [10] [10, 57, 58, 59, 60, 61, 62, 63, 64, 65, 66, 67, 68, 69, 70, 71, 72, 73, 74, 75, 76, 77, 78, 79, 80, 81, 82, 83, 84, 85, 86, 87, 88] rfl VT.mix ?_
     refine ZA (λ γ => Zf (λ _ h8 => Ze (Zn rfl (Zl h8 z0)))) ?_
     refine ZA (λ γ => Zf (λ _ h4 => Ze (Zn rfl (Zj VT.fa70_3 h4 z0)))) ?_
     refine ZA (λ γ => Zw 1 0 rfl (λ _ h58 => Ze (Zn rfl (Zu 1 VT.ty68 h58 rfl rfl z0)))) ?_
     refine ZA (λ γ => Zw 2 0 rfl (λ _ h59 => Ze (Zn rfl (Zd2 (n := n.names.length) Tryz.underlying68 h59 (by simp) (λ hl60 => z0))))) ?_
     refine ZA (λ γ => Zw 0 3 rfl (λ _ h57 => Zw 3 0 rfl (λ _ h60 => Ze (Zn rfl (Zj1 h57 h60 rfl z0))))) ?_
     refine ZA (λ γ => Zw 4 0 rfl (λ _ h61 => Ze (Zn rfl (Zl h61 z0)))) ?_
     refine ZA (λ γ => Zf (λ _ h4 => Zw 5 0 rfl (λ _ h62 => Ze (Zn (Zg rfl rfl h62 hq62) (Zj VT.fa70_0 h4 z0))))) ?_
     refine ZA (λ γ => Zw 6 0 rfl (λ _ h63 => Zw 5 1 rfl (λ _ h62 => Ze (Zn (Zg rfl rfl h62 hq62) (Zu 1 VT.ty3 h63 rfl rfl z0))))) ?_
     refine ZA (λ γ => Zw 7 0 rfl (λ _ h64 => Zw 5 2 rfl (λ _ h62 => Ze (Zn (Zg rfl rfl h62 hq62) (Zj1 h64 rfl rfl z0))))) ?_
     refine ZA (λ γ => Zw 5 3 rfl (λ _ h62 => Zw 8 0 rfl (λ _ h65 => Ze (Zn rfl (Zs1 h62 hq62 h65 z0))))) ?_
     refine ZA (λ γ => Zw 9 0 rfl (λ _ h66 => Ze (Zn rfl (Zl h66 z0)))) ?_
     refine ZA (λ γ => Zf (λ _ h4 => Zw 10 0 rfl (λ _ h67 => Ze (Zn (Zg rfl rfl h67 hq67) (Zj VT.fa70_3 h4 z0))))) ?_
     refine ZA (λ γ => Zw 11 0 rfl (λ _ h68 => Zw 10 1 rfl (λ _ h67 => Ze (Zn (Zg rfl rfl h67 hq67) (Zu 1 VT.ty68 h68 rfl rfl z0))))) ?_
     refine ZA (λ γ => Zw 12 0 rfl (λ _ h69 => Zw 10 2 rfl (λ _ h67 => Ze (Zn (Zg rfl rfl h67 hq67) (Zd2 (n := n.names.length) Tryz.underlying68 h69 (by simp) (λ hl70 => z0)))))) ?_
     refine ZA (λ γ => Zw 13 0 rfl (λ _ h70 => Zw 10 3 rfl (λ _ h67 => Ze (Zn (Zg rfl rfl h67 hq67) (Zj1 h70 rfl rfl z0))))) ?_
     refine ZA (λ γ => Zw 10 4 rfl (λ _ h67 => Zw 14 0 rfl (λ _ h71 => Ze (Zn rfl (Zs1 h67 hq67 h71 z0))))) ?_
     refine ZA (λ γ => Zw 15 0 rfl (λ _ h72 => Ze (Zn rfl (Zl h72 z0)))) ?_
     refine ZA (λ γ => Zf (λ _ h4 => Zw 16 0 rfl (λ _ h73 => Ze (Zn (Zg rfl rfl h73 hq73) (Zj VT.fa70_3 h4 z0))))) ?_
     refine ZA (λ γ => Zw 17 0 rfl (λ _ h74 => Zw 16 1 rfl (λ _ h73 => Ze (Zn (Zg rfl rfl h73 hq73) (Zu 1 VT.ty68 h74 rfl rfl z0))))) ?_
     refine ZA (λ γ => Zw 18 0 rfl (λ _ h75 => Zw 16 2 rfl (λ _ h73 => Ze (Zn (Zg rfl rfl h73 hq73) (Zd2 (n := n.names.length) Tryz.underlying68 h75 (by simp) (λ hl76 => z0)))))) ?_
     refine ZA (λ γ => Zf (λ _ h3 => Zw 16 3 rfl (λ _ h73 => Ze (Zn (Zg rfl rfl h73 hq73) (Zu 0 VT.ty56 h3 rfl rfl z0))))) ?_
     refine ZA (λ γ => Zf (λ _ h4 => Zw 16 4 rfl (λ _ h73 => Ze (Zn (Zg rfl rfl h73 hq73) (Zj VT.fa70_3 h4 z0))))) ?_
     refine ZA (λ γ => Zw 21 0 rfl (λ _ h78 => Zw 16 5 rfl (λ _ h73 => Ze (Zn (Zg rfl rfl h73 hq73) (Zu 1 VT.ty68 h78 rfl rfl z0))))) ?_
     refine Zp (Zb3 _) (Zq (λ γ => Zw 22 0 rfl (λ _ h79 => Zw 16 6 rfl (λ _ h73 => Ze (Zn (Zg rfl rfl h73 hq73) (Zz (el := V.str s0) VT.sl68 h79 rfl (by omega) (get_str hs0) (λ a80 => ⟨⟨_, rfl⟩, rfl⟩))))))) ?_
     refine ZA (λ γ => Zw 23 0 rfl (λ _ h80 => Zw 16 7 rfl (λ _ h73 => Ze (Zc3 h80 (λ a_80 e80 => Zn (Zg rfl rfl h73 hq73) (Zz1 VT.ty9 e80 rfl z0)))))) ?_
     refine ZA (λ γ => Zw 20 4 rfl (λ _ h77 => Zw 24 0 rfl (λ _ h81 => Zw 16 8 rfl (λ _ h73 => Ze (Zn (Zg rfl rfl h73 hq73) (V_lookup1 2 Tryz.underlying56 (key_str Tryz.underlying9) VT.zr96 h77 h81 rfl (hk0) z0)))))) ?_
     refine Zp (Zb3 _) (Zq (λ γ => Zw 25 0 rfl (λ _ h82 => Zw 16 9 rfl (λ _ h73 => Ze (Zn (Zg rfl rfl h73 hq73) (V_nilCheck_ep h82 ⟨⟨_, rfl⟩, rfl⟩)))))) ?_
     refine Zp (Zb3 _) (Zq (λ γ => Zw 26 0 rfl (λ _ h83 => Zw 16 10 rfl (λ _ h73 => Ze (Zc3 h83 (λ a_83 e83 => Zn (Zg rfl rfl h73 hq73) (Zw1 VT.fa92_2 e83 rfl ⟨⟨_, rfl⟩, rfl⟩))))))) ?_
     refine ZA (λ γ => Zw 27 0 rfl (λ _ h84 => Zw 16 11 rfl (λ _ h73 => Ze (Zc3 h84 (λ a_84 e84 => Zn (Zg rfl rfl h73 hq73) (Zz1 VT.ty90 e84 rfl z0)))))) ?_
     refine ZA (λ γ => Zw 28 0 rfl (λ _ h85 => Zw 16 12 rfl (λ _ h73 => Ze (Zn (Zg rfl rfl h73 hq73) (Zd2 (n := D.cons.length) Tryz.underlying90 h85 (by simp) (λ hl86 => z0)))))) ?_
     refine ZA (λ γ => Zw 19 10 rfl (λ _ h76 => Zw 29 0 rfl (λ _ h86 => Zw 16 13 rfl (λ _ h73 => Ze (Zn (Zg rfl rfl h73 hq73) (Zj1 h76 h86 rfl z0)))))) ?_
     refine ZA (λ γ => Zw 16 14 rfl (λ _ h73 => Zw 30 0 rfl (λ _ h87 => Ze (Zn rfl (Zs1 h73 hq73 h87 z0))))) ?_
     refine ZA (λ γ => Zw 31 0 rfl (λ _ h88 => Ze (Zn rfl (Zk h88 z0)))) ?_
     refine DrawP_nil (λ γ => Zw 32 0 rfl (λ r10 h10 => Ze ?_))
     have e10 : r10 = some _ := h10
     subst e10
     clear h10
     refine Zi (Zb (Zd (Zc (Zl rfl (Zc (Zl rfl (Zc (Zj1 rfl rfl rfl ?_))))))))
     refine Zc (V_boolne Tryz.underlying4 rfl rfl ?_)
     refine Zc (Zl rfl ?_)
     refine Zj2 (q := 93) rfl (λ hq93 => ?_) (λ hq93 => ?_)
     . exact absurd hq93 (by rw [hyy]; simp)
     refine Zc (Zl rfl ?_) (Zy0 hq93)
     refine Zc (Zj1 rfl rfl rfl ?_) (Zy0 hq93)
     refine Zc (Zt1 rfl hq93 rfl ?_)
     refine Zc (Zl rfl ?_)
     refine Zj2 (q := 97) rfl (λ hq97 => ?_) (λ hq97 => ?_)
     . exact absurd (of_decide_eq_true hq97) (by omega)
     refine Zc (Zl rfl ?_) (Zy0 hq97)
     refine Zc (Zl rfl ?_) (Zy0 hq97)
     refine Zc (Zj1 rfl rfl rfl ?_) (Zy0 hq97)
     refine Zc (Zt1 rfl hq97 rfl ?_)
     refine Za (Zi ?_)
     refine Zn1 rfl (λ h101 => ?_) (λ h101 => ?_)
     . omega
     refine Zi1 (Zb1 (Zi (Zd ?_)))
     refine Zc (Zh2 rfl rfl (by omega) ?_)
     refine Zc (Zl rfl (Za (Zi ?_)))
     exact ⟨i + 1, (by (try simp only []); omega), (by omega), ⟨rfl, rfl, rfl, rfl, rfl, rfl, trivial⟩, (Dk (Dk (Dk (Zt2 _))))⟩
    have hyy : (y == -1) = false := kidP hy2 ⟨λ h => (by cases h), λ h => by have h1 := Yc.2 h.2.2.1; have h2 := of_decide_eq_false hq73; omega⟩
    refine VW_drawR (G := Unit) [([], [8], []), ([], [4], []), ([1], [58], []), ([2, 1], [59], []), (dn 4, [57, 60], []), (dn 5, [61], []), (dn 6, [4, 62], []), (dn 7, [63, 62], []), (dn 8, [64, 62], []), (dn 9, [62, 65], []), (dn 10, [66], []), (dn 11, [4, 67], []), (dn 12, [68, 67], []), (dn 13, [69, 67], []), (dn 14, [70, 67], []), (dn 15, [67, 71], []), (dn 16, [72], []), (dn 17, [4, 73], []), (dn 18, [74, 73], []), (dn 19, [75, 73], []), (dn 17, [3, 73], []), (dn 17, [4, 73], []), ([21, 16, 15, 14, 13, 12, 11, 10, 9, 8, 7, 6, 5, 4, 3, 2, 1, 0], [78, 73], []), ([22, 21, 16, 15, 14, 13, 12, 11, 10, 9, 8, 7, 6, 5, 4, 3, 2, 1, 0], [79, 73], []), ([23, 22, 21, 16, 15, 14, 13, 12, 11, 10, 9, 8, 7, 6, 5, 4, 3, 2, 1, 0], [80, 73], []), ([24, 23, 22, 21, 20, 16, 15, 14, 13, 12, 11, 10, 9, 8, 7, 6, 5, 4, 3, 2, 1, 0], [77, 81, 73], []), ([25, 24, 23, 22, 21, 20, 16, 15, 14, 13, 12, 11, 10, 9, 8, 7, 6, 5, 4, 3, 2, 1, 0], [82, 73], []), ([26, 25, 24, 23, 22, 21, 20, 16, 15, 14, 13, 12, 11, 10, 9, 8, 7, 6, 5, 4, 3, 2, 1, 0], [83, 73], []), ([27, 26, 25, 24, 23, 22, 21, 20, 16, 15, 14, 13, 12, 11, 10, 9, 8, 7, 6, 5, 4, 3, 2, 1, 0], [84, 73], []), ([28, 27, 26, 25, 24, 23, 22, 21, 20, 16, 15, 14, 13, 12, 11, 10, 9, 8, 7, 6, 5, 4, 3, 2, 1, 0], [85, 73], []), (dn 30, [76, 86, 73], []), (dn 31, [73, 87], []), (dn 32, [88], [])] [] (constSt _) [10] [10, 57, 58, 59, 60, 61, 62, 63, 64, 65, 66, 67, 68, 69, 70, 71, 72, 73, 74, 75, 76, 77, 78, 79, 80, 81, 82, 83, 84, 85, 86, 87, 88] rfl VT.mix ?_
    refine ZA (λ γ => Zf (λ _ h8 => Ze (Zn rfl (Zl h8 z0)))) ?_
    refine ZA (λ γ => Zf (λ _ h4 => Ze (Zn rfl (Zj VT.fa70_3 h4 z0)))) ?_
    refine ZA (λ γ => Zw 1 0 rfl (λ _ h58 => Ze (Zn rfl (Zu 1 VT.ty68 h58 rfl rfl z0)))) ?_
    refine ZA (λ γ => Zw 2 0 rfl (λ _ h59 => Ze (Zn rfl (Zd2 (n := n.names.length) Tryz.underlying68 h59 (by simp) (λ hl60 => z0))))) ?_
    refine ZA (λ γ => Zw 0 3 rfl (λ _ h57 => Zw 3 0 rfl (λ _ h60 => Ze (Zn rfl (Zj1 h57 h60 rfl z0))))) ?_
    refine ZA (λ γ => Zw 4 0 rfl (λ _ h61 => Ze (Zn rfl (Zl h61 z0)))) ?_
    refine ZA (λ γ => Zf (λ _ h4 => Zw 5 0 rfl (λ _ h62 => Ze (Zn (Zg rfl rfl h62 hq62) (Zj VT.fa70_0 h4 z0))))) ?_
    refine ZA (λ γ => Zw 6 0 rfl (λ _ h63 => Zw 5 1 rfl (λ _ h62 => Ze (Zn (Zg rfl rfl h62 hq62) (Zu 1 VT.ty3 h63 rfl rfl z0))))) ?_
    refine ZA (λ γ => Zw 7 0 rfl (λ _ h64 => Zw 5 2 rfl (λ _ h62 => Ze (Zn (Zg rfl rfl h62 hq62) (Zj1 h64 rfl rfl z0))))) ?_
    refine ZA (λ γ => Zw 5 3 rfl (λ _ h62 => Zw 8 0 rfl (λ _ h65 => Ze (Zn rfl (Zs1 h62 hq62 h65 z0))))) ?_
    refine ZA (λ γ => Zw 9 0 rfl (λ _ h66 => Ze (Zn rfl (Zl h66 z0)))) ?_
    refine ZA (λ γ => Zf (λ _ h4 => Zw 10 0 rfl (λ _ h67 => Ze (Zn (Zg rfl rfl h67 hq67) (Zj VT.fa70_3 h4 z0))))) ?_
    refine ZA (λ γ => Zw 11 0 rfl (λ _ h68 => Zw 10 1 rfl (λ _ h67 => Ze (Zn (Zg rfl rfl h67 hq67) (Zu 1 VT.ty68 h68 rfl rfl z0))))) ?_
    refine ZA (λ γ => Zw 12 0 rfl (λ _ h69 => Zw 10 2 rfl (λ _ h67 => Ze (Zn (Zg rfl rfl h67 hq67) (Zd2 (n := n.names.length) Tryz.underlying68 h69 (by simp) (λ hl70 => z0)))))) ?_
    refine ZA (λ γ => Zw 13 0 rfl (λ _ h70 => Zw 10 3 rfl (λ _ h67 => Ze (Zn (Zg rfl rfl h67 hq67) (Zj1 h70 rfl rfl z0))))) ?_
    refine ZA (λ γ => Zw 10 4 rfl (λ _ h67 => Zw 14 0 rfl (λ _ h71 => Ze (Zn rfl (Zs1 h67 hq67 h71 z0))))) ?_
    refine ZA (λ γ => Zw 15 0 rfl (λ _ h72 => Ze (Zn rfl (Zl h72 z0)))) ?_
    refine ZA (λ γ => Zf (λ _ h4 => Zw 16 0 rfl (λ _ h73 => Ze (Zy2 (Zr rfl rfl h73 hq73) z0)))) ?_
    refine ZA (λ γ => Zw 17 0 rfl (λ _ h74 => Zw 16 1 rfl (λ _ h73 => Ze (Zy2 (Zr rfl rfl h73 hq73) z0)))) ?_
    refine ZA (λ γ => Zw 18 0 rfl (λ _ h75 => Zw 16 2 rfl (λ _ h73 => Ze (Zy2 (Zr rfl rfl h73 hq73) z0)))) ?_
    refine ZA (λ γ => Zf (λ _ h3 => Zw 16 3 rfl (λ _ h73 => Ze (Zy2 (Zr rfl rfl h73 hq73) z0)))) ?_
    refine ZA (λ γ => Zf (λ _ h4 => Zw 16 4 rfl (λ _ h73 => Ze (Zy2 (Zr rfl rfl h73 hq73) z0)))) ?_
    refine ZA (λ γ => Zw 21 0 rfl (λ _ h78 => Zw 16 5 rfl (λ _ h73 => Ze (Zy2 (Zr rfl rfl h73 hq73) z0)))) ?_
    refine ZA (λ γ => Zw 22 0 rfl (λ _ h79 => Zw 16 6 rfl (λ _ h73 => Ze (Zy2 (Zr rfl rfl h73 hq73) z0)))) ?_
    refine ZA (λ γ => Zw 23 0 rfl (λ _ h80 => Zw 16 7 rfl (λ _ h73 => Ze (Zy2 (Zr rfl rfl h73 hq73) z0)))) ?_
    refine ZA (λ γ => Zw 20 4 rfl (λ _ h77 => Zw 24 0 rfl (λ _ h81 => Zw 16 8 rfl (λ _ h73 => Ze (Zy2 (Zr rfl rfl h73 hq73) z0))))) ?_
    refine ZA (λ γ => Zw 25 0 rfl (λ _ h82 => Zw 16 9 rfl (λ _ h73 => Ze (Zy2 (Zr rfl rfl h73 hq73) z0)))) ?_
    refine ZA (λ γ => Zw 26 0 rfl (λ _ h83 => Zw 16 10 rfl (λ _ h73 => Ze (Zy2 (Zr rfl rfl h73 hq73) z0)))) ?_
    refine ZA (λ γ => Zw 27 0 rfl (λ _ h84 => Zw 16 11 rfl (λ _ h73 => Ze (Zy2 (Zr rfl rfl h73 hq73) z0)))) ?_
    refine ZA (λ γ => Zw 28 0 rfl (λ _ h85 => Zw 16 12 rfl (λ _ h73 => Ze (Zy2 (Zr rfl rfl h73 hq73) z0)))) ?_
    refine ZA (λ γ => Zw 19 10 rfl (λ _ h76 => Zw 29 0 rfl (λ _ h86 => Zw 16 13 rfl (λ _ h73 => Ze (Zy2 (Zr rfl rfl h73 hq73) z0))))) ?_
    refine ZA (λ γ => Zw 16 14 rfl (λ _ h73 => Zw 30 0 rfl (λ _ h87 => Ze (Zn rfl (Zt1 h73 hq73 rfl z0))))) ?_
    refine ZA (λ γ => Zw 31 0 rfl (λ _ h88 => Ze (Zn rfl (Zk h88 z0)))) ?_
    refine DrawP_nil (λ γ => Zw 32 0 rfl (λ r10 h10 => Ze ?_))
    have e10 : r10 = some _ := h10
    subst e10
    clear h10
    refine Zi (Zb (Zd (Zc (Zl rfl (Zc (Zl rfl (Zc (Zj1 rfl rfl rfl ?_))))))))
    refine Zc (V_boolne Tryz.underlying4 rfl rfl ?_)
    refine Zc (Zl rfl ?_)
    refine Zj2 (q := 93) rfl (λ hq93 => ?_) (λ hq93 => ?_)
    . exact absurd hq93 (by rw [hyy]; simp)
    refine Zc (Zl rfl ?_) (Zy0 hq93)
    refine Zc (Zj1 rfl rfl rfl ?_) (Zy0 hq93)
    refine Zc (Zt1 rfl hq93 rfl ?_)
    refine Zc (Zl rfl ?_)
    refine Zj2 (q := 97) rfl (λ hq97 => ?_) (λ hq97 => ?_)
    . exact absurd (of_decide_eq_true hq97) (by omega)
    refine Zc (Zl rfl ?_) (Zy0 hq97)
    refine Zc (Zl rfl ?_) (Zy0 hq97)
    refine Zc (Zj1 rfl rfl rfl ?_) (Zy0 hq97)
    refine Zc (Zt1 rfl hq97 rfl ?_)
    refine Za (Zi ?_)
    refine Zn1 rfl (λ h101 => ?_) (λ h101 => ?_)
    . omega
    refine Zi1 (Zb1 (Zi (Zd ?_)))
    refine Zc (Zh2 rfl rfl (by omega) ?_)
    refine Zc (Zl rfl (Za (Zi ?_)))
    exact ⟨i + 1, (by (try simp only []); omega), (by omega), ⟨rfl, rfl, rfl, rfl, rfl, rfl, trivial⟩, (Dk (Dk (Dk (Zt2 _))))⟩
   have hyy : (y == -1) = false := kidP hy2 ⟨λ h => (by cases h), λ h => by rw [h.2.1] at hq67; simp at hq67⟩
   refine VW_drawR (G := Unit) [([], [8], []), ([], [4], []), ([1], [58], []), ([2, 1], [59], []), (dn 4, [57, 60], []), (dn 5, [61], []), (dn 6, [4, 62], []), (dn 7, [63, 62], []), (dn 8, [64, 62], []), (dn 9, [62, 65], []), (dn 10, [66], []), (dn 11, [4, 67], []), (dn 12, [68, 67], []), (dn 13, [69, 67], []), (dn 14, [70, 67], []), (dn 15, [67, 71], []), (dn 16, [72], []), (dn 17, [4, 73], []), (dn 18, [74, 73], []), (dn 19, [75, 73], []), (dn 17, [3, 73], []), (dn 17, [4, 73], []), ([21, 16, 15, 14, 13, 12, 11, 10, 9, 8, 7, 6, 5, 4, 3, 2, 1, 0], [78, 73], []), ([22, 21, 16, 15, 14, 13, 12, 11, 10, 9, 8, 7, 6, 5, 4, 3, 2, 1, 0], [79, 73], []), ([23, 22, 21, 16, 15, 14, 13, 12, 11, 10, 9, 8, 7, 6, 5, 4, 3, 2, 1, 0], [80, 73], []), ([24, 23, 22, 21, 20, 16, 15, 14, 13, 12, 11, 10, 9, 8, 7, 6, 5, 4, 3, 2, 1, 0], [77, 81, 73], []), ([25, 24, 23, 22, 21, 20, 16, 15, 14, 13, 12, 11, 10, 9, 8, 7, 6, 5, 4, 3, 2, 1, 0], [82, 73], []), ([26, 25, 24, 23, 22, 21, 20, 16, 15, 14, 13, 12, 11, 10, 9, 8, 7, 6, 5, 4, 3, 2, 1, 0], [83, 73], []), ([27, 26, 25, 24, 23, 22, 21, 20, 16, 15, 14, 13, 12, 11, 10, 9, 8, 7, 6, 5, 4, 3, 2, 1, 0], [84, 73], []), ([28, 27, 26, 25, 24, 23, 22, 21, 20, 16, 15, 14, 13, 12, 11, 10, 9, 8, 7, 6, 5, 4, 3, 2, 1, 0], [85, 73], []), (dn 30, [76, 86, 73], []), (dn 31, [73, 87], []), (dn 32, [88], [])] [] (constSt _) [10] [10, 57, 58, 59, 60, 61, 62, 63, 64, 65, 66, 67, 68, 69, 70, 71, 72, 73, 74, 75, 76, 77, 78, 79, 80, 81, 82, 83, 84, 85, 86, 87, 88] rfl VT.mix ?_
   refine ZA (λ γ => Zf (λ _ h8 => Ze (Zn rfl (Zl h8 z0)))) ?_
   refine ZA (λ γ => Zf (λ _ h4 => Ze (Zn rfl (Zj VT.fa70_3 h4 z0)))) ?_
   refine ZA (λ γ => Zw 1 0 rfl (λ _ h58 => Ze (Zn rfl (Zu 1 VT.ty68 h58 rfl rfl z0)))) ?_
   refine ZA (λ γ => Zw 2 0 rfl (λ _ h59 => Ze (Zn rfl (Zd2 (n := n.names.length) Tryz.underlying68 h59 (by simp) (λ hl60 => z0))))) ?_
   refine ZA (λ γ => Zw 0 3 rfl (λ _ h57 => Zw 3 0 rfl (λ _ h60 => Ze (Zn rfl (Zj1 h57 h60 rfl z0))))) ?_
   refine ZA (λ γ => Zw 4 0 rfl (λ _ h61 => Ze (Zn rfl (Zl h61 z0)))) ?_
   refine ZA (λ γ => Zf (λ _ h4 => Zw 5 0 rfl (λ _ h62 => Ze (Zn (Zg rfl rfl h62 hq62) (Zj VT.fa70_0 h4 z0))))) ?_
   refine ZA (λ γ => Zw 6 0 rfl (λ _ h63 => Zw 5 1 rfl (λ _ h62 => Ze (Zn (Zg rfl rfl h62 hq62) (Zu 1 VT.ty3 h63 rfl rfl z0))))) ?_
   refine ZA (λ γ => Zw 7 0 rfl (λ _ h64 => Zw 5 2 rfl (λ _ h62 => Ze (Zn (Zg rfl rfl h62 hq62) (Zj1 h64 rfl rfl z0))))) ?_
   refine ZA (λ γ => Zw 5 3 rfl (λ _ h62 => Zw 8 0 rfl (λ _ h65 => Ze (Zn rfl (Zs1 h62 hq62 h65 z0))))) ?_
   refine ZA (λ γ => Zw 9 0 rfl (λ _ h66 => Ze (Zn rfl (Zl h66 z0)))) ?_
   refine ZA (λ γ => Zf (λ _ h4 => Zw 10 0 rfl (λ _ h67 => Ze (Zy2 (Zr rfl rfl h67 hq67) z0)))) ?_
   refine ZA (λ γ => Zw 11 0 rfl (λ _ h68 => Zw 10 1 rfl (λ _ h67 => Ze (Zy2 (Zr rfl rfl h67 hq67) z0)))) ?_
   refine ZA (λ γ => Zw 12 0 rfl (λ _ h69 => Zw 10 2 rfl (λ _ h67 => Ze (Zy2 (Zr rfl rfl h67 hq67) z0)))) ?_
   refine ZA (λ γ => Zw 13 0 rfl (λ _ h70 => Zw 10 3 rfl (λ _ h67 => Ze (Zy2 (Zr rfl rfl h67 hq67) z0)))) ?_
   refine ZA (λ γ => Zw 10 4 rfl (λ _ h67 => Zw 14 0 rfl (λ _ h71 => Ze (Zn rfl (Zt1 h67 hq67 rfl z0))))) ?_
   refine ZA (λ γ => Zw 15 0 rfl (λ _ h72 => Ze (Zn rfl (Zl h72 z0)))) ?_
   refine ZA (λ γ => Zf (λ _ h4 => Zw 16 0 rfl (λ _ h73 => Ze (Zy2 (Zr rfl rfl h73 rfl) z0)))) ?_
   refine ZA (λ γ => Zw 17 0 rfl (λ _ h74 => Zw 16 1 rfl (λ _ h73 => Ze (Zy2 (Zr rfl rfl h73 rfl) z0)))) ?_
   refine ZA (λ γ => Zw 18 0 rfl (λ _ h75 => Zw 16 2 rfl (λ _ h73 => Ze (Zy2 (Zr rfl rfl h73 rfl) z0)))) ?_
   refine ZA (λ γ => Zf (λ _ h3 => Zw 16 3 rfl (λ _ h73 => Ze (Zy2 (Zr rfl rfl h73 rfl) z0)))) ?_
   refine ZA (λ γ => Zf (λ _ h4 => Zw 16 4 rfl (λ _ h73 => Ze (Zy2 (Zr rfl rfl h73 rfl) z0)))) ?_
   refine ZA (λ γ => Zw 21 0 rfl (λ _ h78 => Zw 16 5 rfl (λ _ h73 => Ze (Zy2 (Zr rfl rfl h73 rfl) z0)))) ?_
   refine ZA (λ γ => Zw 22 0 rfl (λ _ h79 => Zw 16 6 rfl (λ _ h73 => Ze (Zy2 (Zr rfl rfl h73 rfl) z0)))) ?_
   refine ZA (λ γ => Zw 23 0 rfl (λ _ h80 => Zw 16 7 rfl (λ _ h73 => Ze (Zy2 (Zr rfl rfl h73 rfl) z0)))) ?_
   refine ZA (λ γ => Zw 20 4 rfl (λ _ h77 => Zw 24 0 rfl (λ _ h81 => Zw 16 8 rfl (λ _ h73 => Ze (Zy2 (Zr rfl rfl h73 rfl) z0))))) ?_
   refine ZA (λ γ => Zw 25 0 rfl (λ _ h82 => Zw 16 9 rfl (λ _ h73 => Ze (Zy2 (Zr rfl rfl h73 rfl) z0)))) ?_
   refine ZA (λ γ => Zw 26 0 rfl (λ _ h83 => Zw 16 10 rfl (λ _ h73 => Ze (Zy2 (Zr rfl rfl h73 rfl) z0)))) ?_
   refine ZA (λ γ => Zw 27 0 rfl (λ _ h84 => Zw 16 11 rfl (λ _ h73 => Ze (Zy2 (Zr rfl rfl h73 rfl) z0)))) ?_
   refine ZA (λ γ => Zw 28 0 rfl (λ _ h85 => Zw 16 12 rfl (λ _ h73 => Ze (Zy2 (Zr rfl rfl h73 rfl) z0)))) ?_
   refine ZA (λ γ => Zw 19 10 rfl (λ _ h76 => Zw 29 0 rfl (λ _ h86 => Zw 16 13 rfl (λ _ h73 => Ze (Zy2 (Zr rfl rfl h73 rfl) z0))))) ?_
   refine ZA (λ γ => Zw 16 14 rfl (λ _ h73 => Zw 30 0 rfl (λ _ h87 => Ze (Zn rfl (Zt1 h73 rfl rfl z0))))) ?_
   refine ZA (λ γ => Zw 31 0 rfl (λ _ h88 => Ze (Zn rfl (Zk h88 z0)))) ?_
   refine DrawP_nil (λ γ => Zw 32 0 rfl (λ r10 h10 => Ze ?_))
   have e10 : r10 = some _ := h10
   subst e10
   clear h10
   refine Zi (Zb (Zd (Zc (Zl rfl (Zc (Zl rfl (Zc (Zj1 rfl rfl rfl ?_))))))))
   refine Zc (V_boolne Tryz.underlying4 rfl rfl ?_)
   refine Zc (Zl rfl ?_)
   refine Zj2 (q := 93) rfl (λ hq93 => ?_) (λ hq93 => ?_)
   . exact absurd hq93 (by rw [hyy]; simp)
   refine Zc (Zl rfl ?_) (Zy0 hq93)
   refine Zc (Zj1 rfl rfl rfl ?_) (Zy0 hq93)
   refine Zc (Zt1 rfl hq93 rfl ?_)
   refine Zc (Zl rfl ?_)
   refine Zj2 (q := 97) rfl (λ hq97 => ?_) (λ hq97 => ?_)
   . exact absurd (of_decide_eq_true hq97) (by omega)
   refine Zc (Zl rfl ?_) (Zy0 hq97)
   refine Zc (Zl rfl ?_) (Zy0 hq97)
   refine Zc (Zj1 rfl rfl rfl ?_) (Zy0 hq97)
   refine Zc (Zt1 rfl hq97 rfl ?_)
   refine Za (Zi ?_)
   refine Zn1 rfl (λ h101 => ?_) (λ h101 => ?_)
   . omega
   refine Zi1 (Zb1 (Zi (Zd ?_)))
   refine Zc (Zh2 rfl rfl (by omega) ?_)
   refine Zc (Zl rfl (Za (Zi ?_)))
   exact ⟨i + 1, (by (try simp only []); omega), (by omega), ⟨rfl, rfl, rfl, rfl, rfl, rfl, trivial⟩, (Dk (Dk (Dk (Zt2 _))))⟩
  have hyy : (y == -1) = false := kidP hy2 ⟨λ h => (by cases h), λ h => by rw [h.1] at hq62; simp at hq62⟩
  refine VW_drawR (G := Unit) [([], [8], []), ([], [4], []), ([1], [58], []), ([2, 1], [59], []), (dn 4, [57, 60], []), (dn 5, [61], []), (dn 6, [4, 62], []), (dn 7, [63, 62], []), (dn 8, [64, 62], []), (dn 9, [62, 65], []), (dn 10, [66], []), (dn 11, [4, 67], []), (dn 12, [68, 67], []), (dn 13, [69, 67], []), (dn 14, [70, 67], []), (dn 15, [67, 71], []), (dn 16, [72], []), (dn 17, [4, 73], []), (dn 18, [74, 73], []), (dn 19, [75, 73], []), (dn 17, [3, 73], []), (dn 17, [4, 73], []), ([21, 16, 15, 14, 13, 12, 11, 10, 9, 8, 7, 6, 5, 4, 3, 2, 1, 0], [78, 73], []), ([22, 21, 16, 15, 14, 13, 12, 11, 10, 9, 8, 7, 6, 5, 4, 3, 2, 1, 0], [79, 73], []), ([23, 22, 21, 16, 15, 14, 13, 12, 11, 10, 9, 8, 7, 6, 5, 4, 3, 2, 1, 0], [80, 73], []), ([24, 23, 22, 21, 20, 16, 15, 14, 13, 12, 11, 10, 9, 8, 7, 6, 5, 4, 3, 2, 1, 0], [77, 81, 73], []), ([25, 24, 23, 22, 21, 20, 16, 15, 14, 13, 12, 11, 10, 9, 8, 7, 6, 5, 4, 3, 2, 1, 0], [82, 73], []), ([26, 25, 24, 23, 22, 21, 20, 16, 15, 14, 13, 12, 11, 10, 9, 8, 7, 6, 5, 4, 3, 2, 1, 0], [83, 73], []), ([27, 26, 25, 24, 23, 22, 21, 20, 16, 15, 14, 13, 12, 11, 10, 9, 8, 7, 6, 5, 4, 3, 2, 1, 0], [84, 73], []), ([28, 27, 26, 25, 24, 23, 22, 21, 20, 16, 15, 14, 13, 12, 11, 10, 9, 8, 7, 6, 5, 4, 3, 2, 1, 0], [85, 73], []), (dn 30, [76, 86, 73], []), (dn 31, [73, 87], []), (dn 32, [88], [])] [] (constSt _) [10] [10, 57, 58, 59, 60, 61, 62, 63, 64, 65, 66, 67, 68, 69, 70, 71, 72, 73, 74, 75, 76, 77, 78, 79, 80, 81, 82, 83, 84, 85, 86, 87, 88] rfl VT.mix ?_
  refine ZA (λ γ => Zf (λ _ h8 => Ze (Zn rfl (Zl h8 z0)))) ?_
  refine ZA (λ γ => Zf (λ _ h4 => Ze (Zn rfl (Zj VT.fa70_3 h4 z0)))) ?_
  refine ZA (λ γ => Zw 1 0 rfl (λ _ h58 => Ze (Zn rfl (Zu 1 VT.ty68 h58 rfl rfl z0)))) ?_
  refine ZA (λ γ => Zw 2 0 rfl (λ _ h59 => Ze (Zn rfl (Zd2 (n := n.names.length) Tryz.underlying68 h59 (by simp) (λ hl60 => z0))))) ?_
  refine ZA (λ γ => Zw 0 3 rfl (λ _ h57 => Zw 3 0 rfl (λ _ h60 => Ze (Zn rfl (Zj1 h57 h60 rfl z0))))) ?_
  refine ZA (λ γ => Zw 4 0 rfl (λ _ h61 => Ze (Zn rfl (Zl h61 z0)))) ?_
  refine ZA (λ γ => Zf (λ _ h4 => Zw 5 0 rfl (λ _ h62 => Ze (Zy2 (Zr rfl rfl h62 hq62) z0)))) ?_
  refine ZA (λ γ => Zw 6 0 rfl (λ _ h63 => Zw 5 1 rfl (λ _ h62 => Ze (Zy2 (Zr rfl rfl h62 hq62) z0)))) ?_
  refine ZA (λ γ => Zw 7 0 rfl (λ _ h64 => Zw 5 2 rfl (λ _ h62 => Ze (Zy2 (Zr rfl rfl h62 hq62) z0)))) ?_
  refine ZA (λ γ => Zw 5 3 rfl (λ _ h62 => Zw 8 0 rfl (λ _ h65 => Ze (Zn rfl (Zt1 h62 hq62 rfl z0))))) ?_
  refine ZA (λ γ => Zw 9 0 rfl (λ _ h66 => Ze (Zn rfl (Zl h66 z0)))) ?_
  refine ZA (λ γ => Zf (λ _ h4 => Zw 10 0 rfl (λ _ h67 => Ze (Zy2 (Zr rfl rfl h67 rfl) z0)))) ?_
  refine ZA (λ γ => Zw 11 0 rfl (λ _ h68 => Zw 10 1 rfl (λ _ h67 => Ze (Zy2 (Zr rfl rfl h67 rfl) z0)))) ?_
  refine ZA (λ γ => Zw 12 0 rfl (λ _ h69 => Zw 10 2 rfl (λ _ h67 => Ze (Zy2 (Zr rfl rfl h67 rfl) z0)))) ?_
  refine ZA (λ γ => Zw 13 0 rfl (λ _ h70 => Zw 10 3 rfl (λ _ h67 => Ze (Zy2 (Zr rfl rfl h67 rfl) z0)))) ?_
  refine ZA (λ γ => Zw 10 4 rfl (λ _ h67 => Zw 14 0 rfl (λ _ h71 => Ze (Zn rfl (Zt1 h67 rfl rfl z0))))) ?_
  refine ZA (λ γ => Zw 15 0 rfl (λ _ h72 => Ze (Zn rfl (Zl h72 z0)))) ?_
  refine ZA (λ γ => Zf (λ _ h4 => Zw 16 0 rfl (λ _ h73 => Ze (Zy2 (Zr rfl rfl h73 rfl) z0)))) ?_
  refine ZA (λ γ => Zw 17 0 rfl (λ _ h74 => Zw 16 1 rfl (λ _ h73 => Ze (Zy2 (Zr rfl rfl h73 rfl) z0)))) ?_
  refine ZA (λ γ => Zw 18 0 rfl (λ _ h75 => Zw 16 2 rfl (λ _ h73 => Ze (Zy2 (Zr rfl rfl h73 rfl) z0)))) ?_
  refine ZA (λ γ => Zf (λ _ h3 => Zw 16 3 rfl (λ _ h73 => Ze (Zy2 (Zr rfl rfl h73 rfl) z0)))) ?_
  refine ZA (λ γ => Zf (λ _ h4 => Zw 16 4 rfl (λ _ h73 => Ze (Zy2 (Zr rfl rfl h73 rfl) z0)))) ?_
  refine ZA (λ γ => Zw 21 0 rfl (λ _ h78 => Zw 16 5 rfl (λ _ h73 => Ze (Zy2 (Zr rfl rfl h73 rfl) z0)))) ?_
  refine ZA (λ γ => Zw 22 0 rfl (λ _ h79 => Zw 16 6 rfl (λ _ h73 => Ze (Zy2 (Zr rfl rfl h73 rfl) z0)))) ?_
  refine ZA (λ γ => Zw 23 0 rfl (λ _ h80 => Zw 16 7 rfl (λ _ h73 => Ze (Zy2 (Zr rfl rfl h73 rfl) z0)))) ?_
  refine ZA (λ γ => Zw 20 4 rfl (λ _ h77 => Zw 24 0 rfl (λ _ h81 => Zw 16 8 rfl (λ _ h73 => Ze (Zy2 (Zr rfl rfl h73 rfl) z0))))) ?_
  refine ZA (λ γ => Zw 25 0 rfl (λ _ h82 => Zw 16 9 rfl (λ _ h73 => Ze (Zy2 (Zr rfl rfl h73 rfl) z0)))) ?_
  refine ZA (λ γ => Zw 26 0 rfl (λ _ h83 => Zw 16 10 rfl (λ _ h73 => Ze (Zy2 (Zr rfl rfl h73 rfl) z0)))) ?_
  refine ZA (λ γ => Zw 27 0 rfl (λ _ h84 => Zw 16 11 rfl (λ _ h73 => Ze (Zy2 (Zr rfl rfl h73 rfl) z0)))) ?_
  refine ZA (λ γ => Zw 28 0 rfl (λ _ h85 => Zw 16 12 rfl (λ _ h73 => Ze (Zy2 (Zr rfl rfl h73 rfl) z0)))) ?_
  refine ZA (λ γ => Zw 19 10 rfl (λ _ h76 => Zw 29 0 rfl (λ _ h86 => Zw 16 13 rfl (λ _ h73 => Ze (Zy2 (Zr rfl rfl h73 rfl) z0))))) ?_
  refine ZA (λ γ => Zw 16 14 rfl (λ _ h73 => Zw 30 0 rfl (λ _ h87 => Ze (Zn rfl (Zt1 h73 rfl rfl z0))))) ?_
  refine ZA (λ γ => Zw 31 0 rfl (λ _ h88 => Ze (Zn rfl (Zk h88 z0)))) ?_
  refine DrawP_nil (λ γ => Zw 32 0 rfl (λ r10 h10 => Ze ?_))
  have e10 : r10 = some _ := h10
  subst e10
  clear h10
  refine Zi (Zb (Zd (Zc (Zl rfl (Zc (Zl rfl (Zc (Zj1 rfl rfl rfl ?_))))))))
  refine Zc (V_boolne Tryz.underlying4 rfl rfl ?_)
  refine Zc (Zl rfl ?_)
  refine Zj2 (q := 93) rfl (λ hq93 => ?_) (λ hq93 => ?_)
  . exact absurd hq93 (by rw [hyy]; simp)
  refine Zc (Zl rfl ?_) (Zy0 hq93)
  refine Zc (Zj1 rfl rfl rfl ?_) (Zy0 hq93)
  refine Zc (Zt1 rfl hq93 rfl ?_)
  refine Zc (Zl rfl ?_)
  refine Zj2 (q := 97) rfl (λ hq97 => ?_) (λ hq97 => ?_)
  . exact absurd (of_decide_eq_true hq97) (by omega)
  refine Zc (Zl rfl ?_) (Zy0 hq97)
  refine Zc (Zl rfl ?_) (Zy0 hq97)
  refine Zc (Zj1 rfl rfl rfl ?_) (Zy0 hq97)
  refine Zc (Zt1 rfl hq97 rfl ?_)
  refine Za (Zi ?_)
  refine Zn1 rfl (λ h101 => ?_) (λ h101 => ?_)
  . omega
  refine Zi1 (Zb1 (Zi (Zd ?_)))
  refine Zc (Zh2 rfl rfl (by omega) ?_)
  refine Zc (Zl rfl (Za (Zi ?_)))
  exact ⟨i + 1, (by (try simp only []); omega), (by omega), ⟨rfl, rfl, rfl, rfl, rfl, rfl, trivial⟩, (Dk (Dk (Dk (Zt2 _))))⟩
 refine Zt (Ze1 (Ze1 (Zc1 (Zi (Zb (Zd (Zc (Zk rfl (Za (Zi (Zf1 ?_)))))))))))
 refine Zg1 rfl (.tmp rfl) ?_
 exact ⟨_, Drops.drop (Drops.drop (Zt2 _)), rfl, rfl⟩
theorem mcheck_c (ds : List DataSig) (t : Tab) (hb : buildF 0 ds [] = some t) (l : List MNode) (h0 : l.length ≠ 0) (h4 : l.length <= 4096) (hn : ∀ (k : Nat) n, l[k]? = some n -> NodeP t ds n /\ ∀ y ∈ n.kids, y < (k : Int)) : VPure Tryz.prog 18 [datasX ds, nodesX l] (.int 0) := by
 refine V_start (nt := 42) Tryz.func18 rfl rfl rfl ?_
 refine Zb (Zd (Zc (Zk rfl (Za (Zi (Zb (Zd (Zc (Zl rfl ?_)))))))))
 refine Zc (Zm3 [.tmp 11] [] _ rfl rfl VT.en13 (.refl _) (mindex_c ds t hb) ?_)
 rintro r Sa ⟨g0, tab, base, rfl, rfl, htr⟩
 refine Zc (Zl rfl (Zc (Zg2 rfl rfl (Zc (Zg2 rfl rfl (Zc (Zk rfl (Zc (Zk rfl (Za (Zi (Zb (Zs (Zb (Zd (Zc (Zl rfl (Zc (Zj1 rfl rfl rfl (Zc (Zk rfl ?_)))))))))))))))))))))
 refine Za (Zi ?_)
 refine Zq1 rfl (rfl) ?_
 refine Zb (Zd (Zc (Zl rfl ?_)))
 refine Zc (Zd2 (n := l.length) Tryz.underlying26 rfl (by simp) (λ hl21 => ?_))
 refine Zc (Zj1 rfl rfl rfl (Zc (Zk rfl (Za (Zi ?_)))))
 refine Zq1 rfl ((decide_eq_false (by omega))) ?_
 refine Zb (Zd (Zc (Zl rfl ?_)))
 refine Zc (Zd2 (n := l.length) Tryz.underlying26 rfl (by simp) (λ hl25 => ?_))
 refine Zc (Zj1 rfl rfl rfl (Zc (Zk rfl (Za (Zi ?_)))))
 refine Zq1 rfl ((beq_eq_false_iff_ne.2 (by omega))) ?_
 refine Zi1 (Zb1 (Zi (Zb (Zb (Zd (Zc (Zl rfl ?_)))))))
 refine Zc (Zd2 (n := l.length) Tryz.underlying26 rfl (by simp) (λ hl28 => ?_))
 refine Zc (Zl rfl (Za (Zi (Zs ?_))))
 refine Zi2 (ι := Nat) (λ k => l.length - k) (λ k => [(5, some (.raw (.map (some g0)))), (27, some (nodesX l)), (28, some (.int l.length)), (29, some (.int k))]) (λ k => [.map g0 (kmap kstr tab)]) (λ k => k <= l.length) 0 (Yg _) ⟨rfl, rfl, rfl, rfl, trivial⟩ (Dk (Zt2 _)) ?_
 rintro k hk
 change k <= l.length at hk
 refine Zb (Zd (Zc (Zj1 rfl rfl rfl (Za (Zi (Zb ?_))))))
 refine Zn1 rfl (λ h30 => ?_) (λ h30 => ?_)
 .
  obtain ⟨n, hnn⟩ := get_of_lt l k h30
  obtain ⟨hp1, hp2⟩ := hn k n hnn
  refine Zi1 (Zi (Zb (Zs (Zb (Zd (Zc (Zl rfl ?_)))))))
  refine Zc (Zz (el := nodeX n) VT.sl26 rfl rfl (by omega) (get_mapS _ hnn) (λ a32 => ?_))
  refine Zc (Za2 VT.ty70 rfl rfl ?_)
  refine Zc (Zb2 VT.zr70 _ rfl rfl (λ g8 => ?_))
  refine Zc (Zk rfl (Zc (Zx 0 VT.ty70 rfl rfl rfl rfl rfl (Za (Zi (Zb (Zd (Zc (Zl rfl (Zc (Zv 0 VT.ty70 rfl rfl rfl (Zc (Zl rfl ?_)))))))))))))
  refine Zc (V_callK 1 [.tmp 34, .tmp 35, .tmp 36] rfl rfl VT.en39 rfl (node_c g0 n k htr hp1 hp2) ?_)
  refine Zc (Zk rfl (Za (Zi (Zb (Zd (Zc (Zl rfl (Zc (Zj1 rfl rfl rfl (Za (Zi ?_)))))))))))
  refine Zq1 rfl (rfl) ?_
  refine Zi1 (Zb1 (Zi (Zd ?_)))
  refine Zc (Zh2 rfl rfl (by omega) ?_)
  refine Zc (Zl rfl (Za (Zi ?_)))
  exact ⟨k + 1, (by (try simp only []); omega), (by omega), ⟨rfl, rfl, rfl, rfl, trivial⟩, (Drops.drop (Dk (Zt2 _)))⟩
 refine Zt (Ze1 (Ze1 (Zc1 (Zi (Zb (Zd (Zc (Zk rfl (Za (Zi (Zf1 ?_)))))))))))
 refine Zg1 rfl (.tmp rfl) ?_
 rfl
end Go.Proofs.YtpkbgamoboojaaaGreat.W24
end
section
namespace Go.Proofs.YtpkbgamoboojaaaGreat.W25
open Go.VL Go.PM Go.Proofs.YtpkbgamoboojaaaGreat W9 W10 W16 W20 W21 W23 W24
theorem atG_cons {v : Pat} {cur : List Pat} {y : Int} {ys : List Int} {p : Pat} (h : atG v cur (y :: ys) = some p) : ∃ q, cur[y.toNat]? = some q /\ atG q q.args ys = some p := by
 rw [atG] at h
 cases hq : cur[y.toNat]? with
 | none => rw [hq] at h; cases h
 | some q => rw [hq] at h; exact ⟨q, rfl, h⟩
theorem run_cases {t : List MNode} {vals : List Pat} {k : Nat} {r : Int} (h : RunP t vals k r) : ∃ n, t[k]? = some n /\ ((n.kind = 0 /\ r = -1) \/ (n.kind = 1 /\ r = n.row) \/
  (n.kind = 3 /\ ∃ (p : Pat) (j : Nat), atF vals n.path = some p /\ p.kind = 2 /\ n.kids[pickI (idxOf (λ x => decide (p.n = x)) n.words) n.kids.length]? = some (j : Int) /\ j < k /\ RunP t vals j r) \/
  (n.kind = 2 /\ ∃ (p : Pat) (j : Nat), atF vals n.path = some p /\ p.kind = 3 /\ n.kids[pickI (idxOf (λ x => decide (p.name = x)) n.names) n.kids.length]? = some (j : Int) /\ j < k /\ RunP t vals j r)) := by
 cases h with
 | fail h1 h2 => exact ⟨_, h1, .inl ⟨h2, rfl⟩⟩
 | row h1 h2 => exact ⟨_, h1, .inr (.inl ⟨h2, rfl⟩)⟩
 | word h1 h2 h3 h4 h5 h6 h7 => exact ⟨_, h1, .inr (.inr (.inl ⟨h2, _, _, h3, h4, h5, h6, h7⟩))⟩
 | con h1 h2 h3 h4 h5 h6 h7 => exact ⟨_, h1, .inr (.inr (.inr ⟨h2, _, _, h3, h4, h5, h6, h7⟩))⟩
theorem pick_lo {i : Int} {l : List Int} {j : Int} (hi : i < 0) (h : l[pickI i l.length]? = some j) : l[((l.length : Int) - 1).toNat]? = some j := by
 rw [pickI, if_pos hi] at h
 rwa [show ((l.length : Int) - 1).toNat = l.length - 1 by omega]
theorem pick_hi {i : Int} {l : List Int} {j : Int} (hi : ¬ i < 0) (h : l[pickI i l.length]? = some j) : l[i.toNat]? = some j := by
 rwa [pickI, if_neg hi] at h
theorem get_len {l : List Int} {i : Nat} {j : Int} (h : l[i]? = some j) : 0 < l.length := by
 have := (Yf.1 h).1
 omega
theorem at_c (vals : List Pat) (path : List Int) (hnn : ∀ x ∈ path, 0 <= x) (p : Pat) (h : atF vals path = some p) : VPure Tryz.prog 19 [patsX vals, intsX path] (.tup [patX p, .bool true]) := by
 refine V_start (nt := 28) Tryz.func19 rfl rfl rfl ?_
 refine Zb (Zd ?_)
 refine Zc (Zb2 VT.zr75 _ rfl rfl (λ g4 => ?_))
 refine Zc (Zk rfl (Za (Zi (Zb (Zd ?_)))))
 refine Zc (Zb2 VT.zr75 _ rfl rfl (λ g6 => ?_))
 refine Za (Zi ?_)
 refine VW_cells 0 (ls' := [.int 0, .str [], .int 0, patsX []]) rfl ⟨V.le.refl _, rfl, V.le.refl _, rfl, V.le.refl _, rfl, V.le.nil 4, rfl, trivial⟩ ?_
 refine Zb (Zb (Zd (Zc (Zl rfl ?_))))
 refine Zc (Zd2 (n := path.length) Tryz.underlying36 rfl (by simp) (λ hl10 => ?_))
 refine Zc (Zl rfl (Za (Zi (Zs ?_))))
 refine Zi2 (ι := Nat × Pat × List Pat) (λ (i, v, cur) => path.length - i) (λ (i, v, cur) => [(0, some (patsX cur)), (4, some (.ptr g4 0)), (6, some (.ptr g6 0)), (9, some (intsX path)), (10, some (.int path.length)), (11, some (.int i))]) (λ (i, v, cur) => [.cells g6 75 [.int v.kind, .str v.name, .int v.n, patsX v.args], .cells g4 75 VT.zs75]) (λ (i, v, cur) => i <= path.length /\ atG v cur (path.drop i) = some p) (0, anyP, vals) ⟨Yg _, h⟩ ⟨rfl, rfl, rfl, rfl, rfl, rfl, trivial⟩ (Drops.keepE rfl (Dk (Zt2 _))) ?_
 rintro ⟨i, v, cur⟩ hA
 change i <= path.length /\ atG v cur (path.drop i) = some p at hA
 obtain ⟨hi, hq⟩ := hA
 refine Zb (Zd (Zc (Zj1 rfl rfl rfl (Za (Zi (Zb ?_))))))
 refine Zn1 rfl (λ h12 => ?_) (λ h12 => ?_)
 .
  obtain ⟨y, hy⟩ := get_of_lt path i h12
  have hy0 := hnn y (Ya hy)
  rw [drop_cons hy] at hq
  obtain ⟨q, hcq, hq2⟩ := atG_cons hq
  have hcl := (Yf.1 hcq).1
  refine Zi1 (Zi (Zb (Zs (Zb (Zd ?_)))))
  refine Zc (Zz (el := V.int y) VT.sl36 rfl rfl (by omega) (get_int hy) (λ a13 => ?_))
  refine Zc (Zz1 VT.ty3 rfl rfl (Zc (Zk rfl (Za (Zi (Zb (Zb (Zd (Zc (Zl rfl (Zc (Zl rfl ?_))))))))))))
  refine Zc (Zd2 (n := cur.length) Tryz.underlying24 rfl (by simp) (λ hl17 => ?_))
  refine Zc (Zj1 rfl rfl rfl (Za (Zi ?_)))
  refine Zn1 rfl (λ h18 => ?_) (λ h18 => ?_)
  . omega
  refine Zi1 (Zi (Zb (Zd (Zc (Zl rfl (Zc (Zl rfl ?_)))))))
  refine Zc (Zz (el := patX q) VT.sl24 rfl rfl (by omega) (get_patS hcq) (λ a22 => ?_))
  refine Zc (Za2 VT.ty75 rfl rfl (Zc (Zx 0 VT.ty75 rfl rfl rfl rfl rfl (Za (Zi (Zd (Zc (Zj VT.fa75_3 rfl (Zc (Zu 0 VT.ty24 rfl rfl rfl (Zc (Zk rfl (Za (Zb1 (Zi (Zd ?_))))))))))))))))
  refine Zc (Zh2 rfl rfl (by omega) ?_)
  refine Zc (Zl rfl (Za (Zi ?_)))
  exact ⟨(i + 1, q, q.args), (by (try simp only []); omega), ⟨by omega, hq2⟩, ⟨rfl, rfl, rfl, rfl, rfl, rfl, trivial⟩, (Drops.keepE rfl (Dk (Zt2 _)))⟩
 have hie : i = path.length := by omega
 subst hie
 rw [Ye, atG] at hq
 injection hq with hq
 subst hq
 refine Zt (Ze1 (Ze1 (Zc1 (Zi (Zb (Zd (Zc (Zv 0 VT.ty75 rfl rfl rfl (Zc (Zx 1 VT.ty75 rfl rfl rfl rfl rfl (Zc (Zk rfl (Za (Zi (Zf1 ?_)))))))))))))))
 refine Zh1 rfl rfl (.cons (.agg (i := 1) VT.ty75 rfl rfl rfl) (.cons (.tmp rfl) (.nil))) ?_
 rfl
theorem run_c (ds : List DataSig) (t : Tab) (hb : buildF 0 ds [] = some t) (l : List MNode) (h0 : l.length ≠ 0) (h4 : l.length <= 4096) (hnod : ∀ (k : Nat) n, l[k]? = some n -> NodeP t ds n /\ ∀ y ∈ n.kids, y < (k : Int)) (vals : List Pat) (r : Int) (hr : RunP l vals (l.length - 1) r) : VPure Tryz.prog 8 [datasX ds, nodesX l, patsX vals] (.tup [.int r, .int 0]) := by
 refine V_start (nt := 76) Tryz.func8 rfl rfl rfl ?_
 refine Zb (Zd (Zc (Zk rfl (Zc (Zk rfl (Za (Zi (Zb (Zb (Zd (Zc (Zl rfl (Zc (Zl rfl ?_))))))))))))))
 refine Zc (Zx1 [.tmp 14, .tmp 15] rfl rfl VT.en18 (mcheck_c ds t hb l h0 h4 hnod) ?_)
 refine Zc (Zk rfl (Za (Zi (Zb (Zd (Zc (Zl rfl (Zc (Zj1 rfl rfl rfl (Za (Zi ?_)))))))))))
 refine Zq1 rfl (rfl) ?_
 refine Zi1 (Zi (Zb (Zd (Zc (Zl rfl ?_)))))
 refine Zc (Zd2 (n := l.length) Tryz.underlying26 rfl (by simp) (λ hl21 => ?_))
 refine Zc (Zk2 rfl rfl (by omega) ?_)
 refine Zc (Zk rfl (Za (Zi (Zs ?_))))
 refine Zi2 (ι := Nat) (λ k => k) (λ k => [(1, some (nodesX l)), (2, some (patsX vals)), (9, some (.int k))]) (λ k => []) (λ k => RunP l vals k r) (l.length - 1) hr ⟨rfl, rfl, (congrArg (λ z => some (V.int z)) (by omega)), trivial⟩ (Drops.nil _) ?_
 rintro k hA
 change RunP l vals k r at hA
 obtain ⟨n, hn, hcase⟩ := run_cases hA
 obtain ⟨hnp, _⟩ := hnod k n hn
 refine Zs (Zb (Zd (Zc (Zl rfl (Zc (Zl rfl ?_))))))
 refine Zc (Zz (el := nodeX n) VT.sl26 rfl rfl (by omega) (get_mapS _ hn) (λ a25 => ?_))
 refine Zc (Za2 VT.ty70 rfl rfl ?_)
 refine Zc (Zb2 VT.zr70 _ rfl rfl (λ g10 => ?_))
 refine Zc (Zx 0 VT.ty70 rfl rfl rfl rfl rfl (Za (Zi (Zb (Zb (Zd (Zc (Zj VT.fa70_0 rfl ?_))))))))
 rcases hcase with ⟨hk, hrr⟩ | ⟨hk, hrr⟩ | ⟨hk, p, j, hat, hpk, hkid, hjk, hrun2⟩ | ⟨hk, p, j, hat, hpk, hkid, hjk, hrun2⟩
 .
  refine Zc (Zu 0 VT.ty3 rfl rfl rfl (Za (Zi (Zs (Zb (Zd (Zc (Zj1 rfl rfl rfl (Zc (Zk rfl (Za (Zi ?_))))))))))))
  refine Zp1 rfl ((by rw [hk]; rfl)) ?_
  refine Zb (Zd (Zc (Zk rfl (Zc (Zk rfl (Za (Zi (Zf1 ?_))))))))
  refine Za1 (Zd1 (Za1 (Zd1 (Za1 (Zh1 rfl rfl (.cons (.tmp rfl) (.cons (.tmp rfl) (.nil))) ?_)))))
  rw [hrr]
 .
  refine Zc (Zu 0 VT.ty3 rfl rfl rfl (Za (Zi (Zs (Zb (Zd (Zc (Zj1 rfl rfl rfl (Zc (Zk rfl (Za (Zi ?_))))))))))))
  refine Zq1 rfl ((by rw [hk]; rfl)) ?_
  refine Zb (Zd (Zc (Zj1 rfl rfl rfl (Zc (Zk rfl (Za (Zi ?_)))))))
  refine Zp1 rfl ((by rw [hk]; rfl)) ?_
  refine Zb (Zd (Zc (Zj VT.fa70_1 rfl (Zc (Zu 0 VT.ty3 rfl rfl rfl (Zc (Zk rfl (Zc (Zk rfl (Za (Zi (Zf1 ?_))))))))))))
  refine Za1 (Zd1 (Za1 (Zd1 (Za1 (Zh1 rfl rfl (.cons (.tmp rfl) (.cons (.tmp rfl) (.nil))) ?_)))))
  rw [hrr]
 .
  refine Zc (Zu 0 VT.ty3 rfl rfl rfl (Za (Zi (Zs (Zb (Zd (Zc (Zj1 rfl rfl rfl (Zc (Zk rfl (Za (Zi ?_))))))))))))
  refine Zq1 rfl ((by rw [hk]; rfl)) ?_
  refine Zb (Zd (Zc (Zj1 rfl rfl rfl (Zc (Zk rfl (Za (Zi ?_)))))))
  refine Zq1 rfl ((by rw [hk]; rfl)) ?_
  refine Zi1 (Zb1 (Zi (Zb (Zd (Zc (Zl rfl (Zc (Zj VT.fa70_2 rfl (Zc (Zu 0 VT.ty36 rfl rfl rfl ?_))))))))))
  refine Zc (Zx1 [.tmp 36, .tmp 38] rfl rfl VT.en19 (at_c vals n.path hnp.path p hat) ?_)
  refine Zc (Zl rfl (Zc (Zg2 rfl rfl (Zc (Zg2 rfl rfl ?_)))))
  refine Zc (Zb2 VT.zr75 _ rfl rfl (λ g11 => ?_))
  refine Zc (Zx 0 VT.ty75 rfl rfl rfl rfl rfl (Zc (Zk rfl (Za (Zi (Zb (Zb (Zd (Zc (Zl rfl (Zc (Zl2 rfl (Za (Zi ?_))))))))))))))
  refine Zq1 rfl (rfl) ?_
  refine Zi1 (Zi (Zb (Zd (Zc (Zk rfl (Za (Zi (Zb (Zb (Zd (Zc (Zj VT.fa70_0 rfl (Zc (Zu 1 VT.ty3 rfl rfl rfl (Zc (Zj1 rfl rfl rfl (Za (Zi ?_))))))))))))))))))
  refine Zp1 rfl ((by rw [hk]; rfl)) ?_
  refine Zb (Zb (Zd (Zc (Zj VT.fa75_0 rfl (Zc (Zu 0 VT.ty3 rfl rfl rfl (Zc (Zj1 rfl rfl rfl (Za (Zi ?_))))))))))
  refine Zq1 rfl ((by rw [hpk]; rfl)) ?_
  refine Zi1 (Zi (Zd (Zc (Zj VT.fa70_4 rfl (Zc (Zu 1 VT.ty36 rfl rfl rfl (Zc (Zj VT.fa75_2 rfl (Zc (Zu 0 VT.ty3 rfl rfl rfl ?_))))))))))
  refine Zc (Zx1 [.tmp 51, .tmp 53] rfl rfl VT.en20 (intsIndex_c n.words none p.n) ?_)
  refine Zc (Zk rfl (Za (Zi (Zb (Zb (Zd (Zc (Zl rfl (Zc (Zj1 rfl rfl rfl (Za (Zi ?_))))))))))))
  refine Zn1 rfl (λ h64 => ?_) (λ h64 => ?_)
  .
   have hki := pick_lo h64 hkid
   have hkl := get_len hki
   refine Zd (Zc (Zj VT.fa70_5 rfl (Zc (Zu 1 VT.ty36 rfl rfl rfl ?_))))
   refine Zc (Zd2 (n := n.kids.length) Tryz.underlying36 rfl (by simp) (λ hl67 => ?_))
   refine Zc (Zk2 rfl rfl (by omega) ?_)
   refine Zc (Zk rfl (Za (Zi (Zb (Zd (Zc (Zj VT.fa70_5 rfl (Zc (Zu 1 VT.ty36 rfl rfl rfl (Zc (Zl rfl ?_)))))))))))
   refine Zc (Zz (el := V.int j) VT.sl36 rfl rfl (by omega) (get_int hki) (λ a72 => ?_))
   refine Zc (Zz1 VT.ty3 rfl rfl (Zc (Zk rfl (Za (Zi (Zb (Zd (Zc (Zl rfl (Zc (Zj1 rfl rfl rfl (Za (Zi ?_)))))))))))))
   refine Zn1 rfl (λ h75 => ?_) (λ h75 => ?_)
   . omega
   refine Zi1 (Zb1 (Zi ?_))
   exact ⟨j, (by (try simp only []); omega), hrun2, ⟨rfl, rfl, rfl, trivial⟩, (Drops.nil _)⟩
  have hki := pick_hi h64 hkid
  refine Zi1 (Zi (Zb (Zd (Zc (Zj VT.fa70_5 rfl (Zc (Zu 1 VT.ty36 rfl rfl rfl (Zc (Zl rfl ?_)))))))))
  refine Zc (Zz (el := V.int j) VT.sl36 rfl rfl (by omega) (get_int hki) (λ a72 => ?_))
  refine Zc (Zz1 VT.ty3 rfl rfl (Zc (Zk rfl (Za (Zi (Zb (Zd (Zc (Zl rfl (Zc (Zj1 rfl rfl rfl (Za (Zi ?_)))))))))))))
  refine Zn1 rfl (λ h75 => ?_) (λ h75 => ?_)
  . omega
  refine Zi1 (Zb1 (Zi ?_))
  exact ⟨j, (by (try simp only []); omega), hrun2, ⟨rfl, rfl, rfl, trivial⟩, (Drops.nil _)⟩
 refine Zc (Zu 0 VT.ty3 rfl rfl rfl (Za (Zi (Zs (Zb (Zd (Zc (Zj1 rfl rfl rfl (Zc (Zk rfl (Za (Zi ?_))))))))))))
 refine Zq1 rfl ((by rw [hk]; rfl)) ?_
 refine Zb (Zd (Zc (Zj1 rfl rfl rfl (Zc (Zk rfl (Za (Zi ?_)))))))
 refine Zq1 rfl ((by rw [hk]; rfl)) ?_
 refine Zi1 (Zb1 (Zi (Zb (Zd (Zc (Zl rfl (Zc (Zj VT.fa70_2 rfl (Zc (Zu 0 VT.ty36 rfl rfl rfl ?_))))))))))
 refine Zc (Zx1 [.tmp 36, .tmp 38] rfl rfl VT.en19 (at_c vals n.path hnp.path p hat) ?_)
 refine Zc (Zl rfl (Zc (Zg2 rfl rfl (Zc (Zg2 rfl rfl ?_)))))
 refine Zc (Zb2 VT.zr75 _ rfl rfl (λ g11 => ?_))
 refine Zc (Zx 0 VT.ty75 rfl rfl rfl rfl rfl (Zc (Zk rfl (Za (Zi (Zb (Zb (Zd (Zc (Zl rfl (Zc (Zl2 rfl (Za (Zi ?_))))))))))))))
 refine Zq1 rfl (rfl) ?_
 refine Zi1 (Zi (Zb (Zd (Zc (Zk rfl (Za (Zi (Zb (Zb (Zd (Zc (Zj VT.fa70_0 rfl (Zc (Zu 1 VT.ty3 rfl rfl rfl (Zc (Zj1 rfl rfl rfl (Za (Zi ?_))))))))))))))))))
 refine Zq1 rfl ((by rw [hk]; rfl)) ?_
 refine Zb (Zb (Zd (Zc (Zj VT.fa75_0 rfl (Zc (Zu 0 VT.ty3 rfl rfl rfl (Zc (Zj1 rfl rfl rfl (Za (Zi ?_))))))))))
 refine Zq1 rfl ((by rw [hpk]; rfl)) ?_
 refine Zi1 (Zi (Zd (Zc (Zj VT.fa70_3 rfl (Zc (Zu 1 VT.ty68 rfl rfl rfl (Zc (Zj VT.fa75_1 rfl (Zc (Zu 0 VT.ty9 rfl rfl rfl ?_))))))))))
 refine Zc (Zx1 [.tmp 59, .tmp 61] rfl rfl VT.en21 (strsIndex_c n.names none p.name) ?_)
 refine Zc (Zk rfl (Za (Zi (Zb (Zb (Zd (Zc (Zl rfl (Zc (Zj1 rfl rfl rfl (Za (Zi ?_))))))))))))
 refine Zn1 rfl (λ h64 => ?_) (λ h64 => ?_)
 .
  have hki := pick_lo h64 hkid
  have hkl := get_len hki
  refine Zd (Zc (Zj VT.fa70_5 rfl (Zc (Zu 1 VT.ty36 rfl rfl rfl ?_))))
  refine Zc (Zd2 (n := n.kids.length) Tryz.underlying36 rfl (by simp) (λ hl67 => ?_))
  refine Zc (Zk2 rfl rfl (by omega) ?_)
  refine Zc (Zk rfl (Za (Zi (Zb (Zd (Zc (Zj VT.fa70_5 rfl (Zc (Zu 1 VT.ty36 rfl rfl rfl (Zc (Zl rfl ?_)))))))))))
  refine Zc (Zz (el := V.int j) VT.sl36 rfl rfl (by omega) (get_int hki) (λ a72 => ?_))
  refine Zc (Zz1 VT.ty3 rfl rfl (Zc (Zk rfl (Za (Zi (Zb (Zd (Zc (Zl rfl (Zc (Zj1 rfl rfl rfl (Za (Zi ?_)))))))))))))
  refine Zn1 rfl (λ h75 => ?_) (λ h75 => ?_)
  . omega
  refine Zi1 (Zb1 (Zi ?_))
  exact ⟨j, (by (try simp only []); omega), hrun2, ⟨rfl, rfl, rfl, trivial⟩, (Drops.nil _)⟩
 have hki := pick_hi h64 hkid
 refine Zi1 (Zi (Zb (Zd (Zc (Zj VT.fa70_5 rfl (Zc (Zu 1 VT.ty36 rfl rfl rfl (Zc (Zl rfl ?_)))))))))
 refine Zc (Zz (el := V.int j) VT.sl36 rfl rfl (by omega) (get_int hki) (λ a72 => ?_))
 refine Zc (Zz1 VT.ty3 rfl rfl (Zc (Zk rfl (Za (Zi (Zb (Zd (Zc (Zl rfl (Zc (Zj1 rfl rfl rfl (Za (Zi ?_)))))))))))))
 refine Zn1 rfl (λ h75 => ?_) (λ h75 => ?_)
 . omega
 refine Zi1 (Zb1 (Zi ?_))
 exact ⟨j, (by (try simp only []); omega), hrun2, ⟨rfl, rfl, rfl, trivial⟩, (Drops.nil _)⟩
end Go.Proofs.YtpkbgamoboojaaaGreat.W25
end
section
namespace Go.Proofs.YtpkbgamoboojaaaGreat.W30
open Go.VL Go.PM Go.Proofs.YtpkbgamoboojaaaGreat W1 W9 W10 W16 W20 W21 W23 W24 W25
theorem known_step (n : Nat) (ih : ∀ l, cL l < n -> VPure Tryz.prog 17 [patsX l] (.bool (knownL l))) (l : List Pat) (h : cL l < n + 1) : VPure Tryz.prog 17 [patsX l] (.bool (knownL l)) := by
 refine V_start (nt := 26) Tryz.func17 rfl rfl rfl ?_
 refine Zb (Zd (Zc (Zk rfl (Za (Zi (Zb (Zb (Zd (Zc (Zl rfl ?_))))))))))
 refine Zc (Zd2 (n := l.length) Tryz.underlying24 rfl (by simp) (λ hl6 => ?_))
 refine Zc (Zl rfl (Za (Zi (Zs ?_))))
 refine Zi2 (ι := Nat) (λ k => l.length - k) (λ k => [(5, some (patsX l)), (6, some (.int l.length)), (7, some (.int k))]) (λ k => []) (λ k => k <= l.length /\ knownL (l.drop k) = knownL l) 0 ⟨Yg _, rfl⟩ ⟨rfl, rfl, rfl, trivial⟩ (Drops.nil _) ?_
 rintro k hA
 change k <= l.length /\ knownL (l.drop k) = knownL l at hA
 obtain ⟨hk, hq⟩ := hA
 refine Zb (Zd (Zc (Zj1 rfl rfl rfl (Za (Zi (Zb ?_))))))
 refine Zn1 rfl (λ h8 => ?_) (λ h8 => ?_)
 .
  obtain ⟨p, hp⟩ := get_of_lt l k h8
  have hlt := args_lt (Ya hp) h
  have hst : knownP p = false -> knownL l = false := λ e => by rw [<- hq, drop_cons hp, knownL, e, Bool.false_and]
  refine Zi1 (Zi (Zb (Zs (Zb (Zd ?_)))))
  refine Zc (Zz (el := patX p) VT.sl24 rfl rfl (by omega) (get_patS hp) (λ a9 => ?_))
  refine Zc (Za2 VT.ty75 rfl rfl ?_)
  refine Zc (Zb2 VT.zr75 _ rfl rfl (λ g4 => ?_))
  refine Zc (Zx 0 VT.ty75 rfl rfl rfl rfl rfl (Za (Zi (Zb (Zd (Zc (Zj VT.fa75_0 rfl (Zc (Zu 0 VT.ty3 rfl rfl rfl (Zc (Zj1 rfl rfl rfl (Zc (Zl rfl ?_)))))))))))))
  refine Zj2 (q := 14) rfl (λ hq14 => ?_) (λ hq14 => ?_)
  .
   have h2 : p.kind ≠ 2 := by simpa using hq14
   refine Zc (Zj VT.fa75_0 rfl ?_) (Zy1 hq14)
   refine Zc (Zu 0 VT.ty3 rfl rfl rfl ?_) (Zy1 hq14)
   refine Zc (Zj1 rfl rfl rfl ?_) (Zy1 hq14)
   refine Zc (Zs1 rfl hq14 rfl ?_)
   refine Zc (Zl rfl ?_)
   refine Zj2 (q := 19) rfl (λ hq19 => ?_) (λ hq19 => ?_)
   .
    have h23 : p.kind ≠ 2 /\ p.kind ≠ 3 := by first | exact ⟨h2, by simpa using hq19⟩ | exact absurd hq19 (by simp)
    refine Zk0 hq19 ?_
    refine Zk0 hq19 ?_
    refine Zk0 hq19 ?_
    refine Zk0 hq19 ?_
    refine Zc (Zs1 rfl hq19 rfl ?_)
    refine Za (Zi ?_)
    refine Zp1 rfl rfl ?_
    refine Zb (Zd (Zc (Zk rfl (Za (Zi (Zf1 ?_))))))
    refine Za1 (Zd1 (Zd1 (Za1 (Zd1 (Zg1 rfl (.tmp rfl) ?_)))))
    first | (rw [hst (by rw [knownP_eq, decide_eq_false h23.1, decide_eq_false h23.2]; rfl)]; done) | (rw [hst (by rw [knownP_eq, hbad, Bool.and_false])]; done) | (rw [<- hq])
   have h23 : p.kind = 2 \/ p.kind = 3 := by first | exact .inl h2 | exact .inr (by simpa using hq19)
   refine Zc (Zj VT.fa75_3 rfl ?_) (Zy0 hq19)
   refine Zc (Zu 0 VT.ty24 rfl rfl rfl ?_) (Zy0 hq19)
   refine Zc (Zx1 [.tmp 21] rfl rfl VT.en17 (ih p.args hlt) ?_) (Zy0 hq19)
   refine Zc (Zl2 rfl ?_) (Zy0 hq19)
   refine Zc (Zt1 rfl hq19 rfl ?_)
   refine Za (Zi ?_)
   refine Zo1 rfl (λ h24 => ?_) (λ h24 => ?_)
   .
    have hbad : knownL p.args = false := by simpa using h24
    refine Zb (Zd (Zc (Zk rfl (Za (Zi (Zf1 ?_))))))
    refine Za1 (Zd1 (Zd1 (Za1 (Zd1 (Zg1 rfl (.tmp rfl) ?_)))))
    first | (rw [hst (by rw [knownP_eq, decide_eq_false h23.1, decide_eq_false h23.2]; rfl)]; done) | (rw [hst (by rw [knownP_eq, hbad, Bool.and_false])]; done) | (rw [<- hq])
   have e : knownL p.args = true := by simpa using h24
   have hkp : knownP p = true := by rw [knownP_eq, e]; rcases h23 with h | h <;> simp [h]
   refine Zi1 (Zb1 (Zi (Zd ?_)))
   refine Zc (Zh2 rfl rfl (by omega) ?_)
   refine Zc (Zl rfl (Za (Zi ?_)))
   exact ⟨k + 1, (by (try simp only []); omega), ⟨by omega, by rw [<- hq, drop_cons hp, knownL, hkp, Bool.true_and]⟩, ⟨rfl, rfl, rfl, trivial⟩, (Drops.nil _)⟩
  have h2 : p.kind = 2 := by simpa using hq14
  have h23 : p.kind = 2 \/ p.kind = 3 := .inl h2
  refine Zk1 hq14 ?_
  refine Zk1 hq14 ?_
  refine Zk1 hq14 ?_
  refine Zc (Zt1 rfl hq14 rfl ?_)
  refine Zc (Zl rfl ?_)
  refine Zc (Zj VT.fa75_3 rfl ?_) (Zy0 rfl)
  refine Zc (Zu 0 VT.ty24 rfl rfl rfl ?_) (Zy0 rfl)
  refine Zc (Zx1 [.tmp 21] rfl rfl VT.en17 (ih p.args hlt) ?_) (Zy0 rfl)
  refine Zc (Zl2 rfl ?_) (Zy0 rfl)
  refine Zc (Zt1 rfl rfl rfl (Za (Zi ?_)))
  refine Zo1 rfl (λ h24 => ?_) (λ h24 => ?_)
  .
   have hbad : knownL p.args = false := by simpa using h24
   refine Zb (Zd (Zc (Zk rfl (Za (Zi (Zf1 ?_))))))
   refine Za1 (Zd1 (Zd1 (Za1 (Zd1 (Zg1 rfl (.tmp rfl) ?_)))))
   first | (rw [hst (by rw [knownP_eq, decide_eq_false h23.1, decide_eq_false h23.2]; rfl)]; done) | (rw [hst (by rw [knownP_eq, hbad, Bool.and_false])]; done) | (rw [<- hq])
  have e : knownL p.args = true := by simpa using h24
  have hkp : knownP p = true := by rw [knownP_eq, e]; rcases h23 with h | h <;> simp [h]
  refine Zi1 (Zb1 (Zi (Zd ?_)))
  refine Zc (Zh2 rfl rfl (by omega) ?_)
  refine Zc (Zl rfl (Za (Zi ?_)))
  exact ⟨k + 1, (by (try simp only []); omega), ⟨by omega, by rw [<- hq, drop_cons hp, knownL, hkp, Bool.true_and]⟩, ⟨rfl, rfl, rfl, trivial⟩, (Drops.nil _)⟩
 have hke : k = l.length := by omega
 subst hke
 rw [Ye, knownL] at hq
 refine Zt (Ze1 (Ze1 (Zc1 (Zi (Zb (Zd (Zc (Zk rfl (Za (Zi (Zf1 ?_)))))))))))
 refine Zg1 rfl (.tmp rfl) ?_
 first | (rw [hst (by rw [knownP_eq, decide_eq_false h23.1, decide_eq_false h23.2]; rfl)]; done) | (rw [hst (by rw [knownP_eq, hbad, Bool.and_false])]; done) | (rw [<- hq])
theorem knownL_c : ∀ (n : Nat) (l : List Pat), cL l < n -> VPure Tryz.prog 17 [patsX l] (.bool (knownL l))
 | 0, l, h => absurd h (Nat.not_lt_zero _)
 | n + 1, l, h => known_step n (λ l h => knownL_c n l h) l h
theorem matches_step (n : Nat) (ih : ∀ r vs, cL r < n -> VPure Tryz.prog 22 [patsX r, patsX vs] (.bool (matsL r vs))) (r vs : List Pat) (h : cL r < n + 1) : VPure Tryz.prog 22 [patsX r, patsX vs] (.bool (matsL r vs)) := by
 refine V_start (nt := 75) Tryz.func22 rfl rfl rfl ?_
 refine Zb (Zd (Zc (Zk rfl (Za (Zi (Zb (Zb (Zd (Zc (Zl rfl ?_))))))))))
 refine Zc (Zd2 (n := r.length) Tryz.underlying24 rfl (by simp) (λ hl9 => ?_))
 refine Zc (Zl rfl ?_)
 refine Zc (Zd2 (n := vs.length) Tryz.underlying24 rfl (by simp) (λ hl11 => ?_))
 refine Zc (Zj1 rfl rfl rfl (Za (Zi ?_)))
 refine Zm1 rfl (λ h12 => ?_) (λ h12 => ?_)
 .
  have hne := matsL_len r vs (by omega)
  refine Zb (Zd (Zc (Zk rfl (Za (Zi (Zf1 ?_))))))
  refine Zd1 (Zg1 rfl (.tmp rfl) ?_)
  first | exact congrArg V.bool hne.symm | exact congrArg V.bool hq | (refine congrArg V.bool ?_; rw [hst, mat1_eq]; clear hst hq; simp_all; done)
 have hll : r.length = vs.length := by omega
 refine Zi1 (Zi (Zb (Zb (Zd (Zc (Zl rfl ?_))))))
 refine Zc (Zd2 (n := r.length) Tryz.underlying24 rfl (by simp) (λ hl14 => ?_))
 refine Zc (Zl rfl (Za (Zi (Zs ?_))))
 refine Zi2 (ι := Nat) (λ k => r.length - k) (λ k => [(1, some (patsX vs)), (13, some (patsX r)), (14, some (.int r.length)), (15, some (.int k))]) (λ k => []) (λ k => k <= r.length /\ matsL (r.drop k) (vs.drop k) = matsL r vs) 0 ⟨Yg _, rfl⟩ ⟨rfl, rfl, rfl, rfl, trivial⟩ (Drops.nil _) ?_
 rintro k hA
 change k <= r.length /\ matsL (r.drop k) (vs.drop k) = matsL r vs at hA
 obtain ⟨hk, hq⟩ := hA
 refine Zb (Zd (Zc (Zj1 rfl rfl rfl (Za (Zi (Zb ?_))))))
 refine Zn1 rfl (λ h16 => ?_) (λ h16 => ?_)
 .
  obtain ⟨p, hp⟩ := get_of_lt r k h16
  obtain ⟨v, hv⟩ := get_of_lt vs k (by omega)
  have hlt := args_lt (Ya hp) h
  have hst : matsL r vs = (mat1 p v && matsL (r.drop (k + 1)) (vs.drop (k + 1))) := by rw [<- hq, drop_cons hp, drop_cons hv, matsL_cons]
  refine Zi1 (Zi (Zb (Zs (Zb (Zd (Zc (Zl rfl ?_)))))))
  refine Zc (Zz (el := patX p) VT.sl24 rfl rfl (by omega) (get_patS hp) (λ a18 => ?_))
  refine Zc (Za2 VT.ty75 rfl rfl ?_)
  refine Zc (Zb2 VT.zr75 _ rfl rfl (λ g6 => ?_))
  refine Zc (Zk rfl (Zc (Zx 0 VT.ty75 rfl rfl rfl rfl rfl (Za (Zi (Zb (Zd (Zc (Zl rfl (Zc (Zl rfl ?_)))))))))))
  refine Zc (Zz (el := patX v) VT.sl24 rfl rfl (by omega) (get_patS hv) (λ a22 => ?_))
  refine Zc (Za2 VT.ty75 rfl rfl ?_)
  refine Zc (Zb2 VT.zr75 _ rfl rfl (λ g7 => ?_))
  refine Zc (Zx 0 VT.ty75 rfl rfl rfl rfl rfl (Za (Zi (Zs (Zb (Zd (Zc (Zv 1 VT.ty75 rfl rfl rfl ?_))))))))
  refine Zc (Zx1 [.tmp 25] rfl rfl VT.en40 (free_c p) ?_)
  refine Zc (Zk rfl (Za (Zi ?_)))
  refine Zr1 rfl (λ h24 => ?_) (λ h24 => ?_)
  .
   have hmt : mat1 p v = true := by rw [mat1_eq, h24, Bool.true_or]
   refine Zi1 (Zb1 (Zb1 (Zi (Zd ?_))))
   refine Zc (Zh2 rfl rfl (by omega) ?_)
   refine Zc (Zl rfl (Za (Zi ?_)))
   exact ⟨k + 1, (by (try simp only []); omega), ⟨by omega, by first | (rw [hst, hmt, Bool.true_and]; done) | (rw [hst, mat1_eq]; clear hst hq; simp_all; done)⟩, ⟨rfl, rfl, rfl, rfl, trivial⟩, (Drops.nil _)⟩
  refine Zb (Zb (Zd (Zc (Zj VT.fa75_0 rfl (Zc (Zu 1 VT.ty3 rfl rfl rfl (Zc (Zj1 rfl rfl rfl (Zc (Zl rfl ?_))))))))))
  refine Zj2 (q := 31) rfl (λ hq31 => ?_) (λ hq31 => ?_)
  .
   refine Zc (Zj VT.fa75_0 rfl ?_) (Zy1 hq31)
   refine Zc (Zu 0 VT.ty3 rfl rfl rfl ?_) (Zy1 hq31)
   refine Zc (Zj1 rfl rfl rfl ?_) (Zy1 hq31)
   refine Zc (Zl rfl ?_) (Zy1 hq31)
   refine Zj2 (q := 35) rfl (λ hq35 => ?_) (λ hq35 => ?_)
   .
    refine Zk0 hq35 ?_
    refine Zk0 hq35 ?_
    refine Zk0 hq35 ?_
    refine Zk0 hq35 ?_
    refine Zk0 hq35 ?_
    refine Zc (Zs1 rfl hq35 rfl ?_) (Zy1 hq31)
    refine Zc (Zs1 rfl hq31 rfl ?_)
    refine Zc (Zk rfl (Za (Zi ?_)))
    refine Zp1 rfl rfl ?_
    refine Zi1 (Zi ?_)
    refine Zp1 rfl rfl ?_
    refine Zb (Zd (Zc (Zk rfl (Za (Zi (Zf1 ?_))))))
    refine Za1 (Za1 (Zd1 (Zd1 (Za1 (Zd1 (Zg1 rfl (.tmp rfl) ?_))))))
    first | exact congrArg V.bool hne.symm | exact congrArg V.bool hq | (refine congrArg V.bool ?_; rw [hst, mat1_eq]; clear hst hq; simp_all; done)
   refine Zc (Zj VT.fa75_2 rfl ?_) (Zy0 hq35)
   refine Zc (Zu 0 VT.ty3 rfl rfl rfl ?_) (Zy0 hq35)
   refine Zc (Zj VT.fa75_2 rfl ?_) (Zy0 hq35)
   refine Zc (Zu 1 VT.ty3 rfl rfl rfl ?_) (Zy0 hq35)
   refine Zc (Zj1 rfl rfl rfl ?_) (Zy0 hq35)
   refine Zc (Zt1 rfl hq35 rfl ?_) (Zy1 hq31)
   refine Zc (Zs1 rfl hq31 rfl ?_)
   refine Zc (Zk rfl (Za (Zi ?_)))
   refine Zm1 rfl (λ h27 => ?_) (λ h27 => ?_)
   .
    refine Zi1 (Zi ?_)
    refine Zm1 rfl (λ h27 => ?_) (λ h27 => ?_)
    .
     refine Zb (Zd (Zc (Zk rfl (Za (Zi (Zf1 ?_))))))
     refine Za1 (Za1 (Zd1 (Zd1 (Za1 (Zd1 (Zg1 rfl (.tmp rfl) ?_))))))
     first | exact congrArg V.bool hne.symm | exact congrArg V.bool hq | (refine congrArg V.bool ?_; rw [hst, mat1_eq]; clear hst hq; simp_all; done)
    refine Zi1 (Zb1 (Zb1 (Zi (Zd ?_))))
    refine Zc (Zh2 rfl rfl (by omega) ?_)
    refine Zc (Zl rfl (Za (Zi ?_)))
    exact ⟨k + 1, (by (try simp only []); omega), ⟨by omega, by first | (rw [hst, hmt, Bool.true_and]; done) | (rw [hst, mat1_eq]; clear hst hq; simp_all; done)⟩, ⟨rfl, rfl, rfl, rfl, trivial⟩, (Drops.nil _)⟩
   refine Zb (Zd (Zc (Zj VT.fa75_0 rfl (Zc (Zu 1 VT.ty3 rfl rfl rfl (Zc (Zj1 rfl rfl rfl (Zc (Zl rfl ?_)))))))))
   refine Zj2 (q := 46) rfl (λ hq46 => ?_) (λ hq46 => ?_)
   .
    refine Zc (Zj VT.fa75_0 rfl ?_) (Zy1 hq46)
    refine Zc (Zu 0 VT.ty3 rfl rfl rfl ?_) (Zy1 hq46)
    refine Zc (Zj1 rfl rfl rfl ?_) (Zy1 hq46)
    refine Zc (Zl rfl ?_) (Zy1 hq46)
    refine Zj2 (q := 50) rfl (λ hq50 => ?_) (λ hq50 => ?_)
    .
     refine Zk0 hq50 ?_
     refine Zk0 hq50 ?_
     refine Zk0 hq50 ?_
     refine Zk0 hq50 ?_
     refine Zk0 hq50 ?_
     refine Zc (Zs1 rfl hq50 rfl ?_) (Zy1 hq46)
     refine Zc (Zl rfl ?_) (Zy1 hq46)
     refine Zk0 rfl ?_
     refine Zk0 rfl ?_
     refine Zk0 rfl ?_
     refine Zk0 rfl ?_
     refine Zk0 rfl ?_
     refine Zk0 rfl ?_
     refine Zc (Zs1 rfl rfl rfl ?_) (Zy1 hq46)
     refine Zc (Zs1 rfl hq46 rfl ?_)
     refine Zc (Zk rfl (Za (Zi ?_)))
     refine Zp1 rfl rfl ?_
     refine Zi1 (Zi ?_)
     refine Zp1 rfl rfl ?_
     refine Zb (Zd (Zc (Zk rfl (Za (Zi (Zf1 ?_))))))
     refine Za1 (Za1 (Zd1 (Zd1 (Za1 (Zd1 (Zg1 rfl (.tmp rfl) ?_))))))
     first | exact congrArg V.bool hne.symm | exact congrArg V.bool hq | (refine congrArg V.bool ?_; rw [hst, mat1_eq]; clear hst hq; simp_all; done)
    refine Zc (Zj VT.fa75_1 rfl ?_) (Zy0 hq50)
    refine Zc (Zu 0 VT.ty9 rfl rfl rfl ?_) (Zy0 hq50)
    refine Zc (Zj VT.fa75_1 rfl ?_) (Zy0 hq50)
    refine Zc (Zu 1 VT.ty9 rfl rfl rfl ?_) (Zy0 hq50)
    refine Zc (V_strne rfl rfl ?_) (Zy0 hq50)
    refine Zc (Zt1 rfl hq50 rfl ?_) (Zy1 hq46)
    refine Zc (Zl rfl ?_) (Zy1 hq46)
    refine Zj2 (q := 57) rfl (λ hq57 => ?_) (λ hq57 => ?_)
    .
     refine Zk0 hq57 ?_
     refine Zk0 hq57 ?_
     refine Zk0 hq57 ?_
     refine Zk0 hq57 ?_
     refine Zk0 hq57 ?_
     refine Zk0 hq57 ?_
     refine Zc (Zs1 rfl hq57 rfl ?_) (Zy1 hq46)
     refine Zc (Zs1 rfl hq46 rfl ?_)
     refine Zc (Zk rfl (Za (Zi ?_)))
     refine Zp1 rfl rfl ?_
     refine Zi1 (Zi ?_)
     refine Zp1 rfl rfl ?_
     refine Zb (Zd (Zc (Zk rfl (Za (Zi (Zf1 ?_))))))
     refine Za1 (Za1 (Zd1 (Zd1 (Za1 (Zd1 (Zg1 rfl (.tmp rfl) ?_))))))
     first | exact congrArg V.bool hne.symm | exact congrArg V.bool hq | (refine congrArg V.bool ?_; rw [hst, mat1_eq]; clear hst hq; simp_all; done)
    refine Zc (Zj VT.fa75_3 rfl ?_) (Zy0 hq57)
    refine Zc (Zu 1 VT.ty24 rfl rfl rfl ?_) (Zy0 hq57)
    refine Zc (Zj VT.fa75_3 rfl ?_) (Zy0 hq57)
    refine Zc (Zu 0 VT.ty24 rfl rfl rfl ?_) (Zy0 hq57)
    refine Zc (Zx1 [.tmp 59, .tmp 61] rfl rfl VT.en22 (ih p.args v.args hlt) ?_) (Zy0 hq57)
    refine Zc (Zl2 rfl ?_) (Zy0 hq57)
    refine Zc (Zt1 rfl hq57 rfl ?_) (Zy1 hq46)
    refine Zc (Zs1 rfl hq46 rfl ?_)
    refine Zc (Zk rfl (Za (Zi ?_)))
    refine Zo1 rfl (λ h27 => ?_) (λ h27 => ?_)
    .
     refine Zi1 (Zi ?_)
     refine Zo1 rfl (λ h27 => ?_) (λ h27 => ?_)
     .
      refine Zb (Zd (Zc (Zk rfl (Za (Zi (Zf1 ?_))))))
      refine Za1 (Za1 (Zd1 (Zd1 (Za1 (Zd1 (Zg1 rfl (.tmp rfl) ?_))))))
      first | exact congrArg V.bool hne.symm | exact congrArg V.bool hq | (refine congrArg V.bool ?_; rw [hst, mat1_eq]; clear hst hq; simp_all; done)
     refine Zi1 (Zb1 (Zb1 (Zi (Zd ?_))))
     refine Zc (Zh2 rfl rfl (by omega) ?_)
     refine Zc (Zl rfl (Za (Zi ?_)))
     exact ⟨k + 1, (by (try simp only []); omega), ⟨by omega, by first | (rw [hst, hmt, Bool.true_and]; done) | (rw [hst, mat1_eq]; clear hst hq; simp_all; done)⟩, ⟨rfl, rfl, rfl, rfl, trivial⟩, (Drops.nil _)⟩
    refine Zd (Zc (Zj VT.fa75_0 rfl (Zc (Zu 1 VT.ty3 rfl rfl rfl (Zc (Zj1 rfl rfl rfl (Zc (Zl rfl ?_))))))))
    refine Zj2 (q := 69) rfl (λ hq69 => ?_) (λ hq69 => ?_)
    .
     refine Zc (Zj VT.fa75_0 rfl ?_) (Zy1 hq69)
     refine Zc (Zu 1 VT.ty3 rfl rfl rfl ?_) (Zy1 hq69)
     refine Zc (Zj1 rfl rfl rfl ?_) (Zy1 hq69)
     refine Zc (Zs1 rfl hq69 rfl ?_)
     refine Zc (Zk rfl (Za (Zi ?_)))
     refine Zm1 rfl (λ h27 => ?_) (λ h27 => ?_)
     .
      refine Zb (Zd (Zc (Zk rfl (Za (Zi (Zf1 ?_))))))
      refine Za1 (Za1 (Zd1 (Zd1 (Za1 (Zd1 (Zg1 rfl (.tmp rfl) ?_))))))
      first | exact congrArg V.bool hne.symm | exact congrArg V.bool hq | (refine congrArg V.bool ?_; rw [hst, mat1_eq]; clear hst hq; simp_all; done)
     refine Zi1 (Zb1 (Zb1 (Zi (Zd ?_))))
     refine Zc (Zh2 rfl rfl (by omega) ?_)
     refine Zc (Zl rfl (Za (Zi ?_)))
     exact ⟨k + 1, (by (try simp only []); omega), ⟨by omega, by first | (rw [hst, hmt, Bool.true_and]; done) | (rw [hst, mat1_eq]; clear hst hq; simp_all; done)⟩, ⟨rfl, rfl, rfl, rfl, trivial⟩, (Drops.nil _)⟩
    refine Zk1 hq69 ?_
    refine Zk1 hq69 ?_
    refine Zk1 hq69 ?_
    refine Zc (Zt1 rfl hq69 rfl ?_)
    refine Zc (Zk rfl (Za (Zi ?_)))
    refine Zq1 rfl rfl ?_
    refine Zi1 (Zb1 (Zb1 (Zi (Zd ?_))))
    refine Zc (Zh2 rfl rfl (by omega) ?_)
    refine Zc (Zl rfl (Za (Zi ?_)))
    exact ⟨k + 1, (by (try simp only []); omega), ⟨by omega, by first | (rw [hst, hmt, Bool.true_and]; done) | (rw [hst, mat1_eq]; clear hst hq; simp_all; done)⟩, ⟨rfl, rfl, rfl, rfl, trivial⟩, (Drops.nil _)⟩
   refine Zk1 hq46 ?_
   refine Zk1 hq46 ?_
   refine Zk1 hq46 ?_
   refine Zk1 hq46 ?_
   refine Zh (.inr ⟨_, _, 50, rfl, rfl, rfl⟩) rfl ?_
   refine Zh (.inr ⟨_, _, 50, rfl, rfl, rfl⟩) rfl ?_
   refine Zh (.inr ⟨_, _, 50, rfl, rfl, rfl⟩) rfl ?_
   refine Zh (.inr ⟨_, _, 50, rfl, rfl, rfl⟩) rfl ?_
   refine Zh (.inr ⟨_, _, 50, rfl, rfl, rfl⟩) rfl ?_
   refine Zk1 hq46 ?_
   refine Zk1 hq46 ?_
   refine Zh (.inr ⟨_, _, 57, rfl, rfl, rfl⟩) rfl ?_
   refine Zh (.inr ⟨_, _, 57, rfl, rfl, rfl⟩) rfl ?_
   refine Zh (.inr ⟨_, _, 57, rfl, rfl, rfl⟩) rfl ?_
   refine Zh (.inr ⟨_, _, 57, rfl, rfl, rfl⟩) rfl ?_
   refine Zh (.inr ⟨_, _, 57, rfl, rfl, rfl⟩) rfl ?_
   refine Zh (.inr ⟨_, _, 57, rfl, rfl, rfl⟩) rfl ?_
   refine Zk1 hq46 ?_
   refine Zc (Zt1 rfl hq46 rfl ?_)
   refine Zc (Zk rfl (Za (Zi ?_)))
   refine Zq1 rfl rfl ?_
   refine Zd (Zc (Zj VT.fa75_0 rfl (Zc (Zu 1 VT.ty3 rfl rfl rfl (Zc (Zj1 rfl rfl rfl (Zc (Zl rfl ?_))))))))
   refine Zj2 (q := 69) rfl (λ hq69 => ?_) (λ hq69 => ?_)
   .
    refine Zc (Zj VT.fa75_0 rfl ?_) (Zy1 hq69)
    refine Zc (Zu 1 VT.ty3 rfl rfl rfl ?_) (Zy1 hq69)
    refine Zc (Zj1 rfl rfl rfl ?_) (Zy1 hq69)
    refine Zc (Zs1 rfl hq69 rfl ?_)
    refine Zc (Zk rfl (Za (Zi ?_)))
    refine Zm1 rfl (λ h27 => ?_) (λ h27 => ?_)
    .
     refine Zb (Zd (Zc (Zk rfl (Za (Zi (Zf1 ?_))))))
     refine Za1 (Za1 (Zd1 (Zd1 (Za1 (Zd1 (Zg1 rfl (.tmp rfl) ?_))))))
     first | exact congrArg V.bool hne.symm | exact congrArg V.bool hq | (refine congrArg V.bool ?_; rw [hst, mat1_eq]; clear hst hq; simp_all; done)
    refine Zi1 (Zb1 (Zb1 (Zi (Zd ?_))))
    refine Zc (Zh2 rfl rfl (by omega) ?_)
    refine Zc (Zl rfl (Za (Zi ?_)))
    exact ⟨k + 1, (by (try simp only []); omega), ⟨by omega, by first | (rw [hst, hmt, Bool.true_and]; done) | (rw [hst, mat1_eq]; clear hst hq; simp_all; done)⟩, ⟨rfl, rfl, rfl, rfl, trivial⟩, (Drops.nil _)⟩
   refine Zk1 hq69 ?_
   refine Zk1 hq69 ?_
   refine Zk1 hq69 ?_
   refine Zc (Zt1 rfl hq69 rfl ?_)
   refine Zc (Zk rfl (Za (Zi ?_)))
   refine Zq1 rfl rfl ?_
   refine Zi1 (Zb1 (Zb1 (Zi (Zd ?_))))
   refine Zc (Zh2 rfl rfl (by omega) ?_)
   refine Zc (Zl rfl (Za (Zi ?_)))
   exact ⟨k + 1, (by (try simp only []); omega), ⟨by omega, by first | (rw [hst, hmt, Bool.true_and]; done) | (rw [hst, mat1_eq]; clear hst hq; simp_all; done)⟩, ⟨rfl, rfl, rfl, rfl, trivial⟩, (Drops.nil _)⟩
  refine Zk1 hq31 ?_
  refine Zk1 hq31 ?_
  refine Zk1 hq31 ?_
  refine Zk1 hq31 ?_
  refine Zh (.inr ⟨_, _, 35, rfl, rfl, rfl⟩) rfl ?_
  refine Zh (.inr ⟨_, _, 35, rfl, rfl, rfl⟩) rfl ?_
  refine Zh (.inr ⟨_, _, 35, rfl, rfl, rfl⟩) rfl ?_
  refine Zh (.inr ⟨_, _, 35, rfl, rfl, rfl⟩) rfl ?_
  refine Zh (.inr ⟨_, _, 35, rfl, rfl, rfl⟩) rfl ?_
  refine Zk1 hq31 ?_
  refine Zc (Zt1 rfl hq31 rfl ?_)
  refine Zc (Zk rfl (Za (Zi ?_)))
  refine Zq1 rfl rfl ?_
  refine Zb (Zd (Zc (Zj VT.fa75_0 rfl (Zc (Zu 1 VT.ty3 rfl rfl rfl (Zc (Zj1 rfl rfl rfl (Zc (Zl rfl ?_)))))))))
  refine Zj2 (q := 46) rfl (λ hq46 => ?_) (λ hq46 => ?_)
  .
   refine Zc (Zj VT.fa75_0 rfl ?_) (Zy1 hq46)
   refine Zc (Zu 0 VT.ty3 rfl rfl rfl ?_) (Zy1 hq46)
   refine Zc (Zj1 rfl rfl rfl ?_) (Zy1 hq46)
   refine Zc (Zl rfl ?_) (Zy1 hq46)
   refine Zj2 (q := 50) rfl (λ hq50 => ?_) (λ hq50 => ?_)
   .
    refine Zk0 hq50 ?_
    refine Zk0 hq50 ?_
    refine Zk0 hq50 ?_
    refine Zk0 hq50 ?_
    refine Zk0 hq50 ?_
    refine Zc (Zs1 rfl hq50 rfl ?_) (Zy1 hq46)
    refine Zc (Zl rfl ?_) (Zy1 hq46)
    refine Zk0 rfl ?_
    refine Zk0 rfl ?_
    refine Zk0 rfl ?_
    refine Zk0 rfl ?_
    refine Zk0 rfl ?_
    refine Zk0 rfl ?_
    refine Zc (Zs1 rfl rfl rfl ?_) (Zy1 hq46)
    refine Zc (Zs1 rfl hq46 rfl ?_)
    refine Zc (Zk rfl (Za (Zi ?_)))
    refine Zp1 rfl rfl ?_
    refine Zi1 (Zi ?_)
    refine Zp1 rfl rfl ?_
    refine Zb (Zd (Zc (Zk rfl (Za (Zi (Zf1 ?_))))))
    refine Za1 (Za1 (Zd1 (Zd1 (Za1 (Zd1 (Zg1 rfl (.tmp rfl) ?_))))))
    first | exact congrArg V.bool hne.symm | exact congrArg V.bool hq | (refine congrArg V.bool ?_; rw [hst, mat1_eq]; clear hst hq; simp_all; done)
   refine Zc (Zj VT.fa75_1 rfl ?_) (Zy0 hq50)
   refine Zc (Zu 0 VT.ty9 rfl rfl rfl ?_) (Zy0 hq50)
   refine Zc (Zj VT.fa75_1 rfl ?_) (Zy0 hq50)
   refine Zc (Zu 1 VT.ty9 rfl rfl rfl ?_) (Zy0 hq50)
   refine Zc (V_strne rfl rfl ?_) (Zy0 hq50)
   refine Zc (Zt1 rfl hq50 rfl ?_) (Zy1 hq46)
   refine Zc (Zl rfl ?_) (Zy1 hq46)
   refine Zj2 (q := 57) rfl (λ hq57 => ?_) (λ hq57 => ?_)
   .
    refine Zk0 hq57 ?_
    refine Zk0 hq57 ?_
    refine Zk0 hq57 ?_
    refine Zk0 hq57 ?_
    refine Zk0 hq57 ?_
    refine Zk0 hq57 ?_
    refine Zc (Zs1 rfl hq57 rfl ?_) (Zy1 hq46)
    refine Zc (Zs1 rfl hq46 rfl ?_)
    refine Zc (Zk rfl (Za (Zi ?_)))
    refine Zp1 rfl rfl ?_
    refine Zi1 (Zi ?_)
    refine Zp1 rfl rfl ?_
    refine Zb (Zd (Zc (Zk rfl (Za (Zi (Zf1 ?_))))))
    refine Za1 (Za1 (Zd1 (Zd1 (Za1 (Zd1 (Zg1 rfl (.tmp rfl) ?_))))))
    first | exact congrArg V.bool hne.symm | exact congrArg V.bool hq | (refine congrArg V.bool ?_; rw [hst, mat1_eq]; clear hst hq; simp_all; done)
   refine Zc (Zj VT.fa75_3 rfl ?_) (Zy0 hq57)
   refine Zc (Zu 1 VT.ty24 rfl rfl rfl ?_) (Zy0 hq57)
   refine Zc (Zj VT.fa75_3 rfl ?_) (Zy0 hq57)
   refine Zc (Zu 0 VT.ty24 rfl rfl rfl ?_) (Zy0 hq57)
   refine Zc (Zx1 [.tmp 59, .tmp 61] rfl rfl VT.en22 (ih p.args v.args hlt) ?_) (Zy0 hq57)
   refine Zc (Zl2 rfl ?_) (Zy0 hq57)
   refine Zc (Zt1 rfl hq57 rfl ?_) (Zy1 hq46)
   refine Zc (Zs1 rfl hq46 rfl ?_)
   refine Zc (Zk rfl (Za (Zi ?_)))
   refine Zo1 rfl (λ h27 => ?_) (λ h27 => ?_)
   .
    refine Zi1 (Zi ?_)
    refine Zo1 rfl (λ h27 => ?_) (λ h27 => ?_)
    .
     refine Zb (Zd (Zc (Zk rfl (Za (Zi (Zf1 ?_))))))
     refine Za1 (Za1 (Zd1 (Zd1 (Za1 (Zd1 (Zg1 rfl (.tmp rfl) ?_))))))
     first | exact congrArg V.bool hne.symm | exact congrArg V.bool hq | (refine congrArg V.bool ?_; rw [hst, mat1_eq]; clear hst hq; simp_all; done)
    refine Zi1 (Zb1 (Zb1 (Zi (Zd ?_))))
    refine Zc (Zh2 rfl rfl (by omega) ?_)
    refine Zc (Zl rfl (Za (Zi ?_)))
    exact ⟨k + 1, (by (try simp only []); omega), ⟨by omega, by first | (rw [hst, hmt, Bool.true_and]; done) | (rw [hst, mat1_eq]; clear hst hq; simp_all; done)⟩, ⟨rfl, rfl, rfl, rfl, trivial⟩, (Drops.nil _)⟩
   refine Zd (Zc (Zj VT.fa75_0 rfl (Zc (Zu 1 VT.ty3 rfl rfl rfl (Zc (Zj1 rfl rfl rfl (Zc (Zl rfl ?_))))))))
   refine Zj2 (q := 69) rfl (λ hq69 => ?_) (λ hq69 => ?_)
   .
    refine Zc (Zj VT.fa75_0 rfl ?_) (Zy1 hq69)
    refine Zc (Zu 1 VT.ty3 rfl rfl rfl ?_) (Zy1 hq69)
    refine Zc (Zj1 rfl rfl rfl ?_) (Zy1 hq69)
    refine Zc (Zs1 rfl hq69 rfl ?_)
    refine Zc (Zk rfl (Za (Zi ?_)))
    refine Zm1 rfl (λ h27 => ?_) (λ h27 => ?_)
    .
     refine Zb (Zd (Zc (Zk rfl (Za (Zi (Zf1 ?_))))))
     refine Za1 (Za1 (Zd1 (Zd1 (Za1 (Zd1 (Zg1 rfl (.tmp rfl) ?_))))))
     first | exact congrArg V.bool hne.symm | exact congrArg V.bool hq | (refine congrArg V.bool ?_; rw [hst, mat1_eq]; clear hst hq; simp_all; done)
    refine Zi1 (Zb1 (Zb1 (Zi (Zd ?_))))
    refine Zc (Zh2 rfl rfl (by omega) ?_)
    refine Zc (Zl rfl (Za (Zi ?_)))
    exact ⟨k + 1, (by (try simp only []); omega), ⟨by omega, by first | (rw [hst, hmt, Bool.true_and]; done) | (rw [hst, mat1_eq]; clear hst hq; simp_all; done)⟩, ⟨rfl, rfl, rfl, rfl, trivial⟩, (Drops.nil _)⟩
   refine Zk1 hq69 ?_
   refine Zk1 hq69 ?_
   refine Zk1 hq69 ?_
   refine Zc (Zt1 rfl hq69 rfl ?_)
   refine Zc (Zk rfl (Za (Zi ?_)))
   refine Zq1 rfl rfl ?_
   refine Zi1 (Zb1 (Zb1 (Zi (Zd ?_))))
   refine Zc (Zh2 rfl rfl (by omega) ?_)
   refine Zc (Zl rfl (Za (Zi ?_)))
   exact ⟨k + 1, (by (try simp only []); omega), ⟨by omega, by first | (rw [hst, hmt, Bool.true_and]; done) | (rw [hst, mat1_eq]; clear hst hq; simp_all; done)⟩, ⟨rfl, rfl, rfl, rfl, trivial⟩, (Drops.nil _)⟩
  refine Zk1 hq46 ?_
  refine Zk1 hq46 ?_
  refine Zk1 hq46 ?_
  refine Zk1 hq46 ?_
  refine Zh (.inr ⟨_, _, 50, rfl, rfl, rfl⟩) rfl ?_
  refine Zh (.inr ⟨_, _, 50, rfl, rfl, rfl⟩) rfl ?_
  refine Zh (.inr ⟨_, _, 50, rfl, rfl, rfl⟩) rfl ?_
  refine Zh (.inr ⟨_, _, 50, rfl, rfl, rfl⟩) rfl ?_
  refine Zh (.inr ⟨_, _, 50, rfl, rfl, rfl⟩) rfl ?_
  refine Zk1 hq46 ?_
  refine Zk1 hq46 ?_
  refine Zh (.inr ⟨_, _, 57, rfl, rfl, rfl⟩) rfl ?_
  refine Zh (.inr ⟨_, _, 57, rfl, rfl, rfl⟩) rfl ?_
  refine Zh (.inr ⟨_, _, 57, rfl, rfl, rfl⟩) rfl ?_
  refine Zh (.inr ⟨_, _, 57, rfl, rfl, rfl⟩) rfl ?_
  refine Zh (.inr ⟨_, _, 57, rfl, rfl, rfl⟩) rfl ?_
  refine Zh (.inr ⟨_, _, 57, rfl, rfl, rfl⟩) rfl ?_
  refine Zk1 hq46 ?_
  refine Zc (Zt1 rfl hq46 rfl ?_)
  refine Zc (Zk rfl (Za (Zi ?_)))
  refine Zq1 rfl rfl ?_
  refine Zd (Zc (Zj VT.fa75_0 rfl (Zc (Zu 1 VT.ty3 rfl rfl rfl (Zc (Zj1 rfl rfl rfl (Zc (Zl rfl ?_))))))))
  refine Zj2 (q := 69) rfl (λ hq69 => ?_) (λ hq69 => ?_)
  .
   refine Zc (Zj VT.fa75_0 rfl ?_) (Zy1 hq69)
   refine Zc (Zu 1 VT.ty3 rfl rfl rfl ?_) (Zy1 hq69)
   refine Zc (Zj1 rfl rfl rfl ?_) (Zy1 hq69)
   refine Zc (Zs1 rfl hq69 rfl ?_)
   refine Zc (Zk rfl (Za (Zi ?_)))
   refine Zm1 rfl (λ h27 => ?_) (λ h27 => ?_)
   .
    refine Zb (Zd (Zc (Zk rfl (Za (Zi (Zf1 ?_))))))
    refine Za1 (Za1 (Zd1 (Zd1 (Za1 (Zd1 (Zg1 rfl (.tmp rfl) ?_))))))
    first | exact congrArg V.bool hne.symm | exact congrArg V.bool hq | (refine congrArg V.bool ?_; rw [hst, mat1_eq]; clear hst hq; simp_all; done)
   refine Zi1 (Zb1 (Zb1 (Zi (Zd ?_))))
   refine Zc (Zh2 rfl rfl (by omega) ?_)
   refine Zc (Zl rfl (Za (Zi ?_)))
   exact ⟨k + 1, (by (try simp only []); omega), ⟨by omega, by first | (rw [hst, hmt, Bool.true_and]; done) | (rw [hst, mat1_eq]; clear hst hq; simp_all; done)⟩, ⟨rfl, rfl, rfl, rfl, trivial⟩, (Drops.nil _)⟩
  refine Zk1 hq69 ?_
  refine Zk1 hq69 ?_
  refine Zk1 hq69 ?_
  refine Zc (Zt1 rfl hq69 rfl ?_)
  refine Zc (Zk rfl (Za (Zi ?_)))
  refine Zq1 rfl rfl ?_
  refine Zi1 (Zb1 (Zb1 (Zi (Zd ?_))))
  refine Zc (Zh2 rfl rfl (by omega) ?_)
  refine Zc (Zl rfl (Za (Zi ?_)))
  exact ⟨k + 1, (by (try simp only []); omega), ⟨by omega, by first | (rw [hst, hmt, Bool.true_and]; done) | (rw [hst, mat1_eq]; clear hst hq; simp_all; done)⟩, ⟨rfl, rfl, rfl, rfl, trivial⟩, (Drops.nil _)⟩
 have hke : k = r.length := by omega
 subst hke
 rw [Ye, hll, Ye, matsL] at hq
 refine Zt (Ze1 (Ze1 (Zc1 (Zi (Zb (Zd (Zc (Zk rfl (Za (Zi (Zf1 ?_)))))))))))
 refine Zg1 rfl (.tmp rfl) ?_
 first | exact congrArg V.bool hne.symm | exact congrArg V.bool hq | (refine congrArg V.bool ?_; rw [hst, mat1_eq]; clear hst hq; simp_all; done)
theorem matches_n : ∀ (n : Nat) (r vs : List Pat), cL r < n -> VPure Tryz.prog 22 [patsX r, patsX vs] (.bool (matsL r vs))
 | 0, r, vs, h => absurd h (Nat.not_lt_zero _)
 | n + 1, r, vs, h => matches_step n (λ r vs h => matches_n n r vs h) r vs h
theorem matches_c (r vs : List Pat) : VPure Tryz.prog 22 [patsX r, patsX vs] (.bool (matsL r vs)) := matches_n (cL r + 1) r vs (Nat.lt_succ_self _)
theorem first_c (rows : List (List Pat)) (vals : List Pat) : VPure Tryz.prog 9 [rowsX rows, patsX vals] (.int (firstR rows vals)) := by
 refine V_start (nt := 19) Tryz.func9 rfl rfl rfl ?_
 refine Zb (Zd (Zc (Zk rfl (Za (Zi (Zb (Zb (Zd (Zc (Zl rfl ?_))))))))))
 refine Zc (Zd2 (n := rows.length) Tryz.underlying23 rfl (by simp) (λ hl8 => ?_))
 refine Zc (Zl rfl (Za (Zi (Zs ?_))))
 refine Zi2 (ι := Nat) (λ k => rows.length - k) (λ k => [(1, some (patsX vals)), (7, some (rowsX rows)), (8, some (.int rows.length)), (9, some (.int k))]) (λ k => []) (λ k => k <= rows.length /\ (rows.take k).any (λ r => matsL r vals) = false) 0 ⟨Yg _, rfl⟩ ⟨rfl, rfl, rfl, rfl, trivial⟩ (Drops.nil _) ?_
 rintro k hA
 change k <= rows.length /\ (rows.take k).any (λ r => matsL r vals) = false at hA
 obtain ⟨hk, hany⟩ := hA
 refine Zb (Zd (Zc (Zj1 rfl rfl rfl (Za (Zi (Zb ?_))))))
 refine Zn1 rfl (λ h10 => ?_) (λ h10 => ?_)
 .
  obtain ⟨r, hr⟩ := get_of_lt rows k h10
  refine Zi1 (Zi (Zb (Zs (Zb (Zd (Zc (Zl rfl ?_)))))))
  refine Zc (Zz (el := patsX r) VT.sl23 rfl rfl (by omega) (get_mapS _ hr) (λ a12 => ?_))
  refine Zc (Zz1 VT.ty24 rfl rfl (Zc (Zk rfl (Zc (Zk rfl (Za (Zi (Zb (Zd (Zc (Zl rfl (Zc (Zl rfl ?_)))))))))))))
  refine Zc (Zx1 [.tmp 14, .tmp 15] rfl rfl VT.en22 (matches_c r vals) ?_)
  refine Za (Zi ?_)
  refine Zr1 rfl (λ h16 => ?_) (λ h16 => ?_)
  .
   refine Zb (Zd (Zc (Zl rfl (Zc (Zk rfl (Za (Zi (Zf1 ?_))))))))
   refine Za1 (Zd1 (Zd1 (Za1 (Zd1 (Zg1 rfl (.tmp rfl) ?_)))))
   exact congrArg V.int (idxOf_at (λ r => matsL r vals) hr hany h16).symm
  refine Zi1 (Zb1 (Zi (Zd ?_)))
  refine Zc (Zh2 rfl rfl (by omega) ?_)
  refine Zc (Zl rfl (Za (Zi ?_)))
  exact ⟨k + 1, (by (try simp only []); omega), ⟨by omega, any_snoc hr hany h16⟩, ⟨rfl, rfl, rfl, rfl, trivial⟩, (Drops.nil _)⟩
 have hke : k = rows.length := by omega
 subst hke
 rw [Yb] at hany
 refine Zt (Ze1 (Ze1 (Zc1 (Zi (Zb (Zd (Zc (Zk rfl (Za (Zi (Zf1 ?_)))))))))))
 refine Zg1 rfl (.tmp rfl) ?_
 exact congrArg V.int (idxOf_none (λ r => matsL r vals) hany).symm
theorem typed_c (ds : List DataSig) (rows : List (List Pat)) (vals : List Pat) : VPure Tryz.prog 7 [datasX ds, rowsX rows, patsX vals] (.bool (typedB ds rows vals)) := by
 have hK := knownL_c (cL vals + 1) vals (Nat.lt_succ_self _)
 have hCk := Check_c ds (rows ++ [vals])
 refine V_start (nt := 30) Tryz.func7 rfl rfl rfl ?_
 refine Zb (Zd (Zc (Zk rfl (Za (Zi (Zb (Zd (Zc (Zl rfl ?_)))))))))
 refine Zc (Zx1 [.tmp 7] rfl rfl VT.en17 (hK) ?_)
 refine Zc (Zl rfl ?_)
 refine Zj2 (q := 9) rfl (λ hq9 => ?_) (λ hq9 => ?_)
 .
  refine Zc (Zl rfl ?_) (Zy1 hq9)
  refine Zc (Zd2 (n := rows.length) Tryz.underlying23 rfl (by simp) (λ hl11 => ?_)) (Zy1 hq9)
  refine Zc (Zj1 rfl rfl rfl ?_) (Zy1 hq9)
  refine Zc (Zs1 rfl hq9 rfl ?_)
  refine Zc (Zl rfl ?_)
  refine Zj2 (q := 14) rfl (λ hq14 => ?_) (λ hq14 => ?_)
  .
   refine Zc (Zl rfl ?_) (Zy1 hq14)
   refine Zc (Zd2 (n := rows.length) Tryz.underlying23 rfl (by simp) (λ hl16 => ?_)) (Zy1 hq14)
   refine Zc (Zj1 rfl rfl rfl ?_) (Zy1 hq14)
   refine Zc (Zs1 rfl hq14 rfl ?_)
   refine Zc (Zl rfl ?_)
   refine Zj2 (q := 19) rfl (λ hq19 => ?_) (λ hq19 => ?_)
   .
    have hr64 : rows.length < 64 := by have := of_decide_eq_true hq19; omega
    refine Zc (Zl rfl ?_) (Zy1 hq19)
    refine Zc (V_lit0 [] VT.sl23 rfl rfl rfl rfl rfl rfl ?_) (Zy1 hq19)
    refine Zc (Zl rfl ?_) (Zy1 hq19)
    refine Zc (V_append0 VT.sl23 rfl rfl (by simp; omega) (λ t23 => ?_)) (Zy1 hq19)
    refine Zc (Zl rfl ?_) (Zy1 hq19)
    refine Zc (Zk3 [.tmp 24] VT.sl23 rfl rfl rfl rfl rfl ?_) (Zy1 hq19)
    refine Zc (V_appendEnd 0 _ VT.sl23 rfl rfl rfl (by simp) (by simp; omega) (zs := (rows ++ [vals]).map patsX) (by simp) ?_) (Zy1 hq19)
    refine Zc (Zx1 [.tmp 20, .tmp 26] rfl rfl VT.en12 (hCk) ?_) (Zy1 hq19)
    refine Zc (Zj1 rfl rfl rfl ?_) (Zy1 hq19)
    refine Zc (Zs1 rfl hq19 rfl ?_)
    refine Zc (Zk rfl (Za (Zi (Zf1 ?_))))
    refine Zg1 rfl (.tmp rfl) ?_
    refine congrArg V.bool ?_
    unfold typedB
    first | (rw [hq9, hq14, hq19, Bool.true_and, Bool.true_and, Bool.true_and]; exact Bool.beq_eq_decide_eq _ _) | (rw [hq19, Bool.false_and, Bool.and_false, Bool.and_false]) | (rw [hq14, Bool.false_and, Bool.and_false]) | (rw [hq9, Bool.false_and])
   refine Zk1 hq19 ?_
   refine Zk1 hq19 ?_
   refine Zk1 hq19 ?_
   refine Zk1 hq19 ?_
   refine Zk1 hq19 ?_
   refine Zk1 hq19 ?_
   refine Zk1 hq19 ?_
   refine Zk1 hq19 ?_
   refine Zk1 hq19 ?_
   refine Zc (Zt1 rfl hq19 rfl ?_)
   refine Zc (Zk rfl (Za (Zi (Zf1 ?_))))
   refine Zg1 rfl (.tmp rfl) ?_
   refine congrArg V.bool ?_
   unfold typedB
   first | (rw [hq9, hq14, hq19, Bool.true_and, Bool.true_and, Bool.true_and]; exact Bool.beq_eq_decide_eq _ _) | (rw [hq19, Bool.false_and, Bool.and_false, Bool.and_false]) | (rw [hq14, Bool.false_and, Bool.and_false]) | (rw [hq9, Bool.false_and])
  refine Zk1 hq14 ?_
  refine Zk1 hq14 ?_
  refine Zk1 hq14 ?_
  refine Zc (Zt1 rfl hq14 rfl ?_)
  refine Zc (Zl rfl ?_)
  refine Zk1 rfl ?_
  refine Zk1 rfl ?_
  refine Zk1 rfl ?_
  refine Zk1 rfl ?_
  refine Zk1 rfl ?_
  refine Zk1 rfl ?_
  refine Zk1 rfl ?_
  refine Zk1 rfl ?_
  refine Zk1 rfl ?_
  refine Zc (Zt1 rfl rfl rfl (Zc (Zk rfl (Za (Zi (Zf1 ?_))))))
  refine Zg1 rfl (.tmp rfl) ?_
  refine congrArg V.bool ?_
  unfold typedB
  first | (rw [hq9, hq14, hq19, Bool.true_and, Bool.true_and, Bool.true_and]; exact Bool.beq_eq_decide_eq _ _) | (rw [hq19, Bool.false_and, Bool.and_false, Bool.and_false]) | (rw [hq14, Bool.false_and, Bool.and_false]) | (rw [hq9, Bool.false_and])
 refine Zk1 hq9 ?_
 refine Zk1 hq9 ?_
 refine Zk1 hq9 ?_
 refine Zc (Zt1 rfl hq9 rfl ?_)
 refine Zc (Zl rfl ?_)
 refine Zk1 rfl ?_
 refine Zk1 rfl ?_
 refine Zk1 rfl ?_
 refine Zc (Zt1 rfl rfl rfl (Zc (Zl rfl ?_)))
 refine Zk1 rfl ?_
 refine Zk1 rfl ?_
 refine Zk1 rfl ?_
 refine Zk1 rfl ?_
 refine Zk1 rfl ?_
 refine Zk1 rfl ?_
 refine Zk1 rfl ?_
 refine Zk1 rfl ?_
 refine Zk1 rfl ?_
 refine Zc (Zt1 rfl rfl rfl (Zc (Zk rfl (Za (Zi (Zf1 ?_))))))
 refine Zg1 rfl (.tmp rfl) ?_
 refine congrArg V.bool ?_
 unfold typedB
 first | (rw [hq9, hq14, hq19, Bool.true_and, Bool.true_and, Bool.true_and]; exact Bool.beq_eq_decide_eq _ _) | (rw [hq19, Bool.false_and, Bool.and_false, Bool.and_false]) | (rw [hq14, Bool.false_and, Bool.and_false]) | (rw [hq9, Bool.false_and])
theorem topNoMissing_c (ds : List DataSig) (hz : Sized ds) (rows : List (List Pat)) (vals : List Pat) (works_c : VPure Tryz.prog 5 [] (.bool true)) : VPure Tryz.prog 4 [datasX ds, rowsX rows, patsX vals] (.bool true) := by
 have hT := typed_c ds rows vals
 have hC := compile_c ds hz rows
 have hM := Missing_c ds (checkTy hz) rows (width rows)
 refine V_start (nt := 73) Tryz.func4 rfl rfl rfl ?_
 refine Zb (Zd (Zc (Zk rfl (Za (Zi (Zb (Zb (Zd ?_))))))))
 refine Zc (Zx1 [] rfl rfl VT.en5 (works_c) ?_)
 refine Zc (Zl2 rfl (Za (Zi ?_)))
 refine Zq1 rfl (rfl) ?_
 refine Zi1 (Zi (Zb (Zb (Zd (Zc (Zl rfl (Zc (Zl rfl (Zc (Zl rfl ?_))))))))))
 refine Zc (Zx1 [.tmp 15, .tmp 16, .tmp 17] rfl rfl VT.en7 (hT) ?_)
 refine Zc (Zl2 rfl (Za (Zi ?_)))
 refine Zo1 rfl (λ h19 => ?_) (λ h19 => ?_)
 .
  refine Zb (Zd (Zc (Zk rfl (Za (Zi (Zf1 ?_))))))
  refine Zd1 (Zg1 rfl (.tmp rfl) ?_)
  first | rfl | (simp_all; done)
 have hty : typedB ds rows vals = true := by simpa using h19
 obtain ⟨hk, hne, _, hck⟩ := typedB_iff hty
 obtain ⟨r0, rs, hr0⟩ := List.exists_cons_of_ne_nil hne
 have hw : width rows = r0.length := by rw [hr0]; rfl
 have hmiss := top_missing hz hne hck hk
 refine Zi1 (Zi (Zb (Zd (Zc (Zl rfl (Zc (Zl rfl (Zc (Zl rfl ?_)))))))))
 refine Zc (Zz (el := patsX r0) VT.sl23 rfl rfl (by omega) (by rw [hr0]; rfl) (λ a24 => ?_))
 refine Zc (Zz1 VT.ty24 rfl rfl ?_)
 refine Zc (Zu2 (Zd2 (n := r0.length) Tryz.underlying24 rfl (by simp) (λ hl26 => ⟨rfl, rfl⟩)) (V.le.of_eq (v' := .int (width rows)) (by rw [hw])) ?_)
 refine Zc (Zx1 [.tmp 21, .tmp 22, .tmp 26] rfl rfl VT.en10 (hM) ?_)
 refine Zc (Zl rfl (Zc (Zg2 rfl rfl (Zc (Zg2 rfl rfl (Zc (Zk rfl (Zc (Zk rfl (Za (Zi (Zb (Zd (Zc (Zl rfl (Zc (Zl rfl ?_)))))))))))))))))
 refine Zc (Zx1 [.tmp 31, .tmp 32] rfl rfl VT.en6 (hC) ?_)
 refine Zc (Zl rfl (Zc (Zg2 rfl rfl (Zc (Zg2 rfl rfl (Zc (Zk rfl (Zc (Zk rfl (Za (Zi (Zb (Zb (Zd (Zc (Zl rfl (Zc (Zj1 rfl rfl rfl (Zc (Zl rfl ?_))))))))))))))))))))
 refine Zj2 (q := 38) rfl (λ hq38 => ?_) (λ hq38 => ?_)
 .
  refine Zk0 hq38 ?_
  refine Zk0 hq38 ?_
  refine Zc (Zs1 rfl hq38 rfl ?_)
  refine Zc (Zl rfl ?_)
  refine Zk0 rfl ?_
  refine Zk0 rfl ?_
  refine Zk0 rfl ?_
  refine Zc (Zs1 rfl rfl rfl (Zc (Zl rfl ?_)))
  refine Zk0 rfl ?_
  refine Zk0 rfl ?_
  refine Zk0 rfl ?_
  refine Zc (Zs1 rfl rfl rfl (Za (Zi ?_)))
  refine Zp1 rfl rfl ?_
  refine Zb (Zd (Zc (Zl rfl (Zc (Zj1 rfl rfl rfl (Zc (Zk rfl (Za (Zi (Zf1 ?_))))))))))
  refine Zd1 (Zg1 rfl (.tmp rfl) ?_)
  first | rfl | (simp_all; done)
 refine Zc (Zl rfl ?_) (Zy0 hq38)
 refine Zc (Zj1 rfl rfl rfl ?_) (Zy0 hq38)
 refine Zc (Zt1 rfl hq38 rfl ?_)
 refine Zc (Zl rfl ?_)
 refine Zj2 (q := 42) rfl (λ hq42 => ?_) (λ hq42 => ?_)
 .
  refine Zk0 hq42 ?_
  refine Zk0 hq42 ?_
  refine Zk0 hq42 ?_
  refine Zc (Zs1 rfl hq42 rfl ?_)
  refine Zc (Zl rfl ?_)
  refine Zk0 rfl ?_
  refine Zk0 rfl ?_
  refine Zk0 rfl ?_
  refine Zc (Zs1 rfl rfl rfl (Za (Zi ?_)))
  refine Zp1 rfl rfl ?_
  refine Zb (Zd (Zc (Zl rfl (Zc (Zj1 rfl rfl rfl (Zc (Zk rfl (Za (Zi (Zf1 ?_))))))))))
  refine Zd1 (Zg1 rfl (.tmp rfl) ?_)
  first | rfl | (simp_all; done)
 have he : (compOut ds rows).2 = 0 := by first | (simpa using hq42) | exact absurd hq42 (by simp)
 refine Zc (Zl rfl ?_) (Zy0 hq42)
 refine Zc (Zd2 (n := (missOut ds rows (width rows)).1.length) Tryz.underlying24 rfl (by simp) (λ hl44 => ?_)) (Zy0 hq42)
 refine Zc (Zj1 rfl rfl rfl ?_) (Zy0 hq42)
 refine Zc (Zt1 rfl hq42 rfl ?_)
 refine Zc (Zl rfl ?_)
 refine Zj2 (q := 47) rfl (λ hq47 => ?_) (λ hq47 => ?_)
 .
  refine Zk0 hq47 ?_
  refine Zk0 hq47 ?_
  refine Zk0 hq47 ?_
  refine Zc (Zs1 rfl hq47 rfl ?_)
  refine Za (Zi ?_)
  refine Zp1 rfl rfl ?_
  refine Zb (Zd (Zc (Zl rfl (Zc (Zj1 rfl rfl rfl (Zc (Zk rfl (Za (Zi (Zf1 ?_))))))))))
  refine Zd1 (Zg1 rfl (.tmp rfl) ?_)
  first | rfl | (simp_all; done)
 have hm0 : (missOut ds rows (width rows)).1.length = 0 := by first | (simp at hq47; omega) | (simpa using hq47)
 refine Zc (Zl rfl ?_) (Zy0 hq47)
 refine Zc (Zd2 (n := vals.length) Tryz.underlying24 rfl (by simp) (λ hl49 => ?_)) (Zy0 hq47)
 refine Zc (Zj1 rfl rfl rfl ?_) (Zy0 hq47)
 refine Zc (Zt1 rfl hq47 rfl ?_)
 refine Za (Zi ?_)
 refine Zl1 rfl (λ h51 => ?_) (λ h51 => ?_)
 .
  refine Zb (Zd (Zc (Zl rfl (Zc (Zj1 rfl rfl rfl (Zc (Zk rfl (Za (Zi (Zf1 ?_))))))))))
  refine Zd1 (Zg1 rfl (.tmp rfl) ?_)
  first | rfl | (simp_all; done)
 have hv0 : vals ≠ [] := λ e => by rw [e] at h51; simp at h51
 obtain ⟨hf0, hf1⟩ := hmiss.2 hv0 hm0
 obtain ⟨t, hb, g1, g2, g3, _⟩ := once_law hz he
 have hR := run_c ds t hb _ g1 g2 g3 vals _ (top_match hz hne hck hk he)
 refine Zi1 (Zi (Zb (Zd (Zc (Zl rfl (Zc (Zl rfl (Zc (Zl rfl ?_)))))))))
 refine Zc (Zx1 [.tmp 55, .tmp 56, .tmp 57] rfl rfl VT.en8 (hR) ?_)
 refine Zc (Zl rfl (Zc (Zg2 rfl rfl (Zc (Zg2 rfl rfl (Zc (Zk rfl (Zc (Zk rfl (Za (Zi (Zb (Zd (Zc (Zl rfl (Zc (Zj1 rfl rfl rfl (Zc (Zl rfl ?_)))))))))))))))))))
 refine Zj2 (q := 63) rfl (λ hq63 => ?_) (λ hq63 => ?_)
 .
  refine Zc (Zl rfl ?_) (Zy1 hq63)
  refine Zc (Zj1 rfl rfl rfl ?_) (Zy1 hq63)
  refine Zc (Zs1 rfl hq63 rfl ?_)
  refine Zc (Zl rfl ?_)
  refine Zj2 (q := 67) rfl (λ hq67 => ?_) (λ hq67 => ?_)
  .
   refine Zc (Zl rfl ?_) (Zy1 hq67)
   refine Zc (Zl rfl ?_) (Zy1 hq67)
   refine Zc (Zd2 (n := rows.length) Tryz.underlying23 rfl (by simp) (λ hl70 => ?_)) (Zy1 hq67)
   refine Zc (Zj1 rfl rfl rfl ?_) (Zy1 hq67)
   refine Zc (Zs1 rfl hq67 rfl ?_)
   refine Zc (Zk rfl (Za (Zi (Zf1 ?_))))
   refine Zg1 rfl (.tmp rfl) ?_
   first | rfl | (simp_all; done)
  refine Zk1 hq67 ?_
  refine Zk1 hq67 ?_
  refine Zk1 hq67 ?_
  refine Zk1 hq67 ?_
  refine Zc (Zt1 rfl hq67 rfl ?_)
  refine Zc (Zk rfl (Za (Zi (Zf1 ?_))))
  refine Zg1 rfl (.tmp rfl) ?_
  first | rfl | (simp_all; done)
 refine Zk1 hq63 ?_
 refine Zk1 hq63 ?_
 refine Zc (Zt1 rfl hq63 rfl ?_)
 refine Zc (Zl rfl ?_)
 refine Zk1 rfl ?_
 refine Zk1 rfl ?_
 refine Zk1 rfl ?_
 refine Zk1 rfl ?_
 refine Zc (Zt1 rfl rfl rfl (Zc (Zk rfl (Za (Zi (Zf1 ?_))))))
 refine Zg1 rfl (.tmp rfl) ?_
 first | rfl | (simp_all; done)
end Go.Proofs.YtpkbgamoboojaaaGreat.W30
end
