import Derived.Test.YtpkbgamoboojaaaGreatVT
import Derived.Test.YtpkbgamoboojaaaGreatDZ
import Derived.Test.YtpkbgamoboojaaaGreatVZ
set_option maxRecDepth 100000
set_option maxHeartbeats 4000000
set_option linter.all false
open List renaming take_length → Ya, length_map → Yb, flatten_append → Yc, length_append → Yd, flatten_singleton → Ye
open Nat renaming zero_le → Yf
namespace Go.Proofs.YtpkbgamoboojaaaGreat.W16
open Go.VL Go.PM Go.Proofs.YtpkbgamoboojaaaGreat
theorem flatten_le {α : Type} {rows : List (List α)} {k : Nat} {r : List α} (h : rows[k]? = some r) : (rows.take k).flatten.length + r.length <= rows.flatten.length := by
 have h1 : (rows.take (k + 1)).flatten.length <= rows.flatten.length := by
  conv => rhs; rw [<- List.take_append_drop (k + 1) rows, Yc, Yd]
  omega
 rw [take_snoc h, Yc, Yd] at h1
 simpa using h1
theorem mfree_c (p : Pat) : VPure Tryz.prog 31 [patX p] (.bool (free p)) := by
 refine V_start (nt := 11) Tryz.func31 rfl rfl rfl ?_
 refine Zb (Zd ?_)
 refine Zc (Zc2 rfl rfl (λ g1 => ?_))
 refine Zc (Zk rfl (Za (Zi (Zb (Zd (Zc (Zj VT.fa75_0 rfl (Zc (Zu 0 VT.ty3 rfl rfl rfl (Zc (Zj1 rfl rfl rfl (Zc (Zl rfl ?_)))))))))))))
 refine Zj2 (q := 6) rfl (λ hq6 => ?_) (λ hq6 => ?_)
 .
  refine Zk0 hq6 ?_
  refine Zk0 hq6 ?_
  refine Zk0 hq6 ?_
  refine Zc (Zs1 rfl hq6 rfl ?_)
  refine Zc (Zk rfl (Za (Zi (Zf1 ?_))))
  refine Zg1 rfl (.tmp rfl) ?_
  have hk := hq6
  simp at hk
  simp [free, hk]
 refine Zc (Zj VT.fa75_0 rfl ?_) (Zy0 hq6)
 refine Zc (Zu 0 VT.ty3 rfl rfl rfl ?_) (Zy0 hq6)
 refine Zc (Zj1 rfl rfl rfl ?_) (Zy0 hq6)
 refine Zc (Zt1 rfl hq6 rfl ?_)
 refine Zc (Zk rfl (Za (Zi (Zf1 ?_))))
 refine Zg1 rfl (.tmp rfl) ?_
 have hk := hq6
 simp at hk
 simp [free, hk]
theorem nf_c (p : Pat) : VPure Tryz.prog 30 [patX p] (.bool (nf p)) := by
 refine V_start (nt := 6) Tryz.func30 rfl rfl rfl ?_
 refine Zb (Zd ?_)
 refine Zc (Zc2 rfl rfl (λ g1 => ?_))
 refine Zc (Zk rfl (Za (Zi (Zb (Zd (Zc (Zv 0 VT.ty75 rfl rfl rfl ?_)))))))
 refine Zc (Zx1 [.tmp 3] rfl rfl VT.en31 (mfree_c p) ?_)
 refine Zc (Zl2 rfl (Zc (Zk rfl (Za (Zi (Zf1 ?_))))))
 refine Zg1 rfl (.tmp rfl) ?_
 rfl
theorem isCon_c (p : Pat) (c : ConSig) (g : Nat) : VKeep Tryz.prog 33 [patX p, .ptr g 0] [.cells g 95 [.str c.name, .sl 4 none c.args]] (.bool (isCon c.name p)) := by
 refine VCalls_drops ?_
 refine V_start (nt := 9) Tryz.func33 rfl rfl rfl ?_
 refine Zb (Zd ?_)
 refine Zc (Zc2 rfl rfl (λ g2 => ?_))
 refine Zc (Zk rfl (Za (Zi (Zb (Zd (Zc (Zj VT.fa75_1 rfl (Zc (Zu 0 VT.ty9 rfl rfl rfl (Zc (Zj VT.fa95_0 rfl (Zc (Zu 1 VT.ty9 rfl rfl rfl (Zc (V_streq rfl rfl (Zc (Zk rfl (Za (Zi (Zf1 ?_))))))))))))))))))))
 refine Zg1 rfl (.tmp rfl) ?_
 exact ⟨_, Drops.drop (Zt2 _), congrArg V.bool (Bool.eq_iff_iff.2 (by simp [isCon])), rfl⟩
theorem isInt_c (q p : Pat) (g : Nat) : VKeep Tryz.prog 59 [patX q, .ptr g 0] [.cells g 75 [.int p.kind, .str p.name, .int p.n, patsX p.args]] (.bool (isInt p.n q)) := by
 refine VCalls_drops ?_
 refine V_start (nt := 9) Tryz.func59 rfl rfl rfl ?_
 refine Zb (Zd ?_)
 refine Zc (Zc2 rfl rfl (λ g2 => ?_))
 refine Zc (Zk rfl (Za (Zi (Zb (Zd (Zc (Zj VT.fa75_2 rfl (Zc (Zu 0 VT.ty3 rfl rfl rfl (Zc (Zj VT.fa75_2 rfl (Zc (Zu 1 VT.ty3 rfl rfl rfl (Zc (Zj1 rfl rfl rfl (Zc (Zk rfl (Za (Zi (Zf1 ?_))))))))))))))))))))
 refine Zg1 rfl (.tmp rfl) ?_
 exact ⟨_, Drops.drop (Zt2 _), rfl, rfl⟩
theorem intsEq_c (a b : List Int) (ta tb : Option Tok) : VPure Tryz.prog 89 [.sl 1 ta (a.map V.int), .sl 1 tb (b.map V.int)] (.bool (decide (a = b))) := by
 refine V_start (nt := 26) Tryz.func89 rfl rfl rfl ?_
 refine Zb (Zd (Zc (Zk rfl (Za (Zi (Zb (Zb (Zd (Zc (Zl rfl ?_))))))))))
 refine Zc (Zd2 (n := a.length) Tryz.underlying36 rfl (by simp) (λ hl7 => ?_))
 refine Zc (Zl rfl ?_)
 refine Zc (Zd2 (n := b.length) Tryz.underlying36 rfl (by simp) (λ hl9 => ?_))
 refine Zc (Zj1 rfl rfl rfl (Za (Zi ?_)))
 refine Zm1 rfl (λ h10 => ?_) (λ h10 => ?_)
 .
  refine Zb (Zd (Zc (Zk rfl (Za (Zi (Zf1 ?_))))))
  refine Zd1 (Zg1 rfl (.tmp rfl) ?_)
  rw [decide_eq_false (λ h => h10 (by rw [h]))]
 refine Zi1 (Zi (Zb (Zb (Zd (Zc (Zl rfl ?_))))))
 refine Zc (Zd2 (n := a.length) Tryz.underlying36 rfl (by simp) (λ hl12 => ?_))
 refine Zc (Zl rfl (Za (Zi (Zs ?_))))
 refine Zi2 (ι := Nat) (λ k => a.length - k) (λ k => [(0, some (.sl 1 ta (a.map V.int))), (1, some (.sl 1 tb (b.map V.int))), (11, some (.sl 1 ta (a.map V.int))), (12, some (.int a.length)), (13, some (.int k))]) (λ k => []) (λ k => k <= a.length /\ a.take k = b.take k) 0 ⟨Yf _, rfl⟩ ⟨rfl, rfl, rfl, rfl, rfl, trivial⟩ (Drops.nil _) ?_
 rintro k hA
 change k <= a.length /\ a.take k = b.take k at hA
 obtain ⟨hk, hq⟩ := hA
 refine Zb (Zd (Zc (Zj1 rfl rfl rfl (Za (Zi (Zb ?_))))))
 refine Zn1 rfl (λ h14 => ?_) (λ h14 => ?_)
 .
  obtain ⟨x, hx⟩ := get_of_lt a k h14
  obtain ⟨y, hy⟩ := get_of_lt b k (by omega)
  refine Zi1 (Zi (Zb (Zs (Zb (Zd (Zc (Zl rfl (Zc (Zk rfl (Za (Zi (Zb ?_))))))))))))
  refine VW_drawR (G := Unit) [([], [0], []), ([], [5], []), ([1, 0], [16, 17], []), ([2, 1, 0], [18], []), ([], [1], []), ([], [5], []), ([5, 4], [20, 21], []), ([6, 5, 4], [22], []), (dn 8, [19, 23], [])] [] (constSt _) [24] [16, 17, 18, 19, 20, 21, 22, 23, 24] rfl VT.mix ?_
  refine ZA (λ γ => Zf (λ _ h0 => Ze (Zn rfl (Zl h0 z0)))) ?_
  refine ZA (λ γ => Zf (λ _ h5 => Ze (Zn rfl (Zl h5 z0)))) ?_
  refine Zp (Zb3 _) (Zq (λ γ => Zw 0 1 rfl (λ _ h16 => Zw 1 0 rfl (λ _ h17 => Ze (Zn rfl (Zz (el := V.int x) VT.sl36 h16 h17 (by omega) (get_int hx) (λ a18 => ⟨⟨_, rfl⟩, rfl⟩))))))) ?_
  refine ZA (λ γ => Zw 2 0 rfl (λ _ h18 => Ze (Zc3 h18 (λ a_18 e18 => Zn rfl (Zz1 VT.ty3 e18 rfl z0))))) ?_
  refine ZA (λ γ => Zf (λ _ h1 => Ze (Zn rfl (Zl h1 z0)))) ?_
  refine ZA (λ γ => Zf (λ _ h5 => Ze (Zn rfl (Zl h5 z0)))) ?_
  refine Zp (Zb3 _) (Zq (λ γ => Zw 4 1 rfl (λ _ h20 => Zw 5 0 rfl (λ _ h21 => Ze (Zn rfl (Zz (el := V.int y) VT.sl36 h20 h21 (by omega) (get_int hy) (λ a22 => ⟨⟨_, rfl⟩, rfl⟩))))))) ?_
  refine ZA (λ γ => Zw 6 0 rfl (λ _ h22 => Ze (Zc3 h22 (λ a_22 e22 => Zn rfl (Zz1 VT.ty3 e22 rfl z0))))) ?_
  refine ZA (λ γ => Zw 3 4 rfl (λ _ h19 => Zw 7 0 rfl (λ _ h23 => Ze (Zn rfl (Zj1 h19 h23 rfl z0))))) ?_
  refine DrawP_nil (λ γ => Zw 8 0 rfl (λ r24 h24 => Ze ?_))
  have e24 : r24 = some _ := h24
  subst e24
  clear h24
  refine Zi ?_
  refine Zm1 rfl (λ h24 => ?_) (λ h24 => ?_)
  .
   refine Zb (Zd (Zc (Zk rfl (Za (Zi (Zf1 ?_))))))
   refine Za1 (Zd1 (Zd1 (Za1 (Zd1 (Zg1 rfl (.tmp rfl) ?_)))))
   rw [decide_eq_false (λ h => h24 (by have e := hx; rw [h, hy] at e; injection e with e; exact e.symm))]
  refine Zi1 (Zb1 (Zi (Zd ?_)))
  refine Zc (Zh2 rfl rfl (by omega) ?_)
  refine Zc (Zl rfl (Za (Zi ?_)))
  exact ⟨k + 1, (by (try simp only []); omega), ⟨by omega, by rw [take_snoc hx, take_snoc hy, hq, h24]⟩, ⟨rfl, rfl, rfl, rfl, rfl, trivial⟩, (Drops.nil _)⟩
 have hke : k = a.length := by omega
 have hkb : a.length = b.length := by omega
 rw [hke, Ya, hkb, Ya] at hq
 refine Zt (Ze1 (Ze1 (Zc1 (Zi (Zb (Zd (Zc (Zk rfl (Za (Zi (Zf1 ?_)))))))))))
 refine Zg1 rfl (.tmp rfl) ?_
 rw [decide_eq_true hq]
theorem strsEq_c (a b : List Str) (ta tb : Option Tok) : VPure Tryz.prog 90 [.sl 1 ta (a.map V.str), .sl 1 tb (b.map V.str)] (.bool (decide (a = b))) := by
 refine V_start (nt := 26) Tryz.func90 rfl rfl rfl ?_
 refine Zb (Zd (Zc (Zk rfl (Za (Zi (Zb (Zb (Zd (Zc (Zl rfl ?_))))))))))
 refine Zc (Zd2 (n := a.length) Tryz.underlying68 rfl (by simp) (λ hl7 => ?_))
 refine Zc (Zl rfl ?_)
 refine Zc (Zd2 (n := b.length) Tryz.underlying68 rfl (by simp) (λ hl9 => ?_))
 refine Zc (Zj1 rfl rfl rfl (Za (Zi ?_)))
 refine Zm1 rfl (λ h10 => ?_) (λ h10 => ?_)
 .
  refine Zb (Zd (Zc (Zk rfl (Za (Zi (Zf1 ?_))))))
  refine Zd1 (Zg1 rfl (.tmp rfl) ?_)
  rw [decide_eq_false (λ h => h10 (by rw [h]))]
 refine Zi1 (Zi (Zb (Zb (Zd (Zc (Zl rfl ?_))))))
 refine Zc (Zd2 (n := a.length) Tryz.underlying68 rfl (by simp) (λ hl12 => ?_))
 refine Zc (Zl rfl (Za (Zi (Zs ?_))))
 refine Zi2 (ι := Nat) (λ k => a.length - k) (λ k => [(0, some (.sl 1 ta (a.map V.str))), (1, some (.sl 1 tb (b.map V.str))), (11, some (.sl 1 ta (a.map V.str))), (12, some (.int a.length)), (13, some (.int k))]) (λ k => []) (λ k => k <= a.length /\ a.take k = b.take k) 0 ⟨Yf _, rfl⟩ ⟨rfl, rfl, rfl, rfl, rfl, trivial⟩ (Drops.nil _) ?_
 rintro k hA
 change k <= a.length /\ a.take k = b.take k at hA
 obtain ⟨hk, hq⟩ := hA
 refine Zb (Zd (Zc (Zj1 rfl rfl rfl (Za (Zi (Zb ?_))))))
 refine Zn1 rfl (λ h14 => ?_) (λ h14 => ?_)
 .
  obtain ⟨x, hx⟩ := get_of_lt a k h14
  obtain ⟨y, hy⟩ := get_of_lt b k (by omega)
  refine Zi1 (Zi (Zb (Zs (Zb (Zd (Zc (Zl rfl (Zc (Zk rfl (Za (Zi (Zb ?_))))))))))))
  refine VW_drawR (G := Unit) [([], [0], []), ([], [5], []), ([1, 0], [16, 17], []), ([2, 1, 0], [18], []), ([], [1], []), ([], [5], []), ([5, 4], [20, 21], []), ([6, 5, 4], [22], []), (dn 8, [19, 23], [])] [] (constSt _) [24] [16, 17, 18, 19, 20, 21, 22, 23, 24] rfl VT.mix ?_
  refine ZA (λ γ => Zf (λ _ h0 => Ze (Zn rfl (Zl h0 z0)))) ?_
  refine ZA (λ γ => Zf (λ _ h5 => Ze (Zn rfl (Zl h5 z0)))) ?_
  refine Zp (Zb3 _) (Zq (λ γ => Zw 0 1 rfl (λ _ h16 => Zw 1 0 rfl (λ _ h17 => Ze (Zn rfl (Zz (el := V.str x) VT.sl68 h16 h17 (by omega) (get_str hx) (λ a18 => ⟨⟨_, rfl⟩, rfl⟩))))))) ?_
  refine ZA (λ γ => Zw 2 0 rfl (λ _ h18 => Ze (Zc3 h18 (λ a_18 e18 => Zn rfl (Zz1 VT.ty9 e18 rfl z0))))) ?_
  refine ZA (λ γ => Zf (λ _ h1 => Ze (Zn rfl (Zl h1 z0)))) ?_
  refine ZA (λ γ => Zf (λ _ h5 => Ze (Zn rfl (Zl h5 z0)))) ?_
  refine Zp (Zb3 _) (Zq (λ γ => Zw 4 1 rfl (λ _ h20 => Zw 5 0 rfl (λ _ h21 => Ze (Zn rfl (Zz (el := V.str y) VT.sl68 h20 h21 (by omega) (get_str hy) (λ a22 => ⟨⟨_, rfl⟩, rfl⟩))))))) ?_
  refine ZA (λ γ => Zw 6 0 rfl (λ _ h22 => Ze (Zc3 h22 (λ a_22 e22 => Zn rfl (Zz1 VT.ty9 e22 rfl z0))))) ?_
  refine ZA (λ γ => Zw 3 4 rfl (λ _ h19 => Zw 7 0 rfl (λ _ h23 => Ze (Zn rfl (V_strne h19 h23 z0))))) ?_
  refine DrawP_nil (λ γ => Zw 8 0 rfl (λ r24 h24 => Ze ?_))
  have e24 : r24 = some _ := h24
  subst e24
  clear h24
  refine Zi ?_
  refine Zm1 rfl (λ h24 => ?_) (λ h24 => ?_)
  .
   refine Zb (Zd (Zc (Zk rfl (Za (Zi (Zf1 ?_))))))
   refine Za1 (Zd1 (Zd1 (Za1 (Zd1 (Zg1 rfl (.tmp rfl) ?_)))))
   rw [decide_eq_false (λ h => h24 (by have e := hx; rw [h, hy] at e; injection e with e; exact e.symm))]
  refine Zi1 (Zb1 (Zi (Zd ?_)))
  refine Zc (Zh2 rfl rfl (by omega) ?_)
  refine Zc (Zl rfl (Za (Zi ?_)))
  exact ⟨k + 1, (by (try simp only []); omega), ⟨by omega, by rw [take_snoc hx, take_snoc hy, hq, h24]⟩, ⟨rfl, rfl, rfl, rfl, rfl, trivial⟩, (Drops.nil _)⟩
 have hke : k = a.length := by omega
 have hkb : a.length = b.length := by omega
 rw [hke, Ya, hkb, Ya] at hq
 refine Zt (Ze1 (Ze1 (Zc1 (Zi (Zb (Zd (Zc (Zk rfl (Za (Zi (Zf1 ?_)))))))))))
 refine Zg1 rfl (.tmp rfl) ?_
 rw [decide_eq_true hq]
theorem same_c (a b : MNode) : VPure Tryz.prog 57 [nodeX a, nodeX b] (.bool (sameN a b)) := by
 refine V_start (nt := 45) Tryz.func57 rfl rfl rfl ?_
 refine Zb (Zd ?_)
 refine Zc (Zc2 rfl rfl (λ g2 => ?_))
 refine Zc (Zc2 rfl rfl (λ g3 => ?_))
 refine Zc (Zk rfl (Za (Zi (Zb (Zd (Zc (Zj VT.fa70_0 rfl (Zc (Zu 1 VT.ty3 rfl rfl rfl (Zc (Zj VT.fa70_0 rfl (Zc (Zu 0 VT.ty3 rfl rfl rfl (Zc (Zj1 rfl rfl rfl (Zc (Zl rfl ?_)))))))))))))))))
 refine Zj2 (q := 10) rfl (λ hq10 => ?_) (λ hq10 => ?_)
 .
  refine Zc (Zj VT.fa70_1 rfl ?_) (Zy1 hq10)
  refine Zc (Zu 1 VT.ty3 rfl rfl rfl ?_) (Zy1 hq10)
  refine Zc (Zj VT.fa70_1 rfl ?_) (Zy1 hq10)
  refine Zc (Zu 0 VT.ty3 rfl rfl rfl ?_) (Zy1 hq10)
  refine Zc (Zj1 rfl rfl rfl ?_) (Zy1 hq10)
  refine Zc (Zs1 rfl hq10 rfl ?_)
  refine Zc (Zl rfl ?_)
  refine Zj2 (q := 17) rfl (λ hq17 => ?_) (λ hq17 => ?_)
  .
   refine Zc (Zj VT.fa70_2 rfl ?_) (Zy1 hq17)
   refine Zc (Zu 1 VT.ty36 rfl rfl rfl ?_) (Zy1 hq17)
   refine Zc (Zj VT.fa70_2 rfl ?_) (Zy1 hq17)
   refine Zc (Zu 0 VT.ty36 rfl rfl rfl ?_) (Zy1 hq17)
   refine Zc (Zx1 [.tmp 19, .tmp 21] rfl rfl VT.en89 (intsEq_c a.path b.path none none) ?_) (Zy1 hq17)
   refine Zc (Zs1 rfl hq17 rfl ?_)
   refine Zc (Zl rfl ?_)
   refine Zj2 (q := 24) rfl (λ hq24 => ?_) (λ hq24 => ?_)
   .
    refine Zc (Zj VT.fa70_3 rfl ?_) (Zy1 hq24)
    refine Zc (Zu 1 VT.ty68 rfl rfl rfl ?_) (Zy1 hq24)
    refine Zc (Zj VT.fa70_3 rfl ?_) (Zy1 hq24)
    refine Zc (Zu 0 VT.ty68 rfl rfl rfl ?_) (Zy1 hq24)
    refine Zc (Zx1 [.tmp 26, .tmp 28] rfl rfl VT.en90 (strsEq_c a.names b.names none none) ?_) (Zy1 hq24)
    refine Zc (Zs1 rfl hq24 rfl ?_)
    refine Zc (Zl rfl ?_)
    refine Zj2 (q := 31) rfl (λ hq31 => ?_) (λ hq31 => ?_)
    .
     refine Zc (Zj VT.fa70_4 rfl ?_) (Zy1 hq31)
     refine Zc (Zu 1 VT.ty36 rfl rfl rfl ?_) (Zy1 hq31)
     refine Zc (Zj VT.fa70_4 rfl ?_) (Zy1 hq31)
     refine Zc (Zu 0 VT.ty36 rfl rfl rfl ?_) (Zy1 hq31)
     refine Zc (Zx1 [.tmp 33, .tmp 35] rfl rfl VT.en89 (intsEq_c a.words b.words none none) ?_) (Zy1 hq31)
     refine Zc (Zs1 rfl hq31 rfl ?_)
     refine Zc (Zl rfl ?_)
     refine Zj2 (q := 38) rfl (λ hq38 => ?_) (λ hq38 => ?_)
     .
      refine Zc (Zj VT.fa70_5 rfl ?_) (Zy1 hq38)
      refine Zc (Zu 1 VT.ty36 rfl rfl rfl ?_) (Zy1 hq38)
      refine Zc (Zj VT.fa70_5 rfl ?_) (Zy1 hq38)
      refine Zc (Zu 0 VT.ty36 rfl rfl rfl ?_) (Zy1 hq38)
      refine Zc (Zx1 [.tmp 40, .tmp 42] rfl rfl VT.en89 (intsEq_c a.kids b.kids none none) ?_) (Zy1 hq38)
      refine Zc (Zs1 rfl hq38 rfl ?_)
      refine Zc (Zk rfl (Za (Zi (Zf1 ?_))))
      refine Zg1 rfl (.tmp rfl) ?_
      exact congrArg V.bool (by simp only [sameN]; simp_all)
     refine Zk1 hq38 ?_
     refine Zk1 hq38 ?_
     refine Zk1 hq38 ?_
     refine Zk1 hq38 ?_
     refine Zk1 hq38 ?_
     refine Zc (Zt1 rfl hq38 rfl ?_)
     refine Zc (Zk rfl (Za (Zi (Zf1 ?_))))
     refine Zg1 rfl (.tmp rfl) ?_
     exact congrArg V.bool (by simp only [sameN]; simp_all)
    refine Zk1 hq31 ?_
    refine Zk1 hq31 ?_
    refine Zk1 hq31 ?_
    refine Zk1 hq31 ?_
    refine Zk1 hq31 ?_
    refine Zc (Zt1 rfl hq31 rfl ?_)
    refine Zc (Zl rfl ?_)
    refine Zk1 rfl ?_
    refine Zk1 rfl ?_
    refine Zk1 rfl ?_
    refine Zk1 rfl ?_
    refine Zk1 rfl ?_
    refine Zc (Zt1 rfl rfl rfl (Zc (Zk rfl (Za (Zi (Zf1 ?_))))))
    refine Zg1 rfl (.tmp rfl) ?_
    exact congrArg V.bool (by simp only [sameN]; simp_all)
   refine Zk1 hq24 ?_
   refine Zk1 hq24 ?_
   refine Zk1 hq24 ?_
   refine Zk1 hq24 ?_
   refine Zk1 hq24 ?_
   refine Zc (Zt1 rfl hq24 rfl ?_)
   refine Zc (Zl rfl ?_)
   refine Zk1 rfl ?_
   refine Zk1 rfl ?_
   refine Zk1 rfl ?_
   refine Zk1 rfl ?_
   refine Zk1 rfl ?_
   refine Zc (Zt1 rfl rfl rfl (Zc (Zl rfl ?_)))
   refine Zk1 rfl ?_
   refine Zk1 rfl ?_
   refine Zk1 rfl ?_
   refine Zk1 rfl ?_
   refine Zk1 rfl ?_
   refine Zc (Zt1 rfl rfl rfl (Zc (Zk rfl (Za (Zi (Zf1 ?_))))))
   refine Zg1 rfl (.tmp rfl) ?_
   exact congrArg V.bool (by simp only [sameN]; simp_all)
  refine Zk1 hq17 ?_
  refine Zk1 hq17 ?_
  refine Zk1 hq17 ?_
  refine Zk1 hq17 ?_
  refine Zk1 hq17 ?_
  refine Zc (Zt1 rfl hq17 rfl ?_)
  refine Zc (Zl rfl ?_)
  refine Zk1 rfl ?_
  refine Zk1 rfl ?_
  refine Zk1 rfl ?_
  refine Zk1 rfl ?_
  refine Zk1 rfl ?_
  refine Zc (Zt1 rfl rfl rfl (Zc (Zl rfl ?_)))
  refine Zk1 rfl ?_
  refine Zk1 rfl ?_
  refine Zk1 rfl ?_
  refine Zk1 rfl ?_
  refine Zk1 rfl ?_
  refine Zc (Zt1 rfl rfl rfl (Zc (Zl rfl ?_)))
  refine Zk1 rfl ?_
  refine Zk1 rfl ?_
  refine Zk1 rfl ?_
  refine Zk1 rfl ?_
  refine Zk1 rfl ?_
  refine Zc (Zt1 rfl rfl rfl (Zc (Zk rfl (Za (Zi (Zf1 ?_))))))
  refine Zg1 rfl (.tmp rfl) ?_
  exact congrArg V.bool (by simp only [sameN]; simp_all)
 refine Zk1 hq10 ?_
 refine Zk1 hq10 ?_
 refine Zk1 hq10 ?_
 refine Zk1 hq10 ?_
 refine Zk1 hq10 ?_
 refine Zc (Zt1 rfl hq10 rfl ?_)
 refine Zc (Zl rfl ?_)
 refine Zk1 rfl ?_
 refine Zk1 rfl ?_
 refine Zk1 rfl ?_
 refine Zk1 rfl ?_
 refine Zk1 rfl ?_
 refine Zc (Zt1 rfl rfl rfl (Zc (Zl rfl ?_)))
 refine Zk1 rfl ?_
 refine Zk1 rfl ?_
 refine Zk1 rfl ?_
 refine Zk1 rfl ?_
 refine Zk1 rfl ?_
 refine Zc (Zt1 rfl rfl rfl (Zc (Zl rfl ?_)))
 refine Zk1 rfl ?_
 refine Zk1 rfl ?_
 refine Zk1 rfl ?_
 refine Zk1 rfl ?_
 refine Zk1 rfl ?_
 refine Zc (Zt1 rfl rfl rfl (Zc (Zl rfl ?_)))
 refine Zk1 rfl ?_
 refine Zk1 rfl ?_
 refine Zk1 rfl ?_
 refine Zk1 rfl ?_
 refine Zk1 rfl ?_
 refine Zc (Zt1 rfl rfl rfl (Zc (Zk rfl (Za (Zi (Zf1 ?_))))))
 refine Zg1 rfl (.tmp rfl) ?_
 exact congrArg V.bool (by simp only [sameN]; simp_all)
theorem same1_c (x n : MNode) (g : Nat) : VKeep Tryz.prog 56 [nodeX x, .ptr g 0] [.cells g 70 [.int n.kind, .int n.row, intsX n.path, strsX n.names, intsX n.words, intsX n.kids]] (.bool (sameN x n)) := by
 refine VCalls_drops ?_
 refine V_start (nt := 7) Tryz.func56 rfl rfl rfl ?_
 refine Zb (Zd ?_)
 refine Zc (Zc2 rfl rfl (λ g2 => ?_))
 refine Zc (Zk rfl (Za (Zi (Zb (Zd (Zc (Zv 0 VT.ty70 rfl rfl rfl (Zc (Zv 1 VT.ty70 rfl rfl rfl ?_)))))))))
 refine Zc (Zx1 [.tmp 4, .tmp 5] rfl rfl VT.en57 (same_c x n) ?_)
 refine Zc (Zk rfl (Za (Zi (Zf1 ?_))))
 refine Zg1 rfl (.tmp rfl) ?_
 exact ⟨_, Drops.drop (Zt2 _), rfl, rfl⟩
theorem nodeIdx_c {l : List MNode} {tok : Option Tok} {p : MNode -> Bool} {c : FuncId} {caps : List V} {o : Own} (hen : Enters Tryz.prog c) (hp : ∀ x ∈ l, VKeep Tryz.prog c (nodeX x :: caps) [o] (.bool (p x))) : VKeep Tryz.prog 55 [.sl 6 tok (l.map nodeX), .clo (.func c) caps] [o] (.int (idxOf p l)) := by
 refine V_start (nt := 19) Tryz.func55 rfl rfl rfl ?_
 refine Zb (Zd (Zc (Zk rfl (Za (Zi (Zb (Zb (Zd (Zc (Zl rfl ?_))))))))))
 refine Zc (Zd2 (n := l.length) Tryz.underlying26 rfl (by simp) (λ hl7 => ?_))
 refine Zc (Zl rfl (Za (Zi (Zs ?_))))
 refine Zi2 (ι := Nat) (λ k => l.length - k) (λ k => [(0, some (.sl 6 tok (l.map nodeX))), (1, some (.clo (.func c) caps)), (7, some (.int l.length)), (8, some (.int k))]) (λ k => [o]) (λ k => k <= l.length /\ (l.take k).any p = false) 0 ⟨Yf _, rfl⟩ ⟨rfl, rfl, rfl, rfl, trivial⟩ (Zt2 _) ?_
 rintro k hA
 change k <= l.length /\ (l.take k).any p = false at hA
 obtain ⟨hk, hany⟩ := hA
 refine Zb (Zd (Zc (Zj1 rfl rfl rfl (Za (Zi (Zb ?_))))))
 refine Zn1 rfl (λ h9 => ?_) (λ h9 => ?_)
 .
  obtain ⟨x, hr⟩ := get_of_lt l k h9
  refine Zi1 (Zi (Zb (Zs (Zb (Zd (Zc (Zl rfl (Zc (Zk rfl (Za (Zi (Zb (Zd (Zc (Zl rfl (Zc (Zl rfl (Zc (Zl rfl ?_)))))))))))))))))))
  refine Zc (Zz (el := nodeX x) VT.sl26 rfl rfl (by omega) (get_mapS _ hr) (λ a14 => ?_))
  refine Zc (Za2 VT.ty70 rfl rfl ?_)
  refine Zc (V_callClo [.tmp 15] [_] _ rfl rfl rfl hen (Zv2 (i := 0) rfl) (hp x (List.mem_of_getElem? hr)) ?_)
  rintro r Sa ⟨rfl, rfl⟩
  refine Za (Zi ?_)
  refine Zr1 rfl (λ h16 => ?_) (λ h16 => ?_)
  .
   refine Zb (Zd (Zc (Zl rfl (Zc (Zk rfl (Za (Zi (Zf1 ?_))))))))
   refine Za1 (Zd1 (Zd1 (Za1 (Zd1 (Zg1 rfl (.tmp rfl) ?_)))))
   rw [idxOf_at p hr hany h16]
   exact ⟨rfl, rfl⟩
  refine Zi1 (Zb1 (Zi (Zd ?_)))
  refine Zc (Zh2 rfl rfl (by omega) ?_)
  refine Zc (Zl rfl (Za (Zi ?_)))
  exact ⟨k + 1, (by (try simp only []); omega), ⟨by omega, any_snoc hr hany h16⟩, ⟨rfl, rfl, rfl, rfl, trivial⟩, (Drops.keep (Zt2 _))⟩
 have hke : k = l.length := by omega
 subst hke
 rw [Ya] at hany
 refine Zt (Ze1 (Ze1 (Zc1 (Zi (Zb (Zd (Zc (Zk rfl (Za (Zi (Zf1 ?_)))))))))))
 refine Zg1 rfl (.tmp rfl) ?_
 rw [idxOf_none p hany]
 exact ⟨rfl, rfl⟩
theorem mrowIdx_c {l : List MRow} {tok : Option Tok} {p : MRow -> Bool} {c : FuncId} {caps : List V} {o1 o2 o3 : Own} (hen : Enters Tryz.prog c) (hp : ∀ x ∈ l, VKeep Tryz.prog c (mrowX x :: caps) [o1, o2, o3] (.bool (p x))) : VKeep Tryz.prog 60 [.sl 2 tok (l.map mrowX), .clo (.func c) caps] [o1, o2, o3] (.int (idxOf p l)) := by
 refine V_start (nt := 19) Tryz.func60 rfl rfl rfl ?_
 refine Zb (Zd (Zc (Zk rfl (Za (Zi (Zb (Zb (Zd (Zc (Zl rfl ?_))))))))))
 refine Zc (Zd2 (n := l.length) Tryz.underlying62 rfl (by simp) (λ hl7 => ?_))
 refine Zc (Zl rfl (Za (Zi (Zs ?_))))
 refine Zi2 (ι := Nat) (λ k => l.length - k) (λ k => [(0, some (.sl 2 tok (l.map mrowX))), (1, some (.clo (.func c) caps)), (7, some (.int l.length)), (8, some (.int k))]) (λ k => [o1, o2, o3]) (λ k => k <= l.length /\ (l.take k).any p = false) 0 ⟨Yf _, rfl⟩ ⟨rfl, rfl, rfl, rfl, trivial⟩ (Zt2 _) ?_
 rintro k hA
 change k <= l.length /\ (l.take k).any p = false at hA
 obtain ⟨hk, hany⟩ := hA
 refine Zb (Zd (Zc (Zj1 rfl rfl rfl (Za (Zi (Zb ?_))))))
 refine Zn1 rfl (λ h9 => ?_) (λ h9 => ?_)
 .
  obtain ⟨x, hr⟩ := get_of_lt l k h9
  refine Zi1 (Zi (Zb (Zs (Zb (Zd (Zc (Zl rfl (Zc (Zk rfl (Za (Zi (Zb (Zd (Zc (Zl rfl (Zc (Zl rfl (Zc (Zl rfl ?_)))))))))))))))))))
  refine Zc (Zz (el := mrowX x) VT.sl62 rfl rfl (by omega) (get_mapS _ hr) (λ a14 => ?_))
  refine Zc (Za2 VT.ty65 rfl rfl ?_)
  refine Zc (V_callClo [.tmp 15] _ _ rfl rfl rfl hen (.refl _) (hp x (List.mem_of_getElem? hr)) ?_)
  rintro r Sa ⟨rfl, rfl⟩
  refine Za (Zi ?_)
  refine Zr1 rfl (λ h16 => ?_) (λ h16 => ?_)
  .
   refine Zb (Zd (Zc (Zl rfl (Zc (Zk rfl (Za (Zi (Zf1 ?_))))))))
   refine Za1 (Zd1 (Zd1 (Za1 (Zd1 (Zg1 rfl (.tmp rfl) ?_)))))
   rw [idxOf_at p hr hany h16]
   exact ⟨rfl, rfl⟩
  refine Zi1 (Zb1 (Zi (Zd ?_)))
  refine Zc (Zh2 rfl rfl (by omega) ?_)
  refine Zc (Zl rfl (Za (Zi ?_)))
  exact ⟨k + 1, (by (try simp only []); omega), ⟨by omega, any_snoc hr hany h16⟩, ⟨rfl, rfl, rfl, rfl, trivial⟩, (Drops.keep (Drops.keep (Drops.keep (Zt2 _))))⟩
 have hke : k = l.length := by omega
 subst hke
 rw [Ya] at hany
 refine Zt (Ze1 (Ze1 (Zc1 (Zi (Zb (Zd (Zc (Zk rfl (Za (Zi (Zf1 ?_)))))))))))
 refine Zg1 rfl (.tmp rfl) ?_
 rw [idxOf_none p hany]
 exact ⟨rfl, rfl⟩
theorem mrowAny_c {l : List MRow} {tok : Option Tok} {p : MRow -> Bool} {c : FuncId} {caps : List V} {o1 o2 o3 : Own} (hen : Enters Tryz.prog c) (hp : ∀ x ∈ l, VKeep Tryz.prog c (mrowX x :: caps) [o1, o2, o3] (.bool (p x))) : VKeep Tryz.prog 34 [.sl 2 tok (l.map mrowX), .clo (.func c) caps] [o1, o2, o3] (.bool (l.any p)) := by
 refine V_start (nt := 9) Tryz.func34 rfl rfl rfl ?_
 refine Zb (Zd (Zc (Zk rfl (Za (Zi (Zb (Zd (Zc (Zl rfl (Zc (Zl rfl ?_)))))))))))
 refine Zc (Zm3 [.tmp 5, .tmp 6] _ _ rfl rfl VT.en60 (.refl _) (mrowIdx_c hen hp) ?_)
 rintro r Sa ⟨rfl, rfl⟩
 refine Zc (Zj1 rfl rfl rfl (Zc (Zk rfl (Za (Zi (Zf1 ?_))))))
 refine Zg1 rfl (.tmp rfl) ?_
 rw [idxOf_ge]
 exact ⟨rfl, rfl⟩
theorem hasCon_c (r : MRow) (k : Nat) (g7 g12 g11 : Nat) (c : ConSig) (h : k < r.2.length) : VKeep Tryz.prog 35 [mrowX r, .ptr g7 0, .ptr g12 0] [.cells g7 3 [.int k], .cells g12 99 [.clo (.func 33) [.ptr g11 0]], .cells g11 95 [.str c.name, .sl 4 none c.args]] (.bool (!free (r.2.getD k anyP) && isCon c.name (r.2.getD k anyP))) := by
 obtain ⟨p, hp⟩ := get_of_lt r.2 k (by omega)
 have hg : r.2.getD k anyP = p := by simp [hp]
 rw [hg]
 refine VCalls_drops ?_
 refine V_start (nt := 21) Tryz.func35 rfl rfl rfl ?_
 refine Zb (Zd ?_)
 refine Zc (Zc2 rfl rfl (λ g3 => ?_))
 refine Zc (Zk rfl (Za (Zi (Zb ?_))))
 rcases Bool.eq_false_or_eq_true ((!free p)) with hq12 | hq12
 .
  refine VW_drawR (G := Unit) [([], [3], []), ([0], [5], []), ([], [1], []), ([2, 1, 0], [6, 7], []), (dn 4, [8], []), (dn 5, [9], []), (dn 6, [10], []), (dn 7, [11], []), (dn 8, [2, 12], []), (dn 8, [3, 12], []), ([9, 7, 6, 5, 4, 3, 2, 1, 0], [14, 12], []), (dn 8, [1, 12], []), ([11, 10, 9, 7, 6, 5, 4, 3, 2, 1, 0], [15, 16, 12], []), ([12, 11, 10, 9, 7, 6, 5, 4, 3, 2, 1, 0], [17, 12], []), (dn 14, [13, 18, 12], []), (dn 15, [12, 19], []), (dn 16, [20], [])] [] (constSt _) [4] [4, 5, 6, 7, 8, 9, 10, 11, 12, 13, 14, 15, 16, 17, 18, 19, 20] rfl VT.mix ?_
  refine ZA (λ γ => Zf (λ _ h3 => Ze (Zn rfl (Zj VT.fa65_1 h3 z0)))) ?_
  refine ZA (λ γ => Zw 0 0 rfl (λ _ h5 => Ze (Zn rfl (Zu 0 VT.ty24 h5 rfl rfl z0)))) ?_
  refine ZA (λ γ => Zf (λ _ h1 => Ze (Zn rfl (Zu 1 VT.ty3 h1 rfl rfl z0)))) ?_
  refine Zp (Zb3 _) (Zq (λ γ => Zw 1 1 rfl (λ _ h6 => Zw 2 0 rfl (λ _ h7 => Ze (Zn rfl (Zz (el := patX p) VT.sl24 h6 h7 (by omega) (get_patS hp) (λ a8 => ⟨⟨_, rfl⟩, rfl⟩))))))) ?_
  refine ZA (λ γ => Zw 3 0 rfl (λ _ h8 => Ze (Zc3 h8 (λ a_8 e8 => Zn rfl (Za2 VT.ty75 e8 rfl z0))))) ?_
  refine ZA (λ γ => Zw 4 0 rfl (λ _ h9 => Ze (Zn rfl (Zx1 [.tmp 9] rfl (Zp2 h9 Zq2) VT.en31 (mfree_c p) z0)))) ?_
  refine ZA (λ γ => Zw 5 0 rfl (λ _ h10 => Ze (Zn rfl (Zl2 h10 z0)))) ?_
  refine ZA (λ γ => Zw 6 0 rfl (λ _ h11 => Ze (Zn rfl (Zl h11 z0)))) ?_
  refine ZA (λ γ => Zf (λ _ h2 => Zw 7 0 rfl (λ _ h12 => Ze (Zn (Zg rfl rfl h12 hq12) (Zu 2 VT.ty99 h2 rfl rfl z0))))) ?_
  refine ZA (λ γ => Zf (λ _ h3 => Zw 7 1 rfl (λ _ h12 => Ze (Zn (Zg rfl rfl h12 hq12) (Zj VT.fa65_1 h3 z0))))) ?_
  refine ZA (λ γ => Zw 9 0 rfl (λ _ h14 => Zw 7 2 rfl (λ _ h12 => Ze (Zn (Zg rfl rfl h12 hq12) (Zu 0 VT.ty24 h14 rfl rfl z0))))) ?_
  refine ZA (λ γ => Zf (λ _ h1 => Zw 7 3 rfl (λ _ h12 => Ze (Zn (Zg rfl rfl h12 hq12) (Zu 1 VT.ty3 h1 rfl rfl z0))))) ?_
  refine Zp (Zb3 _) (Zq (λ γ => Zw 10 1 rfl (λ _ h15 => Zw 11 0 rfl (λ _ h16 => Zw 7 4 rfl (λ _ h12 => Ze (Zn (Zg rfl rfl h12 hq12) (Zz (el := patX p) VT.sl24 h15 h16 (by omega) (get_patS hp) (λ a17 => ⟨⟨_, rfl⟩, rfl⟩)))))))) ?_
  refine ZA (λ γ => Zw 12 0 rfl (λ _ h17 => Zw 7 5 rfl (λ _ h12 => Ze (Zc3 h17 (λ a_17 e17 => Zn (Zg rfl rfl h12 hq12) (Za2 VT.ty75 e17 rfl z0)))))) ?_
  refine ZA (λ γ => Zw 8 5 rfl (λ _ h13 => Zw 13 0 rfl (λ _ h18 => Zw 7 6 rfl (λ _ h12 => Ze (Zn (Zg rfl rfl h12 hq12) (V_callCloK 3 [.tmp 18] h13 rfl (Zp2 h18 Zq2) VT.en33 rfl (isCon_c p c g11) z0)))))) ?_
  refine ZA (λ γ => Zw 7 7 rfl (λ _ h12 => Zw 14 0 rfl (λ _ h19 => Ze (Zn rfl (Zs1 h12 hq12 h19 z0))))) ?_
  refine ZA (λ γ => Zw 15 0 rfl (λ _ h20 => Ze (Zn rfl (Zk h20 z0)))) ?_
  refine DrawP_nil (λ γ => Zw 16 0 rfl (λ r4 h4 => Ze ?_))
  have e4 : r4 = some _ := h4
  subst e4
  clear h4
  refine Zi (Zf1 ?_)
  refine Zg1 rfl (.tmp rfl) ?_
  exact ⟨_, Drops.drop (Zt2 _), congrArg V.bool (by rw [hq12]; rfl), rfl⟩
 refine VW_drawR (G := Unit) [([], [3], []), ([0], [5], []), ([], [1], []), ([2, 1, 0], [6, 7], []), (dn 4, [8], []), (dn 5, [9], []), (dn 6, [10], []), (dn 7, [11], []), (dn 8, [2, 12], []), (dn 8, [3, 12], []), ([9, 7, 6, 5, 4, 3, 2, 1, 0], [14, 12], []), (dn 8, [1, 12], []), ([11, 10, 9, 7, 6, 5, 4, 3, 2, 1, 0], [15, 16, 12], []), ([12, 11, 10, 9, 7, 6, 5, 4, 3, 2, 1, 0], [17, 12], []), (dn 14, [13, 18, 12], []), (dn 15, [12, 19], []), (dn 16, [20], [])] [] (constSt _) [4] [4, 5, 6, 7, 8, 9, 10, 11, 12, 13, 14, 15, 16, 17, 18, 19, 20] rfl VT.mix ?_
 refine ZA (λ γ => Zf (λ _ h3 => Ze (Zn rfl (Zj VT.fa65_1 h3 z0)))) ?_
 refine ZA (λ γ => Zw 0 0 rfl (λ _ h5 => Ze (Zn rfl (Zu 0 VT.ty24 h5 rfl rfl z0)))) ?_
 refine ZA (λ γ => Zf (λ _ h1 => Ze (Zn rfl (Zu 1 VT.ty3 h1 rfl rfl z0)))) ?_
 refine Zp (Zb3 _) (Zq (λ γ => Zw 1 1 rfl (λ _ h6 => Zw 2 0 rfl (λ _ h7 => Ze (Zn rfl (Zz (el := patX p) VT.sl24 h6 h7 (by omega) (get_patS hp) (λ a8 => ⟨⟨_, rfl⟩, rfl⟩))))))) ?_
 refine ZA (λ γ => Zw 3 0 rfl (λ _ h8 => Ze (Zc3 h8 (λ a_8 e8 => Zn rfl (Za2 VT.ty75 e8 rfl z0))))) ?_
 refine ZA (λ γ => Zw 4 0 rfl (λ _ h9 => Ze (Zn rfl (Zx1 [.tmp 9] rfl (Zp2 h9 Zq2) VT.en31 (mfree_c p) z0)))) ?_
 refine ZA (λ γ => Zw 5 0 rfl (λ _ h10 => Ze (Zn rfl (Zl2 h10 z0)))) ?_
 refine ZA (λ γ => Zw 6 0 rfl (λ _ h11 => Ze (Zn rfl (Zl h11 z0)))) ?_
 refine ZA (λ γ => Zf (λ _ h2 => Zw 7 0 rfl (λ _ h12 => Ze (Zy2 (Zr rfl rfl h12 hq12) z0)))) ?_
 refine ZA (λ γ => Zf (λ _ h3 => Zw 7 1 rfl (λ _ h12 => Ze (Zy2 (Zr rfl rfl h12 hq12) z0)))) ?_
 refine ZA (λ γ => Zw 9 0 rfl (λ _ h14 => Zw 7 2 rfl (λ _ h12 => Ze (Zy2 (Zr rfl rfl h12 hq12) z0)))) ?_
 refine ZA (λ γ => Zf (λ _ h1 => Zw 7 3 rfl (λ _ h12 => Ze (Zy2 (Zr rfl rfl h12 hq12) z0)))) ?_
 refine ZA (λ γ => Zw 10 1 rfl (λ _ h15 => Zw 11 0 rfl (λ _ h16 => Zw 7 4 rfl (λ _ h12 => Ze (Zy2 (Zr rfl rfl h12 hq12) z0))))) ?_
 refine ZA (λ γ => Zw 12 0 rfl (λ _ h17 => Zw 7 5 rfl (λ _ h12 => Ze (Zy2 (Zr rfl rfl h12 hq12) z0)))) ?_
 refine ZA (λ γ => Zw 8 5 rfl (λ _ h13 => Zw 13 0 rfl (λ _ h18 => Zw 7 6 rfl (λ _ h12 => Ze (Zy2 (Zr rfl rfl h12 hq12) z0))))) ?_
 refine ZA (λ γ => Zw 7 7 rfl (λ _ h12 => Zw 14 0 rfl (λ _ h19 => Ze (Zn rfl (Zt1 h12 hq12 rfl z0))))) ?_
 refine ZA (λ γ => Zw 15 0 rfl (λ _ h20 => Ze (Zn rfl (Zk h20 z0)))) ?_
 refine DrawP_nil (λ γ => Zw 16 0 rfl (λ r4 h4 => Ze ?_))
 have e4 : r4 = some _ := h4
 subst e4
 clear h4
 refine Zi (Zf1 ?_)
 refine Zg1 rfl (.tmp rfl) ?_
 exact ⟨_, Drops.drop (Zt2 _), congrArg V.bool (by rw [hq12]; rfl), rfl⟩
theorem intsIndex_c (l : List Int) (tok : Option Tok) (v : Int) : VPure Tryz.prog 20 [.sl 1 tok (l.map V.int), .int v] (.int (idxOf (λ x => decide (v = x)) l)) := by
 refine V_start (nt := 19) Tryz.func20 rfl rfl rfl ?_
 refine Zb (Zd (Zc (Zk rfl (Za (Zi (Zb (Zb (Zd (Zc (Zl rfl ?_))))))))))
 refine Zc (Zd2 (n := l.length) Tryz.underlying36 rfl (by simp) (λ hl7 => ?_))
 refine Zc (Zl rfl (Za (Zi (Zs ?_))))
 refine Zi2 (ι := Nat) (λ k => l.length - k) (λ k => [(0, some (.sl 1 tok (l.map V.int))), (1, some (.int v)), (7, some (.int l.length)), (8, some (.int k))]) (λ k => []) (λ k => k <= l.length /\ (l.take k).any (λ x => decide (v = x)) = false) 0 ⟨Yf _, rfl⟩ ⟨rfl, rfl, rfl, rfl, trivial⟩ (Zt2 _) ?_
 rintro k hA
 change k <= l.length /\ (l.take k).any (λ x => decide (v = x)) = false at hA
 obtain ⟨hk, hany⟩ := hA
 refine Zb (Zd (Zc (Zj1 rfl rfl rfl (Za (Zi (Zb ?_))))))
 refine Zn1 rfl (λ h9 => ?_) (λ h9 => ?_)
 .
  obtain ⟨x, hr⟩ := get_of_lt l k h9
  refine Zi1 (Zi (Zb (Zs (Zb (Zd (Zc (Zl rfl (Zc (Zk rfl (Za (Zi (Zb (Zd (Zc (Zl rfl (Zc (Zl rfl (Zc (Zl rfl ?_)))))))))))))))))))
  refine Zc (Zz (el := V.int x) VT.sl36 rfl rfl (by omega) (get_int hr) (λ a14 => ?_))
  refine Zc (Zz1 VT.ty3 rfl rfl (Zc (Zj1 rfl rfl rfl (Za (Zi ?_)))))
  refine Zl1 rfl (λ h16 => ?_) (λ h16 => ?_)
  .
   refine Zb (Zd (Zc (Zl rfl (Zc (Zk rfl (Za (Zi (Zf1 ?_))))))))
   refine Za1 (Zd1 (Zd1 (Za1 (Zd1 (Zg1 rfl (.tmp rfl) ?_)))))
   rw [idxOf_at (λ x => decide (v = x)) hr hany (decide_eq_true h16)]
  refine Zi1 (Zb1 (Zi (Zd ?_)))
  refine Zc (Zh2 rfl rfl (by omega) ?_)
  refine Zc (Zl rfl (Za (Zi ?_)))
  exact ⟨k + 1, (by (try simp only []); omega), ⟨by omega, any_snoc hr hany (decide_eq_false h16)⟩, ⟨rfl, rfl, rfl, rfl, trivial⟩, (Drops.nil _)⟩
 have hke : k = l.length := by omega
 subst hke
 rw [Ya] at hany
 refine Zt (Ze1 (Ze1 (Zc1 (Zi (Zb (Zd (Zc (Zk rfl (Za (Zi (Zf1 ?_)))))))))))
 refine Zg1 rfl (.tmp rfl) ?_
 rw [idxOf_none (λ x => decide (v = x)) hany]
theorem intsContains_c (l : List Int) (tok : Option Tok) (v : Int) : VPure Tryz.prog 58 [.sl 1 tok (l.map V.int), .int v] (.bool (l.any λ x => decide (v = x))) := by
 refine V_start (nt := 9) Tryz.func58 rfl rfl rfl ?_
 refine Zb (Zd (Zc (Zk rfl (Za (Zi (Zb (Zd (Zc (Zl rfl (Zc (Zl rfl ?_)))))))))))
 refine Zc (Zx1 [.tmp 5, .tmp 6] rfl rfl VT.en20 (intsIndex_c l tok v) ?_)
 refine Zc (Zj1 rfl rfl rfl (Zc (Zk rfl (Za (Zi (Zf1 ?_))))))
 refine Zg1 rfl (.tmp rfl) ?_
 rw [idxOf_ge]
theorem intsClone_c (l : List Int) (hl : l.length <= 1000000) : VPure Tryz.prog 16 [.sl 1 none (l.map V.int)] (.sl 1 none (l.map V.int)) := by
 refine V_start (nt := 8) Tryz.func16 rfl rfl rfl ?_
 refine Zb (Zd (Zc (Zk rfl (Za (Zi (Zb (Zb (Zd (Zc (Zl rfl ?_))))))))))
 refine Zc (V_eqNil Tryz.underlying36 rfl (λ b4 hb4 => ?_))
 refine Za (Zi ?_)
 refine Zr1 rfl (λ h4 => ?_) (λ h4 => ?_)
 .
  have hn : l = [] := by simpa using hb4 h4
  subst hn
  refine Zb (Zd ?_)
  refine Zc (Zu2 (Zk rfl ⟨rfl, rfl⟩) (V.le.nil 1) ?_)
  refine Za (Zi (Zf1 ?_))
  refine Zd1 (Zg1 rfl (.strip rfl) ?_)
  rfl
 refine Zi1 (Zi (Zb (Zd ?_)))
 refine Zc (V_litTok [] VT.sl36 rfl rfl rfl rfl rfl (λ t5 => ?_))
 refine Zc (Zl rfl ?_)
 refine Zc (Zi3 0 _ VT.sl36 rfl rfl rfl (by simp) (by simp; omega) (λ t7 => ?_))
 refine Zc (Zk rfl (Za (Zi (Zf1 ?_))))
 refine Zg1 rfl (.strip rfl) ?_
 rfl
theorem intsClone_l (l : List Int) (hne : l ≠ []) (hl : l.length <= 1000000) : VList Tryz.prog 16 [.sl 1 none (l.map V.int)] 3 1 (l.map V.int) := by
 unfold VList
 refine V_start (nt := 8) Tryz.func16 rfl rfl rfl ?_
 refine Zb (Zd (Zc (Zk rfl (Za (Zi (Zb (Zb (Zd (Zc (Zl rfl ?_))))))))))
 refine Zc (V_eqNil Tryz.underlying36 rfl (λ b4 hb4 => ?_))
 refine Za (Zi ?_)
 refine Zr1 rfl (λ h4 => ?_) (λ h4 => ?_)
 . exact absurd (hb4 h4) (by simpa using hne)
 refine Zi1 (Zi (Zb (Zd ?_)))
 refine Zc (V_lit0 [] VT.sl36 rfl rfl rfl rfl rfl rfl ?_)
 refine Zc (Zl rfl ?_)
 refine Zc (V_append0 VT.sl36 rfl rfl (by simp; omega) (λ t7 => ?_))
 refine Zc (Zk rfl (Za (Zi (Zf1 ?_))))
 refine Zg1 rfl (.tmp rfl) ?_
 exact ⟨t7, rfl, rfl⟩
theorem pathsGrow_c (n : Int) (h0 : 0 <= n) (hn : n <= 2000000) : VCalls Tryz.prog 92 [V.nilSl, .int n] [] λ r S' => ∃ tok, r = .sl 1 (some tok) [] /\ S' = [.buf tok 36 1 0] := by
 refine V_start (nt := 27) Tryz.func92 rfl rfl rfl ?_
 refine Zb (Zd (Zc (Zk rfl (Za (Zi (Zb (Zb (Zd (Zc (Zl rfl (Zc (Zj1 rfl rfl rfl (Za (Zi ?_))))))))))))))
 refine Zq1 rfl (by simp; omega) ?_
 refine Zi1 (Zi (Zb (Zb (Zd (Zc (Zl rfl (Zc (Zl rfl ?_))))))))
 refine Zc (V_cap_raw Tryz.underlying63 rfl ?_)
 refine Zc (Zl rfl ?_)
 refine Zc (V_len_raw Tryz.underlying63 rfl ?_)
 refine Zc (Zk2 rfl rfl (by omega) ?_)
 refine Zc (Zk2 rfl rfl (by omega) ?_)
 refine Zc (Zk rfl (Za (Zi (Zb (Zd (Zc (Zl rfl (Zc (Zj1 rfl rfl rfl (Za (Zi ?_)))))))))))
 refine Zn1 rfl (λ h16 => ?_) (λ h16 => ?_)
 .
  refine Zd (Zc (Zl rfl (Zc (Zl rfl ?_))))
  refine Zc (V_cap_raw Tryz.underlying63 rfl ?_)
  refine Zc (V_slice_raw VT.sl63 rfl rfl rfl (by omega) (by omega) (by omega) ?_)
  refine Zc (Zl rfl ?_)
  refine Zc (V_growNil VT.sl63 Tryz.underlying3 rfl rfl (by omega) (by omega) (λ g22 cap22 hcg22 hmg22 => ?_))
  refine Zc (Zl rfl ?_)
  refine Zc (V_len_raw Tryz.underlying63 rfl ?_)
  refine Zc (V_slice0 VT.sl63 rfl rfl (by omega) hmg22 ?_)
  refine Zc (Zk rfl (Za (Zi (Zb (Zd (Zc (Zl rfl (Zc (Zk rfl (Za (Zi (Zf1 ?_))))))))))))
  refine Zg1 rfl (.tmp rfl) ?_
  exact ⟨_, rfl, rfl⟩
 refine VW_nil (q := 0) 36 1 rfl ?_
 refine Zi1 (Zi (Zb (Zd (Zc (Zl rfl (Zc (Zk rfl (Za (Zi (Zf1 ?_))))))))))
 refine Zg1 rfl (.tmp rfl) ?_
 exact ⟨_, rfl, rfl⟩
theorem pathsConcat_l (rows : List (List (List Int))) (hs : rows.flatten.length <= 1000000) : VList Tryz.prog 62 [.sl 1 none (rows.map pathsX)] 36 1 (rows.flatten.map intsX) := by
 unfold VList
 refine V_start (nt := 36) Tryz.func62 rfl rfl rfl ?_
 refine Zb (Zd (Zc (Zk rfl (Za (Zi (Zb (Zd (Zc (Zk rfl (Za (Zi (Zb (Zb (Zd (Zc (Zl rfl ?_))))))))))))))))
 refine Zc (Zd2 (n := rows.length) Tryz.underlying168 rfl (by simp) (λ hl10 => ?_))
 refine Zc (Zl rfl (Za (Zi (Zs ?_))))
 refine Zi2 (ι := Nat) (λ k => rows.length - k) (λ k => [(0, some (.sl 1 none (rows.map pathsX))), (3, some (.int (rows.take k).flatten.length)), (9, some (.sl 1 none (rows.map pathsX))), (10, some (.int rows.length)), (11, some (.int k))]) (λ k => []) (λ k => k <= rows.length) 0 (by simp) ⟨rfl, rfl, rfl, rfl, rfl, trivial⟩ (Drops.nil _) ?_
 rintro k hk
 change k <= rows.length at hk
 refine Zb (Zd (Zc (Zj1 rfl rfl rfl (Za (Zi (Zb ?_))))))
 refine Zn1 rfl (λ h12 => ?_) (λ h12 => ?_)
 .
  obtain ⟨r, hr⟩ := get_of_lt rows k h12
  have hfl := flatten_le hr
  refine Zi1 (Zi (Zb (Zs (Zb (Zd ?_)))))
  refine Zc (Zz (el := pathsX r) VT.sl168 rfl rfl (by omega) (get_mapS _ hr) (λ a13 => ?_))
  refine Zc (Zz1 VT.ty63 rfl rfl (Zc (Zk rfl (Za (Zi (Zb (Zd (Zc (Zl rfl (Zc (Zl rfl ?_)))))))))))
  refine Zc (Zd2 (n := r.length) Tryz.underlying63 rfl (by simp) (λ hl17 => ?_))
  refine Zc (Zh2 rfl rfl (by omega) ?_)
  refine Zc (Zk rfl (Za (Zi (Zb (Zd (Zc (Zl rfl (Zc (Zj1 rfl rfl rfl (Za (Zi ?_)))))))))))
  refine Zq1 rfl (by simp; omega) ?_
  refine Zi1 (Zb1 (Zi (Zd ?_)))
  refine Zc (Zh2 rfl rfl (by omega) ?_)
  refine Zc (Zl rfl (Za (Zi ?_)))
  exact ⟨k + 1, (by (try simp only []); omega), (by omega), ⟨rfl, (by rw [take_snoc hr, Yc, Yd, Ye]; rfl), rfl, rfl, rfl, trivial⟩, (Drops.nil _)⟩
 have hT : (rows.take k).flatten.length <= 1000000 := by rw [take_end h12]; exact hs
 refine Zt (Ze1 (Ze1 (Zc1 (Zi (Zb (Zd (Zc (Zl rfl ?_))))))))
 refine Zc (Zm3 [.const _, .tmp 23] [] _ rfl rfl VT.en92 (.refl _) (pathsGrow_c _ (by omega) (by omega)) ?_)
 rintro r Sa ⟨tok0, rfl, rfl⟩
 refine Zc (Zk rfl (Za (Zi (Zb (Zb (Zd (Zc (Zl rfl ?_))))))))
 refine Zc (Zd2 (n := rows.length) Tryz.underlying168 rfl (by simp) (λ hl26 => ?_))
 refine Zc (Zl rfl (Za (Zi (Zs ?_))))
 refine Zi2 (ι := Nat × Tok) (λ (j, t) => rows.length - j) (λ (j, t) => [(6, some (.sl 1 (some t) ((rows.take j).flatten.map intsX))), (25, some (.sl 1 none (rows.map pathsX))), (26, some (.int rows.length)), (27, some (.int j))]) (λ (j, t) => [.buf t 36 1 (rows.take j).flatten.length]) (λ (j, t) => j <= rows.length) (0, tok0) (by simp) ⟨rfl, rfl, rfl, rfl, trivial⟩ (Drops.buf rfl (Zt2 _)) ?_
 rintro ⟨j, t⟩ hj
 change j <= rows.length at hj
 refine Zb (Zd (Zc (Zj1 rfl rfl rfl (Za (Zi (Zb ?_))))))
 refine Zn1 rfl (λ h28 => ?_) (λ h28 => ?_)
 .
  obtain ⟨r, hr⟩ := get_of_lt rows j h28
  have hfl := flatten_le hr
  refine Zi1 (Zi (Zb (Zs (Zb (Zd ?_)))))
  refine Zc (Zz (el := pathsX r) VT.sl168 rfl rfl (by omega) (get_mapS _ hr) (λ a29 => ?_))
  refine Zc (Zz1 VT.ty63 rfl rfl (Zc (Zk rfl (Za (Zi (Zd (Zc (Zl rfl (Zc (Zl rfl ?_))))))))))
  refine Zc (Zi3 0 _ VT.sl63 rfl rfl rfl (by rw [Yb]) (by rw [Yb, Yb]; omega) (λ t33 => ?_))
  refine Zc (Zk rfl (Za (Zb1 (Zi (Zd ?_)))))
  refine Zc (Zh2 rfl rfl (by omega) ?_)
  refine Zc (Zl rfl (Za (Zi ?_)))
  exact ⟨(j + 1, t33), (by (try simp only []); omega), (by omega), ⟨(by rw [take_snoc hr, Yc, List.map_append, Ye]; rfl), rfl, rfl, rfl, trivial⟩, (Drops.buf (by rw [take_snoc hr, Yc, Yd, Yd, Yb, Yb, Ye]) (Zt2 _))⟩
 refine Zt (Ze1 (Ze1 (Zc1 (Zi (Zb (Zd (Zc (Zl rfl (Zc (Zk rfl (Za (Zi (Zf1 ?_)))))))))))))
 refine Zg1 rfl (.tmp rfl) ?_
 rw [take_end h28]
 exact ⟨_, rfl, by show [Own.buf t 36 1 (rows.take j).flatten.length] = _; rw [take_end h28, Yb]⟩
end Go.Proofs.YtpkbgamoboojaaaGreat.W16
