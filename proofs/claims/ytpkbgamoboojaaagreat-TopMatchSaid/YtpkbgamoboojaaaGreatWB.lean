import Derived.Test.YtpkbgamoboojaaaGreatWA
set_option maxRecDepth 100000
set_option maxHeartbeats 4000000
open Go.VL.Drops renaming keep → Dk, drop → Dd
set_option linter.all false
open List renaming mem_of_getElem? → Ya, append_nil → Yb, take_length → Yc, map_append → Yd, drop_length → Ye
open Nat renaming zero_le → Yf
section
namespace Go.Proofs.YtpkbgamoboojaaaGreat.W5
open Go.VL Go.PM Go.Proofs.YtpkbgamoboojaaaGreat W1 W2 W3 W4
end Go.Proofs.YtpkbgamoboojaaaGreat.W5
end
section
namespace Go.Proofs.YtpkbgamoboojaaaGreat.W6
open Go.VL Go.PM Go.Proofs.YtpkbgamoboojaaaGreat W1 W2 W3 W4 W5
theorem rowsT.ne {t : Tab} {τ : Ty} {τs : List Ty} {rows : List (List Pat)} (h : rowsT t (τ :: τs) rows) : ∀ r ∈ rows, r ≠ [] := λ r hr e => by
 have := h r hr
 rw [e] at this
 exact this
end Go.Proofs.YtpkbgamoboojaaaGreat.W6
end
section
namespace Go.Proofs.YtpkbgamoboojaaaGreat.W7
open Go.VL Go.PM Go.Proofs.YtpkbgamoboojaaaGreat W1 W2 W3 W4
theorem agree_false {t : Tab} {f : Nat} {l m : List Pat} (hm : m = l.filter nf) (h : agreeLoop (agreeF t f) m [] m = false) : agreeF t (f + 1) l = false := by
 subst hm
 rw [agreeF, h, Bool.and_false]
theorem take_mapX (l : List Pat) (n : Nat) : V.sl 4 none ((l.map patV).take n) = patsX (l.take n) := by rw [patsX, List.map_take]
theorem agree_step (ds : List DataSig) (t : Tab) (g : Nat) (f : Nat) (ih : ∀ l, AgreePre t f l -> VKeep Tryz.prog 44 [tabX ds g, patsX l] [tabO g t] (.bool (agreeF t f l))) (l : List Pat) (hp : AgreePre t (f + 1) l) : VKeep Tryz.prog 44 [tabX ds g, patsX l] [tabO g t] (.bool (agreeF t (f + 1) l)) := by
 have hne := hp.ne
 have hl := hp.len
 have hfil := List.length_filter_le nf l
 refine VCalls_drops ?_
 refine V_start (nt := 79) Tryz.func44 rfl rfl rfl ?_
 refine Zb (Zd ?_)
 refine Zc (Zc2 rfl rfl (λ g2 => ?_))
 refine Zc (Zk rfl (Za (Zi (Zb (Zd (Zc (Zl rfl ?_)))))))
 refine Zc (Zm3 [.tmp 13] [] _ rfl rfl VT.en49 (.refl _) (cloneRow_c l hne (by omega)) ?_)
 rintro r Sa ⟨g0, cap0, rest0, hc0, hm0, rfl, rfl⟩
 refine Zc (Zm3 [.tmp 14, .func 40] [_] _ rfl rfl VT.en76 (Zv2 (i := 0) rfl) (delete_c l rest0 g0 cap0 (by omega) hc0) ?_)
 rintro r Sa ⟨rest1, rfl, rfl⟩
 refine Zc (Zk rfl (Za (Zi ?_)))
 refine VW_freeze 0 (q := 1) ((l.filter nf).map patV) rfl rfl rfl (by simp) (by omega) hm0 (pats_fits _) ?_
 generalize hm : l.filter nf = m at hfil
 have hok : ∀ p ∈ m, patF t p = 0 := λ p h => hp.ok p (nf_mem (hm ▸ h)).1
 have hnf : ∀ p ∈ m, free p = false := λ p h => (nf_mem (hm ▸ h)).2
 refine Zb (Zb (Zd (Zc (Zl rfl ?_))))
 refine Zc (Zd2 (n := m.length) Tryz.underlying24 rfl (by simp) (λ hl17 => ?_))
 refine Zc (Zl rfl (Za (Zi (Zs ?_))))
 refine Zi2 (ι := Nat) (λ k => m.length - k) (λ k => [(1, some (patsX m)), (2, some (.ptr g2 0)), (16, some (patsX m)), (17, some (.int m.length)), (18, some (.int k))]) (λ k => [.cells g2 83 [datasX ds, .raw (.map (some g))], tabO g t]) (λ k => k <= m.length /\ (m.take k).all (λ p => decide (kindF t p = kindF t (m.headD anyP))) = true) 0 ⟨Yf _, rfl⟩ ⟨rfl, rfl, rfl, rfl, rfl, trivial⟩ (Dk (Dk (Zt2 _))) ?_
 rintro k hA
 change k <= m.length /\ (m.take k).all (λ p => decide (kindF t p = kindF t (m.headD anyP))) = true at hA
 obtain ⟨hk, hall⟩ := hA
 refine Zb (Zd (Zc (Zj1 rfl rfl rfl (Za (Zi (Zb ?_))))))
 refine Zn1 rfl (λ h19 => ?_) (λ h19 => ?_)
 .
  obtain ⟨p, hr⟩ := get_of_lt m k h19
  obtain ⟨p0, l0, hm0⟩ : ∃ p0 l0, m = p0 :: l0 := by cases m with | nil => simp at hr | cons a b => exact ⟨a, b, rfl⟩
  have hhd : m.headD anyP = p0 := by rw [hm0]; rfl
  refine Zi1 (Zi (Zb (Zs (Zb (Zd ?_)))))
  refine Zc (Zz (el := patX p) VT.sl24 rfl rfl (by omega) (get_patS hr) (λ a20 => ?_))
  refine Zc (Za2 VT.ty75 rfl rfl ?_)
  refine Zc (Zb2 VT.zr75 _ rfl rfl (λ g6 => ?_))
  refine Zc (Zx 0 VT.ty75 rfl rfl rfl rfl rfl (Za (Zi (Zb ?_))))
  refine VW_drawR (G := Unit) [([], [2], []), ([], [6], []), ([1, 0], [22, 23], []), ([], [2], []), ([], [1], []), ([4], [26], []), ([5, 4], [27], []), (dn 7, [25, 28], []), (dn 8, [24, 29], [])] [] (constSt _) [30] [22, 23, 24, 25, 26, 27, 28, 29, 30] rfl VT.mix ?_
  refine ZA (λ γ => Zf (λ _ h2 => Ze (Zn rfl (Zv 1 VT.ty83 h2 rfl rfl z0)))) ?_
  refine ZA (λ γ => Zf (λ _ h6 => Ze (Zn rfl (Zv 0 VT.ty75 h6 rfl rfl z0)))) ?_
  refine ZA (λ γ => Zw 0 1 rfl (λ _ h22 => Zw 1 0 rfl (λ _ h23 => Ze (Zn rfl (V_callK 2 [.tmp 22, .tmp 23] rfl (Zp2 h22 (Zp2 h23 Zq2)) VT.en77 rfl (kind_c ds t g p) z0))))) ?_
  refine ZA (λ γ => Zf (λ _ h2 => Ze (Zn rfl (Zv 1 VT.ty83 h2 rfl rfl z0)))) ?_
  refine ZA (λ γ => Zf (λ _ h1 => Ze (Zn rfl (Zl h1 z0)))) ?_
  refine Zp (Zb3 _) (Zq (λ γ => Zw 4 0 rfl (λ _ h26 => Ze (Zn rfl (Zz (el := patX p0) VT.sl24 h26 rfl (by omega) (by rw [hm0]; exact get_patS rfl) (λ a27 => ⟨⟨_, rfl⟩, rfl⟩)))))) ?_
  refine ZA (λ γ => Zw 5 0 rfl (λ _ h27 => Ze (Zc3 h27 (λ a_27 e27 => Zn rfl (Za2 VT.ty75 e27 rfl z0))))) ?_
  refine ZA (λ γ => Zw 3 3 rfl (λ _ h25 => Zw 6 0 rfl (λ _ h28 => Ze (Zn rfl (V_callK 2 [.tmp 25, .tmp 28] rfl (Zp2 h25 (Zp2 h28 Zq2)) VT.en77 rfl (kind_c ds t g p0) z0))))) ?_
  refine ZA (λ γ => Zw 2 5 rfl (λ _ h24 => Zw 7 0 rfl (λ _ h29 => Ze (Zn rfl (Zj1 h24 h29 rfl z0))))) ?_
  refine DrawP_nil (λ γ => Zw 8 0 rfl (λ r30 h30 => Ze ?_))
  have e30 : r30 = some _ := h30
  subst e30
  clear h30
  refine Zi ?_
  refine Zm1 rfl (λ h30 => ?_) (λ h30 => ?_)
  .
   rw [<- hhd] at h30
   refine Zb (Zd (Zc (Zk rfl (Za (Zi (Zf1 ?_))))))
   refine Za1 (Zd1 (Zd1 (Za1 (Zd1 (Zg1 rfl (.tmp rfl) ?_)))))
   refine ⟨_, Dd (Dd (Zt2 _)), ?_, rfl⟩
   rw [agreeF, hm, sameKind_no hr h30, Bool.false_and]
  rw [<- hhd] at h30
  refine Zi1 (Zb1 (Zi (Zd ?_)))
  refine Zc (Zh2 rfl rfl (by omega) ?_)
  refine Zc (Zl rfl (Za (Zi ?_)))
  exact ⟨k + 1, (by (try simp only []); omega), ⟨by omega, all_snoc hr hall (by simpa using h30)⟩, ⟨rfl, rfl, rfl, rfl, rfl, trivial⟩, (Dd (Dk (Dk (Zt2 _))))⟩
 have hke : k = m.length := by omega
 subst hke
 rw [Yc] at hall
 have hsk : sameKind t m = true := hall
 refine Zt (Ze1 (Ze1 (Zc1 (Zi (Zb (Zb (Zd (Zc (Zl rfl ?_)))))))))
 refine Zc (Zd2 (n := m.length) Tryz.underlying24 rfl (by simp) (λ hl33 => ?_))
 refine Zc (Zl rfl (Za (Zi (Zs ?_))))
 refine Zi2 (ι := Nat) (λ j => m.length - j) (λ j => [(1, some (patsX m)), (2, some (.ptr g2 0)), (32, some (patsX m)), (33, some (.int m.length)), (34, some (.int j))]) (λ j => [.cells g2 83 [datasX ds, .raw (.map (some g))], tabO g t]) (λ j => j <= m.length /\ agreeLoop (agreeF t f) m (m.take j) (m.drop j) = agreeLoop (agreeF t f) m [] m) 0 ⟨Yf _, rfl⟩ ⟨rfl, rfl, rfl, rfl, rfl, trivial⟩ (Dk (Dk (Zt2 _))) ?_
 rintro j hA
 change j <= m.length /\ agreeLoop (agreeF t f) m (m.take j) (m.drop j) = agreeLoop (agreeF t f) m [] m at hA
 obtain ⟨hj, hq⟩ := hA
 refine Zb (Zd (Zc (Zj1 rfl rfl rfl (Za (Zi (Zb ?_))))))
 refine Zn1 rfl (λ h35 => ?_) (λ h35 => ?_)
 .
  obtain ⟨p, hr⟩ := get_of_lt m j h35
  have hpm := Ya hr
  refine Zi1 (Zi (Zb (Zs (Zb (Zd (Zc (Zl rfl ?_)))))))
  refine Zc (Zz (el := patX p) VT.sl24 rfl rfl (by omega) (get_patS hr) (λ a37 => ?_))
  refine Zc (Za2 VT.ty75 rfl rfl ?_)
  refine Zc (Zb2 VT.zr75 _ rfl rfl (λ g8 => ?_))
  refine Zc (Zk rfl (Zc (Zx 0 VT.ty75 rfl rfl rfl rfl rfl (Za (Zi (Zb (Zb (Zd (Zc (Zl rfl (Zc (Zl rfl ?_))))))))))))
  refine Zc (Zu2 (V_sliceTo VT.sl24 rfl rfl (by omega) (by simp; omega) ⟨rfl, rfl⟩) (V.le.of_eq (take_mapX m j)) ?_)
  refine Zc (V_makeFunc [.tmp 8] rfl rfl ?_)
  refine Zc (V_callK 0 [.tmp 41, .tmp 42] rfl rfl VT.en78 rfl (patAnyK_c (p := λ q => decide (q.name = p.name)) VT.en79 (λ q _ => agree1_c q p g8)) ?_)
  refine Za (Zi ?_)
  refine Zr1 rfl (λ h43 => ?_) (λ h43 => ?_)
  .
   have hstep : agreeLoop (agreeF t f) m (m.take (j + 1)) (m.drop (j + 1)) = agreeLoop (agreeF t f) m [] m := by rw [<- hq, drop_cons hr, agreeLoop, take_snoc hr, h43]; simp
   refine Zt (Ze1 (Zc1 (Zi (Zd ?_))))
   refine Zc (Zh2 rfl rfl (by omega) ?_)
   refine Zc (Zl rfl (Za (Zi ?_)))
   exact ⟨j + 1, (by (try simp only []); omega), ⟨by omega, hstep⟩, ⟨rfl, rfl, rfl, rfl, rfl, trivial⟩, (Dd (Dk (Dk (Zt2 _))))⟩
  refine Zi1 (Zi (Zb (Zb (Zd (Zc (Zj VT.fa75_0 rfl (Zc (Zu 0 VT.ty3 rfl rfl rfl (Zc (Zj1 rfl rfl rfl (Za (Zi ?_))))))))))))
  refine Zm1 rfl (λ h46 => ?_) (λ h46 => ?_)
  .
   have h46a : decide (p.kind ≠ 3) = true := by simpa using h46
   have hstep : agreeLoop (agreeF t f) m (m.take (j + 1)) (m.drop (j + 1)) = agreeLoop (agreeF t f) m [] m := by rw [<- hq, drop_cons hr, agreeLoop, take_snoc hr, h46a]; simp
   refine Zt (Ze1 (Zc1 (Zi (Zd ?_))))
   refine Zc (Zh2 rfl rfl (by omega) ?_)
   refine Zc (Zl rfl (Za (Zi ?_)))
   exact ⟨j + 1, (by (try simp only []); omega), ⟨by omega, hstep⟩, ⟨rfl, rfl, rfl, rfl, rfl, trivial⟩, (Dd (Dk (Dk (Zt2 _))))⟩
  have hargs : ∀ q ∈ m, q.name = p.name -> q.args.length = p.args.length := λ q hq1 hq2 => (same_args hsk hok hnf hpm hq1 h46 hq2).2.1
  refine Zi1 (Zi (Zb (Zd (Zc (Zj VT.fa75_3 rfl (Zc (Zu 0 VT.ty24 rfl rfl rfl ?_)))))))
  refine Zc (Zd2 (n := p.args.length) Tryz.underlying24 rfl (by simp) (λ hl49 => ?_))
  refine Zc (Zl rfl (Za (Zi (Zs ?_))))
  refine Zi2 (ι := Nat) (λ n => p.args.length - n) (λ n => [(1, some (patsX m)), (2, some (.ptr g2 0)), (8, some (.ptr g8 0)), (32, some (patsX m)), (33, some (.int m.length)), (34, some (.int j)), (49, some (.int p.args.length)), (50, some (.int n))]) (λ n => [.cells g8 75 [.int p.kind, .str p.name, .int p.n, patsX p.args], .cells g2 83 [datasX ds, .raw (.map (some g))], tabO g t]) (λ n => n <= p.args.length /\ agreeArgs (agreeF t f) m p.name n (p.args.length - n) = agreeArgs (agreeF t f) m p.name 0 p.args.length) 0 ⟨Yf _, rfl⟩ ⟨rfl, rfl, rfl, rfl, rfl, rfl, rfl, rfl, trivial⟩ (Dk (Dk (Dk (Zt2 _)))) ?_
  rintro n hA
  change n <= p.args.length /\ agreeArgs (agreeF t f) m p.name n (p.args.length - n) = agreeArgs (agreeF t f) m p.name 0 p.args.length at hA
  obtain ⟨hn, hqa⟩ := hA
  refine Zb (Zd (Zc (Zj1 rfl rfl rfl (Za (Zi (Zb ?_))))))
  refine Zn1 rfl (λ h51 => ?_) (λ h51 => ?_)
  .
   have hpre2 := hp.below hm.symm hsk hpm h46 (n := n) (by omega)
   refine Zi1 (Zi (Zb (Zs (Zb (Zd (Zc (Zl rfl (Zc (Zk rfl (Za (Zi (Zb (Zd (Zc (V_assign_nil 75 4 (Za (Zi (Zb (Zb (Zd (Zc (Zl rfl ?_))))))))))))))))))))))
   refine Zc (Zd2 (n := m.length) Tryz.underlying24 rfl (by simp) (λ hl54 => ?_))
   refine Zc (Zl rfl (Za (Zi (Zs ?_))))
   refine Zi2 (ι := Nat × Tok) (λ (i, tk) => m.length - i) (λ (i, tk) => [(1, some (patsX m)), (2, some (.ptr g2 0)), (8, some (.ptr g8 0)), (9, some (.int n)), (10, some (.sl 4 (some tk) ((belowF (m.take i) p.name n).map patV))), (32, some (patsX m)), (33, some (.int m.length)), (34, some (.int j)), (49, some (.int p.args.length)), (50, some (.int n)), (53, some (patsX m)), (54, some (.int m.length)), (55, some (.int i))]) (λ (i, tk) => [.buf tk 75 4 (belowF (m.take i) p.name n).length, .cells g8 75 [.int p.kind, .str p.name, .int p.n, patsX p.args], .cells g2 83 [datasX ds, .raw (.map (some g))], tabO g t]) (λ (i, tk) => i <= m.length) (0, .nil) (by simp) ⟨rfl, rfl, rfl, rfl, (by simp [belowF]; rfl), rfl, rfl, rfl, rfl, rfl, rfl, rfl, rfl, trivial⟩ (Drops.buf (by simp [belowF]) (Dk (Dk (Dk (Zt2 _))))) ?_
   rintro ⟨i, tk⟩ hi
   change i <= m.length at hi
   refine Zb (Zd (Zc (Zj1 rfl rfl rfl (Za (Zi (Zb ?_))))))
   refine Zn1 rfl (λ h56 => ?_) (λ h56 => ?_)
   .
    obtain ⟨q, hqi⟩ := get_of_lt m i h56
    refine Zi1 (Zi (Zb (Zs (Zb (Zd ?_)))))
    refine Zc (Zz (el := patX q) VT.sl24 rfl rfl (by omega) (get_patS hqi) (λ a57 => ?_))
    refine Zc (Za2 VT.ty75 rfl rfl ?_)
    refine Zc (Zb2 VT.zr75 _ rfl rfl (λ g12 => ?_))
    refine Zc (Zx 0 VT.ty75 rfl rfl rfl rfl rfl (Za (Zi (Zb (Zd (Zc (Zj VT.fa75_1 rfl (Zc (Zu 0 VT.ty9 rfl rfl rfl (Zc (Zj VT.fa75_1 rfl (Zc (Zu 2 VT.ty9 rfl rfl rfl (Zc (V_streq rfl rfl (Za (Zi ?_)))))))))))))))))
    refine Zl1 rfl (λ h63 => ?_) (λ h63 => ?_)
    .
     have hql := hargs q (Ya hqi) h63
     obtain ⟨qa, hqa2⟩ := get_of_lt q.args n (by omega)
     have hqg : q.args.getD n anyP = qa := by simp [hqa2]
     have hbl := below_len (m.take i) p.name n
     rw [List.length_take] at hbl
     refine Zd (Zc (Zl rfl (Zc (Zj VT.fa75_3 rfl (Zc (Zu 0 VT.ty24 rfl rfl rfl (Zc (Zl rfl ?_))))))))
     refine Zc (Zz (el := patX qa) VT.sl24 rfl rfl (by omega) (get_patS hqa2) (λ a68 => ?_))
     refine Zc (Za2 VT.ty75 rfl rfl ?_)
     refine Zc (Zk3 [.tmp 69] VT.sl24 rfl rfl rfl rfl rfl ?_)
     refine Zc (Zi3 1 _ VT.sl24 rfl rfl rfl (by simp) (by simp; omega) (λ t71 => ?_))
     refine Zc (Zk rfl (Za (Zb1 (Zi (Zd ?_)))))
     refine Zc (Zh2 rfl rfl (by omega) ?_)
     refine Zc (Zl rfl (Za (Zi ?_)))
     exact ⟨(i + 1, t71), (by (try simp only []); omega), (by omega), ⟨rfl, rfl, rfl, rfl, (by rw [take_snoc hqi, below_snoc]; first | (rw [if_neg h63, Yb]; rfl) | (rw [if_pos h63, hqg, Yd, List.map_cons, patV_eq qa]; rfl)), rfl, rfl, rfl, rfl, rfl, rfl, rfl, rfl, trivial⟩, (Dd (Drops.buf (by rw [take_snoc hqi, below_snoc]; first | (rw [if_neg h63, Yb]; done) | (rw [if_pos h63, hqg]; simp)) (Dk (Dk (Dk (Zt2 _))))))⟩
    refine Zi1 (Zb1 (Zi (Zd ?_)))
    refine Zc (Zh2 rfl rfl (by omega) ?_)
    refine Zc (Zl rfl (Za (Zi ?_)))
    exact ⟨(i + 1, tk), (by (try simp only []); omega), (by omega), ⟨rfl, rfl, rfl, rfl, (by rw [take_snoc hqi, below_snoc]; first | (rw [if_neg h63, Yb]; rfl) | (rw [if_pos h63, hqg, Yd, List.map_cons, patV_eq qa]; rfl)), rfl, rfl, rfl, rfl, rfl, rfl, rfl, rfl, trivial⟩, (Dd (Drops.buf (by rw [take_snoc hqi, below_snoc]; first | (rw [if_neg h63, Yb]; done) | (rw [if_pos h63, hqg]; simp)) (Dk (Dk (Dk (Zt2 _))))))⟩
   have hte := take_end h56
   refine Zt (Ze1 (Ze1 (Zc1 (Zi (Zb (Zd (Zc (Zv 2 VT.ty83 rfl rfl rfl ?_))))))))
   refine Zc (Zu2 (Zl rfl ⟨rfl, rfl⟩) (V.le.strip) ?_)
   refine Zc (V_callK 3 [.tmp 73, .tmp 74] rfl rfl VT.en44 rfl ((by rw [hte]; exact ih _ hpre2 : VKeep Tryz.prog 44 [tabX ds g, patsX (belowF (m.take i) p.name n)] [tabO g t] (.bool (agreeF t f (belowF m p.name n))))) ?_)
   refine Zc (Zl2 rfl (Za (Zi ?_)))
   refine Zo1 rfl (λ h76 => ?_) (λ h76 => ?_)
   .
    refine Zb (Zd (Zc (Zk rfl (Za (Zi (Zf1 ?_))))))
    refine Za1 (Zd1 (Zd1 (Za1 (Za1 (Zd1 (Zd1 (Za1 (Zd1 (Zg1 rfl (.tmp rfl) ?_)))))))))
    refine ⟨_, Dd (Dd (Dd (Zt2 _))), ?_, rfl⟩
    rw [agree_false hm.symm ?_]
    rw [<- hq, drop_cons hr, agreeLoop, <- hqa, show p.args.length - n = (p.args.length - (n + 1)) + 1 by omega, agreeArgs, h76, h43]
    simp [h46]
   refine Zi1 (Zb1 (Zi (Zd ?_)))
   refine Zc (Zh2 rfl rfl (by omega) ?_)
   refine Zc (Zl rfl (Za (Zi ?_)))
   exact ⟨n + 1, (by (try simp only []); omega), ⟨by omega, by rw [<- hqa, show p.args.length - n = (p.args.length - (n + 1)) + 1 by omega, agreeArgs, h76]; rfl⟩, ⟨rfl, rfl, rfl, rfl, rfl, rfl, rfl, rfl, trivial⟩, (Dd (Dk (Dk (Dk (Zt2 _)))))⟩
  have hne2 : n = p.args.length := by omega
  subst hne2
  rw [Nat.sub_self, agreeArgs] at hqa
  have hstep : agreeLoop (agreeF t f) m (m.take (j + 1)) (m.drop (j + 1)) = agreeLoop (agreeF t f) m [] m := by rw [<- hq, drop_cons hr, agreeLoop, take_snoc hr, <- hqa]; simp
  refine Zt (Ze1 (Ze1 (Zc1 (Zb1 (Zi (Zd ?_))))))
  refine Zc (Zh2 rfl rfl (by omega) ?_)
  refine Zc (Zl rfl (Za (Zi ?_)))
  exact ⟨j + 1, (by (try simp only []); omega), ⟨by omega, hstep⟩, ⟨rfl, rfl, rfl, rfl, rfl, trivial⟩, (Dd (Dk (Dk (Zt2 _))))⟩
 have hje : j = m.length := by omega
 subst hje
 rw [Yc, Ye, agreeLoop] at hq
 refine Zt (Ze1 (Ze1 (Zc1 (Zi (Zb (Zd (Zc (Zk rfl (Za (Zi (Zf1 ?_)))))))))))
 refine Zg1 rfl (.tmp rfl) ?_
 refine ⟨_, Dd (Zt2 _), ?_, rfl⟩
 rw [agreeF, hm, hsk, <- hq]
 rfl
theorem agree_c (ds : List DataSig) (t : Tab) (g : Nat) : ∀ (f : Nat) (l : List Pat), AgreePre t f l -> VKeep Tryz.prog 44 [tabX ds g, patsX l] [tabO g t] (.bool (agreeF t f l))
 | 0, l, h => absurd h.fuel (Nat.not_lt_zero _)
 | f + 1, l, h => agree_step ds t g f (λ l h => agree_c ds t g f l h) l h
end Go.Proofs.YtpkbgamoboojaaaGreat.W7
end
section
namespace Go.Proofs.YtpkbgamoboojaaaGreat.W8
open Go.VL Go.PM Go.Proofs.YtpkbgamoboojaaaGreat W1 W2 W3 W4 W7
theorem build_no {ds : List DataSig} (h : buildF 0 ds [] = none) : VPure Tryz.prog 42 [datasX ds] (.tup [.agg VT.zs83, .int 7]) := (build_c ds).mono λ r S' k => by
 rcases k with ⟨g, t, h1, _⟩ | ⟨_, h2, _⟩
 .rw [h] at h1; cases h1
 exact h2
theorem build_yes {ds : List DataSig} {t : Tab} (h : buildF 0 ds [] = some t) : VCalls Tryz.prog 42 [datasX ds] [] λ r S' => ∃ g, r = .tup [tabX ds g, .int 0] /\ S' = [tabO g t] := (build_c ds).mono λ r S' k => by
 rcases k with ⟨g, t', h1, h2, h3⟩ | ⟨h1, _, _⟩
 .rw [h] at h1
  injection h1 with h1
  subst h1
  exact ⟨g, h2, h3⟩
 rw [h] at h1; cases h1
theorem check_c (ds : List DataSig) (rows : List (List Pat)) : VCalls Tryz.prog 23 [datasX ds, rowsX rows] [] λ r S' => (checkF ds rows = 0 /\ ∃ g t, buildF 0 ds [] = some t /\ r = .tup [tabX ds g, .int 0] /\ S' = [tabO g t]) \/ (checkF ds rows ≠ 0 /\ r = .tup [.agg VT.zs83, .int (checkF ds rows)] /\ S' = []) := by
 refine VCalls_drops ?_
 refine V_start (nt := 102) Tryz.func23 rfl rfl rfl ?_
 refine Zb (Zd ?_)
 refine Zc (Zb2 VT.zr83 _ rfl rfl (λ g4 => ?_))
 refine Zc (Zk rfl (Za (Zi (Zb (Zb (Zd (Zc (Zl rfl (Zc (Zl rfl ?_))))))))))
 refine Zc (Zx1 [.tmp 19, .tmp 20] rfl rfl VT.en41 (small_c ds rows) ?_)
 refine Zc (Zl2 rfl (Za (Zi ?_)))
 refine Zo1 rfl (λ h22 => ?_) (λ h22 => ?_)
 .
  have he : checkF ds rows = 2 := by simp [checkF, h22]
  refine Zb (Zd ?_)
  refine Zc (Zf2 [] [] VT.st83 rfl rfl rfl rfl ?_)
  refine Zc (Zx 0 VT.ty83 rfl rfl rfl rfl rfl (Zc (Zk rfl (Za (Zi (Zf1 ?_))))))
  refine Zd1 (Zh1 rfl rfl (.cons (.agg (i := 0) VT.ty83 rfl rfl rfl) (.cons (.tmp rfl) (.nil))) ?_)
  exact ⟨_, Drops.nil _, .inr ⟨by rw [he]; omega, by rw [he]; rfl, rfl⟩⟩
 have hs := h22
 have hsm := small_of h22
 refine Zi1 (Zi (Zb (Zd (Zc (Zl rfl ?_)))))
 rcases hb : buildF 0 ds [] with _ | t
 .
  have he : checkF ds rows = 7 := by simp [checkF, hs, hb]
  refine Zc (Zx1 [.tmp 25] rfl rfl VT.en42 (build_no hb) ?_)
  refine Zc (Zl rfl (Zc (Zg2 rfl rfl (Zc (Zg2 rfl rfl ?_)))))
  refine Zc (Zb2 VT.zr83 _ rfl rfl (λ g6 => ?_))
  refine Zc (Zx 0 VT.ty83 rfl rfl rfl rfl rfl (Zc (Zk rfl (Za (Zi (Zb (Zb (Zd (Zc (Zl rfl (Zc (Zj1 rfl rfl rfl (Za (Zi ?_))))))))))))))
  refine Zp1 rfl (rfl) ?_
  refine Zb (Zd ?_)
  refine Zc (Zf2 [] [] VT.st83 rfl rfl rfl rfl ?_)
  refine Zc (Zl rfl (Zc (Zx 1 VT.ty83 rfl rfl rfl rfl rfl (Zc (Zk rfl (Za (Zi (Zf1 ?_))))))))
  refine Zd1 (Zh1 rfl rfl (.cons (.agg (i := 1) VT.ty83 rfl rfl rfl) (.cons (.tmp rfl) (.nil))) ?_)
  exact ⟨_, Drops.nil _, .inr ⟨by rw [he]; omega, by rw [he]; rfl, rfl⟩⟩
 refine Zc (Zm3 [.tmp 25] [] _ rfl rfl VT.en42 (.refl _) (build_yes hb) ?_)
 rintro r Sa ⟨g, rfl, rfl⟩
 refine Zc (Zl rfl (Zc (Zg2 rfl rfl (Zc (Zg2 rfl rfl ?_)))))
 refine Zc (Zb2 VT.zr83 _ rfl rfl (λ g6 => ?_))
 refine Zc (Zx 0 VT.ty83 rfl rfl rfl rfl rfl (Zc (Zk rfl (Za (Zi (Zb (Zb (Zd (Zc (Zl rfl (Zc (Zj1 rfl rfl rfl (Za (Zi ?_))))))))))))))
 refine Zq1 rfl (rfl) ?_
 refine Zi1 (Zi (Zb (Zb (Zd (Zc (Zl rfl ?_))))))
 refine Zc (Zd2 (n := rows.length) Tryz.underlying23 rfl (by simp) (λ hl34 => ?_))
 refine Zc (Zl rfl (Za (Zi (Zs ?_))))
 refine Zi2 (ι := Nat) (λ k => rows.length - k) (λ k => [(1, some (rowsX rows)), (4, some (.ptr g4 0)), (6, some (.ptr g6 0)), (33, some (rowsX rows)), (34, some (.int rows.length)), (35, some (.int k))]) (λ k => [.cells g6 83 [datasX ds, .raw (.map (some g))], tabO g t, .cells g4 83 VT.zs83]) (λ k => k <= rows.length /\ (rows.take k).all (sameLen rows) = true) 0 ⟨Yf _, rfl⟩ ⟨rfl, rfl, rfl, rfl, rfl, rfl, trivial⟩ (Dk (Dk (Dk (Zt2 _)))) ?_
 rintro k hA
 change k <= rows.length /\ (rows.take k).all (sameLen rows) = true at hA
 obtain ⟨hk, hall⟩ := hA
 refine Zb (Zd (Zc (Zj1 rfl rfl rfl (Za (Zi (Zb ?_))))))
 refine Zn1 rfl (λ h36 => ?_) (λ h36 => ?_)
 .
  obtain ⟨r, hr⟩ := get_of_lt rows k h36
  obtain ⟨r0, rs, hr0⟩ : ∃ r0 rs, rows = r0 :: rs := by cases rows with | nil => simp at hr | cons a b => exact ⟨a, b, rfl⟩
  have hw : width rows = r0.length := by rw [hr0]; rfl
  refine Zi1 (Zi (Zb (Zs (Zb (Zd ?_)))))
  refine Zc (Zz (el := patsX r) VT.sl23 rfl rfl (by omega) (get_mapS _ hr) (λ a37 => ?_))
  refine Zc (Zz1 VT.ty24 rfl rfl (Zc (Zk rfl (Za (Zi (Zb (Zd (Zc (Zl rfl ?_)))))))))
  refine Zc (Zd2 (n := r.length) Tryz.underlying24 rfl (by simp) (λ hl40 => ?_))
  refine Zc (Zl rfl ?_)
  refine Zc (Zz (el := patsX r0) VT.sl23 rfl rfl (by omega) (by rw [hr0]; rfl) (λ a42 => ?_))
  refine Zc (Zz1 VT.ty24 rfl rfl ?_)
  refine Zc (Zd2 (n := r0.length) Tryz.underlying24 rfl (by simp) (λ hl44 => ?_))
  refine Zc (Zj1 rfl rfl rfl (Za (Zi ?_)))
  refine Zm1 rfl (λ h45 => ?_) (λ h45 => ?_)
  .
   have hno : rows.all (sameLen rows) = false := by rw [List.all_eq_false]; exact ⟨r, Ya hr, by unfold sameLen; rw [hw]; simp; omega⟩
   have he : checkF ds rows = 3 := by simp [checkF, hs, hb, checkT, hno]
   refine Zb (Zd ?_)
   refine Zc (Zf2 [] [] VT.st83 rfl rfl rfl rfl ?_)
   refine Zc (Zx 2 VT.ty83 rfl rfl rfl rfl rfl (Zc (Zk rfl (Za (Zi (Zf1 ?_))))))
   refine Za1 (Zd1 (Zd1 (Za1 (Zd1 (Zh1 rfl rfl (.cons (.agg (i := 2) VT.ty83 rfl rfl rfl) (.cons (.tmp rfl) (.nil))) ?_)))))
   exact ⟨_, Drops.nil _, .inr ⟨by rw [he]; omega, by rw [he]; rfl, rfl⟩⟩
  refine Zi1 (Zb1 (Zi (Zd ?_)))
  refine Zc (Zh2 rfl rfl (by omega) ?_)
  refine Zc (Zl rfl (Za (Zi ?_)))
  exact ⟨k + 1, (by (try simp only []); omega), ⟨by omega, all_snoc hr hall (by unfold sameLen; rw [hw]; simp; omega)⟩, ⟨rfl, rfl, rfl, rfl, rfl, rfl, trivial⟩, (Dk (Dk (Dk (Zt2 _))))⟩
 have hke : k = rows.length := by omega
 subst hke
 rw [Yc] at hall
 refine Zt (Ze1 (Ze1 (Zc1 (Zi (Zb (Zb (Zd (Zc (Zl rfl ?_)))))))))
 refine Zc (Zd2 (n := rows.length) Tryz.underlying23 rfl (by simp) (λ hl49 => ?_))
 refine Zc (Zl rfl (Za (Zi (Zs ?_))))
 refine Zi2 (ι := Nat) (λ k => rows.length - k) (λ k => [(1, some (rowsX rows)), (4, some (.ptr g4 0)), (6, some (.ptr g6 0)), (48, some (rowsX rows)), (49, some (.int rows.length)), (50, some (.int k))]) (λ k => [.cells g6 83 [datasX ds, .raw (.map (some g))], tabO g t, .cells g4 83 VT.zs83]) (λ k => k <= rows.length /\ errRows t (rows.drop k) = errRows t rows) 0 ⟨Yf _, rfl⟩ ⟨rfl, rfl, rfl, rfl, rfl, rfl, trivial⟩ (Dk (Dk (Dk (Zt2 _)))) ?_
 rintro k hA
 change k <= rows.length /\ errRows t (rows.drop k) = errRows t rows at hA
 obtain ⟨hk, hq⟩ := hA
 refine Zb (Zd (Zc (Zj1 rfl rfl rfl (Za (Zi (Zb ?_))))))
 refine Zn1 rfl (λ h51 => ?_) (λ h51 => ?_)
 .
  obtain ⟨r, hr⟩ := get_of_lt rows k h51
  have hr16 := hsm.cols r (Ya hr)
  refine Zi1 (Zi (Zb (Zs (Zb (Zd ?_)))))
  refine Zc (Zz (el := patsX r) VT.sl23 rfl rfl (by omega) (get_mapS _ hr) (λ a52 => ?_))
  refine Zc (Zz1 VT.ty24 rfl rfl (Zc (Zk rfl (Za (Zi (Zb (Zd (Zc (Zl rfl ?_)))))))))
  refine Zc (Zd2 (n := r.length) Tryz.underlying24 rfl (by simp) (λ hl55 => ?_))
  refine Zc (Zl rfl (Za (Zi (Zs ?_))))
  refine Zi2 (ι := Nat) (λ n => r.length - n) (λ n => [(1, some (rowsX rows)), (4, some (.ptr g4 0)), (6, some (.ptr g6 0)), (48, some (rowsX rows)), (49, some (.int rows.length)), (50, some (.int k)), (54, some (patsX r)), (55, some (.int r.length)), (56, some (.int n))]) (λ n => [.cells g6 83 [datasX ds, .raw (.map (some g))], tabO g t, .cells g4 83 VT.zs83]) (λ n => n <= r.length /\ patsF t (r.drop n) = patsF t r) 0 ⟨Yf _, rfl⟩ ⟨rfl, rfl, rfl, rfl, rfl, rfl, rfl, rfl, rfl, trivial⟩ (Dk (Dk (Dk (Zt2 _)))) ?_
  rintro n hA
  change n <= r.length /\ patsF t (r.drop n) = patsF t r at hA
  obtain ⟨hn, hq2⟩ := hA
  refine Zb (Zd (Zc (Zj1 rfl rfl rfl (Za (Zi (Zb ?_))))))
  refine Zn1 rfl (λ h57 => ?_) (λ h57 => ?_)
  .
   obtain ⟨p, hp⟩ := get_of_lt r n h57
   refine Zi1 (Zi (Zb (Zs (Zb (Zd ?_)))))
   refine Zc (Zz (el := patX p) VT.sl24 rfl rfl (by omega) (get_patS hp) (λ a58 => ?_))
   refine Zc (Za2 VT.ty75 rfl rfl ?_)
   refine Zc (Zb2 VT.zr75 _ rfl rfl (λ g13 => ?_))
   refine Zc (Zx 0 VT.ty75 rfl rfl rfl rfl rfl (Za (Zi (Zb (Zd (Zc (Zv 1 VT.ty83 rfl rfl rfl (Zc (Zv 0 VT.ty75 rfl rfl rfl ?_)))))))))
   refine Zc (V_callK 2 [.tmp 60, .tmp 61] rfl rfl VT.en43 rfl (pattern_c ds t g _ p (Nat.lt_succ_self _)) ?_)
   refine Zc (Zk rfl (Za (Zi (Zb (Zd (Zc (Zl rfl (Zc (Zj1 rfl rfl rfl (Za (Zi ?_)))))))))))
   refine Zm1 rfl (λ h64 => ?_) (λ h64 => ?_)
   .
    have h1 : patsF t r = patF t p := by rw [<- hq2, drop_cons hp, patsF, if_pos h64]
    have h2 : errRows t rows = patF t p := by rw [<- hq, drop_cons hr, errRows, h1, if_pos h64]
    have he : checkF ds rows = patF t p := by simp [checkF, hs, hb, checkT, hall, h2, h64]
    refine Zb (Zd ?_)
    refine Zc (Zf2 [] [] VT.st83 rfl rfl rfl rfl ?_)
    refine Zc (Zl rfl (Zc (Zx 3 VT.ty83 rfl rfl rfl rfl rfl (Zc (Zk rfl (Za (Zi (Zf1 ?_))))))))
    refine Za1 (Zd1 (Zd1 (Za1 (Za1 (Zd1 (Zd1 (Za1 (Zd1 (Zh1 rfl rfl (.cons (.agg (i := 3) VT.ty83 rfl rfl rfl) (.cons (.tmp rfl) (.nil))) ?_)))))))))
    exact ⟨_, Drops.nil _, .inr ⟨by rw [he]; exact h64, by rw [he]; rfl, rfl⟩⟩
   refine Zi1 (Zb1 (Zi (Zd ?_)))
   refine Zc (Zh2 rfl rfl (by omega) ?_)
   refine Zc (Zl rfl (Za (Zi ?_)))
   exact ⟨n + 1, (by (try simp only []); omega), ⟨by omega, by rw [<- hq2, drop_cons hp, patsF, if_neg (by simpa using h64)]⟩, ⟨rfl, rfl, rfl, rfl, rfl, rfl, rfl, rfl, rfl, trivial⟩, (Dd (Dk (Dk (Dk (Zt2 _)))))⟩
  have hne : n = r.length := by omega
  subst hne
  rw [Ye, patsF] at hq2
  replace hq2 := hq2.symm
  refine Zt (Ze1 (Ze1 (Zc1 (Zb1 (Zi (Zd ?_))))))
  refine Zc (Zh2 rfl rfl (by omega) ?_)
  refine Zc (Zl rfl (Za (Zi ?_)))
  exact ⟨k + 1, (by (try simp only []); omega), ⟨by omega, by rw [<- hq, drop_cons hr, errRows, if_neg (by simpa using hq2)]⟩, ⟨rfl, rfl, rfl, rfl, rfl, rfl, trivial⟩, (Dk (Dk (Dk (Zt2 _))))⟩
 have hke : k = rows.length := by omega
 subst hke
 rw [Ye, errRows] at hq
 replace hq := hq.symm
 refine Zt (Ze1 (Ze1 (Zc1 (Zi (Zb (Zb (Zd (Zc (Zk rfl (Za (Zi (Zs ?_))))))))))))
 refine Zi2 (ι := Nat) (λ n => width rows - n) (λ n => [(1, some (rowsX rows)), (4, some (.ptr g4 0)), (6, some (.ptr g6 0)), (15, some (.int n))]) (λ n => [.cells g6 83 [datasX ds, .raw (.map (some g))], tabO g t, .cells g4 83 VT.zs83]) (λ n => n <= width rows /\ colsLoop t rows n (width rows - n) = colsLoop t rows 0 (width rows)) 0 ⟨Yf _, rfl⟩ ⟨rfl, rfl, rfl, rfl, trivial⟩ (Dk (Dk (Dk (Zt2 _)))) ?_
 rintro n hA
 change n <= width rows /\ colsLoop t rows n (width rows - n) = colsLoop t rows 0 (width rows) at hA
 obtain ⟨hn, hcl⟩ := hA
 refine Zb (Zb (Zd (Zc (Zl rfl ?_))))
 refine Zc (Zd2 (n := rows.length) Tryz.underlying23 rfl (by simp) (λ hl70 => ?_))
 refine Zc (Zj1 rfl rfl rfl (Zc (Zl rfl ?_)))
 refine Zj2 (q := 72) rfl (λ hq72 => ?_) (λ hq72 => ?_)
 .
  obtain ⟨r0, rs, hr0⟩ : ∃ r0 rs, rows = r0 :: rs := by cases rows with | nil => simp at hq72 | cons a b => exact ⟨a, b, rfl⟩
  have hw : width rows = r0.length := by rw [hr0]; rfl
  have hrne : rows ≠ [] := by rw [hr0]; simp
  have hr016 := hsm.cols r0 (by rw [hr0]; exact List.mem_cons_self ..)
  refine Zc (Zl rfl ?_) (Zy1 hq72)
  refine Zc (Zl rfl ?_) (Zy1 hq72)
  refine Zc (Zz (el := patsX r0) VT.sl23 rfl rfl (by omega) (by rw [hr0]; rfl) (λ a75 => ?_)) (Zy1 hq72)
  refine Zc (Zz1 VT.ty24 rfl rfl ?_) (Zy1 hq72)
  refine Zc (Zd2 (n := r0.length) Tryz.underlying24 rfl (by simp) (λ hl77 => ?_)) (Zy1 hq72)
  refine Zc (Zj1 rfl rfl rfl ?_) (Zy1 hq72)
  refine Zc (Zs1 rfl hq72 rfl ?_)
  refine Za (Zi ?_)
  refine Zn1 rfl (λ h79 => ?_) (λ h79 => ?_)
  .
   have hap := agreePre_col hsm hall hq (n := n) hrne (by omega)
   refine Zi1 (Zi (Zb (Zs (Zb (Zd (Zc (V_assign_nil 75 4 (Za (Zi (Zb (Zb (Zd (Zc (Zl rfl ?_))))))))))))))
   refine Zc (Zd2 (n := rows.length) Tryz.underlying23 rfl (by simp) (λ hl83 => ?_))
   refine Zc (Zl rfl (Za (Zi (Zs ?_))))
   refine Zi2 (ι := Nat × Tok) (λ (i, tk) => rows.length - i) (λ (i, tk) => [(1, some (rowsX rows)), (4, some (.ptr g4 0)), (6, some (.ptr g6 0)), (15, some (.int n)), (16, some (.sl 4 (some tk) ((colF (rows.take i) n).map patV))), (82, some (rowsX rows)), (83, some (.int rows.length)), (84, some (.int i))]) (λ (i, tk) => [.buf tk 75 4 (colF (rows.take i) n).length, .cells g6 83 [datasX ds, .raw (.map (some g))], tabO g t, .cells g4 83 VT.zs83]) (λ (i, tk) => i <= rows.length) (0, .nil) (by simp) ⟨rfl, rfl, rfl, rfl, rfl, rfl, rfl, rfl, trivial⟩ (Drops.buf rfl (Dk (Dk (Dk (Zt2 _))))) ?_
   rintro ⟨i, tk⟩ hi
   change i <= rows.length at hi
   refine Zb (Zd (Zc (Zj1 rfl rfl rfl (Za (Zi (Zb ?_))))))
   refine Zn1 rfl (λ h85 => ?_) (λ h85 => ?_)
   .
    obtain ⟨r, hr⟩ := get_of_lt rows i h85
    have hrl := same_all hall r (Ya hr)
    obtain ⟨p, hp⟩ := get_of_lt r n (by omega)
    have hpg : r.getD n anyP = p := by simp [hp]
    have hrs := hsm.rows
    have hcol : (colF (rows.take i) n).length <= 64 := by simp [colF]; omega
    refine Zi1 (Zi (Zb (Zs (Zb (Zd ?_)))))
    refine Zc (Zz (el := patsX r) VT.sl23 rfl rfl (by omega) (get_mapS _ hr) (λ a86 => ?_))
    refine Zc (Zz1 VT.ty24 rfl rfl (Zc (Zk rfl (Za (Zi (Zd (Zc (Zl rfl (Zc (Zl rfl (Zc (Zl rfl ?_))))))))))))
    refine Zc (Zz (el := patX p) VT.sl24 rfl rfl (by omega) (get_patS hp) (λ a91 => ?_))
    refine Zc (Za2 VT.ty75 rfl rfl ?_)
    refine Zc (Zk3 [.tmp 92] VT.sl24 rfl rfl rfl rfl rfl ?_)
    refine Zc (Zi3 0 _ VT.sl24 rfl rfl rfl (by simp) (by simp; omega) (λ t94 => ?_))
    refine Zc (Zk rfl (Za (Zb1 (Zi (Zd ?_)))))
    refine Zc (Zh2 rfl rfl (by omega) ?_)
    refine Zc (Zl rfl (Za (Zi ?_)))
    exact ⟨(i + 1, t94), (by (try simp only []); omega), (by omega), ⟨rfl, rfl, rfl, rfl, (by rw [take_snoc hr, col_snoc, hpg, Yd, List.map_cons, patV_eq p]; rfl), rfl, rfl, rfl, trivial⟩, (Drops.buf (by rw [take_snoc hr, col_snoc]; simp) (Dk (Dk (Dk (Zt2 _)))))⟩
   have hte := take_end h85
   refine Zt (Ze1 (Ze1 (Zc1 (Zi (Zb (Zd (Zc (Zv 1 VT.ty83 rfl rfl rfl ?_))))))))
   refine Zc (Zu2 (Zl rfl ⟨rfl, rfl⟩) (V.le.strip) ?_)
   refine Zc (V_callK 2 [.tmp 96, .tmp 97] rfl rfl VT.en44 rfl ((by rw [hte]; exact agree_c ds t g 401 _ hap : VKeep Tryz.prog 44 [tabX ds g, patsX (colF (rows.take i) n)] [tabO g t] (.bool (agreeF t 401 (colF rows n))))) ?_)
   refine Zc (Zl2 rfl (Za (Zi ?_)))
   refine Zo1 rfl (λ h99 => ?_) (λ h99 => ?_)
   .
    have hcc : colsLoop t rows 0 (width rows) = false := by rw [<- hcl, show width rows - n = (width rows - (n + 1)) + 1 by omega, colsLoop, h99]; rfl
    have he : checkF ds rows = 10 := by simp [checkF, hs, hb, checkT, hall, hq, hcc]
    refine Zb (Zd ?_)
    refine Zc (Zf2 [] [] VT.st83 rfl rfl rfl rfl ?_)
    refine Zc (Zx 3 VT.ty83 rfl rfl rfl rfl rfl (Zc (Zk rfl (Za (Zi (Zf1 ?_))))))
    refine Za1 (Zd1 (Zd1 (Za1 (Zd1 (Zh1 rfl rfl (.cons (.agg (i := 3) VT.ty83 rfl rfl rfl) (.cons (.tmp rfl) (.nil))) ?_)))))
    exact ⟨_, Drops.nil _, .inr ⟨by rw [he]; omega, by rw [he]; rfl, rfl⟩⟩
   refine Zi1 (Zb1 (Zi (Zd (Zc (Zl rfl ?_)))))
   refine Zc (Zh2 rfl rfl (by omega) ?_)
   refine Zc (Zk rfl (Za (Zi ?_)))
   exact ⟨n + 1, (by (try simp only []); omega), ⟨by omega, by rw [<- hcl, show width rows - n = (width rows - (n + 1)) + 1 by omega, colsLoop, h99]; rfl⟩, ⟨rfl, rfl, rfl, rfl, trivial⟩, (Dd (Dk (Dk (Dk (Zt2 _)))))⟩
  have hcc : colsLoop t rows 0 (width rows) = true := by rw [<- hcl, show width rows - n = 0 by omega]; rfl
  refine Zt (Ze1 (Ze1 (Zc1 (Zi (Zb (Zd (Zc (Zv 0 VT.ty83 rfl rfl rfl (Zc (Zx 2 VT.ty83 rfl rfl rfl rfl rfl (Zc (Zk rfl (Za (Zi (Zf1 ?_)))))))))))))))
  refine Zh1 rfl rfl (.cons (.agg (i := 2) VT.ty83 rfl rfl rfl) (.cons (.tmp rfl) (.nil))) ?_
  have he : checkF ds rows = 0 := by simp [checkF, hs, hb, checkT, hall, hq, hcc]
  exact ⟨_, Dd (Dk (Drops.nil _)), .inl ⟨he, g, t, rfl, rfl, rfl⟩⟩
 have hre : rows = [] := by cases rows with | nil => rfl | cons a b => simp at hq72
 have hcc : colsLoop t rows 0 (width rows) = true := by rw [hre]; rfl
 refine Zk1 hq72 ?_
 refine Zk1 hq72 ?_
 refine Zk1 hq72 ?_
 refine Zk1 hq72 ?_
 refine Zk1 hq72 ?_
 refine Zk1 hq72 ?_
 refine Zc (Zt1 rfl hq72 rfl ?_)
 refine Za (Zi ?_)
 refine Zq1 rfl rfl ?_
 refine Zt (Ze1 (Ze1 (Zc1 (Zi (Zb (Zd (Zc (Zv 0 VT.ty83 rfl rfl rfl (Zc (Zx 2 VT.ty83 rfl rfl rfl rfl rfl (Zc (Zk rfl (Za (Zi (Zf1 ?_)))))))))))))))
 refine Zh1 rfl rfl (.cons (.agg (i := 2) VT.ty83 rfl rfl rfl) (.cons (.tmp rfl) (.nil))) ?_
 have he : checkF ds rows = 0 := by simp [checkF, hs, hb, checkT, hall, hq, hcc]
 exact ⟨_, Dd (Dk (Drops.nil _)), .inl ⟨he, g, t, rfl, rfl, rfl⟩⟩
end Go.Proofs.YtpkbgamoboojaaaGreat.W8
end
