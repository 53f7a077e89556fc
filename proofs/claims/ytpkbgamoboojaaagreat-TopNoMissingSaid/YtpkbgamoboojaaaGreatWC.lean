import Derived.Test.YtpkbgamoboojaaaGreatWB
set_option maxRecDepth 100000
set_option linter.all false
section
namespace Go.Proofs.YtpkbgamoboojaaaGreat.W9
open Go.VL Go.PM Go.Proofs.YtpkbgamoboojaaaGreat W1 W2 W3 W4 W6 W8
theorem check_ok {ds : List DataSig} {rows : List (List Pat)} (h : checkF ds rows = 0) : VCalls Tryz.prog 23 [datasX ds, rowsX rows] [] λ r S' => ∃ g t, buildF 0 ds [] = some t /\ r = .tup [tabX ds g, .int 0] /\ S' = [tabO g t] := (check_c ds rows).mono λ r S' k => by
 rcases k with ⟨_, k⟩ | ⟨k, _⟩
 .exact k
 exact absurd h k
theorem check_bad {ds : List DataSig} {rows : List (List Pat)} (h : checkF ds rows ≠ 0) : VPure Tryz.prog 23 [datasX ds, rowsX rows] (.tup [.agg VT.zs83, .int (checkF ds rows)]) := (check_c ds rows).mono λ r S' k => by
 rcases k with ⟨k, _⟩ | ⟨_, k, _⟩
 .exact absurd k h
 exact k
def outV (r : List Pat × Int) : V := .tup [patsX r.1, .int r.2]
set_option maxHeartbeats 4000000 in
theorem Missing_c (ds : List DataSig) (H : CheckTy ds) (rows : List (List Pat)) (c : Int) : VPure Tryz.prog 10 [datasX ds, rowsX rows, .int c] (outV (missOut ds rows c)) := by
 refine V_start (nt := 52) Tryz.func10 rfl rfl rfl ?_
 refine Zb (Zd (Zc (Zk rfl (Zc (Zk rfl (Za (Zi (Zb (Zd (Zc (Zl rfl (Zc (Zl rfl ?_)))))))))))))
 rcases Decidable.em (checkF ds rows = 0) with he | he
 .
  refine Zc (Zm3 [.tmp 13, .tmp 14] [] _ rfl rfl VT.en23 (.refl _) (check_ok he) ?_)
  rintro r Sa ⟨g, t, hb, rfl, rfl⟩
  refine Zc (Zl rfl (Zc (Zg2 rfl rfl (Zc (Zg2 rfl rfl ?_)))))
  refine Zc (Zb2 VT.zr83 _ rfl rfl (λ g8 => ?_))
  refine Zc (Zx 0 VT.ty83 rfl rfl rfl rfl rfl (Zc (Zk rfl (Za (Zi (Zb (Zs (Zb (Zd (Zc (Zl rfl (Zc (Zj1 rfl rfl rfl (Zc (Zk rfl (Za (Zi ?_)))))))))))))))))
  refine Zq1 rfl (rfl) ?_
  refine Zb (Zd (Zc (Zl rfl (Zc (Zj1 rfl rfl rfl (Zc (Zl rfl ?_)))))))
  refine Zj2 (q := 25) rfl (λ hq25 => ?_) (λ hq25 => ?_)
  .
   have hbad : missBad rows c := .inl (by simpa using hq25)
   refine Zk0 hq25 ?_
   refine Zk0 hq25 ?_
   refine Zc (Zs1 rfl hq25 rfl ?_)
   refine Zc (Zl rfl ?_)
   refine Zk0 rfl ?_
   refine Zk0 rfl ?_
   refine Zk0 rfl ?_
   refine Zk0 rfl ?_
   refine Zh (.inr ⟨_, _, 33, rfl, rfl, rfl⟩) rfl ?_
   refine Zh (.inr ⟨_, _, 33, rfl, rfl, rfl⟩) rfl ?_
   refine Zh (.inr ⟨_, _, 33, rfl, rfl, rfl⟩) rfl ?_
   refine Zh (.inr ⟨_, _, 33, rfl, rfl, rfl⟩) rfl ?_
   refine Zh (.inr ⟨_, _, 33, rfl, rfl, rfl⟩) rfl ?_
   refine Zh (.inr ⟨_, _, 33, rfl, rfl, rfl⟩) rfl ?_
   refine Zk0 rfl ?_
   refine Zc (Zs1 rfl rfl rfl (Zc (Zk rfl (Za (Zi ?_)))))
   refine Zp1 rfl rfl ?_
   refine Zb (Zd ?_)
   refine Zc (Zu2 (Zk rfl ⟨rfl, rfl⟩) (V.le.nil 4) ?_)
   refine Zc (Zk rfl (Za (Zi (Zf1 ?_))))
   refine Za1 (Zd1 (Zh1 rfl rfl (.cons (.strip rfl) (.cons (.tmp rfl) (.nil))) ?_))
   first | (rw [missOut_bad he hbad]; rfl) | (rw [ho]; rfl)
  have h0c : 0 <= c := by simpa using hq25
  refine Zc (Zl rfl ?_) (Zy0 hq25)
  refine Zc (Zj1 rfl rfl rfl ?_) (Zy0 hq25)
  refine Zc (Zt1 rfl hq25 rfl ?_)
  refine Zc (Zl rfl ?_)
  refine Zj2 (q := 29) rfl (λ hq29 => ?_) (λ hq29 => ?_)
  .
   have hbad : missBad rows c := .inr (.inl (by simpa using hq29))
   refine Zk0 hq29 ?_
   refine Zk0 hq29 ?_
   refine Zk0 hq29 ?_
   refine Zk0 hq29 ?_
   refine Zh (.inr ⟨_, _, 33, rfl, rfl, rfl⟩) rfl ?_
   refine Zh (.inr ⟨_, _, 33, rfl, rfl, rfl⟩) rfl ?_
   refine Zh (.inr ⟨_, _, 33, rfl, rfl, rfl⟩) rfl ?_
   refine Zh (.inr ⟨_, _, 33, rfl, rfl, rfl⟩) rfl ?_
   refine Zh (.inr ⟨_, _, 33, rfl, rfl, rfl⟩) rfl ?_
   refine Zh (.inr ⟨_, _, 33, rfl, rfl, rfl⟩) rfl ?_
   refine Zk0 hq29 ?_
   refine Zc (Zs1 rfl hq29 rfl ?_)
   refine Zc (Zk rfl (Za (Zi ?_)))
   refine Zp1 rfl rfl ?_
   refine Zb (Zd ?_)
   refine Zc (Zu2 (Zk rfl ⟨rfl, rfl⟩) (V.le.nil 4) ?_)
   refine Zc (Zk rfl (Za (Zi (Zf1 ?_))))
   refine Za1 (Zd1 (Zh1 rfl rfl (.cons (.strip rfl) (.cons (.tmp rfl) (.nil))) ?_))
   first | (rw [missOut_bad he hbad]; rfl) | (rw [ho]; rfl)
  have h16c : c <= 16 := by simpa using hq29
  refine Zc (Zl rfl ?_) (Zy0 hq29)
  refine Zc (Zd2 (n := rows.length) Tryz.underlying23 rfl (by simp) (λ hl31 => ?_)) (Zy0 hq29)
  refine Zc (Zj1 rfl rfl rfl ?_) (Zy0 hq29)
  refine Zc (Zl rfl ?_) (Zy0 hq29)
  refine Zj2 (q := 33) rfl (λ hq33 => ?_) (λ hq33 => ?_)
  .
   obtain ⟨r0, rs, hr0⟩ : ∃ r0 rs, rows = r0 :: rs := by cases rows with | nil => simp at hq33 | cons a b => exact ⟨a, b, rfl⟩
   have hw : width rows = r0.length := by rw [hr0]; rfl
   refine Zc (Zl rfl ?_) (Zy1 hq33)
   refine Zc (Zl rfl ?_) (Zy1 hq33)
   refine Zc (Zz (el := patsX r0) VT.sl23 rfl rfl (by omega) (by rw [hr0]; rfl) (λ a36 => ?_)) (Zy1 hq33)
   refine Zc (Zz1 VT.ty24 rfl rfl ?_) (Zy1 hq33)
   refine Zc (Zd2 (n := r0.length) Tryz.underlying24 rfl (by simp) (λ hl38 => ?_)) (Zy1 hq33)
   refine Zc (Zj1 rfl rfl rfl ?_) (Zy1 hq33)
   refine Zc (Zs1 rfl hq33 rfl ?_) (Zy0 hq29)
   refine Zc (Zt1 rfl hq29 rfl ?_)
   refine Zc (Zk rfl (Za (Zi ?_)))
   refine Zm1 rfl (λ h22 => ?_) (λ h22 => ?_)
   .
    have hbad : missBad rows c := .inr (.inr ⟨by rw [hr0]; simp, by rw [hw]; exact h22⟩)
    refine Zb (Zd ?_)
    refine Zc (Zu2 (Zk rfl ⟨rfl, rfl⟩) (V.le.nil 4) ?_)
    refine Zc (Zk rfl (Za (Zi (Zf1 ?_))))
    refine Za1 (Zd1 (Zh1 rfl rfl (.cons (.strip rfl) (.cons (.tmp rfl) (.nil))) ?_))
    first | (rw [missOut_bad he hbad]; rfl) | (rw [ho]; rfl)
   have hnb : ¬ missBad rows c := by rintro (h | h | h); omega; omega; exact h.2 (by rw [hw]; exact h22)
   refine Zi1 (Zb1 (Zi ?_))
   obtain ⟨hok, τs, hτl, hpre⟩ := H rows c t he hb hnb
   refine Zb (Zd (Zc (Zv 0 VT.ty83 rfl rfl rfl (Zc (Zl rfl ?_)))))
   refine Zc (Zu2 (Zl rfl ⟨rfl, rfl⟩) (V.le.of_eq (v' := .int τs.length) (by rw [hτl])) ?_)
   refine Zc (V_callK 1 [.tmp 43, .tmp 44, .tmp 45] rfl rfl VT.en24 rfl (missing_c ds t g hok fuel0 (by rw [fuel0_eq]; omega) rows τs hpre) ?_)
   refine Zc (Zl rfl (Zc (Zg2 rfl rfl (Zc (Zg2 rfl rfl (Zc (Zk rfl (Zc (Zk rfl (Za (Zi (Zb (Zb (Zd (Zc (Zl rfl (Zc (Zl2 rfl (Za (Zi ?_))))))))))))))))))))
   refine Zo1 rfl (λ h50 => ?_) (λ h50 => ?_)
   .
    have ho : missOut ds rows c = ([], 0) := by rw [missOut_ok he hnb hb, show c.toNat = τs.length by omega]; rw [h50]; rfl
    refine Zb (Zd ?_)
    refine Zc (Zu2 (Zk rfl ⟨rfl, rfl⟩) (V.le.nil 4) ?_)
    refine Zc (Zk rfl (Za (Zi (Zf1 ?_))))
    refine Zd1 (Zh1 rfl rfl (.cons (.strip rfl) (.cons (.tmp rfl) (.nil))) ?_)
    first | (rw [missOut_bad he hbad]; rfl) | (rw [ho]; rfl)
   have ho : missOut ds rows c = ((missF t ds fuel0 rows τs.length).1, 0) := by rw [missOut_ok he hnb hb, show c.toNat = τs.length by omega]; rw [h50]; rfl
   refine Zi1 (Zi (Zb (Zd (Zc (Zl rfl (Zc (Zk rfl (Zc (Zk rfl (Za (Zi (Zf1 ?_))))))))))))
   refine Zh1 rfl rfl (.cons (.strip rfl) (.cons (.tmp rfl) (.nil))) ?_
   first | (rw [missOut_bad he hbad]; rfl) | (rw [ho]; rfl)
  have hre : rows = [] := by cases rows with | nil => rfl | cons a b => simp at hq33
  have hnb : ¬ missBad rows c := by rintro (h | h | h); omega; omega; exact h.1 hre
  refine Zk1 hq33 ?_
  refine Zk1 hq33 ?_
  refine Zk1 hq33 ?_
  refine Zk1 hq33 ?_
  refine Zk1 hq33 ?_
  refine Zk1 hq33 ?_
  refine Zc (Zt1 rfl hq33 rfl ?_) (Zy0 hq29)
  refine Zc (Zt1 rfl hq29 rfl ?_)
  refine Zc (Zk rfl (Za (Zi ?_)))
  refine Zq1 rfl rfl ?_
  refine Zi1 (Zb1 (Zi ?_))
  obtain ⟨hok, τs, hτl, hpre⟩ := H rows c t he hb hnb
  refine Zb (Zd (Zc (Zv 0 VT.ty83 rfl rfl rfl (Zc (Zl rfl ?_)))))
  refine Zc (Zu2 (Zl rfl ⟨rfl, rfl⟩) (V.le.of_eq (v' := .int τs.length) (by rw [hτl])) ?_)
  refine Zc (V_callK 1 [.tmp 43, .tmp 44, .tmp 45] rfl rfl VT.en24 rfl (missing_c ds t g hok fuel0 (by rw [fuel0_eq]; omega) rows τs hpre) ?_)
  refine Zc (Zl rfl (Zc (Zg2 rfl rfl (Zc (Zg2 rfl rfl (Zc (Zk rfl (Zc (Zk rfl (Za (Zi (Zb (Zb (Zd (Zc (Zl rfl (Zc (Zl2 rfl (Za (Zi ?_))))))))))))))))))))
  refine Zo1 rfl (λ h50 => ?_) (λ h50 => ?_)
  .
   have ho : missOut ds rows c = ([], 0) := by rw [missOut_ok he hnb hb, show c.toNat = τs.length by omega]; rw [h50]; rfl
   refine Zb (Zd ?_)
   refine Zc (Zu2 (Zk rfl ⟨rfl, rfl⟩) (V.le.nil 4) ?_)
   refine Zc (Zk rfl (Za (Zi (Zf1 ?_))))
   refine Zd1 (Zh1 rfl rfl (.cons (.strip rfl) (.cons (.tmp rfl) (.nil))) ?_)
   first | (rw [missOut_bad he hbad]; rfl) | (rw [ho]; rfl)
  have ho : missOut ds rows c = ((missF t ds fuel0 rows τs.length).1, 0) := by rw [missOut_ok he hnb hb, show c.toNat = τs.length by omega]; rw [h50]; rfl
  refine Zi1 (Zi (Zb (Zd (Zc (Zl rfl (Zc (Zk rfl (Zc (Zk rfl (Za (Zi (Zf1 ?_))))))))))))
  refine Zh1 rfl rfl (.cons (.strip rfl) (.cons (.tmp rfl) (.nil))) ?_
  first | (rw [missOut_bad he hbad]; rfl) | (rw [ho]; rfl)
 refine Zc (Zx1 [.tmp 13, .tmp 14] rfl rfl VT.en23 (check_bad he) ?_)
 refine Zc (Zl rfl (Zc (Zg2 rfl rfl (Zc (Zg2 rfl rfl ?_)))))
 refine Zc (Zb2 VT.zr83 _ rfl rfl (λ g8 => ?_))
 refine Zc (Zx 0 VT.ty83 rfl rfl rfl rfl rfl (Zc (Zk rfl (Za (Zi (Zb (Zs (Zb (Zd (Zc (Zl rfl (Zc (Zj1 rfl rfl rfl (Zc (Zk rfl (Za (Zi ?_)))))))))))))))))
 refine Zm1 rfl (λ h18 => ?_) (λ h18 => ?_)
 .
  refine Zb (Zd (Zc (Zl rfl ?_)))
  refine Zc (Zu2 (Zk rfl ⟨rfl, rfl⟩) (V.le.nil 4) ?_)
  refine Zc (Zk rfl (Za (Zi (Zf1 ?_))))
  refine Za1 (Zd1 (Zh1 rfl rfl (.cons (.strip rfl) (.cons (.tmp rfl) (.nil))) ?_))
  rw [missOut_err he]
  rfl
 exact absurd h18 he
end Go.Proofs.YtpkbgamoboojaaaGreat.W9
end
section
namespace Go.Proofs.YtpkbgamoboojaaaGreat.W10
open Go.VL Go.PM Go.Proofs.YtpkbgamoboojaaaGreat W1 W2 W3 W4 W5 W6 W8 W9
theorem Check_c (ds : List DataSig) (rows : List (List Pat)) : VPure Tryz.prog 12 [datasX ds, rowsX rows] (.int (checkF ds rows)) := by
 refine V_start (nt := 14) Tryz.func12 rfl rfl rfl ?_
 refine Zb (Zd (Zc (Zk rfl (Za (Zi (Zb (Zd (Zc (Zl rfl (Zc (Zl rfl ?_)))))))))))
 rcases Decidable.em (checkF ds rows = 0) with he | he
 .
  refine Zc (Zm3 [.tmp 8, .tmp 9] [] _ rfl rfl VT.en23 (.refl _) (check_ok he) ?_)
  rintro r Sa ⟨g, t, hb, rfl, rfl⟩
  refine Zc (Zl rfl (Zc (Zg2 rfl rfl (Zc (Zg2 rfl rfl ?_)))))
  refine Zc (Zb2 VT.zr83 _ rfl rfl (λ g5 => ?_))
  refine Zc (Zx 0 VT.ty83 rfl rfl rfl rfl rfl (Zc (Zk rfl (Za (Zi (Zb (Zd (Zc (Zl rfl (Zc (Zk rfl (Za (Zi (Zf1 ?_))))))))))))))
  refine Zg1 rfl (.tmp rfl) ?_
  rw [he]
 refine Zc (Zx1 [.tmp 8, .tmp 9] rfl rfl VT.en23 (check_bad he) ?_)
 refine Zc (Zl rfl (Zc (Zg2 rfl rfl (Zc (Zg2 rfl rfl ?_)))))
 refine Zc (Zb2 VT.zr83 _ rfl rfl (λ g5 => ?_))
 refine Zc (Zx 0 VT.ty83 rfl rfl rfl rfl rfl (Zc (Zk rfl (Za (Zi (Zb (Zd (Zc (Zl rfl (Zc (Zk rfl (Za (Zi (Zf1 ?_))))))))))))))
 refine Zg1 rfl (.tmp rfl) ?_
 rfl
end Go.Proofs.YtpkbgamoboojaaaGreat.W10
end
