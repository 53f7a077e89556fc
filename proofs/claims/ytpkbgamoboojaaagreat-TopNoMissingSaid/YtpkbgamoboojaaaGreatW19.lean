import Derived.Test.YtpkbgamoboojaaaGreatW17
open Go.VL.Drops renaming keep → Dk
set_option linter.all false
namespace Go.Proofs.YtpkbgamoboojaaaGreat.W19
open Go.VL Go.PM Go.Proofs.YtpkbgamoboojaaaGreat W1 W2 W16 W17
theorem tick_cell {gb gm : Nat} {tk : Tok} {s : BSt} {b : Bool} (hb : b = (tick s).full) : Own.cells gb 61 [.raw (.map (some gm)), .sl 6 (some tk) (s.out.map nodeX), .int ((s.many : Int) + 1), .bool b] = bcell gb gm tk (tick s) := by
 subst hb
 simp [bcell, tick]
set_option maxRecDepth 100000 in
set_option maxHeartbeats 16000000 in
theorem build_step {t : Tab} {ds : List DataSig} {f : Nat} (hok : TabOk t ds) (hf : f <= 400) (ih : BuildC t ds f) : BuildC t ds (f + 1) := by
 intro gb gm tk tab s rows paths τs htab h hs ho hm hf1
 have hrl := h.len
 unfold VTok
 refine VCalls_drops ?_
 refine V_start (nt := 157) Tryz.func14 rfl rfl rfl ?_
 refine Zb (Zd (Zc (Zk rfl (Za (Zi (Zb (Zd (Zc (Zl rfl (Zc (Zv1 rfl (Zc (Zj VT.fa61_2 rfl (Zc (Zu 0 VT.ty3 rfl rfl rfl ?_)))))))))))))))
 refine Zc (Zh2 rfl rfl (by omega) ?_)
 refine Zc (Zv1 rfl (Zc (Zj VT.fa61_2 rfl (Zc (Zy 0 VT.ty3 rfl rfl rfl rfl rfl (Za (Zi ?_)))))))
 refine VW_cutF [(0, some (.ptr gb 0)), (1, some (mrowsX rows)), (2, some (pathsX paths))] [bcell gb gm tk (tick s), bbuf tk (tick s), .map gm (kmap kstr tab)] ?_ ?_
 .
  refine Zd (Zc (Zl rfl (Zc (Zl rfl (Zc (Zv1 rfl (Zc (Zj VT.fa61_3 rfl (Zc (Zu 0 VT.ty4 rfl rfl rfl (Zc (Zl rfl ?_))))))))))))
  refine Zj2 (q := 26) rfl (λ hq26 => ?_) (λ hq26 => ?_)
  .
   refine Zk0 hq26 ?_
   refine Zk0 hq26 ?_
   refine Zk0 hq26 ?_
   refine Zk0 hq26 ?_
   refine Zk0 hq26 ?_
   refine Zc (Zs1 rfl hq26 rfl ?_)
   refine Zc (Zv1 rfl (Zc (Zj VT.fa61_3 rfl (Zc (Zy 0 VT.ty4 rfl rfl rfl rfl rfl (Za (Zi ?_)))))))
   exact ⟨⟨rfl, rfl, rfl, trivial⟩, (Drops.keepE (tick_cell (by show _ = (s.full || decide (4096 < s.many + 1)); first | (rw [hq26]; rfl) | (rw [hq26, Bool.false_or]; exact decide_eq_decide.2 (by omega)))) (Drops.buf rfl (Dk (Zt2 _))))⟩
  refine Zc (Zl rfl ?_) (Zy0 hq26)
  refine Zc (Zv1 rfl ?_) (Zy0 hq26)
  refine Zc (Zj VT.fa61_2 rfl ?_) (Zy0 hq26)
  refine Zc (Zu 0 VT.ty3 rfl rfl rfl ?_) (Zy0 hq26)
  refine Zc (Zj1 rfl rfl rfl ?_) (Zy0 hq26)
  refine Zc (Zt1 rfl hq26 rfl ?_)
  refine Zc (Zv1 rfl (Zc (Zj VT.fa61_3 rfl (Zc (Zy 0 VT.ty4 rfl rfl rfl rfl rfl (Za (Zi ?_)))))))
  exact ⟨⟨rfl, rfl, rfl, trivial⟩, (Drops.keepE (tick_cell (by show _ = (s.full || decide (4096 < s.many + 1)); first | (rw [hq26]; rfl) | (rw [hq26, Bool.false_or]; exact decide_eq_decide.2 (by omega)))) (Drops.buf rfl (Dk (Zt2 _))))⟩
 refine Zb (Zb (Zd (Zc (Zl rfl ?_))))
 refine Zc (Zd2 (n := rows.length) Tryz.underlying62 rfl (by simp) (λ hl36 => ?_))
 refine Zc (Zj1 rfl rfl rfl (Zc (Zl rfl ?_)))
 refine Zj2 (q := 38) rfl (λ hq38 => ?_) (λ hq38 => ?_)
 .
  have hE : rows.length = 0 \/ (tick s).full = true := .inl (by have := of_decide_eq_true hq38; omega)
  refine Zk0 hq38 ?_
  refine Zk0 hq38 ?_
  refine Zk0 hq38 ?_
  refine Zk0 hq38 ?_
  refine Zc (Zs1 rfl hq38 rfl ?_)
  refine Za (Zi ?_)
  refine Zp1 rfl rfl ?_
  refine Zb (Zd (Zc (Zl rfl ?_)))
  refine Zc (Zu2 (Zf2 [] [] VT.st70 rfl rfl rfl rfl ⟨rfl, rfl⟩) (V.le.agg (ys := [.int 0, .int 0, intsX [], strsX [], intsX [], intsX []]) ⟨V.le.refl _, rfl, V.le.refl _, rfl, V.le.nil 1, rfl, V.le.nil 1, rfl, V.le.nil 1, rfl, V.le.nil 1, rfl, trivial⟩) ?_)
  refine Zc (V_callTok [.tmp 44, .tmp 45] _ _ rfl rfl VT.en28 (.refl _) (add_c gb gm tk (tick s) failN (by show s.out.length <= _; omega)) (λ t46 => ?_))
  refine Zc (Zk rfl (Za (Zi (Zf1 ?_))))
  refine Zd1 (Zg1 rfl (.tmp rfl) ?_)
  rw [show buildM t ds (f + 1) s rows paths = addF (tick s) failN by rw [buildM, if_pos hE]]
  exact ⟨_, Dk (Dk (Dk (Drops.nil _))), t46, rfl, rfl⟩
 have h38 : rows.length ≠ 0 := by have := of_decide_eq_false hq38; omega
 refine Zc (Zl rfl ?_) (Zy0 hq38)
 refine Zc (Zv1 rfl ?_) (Zy0 hq38)
 refine Zc (Zj VT.fa61_3 rfl ?_) (Zy0 hq38)
 refine Zc (Zu 0 VT.ty4 rfl rfl rfl ?_) (Zy0 hq38)
 refine Zc (Zt1 rfl hq38 rfl ?_)
 refine Za (Zi ?_)
 refine Zr1 rfl (λ h43 => ?_) (λ h43 => ?_)
 .
  have hE : rows.length = 0 \/ (tick s).full = true := .inr h43
  refine Zb (Zd (Zc (Zl rfl ?_)))
  refine Zc (Zu2 (Zf2 [] [] VT.st70 rfl rfl rfl rfl ⟨rfl, rfl⟩) (V.le.agg (ys := [.int 0, .int 0, intsX [], strsX [], intsX [], intsX []]) ⟨V.le.refl _, rfl, V.le.refl _, rfl, V.le.nil 1, rfl, V.le.nil 1, rfl, V.le.nil 1, rfl, V.le.nil 1, rfl, trivial⟩) ?_)
  refine Zc (V_callTok [.tmp 44, .tmp 45] _ _ rfl rfl VT.en28 (.refl _) (add_c gb gm tk (tick s) failN (by show s.out.length <= _; omega)) (λ t46 => ?_))
  refine Zc (Zk rfl (Za (Zi (Zf1 ?_))))
  refine Zd1 (Zg1 rfl (.tmp rfl) ?_)
  rw [show buildM t ds (f + 1) s rows paths = addF (tick s) failN by rw [buildM, if_pos hE]]
  exact ⟨_, Dk (Dk (Dk (Drops.nil _))), t46, rfl, rfl⟩
 obtain ⟨hft, r0, rs, hr0, hcase⟩ := (buildM_cases (s := s) hok h).resolve_left (by rintro ⟨_, hE | hE⟩; exact h38 hE; rw [h43] at hE; cases hE)
 have hst := tick_full hs
 obtain ⟨hsf, hsm⟩ := tick_not hft
 have hsm2 : (tick s).many <= 4097 + f * 1100 := by show s.many + 1 <= _; omega
 have hso : (tick s).out.length <= (tick s).many := by show s.out.length <= s.many + 1; omega
 refine Zi1 (Zi (Zb (Zd (Zc (Zl rfl ?_)))))
 refine Zc (Zz (el := mrowX r0) VT.sl62 rfl rfl (by omega) (by rw [hr0]; rfl) (λ a48 => ?_))
 refine Zc (Zw1 VT.fa65_1 rfl rfl (Zc (Zz1 VT.ty24 rfl rfl ?_)))
 rcases hcase with ⟨hbe, hno⟩ | ⟨k, p, τ, ha, hcase⟩
 .
  refine Zc (Zx1 [.tmp 50, .func 30] rfl rfl VT.en29 (by have e := patIdx_c (l := r0.2) (tok := none) (p := nf) (caps := []) VT.en30 (λ p _ => nf_c p); rw [idxOf_none nf hno] at e; exact e) ?_)
  refine Zc (Zb2 VT.zr3 _ rfl rfl (λ g7 => ?_))
  refine Zc (Zy 0 VT.ty3 rfl rfl rfl rfl rfl (Za (Zi (Zb (Zb (Zd (Zc (Zu 0 VT.ty3 rfl rfl rfl (Zc (Zj1 rfl rfl rfl (Za (Zi ?_))))))))))))
  refine Zp1 rfl ((decide_eq_true (by decide))) ?_
  refine Zb (Zd (Zc (Zl rfl (Zc (Zl rfl ?_)))))
  refine Zc (Zz (el := mrowX r0) VT.sl62 rfl rfl (by omega) (by rw [hr0]; rfl) (λ a56 => ?_))
  refine Zc (Zw1 VT.fa65_0 rfl rfl (Zc (Zz1 VT.ty3 rfl rfl ?_)))
  refine Zc (Zu2 (Zf2 [0, 1] [.const (.int .i64 (1)), .tmp 58] VT.st70 rfl rfl rfl rfl ⟨rfl, rfl⟩) (V.le.agg (ys := [.int 1, .int r0.1, intsX [], strsX [], intsX [], intsX []]) ⟨V.le.refl _, rfl, V.le.refl _, rfl, V.le.nil 1, rfl, V.le.nil 1, rfl, V.le.nil 1, rfl, V.le.nil 1, rfl, trivial⟩) ?_)
  refine Zc (V_callTok [.tmp 54, .tmp 59] _ _ rfl rfl VT.en28 ((Zv2 (i := 1) rfl).trans (.cons _ ((Zv2 (i := 1) rfl).trans (.cons _ (.refl _))))) (add_c gb gm tk (tick s) (rowN r0.1) (by show s.out.length <= _; omega)) (λ t60 => ?_))
  refine Zc (Zk rfl (Za (Zi (Zf1 ?_))))
  refine Zd1 (Zg1 rfl (.tmp rfl) ?_)
  rw [hbe]
  exact ⟨_, Drops.pick 0 rfl rfl (Drops.pick 0 rfl rfl (Drops.pick 1 rfl rfl (Drops.nil _))), t60, rfl, rfl⟩
 have hidx : idxOf nf r0.2 = k := by have e := ha.idx; rw [hr0] at e; exact e
 have hp0 : r0.2[k]? = some p := by obtain ⟨a, b, e, hp⟩ := ha.ne; rw [hr0] at e; injection e with e _; rw [e]; exact hp
 obtain ⟨hk1, hk22, hk3⟩ := mpre_paths h ha
 have hmr := mpre_rows h ha
 obtain ⟨path, hpath⟩ := get_of_lt paths k (by omega)
 have hpg : paths.getD k [] = path := by simp [hpath]
 refine Zc (Zx1 [.tmp 50, .func 30] rfl rfl VT.en29 (by have e := patIdx_c (l := r0.2) (tok := none) (p := nf) (caps := []) VT.en30 (λ p _ => nf_c p); rw [hidx] at e; exact e) ?_)
 refine Zc (Zb2 VT.zr3 _ rfl rfl (λ g7 => ?_))
 refine Zc (Zy 0 VT.ty3 rfl rfl rfl rfl rfl (Za (Zi (Zb (Zb (Zd (Zc (Zu 0 VT.ty3 rfl rfl rfl (Zc (Zj1 rfl rfl rfl (Za (Zi ?_))))))))))))
 refine Zq1 rfl ((decide_eq_false (by omega))) ?_
 refine Zi1 (Zi (Zb (Zb ?_)))
 refine VW_drawR (G := Unit) [([], [1], []), ([0], [61], []), ([1, 0], [62], []), ([2, 1, 0], [63], []), ([], [7], []), (dn 5, [64, 65], []), (dn 6, [66], []), (dn 7, [67], []), (dn 8, [68], [])] [] (constSt _) [69] [61, 62, 63, 64, 65, 66, 67, 68, 69] rfl VT.mix ?_
 refine ZA (λ γ => Zf (λ _ h1 => Ze (Zn rfl (Zl h1 z0)))) ?_
 refine Zp (Zb3 _) (Zq (λ γ => Zw 0 0 rfl (λ _ h61 => Ze (Zn rfl (Zz (el := mrowX r0) VT.sl62 h61 rfl (by omega) (by rw [hr0]; rfl) (λ a62 => ⟨⟨_, rfl⟩, rfl⟩)))))) ?_
 refine Zp (Zb3 _) (Zq (λ γ => Zw 1 0 rfl (λ _ h62 => Ze (Zc3 h62 (λ a_62 e62 => Zn rfl (Zw1 VT.fa65_1 e62 rfl ⟨⟨_, rfl⟩, rfl⟩)))))) ?_
 refine ZA (λ γ => Zw 2 0 rfl (λ _ h63 => Ze (Zc3 h63 (λ a_63 e63 => Zn rfl (Zz1 VT.ty24 e63 rfl z0))))) ?_
 refine ZA (λ γ => Zf (λ _ h7 => Ze (Zn rfl (Zu 0 VT.ty3 h7 rfl rfl z0)))) ?_
 refine Zp (Zb3 _) (Zq (λ γ => Zw 3 1 rfl (λ _ h64 => Zw 4 0 rfl (λ _ h65 => Ze (Zn rfl (Zz (el := patX p) VT.sl24 h64 h65 (by omega) (get_patS hp0) (λ a66 => ⟨⟨_, rfl⟩, rfl⟩))))))) ?_
 refine Zp (Zb3 _) (Zq (λ γ => Zw 5 0 rfl (λ _ h66 => Ze (Zc3 h66 (λ a_66 e66 => Zn rfl (Zw1 VT.fa75_0 e66 rfl ⟨⟨_, rfl⟩, rfl⟩)))))) ?_
 refine ZA (λ γ => Zw 6 0 rfl (λ _ h67 => Ze (Zc3 h67 (λ a_67 e67 => Zn rfl (Zz1 VT.ty3 e67 rfl z0))))) ?_
 refine ZA (λ γ => Zw 7 0 rfl (λ _ h68 => Ze (Zn rfl (Zj1 h68 rfl rfl z0)))) ?_
 refine DrawP_nil (λ γ => Zw 8 0 rfl (λ r69 h69 => Ze ?_))
 have e69 : r69 = some _ := h69
 subst e69
 clear h69
 refine Zi ?_
 refine Zl1 rfl (λ h69 => ?_) (λ h69 => ?_)
 .
  have hbe : buildM t ds (f + 1) s rows paths = wordsF (buildM t ds f) (tick s) rows paths k := by rcases hcase with ⟨_, e⟩ | ⟨_, _, _, _, _, h3, _⟩; exact e; omega
  refine Zb (Zd (Zc (Zl rfl (Zc (Zl rfl (Zc (Zl rfl (Zc (Zu 0 VT.ty3 rfl rfl rfl ?_)))))))))
  refine Zc (V_callTok [.tmp 70, .tmp 71, .tmp 72, .tmp 73] _ _ rfl rfl VT.en32 ((Zv2 (i := 1) rfl).trans (.cons _ ((Zv2 (i := 1) rfl).trans (.cons _ ((Zv2 (i := 1) rfl).trans (.cons _ (.refl _))))))) (words_c hok ih gb gm tk tab (tick s) rows paths τs k p τ htab h ha h69 hst hso hsm2 hf) (λ t74 => ?_))
  refine Zc (Zk rfl (Za (Zi (Zf1 ?_))))
  refine Zd1 (Zg1 rfl (.tmp rfl) ?_)
  rw [hbe]
  exact ⟨_, Dk (Dk (Dk (Drops.nil _))), t74, rfl, rfl⟩
 obtain ⟨d, g, a, D, hτ, hk3', hta, hD, hcl, hcs, hbe⟩ := hcase.resolve_left (λ h => h69 h.1)
 subst hτ
 obtain ⟨ad, hlk⟩ := htab _ _ _ hta hD
 refine Zi1 (Zi (Zb (Zd (Zc (Zl rfl (Zc (Zu 0 VT.ty3 rfl rfl rfl ?_)))))))
 refine Zc (Zz (el := intsX path) VT.sl63 rfl rfl (by omega) (get_mapS _ hpath) (λ a77 => ?_))
 refine Zc (Zz1 VT.ty36 rfl rfl ?_)
 refine Zc (Zf2 [0, 2] [.const (.int .i64 (2)), .tmp 78] VT.st70 rfl rfl rfl rfl ?_)
 refine Zc (Zb2 VT.zr70 _ rfl rfl (λ g8 => ?_))
 refine Zc (Zx 0 VT.ty70 rfl rfl rfl rfl rfl (Za (Zi ?_)))
 refine VW_cells 0 (ls' := [.int 2, .int 0, intsX path, .sl 1 (some .nil) [], .raw (.slice none 0 0), .sl 1 (some .nil) []]) rfl ⟨V.le.refl _, rfl, V.le.refl _, rfl, V.le.refl _, rfl, V.le.nilTok 1, rfl, V.le.refl _, rfl, V.le.nilTok 1, rfl, trivial⟩ ?_
 refine VW_nilBuf 9 1 ?_
 refine VW_nilBuf 3 1 ?_
 refine Zb ?_
 refine VW_drawR (G := Unit) [([], [0], []), ([0], [80], []), ([1, 0], [81], []), ([2, 1, 0], [82], []), ([], [1], []), ([4], [84], []), ([5, 4], [85], []), ([6, 5, 4], [86], []), ([], [7], []), ([8, 7, 6, 5, 4], [87, 88], []), ([9, 8, 7, 6, 5, 4], [89], []), ([10, 9, 8, 7, 6, 5, 4], [90], []), (dn 12, [83, 91], []), (dn 13, [92], [])] [] (constSt _) [9] [9, 80, 81, 82, 83, 84, 85, 86, 87, 88, 89, 90, 91, 92] rfl VT.mix ?_
 refine ZA (λ γ => Zf (λ _ h0 => Ze (Zn rfl (Zl h0 z0)))) ?_
 refine ZA (λ γ => Zw 0 0 rfl (λ _ h80 => Ze (Zn rfl (Zv1 h80 z0)))) ?_
 refine ZA (λ γ => Zw 1 0 rfl (λ _ h81 => Ze (Zn rfl (Zj VT.fa61_0 h81 z0)))) ?_
 refine ZA (λ γ => Zw 2 0 rfl (λ _ h82 => Ze (Zn rfl (Zu 4 VT.ty56 h82 rfl rfl z0)))) ?_
 refine ZA (λ γ => Zf (λ _ h1 => Ze (Zn rfl (Zl h1 z0)))) ?_
 refine Zp (Zb3 _) (Zq (λ γ => Zw 4 0 rfl (λ _ h84 => Ze (Zn rfl (Zz (el := mrowX r0) VT.sl62 h84 rfl (by omega) (by rw [hr0]; rfl) (λ a85 => ⟨⟨_, rfl⟩, rfl⟩)))))) ?_
 refine Zp (Zb3 _) (Zq (λ γ => Zw 5 0 rfl (λ _ h85 => Ze (Zc3 h85 (λ a_85 e85 => Zn rfl (Zw1 VT.fa65_1 e85 rfl ⟨⟨_, rfl⟩, rfl⟩)))))) ?_
 refine ZA (λ γ => Zw 6 0 rfl (λ _ h86 => Ze (Zc3 h86 (λ a_86 e86 => Zn rfl (Zz1 VT.ty24 e86 rfl z0))))) ?_
 refine ZA (λ γ => Zf (λ _ h7 => Ze (Zn rfl (Zu 3 VT.ty3 h7 rfl rfl z0)))) ?_
 refine Zp (Zb3 _) (Zq (λ γ => Zw 7 1 rfl (λ _ h87 => Zw 8 0 rfl (λ _ h88 => Ze (Zn rfl (Zz (el := patX p) VT.sl24 h87 h88 (by omega) (get_patS hp0) (λ a89 => ⟨⟨_, rfl⟩, rfl⟩))))))) ?_
 refine Zp (Zb3 _) (Zq (λ γ => Zw 9 0 rfl (λ _ h89 => Ze (Zc3 h89 (λ a_89 e89 => Zn rfl (Zw1 VT.fa75_1 e89 rfl ⟨⟨_, rfl⟩, rfl⟩)))))) ?_
 refine ZA (λ γ => Zw 10 0 rfl (λ _ h90 => Ze (Zc3 h90 (λ a_90 e90 => Zn rfl (Zz1 VT.ty9 e90 rfl z0))))) ?_
 refine ZA (λ γ => Zw 3 8 rfl (λ _ h83 => Zw 11 0 rfl (λ _ h91 => Ze (Zn rfl (V_lookup1 6 Tryz.underlying56 (key_str Tryz.underlying9) VT.zr96 h83 h91 rfl (hlk) z0))))) ?_
 refine ZA (λ γ => Zw 12 0 rfl (λ _ h92 => Ze (Zn rfl (Zk h92 z0)))) ?_
 refine DrawP_nil (λ γ => Zw 13 0 rfl (λ r9 h9 => Ze ?_))
 have e9 : r9 = some _ := h9
 subst e9
 clear h9
 refine Zi (Zb (Zb (Zd (Zc (Zl rfl (Zc (V_nilCheck_ep rfl (Zc (Zw1 VT.fa92_2 rfl rfl (Zc (Zz1 VT.ty90 rfl rfl ?_)))))))))))
 refine Zc (Zd2 (n := D.cons.length) Tryz.underlying90 rfl (by simp) (λ hl97 => ?_))
 refine Zc (Zl rfl (Za (Zi (Zs ?_))))
 refine Zi2 (ι := Nat × Tok × Tok × Tok × BSt × List Str × List Int) (λ (i, tk, tn, tq, s1, names, kids) => D.cons.length - i) (λ (i, tk, tn, tq, s1, names, kids) => [(0, some (.ptr gb 0)), (1, some (mrowsX rows)), (2, some (pathsX paths)), (7, some (.ptr g7 0)), (8, some (.ptr g8 0)), (9, some (.ep ad (dataV D))), (96, some (.sl 2 none (D.cons.map conV))), (97, some (.int D.cons.length)), (98, some (.int i))]) (λ (i, tk, tn, tq, s1, names, kids) => [.buf tq 3 1 kids.length, .buf tn 9 1 names.length, .cells g8 70 [.int 2, .int 0, intsX path, .sl 1 (some tn) (names.map V.str), .raw (.slice none 0 0), .sl 1 (some tq) (kids.map V.int)], .cells g7 3 [.int k], bcell gb gm tk s1, bbuf tk s1, .map gm (kmap kstr tab)]) (λ (i, tk, tn, tq, s1, names, kids) => i <= D.cons.length /\ consL (buildM t ds f) rows paths k (D.cons.drop i) s1 names kids = consL (buildM t ds f) rows paths k D.cons (tick s) [] [] /\ s1.full = decide (4096 < s1.many) /\ s1.out.length <= s1.many /\ s1.many <= 4097 + f * 1100 + i /\ names.length <= i /\ kids.length <= i) (0, tk, .nil, .nil, tick s, [], []) ⟨Nat.zero_le _, rfl, hst, hso, by omega, Nat.le_refl _, Nat.le_refl _⟩ ⟨rfl, rfl, rfl, rfl, rfl, rfl, rfl, rfl, rfl, trivial⟩ (Drops.buf rfl (Drops.buf rfl (Dk (Dk (Dk (Drops.buf rfl (Dk (Zt2 _)))))))) ?_
 rintro ⟨i, tk, tn, tq, s1, names, kids⟩ hA
 change i <= D.cons.length /\ consL (buildM t ds f) rows paths k (D.cons.drop i) s1 names kids = consL (buildM t ds f) rows paths k D.cons (tick s) [] [] /\ s1.full = decide (4096 < s1.many) /\ s1.out.length <= s1.many /\ s1.many <= 4097 + f * 1100 + i /\ names.length <= i /\ kids.length <= i at hA
 obtain ⟨hi, hq, hs1, ho1, hm1, hn, hkl⟩ := hA
 refine Zb (Zd (Zc (Zj1 rfl rfl rfl (Za (Zi (Zb ?_))))))
 refine Zn1 rfl (λ h99 => ?_) (λ h99 => ?_)
 .
  obtain ⟨c, hc⟩ := get_of_lt D.cons i h99
  obtain ⟨a1, hta1⟩ := hcs c (List.mem_of_getElem? hc)
  refine Zi1 (Zi (Zb (Zs (Zb (Zd ?_)))))
  refine Zc (Zz (el := conV c) VT.sl90 rfl rfl (by omega) (get_mapS _ hc) (λ a100 => ?_))
  refine Zc (Za2 VT.ty95 rfl rfl ?_)
  refine Zc (Zb2 VT.zr95 _ rfl rfl (λ g11 => ?_))
  refine Zc (Zx 0 VT.ty95 rfl rfl rfl rfl rfl (Za (Zi (Zb (Zd ?_)))))
  refine Zc (V_makeFunc [.tmp 11] rfl rfl ?_)
  refine Zc (Zb2 VT.zr99 _ rfl rfl (λ g12 => ?_))
  refine Zc (Zy 0 VT.ty99 rfl rfl rfl rfl rfl (Za (Zi (Zb (Zd (Zc (Zl rfl ?_)))))))
  refine Zc (V_makeFunc [.tmp 7, .tmp 12] rfl rfl ?_)
  refine Zc (Zm3 [.tmp 103, .tmp 104] _ _ rfl rfl VT.en34 ((Zv2 (i := 5) rfl).trans (.cons _ (.refl _))) (mrowAny_c (p := λ r => !free (r.2.getD k anyP) && isCon c.name (r.2.getD k anyP)) VT.en35 (λ r hr => hasCon_c r k g7 g12 g11 c (hmr r hr).1)) ?_)
  rintro r Sa ⟨rfl, rfl⟩
  refine Za (Zi ?_)
  refine Zr1 rfl (λ h105 => ?_) (λ h105 => ?_)
  .
   have hh : hasCon rows k c.name = true := h105
   have hKe := buildM_keeps hok f s1 _ _ _ (con_child h ha hta1 hh) hs1
   have hKo := hKe.out
   have hKl := hKe.loop hm1
   have hca := hasCon_spec h.ty ha.ty hta1 hh
   have hNext : i + 1 <= D.cons.length /\ consL (buildM t ds f) rows paths k (D.cons.drop (i + 1)) (buildM t ds f s1 (narrowM k (isCon c.name) c.args.length rows) (belowM paths k c.args.length)).1 (names ++ [c.name]) (kids ++ [((buildM t ds f s1 (narrowM k (isCon c.name) c.args.length rows) (belowM paths k c.args.length)).2 : Int)]) = consL (buildM t ds f) rows paths k D.cons (tick s) [] [] /\ (buildM t ds f s1 (narrowM k (isCon c.name) c.args.length rows) (belowM paths k c.args.length)).1.full = decide (4096 < (buildM t ds f s1 (narrowM k (isCon c.name) c.args.length rows) (belowM paths k c.args.length)).1.many) /\ (buildM t ds f s1 (narrowM k (isCon c.name) c.args.length rows) (belowM paths k c.args.length)).1.out.length <= (buildM t ds f s1 (narrowM k (isCon c.name) c.args.length rows) (belowM paths k c.args.length)).1.many /\ (buildM t ds f s1 (narrowM k (isCon c.name) c.args.length rows) (belowM paths k c.args.length)).1.many <= 4097 + f * 1100 + (i + 1) /\ ((names ++ [c.name])).length <= i + 1 /\ ((kids ++ [((buildM t ds f s1 (narrowM k (isCon c.name) c.args.length rows) (belowM paths k c.args.length)).2 : Int)])).length <= i + 1 := ⟨by omega, by rw [<- hq, drop_cons hc, consL, if_pos hh], hKe.full, by omega, hKl, by simp; omega, by simp; omega⟩
   refine Zb (Zd (Zc (Zj VT.fa70_3 rfl (Zc (Zu 5 VT.ty68 rfl rfl rfl (Zc (Zj VT.fa95_0 rfl (Zc (Zu 2 VT.ty9 rfl rfl rfl ?_)))))))))
   refine Zc (Zk3 [.tmp 109] VT.sl68 rfl rfl rfl rfl rfl ?_)
   refine Zc (Zi3 4 _ VT.sl68 rfl rfl rfl (by simp) (by simp; omega) (λ t111 => ?_))
   refine Zc (Zj VT.fa70_3 rfl (Zc (Zy 5 VT.ty68 rfl rfl rfl rfl rfl (Za (Zi ?_)))))
   refine VW_drawR (G := Tok) [([], [8], []), ([0], [113], []), ([], [0], []), ([], [1], []), ([], [7], []), ([], [12], []), ([], [11], []), ([6], [119], []), ([7, 6], [120], []), ([8, 7, 6, 5, 4, 3], [116, 117, 118, 121], []), ([], [2], []), ([], [7], []), ([], [11], []), ([12], [125], []), ([13, 12], [126], []), ([14, 13, 12, 11, 10, 9, 8, 7, 6, 5, 4, 3], [123, 124, 127], []), ([15, 14, 13, 12, 11, 10, 9, 8, 7, 6, 5, 4, 3, 2], [115, 122, 128], []), ([16, 15, 14, 13, 12, 11, 10, 9, 8, 7, 6, 5, 4, 3, 2], [129], []), (dn 18, [114, 130], [1]), (dn 19, [8], []), (dn 20, [132, 131], [])] [16, 18, 20] (threeSt _ (λ x => [bcell gb gm x (buildM t ds f s1 (narrowM k (isCon c.name) c.args.length rows) (belowM paths k c.args.length)).1, bbuf x (buildM t ds f s1 (narrowM k (isCon c.name) c.args.length rows) (belowM paths k c.args.length)).1, .map gm (kmap kstr tab), .cells g7 3 [.int k], .cells g12 99 [.clo (.func 33) [.ptr g11 0]], .cells g11 95 [.str c.name, .sl 4 none c.args], .buf tq 3 1 kids.length, .buf t111 9 1 (names.map V.str ++ [V.str c.name]).length, .cells g8 70 [.int 2, .int 0, intsX path, .sl 1 (some t111) (names.map V.str ++ [V.str c.name]), .raw (.slice none 0 0), .sl 1 (some tq) (kids.map V.int)]]) (λ x y => [bcell gb gm x (buildM t ds f s1 (narrowM k (isCon c.name) c.args.length rows) (belowM paths k c.args.length)).1, bbuf x (buildM t ds f s1 (narrowM k (isCon c.name) c.args.length rows) (belowM paths k c.args.length)).1, .map gm (kmap kstr tab), .cells g7 3 [.int k], .cells g12 99 [.clo (.func 33) [.ptr g11 0]], .cells g11 95 [.str c.name, .sl 4 none c.args], .buf y 3 1 (kids.map V.int ++ [V.int (buildM t ds f s1 (narrowM k (isCon c.name) c.args.length rows) (belowM paths k c.args.length)).2]).length, .buf t111 9 1 (names.map V.str ++ [V.str c.name]).length, .cells g8 70 [.int 2, .int 0, intsX path, .sl 1 (some t111) (names.map V.str ++ [V.str c.name]), .raw (.slice none 0 0), .sl 1 (some tq) (kids.map V.int)]]) (λ x y _ => [bcell gb gm x (buildM t ds f s1 (narrowM k (isCon c.name) c.args.length rows) (belowM paths k c.args.length)).1, bbuf x (buildM t ds f s1 (narrowM k (isCon c.name) c.args.length rows) (belowM paths k c.args.length)).1, .map gm (kmap kstr tab), .cells g7 3 [.int k], .cells g12 99 [.clo (.func 33) [.ptr g11 0]], .cells g11 95 [.str c.name, .sl 4 none c.args], .buf y 3 1 (kids.map V.int ++ [V.int (buildM t ds f s1 (narrowM k (isCon c.name) c.args.length rows) (belowM paths k c.args.length)).2]).length, .buf t111 9 1 (names.map V.str ++ [V.str c.name]).length, .cells g8 70 [.int 2, .int 0, intsX path, .sl 1 (some t111) (names.map V.str ++ [V.str c.name]), .raw (.slice none 0 0), .sl 1 (some y) (kids.map V.int ++ [V.int (buildM t ds f s1 (narrowM k (isCon c.name) c.args.length rows) (belowM paths k c.args.length)).2])]])) [] [113, 114, 115, 116, 117, 118, 119, 120, 121, 122, 123, 124, 125, 126, 127, 128, 129, 130, 131, 132] rfl VT.mix ?_
   refine Zp (Zm _) (Zm2 rfl (λ _ => (λ γ => Zf (λ _ h8 => Ze (Zn rfl (Zj VT.fa70_5 h8 z0)))))) ?_
   refine Zp (Zm _) (Zo rfl rfl ⟨(λ γ => Zw 0 0 rfl (λ _ h113 => Ze (Zn rfl (Zu 5 VT.ty36 h113 rfl rfl z0)))), (λ γ => Zw 0 0 rfl (λ _ h113 => Ze (Zn rfl (Zu 8 VT.ty36 h113 rfl rfl z0)))), trivial⟩) ?_
   refine Zp (Zm _) (Zo rfl rfl ⟨(λ γ => Zf (λ _ h0 => Ze (Zn rfl (Zl h0 z0)))), trivial⟩) ?_
   refine Zp (Zm _) (Zo rfl rfl ⟨(λ γ => Zf (λ _ h1 => Ze (Zn rfl (Zl h1 z0)))), trivial⟩) ?_
   refine Zp (Zm _) (Zo rfl rfl ⟨(λ γ => Zf (λ _ h7 => Ze (Zn rfl (Zu 0 VT.ty3 h7 rfl rfl z0)))), trivial⟩) ?_
   refine Zp (Zm _) (Zo rfl rfl ⟨(λ γ => Zf (λ _ h12 => Ze (Zn rfl (Zu 1 VT.ty99 h12 rfl rfl z0)))), trivial⟩) ?_
   refine Zp (Zm _) (Zo rfl rfl ⟨(λ γ => Zf (λ _ h11 => Ze (Zn rfl (Zj VT.fa95_1 h11 z0)))), trivial⟩) ?_
   refine Zp (Zm _) (Zo rfl rfl ⟨(λ γ => Zw 6 0 rfl (λ _ h119 => Ze (Zn rfl (Zu 2 VT.ty93 h119 rfl rfl z0)))), trivial⟩) ?_
   refine Zp (Zm _) (Zo rfl rfl ⟨(λ γ => Zw 7 0 rfl (λ _ h120 => Ze (Zn rfl (Zd2 (n := c.args.length) Tryz.underlying93 h120 (by simp) (λ hl121 => z0))))), trivial⟩) ?_
   refine Zp (Zm _) (Zo rfl rfl ⟨(λ γ => Zw 3 5 rfl (λ _ h116 => Zw 4 4 rfl (λ _ h117 => Zw 5 3 rfl (λ _ h118 => Zw 8 0 rfl (λ _ h121 => Ze (Zn rfl (V_callK 2 [.tmp 116, .tmp 117, .tmp 118, .tmp 121] rfl (Zp2 h116 (Zp2 h117 (Zp2 h118 (Zp2 h121 Zq2)))) VT.en36 rfl (mnarrow_c VT.en33 (λ q => isCon_c q c g11) rows k c.args.length hmr (by omega) (by omega)) z0))))))), trivial⟩) ?_
   refine Zp (Zm _) (Zo rfl rfl ⟨(λ γ => Zf (λ _ h2 => Ze (Zn rfl (Zl h2 z0)))), trivial⟩) ?_
   refine Zp (Zm _) (Zo rfl rfl ⟨(λ γ => Zf (λ _ h7 => Ze (Zn rfl (Zu 0 VT.ty3 h7 rfl rfl z0)))), trivial⟩) ?_
   refine Zp (Zm _) (Zo rfl rfl ⟨(λ γ => Zf (λ _ h11 => Ze (Zn rfl (Zj VT.fa95_1 h11 z0)))), trivial⟩) ?_
   refine Zp (Zm _) (Zo rfl rfl ⟨(λ γ => Zw 12 0 rfl (λ _ h125 => Ze (Zn rfl (Zu 2 VT.ty93 h125 rfl rfl z0)))), trivial⟩) ?_
   refine Zp (Zm _) (Zo rfl rfl ⟨(λ γ => Zw 13 0 rfl (λ _ h126 => Ze (Zn rfl (Zd2 (n := c.args.length) Tryz.underlying93 h126 (by simp) (λ hl127 => z0))))), trivial⟩) ?_
   refine Zp (Zm _) (Zo rfl rfl ⟨(λ γ => Zw 10 4 rfl (λ _ h123 => Zw 11 3 rfl (λ _ h124 => Zw 14 0 rfl (λ _ h127 => Ze (Zn rfl (Zx1 [.tmp 123, .tmp 124, .tmp 127] rfl (Zp2 h123 (Zp2 h124 (Zp2 h127 Zq2))) VT.en37 (below_c paths k c.args.length hk1 hk22 hk3 (by omega)) z0)))))), trivial⟩) ?_
   refine Zp (Zm _) (Zo2 0 rfl (λ γ => Zw 2 13 rfl (λ _ h115 => Zw 9 6 rfl (λ _ h122 => Zw 15 0 rfl (λ _ h128 => Ze (Zn rfl (V_callTok [.tmp 115, .tmp 122, .tmp 128] _ _ rfl (Zp2 h115 (Zp2 h122 (Zp2 h128 Zq2))) VT.en14 ((Zv2 (i := 6) rfl).trans (.cons _ ((Zv2 (i := 6) rfl).trans (.cons _ ((Zv2 (i := 6) rfl).trans (.cons _ (.refl _))))))) (ih gb gm tk tab s1 _ _ _ htab (con_child h ha hta1 hh) hs1 ho1 (by omega) (by omega)) (λ t129 => ⟨t129, rfl, rfl⟩)))))))) ?_
   refine Zp (Zm _) (Zo rfl rfl ⟨(λ γ => Zw 16 0 rfl (λ _ h129 => Ze (Zn rfl (Zk3 [.tmp 129] VT.sl36 rfl rfl rfl (Zp2 h129 Zq2) rfl z0)))), trivial⟩) ?_
   refine Zp (Zw2 (λ y => .sl 1 (some y) (kids.map V.int ++ [V.int (buildM t ds f s1 (narrowM k (isCon c.name) c.args.length rows) (belowM paths k c.args.length)).2]))) (Zo2 1 rfl (λ γ => Zw 1 16 rfl (λ _ h114 => Zw 17 0 rfl (λ _ h130 => Ze (Zn rfl (Zi3 6 _ VT.sl36 h114 h130 rfl (by simp) (by simp; omega) (λ t131 => ⟨t131, ⟨t131, rfl, rfl⟩, rfl⟩))))))) ?_
   refine Zp (Zm _) (Zo rfl rfl ⟨(λ γ => Zf (λ _ h8 => Ze (Zn rfl (Zj VT.fa70_5 h8 z0)))), trivial⟩) ?_
   refine Zp Za3 (Zo2 2 rfl (λ γ => Zw 19 0 rfl (λ _ h132 => Zw 18 1 rfl (λ _ h131 => Ze (Zx2 h131 (λ e131 => Zn rfl (Zy 8 VT.ty36 h132 e131 rfl rfl rfl ⟨default, trivial, rfl⟩))))))) ?_
   refine DrawP_nil (λ γ => Ze ?_)
   refine Zb1 (Zi (Zd ?_))
   refine Zc (Zh2 rfl rfl (by omega) ?_)
   refine Zc (Zl rfl (Za (Zi ?_)))
   exact ⟨(i + 1, (γ 0), t111, (γ 1), (buildM t ds f s1 (narrowM k (isCon c.name) c.args.length rows) (belowM paths k c.args.length)).1, names ++ [c.name], kids ++ [((buildM t ds f s1 (narrowM k (isCon c.name) c.args.length rows) (belowM paths k c.args.length)).2 : Int)]), (by (try simp only []); omega), (by first | exact hNext | exact hSkip), ⟨rfl, rfl, rfl, rfl, rfl, rfl, rfl, rfl, rfl, trivial⟩, (Drops.pickBuf 6 rfl (by first | rfl | (simp; done)) (Drops.pickBuf 6 rfl (by first | rfl | (simp; done)) (Drops.pick 6 rfl (by first | rfl | (simp; done)) (Drops.pick 3 rfl rfl (Drops.pick 0 rfl rfl (Drops.pickBuf 0 rfl rfl (Drops.pick 0 rfl rfl (Drops.nil _))))))))⟩
  have hh : ¬ hasCon rows k c.name = true := by show ¬ (rows.any _) = true; rw [h105]; simp
  have hSkip : i + 1 <= D.cons.length /\ consL (buildM t ds f) rows paths k (D.cons.drop (i + 1)) s1 names kids = consL (buildM t ds f) rows paths k D.cons (tick s) [] [] /\ s1.full = decide (4096 < s1.many) /\ s1.out.length <= s1.many /\ s1.many <= 4097 + f * 1100 + (i + 1) /\ (names).length <= i + 1 /\ (kids).length <= i + 1 := ⟨by omega, by rw [<- hq, drop_cons hc, consL, if_neg hh], hs1, ho1, by omega, by omega, by omega⟩
  refine Zi1 (Zb1 (Zi (Zd ?_)))
  refine Zc (Zh2 rfl rfl (by omega) ?_)
  refine Zc (Zl rfl (Za (Zi ?_)))
  exact ⟨(i + 1, tk, tn, tq, s1, names, kids), (by (try simp only []); omega), (by first | exact hNext | exact hSkip), ⟨rfl, rfl, rfl, rfl, rfl, rfl, rfl, rfl, rfl, trivial⟩, (Drops.pickBuf 3 rfl (by first | rfl | (simp; done)) (Drops.pickBuf 3 rfl (by first | rfl | (simp; done)) (Drops.pick 3 rfl (by first | rfl | (simp; done)) (Drops.pick 0 rfl rfl (Drops.pick 2 rfl rfl (Drops.pickBuf 2 rfl rfl (Drops.pick 2 rfl rfl (Drops.nil _))))))))⟩
 have hie : i = D.cons.length := by omega
 subst hie
 rw [List.drop_length, consL] at hq
 refine Zt (Ze1 (Ze1 (Zc1 (Zi (Zb (Zd (Zc (Zk rfl (Za (Zi (Zb (Zb ?_))))))))))))
 refine VW_drawR (G := Unit) [([], [8], []), ([0], [134], []), ([1, 0], [135], []), ([], [9], []), ([3], [137], []), ([4, 3], [138], []), ([5, 4, 3], [139], []), ([6, 5, 4, 3], [140], []), (dn 8, [136, 141], [])] [] (constSt _) [142] [134, 135, 136, 137, 138, 139, 140, 141, 142] rfl VT.mix ?_
 refine ZA (λ γ => Zf (λ _ h8 => Ze (Zn rfl (Zj VT.fa70_3 h8 z0)))) ?_
 refine ZA (λ γ => Zw 0 0 rfl (λ _ h134 => Ze (Zn rfl (Zu 2 VT.ty68 h134 rfl rfl z0)))) ?_
 refine ZA (λ γ => Zw 1 0 rfl (λ _ h135 => Ze (Zn rfl (Zd2 (n := names.length) Tryz.underlying68 h135 (by simp) (λ hl136 => z0))))) ?_
 refine ZA (λ γ => Zf (λ _ h9 => Ze (Zn rfl (Zl h9 z0)))) ?_
 refine Zp (Zb3 _) (Zq (λ γ => Zw 3 0 rfl (λ _ h137 => Ze (Zn rfl (V_nilCheck_ep h137 ⟨⟨_, rfl⟩, rfl⟩))))) ?_
 refine Zp (Zb3 _) (Zq (λ γ => Zw 4 0 rfl (λ _ h138 => Ze (Zc3 h138 (λ a_138 e138 => Zn rfl (Zw1 VT.fa92_2 e138 rfl ⟨⟨_, rfl⟩, rfl⟩)))))) ?_
 refine ZA (λ γ => Zw 5 0 rfl (λ _ h139 => Ze (Zc3 h139 (λ a_139 e139 => Zn rfl (Zz1 VT.ty90 e139 rfl z0))))) ?_
 refine ZA (λ γ => Zw 6 0 rfl (λ _ h140 => Ze (Zn rfl (Zd2 (n := D.cons.length) Tryz.underlying90 h140 (by simp) (λ hl141 => z0))))) ?_
 refine ZA (λ γ => Zw 2 5 rfl (λ _ h136 => Zw 7 0 rfl (λ _ h141 => Ze (Zn rfl (Zj1 h136 h141 rfl z0))))) ?_
 refine DrawP_nil (λ γ => Zw 8 0 rfl (λ r142 h142 => Ze ?_))
 have e142 : r142 = some _ := h142
 subst e142
 clear h142
 refine Zi ?_
 refine Zn1 rfl (λ h142 => ?_) (λ h142 => ?_)
 .
  have hKe := buildM_keeps hok f s1 _ _ _ (other_child h ha) hs1
  have hKo := hKe.out
  have hKl := hKe.loop hm1
  obtain ⟨xx, hxx⟩ : ∃ xx : Int, xx = ((otherF (buildM t ds f) s1 rows paths k).2 : Int) := ⟨_, rfl⟩
  have hcf : consF (buildM t ds f) D.cons (tick s) rows paths k = addF (otherF (buildM t ds f) s1 rows paths k).1 ⟨2, 0, path, names, [], kids ++ [xx]⟩ := by unfold consF; simp only [<- hq, hpg]; rw [if_pos (by omega), hxx]
  have hol : (otherF (buildM t ds f) s1 rows paths k).1.out.length <= 1000000 := by unfold otherF; omega
  refine Zd (Zc (Zl rfl (Zc (Zl rfl (Zc (Zl rfl (Zc (Zu 3 VT.ty3 rfl rfl rfl ?_))))))))
  refine Zc (V_callTok [.tmp 143, .tmp 144, .tmp 145, .tmp 146] _ _ rfl rfl VT.en38 ((Zv2 (i := 4) rfl).trans (.cons _ ((Zv2 (i := 4) rfl).trans (.cons _ ((Zv2 (i := 4) rfl).trans (.cons _ (.refl _))))))) (other_c ih gb gm tk tab s1 rows paths τs k p _ htab h ha hs1 ho1 (by omega) (by omega)) (λ t147 => ?_))
  refine Zc (Zk rfl (Za (Zi (Zb (Zd (Zc (Zj VT.fa70_5 rfl (Zc (Zu 5 VT.ty36 rfl rfl rfl (Zc (Zl rfl ?_)))))))))))
  refine Zc (Zk3 [.tmp 150] VT.sl36 rfl rfl rfl rfl rfl ?_)
  refine Zc (Zi3 3 _ VT.sl36 rfl rfl rfl (by simp) (by simp; omega) (λ t152 => ?_))
  refine Zc (Zj VT.fa70_5 rfl (Zc (Zy 5 VT.ty36 rfl rfl rfl rfl rfl (Za (Zi (Zb (Zd (Zc (Zl rfl ?_)))))))))
  refine Zc (Zu2 (Zv 5 VT.ty70 rfl rfl rfl ⟨rfl, rfl⟩) (V.le.agg (ys := [.int 2, .int 0, intsX path, strsX names, intsX [], intsX (kids ++ [xx])]) ⟨V.le.refl _, rfl, V.le.refl _, rfl, V.le.refl _, rfl, V.le.strip, rfl, V.le.nil 1, rfl, (by rw [hxx]; simp only [intsX, List.map_append]; exact V.le.strip), rfl, trivial⟩) ?_)
  refine Zc (V_callTok [.tmp 154, .tmp 155] _ _ rfl rfl VT.en28 (.refl _) (add_c gb gm _ _ ⟨2, 0, path, names, [], kids ++ [xx]⟩ hol) (λ t156 => ?_))
  refine Zc (Zk rfl (Za (Zi (Zf1 ?_))))
  refine Zg1 rfl (.tmp rfl) ?_
  rw [hbe, hcf]
  first | exact ⟨_, Drops.pick 0 rfl rfl (Drops.pick 0 rfl rfl (Drops.pick 0 rfl rfl (Drops.nil _))), t156, rfl, rfl⟩ | exact ⟨_, Drops.pick 0 rfl rfl (Drops.pick 0 rfl rfl (Drops.pick 4 rfl rfl (Drops.nil _))), t156, rfl, rfl⟩
 obtain ⟨xx, hxx⟩ : ∃ xx : Int, xx = -1 := ⟨_, rfl⟩
 have hcf : consF (buildM t ds f) D.cons (tick s) rows paths k = addF s1 ⟨2, 0, path, names, [], kids ++ [xx]⟩ := by unfold consF; simp only [<- hq, hpg]; rw [if_neg (by omega), hxx]
 have hol : s1.out.length <= 1000000 := by omega
 refine Zi1 (Zi (Zb (Zd (Zc (Zj VT.fa70_5 rfl (Zc (Zu 2 VT.ty36 rfl rfl rfl (Zc (Zl rfl ?_)))))))))
 refine Zc (Zk3 [.tmp 150] VT.sl36 rfl rfl rfl rfl rfl ?_)
 refine Zc (Zi3 0 _ VT.sl36 rfl rfl rfl (by simp) (by simp; omega) (λ t152 => ?_))
 refine Zc (Zj VT.fa70_5 rfl (Zc (Zy 2 VT.ty36 rfl rfl rfl rfl rfl (Za (Zi (Zb (Zd (Zc (Zl rfl ?_)))))))))
 refine Zc (Zu2 (Zv 2 VT.ty70 rfl rfl rfl ⟨rfl, rfl⟩) (V.le.agg (ys := [.int 2, .int 0, intsX path, strsX names, intsX [], intsX (kids ++ [xx])]) ⟨V.le.refl _, rfl, V.le.refl _, rfl, V.le.refl _, rfl, V.le.strip, rfl, V.le.nil 1, rfl, (by rw [hxx]; simp only [intsX, List.map_append]; exact V.le.strip), rfl, trivial⟩) ?_)
 refine Zc (V_callTok [.tmp 154, .tmp 155] _ _ rfl rfl VT.en28 ((Zv2 (i := 4) rfl).trans (.cons _ ((Zv2 (i := 4) rfl).trans (.cons _ (.refl _))))) (add_c gb gm _ _ ⟨2, 0, path, names, [], kids ++ [xx]⟩ hol) (λ t156 => ?_))
 refine Zc (Zk rfl (Za (Zi (Zf1 ?_))))
 refine Zg1 rfl (.tmp rfl) ?_
 rw [hbe, hcf]
 first | exact ⟨_, Drops.pick 0 rfl rfl (Drops.pick 0 rfl rfl (Drops.pick 0 rfl rfl (Drops.nil _))), t156, rfl, rfl⟩ | exact ⟨_, Drops.pick 0 rfl rfl (Drops.pick 0 rfl rfl (Drops.pick 4 rfl rfl (Drops.nil _))), t156, rfl, rfl⟩
theorem build_c {t : Tab} {ds : List DataSig} (hok : TabOk t ds) : ∀ (f : Nat), f <= 401 -> BuildC t ds f
 | 0, _ => λ _ _ _ _ _ _ _ _ _ h => absurd h.fuel (Nat.not_lt_zero _)
 | f + 1, hf => build_step hok (by omega) (build_c hok f (by omega))
end Go.Proofs.YtpkbgamoboojaaaGreat.W19
