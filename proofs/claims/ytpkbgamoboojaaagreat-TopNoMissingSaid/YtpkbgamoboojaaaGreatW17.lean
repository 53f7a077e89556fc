import Derived.Test.YtpkbgamoboojaaaGreatEZ
import Derived.Test.YtpkbgamoboojaaaGreatWA
import Derived.Test.YtpkbgamoboojaaaGreatW16
set_option maxRecDepth 100000
set_option maxHeartbeats 8000000
open Go.VL.Drops renaming keep → Dk, drop → Dd
set_option linter.all false
open List renaming map_append → Ya, map_take → Yb, map_drop → Yc, mem_of_getElem? → Yd
namespace Go.Proofs.YtpkbgamoboojaaaGreat.W17
open Go.VL Go.PM Go.Proofs.YtpkbgamoboojaaaGreat W1 W2 W16
theorem mfree_at {p : Pat} {b : Bool} (h : free p = b) : VPure Tryz.prog 31 [patX p] (.bool b) := h ▸ mfree_c p
theorem narrowM_snoc (k : Nat) (is : Pat -> Bool) (many : Nat) (l : List MRow) (r : MRow) {p : Pat} (h : r.2[k]? = some p) : narrowM k is many (l ++ [r]) = narrowM k is many l ++ (if (free p || is p) = true then [(r.1, newPats k many p r.2)] else []) := by
 have e := narrowM_cons k is many r [] h
 unfold narrowM at e ⊢
 rw [List.filterMap_append, e]
 rfl
theorem narrowM_len (k : Nat) (is : Pat -> Bool) (many : Nat) (l : List MRow) : (narrowM k is many l).length <= l.length := List.length_filterMap_le _ _
theorem belowM_snoc {paths : List (List Int)} {k i : Nat} {p : List Int} (h : paths[k]? = some p) : belowM paths k (i + 1) = belowM paths k i ++ [p ++ [(i : Int)]] := by
 have hg : paths.getD k [] = p := by simp [h]
 unfold belowM
 rw [List.range_succ, Ya, hg]
 simp
theorem belowM_zero (paths : List (List Int)) (k : Nat) : [paths.take k, paths.drop (k + 1)].flatten = belowM paths k 0 := by simp [belowM]
def BuildC (t : Tab) (ds : List DataSig) (f : Nat) : Prop := ∀ (gb gm : Nat) (tk : Tok) (tab : List (Str × V)) (s : BSt) (rows : List MRow) (paths : List (List Int)) (τs : List Ty), ConTab t ds tab -> MPre t f rows paths τs -> s.full = decide (4096 < s.many) -> s.out.length <= s.many -> s.many <= 4097 + (f + 1) * 1100 -> f <= 401 ->
 VTok Tryz.prog 14 [.ptr gb 0, mrowsX rows, pathsX paths] [bcell gb gm tk s, bbuf tk s, .map gm (kmap kstr tab)] (.int (buildM t ds f s rows paths).2) λ tk' => [bcell gb gm tk' (buildM t ds f s rows paths).1, bbuf tk' (buildM t ds f s rows paths).1, .map gm (kmap kstr tab)]
theorem mpre_rows {t : Tab} {f : Nat} {rows : List MRow} {paths : List (List Int)} {τs : List Ty} {k : Nat} {p : Pat} {τ : Ty} (h : MPre t f rows paths τs) (ha : AtHead t rows τs k p τ) : ∀ r ∈ rows, k < r.2.length /\ r.2.length <= 400000 /\ ∀ q, r.2[k]? = some q -> free q = false -> q.kind = 3 -> q.args.length <= 100000 := λ r hr => by
 have hT := h.ty r hr
 have hw := h.wide
 refine ⟨ha.all r hr, by rw [hT.len]; omega, λ q hq _ hk => ?_⟩
 obtain ⟨_, _, _, _, _, h4, _⟩ := con_ty (rowT.get hT k τ q ha.ty hq) hk
 omega
theorem mpre_paths {t : Tab} {f : Nat} {rows : List MRow} {paths : List (List Int)} {τs : List Ty} {k : Nat} {p : Pat} {τ : Ty} (h : MPre t f rows paths τs) (ha : AtHead t rows τs k p τ) : k < paths.length /\ (∀ p ∈ paths, p ≠ [] /\ p.length <= 100000) /\ paths.length <= 500000 := by
 have hw := h.wide
 have hp := h.plen
 have hk := (List.getElem?_eq_some_iff.1 ha.ty).1
 exact ⟨by omega, λ p hp => ⟨(h.deep p hp).1, by have := (h.deep p hp).2; omega⟩, by omega⟩
abbrev tcell (g : Nat) (kind : Int) (path : List Int) (tn tw tk : V) : Own := .cells g 70 [.int kind, .int 0, intsX path, tn, tw, tk]
theorem wordsL_bound {t : Tab} {ds : List DataSig} (hok : TabOk t ds) {f : Nat} {rows : List MRow} {paths : List (List Int)} {τs : List Ty} {k : Nat} {p : Pat} {τ : Ty} (h : MPre t (f + 1) rows paths τs) (ha : AtHead t rows τs k p τ) (hk : p.kind = 2) (n : Int) (s : BSt) (hs : s.full = decide (4096 < s.many)) : Keeps f s (buildM t ds f s (narrowM k (isInt n) 0 rows) (belowM paths k 0)).1 :=
 buildM_keeps hok f s _ _ _ (word_child (isInt n) h ha hk) hs
theorem add_c (gb gm : Nat) (tk : Tok) (s : BSt) (n : MNode) (hl : s.out.length <= 1000000) : VTok Tryz.prog 28 [.ptr gb 0, nodeX n] [bcell gb gm tk s, bbuf tk s] (.int (addF s n).2) λ tk' => [bcell gb gm tk' (addF s n).1, bbuf tk' (addF s n).1] := by
 unfold VTok
 refine VCalls_drops ?_
 refine V_start (nt := 31) Tryz.func28 rfl rfl rfl ?_
 refine Zb (Zd ?_)
 refine Zc (Zc2 rfl rfl (λ g3 => ?_))
 refine Zc (Zk rfl (Za (Zi (Zb (Zb (Zd (Zc (Zl rfl (Zc (Zv1 rfl (Zc (Zj VT.fa61_1 rfl (Zc (Zu 1 VT.ty26 rfl rfl rfl ?_))))))))))))))
 refine Zc (V_makeFunc [.tmp 3] rfl rfl ?_)
 refine Zc (V_callK 0 [.tmp 9, .tmp 10] rfl rfl VT.en55 rfl (nodeIdx_c (p := λ x => sameN x n) VT.en56 (λ x _ => same1_c x n g3)) ?_)
 refine Zc (Zk rfl (Za (Zi (Zb (Zd (Zc (Zl rfl (Zc (Zj1 rfl rfl rfl (Za (Zi ?_)))))))))))
 refine Zn1 rfl (λ h13 => ?_) (λ h13 => ?_)
 .
  refine Zb (Zd (Zc (Zl rfl (Zc (Zk rfl (Za (Zi (Zf1 ?_))))))))
  refine Zd1 (Zg1 rfl (.tmp rfl) ?_)
  refine ⟨_, Dd (Zt2 _), tk, ?_, ?_⟩
  . rw [addF, if_pos h13]; exact congrArg V.int (by simp only; omega)
  rw [addF, if_pos h13]
 refine Zi1 (Zi (Zb ?_))
 refine VW_drawR (G := Tok) [([], [0], []), ([], [0], []), ([1], [16], []), ([2, 1], [17], []), ([3, 2, 1], [18], []), ([], [3], []), ([5], [20], []), ([6, 5, 4, 3, 2, 1], [19, 21], [0]), (dn 8, [15], []), (dn 9, [23], []), (dn 10, [24, 22], [])] [7, 10] (twoSt _ (λ x => [.cells g3 70 [.int n.kind, .int n.row, intsX n.path, strsX n.names, intsX n.words, intsX n.kids], bcell gb gm tk s, .buf x 70 6 (s.out.map nodeX ++ [nodeX n]).length]) (λ x _ => [.cells g3 70 [.int n.kind, .int n.row, intsX n.path, strsX n.names, intsX n.words, intsX n.kids], .cells gb 61 [.raw (.map (some gm)), .sl 6 (some x) (s.out.map nodeX ++ [nodeX n]), .int s.many, .bool s.full], .buf x 70 6 (s.out.map nodeX ++ [nodeX n]).length])) [] [15, 16, 17, 18, 19, 20, 21, 22, 23, 24] rfl VT.mix ?_
 refine Zp (Zm _) (Zm2 rfl (λ _ => (λ γ => Zf (λ _ h0 => Ze (Zn rfl (Zl h0 z0)))))) ?_
 refine Zp (Zm _) (Zo rfl rfl ⟨(λ γ => Zf (λ _ h0 => Ze (Zn rfl (Zl h0 z0)))), trivial⟩) ?_
 refine Zp (Zm _) (Zo rfl rfl ⟨(λ γ => Zw 1 0 rfl (λ _ h16 => Ze (Zn rfl (Zv1 h16 z0)))), trivial⟩) ?_
 refine Zp (Zm _) (Zo rfl rfl ⟨(λ γ => Zw 2 0 rfl (λ _ h17 => Ze (Zn rfl (Zj VT.fa61_1 h17 z0)))), trivial⟩) ?_
 refine Zp (Zm _) (Zo rfl rfl ⟨(λ γ => Zw 3 0 rfl (λ _ h18 => Ze (Zn rfl (Zu 1 VT.ty26 h18 rfl rfl z0)))), trivial⟩) ?_
 refine Zp (Zm _) (Zo rfl rfl ⟨(λ γ => Zf (λ _ h3 => Ze (Zn rfl (Zv 0 VT.ty70 h3 rfl rfl z0)))), trivial⟩) ?_
 refine Zp (Zm _) (Zo rfl rfl ⟨(λ γ => Zw 5 0 rfl (λ _ h20 => Ze (Zn rfl (Zk3 [.tmp 20] VT.sl26 rfl rfl rfl (Zp2 h20 Zq2) rfl z0)))), trivial⟩) ?_
 refine Zp (Zw2 (λ x => .sl 6 (some x) (s.out.map nodeX ++ [nodeX n]))) (Zo2 0 rfl (λ γ => Zw 4 2 rfl (λ _ h19 => Zw 6 0 rfl (λ _ h21 => Ze (Zn rfl (Zi3 2 _ VT.sl26 h19 h21 rfl (by simp) (by simp; omega) (λ t22 => ⟨t22, ⟨t22, rfl, rfl⟩, rfl⟩))))))) ?_
 refine Zp (Zm _) (Zo rfl rfl ⟨(λ γ => Zw 0 7 rfl (λ _ h15 => Ze (Zn rfl (Zv1 h15 z0)))), trivial⟩) ?_
 refine Zp (Zm _) (Zo rfl rfl ⟨(λ γ => Zw 8 0 rfl (λ _ h23 => Ze (Zn rfl (Zj VT.fa61_1 h23 z0)))), trivial⟩) ?_
 refine Zp Za3 (Zo2 1 rfl (λ γ => Zw 9 0 rfl (λ _ h24 => Zw 7 2 rfl (λ _ h22 => Ze (Zx2 h22 (λ e22 => Zn rfl (Zy 1 VT.ty26 h24 e22 rfl rfl rfl ⟨default, trivial, rfl⟩))))))) ?_
 refine DrawP_nil (λ γ => Ze ?_)
 refine Zi (Zb (Zd (Zc (Zl rfl (Zc (Zv1 rfl (Zc (Zj VT.fa61_1 rfl (Zc (Zu 1 VT.ty26 rfl rfl rfl ?_))))))))))
 refine Zc (Zd2 (n := s.out.length + 1) Tryz.underlying26 rfl (by simp) (λ hl29 => ?_))
 refine Zc (Zk2 rfl rfl (by omega) ?_)
 refine Zc (Zk rfl (Za (Zi (Zf1 ?_))))
 refine Zg1 rfl (.tmp rfl) ?_
 refine ⟨_, Dd (Zt2 _), γ 0, ?_, ?_⟩
 . rw [addF, if_neg (by omega)]; exact congrArg V.int (by simp)
 rw [addF, if_neg (by omega)]; simp
theorem below_c (paths : List (List Int)) (k many : Nat) (hk : k < paths.length) (hp : ∀ p ∈ paths, p ≠ [] /\ p.length <= 100000) (hl : paths.length <= 500000) (hm : many <= 100000) : VPure Tryz.prog 37 [pathsX paths, .int k, .int many] (pathsX (belowM paths k many)) := by
 obtain ⟨p, hpk⟩ := get_of_lt paths k (by omega)
 obtain ⟨hp1, hp2⟩ := hp p (Yd hpk)
 have hcc := pathsConcat_l [paths.take k, paths.drop (k + 1)] (by simp; omega)
 rw [belowM_zero] at hcc
 have hbl := λ i => belowM_len (many := i) hk
 refine V_start (nt := 35) Tryz.func37 rfl rfl rfl ?_
 refine Zb (Zd (Zc (Zk rfl (Za (Zi (Zb ?_))))))
 refine VW_drawR (G := Tok) [([], [0], []), ([], [1], []), ([1, 0], [9, 10], []), ([], [0], []), ([], [1], []), ([4], [13], []), ([5, 4, 3], [12, 14], []), (dn 7, [11, 15], []), (dn 8, [16], [0]), (dn 9, [17], [0])] [8] (oneSt _ (λ x => [.buf x 36 1 ((belowM paths k 0).map intsX).length])) [7] [7, 9, 10, 11, 12, 13, 14, 15, 16, 17] rfl VT.mix ?_
 refine Zp (Zm _) (Zo rfl rfl ⟨(λ γ => Zf (λ _ h0 => Ze (Zn rfl (Zl h0 z0)))), trivial⟩) ?_
 refine Zp (Zm _) (Zo rfl rfl ⟨(λ γ => Zf (λ _ h1 => Ze (Zn rfl (Zl h1 z0)))), trivial⟩) ?_
 refine Zp (Zm _) (Zo rfl rfl ⟨(λ γ => Zw 0 1 rfl (λ _ h9 => Zw 1 0 rfl (λ _ h10 => Ze (Zn rfl (Zu2 (V_sliceTo VT.sl63 h9 h10 (by omega) (by simp; omega) z0) (V.le.of_eq (v' := pathsX (paths.take k)) (by rw [pathsX, Yb]; try rfl)) z0))))), trivial⟩) ?_
 refine Zp (Zm _) (Zo rfl rfl ⟨(λ γ => Zf (λ _ h0 => Ze (Zn rfl (Zl h0 z0)))), trivial⟩) ?_
 refine Zp (Zm _) (Zo rfl rfl ⟨(λ γ => Zf (λ _ h1 => Ze (Zn rfl (Zl h1 z0)))), trivial⟩) ?_
 refine Zp (Zm _) (Zo rfl rfl ⟨(λ γ => Zw 4 0 rfl (λ _ h13 => Ze (Zn rfl (Zh2 h13 rfl (by omega) z0)))), trivial⟩) ?_
 refine Zp (Zm _) (Zo rfl rfl ⟨(λ γ => Zw 3 2 rfl (λ _ h12 => Zw 5 0 rfl (λ _ h14 => Ze (Zn rfl (Zu2 (V_sliceFrom VT.sl63 h12 h14 (by omega) (by simp; omega) z0) (V.le.of_eq (v' := pathsX (paths.drop (k + 1))) (by rw [pathsX, Yc]; try rfl)) z0))))), trivial⟩) ?_
 refine Zp (Zm _) (Zo rfl rfl ⟨(λ γ => Zw 2 4 rfl (λ _ h11 => Zw 6 0 rfl (λ _ h15 => Ze (Zn rfl (Zk3 [.tmp 11, .tmp 15] VT.sl168 rfl rfl rfl (Zp2 h11 (Zp2 h15 Zq2)) rfl z0))))), trivial⟩) ?_
 refine Zp (Zw2 (λ x => .sl 1 (some x) ((belowM paths k 0).map intsX))) (Zn2 rfl (λ γ => Zw 7 0 rfl (λ _ h16 => Ze (Zn rfl (V_callBuf [.tmp 16] rfl (Zp2 h16 Zq2) VT.en62 (hcc) (λ t17 => ⟨t17, ⟨t17, rfl, rfl⟩, rfl⟩)))))) ?_
 refine Zp (Zw2 (λ x => .sl 1 (some x) ((belowM paths k 0).map intsX))) (Zo rfl rfl ⟨(λ γ => Zw 8 0 rfl (λ _ h17 => Ze (Zx2 h17 (λ e17 => Zn rfl (Zk e17 ⟨⟨_, rfl, rfl⟩, rfl⟩))))), trivial⟩) ?_
 refine DrawP_nil (λ γ => Zw 9 0 rfl (λ r7 h7 => Ze ?_))
 have e7 : r7 = some _ := Zd3 h7
 subst e7
 clear h7
 refine Zi (Zb (Zb (Zd (Zc (Zl rfl (Zc (Zl rfl (Za (Zi (Zs ?_))))))))))
 refine Zi2 (ι := Nat × Tok) (λ (i, tk) => many - i) (λ (i, tk) => [(0, some (pathsX paths)), (1, some (.int k)), (7, some (.sl 1 (some tk) ((belowM paths k i).map intsX))), (18, some (.int many)), (19, some (.int i))]) (λ (i, tk) => [.buf tk 36 1 (belowM paths k i).length]) (λ (i, tk) => i <= many) (0, γ 0) (by simp) ⟨rfl, rfl, rfl, rfl, rfl, trivial⟩ (Drops.buf (by simp) (Zt2 _)) ?_
 rintro ⟨i, tk⟩ hi
 change i <= many at hi
 refine Zb (Zd (Zc (Zj1 rfl rfl rfl (Za (Zi (Zb ?_))))))
 refine Zn1 rfl (λ h20 => ?_) (λ h20 => ?_)
 .
  have hbi := hbl i
  have hsn : (belowM paths k (i + 1)).map intsX = (belowM paths k i).map intsX ++ [intsX (p ++ [(i : Int)])] := by rw [belowM_snoc hpk, Ya]; rfl
  refine Zi1 (Zi (Zb (Zs (Zb (Zd (Zc (Zl rfl (Zc (Zk rfl (Za (Zi (Zd (Zc (Zl rfl (Zc (Zl rfl (Zc (Zl rfl ?_))))))))))))))))))
  refine Zc (Zz (el := intsX p) VT.sl63 rfl rfl (by omega) (get_mapS _ hpk) (λ a25 => ?_))
  refine Zc (Zz1 VT.ty36 rfl rfl ?_)
  refine Zc (V_callBuf [.tmp 26] rfl rfl VT.en16 (intsClone_l p hp1 (by omega)) (λ t27 => ?_))
  refine Zc (Zl rfl ?_)
  refine Zc (Zk3 [.tmp 28] VT.sl36 rfl rfl rfl rfl rfl ?_)
  refine Zc (V_appendEnd 0 _ VT.sl36 rfl rfl rfl (by simp) (by simp; omega) (zs := (p ++ [(i : Int)]).map V.int) (by simp) ?_)
  refine Zc (Zk3 [.tmp 30] VT.sl63 rfl rfl rfl rfl rfl ?_)
  refine Zc (Zi3 0 _ VT.sl63 rfl rfl rfl (by simp) (by simp; omega) (λ t32 => ?_))
  refine Zc (Zk rfl (Za (Zb1 (Zi (Zd ?_)))))
  refine Zc (Zh2 rfl rfl (by omega) ?_)
  refine Zc (Zl rfl (Za (Zi ?_)))
  exact ⟨(i + 1, t32), (by (try simp only []); omega), (by omega), ⟨rfl, rfl, (by rw [hsn]; rfl), rfl, rfl, trivial⟩, (Drops.buf (by rw [belowM_snoc hpk]; simp) (Zt2 _))⟩
 have hie : i = many := by omega
 refine Zt (Ze1 (Ze1 (Zc1 (Zi (Zb (Zd (Zc (Zl rfl (Zc (Zk rfl (Za (Zi (Zf1 ?_)))))))))))))
 refine Zg1 rfl (.strip rfl) ?_
 rw [hie]
theorem mnarrow_c {c : FuncId} {caps : List V} {o : Own} {is : Pat -> Bool} (hen : Enters Tryz.prog c) (hp : ∀ p, VKeep Tryz.prog c (patX p :: caps) [o] (.bool (is p))) (rows : List MRow) (k many : Nat) (hk : ∀ r ∈ rows, k < r.2.length /\ r.2.length <= 400000 /\ ∀ p, r.2[k]? = some p -> free p = false -> p.kind = 3 -> p.args.length <= 100000) (hl : rows.length <= 1000000) (hm : many <= 100000) : VKeep Tryz.prog 36 [mrowsX rows, .int k, .clo (.func c) caps, .int many] [o] (mrowsX (narrowM k is many rows)) := by
 refine VCalls_drops ?_
 refine V_start (nt := 66) Tryz.func36 rfl rfl rfl ?_
 refine Zb (Zd (Zc (Zk rfl (Za (Zi (Zb (Zd (Zc (V_assign_nil 65 2 (Za (Zi (Zb (Zb (Zd (Zc (Zl rfl ?_))))))))))))))))
 refine Zc (Zd2 (n := rows.length) Tryz.underlying62 rfl (by simp) (λ hl15 => ?_))
 refine Zc (Zl rfl (Za (Zi (Zs ?_))))
 refine Zi2 (ι := Nat × Tok) (λ (i, tk) => rows.length - i) (λ (i, tk) => [(1, some (.int k)), (2, some (.clo (.func c) caps)), (3, some (.int many)), (9, some (.sl 2 (some tk) ((narrowM k is many (rows.take i)).map mrowX))), (14, some (mrowsX rows)), (15, some (.int rows.length)), (16, some (.int i))]) (λ (i, tk) => [.buf tk 65 2 (narrowM k is many (rows.take i)).length, o]) (λ (i, tk) => i <= rows.length) (0, .nil) (by simp) ⟨rfl, rfl, rfl, rfl, rfl, rfl, rfl, trivial⟩ (Drops.buf rfl (Dk (Zt2 _))) ?_
 rintro ⟨i, tk⟩ hi
 change i <= rows.length at hi
 refine Zb (Zd (Zc (Zj1 rfl rfl rfl (Za (Zi (Zb ?_))))))
 refine Zn1 rfl (λ h17 => ?_) (λ h17 => ?_)
 .
  obtain ⟨r, hr⟩ := get_of_lt rows i h17
  obtain ⟨hk1, hk2, hk3⟩ := hk r (Yd hr)
  obtain ⟨p, hpk⟩ := get_of_lt r.2 k (by omega)
  have hsn := narrowM_snoc k is many (rows.take i) r hpk
  have hnl := narrowM_len k is many (rows.take i)
  rw [List.length_take] at hnl
  refine Zi1 (Zi (Zb (Zs (Zb (Zd ?_)))))
  refine Zc (Zz (el := mrowX r) VT.sl62 rfl rfl (by omega) (get_mapS _ hr) (λ a18 => ?_))
  refine Zc (Za2 VT.ty65 rfl rfl ?_)
  refine Zc (Zb2 VT.zr65 _ rfl rfl (λ g11 => ?_))
  refine Zc (Zx 0 VT.ty65 rfl rfl rfl rfl rfl (Za (Zi (Zb (Zd (Zc (Zj VT.fa65_1 rfl (Zc (Zu 0 VT.ty24 rfl rfl rfl (Zc (Zl rfl ?_)))))))))))
  refine Zc (Zz (el := patX p) VT.sl24 rfl rfl (by omega) (get_patS hpk) (λ a23 => ?_))
  refine Zc (Za2 VT.ty75 rfl rfl ?_)
  refine Zc (Zb2 VT.zr75 _ rfl rfl (λ g12 => ?_))
  refine Zc (Zx 0 VT.ty75 rfl rfl rfl rfl rfl (Za (Zi (Zb (Zb (Zd (Zc (Zv 0 VT.ty75 rfl rfl rfl ?_))))))))
  rcases hf : free p with _ | _
  .
   refine Zc (Zx1 [.tmp 25] rfl rfl VT.en31 (mfree_at hf) ?_)
   refine Zc (Zl2 rfl (Zc (Zl rfl ?_)))
   refine Zj2 (q := 28) rfl (λ hq28 => ?_) (λ hq28 => ?_)
   .
    refine Zc (Zl rfl ?_) (Zy1 hq28)
    refine Zc (Zv 0 VT.ty75 rfl rfl rfl ?_) (Zy1 hq28)
    refine Zc (V_callCloK 3 [.tmp 30] rfl rfl rfl hen rfl (hp p) ?_) (Zy1 hq28)
    refine Zc (Zl2 rfl ?_) (Zy1 hq28)
    refine Zc (Zs1 rfl hq28 rfl ?_)
    refine Za (Zi ?_)
    refine Zo1 rfl (λ h33 => ?_) (λ h33 => ?_)
    .
     have hc : is p = false := by simpa using h33
     rw [hf, hc, if_neg (by simp), List.append_nil] at hsn
     refine Zt (Ze1 (Zc1 (Zi (Zd ?_))))
     refine Zc (Zh2 rfl rfl (by omega) ?_)
     refine Zc (Zl rfl (Za (Zi ?_)))
     exact ⟨(i + 1, tk), (by (try simp only []); omega), (by omega), ⟨rfl, rfl, rfl, (by rw [take_snoc hr, hsn]; first | rfl | (rw [Ya]; rfl)), rfl, rfl, rfl, trivial⟩, (Dd (Dd (Drops.buf (by rw [take_snoc hr, hsn]; try simp) (Dk (Zt2 _)))))⟩
    have hc : is p = true := by simpa using h33
    rw [hf, hc, if_pos (by simp)] at hsn
    refine Zi1 (Zi (Zb (Zd (Zc (Zl rfl ?_)))))
    refine Zc (Zu2 (V_makeImm (patX anyP) any_rep rfl VT.sl24 rfl rfl (by omega) (by omega) ⟨rfl, rfl⟩) (V.le.of_eq (v' := patsX (anysL many)) (by simp [patV_eq])) ?_)
    refine Zc (Zk rfl (Za (Zi (Zb (Zb (Zd (Zc (Zv 0 VT.ty75 rfl rfl rfl ?_))))))))
    refine Zc (Zx1 [.tmp 36] rfl rfl VT.en31 (mfree_at hf) ?_)
    refine Zc (Zl2 rfl (Zc (Zl rfl ?_)))
    refine Zj2 (q := 39) rfl (λ hq39 => ?_) (λ hq39 => ?_)
    .
     refine Zc (Zj VT.fa75_0 rfl ?_) (Zy1 hq39)
     refine Zc (Zu 0 VT.ty3 rfl rfl rfl ?_) (Zy1 hq39)
     refine Zc (Zj1 rfl rfl rfl ?_) (Zy1 hq39)
     refine Zc (Zs1 rfl hq39 rfl ?_)
     refine Za (Zi ?_)
     refine Zl1 rfl (λ h43 => ?_) (λ h43 => ?_)
     .
      have hpa := hk3 p hpk hf h43
      have hcc : VPure Tryz.prog 61 [rowsX [r.2.take k, r.2.drop (k + 1), p.args]] (patsX (newPats k many p r.2)) := by rw [show newPats k many p r.2 = cat [r.2.take k, r.2.drop (k + 1), p.args] by simp [newPats, cat, hf, h43]]; exact concat_c _ (by simp [cat]; omega)
      refine Zd (Zc (Zj VT.fa75_3 rfl (Zc (Zu 0 VT.ty24 rfl rfl rfl (Zc (Zk rfl (Za (Zi ?_))))))))
      refine VW_drawR (G := Tok) [([], [9], []), ([], [11], []), ([1], [47], []), ([], [11], []), ([3], [49], []), ([], [1], []), ([5, 4, 3], [50, 51], []), ([], [11], []), ([7], [53], []), ([], [1], []), ([9], [55], []), ([10, 9, 8, 7], [54, 56], []), ([], [13], []), ([12, 11, 10, 9, 8, 7, 6, 5, 4, 3], [52, 57, 58], []), ([13, 12, 11, 10, 9, 8, 7, 6, 5, 4, 3], [59], []), ([14, 13, 12, 11, 10, 9, 8, 7, 6, 5, 4, 3, 2, 1], [48, 60], []), ([15, 14, 13, 12, 11, 10, 9, 8, 7, 6, 5, 4, 3, 2, 1], [61], []), (dn 17, [46, 62], [0]), (dn 18, [63], [0])] [17] (oneSt _ (λ x => [.cells g12 75 [.int p.kind, .str p.name, .int p.n, patsX p.args], .cells g11 65 [.int r.1, patsX r.2], .buf x 65 2 ((narrowM k is many (rows.take i)).map mrowX ++ [mrowX (r.1, newPats k many p r.2)]).length, o])) [9] [9, 46, 47, 48, 49, 50, 51, 52, 53, 54, 55, 56, 57, 58, 59, 60, 61, 62, 63] rfl VT.mix ?_
      refine Zp (Zm _) (Zo rfl rfl ⟨(λ γ => Zf (λ _ h9 => Ze (Zn rfl (Zl h9 z0)))), trivial⟩) ?_
      refine Zp (Zm _) (Zo rfl rfl ⟨(λ γ => Zf (λ _ h11 => Ze (Zn rfl (Zj VT.fa65_0 h11 z0)))), trivial⟩) ?_
      refine Zp (Zm _) (Zo rfl rfl ⟨(λ γ => Zw 1 0 rfl (λ _ h47 => Ze (Zn rfl (Zu 1 VT.ty3 h47 rfl rfl z0)))), trivial⟩) ?_
      refine Zp (Zm _) (Zo rfl rfl ⟨(λ γ => Zf (λ _ h11 => Ze (Zn rfl (Zj VT.fa65_1 h11 z0)))), trivial⟩) ?_
      refine Zp (Zm _) (Zo rfl rfl ⟨(λ γ => Zw 3 0 rfl (λ _ h49 => Ze (Zn rfl (Zu 1 VT.ty24 h49 rfl rfl z0)))), trivial⟩) ?_
      refine Zp (Zm _) (Zo rfl rfl ⟨(λ γ => Zf (λ _ h1 => Ze (Zn rfl (Zl h1 z0)))), trivial⟩) ?_
      refine Zp (Zm _) (Zo rfl rfl ⟨(λ γ => Zw 4 1 rfl (λ _ h50 => Zw 5 0 rfl (λ _ h51 => Ze (Zn rfl (Zu2 (V_sliceTo VT.sl24 h50 h51 (by omega) (by simp; omega) z0) (V.le.of_eq (v' := patsX (r.2.take k)) (by rw [patsX, Yb]; try rfl)) z0))))), trivial⟩) ?_
      refine Zp (Zm _) (Zo rfl rfl ⟨(λ γ => Zf (λ _ h11 => Ze (Zn rfl (Zj VT.fa65_1 h11 z0)))), trivial⟩) ?_
      refine Zp (Zm _) (Zo rfl rfl ⟨(λ γ => Zw 7 0 rfl (λ _ h53 => Ze (Zn rfl (Zu 1 VT.ty24 h53 rfl rfl z0)))), trivial⟩) ?_
      refine Zp (Zm _) (Zo rfl rfl ⟨(λ γ => Zf (λ _ h1 => Ze (Zn rfl (Zl h1 z0)))), trivial⟩) ?_
      refine Zp (Zm _) (Zo rfl rfl ⟨(λ γ => Zw 9 0 rfl (λ _ h55 => Ze (Zn rfl (Zh2 h55 rfl (by omega) z0)))), trivial⟩) ?_
      refine Zp (Zm _) (Zo rfl rfl ⟨(λ γ => Zw 8 2 rfl (λ _ h54 => Zw 10 0 rfl (λ _ h56 => Ze (Zn rfl (Zu2 (V_sliceFrom VT.sl24 h54 h56 (by omega) (by simp; omega) z0) (V.le.of_eq (v' := patsX (r.2.drop (k + 1))) (by rw [patsX, Yc]; try rfl)) z0))))), trivial⟩) ?_
      refine Zp (Zm _) (Zo rfl rfl ⟨(λ γ => Zf (λ _ h13 => Ze (Zn rfl (Zl h13 z0)))), trivial⟩) ?_
      refine Zp (Zm _) (Zo rfl rfl ⟨(λ γ => Zw 6 6 rfl (λ _ h52 => Zw 11 1 rfl (λ _ h57 => Zw 12 0 rfl (λ _ h58 => Ze (Zn rfl (Zk3 [.tmp 52, .tmp 57, .tmp 58] VT.sl23 rfl rfl rfl (Zp2 h52 (Zp2 h57 (Zp2 h58 Zq2))) rfl z0)))))), trivial⟩) ?_
      refine Zp (Zm _) (Zo rfl rfl ⟨(λ γ => Zw 13 0 rfl (λ _ h59 => Ze (Zn rfl (Zx1 [.tmp 59] rfl (Zp2 h59 Zq2) VT.en61 (hcc) z0)))), trivial⟩) ?_
      refine Zp (Zm _) (Zo rfl rfl ⟨(λ γ => Zw 2 12 rfl (λ _ h48 => Zw 14 0 rfl (λ _ h60 => Ze (Zn rfl (Zf2 [0, 1] [.tmp 48, .tmp 60] VT.st65 rfl rfl (Zp2 h48 (Zp2 h60 Zq2)) rfl z0))))), trivial⟩) ?_
      refine Zp (Zm _) (Zo rfl rfl ⟨(λ γ => Zw 15 0 rfl (λ _ h61 => Ze (Zn rfl (Zk3 [.tmp 61] VT.sl62 rfl rfl rfl (Zp2 h61 Zq2) rfl z0)))), trivial⟩) ?_
      refine Zp (Zw2 (λ x => .sl 2 (some x) ((narrowM k is many (rows.take i)).map mrowX ++ [mrowX (r.1, newPats k many p r.2)]))) (Zn2 rfl (λ γ => Zw 0 16 rfl (λ _ h46 => Zw 16 0 rfl (λ _ h62 => Ze (Zn rfl (Zi3 2 _ VT.sl62 h46 h62 rfl (by simp) (by simp; omega) (λ t63 => ⟨t63, ⟨t63, rfl, rfl⟩, rfl⟩))))))) ?_
      refine Zp (Zw2 (λ x => .sl 2 (some x) ((narrowM k is many (rows.take i)).map mrowX ++ [mrowX (r.1, newPats k many p r.2)]))) (Zo rfl rfl ⟨(λ γ => Zw 17 0 rfl (λ _ h63 => Ze (Zx2 h63 (λ e63 => Zn rfl (Zk e63 ⟨⟨_, rfl, rfl⟩, rfl⟩))))), trivial⟩) ?_
      refine DrawP_nil (λ γ => Zw 18 0 rfl (λ r9 h9 => Ze ?_))
      have e9 : r9 = some _ := Zd3 h9
      subst e9
      clear h9
      refine Zb1 (Zi (Zd ?_))
      refine Zc (Zh2 rfl rfl (by omega) ?_)
      refine Zc (Zl rfl (Za (Zi ?_)))
      exact ⟨(i + 1, (γ 0)), (by (try simp only []); omega), (by omega), ⟨rfl, rfl, rfl, (by rw [take_snoc hr, hsn]; first | rfl | (rw [Ya]; rfl)), rfl, rfl, rfl, trivial⟩, (Dd (Dd (Drops.buf (by rw [take_snoc hr, hsn]; try simp) (Dk (Zt2 _)))))⟩
     have hcc : VPure Tryz.prog 61 [rowsX [r.2.take k, r.2.drop (k + 1), anysL many]] (patsX (newPats k many p r.2)) := by rw [show newPats k many p r.2 = cat [r.2.take k, r.2.drop (k + 1), anysL many] by simp [newPats, cat, h43]]; exact concat_c _ (by simp [cat]; omega)
     refine Zi1 (Zi ?_)
     refine VW_drawR (G := Tok) [([], [9], []), ([], [11], []), ([1], [47], []), ([], [11], []), ([3], [49], []), ([], [1], []), ([5, 4, 3], [50, 51], []), ([], [11], []), ([7], [53], []), ([], [1], []), ([9], [55], []), ([10, 9, 8, 7], [54, 56], []), ([], [13], []), ([12, 11, 10, 9, 8, 7, 6, 5, 4, 3], [52, 57, 58], []), ([13, 12, 11, 10, 9, 8, 7, 6, 5, 4, 3], [59], []), ([14, 13, 12, 11, 10, 9, 8, 7, 6, 5, 4, 3, 2, 1], [48, 60], []), ([15, 14, 13, 12, 11, 10, 9, 8, 7, 6, 5, 4, 3, 2, 1], [61], []), (dn 17, [46, 62], [0]), (dn 18, [63], [0])] [17] (oneSt _ (λ x => [.cells g12 75 [.int p.kind, .str p.name, .int p.n, patsX p.args], .cells g11 65 [.int r.1, patsX r.2], .buf x 65 2 ((narrowM k is many (rows.take i)).map mrowX ++ [mrowX (r.1, newPats k many p r.2)]).length, o])) [9] [9, 46, 47, 48, 49, 50, 51, 52, 53, 54, 55, 56, 57, 58, 59, 60, 61, 62, 63] rfl VT.mix ?_
     refine Zp (Zm _) (Zo rfl rfl ⟨(λ γ => Zf (λ _ h9 => Ze (Zn rfl (Zl h9 z0)))), trivial⟩) ?_
     refine Zp (Zm _) (Zo rfl rfl ⟨(λ γ => Zf (λ _ h11 => Ze (Zn rfl (Zj VT.fa65_0 h11 z0)))), trivial⟩) ?_
     refine Zp (Zm _) (Zo rfl rfl ⟨(λ γ => Zw 1 0 rfl (λ _ h47 => Ze (Zn rfl (Zu 1 VT.ty3 h47 rfl rfl z0)))), trivial⟩) ?_
     refine Zp (Zm _) (Zo rfl rfl ⟨(λ γ => Zf (λ _ h11 => Ze (Zn rfl (Zj VT.fa65_1 h11 z0)))), trivial⟩) ?_
     refine Zp (Zm _) (Zo rfl rfl ⟨(λ γ => Zw 3 0 rfl (λ _ h49 => Ze (Zn rfl (Zu 1 VT.ty24 h49 rfl rfl z0)))), trivial⟩) ?_
     refine Zp (Zm _) (Zo rfl rfl ⟨(λ γ => Zf (λ _ h1 => Ze (Zn rfl (Zl h1 z0)))), trivial⟩) ?_
     refine Zp (Zm _) (Zo rfl rfl ⟨(λ γ => Zw 4 1 rfl (λ _ h50 => Zw 5 0 rfl (λ _ h51 => Ze (Zn rfl (Zu2 (V_sliceTo VT.sl24 h50 h51 (by omega) (by simp; omega) z0) (V.le.of_eq (v' := patsX (r.2.take k)) (by rw [patsX, Yb]; try rfl)) z0))))), trivial⟩) ?_
     refine Zp (Zm _) (Zo rfl rfl ⟨(λ γ => Zf (λ _ h11 => Ze (Zn rfl (Zj VT.fa65_1 h11 z0)))), trivial⟩) ?_
     refine Zp (Zm _) (Zo rfl rfl ⟨(λ γ => Zw 7 0 rfl (λ _ h53 => Ze (Zn rfl (Zu 1 VT.ty24 h53 rfl rfl z0)))), trivial⟩) ?_
     refine Zp (Zm _) (Zo rfl rfl ⟨(λ γ => Zf (λ _ h1 => Ze (Zn rfl (Zl h1 z0)))), trivial⟩) ?_
     refine Zp (Zm _) (Zo rfl rfl ⟨(λ γ => Zw 9 0 rfl (λ _ h55 => Ze (Zn rfl (Zh2 h55 rfl (by omega) z0)))), trivial⟩) ?_
     refine Zp (Zm _) (Zo rfl rfl ⟨(λ γ => Zw 8 2 rfl (λ _ h54 => Zw 10 0 rfl (λ _ h56 => Ze (Zn rfl (Zu2 (V_sliceFrom VT.sl24 h54 h56 (by omega) (by simp; omega) z0) (V.le.of_eq (v' := patsX (r.2.drop (k + 1))) (by rw [patsX, Yc]; try rfl)) z0))))), trivial⟩) ?_
     refine Zp (Zm _) (Zo rfl rfl ⟨(λ γ => Zf (λ _ h13 => Ze (Zn rfl (Zl h13 z0)))), trivial⟩) ?_
     refine Zp (Zm _) (Zo rfl rfl ⟨(λ γ => Zw 6 6 rfl (λ _ h52 => Zw 11 1 rfl (λ _ h57 => Zw 12 0 rfl (λ _ h58 => Ze (Zn rfl (Zk3 [.tmp 52, .tmp 57, .tmp 58] VT.sl23 rfl rfl rfl (Zp2 h52 (Zp2 h57 (Zp2 h58 Zq2))) rfl z0)))))), trivial⟩) ?_
     refine Zp (Zm _) (Zo rfl rfl ⟨(λ γ => Zw 13 0 rfl (λ _ h59 => Ze (Zn rfl (Zx1 [.tmp 59] rfl (Zp2 h59 Zq2) VT.en61 (hcc) z0)))), trivial⟩) ?_
     refine Zp (Zm _) (Zo rfl rfl ⟨(λ γ => Zw 2 12 rfl (λ _ h48 => Zw 14 0 rfl (λ _ h60 => Ze (Zn rfl (Zf2 [0, 1] [.tmp 48, .tmp 60] VT.st65 rfl rfl (Zp2 h48 (Zp2 h60 Zq2)) rfl z0))))), trivial⟩) ?_
     refine Zp (Zm _) (Zo rfl rfl ⟨(λ γ => Zw 15 0 rfl (λ _ h61 => Ze (Zn rfl (Zk3 [.tmp 61] VT.sl62 rfl rfl rfl (Zp2 h61 Zq2) rfl z0)))), trivial⟩) ?_
     refine Zp (Zw2 (λ x => .sl 2 (some x) ((narrowM k is many (rows.take i)).map mrowX ++ [mrowX (r.1, newPats k many p r.2)]))) (Zn2 rfl (λ γ => Zw 0 16 rfl (λ _ h46 => Zw 16 0 rfl (λ _ h62 => Ze (Zn rfl (Zi3 2 _ VT.sl62 h46 h62 rfl (by simp) (by simp; omega) (λ t63 => ⟨t63, ⟨t63, rfl, rfl⟩, rfl⟩))))))) ?_
     refine Zp (Zw2 (λ x => .sl 2 (some x) ((narrowM k is many (rows.take i)).map mrowX ++ [mrowX (r.1, newPats k many p r.2)]))) (Zo rfl rfl ⟨(λ γ => Zw 17 0 rfl (λ _ h63 => Ze (Zx2 h63 (λ e63 => Zn rfl (Zk e63 ⟨⟨_, rfl, rfl⟩, rfl⟩))))), trivial⟩) ?_
     refine DrawP_nil (λ γ => Zw 18 0 rfl (λ r9 h9 => Ze ?_))
     have e9 : r9 = some _ := Zd3 h9
     subst e9
     clear h9
     refine Zb1 (Zi (Zd ?_))
     refine Zc (Zh2 rfl rfl (by omega) ?_)
     refine Zc (Zl rfl (Za (Zi ?_)))
     exact ⟨(i + 1, (γ 0)), (by (try simp only []); omega), (by omega), ⟨rfl, rfl, rfl, (by rw [take_snoc hr, hsn]; first | rfl | (rw [Ya]; rfl)), rfl, rfl, rfl, trivial⟩, (Dd (Dd (Drops.buf (by rw [take_snoc hr, hsn]; try simp) (Dk (Zt2 _)))))⟩
    exact absurd hq39 (by simp)
   exact absurd hq28 (by simp)
  rw [hf, if_pos (by simp)] at hsn
  have hcc : VPure Tryz.prog 61 [rowsX [r.2.take k, r.2.drop (k + 1), anysL many]] (patsX (newPats k many p r.2)) := by rw [show newPats k many p r.2 = cat [r.2.take k, r.2.drop (k + 1), anysL many] by simp [newPats, cat, hf]]; exact concat_c _ (by simp [cat]; omega)
  refine Zc (Zx1 [.tmp 25] rfl rfl VT.en31 (mfree_at hf) ?_)
  refine Zc (Zl2 rfl (Zc (Zl rfl ?_)))
  refine Zj2 (q := 28) rfl (λ hq28 => ?_) (λ hq28 => ?_)
  . exact absurd hq28 (by simp)
  refine Zk1 hq28 ?_
  refine Zk1 hq28 ?_
  refine Zk1 hq28 ?_
  refine Zk1 hq28 ?_
  refine Zc (Zt1 rfl hq28 rfl ?_)
  refine Za (Zi ?_)
  refine Zq1 rfl rfl ?_
  refine Zi1 (Zi (Zb (Zd (Zc (Zl rfl ?_)))))
  refine Zc (Zu2 (V_makeImm (patX anyP) any_rep rfl VT.sl24 rfl rfl (by omega) (by omega) ⟨rfl, rfl⟩) (V.le.of_eq (v' := patsX (anysL many)) (by simp [patV_eq])) ?_)
  refine Zc (Zk rfl (Za (Zi (Zb (Zb (Zd (Zc (Zv 0 VT.ty75 rfl rfl rfl ?_))))))))
  refine Zc (Zx1 [.tmp 36] rfl rfl VT.en31 (mfree_at hf) ?_)
  refine Zc (Zl2 rfl (Zc (Zl rfl ?_)))
  refine Zj2 (q := 39) rfl (λ hq39 => ?_) (λ hq39 => ?_)
  . exact absurd hq39 (by simp)
  refine Zk1 hq39 ?_
  refine Zk1 hq39 ?_
  refine Zk1 hq39 ?_
  refine Zc (Zt1 rfl hq39 rfl ?_)
  refine Za (Zi ?_)
  refine Zq1 rfl rfl ?_
  refine Zi1 (Zi ?_)
  refine VW_drawR (G := Tok) [([], [9], []), ([], [11], []), ([1], [47], []), ([], [11], []), ([3], [49], []), ([], [1], []), ([5, 4, 3], [50, 51], []), ([], [11], []), ([7], [53], []), ([], [1], []), ([9], [55], []), ([10, 9, 8, 7], [54, 56], []), ([], [13], []), ([12, 11, 10, 9, 8, 7, 6, 5, 4, 3], [52, 57, 58], []), ([13, 12, 11, 10, 9, 8, 7, 6, 5, 4, 3], [59], []), ([14, 13, 12, 11, 10, 9, 8, 7, 6, 5, 4, 3, 2, 1], [48, 60], []), ([15, 14, 13, 12, 11, 10, 9, 8, 7, 6, 5, 4, 3, 2, 1], [61], []), (dn 17, [46, 62], [0]), (dn 18, [63], [0])] [17] (oneSt _ (λ x => [.cells g12 75 [.int p.kind, .str p.name, .int p.n, patsX p.args], .cells g11 65 [.int r.1, patsX r.2], .buf x 65 2 ((narrowM k is many (rows.take i)).map mrowX ++ [mrowX (r.1, newPats k many p r.2)]).length, o])) [9] [9, 46, 47, 48, 49, 50, 51, 52, 53, 54, 55, 56, 57, 58, 59, 60, 61, 62, 63] rfl VT.mix ?_
  refine Zp (Zm _) (Zo rfl rfl ⟨(λ γ => Zf (λ _ h9 => Ze (Zn rfl (Zl h9 z0)))), trivial⟩) ?_
  refine Zp (Zm _) (Zo rfl rfl ⟨(λ γ => Zf (λ _ h11 => Ze (Zn rfl (Zj VT.fa65_0 h11 z0)))), trivial⟩) ?_
  refine Zp (Zm _) (Zo rfl rfl ⟨(λ γ => Zw 1 0 rfl (λ _ h47 => Ze (Zn rfl (Zu 1 VT.ty3 h47 rfl rfl z0)))), trivial⟩) ?_
  refine Zp (Zm _) (Zo rfl rfl ⟨(λ γ => Zf (λ _ h11 => Ze (Zn rfl (Zj VT.fa65_1 h11 z0)))), trivial⟩) ?_
  refine Zp (Zm _) (Zo rfl rfl ⟨(λ γ => Zw 3 0 rfl (λ _ h49 => Ze (Zn rfl (Zu 1 VT.ty24 h49 rfl rfl z0)))), trivial⟩) ?_
  refine Zp (Zm _) (Zo rfl rfl ⟨(λ γ => Zf (λ _ h1 => Ze (Zn rfl (Zl h1 z0)))), trivial⟩) ?_
  refine Zp (Zm _) (Zo rfl rfl ⟨(λ γ => Zw 4 1 rfl (λ _ h50 => Zw 5 0 rfl (λ _ h51 => Ze (Zn rfl (Zu2 (V_sliceTo VT.sl24 h50 h51 (by omega) (by simp; omega) z0) (V.le.of_eq (v' := patsX (r.2.take k)) (by rw [patsX, Yb]; try rfl)) z0))))), trivial⟩) ?_
  refine Zp (Zm _) (Zo rfl rfl ⟨(λ γ => Zf (λ _ h11 => Ze (Zn rfl (Zj VT.fa65_1 h11 z0)))), trivial⟩) ?_
  refine Zp (Zm _) (Zo rfl rfl ⟨(λ γ => Zw 7 0 rfl (λ _ h53 => Ze (Zn rfl (Zu 1 VT.ty24 h53 rfl rfl z0)))), trivial⟩) ?_
  refine Zp (Zm _) (Zo rfl rfl ⟨(λ γ => Zf (λ _ h1 => Ze (Zn rfl (Zl h1 z0)))), trivial⟩) ?_
  refine Zp (Zm _) (Zo rfl rfl ⟨(λ γ => Zw 9 0 rfl (λ _ h55 => Ze (Zn rfl (Zh2 h55 rfl (by omega) z0)))), trivial⟩) ?_
  refine Zp (Zm _) (Zo rfl rfl ⟨(λ γ => Zw 8 2 rfl (λ _ h54 => Zw 10 0 rfl (λ _ h56 => Ze (Zn rfl (Zu2 (V_sliceFrom VT.sl24 h54 h56 (by omega) (by simp; omega) z0) (V.le.of_eq (v' := patsX (r.2.drop (k + 1))) (by rw [patsX, Yc]; try rfl)) z0))))), trivial⟩) ?_
  refine Zp (Zm _) (Zo rfl rfl ⟨(λ γ => Zf (λ _ h13 => Ze (Zn rfl (Zl h13 z0)))), trivial⟩) ?_
  refine Zp (Zm _) (Zo rfl rfl ⟨(λ γ => Zw 6 6 rfl (λ _ h52 => Zw 11 1 rfl (λ _ h57 => Zw 12 0 rfl (λ _ h58 => Ze (Zn rfl (Zk3 [.tmp 52, .tmp 57, .tmp 58] VT.sl23 rfl rfl rfl (Zp2 h52 (Zp2 h57 (Zp2 h58 Zq2))) rfl z0)))))), trivial⟩) ?_
  refine Zp (Zm _) (Zo rfl rfl ⟨(λ γ => Zw 13 0 rfl (λ _ h59 => Ze (Zn rfl (Zx1 [.tmp 59] rfl (Zp2 h59 Zq2) VT.en61 (hcc) z0)))), trivial⟩) ?_
  refine Zp (Zm _) (Zo rfl rfl ⟨(λ γ => Zw 2 12 rfl (λ _ h48 => Zw 14 0 rfl (λ _ h60 => Ze (Zn rfl (Zf2 [0, 1] [.tmp 48, .tmp 60] VT.st65 rfl rfl (Zp2 h48 (Zp2 h60 Zq2)) rfl z0))))), trivial⟩) ?_
  refine Zp (Zm _) (Zo rfl rfl ⟨(λ γ => Zw 15 0 rfl (λ _ h61 => Ze (Zn rfl (Zk3 [.tmp 61] VT.sl62 rfl rfl rfl (Zp2 h61 Zq2) rfl z0)))), trivial⟩) ?_
  refine Zp (Zw2 (λ x => .sl 2 (some x) ((narrowM k is many (rows.take i)).map mrowX ++ [mrowX (r.1, newPats k many p r.2)]))) (Zn2 rfl (λ γ => Zw 0 16 rfl (λ _ h46 => Zw 16 0 rfl (λ _ h62 => Ze (Zn rfl (Zi3 2 _ VT.sl62 h46 h62 rfl (by simp) (by simp; omega) (λ t63 => ⟨t63, ⟨t63, rfl, rfl⟩, rfl⟩))))))) ?_
  refine Zp (Zw2 (λ x => .sl 2 (some x) ((narrowM k is many (rows.take i)).map mrowX ++ [mrowX (r.1, newPats k many p r.2)]))) (Zo rfl rfl ⟨(λ γ => Zw 17 0 rfl (λ _ h63 => Ze (Zx2 h63 (λ e63 => Zn rfl (Zk e63 ⟨⟨_, rfl, rfl⟩, rfl⟩))))), trivial⟩) ?_
  refine DrawP_nil (λ γ => Zw 18 0 rfl (λ r9 h9 => Ze ?_))
  have e9 : r9 = some _ := Zd3 h9
  subst e9
  clear h9
  refine Zb1 (Zi (Zd ?_))
  refine Zc (Zh2 rfl rfl (by omega) ?_)
  refine Zc (Zl rfl (Za (Zi ?_)))
  exact ⟨(i + 1, (γ 0)), (by (try simp only []); omega), (by omega), ⟨rfl, rfl, rfl, (by rw [take_snoc hr, hsn]; first | rfl | (rw [Ya]; rfl)), rfl, rfl, rfl, trivial⟩, (Dd (Dd (Drops.buf (by rw [take_snoc hr, hsn]; try simp) (Dk (Zt2 _)))))⟩
 refine Zt (Ze1 (Ze1 (Zc1 (Zi (Zb (Zd (Zc (Zl rfl (Zc (Zk rfl (Za (Zi (Zf1 ?_)))))))))))))
 refine Zg1 rfl (.strip rfl) ?_
 rw [take_end h17]
 exact ⟨_, Dd (Zt2 _), rfl, rfl⟩
theorem never_k (p : Pat) (o : Own) : VKeep Tryz.prog 63 [patX p] [o] (.bool false) := by
 refine VCalls_drops ?_
 refine V_start (nt := 3) Tryz.func63 rfl rfl rfl ?_
 refine Zb (Zd ?_)
 refine Zc (Zc2 rfl rfl (λ g1 => ?_))
 refine Zc (Zk rfl (Za (Zi (Zb (Zd (Zc (Zk rfl (Za (Zi (Zf1 ?_))))))))))
 refine Zg1 rfl (.tmp rfl) ?_
 exact ⟨_, Dd (Zt2 _), rfl, rfl⟩
theorem other_c {t : Tab} {ds : List DataSig} {f : Nat} (ih : BuildC t ds f) (gb gm : Nat) (tk : Tok) (tab : List (Str × V)) (s : BSt) (rows : List MRow) (paths : List (List Int)) (τs : List Ty) (k : Nat) (p : Pat) (τ : Ty) (htab : ConTab t ds tab) (h : MPre t (f + 1) rows paths τs) (ha : AtHead t rows τs k p τ) (hs : s.full = decide (4096 < s.many)) (ho : s.out.length <= s.many) (hm : s.many <= 4097 + (f + 1) * 1100) (hf : f <= 401) : VTok Tryz.prog 38 [.ptr gb 0, mrowsX rows, pathsX paths, .int k] [bcell gb gm tk s, bbuf tk s, .map gm (kmap kstr tab)] (.int (otherF (buildM t ds f) s rows paths k).2) λ tk' => [bcell gb gm tk' (otherF (buildM t ds f) s rows paths k).1, bbuf tk' (otherF (buildM t ds f) s rows paths k).1, .map gm (kmap kstr tab)] := by
 have hrl := h.len
 obtain ⟨hk1, hk2, hk3⟩ := mpre_paths h ha
 unfold VTok
 refine V_start (nt := 17) Tryz.func38 rfl rfl rfl ?_
 refine Zb (Zd (Zc (Zk rfl (Za (Zi (Zb (Zd (Zc (Zl rfl (Zc (Zl rfl (Zc (Zl rfl ?_)))))))))))))
 refine Zc (V_callK 0 [.tmp 10, .tmp 11, .func 63, .const (.int .i64 (0))] rfl rfl VT.en36 rfl (mnarrow_c (caps := []) (is := λ _ => false) VT.en63 (λ p => never_k p _) rows k 0 (mpre_rows h ha) (by omega) (by omega)) ?_)
 refine Zc (Zl rfl (Zc (Zl rfl ?_)))
 refine Zc (Zx1 [.tmp 13, .tmp 14, .const (.int .i64 (0))] rfl rfl VT.en37 (below_c paths k 0 hk1 hk2 hk3 (by omega)) ?_)
 refine Zc (V_callTok [.tmp 9, .tmp 12, .tmp 15] _ _ rfl rfl VT.en14 (.refl _) (ih gb gm tk tab s _ _ _ htab (other_child h ha) hs ho hm hf) (λ t16 => ?_))
 refine Zc (Zk rfl (Za (Zi (Zf1 ?_))))
 refine Zg1 rfl (.tmp rfl) ?_
 exact ⟨t16, rfl, rfl⟩
theorem words_c {t : Tab} {ds : List DataSig} {f : Nat} (hok : TabOk t ds) (ih : BuildC t ds f) (gb gm : Nat) (tk : Tok) (tab : List (Str × V)) (s0 : BSt) (rows : List MRow) (paths : List (List Int)) (τs : List Ty) (k : Nat) (p0 : Pat) (τ : Ty) (htab : ConTab t ds tab) (h : MPre t (f + 1) rows paths τs) (ha : AtHead t rows τs k p0 τ) (hk2 : p0.kind = 2) (hs0 : s0.full = decide (4096 < s0.many)) (ho0 : s0.out.length <= s0.many) (hm0 : s0.many <= 4097 + f * 1100) (hf : f <= 400) : VTok Tryz.prog 32 [.ptr gb 0, mrowsX rows, pathsX paths, .int k] [bcell gb gm tk s0, bbuf tk s0, .map gm (kmap kstr tab)] (.int (wordsF (buildM t ds f) s0 rows paths k).2) λ tk' => [bcell gb gm tk' (wordsF (buildM t ds f) s0 rows paths k).1, bbuf tk' (wordsF (buildM t ds f) s0 rows paths k).1, .map gm (kmap kstr tab)] := by
 have hrl := h.len
 obtain ⟨hk1, hk22, hk3⟩ := mpre_paths h ha
 have hmr := mpre_rows h ha
 obtain ⟨path, hpath⟩ := get_of_lt paths k (by omega)
 have hpg : paths.getD k [] = path := by simp [hpath]
 unfold VTok
 refine VCalls_drops ?_
 refine V_start (nt := 75) Tryz.func32 rfl rfl rfl ?_
 refine Zb (Zd (Zc (Zk rfl (Za (Zi (Zb (Zd (Zc (Zl rfl (Zc (Zl rfl ?_)))))))))))
 refine Zc (Zz (el := intsX path) VT.sl63 rfl rfl (by omega) (get_mapS _ hpath) (λ a16 => ?_))
 refine Zc (Zz1 VT.ty36 rfl rfl ?_)
 refine Zc (Zf2 [0, 2] [.const (.int .i64 (3)), .tmp 17] VT.st70 rfl rfl rfl rfl ?_)
 refine Zc (Zb2 VT.zr70 _ rfl rfl (λ g9 => ?_))
 refine Zc (Zx 0 VT.ty70 rfl rfl rfl rfl rfl (Za (Zi ?_)))
 refine VW_cells 0 (ls' := [.int 3, .int 0, intsX path, .raw (.slice none 0 0), .sl 1 (some .nil) [], .sl 1 (some .nil) []]) rfl ⟨V.le.refl _, rfl, V.le.refl _, rfl, V.le.refl _, rfl, V.le.refl _, rfl, V.le.nilTok 1, rfl, V.le.nilTok 1, rfl, trivial⟩ ?_
 refine VW_nilBuf 3 1 ?_
 refine VW_nilBuf 3 1 ?_
 refine Zb (Zb (Zd (Zc (Zl rfl ?_))))
 refine Zc (Zd2 (n := rows.length) Tryz.underlying62 rfl (by simp) (λ hl20 => ?_))
 refine Zc (Zl rfl (Za (Zi (Zs ?_))))
 refine Zi2 (ι := Nat × Tok × Tok × Tok × BSt × List Int × List Int) (λ (i, tk, tw, tq, s, ws, kids) => rows.length - i) (λ (i, tk, tw, tq, s, ws, kids) => [(0, some (.ptr gb 0)), (1, some (mrowsX rows)), (2, some (pathsX paths)), (3, some (.int k)), (9, some (.ptr g9 0)), (19, some (mrowsX rows)), (20, some (.int rows.length)), (21, some (.int i))]) (λ (i, tk, tw, tq, s, ws, kids) => [.buf tq 3 1 kids.length, .buf tw 3 1 ws.length, tcell g9 3 path (.raw (.slice none 0 0)) (.sl 1 (some tw) (ws.map V.int)) (.sl 1 (some tq) (kids.map V.int)), bcell gb gm tk s, bbuf tk s, .map gm (kmap kstr tab)]) (λ (i, tk, tw, tq, s, ws, kids) => i <= rows.length /\ wordsL (buildM t ds f) rows paths k (rows.drop i) s ws kids = wordsL (buildM t ds f) rows paths k rows s0 [] [] /\ s.full = decide (4096 < s.many) /\ s.out.length <= s.many /\ s.many <= 4097 + f * 1100 + i /\ ws.length <= i /\ kids.length <= i) (0, tk, .nil, .nil, s0, [], []) ⟨Nat.zero_le _, rfl, hs0, ho0, by omega, Nat.le_refl _, Nat.le_refl _⟩ ⟨rfl, rfl, rfl, rfl, rfl, rfl, rfl, rfl, trivial⟩ (Drops.buf rfl (Drops.buf rfl (Dk (Dk (Drops.buf rfl (Dk (Zt2 _))))))) ?_
 rintro ⟨i, tk, tw, tq, s, ws, kids⟩ hA
 change i <= rows.length /\ wordsL (buildM t ds f) rows paths k (rows.drop i) s ws kids = wordsL (buildM t ds f) rows paths k rows s0 [] [] /\ s.full = decide (4096 < s.many) /\ s.out.length <= s.many /\ s.many <= 4097 + f * 1100 + i /\ ws.length <= i /\ kids.length <= i at hA
 obtain ⟨hi, hq, hs, ho, hm, hw, hkl⟩ := hA
 refine Zb (Zd (Zc (Zj1 rfl rfl rfl (Za (Zi (Zb ?_))))))
 refine Zn1 rfl (λ h22 => ?_) (λ h22 => ?_)
 .
  obtain ⟨r, hr⟩ := get_of_lt rows i h22
  have hrm := Yd hr
  obtain ⟨hr1, hr2, hr3⟩ := hmr r hrm
  obtain ⟨p, hpk⟩ := get_of_lt r.2 k (by omega)
  have hpd : r.2.getD k anyP = p := by simp [hpk]
  refine Zi1 (Zi (Zb (Zs (Zb (Zd ?_)))))
  refine Zc (Zz (el := mrowX r) VT.sl62 rfl rfl (by omega) (get_mapS _ hr) (λ a23 => ?_))
  refine Zc (Za2 VT.ty65 rfl rfl ?_)
  refine Zc (Zb2 VT.zr65 _ rfl rfl (λ g11 => ?_))
  refine Zc (Zx 0 VT.ty65 rfl rfl rfl rfl rfl (Za (Zi (Zb (Zd (Zc (Zj VT.fa65_1 rfl (Zc (Zu 0 VT.ty24 rfl rfl rfl (Zc (Zl rfl ?_)))))))))))
  refine Zc (Zz (el := patX p) VT.sl24 rfl rfl (by omega) (get_patS hpk) (λ a28 => ?_))
  refine Zc (Za2 VT.ty75 rfl rfl ?_)
  refine Zc (Zb2 VT.zr75 _ rfl rfl (λ g12 => ?_))
  refine Zc (Zx 0 VT.ty75 rfl rfl rfl rfl rfl (Za (Zi (Zb (Zb (Zd (Zc (Zv 0 VT.ty75 rfl rfl rfl ?_))))))))
  rcases hfr : free p with _ | _
  .
   refine Zc (Zx1 [.tmp 30] rfl rfl VT.en31 (mfree_at hfr) ?_)
   refine Zc (Zl rfl ?_)
   refine Zj2 (q := 32) rfl (λ hq32 => ?_) (λ hq32 => ?_)
   . exact absurd hq32 (by simp)
   refine Zc (Zj VT.fa70_4 rfl ?_) (Zy0 hq32)
   refine Zc (Zu 4 VT.ty36 rfl rfl rfl ?_) (Zy0 hq32)
   refine Zc (Zj VT.fa75_2 rfl ?_) (Zy0 hq32)
   refine Zc (Zu 0 VT.ty3 rfl rfl rfl ?_) (Zy0 hq32)
   refine Zc (Zx1 [.tmp 34, .tmp 36] rfl rfl VT.en58 (intsContains_c ws (some tw) p.n) ?_) (Zy0 hq32)
   refine Zc (Zt1 rfl hq32 rfl ?_)
   refine Za (Zi ?_)
   refine Zr1 rfl (λ h38 => ?_) (λ h38 => ?_)
   .
    have hSkip : i + 1 <= rows.length /\ wordsL (buildM t ds f) rows paths k (rows.drop (i + 1)) s ws kids = wordsL (buildM t ds f) rows paths k rows s0 [] [] /\ s.full = decide (4096 < s.many) /\ s.out.length <= s.many /\ s.many <= 4097 + f * 1100 + (i + 1) /\ ws.length <= i + 1 /\ kids.length <= i + 1 := ⟨by omega, by rw [<- hq, drop_cons hr, wordsL, hpd, hfr, Bool.false_or, if_pos h38], hs, ho, by omega, by omega, by omega⟩
    refine Zt (Ze1 (Zc1 (Zi (Zd ?_))))
    refine Zc (Zh2 rfl rfl (by omega) ?_)
    refine Zc (Zl rfl (Za (Zi ?_)))
    exact ⟨(i + 1, tk, tw, tq, s, ws, kids), (by (try simp only []); omega), (by first | exact hNext | exact hSkip), ⟨rfl, rfl, rfl, rfl, rfl, rfl, rfl, rfl, trivial⟩, (Dd (Dd (Drops.buf (by first | rfl | (simp; done)) (Drops.buf (by first | rfl | (simp; done)) (Drops.keepE (by first | rfl | (simp [tcell]; done)) (Dk (Drops.buf rfl (Dk (Zt2 _)))))))))⟩
   have hKe := wordsL_bound hok h ha hk2 p.n s hs
   have hKo := hKe.out
   have hKl := hKe.loop hm
   have hNext : i + 1 <= rows.length /\ wordsL (buildM t ds f) rows paths k (rows.drop (i + 1)) (buildM t ds f s (narrowM k (isInt p.n) 0 rows) (belowM paths k 0)).1 (ws ++ [p.n]) (kids ++ [((buildM t ds f s (narrowM k (isInt p.n) 0 rows) (belowM paths k 0)).2 : Int)]) = wordsL (buildM t ds f) rows paths k rows s0 [] [] /\ (buildM t ds f s (narrowM k (isInt p.n) 0 rows) (belowM paths k 0)).1.full = decide (4096 < (buildM t ds f s (narrowM k (isInt p.n) 0 rows) (belowM paths k 0)).1.many) /\ (buildM t ds f s (narrowM k (isInt p.n) 0 rows) (belowM paths k 0)).1.out.length <= (buildM t ds f s (narrowM k (isInt p.n) 0 rows) (belowM paths k 0)).1.many /\ (buildM t ds f s (narrowM k (isInt p.n) 0 rows) (belowM paths k 0)).1.many <= 4097 + f * 1100 + (i + 1) /\ (ws ++ [p.n]).length <= i + 1 /\ (kids ++ [((buildM t ds f s (narrowM k (isInt p.n) 0 rows) (belowM paths k 0)).2 : Int)]).length <= i + 1 := ⟨by omega, by rw [<- hq, drop_cons hr, wordsL, hpd, hfr, Bool.false_or, if_neg (by rw [h38]; simp)], hKe.full, by omega, hKl, by simp; omega, by simp; omega⟩
   refine Zi1 (Zi (Zb (Zd (Zc (Zj VT.fa70_4 rfl (Zc (Zu 4 VT.ty36 rfl rfl rfl (Zc (Zj VT.fa75_2 rfl (Zc (Zu 0 VT.ty3 rfl rfl rfl ?_)))))))))))
   refine Zc (Zk3 [.tmp 42] VT.sl36 rfl rfl rfl rfl rfl ?_)
   refine Zc (Zi3 3 _ VT.sl36 rfl rfl rfl (by simp) (by simp; omega) (λ t44 => ?_))
   refine Zc (Zj VT.fa70_4 rfl (Zc (Zy 4 VT.ty36 rfl rfl rfl rfl rfl (Za (Zi (Zb (Zd ?_)))))))
   refine Zc (V_makeFunc [.tmp 12] rfl rfl ?_)
   refine Zc (Zk rfl (Za (Zi ?_)))
   refine VW_drawR (G := Tok) [([], [9], []), ([0], [47], []), ([], [0], []), ([], [1], []), ([], [3], []), ([], [13], []), ([5, 4, 3], [50, 51, 52], []), ([], [2], []), ([], [3], []), ([8, 7, 6, 5, 4, 3], [54, 55], []), ([9, 8, 7, 6, 5, 4, 3, 2], [49, 53, 56], []), ([10, 9, 8, 7, 6, 5, 4, 3, 2], [57], []), (dn 12, [48, 58], [1]), (dn 13, [9], []), (dn 14, [60, 59], [])] [10, 12, 14] (threeSt _ (λ x => [bcell gb gm x (buildM t ds f s (narrowM k (isInt p.n) 0 rows) (belowM paths k 0)).1, bbuf x (buildM t ds f s (narrowM k (isInt p.n) 0 rows) (belowM paths k 0)).1, .map gm (kmap kstr tab), .cells g12 75 [.int p.kind, .str p.name, .int p.n, patsX p.args], .cells g11 65 [.int r.1, patsX r.2], .buf tq 3 1 kids.length, .buf t44 3 1 (ws.map V.int ++ [V.int p.n]).length, tcell g9 3 path (.raw (.slice none 0 0)) (.sl 1 (some t44) (ws.map V.int ++ [V.int p.n])) (.sl 1 (some tq) (kids.map V.int))]) (λ x y => [bcell gb gm x (buildM t ds f s (narrowM k (isInt p.n) 0 rows) (belowM paths k 0)).1, bbuf x (buildM t ds f s (narrowM k (isInt p.n) 0 rows) (belowM paths k 0)).1, .map gm (kmap kstr tab), .cells g12 75 [.int p.kind, .str p.name, .int p.n, patsX p.args], .cells g11 65 [.int r.1, patsX r.2], .buf y 3 1 (kids.map V.int ++ [V.int (buildM t ds f s (narrowM k (isInt p.n) 0 rows) (belowM paths k 0)).2]).length, .buf t44 3 1 (ws.map V.int ++ [V.int p.n]).length, tcell g9 3 path (.raw (.slice none 0 0)) (.sl 1 (some t44) (ws.map V.int ++ [V.int p.n])) (.sl 1 (some tq) (kids.map V.int))]) (λ x y _ => [bcell gb gm x (buildM t ds f s (narrowM k (isInt p.n) 0 rows) (belowM paths k 0)).1, bbuf x (buildM t ds f s (narrowM k (isInt p.n) 0 rows) (belowM paths k 0)).1, .map gm (kmap kstr tab), .cells g12 75 [.int p.kind, .str p.name, .int p.n, patsX p.args], .cells g11 65 [.int r.1, patsX r.2], .buf y 3 1 (kids.map V.int ++ [V.int (buildM t ds f s (narrowM k (isInt p.n) 0 rows) (belowM paths k 0)).2]).length, .buf t44 3 1 (ws.map V.int ++ [V.int p.n]).length, tcell g9 3 path (.raw (.slice none 0 0)) (.sl 1 (some t44) (ws.map V.int ++ [V.int p.n])) (.sl 1 (some y) (kids.map V.int ++ [V.int (buildM t ds f s (narrowM k (isInt p.n) 0 rows) (belowM paths k 0)).2]))])) [] [47, 48, 49, 50, 51, 52, 53, 54, 55, 56, 57, 58, 59, 60] rfl VT.mix ?_
   refine Zp (Zm _) (Zm2 rfl (λ _ => (λ γ => Zf (λ _ h9 => Ze (Zn rfl (Zj VT.fa70_5 h9 z0)))))) ?_
   refine Zp (Zm _) (Zo rfl rfl ⟨(λ γ => Zw 0 0 rfl (λ _ h47 => Ze (Zn rfl (Zu 4 VT.ty36 h47 rfl rfl z0)))), (λ γ => Zw 0 0 rfl (λ _ h47 => Ze (Zn rfl (Zu 7 VT.ty36 h47 rfl rfl z0)))), trivial⟩) ?_
   refine Zp (Zm _) (Zo rfl rfl ⟨(λ γ => Zf (λ _ h0 => Ze (Zn rfl (Zl h0 z0)))), trivial⟩) ?_
   refine Zp (Zm _) (Zo rfl rfl ⟨(λ γ => Zf (λ _ h1 => Ze (Zn rfl (Zl h1 z0)))), trivial⟩) ?_
   refine Zp (Zm _) (Zo rfl rfl ⟨(λ γ => Zf (λ _ h3 => Ze (Zn rfl (Zl h3 z0)))), trivial⟩) ?_
   refine Zp (Zm _) (Zo rfl rfl ⟨(λ γ => Zf (λ _ h13 => Ze (Zn rfl (Zl h13 z0)))), trivial⟩) ?_
   refine Zp (Zm _) (Zo rfl rfl ⟨(λ γ => Zw 3 2 rfl (λ _ h50 => Zw 4 1 rfl (λ _ h51 => Zw 5 0 rfl (λ _ h52 => Ze (Zn rfl (V_callK 0 [.tmp 50, .tmp 51, .tmp 52, .const (.int .i64 (0))] rfl (Zp2 h50 (Zp2 h51 (Zp2 h52 (Zp2 rfl Zq2)))) VT.en36 rfl (mnarrow_c VT.en59 (λ q => isInt_c q p g12) rows k 0 hmr (by omega) (by omega)) z0)))))), trivial⟩) ?_
   refine Zp (Zm _) (Zo rfl rfl ⟨(λ γ => Zf (λ _ h2 => Ze (Zn rfl (Zl h2 z0)))), trivial⟩) ?_
   refine Zp (Zm _) (Zo rfl rfl ⟨(λ γ => Zf (λ _ h3 => Ze (Zn rfl (Zl h3 z0)))), trivial⟩) ?_
   refine Zp (Zm _) (Zo rfl rfl ⟨(λ γ => Zw 7 1 rfl (λ _ h54 => Zw 8 0 rfl (λ _ h55 => Ze (Zn rfl (Zx1 [.tmp 54, .tmp 55, .const (.int .i64 (0))] rfl (Zp2 h54 (Zp2 h55 (Zp2 rfl Zq2))) VT.en37 (below_c paths k 0 hk1 hk22 hk3 (by omega)) z0))))), trivial⟩) ?_
   refine Zp (Zm _) (Zo2 0 rfl (λ γ => Zw 2 7 rfl (λ _ h49 => Zw 6 3 rfl (λ _ h53 => Zw 9 0 rfl (λ _ h56 => Ze (Zn rfl (V_callTok [.tmp 49, .tmp 53, .tmp 56] _ _ rfl (Zp2 h49 (Zp2 h53 (Zp2 h56 Zq2))) VT.en14 ((Zv2 (i := 5) rfl).trans (.cons _ ((Zv2 (i := 5) rfl).trans (.cons _ ((Zv2 (i := 5) rfl).trans (.cons _ (.refl _))))))) (ih gb gm tk tab s _ _ _ htab (word_child (isInt p.n) h ha hk2) hs ho (by omega) (by omega)) (λ t57 => ⟨t57, rfl, rfl⟩)))))))) ?_
   refine Zp (Zm _) (Zo rfl rfl ⟨(λ γ => Zw 10 0 rfl (λ _ h57 => Ze (Zn rfl (Zk3 [.tmp 57] VT.sl36 rfl rfl rfl (Zp2 h57 Zq2) rfl z0)))), trivial⟩) ?_
   refine Zp (Zw2 (λ y => .sl 1 (some y) (kids.map V.int ++ [V.int (buildM t ds f s (narrowM k (isInt p.n) 0 rows) (belowM paths k 0)).2]))) (Zo2 1 rfl (λ γ => Zw 1 10 rfl (λ _ h48 => Zw 11 0 rfl (λ _ h58 => Ze (Zn rfl (Zi3 5 _ VT.sl36 h48 h58 rfl (by simp) (by simp; omega) (λ t59 => ⟨t59, ⟨t59, rfl, rfl⟩, rfl⟩))))))) ?_
   refine Zp (Zm _) (Zo rfl rfl ⟨(λ γ => Zf (λ _ h9 => Ze (Zn rfl (Zj VT.fa70_5 h9 z0)))), trivial⟩) ?_
   refine Zp Za3 (Zo2 2 rfl (λ γ => Zw 13 0 rfl (λ _ h60 => Zw 12 1 rfl (λ _ h59 => Ze (Zx2 h59 (λ e59 => Zn rfl (Zy 7 VT.ty36 h60 e59 rfl rfl rfl ⟨default, trivial, rfl⟩))))))) ?_
   refine DrawP_nil (λ γ => Ze ?_)
   refine Zb1 (Zi (Zd ?_))
   refine Zc (Zh2 rfl rfl (by omega) ?_)
   refine Zc (Zl rfl (Za (Zi ?_)))
   exact ⟨(i + 1, (γ 0), t44, (γ 1), (buildM t ds f s (narrowM k (isInt p.n) 0 rows) (belowM paths k 0)).1, ws ++ [p.n], kids ++ [((buildM t ds f s (narrowM k (isInt p.n) 0 rows) (belowM paths k 0)).2 : Int)]), (by (try simp only []); omega), (by first | exact hNext | exact hSkip), ⟨rfl, rfl, rfl, rfl, rfl, rfl, rfl, rfl, trivial⟩, (Drops.pickBuf 5 rfl (by first | rfl | (simp; done)) (Drops.pickBuf 5 rfl (by first | rfl | (simp; done)) (Drops.pick 5 rfl (by first | rfl | (simp [tcell]; done)) (Drops.pick 0 rfl rfl (Drops.pickBuf 0 rfl rfl (Drops.pick 0 rfl rfl (Drops.nil _)))))))⟩
  have hSkip : i + 1 <= rows.length /\ wordsL (buildM t ds f) rows paths k (rows.drop (i + 1)) s ws kids = wordsL (buildM t ds f) rows paths k rows s0 [] [] /\ s.full = decide (4096 < s.many) /\ s.out.length <= s.many /\ s.many <= 4097 + f * 1100 + (i + 1) /\ ws.length <= i + 1 /\ kids.length <= i + 1 := ⟨by omega, by rw [<- hq, drop_cons hr, wordsL, hpd, hfr, Bool.true_or, if_pos rfl], hs, ho, by omega, by omega, by omega⟩
  refine Zc (Zx1 [.tmp 30] rfl rfl VT.en31 (mfree_at hfr) ?_)
  refine Zc (Zl rfl ?_)
  refine Zj2 (q := 32) rfl (λ hq32 => ?_) (λ hq32 => ?_)
  .
   refine Zk0 hq32 ?_
   refine Zk0 hq32 ?_
   refine Zk0 hq32 ?_
   refine Zk0 hq32 ?_
   refine Zk0 hq32 ?_
   refine Zc (Zs1 rfl hq32 rfl ?_)
   refine Za (Zi ?_)
   refine Zp1 rfl rfl ?_
   refine Zt (Ze1 (Zc1 (Zi (Zd ?_))))
   refine Zc (Zh2 rfl rfl (by omega) ?_)
   refine Zc (Zl rfl (Za (Zi ?_)))
   exact ⟨(i + 1, tk, tw, tq, s, ws, kids), (by (try simp only []); omega), (by first | exact hNext | exact hSkip), ⟨rfl, rfl, rfl, rfl, rfl, rfl, rfl, rfl, trivial⟩, (Dd (Dd (Drops.buf (by first | rfl | (simp; done)) (Drops.buf (by first | rfl | (simp; done)) (Drops.keepE (by first | rfl | (simp [tcell]; done)) (Dk (Drops.buf rfl (Dk (Zt2 _)))))))))⟩
  exact absurd hq32 (by simp)
 have hie : i = rows.length := by omega
 subst hie
 rw [List.drop_length, wordsL] at hq
 refine Zt (Ze1 (Ze1 (Zc1 (Zi (Zb ?_)))))
 refine VW_drawR (G := Tok) [([], [9], []), ([0], [62], []), ([], [0], []), ([], [1], []), ([], [2], []), ([], [3], []), ([5, 4, 3, 2], [64, 65, 66, 67], []), ([6, 5, 4, 3, 2], [68], []), (dn 8, [63, 69], [1]), (dn 9, [9], []), (dn 10, [71, 70], [])] [6, 8, 10] (threeSt _ (λ x => [bcell gb gm x (otherF (buildM t ds f) s rows paths k).1, bbuf x (otherF (buildM t ds f) s rows paths k).1, .map gm (kmap kstr tab), .buf tq 3 1 kids.length, .buf tw 3 1 ws.length, tcell g9 3 path (.raw (.slice none 0 0)) (.sl 1 (some tw) (ws.map V.int)) (.sl 1 (some tq) (kids.map V.int))]) (λ x y => [bcell gb gm x (otherF (buildM t ds f) s rows paths k).1, bbuf x (otherF (buildM t ds f) s rows paths k).1, .map gm (kmap kstr tab), .buf y 3 1 (kids.map V.int ++ [V.int (otherF (buildM t ds f) s rows paths k).2]).length, .buf tw 3 1 ws.length, tcell g9 3 path (.raw (.slice none 0 0)) (.sl 1 (some tw) (ws.map V.int)) (.sl 1 (some tq) (kids.map V.int))]) (λ x y _ => [bcell gb gm x (otherF (buildM t ds f) s rows paths k).1, bbuf x (otherF (buildM t ds f) s rows paths k).1, .map gm (kmap kstr tab), .buf y 3 1 (kids.map V.int ++ [V.int (otherF (buildM t ds f) s rows paths k).2]).length, .buf tw 3 1 ws.length, tcell g9 3 path (.raw (.slice none 0 0)) (.sl 1 (some tw) (ws.map V.int)) (.sl 1 (some y) (kids.map V.int ++ [V.int (otherF (buildM t ds f) s rows paths k).2]))])) [] [62, 63, 64, 65, 66, 67, 68, 69, 70, 71] rfl VT.mix ?_
 refine Zp (Zm _) (Zm2 rfl (λ _ => (λ γ => Zf (λ _ h9 => Ze (Zn rfl (Zj VT.fa70_5 h9 z0)))))) ?_
 refine Zp (Zm _) (Zo rfl rfl ⟨(λ γ => Zw 0 0 rfl (λ _ h62 => Ze (Zn rfl (Zu 2 VT.ty36 h62 rfl rfl z0)))), (λ γ => Zw 0 0 rfl (λ _ h62 => Ze (Zn rfl (Zu 5 VT.ty36 h62 rfl rfl z0)))), trivial⟩) ?_
 refine Zp (Zm _) (Zo rfl rfl ⟨(λ γ => Zf (λ _ h0 => Ze (Zn rfl (Zl h0 z0)))), trivial⟩) ?_
 refine Zp (Zm _) (Zo rfl rfl ⟨(λ γ => Zf (λ _ h1 => Ze (Zn rfl (Zl h1 z0)))), trivial⟩) ?_
 refine Zp (Zm _) (Zo rfl rfl ⟨(λ γ => Zf (λ _ h2 => Ze (Zn rfl (Zl h2 z0)))), trivial⟩) ?_
 refine Zp (Zm _) (Zo rfl rfl ⟨(λ γ => Zf (λ _ h3 => Ze (Zn rfl (Zl h3 z0)))), trivial⟩) ?_
 refine Zp (Zm _) (Zo2 0 rfl (λ γ => Zw 2 3 rfl (λ _ h64 => Zw 3 2 rfl (λ _ h65 => Zw 4 1 rfl (λ _ h66 => Zw 5 0 rfl (λ _ h67 => Ze (Zn rfl (V_callTok [.tmp 64, .tmp 65, .tmp 66, .tmp 67] _ _ rfl (Zp2 h64 (Zp2 h65 (Zp2 h66 (Zp2 h67 Zq2)))) VT.en38 ((Zv2 (i := 3) rfl).trans (.cons _ ((Zv2 (i := 3) rfl).trans (.cons _ ((Zv2 (i := 3) rfl).trans (.cons _ (.refl _))))))) (other_c ih gb gm tk tab s rows paths τs k p0 τ htab h ha hs ho (by omega) (by omega)) (λ t68 => ⟨t68, rfl, rfl⟩))))))))) ?_
 refine Zp (Zm _) (Zo rfl rfl ⟨(λ γ => Zw 6 0 rfl (λ _ h68 => Ze (Zn rfl (Zk3 [.tmp 68] VT.sl36 rfl rfl rfl (Zp2 h68 Zq2) rfl z0)))), trivial⟩) ?_
 refine Zp (Zw2 (λ y => .sl 1 (some y) (kids.map V.int ++ [V.int (otherF (buildM t ds f) s rows paths k).2]))) (Zo2 1 rfl (λ γ => Zw 1 6 rfl (λ _ h63 => Zw 7 0 rfl (λ _ h69 => Ze (Zn rfl (Zi3 3 _ VT.sl36 h63 h69 rfl (by simp) (by simp; omega) (λ t70 => ⟨t70, ⟨t70, rfl, rfl⟩, rfl⟩))))))) ?_
 refine Zp (Zm _) (Zo rfl rfl ⟨(λ γ => Zf (λ _ h9 => Ze (Zn rfl (Zj VT.fa70_5 h9 z0)))), trivial⟩) ?_
 refine Zp Za3 (Zo2 2 rfl (λ γ => Zw 9 0 rfl (λ _ h71 => Zw 8 1 rfl (λ _ h70 => Ze (Zx2 h70 (λ e70 => Zn rfl (Zy 5 VT.ty36 h71 e70 rfl rfl rfl ⟨default, trivial, rfl⟩))))))) ?_
 refine DrawP_nil (λ γ => Ze ?_)
 refine Zi ?_
 have hKe := buildM_keeps hok f s _ _ _ (other_child h ha) hs
 have hKo := hKe.out
 have hKl := hKe.loop hm
 have hwf : wordsF (buildM t ds f) s0 rows paths k = addF (otherF (buildM t ds f) s rows paths k).1 ⟨3, 0, path, [], ws, kids ++ [((otherF (buildM t ds f) s rows paths k).2 : Int)]⟩ := by unfold wordsF; simp only [<- hq, hpg]
 have hol : (otherF (buildM t ds f) s rows paths k).1.out.length <= 1000000 := by unfold otherF; omega
 refine Zb (Zd (Zc (Zl rfl ?_)))
 refine Zc (Zu2 (Zv 5 VT.ty70 rfl rfl rfl ⟨rfl, rfl⟩) (V.le.agg (ys := [.int 3, .int 0, intsX path, strsX [], intsX ws, intsX (kids ++ [((otherF (buildM t ds f) s rows paths k).2 : Int)])]) ⟨V.le.refl _, rfl, V.le.refl _, rfl, V.le.refl _, rfl, V.le.nil 1, rfl, V.le.strip, rfl, (by simp only [intsX, Ya]; exact V.le.strip), rfl, trivial⟩) ?_)
 refine Zc (V_callTok [.tmp 72, .tmp 73] _ _ rfl rfl VT.en28 (.refl _) (add_c gb gm (γ 0) (otherF (buildM t ds f) s rows paths k).1 ⟨3, 0, path, [], ws, kids ++ [((otherF (buildM t ds f) s rows paths k).2 : Int)]⟩ hol) (λ t74 => ?_))
 refine Zc (Zk rfl (Za (Zi (Zf1 ?_))))
 refine Zg1 rfl (.tmp rfl) ?_
 rw [hwf]
 exact ⟨_, Dk (Dk (Dk (Drops.nil _))), t74, rfl, rfl⟩
end Go.Proofs.YtpkbgamoboojaaaGreat.W17
