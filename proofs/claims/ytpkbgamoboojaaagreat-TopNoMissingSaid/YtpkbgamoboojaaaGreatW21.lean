import Derived.Test.YtpkbgamoboojaaaGreatWC
import Derived.Test.YtpkbgamoboojaaaGreatW20
open Go.VL.Drops renaming keep → Dk
set_option linter.all false
open List renaming range → Ya, length_take → Yb, getElem?_eq_some_iff → Yc
namespace Go.Proofs.YtpkbgamoboojaaaGreat.W21
open Go.VL Go.PM Go.Proofs.YtpkbgamoboojaaaGreat W1 W2 W9 W10 W16 W17 W19 W20
def outN (r : List MNode × Int) : V := .tup [nodesX r.1, .int r.2]
def pathsTo (rows : List (List Pat)) (k : Nat) : List (List Int) := if k = 0 then [] else pathsOf rows
theorem pathsTo_end {rows : List (List Pat)} {k : Nat} (h : k = rows.length) : pathsTo rows k = pathsOf rows := by
 unfold pathsTo
 by_cases hk : k = 0
 .rw [if_pos hk]
  have : rows = [] := List.eq_nil_of_length_eq_zero (by omega)
  rw [this]
  rfl
 rw [if_neg hk]
theorem node_path {l : List MNode} {k : Nat} {nd : MNode} {rest : List V} (h : l[k]? = some nd) : ((l.map nodeX).flatMap V.leaves ++ rest)[0 + (k : Int).toNat * 6 + 2]? = some (intsX nd.path) := by
 have hfit : ∀ x ∈ l.map nodeX, x.leaves.length = 6 := λ x hx => by
  obtain ⟨n, _, rfl⟩ := List.mem_map.1 hx
  rfl
 have e := flat_drop (rest := rest) hfit (get_mapS nodeX h)
 rw [Int.toNat_natCast, Nat.zero_add]
 have e2 : ((((l.map nodeX).flatMap V.leaves ++ rest).drop (k * 6)).take 6)[2]? = some (intsX nd.path) := by rw [e]; rfl
 rw [List.getElem?_take_of_lt (by omega), List.getElem?_drop] at e2
 exact e2
theorem set_same {α : Type} {l : List α} {k : Nat} {x : α} (h : l[k]? = some x) : l.set k x = l := by
 obtain ⟨hlt, rfl⟩ := Yc.1 h
 exact List.set_getElem_self hlt
theorem ble_of_get {α : Type} {l : List α} {k : Nat} {x : α} (h : l[k]? = some x) : Nat.ble (k + 1) l.length = true := Nat.ble_eq_true_of_le (Yc.1 h).1
theorem nodes_fits (l : List MNode) : ∀ y ∈ l.map nodeX, y.fits 6 = true /\ ((∃ ls, y = .agg ls) \/ y.leaf = true) := λ y hy => by
 obtain ⟨n, _, rfl⟩ := List.mem_map.1 hy
 exact ⟨rfl, .inl ⟨_, rfl⟩⟩
set_option maxRecDepth 100000 in
set_option maxHeartbeats 8000000 in
theorem compile_c (ds : List DataSig) (hz : Sized ds) (rows : List (List Pat)) : VPure Tryz.prog 6 [datasX ds, rowsX rows] (outN (compOut ds rows)) := by
 refine V_start (nt := 92) Tryz.func6 rfl rfl rfl ?_
 refine Zb (Zd (Zc (Zk rfl (Zc (Zk rfl (Za (Zi (Zb (Zb (Zd (Zc (Zl rfl (Zc (Zl rfl ?_))))))))))))))
 refine Zc (Zx1 [.tmp 18, .tmp 19] rfl rfl VT.en12 (Check_c ds rows) ?_)
 refine Zc (Zk rfl (Za (Zi (Zb (Zd (Zc (Zl rfl (Zc (Zj1 rfl rfl rfl (Za (Zi ?_)))))))))))
 refine Zm1 rfl (λ h22 => ?_) (λ h22 => ?_)
 .
  have ho : compOut ds rows = ([], checkF ds rows) := by unfold compOut; rw [if_pos h22]
  refine Zb (Zd (Zc (Zl rfl ?_)))
  refine Zc (Zu2 (Zk rfl ⟨rfl, rfl⟩) (V.le.nil 6) ?_)
  refine Zc (Zk rfl (Za (Zi (Zf1 ?_))))
  refine Zd1 (Zh1 rfl rfl (.cons (.strip rfl) (.cons (.tmp rfl) (.nil))) ?_)
  rw [ho]
  rfl
 have hck : checkF ds rows = 0 := h22
 obtain ⟨t, hb⟩ := check_build hck
 obtain ⟨hsm, hsame, _, _⟩ := check_parts hck hb
 have hrows := hsm.rows
 have hok := tabOk_of hb hsm hz
 obtain ⟨τs, hτ, hT⟩ := typed_of hck hb (nbad_any hck)
 have hpre := comp_pre hck hb hτ hT
 have ho : compOut ds rows = if (compF t ds rows).1.full = true then ([], 2) else ((compF t ds rows).1.out.take ((compF t ds rows).2 + 1), 0) := by unfold compOut; rw [if_neg (by simpa using hck), hb]
 refine Zi1 (Zi (Zb (Zd (Zc (Zl rfl ?_)))))
 refine Zc (Zm3 [.tmp 25] [] _ rfl rfl VT.en13 (.refl _) (mindex_c ds t hb) ?_)
 rintro r Sa ⟨g0, tab, base, rfl, rfl, htr⟩
 have htab := htr.con
 refine Zc (Zl rfl (Zc (Zg2 rfl rfl (Zc (Zg2 rfl rfl (Zc (Zk rfl (Zc (Zk rfl (Za (Zi (Zb (Zd (Zc (Zl rfl ?_)))))))))))))))
 refine Zc (Zf2 [0] [.tmp 29] VT.st61 rfl rfl rfl rfl ?_)
 refine Zc (Zc2 rfl rfl (λ g31 => ?_))
 refine Zc (Zk rfl (Za (Zi (Zb (Zd (Zc (V_assign_nil 65 2 (Za (Zi (Zb (Zd (Zc (V_assign_nil 36 1 (Za (Zi (Zb (Zb (Zd (Zc (Zl rfl ?_))))))))))))))))))))
 refine Zc (Zd2 (n := rows.length) Tryz.underlying23 rfl (by simp) (λ hl33 => ?_))
 refine Zc (Zl rfl (Za (Zi (Zs ?_))))
 refine Zi2 (ι := Nat × Tok × Tok) (λ (k, tl, tp) => rows.length - k) (λ (k, tl, tp) => [(9, some (.ptr g31 0)), (10, some (.sl 2 (some tl) ((enumR 0 (rows.take k)).map mrowX))), (11, some (.sl 1 (some tp) ((pathsTo rows k).map intsX))), (32, some (rowsX rows)), (33, some (.int rows.length)), (34, some (.int k))]) (λ (k, tl, tp) => [.cells g31 61 [.raw (.map (some g0)), .raw (.slice none 0 0), .int 0, .bool false], .buf tp 36 1 (pathsTo rows k).length, .buf tl 65 2 (enumR 0 (rows.take k)).length, .map g0 (kmap kstr tab)]) (λ (k, tl, tp) => k <= rows.length) (0, .nil, .nil) (by simp) ⟨rfl, rfl, rfl, rfl, rfl, rfl, trivial⟩ (Drops.pick 2 rfl rfl (Drops.pickBuf 0 rfl rfl (Drops.pickBuf 0 rfl rfl (Drops.pick 0 rfl rfl (Drops.nil _))))) ?_
 rintro ⟨k, tl, tp⟩ hk
 change k <= rows.length at hk
 refine Zb (Zd (Zc (Zj1 rfl rfl rfl (Za (Zi (Zb ?_))))))
 refine Zn1 rfl (λ h35 => ?_) (λ h35 => ?_)
 .
  obtain ⟨r, hr⟩ := get_of_lt rows k h35
  have hsn : enumR 0 (rows.take (k + 1)) = enumR 0 (rows.take k) ++ [(k, r)] := by rw [take_snoc hr, enumR_snoc, Yb, show 0 + min k rows.length = k by omega]
  have hel : (enumR 0 (rows.take k)).length <= 64 := by rw [enumR_len, Yb]; omega
  have hr16 := hsm.cols r (List.mem_of_getElem? hr)
  refine Zi1 (Zi (Zb (Zs (Zb (Zd (Zc (Zl rfl ?_)))))))
  refine Zc (Zz (el := patsX r) VT.sl23 rfl rfl (by omega) (get_mapS _ hr) (λ a37 => ?_))
  refine Zc (Zz1 VT.ty24 rfl rfl (Zc (Zk rfl (Zc (Zk rfl (Za (Zi (Zb (Zd (Zc (Zl rfl (Zc (Zl rfl (Zc (Zl rfl ?_)))))))))))))))
  refine Zc (Zf2 [0, 1] [.tmp 40, .tmp 41] VT.st65 rfl rfl rfl rfl ?_)
  refine Zc (Zk3 [.tmp 42] VT.sl62 rfl rfl rfl rfl rfl ?_)
  refine Zc (Zi3 2 _ VT.sl62 rfl rfl rfl (by simp) (by simp; omega) (λ t44 => ?_))
  refine Zc (Zk rfl (Za (Zi (Zb (Zd (Zc (Zl rfl (Zc (Zj1 rfl rfl rfl (Za (Zi ?_)))))))))))
  refine Zl1 rfl (λ h46 => ?_) (λ h46 => ?_)
  .
   have hk0 : k = 0 := by omega
   have hwr : width rows = r.length := by subst hk0; cases rows with | nil => simp at hr | cons a b => simp at hr; rw [<- hr]; rfl
   refine Zb (Zd (Zc (Zl rfl ?_)))
   refine Zc (Zd2 (n := r.length) Tryz.underlying24 rfl (by simp) (λ hl48 => ?_))
   refine Zc (Zl rfl (Za (Zi (Zs ?_))))
   refine Zi2 (ι := Nat × Tok) (λ (n, tq) => r.length - n) (λ (n, tq) => [(9, some (.ptr g31 0)), (10, some (.sl 2 (some t44) ((enumR 0 (rows.take k)).map mrowX ++ [mrowX (k, r)]))), (11, some (.sl 1 (some tq) (((Ya n).map λ m : Nat => [(m : Int)]).map intsX))), (32, some (rowsX rows)), (33, some (.int rows.length)), (34, some (.int k)), (48, some (.int r.length)), (49, some (.int n))]) (λ (n, tq) => [.cells g31 61 [.raw (.map (some g0)), .raw (.slice none 0 0), .int 0, .bool false], .buf tq 36 1 ((Ya n).map λ m : Nat => [(m : Int)]).length, .buf t44 65 2 ((enumR 0 (rows.take k)).map mrowX ++ [mrowX (k, r)]).length, .map g0 (kmap kstr tab)]) (λ (n, tq) => n <= r.length) (0, tp) (by simp) ⟨rfl, rfl, (by show some (V.sl 1 (some tp) ((pathsTo rows k).map intsX)) = _; rw [hk0]; rfl), rfl, rfl, rfl, rfl, rfl, trivial⟩ (Dk (Drops.buf (by rw [hk0]; rfl) (Drops.buf rfl (Dk (Zt2 _))))) ?_
   rintro ⟨n, tq⟩ hn
   change n <= r.length at hn
   refine Zb (Zd (Zc (Zj1 rfl rfl rfl (Za (Zi (Zb ?_))))))
   refine Zn1 rfl (λ h50 => ?_) (λ h50 => ?_)
   .
    have hrs : ((Ya (n + 1)).map λ m : Nat => [(m : Int)]).map intsX = ((Ya n).map λ m : Nat => [(m : Int)]).map intsX ++ [intsX [(n : Int)]] := by rw [List.range_succ]; simp
    refine Zi1 (Zi (Zb (Zs (Zb (Zd (Zc (Zl rfl (Zc (Zk rfl (Za (Zi (Zd (Zc (Zl rfl (Zc (Zl rfl ?_))))))))))))))))
    refine Zc (Zk3 [.tmp 53] VT.sl36 rfl rfl rfl rfl rfl ?_)
    refine Zc (Zk3 [.tmp 54] VT.sl63 rfl rfl rfl rfl rfl ?_)
    refine Zc (Zi3 1 _ VT.sl63 rfl rfl rfl (by simp) (by simp; omega) (λ t56 => ?_))
    refine Zc (Zk rfl (Za (Zb1 (Zi (Zd ?_)))))
    refine Zc (Zh2 rfl rfl (by omega) ?_)
    refine Zc (Zl rfl (Za (Zi ?_)))
    exact ⟨(n + 1, t56), (by (try simp only []); omega), (by omega), ⟨rfl, rfl, (by rw [hrs]; rfl), rfl, rfl, rfl, rfl, rfl, trivial⟩, (Dk (Drops.buf (by simp) (Drops.buf rfl (Dk (Zt2 _)))))⟩
   have hnr : n = r.length := by omega
   have hpk : pathsTo rows (k + 1) = (Ya n).map λ m : Nat => [(m : Int)] := by unfold pathsTo pathsOf; rw [if_neg (by omega), hwr, hnr]
   refine Zt (Ze1 (Ze1 (Zc1 (Zb1 (Zi (Zd ?_))))))
   refine Zc (Zh2 rfl rfl (by omega) ?_)
   refine Zc (Zl rfl (Za (Zi ?_)))
   exact ⟨(k + 1, t44, tq), (by (try simp only []); omega), (by omega), ⟨rfl, (by rw [hsn, List.map_append]; rfl), (by rw [hpk]; rfl), rfl, rfl, rfl, trivial⟩, (Dk (Drops.buf (by first | (rw [hpk]; done) | (rw [hpk]; simp; done)) (Drops.buf (by rw [hsn]; simp) (Dk (Zt2 _)))))⟩
  have hpk : pathsTo rows (k + 1) = pathsTo rows k := by unfold pathsTo; rw [if_neg (by omega), if_neg (by omega)]
  refine Zi1 (Zb1 (Zi (Zd ?_)))
  refine Zc (Zh2 rfl rfl (by omega) ?_)
  refine Zc (Zl rfl (Za (Zi ?_)))
  exact ⟨(k + 1, t44, tp), (by (try simp only []); omega), (by omega), ⟨rfl, (by rw [hsn, List.map_append]; rfl), (by rw [hpk]; rfl), rfl, rfl, rfl, trivial⟩, (Dk (Drops.buf (by first | (rw [hpk]; done) | (rw [hpk]; simp; done)) (Drops.buf (by rw [hsn]; simp) (Dk (Zt2 _)))))⟩
 have hke : k = rows.length := by omega
 have hpt := pathsTo_end hke
 have hps : pathsTo rows k = pathsOf rows := hpt
 refine Zt (Ze1 (Ze1 (Zc1 (Zi ?_))))
 refine VW_cells 0 (ls' := [.raw (.map (some g0)), .sl 6 (some .nil) [], .int 0, .bool false]) rfl ⟨V.le.refl _, rfl, V.le.nilTok 6, rfl, V.le.refl _, rfl, V.le.refl _, rfl, trivial⟩ ?_
 refine VW_nilBuf 70 6 ?_
 refine Zb (Zd (Zc (Zl rfl ?_)))
 refine Zc (Zu2 (Zl rfl ⟨rfl, rfl⟩) ((by rw [take_end h35]; exact V.le.strip : V.le (.sl 2 (some tl) ((enumR 0 (rows.take k)).map mrowX)) (mrowsX (enumR 0 rows)))) ?_)
 refine Zc (Zu2 (Zl rfl ⟨rfl, rfl⟩) ((by rw [hps]; exact V.le.strip : V.le (.sl 1 (some tp) ((pathsTo rows k).map intsX)) (pathsX (pathsOf rows)))) ?_)
 refine Zc (V_callTok [.tmp 59, .tmp 60, .tmp 61] _ _ rfl rfl VT.en14 ((Zv2 (i := 1) rfl).trans (.cons _ ((Zv2 (i := 0) rfl).trans (.cons _ ((Zv2 (i := 2) rfl).trans (.cons _ (.refl _))))))) (build_c hok 401 (Nat.le_refl _) g31 g0 .nil tab ⟨[], 0, false⟩ (enumR 0 rows) (pathsOf rows) τs htab hpre rfl (Nat.le_refl _) (Nat.zero_le _) (Nat.le_refl _)) (λ t62 => ?_))
 refine Zc (Zk rfl (Za (Zi ?_)))
 have hph := buildM_path hok 401 ⟨[], 0, false⟩ _ _ _ hpre
 have hke2 := buildM_keeps hok 401 ⟨[], 0, false⟩ _ _ _ hpre rfl
 have hdp := (buildM_depth hok 401 ⟨[], 0, false⟩ _ _ _ hpre).2.1
 change (compF t ds rows).2 < (compF t ds rows).1.out.length at hdp
 have hol : (compF t ds rows).1.out.length <= 1000000 := by have h1 := hke2.out; have h2 := hke2.slow rfl; change (compF t ds rows).1.out.length + 0 <= (compF t ds rows).1.many + 0 at h1; change (compF t ds rows).1.many <= _ at h2; omega
 have hib : (buildM t ds 401 ⟨[], 0, false⟩ (enumR 0 rows) (pathsOf rows)).2 <= 1000000 := by change (compF t ds rows).2 <= _; omega
 refine Zb (Zb (Zd (Zc (Zl rfl (Zc (Zv1 rfl (Zc (Zj VT.fa61_3 rfl (Zc (Zu 0 VT.ty4 rfl rfl rfl (Za (Zi ?_))))))))))))
 refine Zr1 rfl (λ h66 => ?_) (λ h66 => ?_)
 .
  have h66b : (compF t ds rows).1.full = true := h66
  have ho2 : compOut ds rows = ([], 2) := by rw [ho, if_pos h66b]
  refine Zb (Zd ?_)
  refine Zc (Zu2 (Zk rfl ⟨rfl, rfl⟩) (V.le.nil 6) ?_)
  refine Zc (Zk rfl (Za (Zi (Zf1 ?_))))
  refine Zd1 (Zh1 rfl rfl (.cons (.strip rfl) (.cons (.tmp rfl) (.nil))) ?_)
  rw [ho2]
  rfl
 have ho2 : compOut ds rows = ((compF t ds rows).1.out.take ((compF t ds rows).2 + 1), 0) := by rw [ho, if_neg (by rw [show (compF t ds rows).1.full = false from h66]; simp)]
 have hll : ((compF t ds rows).1.out.take ((compF t ds rows).2 + 1)).length = (compF t ds rows).2 + 1 := by rw [Yb]; omega
 have hcl := nodeCloneRow_c ((compF t ds rows).1.out.take ((compF t ds rows).2 + 1)) (λ e => by rw [e] at hll; cases hll) (by omega)
 generalize hle : (compF t ds rows).1.out.take ((compF t ds rows).2 + 1) = l at ho2 hll hcl
 refine Zi1 (Zi (Zb (Zd (Zc (Zl rfl (Zc (Zv1 rfl (Zc (Zj VT.fa61_1 rfl (Zc (Zu 0 VT.ty26 rfl rfl rfl (Zc (Zl rfl ?_)))))))))))))
 refine Zc (Zh2 rfl rfl (by omega) ?_)
 refine Zc (Zu2 (V_sliceTo VT.sl26 rfl rfl (by omega) (by simp only [List.length_map]; change ((compF t ds rows).2 : Int) + 1 <= ((compF t ds rows).1.out.length : Int); omega) ⟨rfl, rfl⟩) (V.le.of_eq (v' := .sl 6 none (l.map nodeX)) (by rw [<- hle, List.map_take]; rfl)) ?_)
 refine Zc (Zm3 [.tmp 73] [] _ rfl rfl VT.en15 (.refl _) hcl ?_)
 rintro r Sa ⟨g74, cap74, rest74, hc74, hm74, rfl, rfl⟩
 refine Zc (Zk rfl (Za (Zi (Zb (Zb (Zd (Zc (Zl rfl ?_))))))))
 refine Zc (V_len_raw Tryz.underlying26 rfl ?_)
 refine Zc (Zl rfl (Za (Zi (Zs ?_))))
 refine Zi2 (ι := Nat) (λ j => l.length - j) (λ j => [(16, some (.raw (.slice (some ⟨g74, 0, none⟩) l.length cap74))), (76, some (.int l.length)), (77, some (.int j))]) (λ j => [.cells g74 70 ((l.map nodeX).flatMap V.leaves ++ rest74)]) (λ j => j <= l.length) 0 (Nat.zero_le _) ⟨rfl, rfl, rfl, trivial⟩ (Dk (Drops.drop (Drops.drop (Drops.drop (Drops.drop (Drops.drop (Zt2 _))))))) ?_
 rintro j hj
 change j <= l.length at hj
 refine Zb (Zd (Zc (Zj1 rfl rfl rfl (Za (Zi (Zb ?_))))))
 refine Zn1 rfl (λ h78 => ?_) (λ h78 => ?_)
 .
  obtain ⟨nd, hn⟩ := get_of_lt l j h78
  have hm : nd ∈ (compF t ds rows).1.out := by have h1 := List.mem_of_getElem? hn; rw [<- hle] at h1; exact List.mem_of_mem_take h1
  have hpl : nd.path.length <= 1000000 := by have h2 : nd.path.length <= 1000 := (hph nd hm).resolve_left (λ h => by cases h); omega
  refine Zi1 (Zi (Zb (Zs (Zb (Zd (Zc (Zl rfl (Zc (Zk rfl (Za (Zi (Zd (Zc (Zl rfl (Zc (Zl rfl (Zc (Zl rfl (Zc (Zl rfl ?_))))))))))))))))))))
  refine Zc (Zr2 VT.sl26 rfl rfl (by omega) (by omega) ?_)
  refine Zc (Zj VT.fa70_2 rfl ?_)
  refine Zc (Zu 0 VT.ty36 rfl rfl (node_path hn) ?_)
  refine Zc (Zx1 [.tmp 86] rfl rfl VT.en16 (intsClone_c nd.path hpl) ?_)
  refine Zc (Zr2 VT.sl26 rfl rfl (by omega) (by omega) ?_)
  refine Zc (Zj VT.fa70_2 rfl ?_)
  refine Zc (Zy 0 VT.ty36 rfl rfl rfl rfl (ble_of_get (node_path hn)) ?_)
  refine Za (Zb1 (Zi (Zd ?_)))
  refine Zc (Zh2 rfl rfl (by omega) ?_)
  refine Zc (Zl rfl (Za (Zi ?_)))
  exact ⟨j + 1, (by (try simp only []); omega), (by omega), ⟨rfl, rfl, rfl, trivial⟩, (Drops.keepE (congrArg (Own.cells _ _) (set_same (node_path hn))) (Zt2 _))⟩
 refine Zt (Ze1 (Ze1 (Zc1 (Zi ?_))))
 refine VW_freeze 0 (q := 16) (rest := rest74) (l.map nodeX) rfl rfl rfl (by simp) hc74 hm74 (nodes_fits _) ?_
 refine Zb (Zd (Zc (Zl rfl (Zc (Zk rfl (Zc (Zk rfl (Za (Zi (Zf1 ?_))))))))))
 refine Zh1 rfl rfl (.cons (.strip rfl) (.cons (.tmp rfl) (.nil))) ?_
 rw [ho2]
 rfl
end Go.Proofs.YtpkbgamoboojaaaGreat.W21
