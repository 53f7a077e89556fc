import Derived.Test.YtpkbgamoboojaaaGreatX4
set_option maxRecDepth 100000
set_option maxHeartbeats 4000000
open Go.VL.Drops renaming keep → Dk, drop → Dd
set_option linter.all false
open List renaming take_of_length_le → Ya, append_nil → Yb, length_map → Yc, exists_cons_of_ne_nil → Yd
open Nat renaming le_refl → Ye, mul_one → Yf, zero_le → Yg
namespace Go.Proofs.YtpkbgamoboojaaaGreat.X5
open Go.VL Go.SM Go.Proofs.YtpkbgamoboojaaaGreat X1 X2 X3 X4
abbrev mcells (g : Nat) (u : SUnit) (stk ov : V) (M : Mach) : Own := .cells g 121 [funcsX u.fns, .int u.main, stk, .int M.left, .bool M.short, .bool M.over, ov, .int M.fin, .int M.value]
abbrev fcell (g gv : Nat) (f : MFrame) : Own := .cells g 156 [.int f.fn, .int f.block, .int f.at_, .int f.to, .raw (.map (some gv))]
def encV (ρ : Nat -> Nat) (m : Vals) : List (Int × V) := m.map λ e => (e.1, valX ρ e.2)
abbrev fmap (ρ : Nat -> Nat) (gv : Nat) (m : Vals) : Own := .map gv (kmap kint (encV ρ m))
abbrev stkV (gs n cap : Nat) : V := .raw (.slice (some ⟨gs, 0, none⟩) n cap)
abbrev srow (gs : Nat) (ls : List V) : Own := .cells gs 153 ls
def rowV (ρ : Nat -> Nat) (l : List Val) : List V := (l.map (valX ρ)).flatMap V.leaves
theorem valV_eqX (ρ : Nat -> Nat) : valV ρ = valX ρ := funext (valV_eq ρ)
theorem valsX_eq (ρ : Nat -> Nat) (l : List Val) : valsX ρ l = .sl 4 none (l.map (valX ρ)) := by rw [valsX, valV_eqX]
theorem arrV_leaf (ρ : Nat -> Nat) (a : Option Nat) : (arrV ρ a).leaf = true := by cases a <;> rfl
theorem valX_fit (ρ : Nat -> Nat) (v : Val) : (valX ρ v).fits 4 = true := by cases v with | mk k n l a => cases a <;> rfl
theorem valX_zero (ρ : Nat -> Nat) : ∀ m, Rep m (.agg VT.zs159) (.agg #[.int .i64 0, .int .i64 0, .slice none 0 0, .pointer none]) := λ m => ⟨rfl, _, rfl, by simp [Go.VL.RepL, VT.zs159, Rep]⟩
theorem zero_rep (ρ : Nat -> Nat) : ∀ m, Rep m (valX ρ Val.zero) (.agg #[.int .i64 0, .int .i64 0, .slice none 0 0, .pointer none]) := λ m => le_val ρ 0 0 m _ (valX_zero ρ m)
theorem valX_flat (ρ : Nat -> Nat) (v : Val) : (valX ρ v).flat = true := by cases v with | mk k n l a => cases a <;> rfl
theorem rowV_nil (ρ : Nat -> Nat) (l : List Val) : rowV ρ l = (l.map (valX ρ)).flatMap V.leaves ++ [] := (Yb _).symm
theorem vals_fit (ρ : Nat -> Nat) (l : List Val) : ∀ x ∈ l.map (valX ρ), x.leaves.length = 4 := λ x hx => by
  obtain ⟨s, _, rfl⟩ := List.mem_map.1 hx
  rfl
theorem vals_fits (ρ : Nat -> Nat) (l : List Val) : ∀ x ∈ l.map (valX ρ), x.fits 4 = true /\ ((∃ ls, x = .agg ls) \/ x.leaf = true) := λ x hx => by
  obtain ⟨s, _, rfl⟩ := List.mem_map.1 hx
  exact ⟨valX_fit ρ s, .inl ⟨_, rfl⟩⟩
theorem rowV_set (ρ : Nat -> Nat) (l : List Val) (k : Nat) (v : Val) : (((l.map (valX ρ)).set k (valX ρ v)).flatMap V.leaves ++ []) = rowV ρ (l.set k v) := by rw [Yb, rowV, List.map_set]
theorem kget_encV (ρ : Nat -> Nat) (v : Int) : ∀ m : Vals, V.le ((kget (encV ρ m) v).getD (.agg VT.zs159)) (valX ρ (vget m v))
  | [] => le_val ρ 0 0
  | (k, x) :: m => by
    show V.le ((if k = v then some (valX ρ x) else kget (encV ρ m) v).getD _) _
    rw [vget]
    split
    . exact V.le.refl _
    . exact kget_encV ρ v m
theorem kput_encV (ρ : Nat -> Nat) (k : Int) (x : Val) : ∀ m : Vals, kput (encV ρ m) k (valX ρ x) = encV ρ (vput m k x)
  | [] => rfl
  | (j, y) :: m => by
    show (if j = k then (j, valX ρ x) :: encV ρ m else (j, valX ρ y) :: kput (encV ρ m) k (valX ρ x)) = _
    rw [kput_encV ρ k x m, vput]
    split <;> rfl
theorem vputs_snoc : ∀ (m : Vals) (ps : List Int) (vs : List Val) (p : Int) (v : Val), ps.length = vs.length -> vputs m (ps ++ [p]) (vs ++ [v]) = vput (vputs m ps vs) p v
  | m, [], [], p, v, _ => rfl
  | m, q :: ps, w :: vs, p, v, h => by
    simp at h
    exact vputs_snoc _ ps vs p v h
  | m, [], _ :: _, p, v, h => by simp at h
  | m, _ :: _, [], p, v, h => by simp at h
theorem pay_c (gm : Nat) (u : SUnit) (stk ov : V) (M : Mach) (n : Int) (h0 : 0 <= n) (h1 : n <= 1000000) (h2 : 0 <= M.left) (h3 : M.left <= 1000000) : VCalls Tryz.prog 53 [.ptr gm 0, .int n] [mcells gm u stk ov M] λ r S' => S' = [mcells gm u stk ov (payF n M)] := by
 have hr := payF.eq_def n M
 refine V_start (nt := 24) Tryz.func53 rfl rfl rfl ?_
 refine Zb<|Zb<|Zd<|Zc<|Zl rfl<|Zc<|Zl rfl<|Zc<|Zv1 rfl<|Zc<|Zj VT.fa121_2 rfl<|Zc<|Zu 0 VT.ty3 rfl rfl rfl<|Zc<|Zj1 rfl rfl rfl<|Za<|Zi<|Zn1 rfl (λ h9 => ?_)<|λ h9 => ?_
 .
  rw [if_pos (by omega)] at hr
  refine Zb<|Zd<|Zc<|Zl rfl<|Zc<|Zl rfl<|Zc<|Zv1 rfl<|Zc<|Zj VT.fa121_3 rfl<|Zc<|Zy 0 VT.ty4 rfl rfl rfl rfl rfl<|Zc<|Zv1 rfl<|Zc<|Zj VT.fa121_4 rfl<|Zc<|Zy 0 VT.ty4 rfl rfl rfl rfl rfl<|Za<|Zi<|Zf1<|Zd1<|Zh1 rfl rfl (.nil) ?_
  rw [hr]; first | done | rfl
 rw [if_neg (by omega)] at hr
 refine Zi1<|Zi<|Zd<|Zc<|Zl rfl<|Zc<|Zv1 rfl<|Zc<|Zj VT.fa121_2 rfl<|Zc<|Zu 0 VT.ty3 rfl rfl rfl<|Zc<|Zl rfl<|Zc<|Zk2 rfl rfl (by omega)<|Zc<|Zv1 rfl<|Zc<|Zj VT.fa121_2 rfl<|Zc<|Zy 0 VT.ty3 rfl rfl rfl rfl rfl<|Za<|Zn3 rfl ?_
 rw [hr]; first | done | rfl
theorem stop_c (gm : Nat) (u : SUnit) (stk ov : V) (M : Mach) (e n : Int) : VCalls Tryz.prog 87 [.ptr gm 0, .int e, .int n] [mcells gm u stk ov M] λ r S' => S' = [mcells gm u stk ov (stopF e n M)] := by
 refine V_start (nt := 19) Tryz.func87 rfl rfl rfl ?_
 refine Zb<|Zd<|Zc<|Zl rfl<|Zc<|Zv1 rfl<|Zc<|Zj VT.fa121_4 rfl<|Zc<|Zy 0 VT.ty4 rfl rfl rfl rfl rfl<|Za<|Zi<|Zd<|Zc<|Zl rfl<|Zc<|Zl rfl<|Zc<|Zl rfl<|Zc<|Zl rfl<|Zc<|Zv1 rfl<|Zc<|Zj VT.fa121_5 rfl<|Zc<|Zj VT.fa52_1 rfl<|Zc<|Zy 0 VT.ty3 rfl rfl rfl rfl rfl<|Zc<|Zv1 rfl<|Zc<|Zj VT.fa121_5 rfl<|Zc<|Zj VT.fa52_2 rfl<|Zc<|Zy 0 VT.ty3 rfl rfl rfl rfl rfl<|Za<|Zn3 rfl ?_
 rfl
theorem take_c (ρ : Nat -> Nat) (gf gv : Nat) (f : MFrame) (l : List Int) (hl : l.length <= 4096) : VKeep Tryz.prog 86 [.ptr gf 0, intsX l] [fcell gf gv f, fmap ρ gv f.vals] (valsX ρ (takeF f.vals l)) := by
 refine VKeep.drops<|V_start (nt := 29) Tryz.func86 rfl rfl rfl ?_
 refine Zb<|Zd<|Zc<|Zk rfl<|Za<|Zi<|Zb<|Zd<|Zc<|Zl rfl<|Zc<|Zd2 (n := l.length) Tryz.underlying36 rfl (by simp)<|λ hl9 => (Zc<|V_makeRow (valX ρ Val.zero) (zero_rep ρ) rfl VT.sl152 rfl rfl (by omega) (by omega)<|λ g10 => (Zc<|Zk rfl<|Za<|Zi<|Zb<|Zb<|Zd<|Zc<|Zl rfl<|Zc<|Zd2 (n := l.length) Tryz.underlying36 rfl (by simp)<|λ hl12 => (Zc<|Zl rfl<|Za<|Zi<|Zs<|Zi2 (ι := Nat × List Val) (λ (k, o) => l.length - k) (λ (k, o) => [(0, some (.ptr gf 0)), (5, some (.raw (.slice (some ⟨g10, 0, none⟩) l.length l.length))), (11, some (intsX l)), (12, some (.int l.length)), (13, some (.int k))]) (λ (k, o) => [.cells g10 159 (rowV ρ o), fcell gf gv f, fmap ρ gv f.vals]) (λ (k, o) => k <= l.length /\ o.length = l.length /\ o.take k = takeF f.vals (l.take k)) (0, List.replicate l.length Val.zero) ⟨Yg _, List.length_replicate, rfl⟩ ⟨rfl, rfl, rfl, rfl, rfl, trivial⟩ (Drops.keepE (by rw [rowV, List.map_replicate]; rfl)<|Dk<|Dk<|Zt2 _) ?_)))
 rintro ⟨k, o⟩ hA
 change k <= l.length /\ o.length = l.length /\ o.take k = takeF f.vals (l.take k) at hA
 obtain ⟨hk, hlo, hq⟩ := hA
 refine Zb<|Zd<|Zc<|Zj1 rfl rfl rfl<|Za<|Zi<|Zb<|Zn1 rfl (λ h14 => ?_)<|λ h14 => ?_
 .
  obtain ⟨x, hx⟩ := get_of_lt l k h14
  refine Zi1<|Zi<|Zb<|Zs<|Zb<|Zd<|Zc<|Zl rfl<|Zc<|Zz (el := V.int x) VT.sl36 rfl rfl (by omega) (get_int hx)<|λ a16 => (Zc<|Zz1 VT.ty3 rfl rfl<|Zc<|Zk rfl<|Zc<|Zk rfl<|Za<|Zi<|Zd<|Zc<|Zl rfl<|Zc<|Zl rfl<|Zc<|Zl rfl<|Zc<|Zv1 rfl<|Zc<|Zj VT.fa156_4 rfl<|Zc<|Zu 1 VT.ty154 rfl rfl rfl<|Zc<|Zl rfl<|Zc<|Zu2 (V_lookupD 2 (.agg VT.zs159) (λ m => ⟨rfl, _, rfl, by simp [Go.VL.RepL, VT.zs159, Rep]⟩) Tryz.underlying154 (key_int Tryz.underlying3) VT.zr159 rfl rfl rfl ⟨rfl, rfl⟩) ((kget_encV ρ x f.vals))<|Zc<|Zr2 VT.sl152 rfl rfl (by omega) (by omega)<|Zc<|Zg3 0 k VT.ty159 rfl (by simp) rfl rfl rfl (rowV_nil _ _) (vals_fit _ _) (by rw [Yc]; omega)<|Za<|Zb1<|Zi<|Zd<|Zc<|Zh2 rfl rfl (by omega)<|Zc<|Zl rfl<|Za<|Zi ?_)
  exact ⟨(k + 1, o.set k (vget f.vals x)), (by (try simp only []); omega), ⟨by omega, by rw [List.length_set]; exact hlo, by rw [take_set_succ (by omega), hq, take_snoc hx, takeF, takeF, List.map_append]; rfl⟩, ⟨rfl, rfl, rfl, rfl, rfl, trivial⟩, (Drops.keepE (congrArg (Own.cells g10 159) (rowV_set ρ o k (vget f.vals x))) (Dk (Dk (Zt2 _))))⟩
 have hke : k = l.length := by omega
 subst hke
 rw [Ya (by omega), Ya (Ye _)] at hq
 refine Zt<|Ze1<|Ze1<|Zc1<|Zi<|VW_freeze 0 (q := 5) (rest := []) (o.map<|valX ρ) rfl rfl (rowV_nil _ _) (by simp [hlo]) (Ye _) (by simp only [maxLen]; omega) (vals_fits _ _)<|Zb<|Zd<|Zc<|Zl rfl<|Zc<|Zk rfl<|Za<|Zi<|Zf1<|Zg1 rfl (.tmp rfl) ?_
 exact ⟨by rw [hq, valsX_eq], (Dk (Dk (Zt2 _)))⟩
theorem choice_c (t : STerm) (n : Int) : VPure Tryz.prog 106 [termV t, .int n] (.int (choiceF t n)) := by
 have hr := choiceF.eq_def t n
 refine V_start (nt := 21) Tryz.func106 rfl rfl rfl ?_
 refine Zb<|Zd<|Zc<|Zc2 rfl rfl<|λ g2 => (Zc<|Zk rfl<|Za<|Zi<|Zb<|Zb<|Zd<|Zc<|Zj VT.fa42_0 rfl<|Zc<|Zu 0 VT.ty3 rfl rfl rfl<|Zc<|Zj1 rfl rfl rfl<|Za<|Zi<|Zl1 rfl (λ h8 => ?_)<|λ h8 => ?_)
 .
  rw [if_pos h8] at hr
  refine Zb<|Zb<|Zd<|Zc<|Zl rfl<|Zc<|Zj1 rfl rfl rfl<|Za<|Zi<|Zm1 rfl (λ h10 => ?_)<|λ h10 => ?_
  .
   rw [if_pos h10] at hr
   refine Zb<|Zd<|Zc<|Zk rfl<|Za<|Zi<|Zf1<|Zd1<|Zd1<|Zg1 rfl (.tmp rfl) ?_
   rw [hr]; first | done | rfl
  rw [if_neg (by omega)] at hr
  refine Zi1<|Zi<|Zb<|Zd<|Zc<|Zk rfl<|Za<|Zi<|Zf1<|Zd1<|Zg1 rfl (.tmp rfl) ?_
  rw [hr]; first | done | rfl
 rw [if_neg h8] at hr
 refine Zi1<|Zi<|Zb<|Zb<|Zd<|Zc<|Zj VT.fa42_3 rfl<|Zc<|Zu 0 VT.ty36 rfl rfl rfl<|Zc<|Zl rfl<|Zc<|Zx1 [.tmp 12, .tmp 13] rfl rfl VT.en20 (intIndex_c t.cases none n)<|Zc<|Zk rfl<|Za<|Zi<|Zb<|Zd<|Zc<|Zl rfl<|Zc<|Zj1 rfl rfl rfl<|Za<|Zi<|Zn1 rfl (λ h16 => ?_)<|λ h16 => ?_
 .
  rw [if_pos (by omega)] at hr
  refine Zb<|Zd<|Zc<|Zl rfl<|Zc<|Zk rfl<|Za<|Zi<|Zf1<|Zd1<|Zg1 rfl (.tmp rfl) ?_
  rw [hr]; first | done | rfl
 rw [if_neg (by omega)] at hr
 refine Zi1<|Zi<|Zb<|Zd<|Zc<|Zj VT.fa42_3 rfl<|Zc<|Zu 0 VT.ty36 rfl rfl rfl<|Zc<|Zd2 (n := t.cases.length) Tryz.underlying36 rfl (by simp)<|λ hl20 => (Zc<|Zk rfl<|Za<|Zi<|Zf1<|Zg1 rfl (.tmp rfl) ?_)
 rw [hr]; first | done | rfl
theorem follow_c (gm gf gv : Nat) (u : SUnit) (stk ov : V) (M : Mach) (ρ : Nat -> Nat) (f : MFrame) (e : SEdge) (h0 : 0 <= f.fn) (h1 : 0 <= e.block) {fn : SFunc} (hf : u.fns[f.fn.toNat]? = some fn) {b : SBlock} (hb : fn.blocks[e.block.toNat]? = some b) (hl : e.args.length = b.params.length) (hl2 : e.args.length <= 4096) : VCalls Tryz.prog 104 [.ptr gm 0, .ptr gf 0, edgeV e] [mcells gm u stk ov M, fcell gf gv f, fmap ρ gv f.vals] λ r S' => S' = [mcells gm u stk ov M, fcell gf gv (followF u f e), fmap ρ gv (followF u f e).vals] := by
 refine VCalls_drops ?_
 have hblk : blockAt u f.fn e.block = b := by rw [blockAt, hf]; simp [hb]
 refine V_start (nt := 54) Tryz.func104 rfl rfl rfl ?_
 refine Zb<|Zd<|Zc<|Zc2 rfl rfl<|λ g5 => (Za<|Zi<|Zb<|Zd<|Zc<|Zl rfl<|Zc<|Zj VT.fa189_1 rfl<|Zc<|Zu 0 VT.ty36 rfl rfl rfl<|Zc<|Zl3 [.tmp 9, .tmp 11] [_, _] _ rfl rfl VT.en86 ((Zv2 (i := 2) rfl).trans<|.cons _<|(Zv2 (i := 2) rfl).trans<|.cons _<|.refl _) (take_c ρ gf gv f e.args hl2)<|Zc<|Zk rfl<|Za<|Zi<|Zb<|Zd<|Zc<|Zl rfl<|Zc<|Zl rfl<|Zc<|Zj VT.fa189_0 rfl<|Zc<|Zu 0 VT.ty3 rfl rfl rfl<|Zc<|Zv1 rfl<|Zc<|Zj VT.fa156_1 rfl<|Zc<|Zy 2 VT.ty3 rfl rfl rfl rfl rfl<|Zc<|Zv1 rfl<|Zc<|Zj VT.fa156_2 rfl<|Zc<|Zy 2 VT.ty3 rfl rfl rfl rfl rfl<|Za<|Zi<|Zb<|VW_drawR (G := Unit) [([], [0], []), ([0], [21], []), ([1, 0], [22], []), ([2, 1, 0], [23], []), (dn 4, [24], []), ([], [1], []), ([5], [26], []), ([6, 5], [27], []), ([7, 6, 5], [28], []), (dn 9, [25, 29], []), (dn 10, [30], []), (dn 11, [31], []), ([], [5], []), ([12], [33], []), (dn 14, [32, 34], []), (dn 15, [35], []), (dn 16, [36], []), (dn 17, [37], []), ([], [], [])] [] (constSt _) [37, 38, 39] [21, 22, 23, 24, 25, 26, 27, 28, 29, 30, 31, 32, 33, 34, 35, 36, 37, 38, 39] rfl VT.mix<|ZA (λ γ => Zf<|λ _ h0 => Ze<|Zn rfl<|Zl h0 z0)<|ZA (λ γ => Zw 0 0 rfl<|λ _ h21 => Ze<|Zn rfl<|Zv1 h21 z0)<|ZA (λ γ => Zw 1 0 rfl<|λ _ h22 => Ze<|Zn rfl<|Zj VT.fa121_0 h22 z0)<|ZA (λ γ => Zw 2 0 rfl<|λ _ h23 => Ze<|Zn rfl<|Zj VT.fa50_0 h23 z0)<|ZA (λ γ => Zw 3 0 rfl<|λ _ h24 => Ze<|Zn rfl<|Zu 1 VT.ty48 h24 rfl rfl z0)<|ZA (λ γ => Zf<|λ _ h1 => Ze<|Zn rfl<|Zl h1 z0)<|ZA (λ γ => Zw 5 0 rfl<|λ _ h26 => Ze<|Zn rfl<|Zv1 h26 z0)<|ZA (λ γ => Zw 6 0 rfl<|λ _ h27 => Ze<|Zn rfl<|Zj VT.fa156_0 h27 z0)<|ZA (λ γ => Zw 7 0 rfl<|λ _ h28 => Ze<|Zn rfl<|Zu 2 VT.ty3 h28 rfl rfl z0)<|Zp (Zb3 _) (Zq<|λ γ => Zw 4 4 rfl<|λ _ h25 => Zw 8 0 rfl<|λ _ h29 => Ze<|Zn rfl<|Zz (el := funcV fn) VT.sl48 h25 h29 (by omega) (get_mapS _ hf)<|λ a30 => ⟨⟨_, rfl⟩, rfl⟩)<|Zp (Zb3 _) (Zq<|λ γ => Zw 9 0 rfl<|λ _ h30 => Ze<|Zc3 h30<|λ a_30 e30 => Zn rfl<|Zw1 VT.fa47_1 e30 rfl ⟨⟨_, rfl⟩, rfl⟩)<|ZA (λ γ => Zw 10 0 rfl<|λ _ h31 => Ze<|Zc3 h31<|λ a_31 e31 => Zn rfl<|Zz1 VT.ty45 e31 rfl z0)<|ZA (λ γ => Zf<|λ _ h5 => Ze<|Zn rfl<|Zj VT.fa189_0 h5 z0)<|ZA (λ γ => Zw 12 0 rfl<|λ _ h33 => Ze<|Zn rfl<|Zu 0 VT.ty3 h33 rfl rfl z0)<|Zp (Zb3 _) (Zq<|λ γ => Zw 11 2 rfl<|λ _ h32 => Zw 13 0 rfl<|λ _ h34 => Ze<|Zn rfl<|Zz (el := blockV b) VT.sl45 h32 h34 (by omega) (get_mapS _ hb)<|λ a35 => ⟨⟨_, rfl⟩, rfl⟩)<|Zp (Zb3 _) (Zq<|λ γ => Zw 14 0 rfl<|λ _ h35 => Ze<|Zc3 h35<|λ a_35 e35 => Zn rfl<|Zw1 VT.fa44_0 e35 rfl ⟨⟨_, rfl⟩, rfl⟩)<|ZA (λ γ => Zw 15 0 rfl<|λ _ h36 => Ze<|Zc3 h36<|λ a_36 e36 => Zn rfl<|Zz1 VT.ty36 e36 rfl z0)<|ZA (λ γ => Zw 16 0 rfl<|λ _ h37 => Ze<|Zn rfl<|Zd2 (n := b.params.length) Tryz.underlying36 h37 (by simp)<|λ hl38 => z0)<|ZA (λ γ => Ze<|Zn rfl<|Zl rfl z0)<|DrawP_nil<|λ γ => Zw 16 2 rfl<|λ r37 h37 => Zw 17 1 rfl<|λ r38 h38 => Zw 18 0 rfl<|λ r39 h39 => Ze ?_)
 have e37 : r37 = some _ := h37
 subst e37
 clear h37
 have e38 : r38 = some _ := h38
 subst e38
 clear h38
 have e39 : r39 = some _ := h39
 subst e39
 clear h39
 refine Zi<|Zs<|Zi2 (ι := Nat) (λ k => b.params.length - k) (λ k => [(1, some (.ptr gf 0)), (6, some (valsX ρ (takeF f.vals e.args))), (37, some (intsX b.params)), (38, some (.int b.params.length)), (39, some (.int k))]) (λ k => [mcells gm u stk ov M, fcell gf gv { f with block := e.block, at_ := 0 }, fmap ρ gv (vputs f.vals (b.params.take k) ((takeF f.vals e.args).take k))]) (λ k => k <= b.params.length) 0 (Yg _) ⟨rfl, rfl, rfl, rfl, rfl, trivial⟩ (Dd<|Dk<|Dk<|Dk<|Zt2 _) ?_
 rintro k hk
 change k <= b.params.length at hk
 refine Zb<|Zd<|Zc<|Zj1 rfl rfl rfl<|Za<|Zi<|Zb<|Zn1 rfl (λ h40 => ?_)<|λ h40 => ?_
 .
  obtain ⟨x, hx⟩ := get_of_lt b.params k h40
  have htl : (takeF f.vals e.args).length = b.params.length := by rw [takeF, Yc, hl]
  obtain ⟨y, hy⟩ := get_of_lt (takeF f.vals e.args) k (by omega)
  refine Zi1<|Zi<|Zb<|Zs<|Zb<|Zd<|Zc<|Zl rfl<|Zc<|Zz (el := V.int x) VT.sl36 rfl rfl (by omega) (get_int hx)<|λ a42 => (Zc<|Zz1 VT.ty3 rfl rfl<|Zc<|Zk rfl<|Zc<|Zk rfl<|Za<|Zi<|VW_drawR (G := Unit) [([], [1], []), ([0], [44], []), ([1, 0], [45], []), ([2, 1, 0], [46], []), ([], [8], []), ([], [6], []), ([], [7], []), ([6, 5], [49, 50], []), ([7, 6, 5], [51], []), (dn 9, [47, 48, 52], [])] [9] (setSt _ 2<|λ _ => .map gv<|kmap kint<|kput (encV ρ<|vputs f.vals (b.params.take k)<|(takeF f.vals e.args).take k) x<|valX ρ y) [] [44, 45, 46, 47, 48, 49, 50, 51, 52] rfl VT.mix<|Zp (Zm _) (Zo rfl rfl ⟨(λ γ => Zf (λ _ h1 => Ze (Zn rfl (Zl h1 z0)))), trivial⟩)<|Zp (Zm _) (Zo rfl rfl ⟨(λ γ => Zw 0 0 rfl (λ _ h44 => Ze (Zn rfl (Zv1 h44 z0)))), trivial⟩)<|Zp (Zm _) (Zo rfl rfl ⟨(λ γ => Zw 1 0 rfl (λ _ h45 => Ze (Zn rfl (Zj VT.fa156_4 h45 z0)))), trivial⟩)<|Zp (Zm _) (Zo rfl rfl ⟨(λ γ => Zw 2 0 rfl (λ _ h46 => Ze (Zn rfl (Zu 1 VT.ty154 h46 rfl rfl z0)))), trivial⟩)<|Zp (Zm _) (Zo rfl rfl ⟨(λ γ => Zf (λ _ h8 => Ze (Zn rfl (Zl h8 z0)))), trivial⟩)<|Zp (Zm _) (Zo rfl rfl ⟨(λ γ => Zf (λ _ h6 => Ze (Zn rfl (Zl h6 z0)))), trivial⟩)<|Zp (Zm _) (Zo rfl rfl ⟨(λ γ => Zf (λ _ h7 => Ze (Zn rfl (Zl h7 z0)))), trivial⟩)<|Zp (Zb3 _) (Zo rfl rfl ⟨(λ γ => Zw 5 1 rfl (λ _ h49 => Zw 6 0 rfl (λ _ h50 => Ze (Zn rfl (Zz (el := valX ρ y) VT.sl152 h49 h50 (by omega) (get_valS hy) (λ a51 => ⟨⟨_, rfl⟩, rfl⟩)))))), trivial⟩)<|Zp (Zm _) (Zo rfl rfl ⟨(λ γ => Zw 7 0 rfl (λ _ h51 => Ze (Zc3 h51 (λ a_51 e51 => Zn rfl (Za2 VT.ty159 e51 rfl z0))))), trivial⟩)<|Zp Za3 (Zn2 rfl<|λ γ => Zw 3 5 rfl<|λ _ h47 => Zw 4 4 rfl<|λ _ h48 => Zw 8 0 rfl<|λ _ h52 => Ze<|Zn rfl<|V_mapUpdate 2 Tryz.underlying154 (key_int Tryz.underlying3) h47 h48 h52 rfl ⟨default, trivial, rfl⟩)<|DrawP_nil<|λ γ => Ze<|Zb1<|Zi<|Zd<|Zc<|Zh2 rfl rfl (by omega)<|Zc<|Zl rfl<|Za<|Zi ?_)
  exact ⟨k + 1, (by (try simp only []); omega), (by omega), ⟨rfl, rfl, rfl, rfl, rfl, trivial⟩, (Dk (Dk (Drops.keepE (by rw [take_snoc hx, take_snoc hy, vputs_snoc _ _ _ _ _ (by simp; omega)]; exact congrArg (λ l => Own.map gv (kmap kint l)) (kput_encV ρ x y _)) (Zt2 _))))⟩
 have hke : k = b.params.length := by omega
 subst hke
 rw [Ya (Ye _), Ya (by rw [takeF, Yc, hl]; exact Ye _)]
 refine Zt<|Ze1<|Ze1<|Zc1<|Zn3 rfl ?_
 have hfo : followF u f e = { f with block := e.block, at_ := 0, vals := vputs f.vals b.params (takeF f.vals e.args) } := by rw [followF, hblk]
 rw [hfo]
 exact ⟨_, (Dk (Dk (Dk (Zt2 _)))), rfl⟩
theorem enter0_c (gm : Nat) (u : SUnit) (ov : V) (M : Mach) (ρ : Nat -> Nat) (fn to : Int) (args : List Val) (h0 : 0 <= fn) {F : SFunc} (hf : u.fns[fn.toNat]? = some F) (hb : F.blocks ≠ []) (hl : args.length = (entryOf u fn).length) : VCalls Tryz.prog 52 [.ptr gm 0, .int fn, valsX ρ args, .int to] [mcells gm u (.raw (.slice none 0 0)) ov M] λ r S' => ∃ gf gv gs' cap' rest', 1 <= cap' /\ cap' <= maxLen /\ (([V.ptr gf 0] ++ rest')).length = cap' /\ S' = [mcells gm u (stkV gs' (1) cap') ov M, srow gs' (([V.ptr gf 0] ++ rest')), fcell gf gv (entered u fn args to), fmap ρ gv (entered u fn args to).vals] := by
 refine VCalls_drops ?_
 obtain ⟨b, tl, hbb⟩ := Yd hb
 have hen : entryOf u fn = b.params := by rw [entryOf, hf]; simp [paramsOf, hbb]
 have hent : (entered u fn args to).vals = vputs [] b.params args := by rw [entered, hen]
 rw [hen] at hl
 refine V_start (nt := 54) Tryz.func52 rfl rfl rfl ?_
 refine Zb<|Zd<|Zc<|Zl rfl<|Zc<|Zl rfl<|Zc<|V_makeMap (kv := kint)<|λ g13 => (Zc<|Zf2 [0, 3, 4] [.tmp 11, .tmp 12, .tmp 13] VT.st156 rfl rfl rfl rfl<|Zc<|Zc2 rfl rfl<|λ g15 => (Zc<|Zk rfl<|Za<|Zi<|Zb<|Zb<|Zd<|Zc<|Zl rfl<|Zc<|Zv1 rfl<|Zc<|Zj VT.fa121_0 rfl<|Zc<|Zj VT.fa50_0 rfl<|Zc<|Zu 2 VT.ty48 rfl rfl rfl<|Zc<|Zl rfl<|Zc<|Zz (el := funcV F) VT.sl48 rfl rfl (by omega) (get_mapS _ hf)<|λ a22 => (Zc<|Zw1 VT.fa47_1 rfl rfl<|Zc<|Zz1 VT.ty45 rfl rfl<|Zc<|Zz (el := blockV b) VT.sl45 rfl rfl (by omega) (by rw [hbb]; rfl)<|λ a25 => (Zc<|Zw1 VT.fa44_0 rfl rfl<|Zc<|Zz1 VT.ty36 rfl rfl<|Zc<|Zd2 (n := b.params.length) Tryz.underlying36 rfl (by simp)<|λ hl28 => (Zc<|Zl rfl<|Za<|Zi<|Zs<|Zi2 (ι := Nat) (λ k => b.params.length - k) (λ k => [(0, some (.ptr gm 0)), (2, some (valsX ρ args)), (8, some (.ptr g15 0)), (27, some (intsX b.params)), (28, some (.int b.params.length)), (29, some (.int k))]) (λ k => [fcell g15 g13 ⟨fn, 0, 0, to, []⟩, fmap ρ g13 (vputs [] (b.params.take k) (args.take k)), mcells gm u (.raw (.slice none 0 0)) ov M]) (λ k => k <= b.params.length) 0 (Yg _) ⟨rfl, rfl, rfl, rfl, rfl, rfl, trivial⟩ (Dk<|Dk<|Dk<|Zt2 _) ?_)))))
 rintro k hk
 change k <= b.params.length at hk
 refine Zb<|Zd<|Zc<|Zj1 rfl rfl rfl<|Za<|Zi<|Zb<|Zn1 rfl (λ h30 => ?_)<|λ h30 => ?_
 .
  obtain ⟨x, hx⟩ := get_of_lt b.params k h30
  obtain ⟨y, hy⟩ := get_of_lt args k (by omega)
  refine Zi1<|Zi<|Zb<|Zs<|Zb<|Zd<|Zc<|Zl rfl<|Zc<|Zz (el := V.int x) VT.sl36 rfl rfl (by omega) (get_int hx)<|λ a32 => (Zc<|Zz1 VT.ty3 rfl rfl<|Zc<|Zk rfl<|Zc<|Zk rfl<|Za<|Zi<|VW_drawR (G := Unit) [([], [8], []), ([0], [34], []), ([1, 0], [35], []), ([2, 1, 0], [36], []), ([], [10], []), ([], [2], []), ([], [9], []), ([6, 5], [39, 40], []), ([7, 6, 5], [41], []), (dn 9, [37, 38, 42], [])] [9] (setSt _ 1<|λ _ => .map g13<|kmap kint<|kput (encV ρ<|vputs [] (b.params.take k)<|args.take k) x<|valX ρ y) [] [34, 35, 36, 37, 38, 39, 40, 41, 42] rfl VT.mix<|Zp (Zm _) (Zo rfl rfl ⟨(λ γ => Zf (λ _ h8 => Ze (Zn rfl (Zl h8 z0)))), trivial⟩)<|Zp (Zm _) (Zo rfl rfl ⟨(λ γ => Zw 0 0 rfl (λ _ h34 => Ze (Zn rfl (Zv1 h34 z0)))), trivial⟩)<|Zp (Zm _) (Zo rfl rfl ⟨(λ γ => Zw 1 0 rfl (λ _ h35 => Ze (Zn rfl (Zj VT.fa156_4 h35 z0)))), trivial⟩)<|Zp (Zm _) (Zo rfl rfl ⟨(λ γ => Zw 2 0 rfl (λ _ h36 => Ze (Zn rfl (Zu 0 VT.ty154 h36 rfl rfl z0)))), trivial⟩)<|Zp (Zm _) (Zo rfl rfl ⟨(λ γ => Zf (λ _ h10 => Ze (Zn rfl (Zl h10 z0)))), trivial⟩)<|Zp (Zm _) (Zo rfl rfl ⟨(λ γ => Zf (λ _ h2 => Ze (Zn rfl (Zl h2 z0)))), trivial⟩)<|Zp (Zm _) (Zo rfl rfl ⟨(λ γ => Zf (λ _ h9 => Ze (Zn rfl (Zl h9 z0)))), trivial⟩)<|Zp (Zb3 _) (Zo rfl rfl ⟨(λ γ => Zw 5 1 rfl (λ _ h39 => Zw 6 0 rfl (λ _ h40 => Ze (Zn rfl (Zz (el := valX ρ y) VT.sl152 h39 h40 (by omega) (get_valS hy) (λ a41 => ⟨⟨_, rfl⟩, rfl⟩)))))), trivial⟩)<|Zp (Zm _) (Zo rfl rfl ⟨(λ γ => Zw 7 0 rfl (λ _ h41 => Ze (Zc3 h41 (λ a_41 e41 => Zn rfl (Za2 VT.ty159 e41 rfl z0))))), trivial⟩)<|Zp Za3 (Zn2 rfl<|λ γ => Zw 3 5 rfl<|λ _ h37 => Zw 4 4 rfl<|λ _ h38 => Zw 8 0 rfl<|λ _ h42 => Ze<|Zn rfl<|V_mapUpdate 1 Tryz.underlying154 (key_int Tryz.underlying3) h37 h38 h42 rfl ⟨default, trivial, rfl⟩)<|DrawP_nil<|λ γ => Ze<|Zb1<|Zi<|Zd<|Zc<|Zh2 rfl rfl (by omega)<|Zc<|Zl rfl<|Za<|Zi ?_)
  exact ⟨k + 1, (by (try simp only []); omega), (by omega), ⟨rfl, rfl, rfl, rfl, rfl, rfl, trivial⟩, (Dk (Drops.keepE (by rw [take_snoc hx, take_snoc hy, vputs_snoc _ _ _ _ _ (by simp; omega)]; exact congrArg (λ l => Own.map g13 (kmap kint l)) (kput_encV ρ x y _)) (Dk (Zt2 _))))⟩
 have hke : k = b.params.length := by omega
 subst hke
 rw [Ya (l := b.params) (Ye _), Ya (l := args) (by omega), <- hent]
 refine Zt<|Ze1<|Ze1<|Zc1<|Zi<|Zd<|Zc<|Zl rfl<|Zc<|Zl rfl<|Zc<|Zv1 rfl<|Zc<|Zj VT.fa121_1 rfl<|Zc<|Zu 2 VT.ty119 rfl rfl rfl<|Zc<|Zl rfl<|Zc<|Zk3 [.tmp 49] VT.sl119 rfl rfl rfl rfl rfl<|Zc<|V_appendRowL VT.sl119 (by decide) rfl rfl (by simp) (by simp) (by simp [V.flat, V.leaves, V.leaf, Value.oneCell'])<|λ g51 cap51 rest51 hc51 hm51 hl51 => (Zc<|Zv1 rfl<|Zc<|Zj VT.fa121_1 rfl<|Zc<|Zy 3 VT.ty119 rfl rfl rfl rfl rfl<|Za<|Zn3 rfl<|⟨_, (Drops.pick 3 rfl rfl (Drops.pick 0 rfl rfl (Drops.pick 0 rfl rfl (Drops.pick 0 rfl rfl (Drops.nil _))))), g15, g13, g51, cap51, rest51, by simpa using hc51, hm51, ?_, ?_⟩)
 exact hl51.trans (Yf _)
 rfl
theorem enter_c (gm : Nat) (u : SUnit) (ov : V) (M : Mach) (ρ : Nat -> Nat) (fn to : Int) (args : List Val) (gs n cap : Nat) (ls : List V) (hll : ls.length = cap) (hnc : n <= cap) (hcm : cap <= maxLen) (hn : n <= 1000001) (h0 : 0 <= fn) {F : SFunc} (hf : u.fns[fn.toNat]? = some F) (hb : F.blocks ≠ []) (hl : args.length = (entryOf u fn).length) : VCalls Tryz.prog 52 [.ptr gm 0, .int fn, valsX ρ args, .int to] [mcells gm u (stkV gs n cap) ov M, srow gs ls] λ r S' => ∃ gf gv gs' cap' rest', n + 1 <= cap' /\ cap' <= maxLen /\ (ls.take n ++ ([V.ptr gf 0] ++ rest')).length = cap' /\ S' = [mcells gm u (stkV gs' (n + 1) cap') ov M, srow gs' (ls.take n ++ ([V.ptr gf 0] ++ rest')), fcell gf gv (entered u fn args to), fmap ρ gv (entered u fn args to).vals] := by
 refine VCalls_drops ?_
 obtain ⟨b, tl, hbb⟩ := Yd hb
 have hen : entryOf u fn = b.params := by rw [entryOf, hf]; simp [paramsOf, hbb]
 have hent : (entered u fn args to).vals = vputs [] b.params args := by rw [entered, hen]
 rw [hen] at hl
 refine V_start (nt := 54) Tryz.func52 rfl rfl rfl ?_
 refine Zb<|Zd<|Zc<|Zl rfl<|Zc<|Zl rfl<|Zc<|V_makeMap (kv := kint)<|λ g13 => (Zc<|Zf2 [0, 3, 4] [.tmp 11, .tmp 12, .tmp 13] VT.st156 rfl rfl rfl rfl<|Zc<|Zc2 rfl rfl<|λ g15 => (Zc<|Zk rfl<|Za<|Zi<|Zb<|Zb<|Zd<|Zc<|Zl rfl<|Zc<|Zv1 rfl<|Zc<|Zj VT.fa121_0 rfl<|Zc<|Zj VT.fa50_0 rfl<|Zc<|Zu 2 VT.ty48 rfl rfl rfl<|Zc<|Zl rfl<|Zc<|Zz (el := funcV F) VT.sl48 rfl rfl (by omega) (get_mapS _ hf)<|λ a22 => (Zc<|Zw1 VT.fa47_1 rfl rfl<|Zc<|Zz1 VT.ty45 rfl rfl<|Zc<|Zz (el := blockV b) VT.sl45 rfl rfl (by omega) (by rw [hbb]; rfl)<|λ a25 => (Zc<|Zw1 VT.fa44_0 rfl rfl<|Zc<|Zz1 VT.ty36 rfl rfl<|Zc<|Zd2 (n := b.params.length) Tryz.underlying36 rfl (by simp)<|λ hl28 => (Zc<|Zl rfl<|Za<|Zi<|Zs<|Zi2 (ι := Nat) (λ k => b.params.length - k) (λ k => [(0, some (.ptr gm 0)), (2, some (valsX ρ args)), (8, some (.ptr g15 0)), (27, some (intsX b.params)), (28, some (.int b.params.length)), (29, some (.int k))]) (λ k => [fcell g15 g13 ⟨fn, 0, 0, to, []⟩, fmap ρ g13 (vputs [] (b.params.take k) (args.take k)), mcells gm u (stkV gs n cap) ov M, srow gs ls]) (λ k => k <= b.params.length) 0 (Yg _) ⟨rfl, rfl, rfl, rfl, rfl, rfl, trivial⟩ (Dk<|Dk<|Dk<|Dk<|Zt2 _) ?_)))))
 rintro k hk
 change k <= b.params.length at hk
 refine Zb<|Zd<|Zc<|Zj1 rfl rfl rfl<|Za<|Zi<|Zb<|Zn1 rfl (λ h30 => ?_)<|λ h30 => ?_
 .
  obtain ⟨x, hx⟩ := get_of_lt b.params k h30
  obtain ⟨y, hy⟩ := get_of_lt args k (by omega)
  refine Zi1<|Zi<|Zb<|Zs<|Zb<|Zd<|Zc<|Zl rfl<|Zc<|Zz (el := V.int x) VT.sl36 rfl rfl (by omega) (get_int hx)<|λ a32 => (Zc<|Zz1 VT.ty3 rfl rfl<|Zc<|Zk rfl<|Zc<|Zk rfl<|Za<|Zi<|VW_drawR (G := Unit) [([], [8], []), ([0], [34], []), ([1, 0], [35], []), ([2, 1, 0], [36], []), ([], [10], []), ([], [2], []), ([], [9], []), ([6, 5], [39, 40], []), ([7, 6, 5], [41], []), (dn 9, [37, 38, 42], [])] [9] (setSt _ 1<|λ _ => .map g13<|kmap kint<|kput (encV ρ<|vputs [] (b.params.take k)<|args.take k) x<|valX ρ y) [] [34, 35, 36, 37, 38, 39, 40, 41, 42] rfl VT.mix<|Zp (Zm _) (Zo rfl rfl ⟨(λ γ => Zf (λ _ h8 => Ze (Zn rfl (Zl h8 z0)))), trivial⟩)<|Zp (Zm _) (Zo rfl rfl ⟨(λ γ => Zw 0 0 rfl (λ _ h34 => Ze (Zn rfl (Zv1 h34 z0)))), trivial⟩)<|Zp (Zm _) (Zo rfl rfl ⟨(λ γ => Zw 1 0 rfl (λ _ h35 => Ze (Zn rfl (Zj VT.fa156_4 h35 z0)))), trivial⟩)<|Zp (Zm _) (Zo rfl rfl ⟨(λ γ => Zw 2 0 rfl (λ _ h36 => Ze (Zn rfl (Zu 0 VT.ty154 h36 rfl rfl z0)))), trivial⟩)<|Zp (Zm _) (Zo rfl rfl ⟨(λ γ => Zf (λ _ h10 => Ze (Zn rfl (Zl h10 z0)))), trivial⟩)<|Zp (Zm _) (Zo rfl rfl ⟨(λ γ => Zf (λ _ h2 => Ze (Zn rfl (Zl h2 z0)))), trivial⟩)<|Zp (Zm _) (Zo rfl rfl ⟨(λ γ => Zf (λ _ h9 => Ze (Zn rfl (Zl h9 z0)))), trivial⟩)<|Zp (Zb3 _) (Zo rfl rfl ⟨(λ γ => Zw 5 1 rfl (λ _ h39 => Zw 6 0 rfl (λ _ h40 => Ze (Zn rfl (Zz (el := valX ρ y) VT.sl152 h39 h40 (by omega) (get_valS hy) (λ a41 => ⟨⟨_, rfl⟩, rfl⟩)))))), trivial⟩)<|Zp (Zm _) (Zo rfl rfl ⟨(λ γ => Zw 7 0 rfl (λ _ h41 => Ze (Zc3 h41 (λ a_41 e41 => Zn rfl (Za2 VT.ty159 e41 rfl z0))))), trivial⟩)<|Zp Za3 (Zn2 rfl<|λ γ => Zw 3 5 rfl<|λ _ h37 => Zw 4 4 rfl<|λ _ h38 => Zw 8 0 rfl<|λ _ h42 => Ze<|Zn rfl<|V_mapUpdate 1 Tryz.underlying154 (key_int Tryz.underlying3) h37 h38 h42 rfl ⟨default, trivial, rfl⟩)<|DrawP_nil<|λ γ => Ze<|Zb1<|Zi<|Zd<|Zc<|Zh2 rfl rfl (by omega)<|Zc<|Zl rfl<|Za<|Zi ?_)
  exact ⟨k + 1, (by (try simp only []); omega), (by omega), ⟨rfl, rfl, rfl, rfl, rfl, rfl, trivial⟩, (Dk (Drops.keepE (by rw [take_snoc hx, take_snoc hy, vputs_snoc _ _ _ _ _ (by simp; omega)]; exact congrArg (λ l => Own.map g13 (kmap kint l)) (kput_encV ρ x y _)) (Dk (Dk (Zt2 _)))))⟩
 have hke : k = b.params.length := by omega
 subst hke
 rw [Ya (l := b.params) (Ye _), Ya (l := args) (by omega), <- hent]
 refine Zt<|Ze1<|Ze1<|Zc1<|Zi<|Zd<|Zc<|Zl rfl<|Zc<|Zl rfl<|Zc<|Zv1 rfl<|Zc<|Zj VT.fa121_1 rfl<|Zc<|Zu 2 VT.ty119 rfl rfl rfl<|Zc<|Zl rfl<|Zc<|Zk3 [.tmp 49] VT.sl119 rfl rfl rfl rfl rfl<|Zc<|V_appendRaw 3 VT.sl119 (by decide) rfl rfl rfl (by rw [hll]; exact (Yf _).symm) hnc hcm (by simp; omega) (by simp [V.flat, V.leaves, V.leaf, Value.oneCell'])<|λ g51 cap51 rest51 hc51 hm51 hl51 => (Zc<|Zv1 rfl<|Zc<|Zj VT.fa121_1 rfl<|Zc<|Zy 2 VT.ty119 rfl rfl rfl rfl rfl<|Za<|Zn3 rfl ?_)
 rw [Yf] at hl51
 refine ⟨_, (Drops.pick 2 rfl rfl (Drops.pick 2 rfl rfl (Drops.pick 0 rfl rfl (Drops.pick 0 rfl rfl (Drops.nil _))))), g15, g13, g51, cap51, rest51, by simpa using hc51, hm51, ?_, ?_⟩
 exact hl51.trans (Yf _)
 rw [Yf]; rfl
theorem leave0_c (gm gf gv gs n cap : Nat) (u : SUnit) (ov : V) (M : Mach) (ρ : Nat -> Nat) (f : MFrame) (v : Val) (ls : List V) (hnc : n <= cap) (hcm : cap <= maxLen) (hn : n = 1) : VCalls Tryz.prog 105 [.ptr gm 0, .ptr gf 0, valX ρ v] [mcells gm u (stkV gs n cap) ov M, srow gs ls, fcell gf gv f, fmap ρ gv f.vals] λ r S' => S' = [mcells gm u (stkV gs (n - 1) cap) ov (stopF 0 (if v.kind = 0 \/ v.kind = 1 then v.n else 0) M), srow gs ls] := by
 refine VCalls_drops<|V_start (nt := 60) Tryz.func105 rfl rfl rfl ?_
 refine Zb<|Zd<|Zc<|Zc2 rfl (valX_flat ρ v)<|λ g5 => (Za<|Zi<|Zb<|VW_drawR (G := Unit) [([], [0], []), ([], [0], []), ([1], [8], []), ([2, 1], [9], []), ([3, 2, 1], [10], []), ([], [0], []), ([5], [12], []), ([6, 5], [13], []), ([7, 6, 5], [14], []), ([8, 7, 6, 5], [15], []), ([9, 8, 7, 6, 5], [16], []), ([10, 9, 8, 7, 6, 5, 4, 3, 2, 1], [11, 17], []), (dn 12, [7], []), (dn 13, [19], []), (dn 14, [20, 18], [])] [14] (setSt _ 1<|λ _ => mcells gm u (stkV gs (n - 1) cap) ov M) [] [7, 8, 9, 10, 11, 12, 13, 14, 15, 16, 17, 18, 19, 20] rfl VT.mix<|Zp (Zm _) (Zo rfl rfl ⟨(λ γ => Zf (λ _ h0 => Ze (Zn rfl (Zl h0 z0)))), trivial⟩)<|Zp (Zm _) (Zo rfl rfl ⟨(λ γ => Zf (λ _ h0 => Ze (Zn rfl (Zl h0 z0)))), trivial⟩)<|Zp (Zm _) (Zo rfl rfl ⟨(λ γ => Zw 1 0 rfl (λ _ h8 => Ze (Zn rfl (Zv1 h8 z0)))), trivial⟩)<|Zp (Zm _) (Zo rfl rfl ⟨(λ γ => Zw 2 0 rfl (λ _ h9 => Ze (Zn rfl (Zj VT.fa121_1 h9 z0)))), trivial⟩)<|Zp (Zm _) (Zo rfl rfl ⟨(λ γ => Zw 3 0 rfl (λ _ h10 => Ze (Zn rfl (Zu 1 VT.ty119 h10 rfl rfl z0)))), trivial⟩)<|Zp (Zm _) (Zo rfl rfl ⟨(λ γ => Zf (λ _ h0 => Ze (Zn rfl (Zl h0 z0)))), trivial⟩)<|Zp (Zm _) (Zo rfl rfl ⟨(λ γ => Zw 5 0 rfl (λ _ h12 => Ze (Zn rfl (Zv1 h12 z0)))), trivial⟩)<|Zp (Zm _) (Zo rfl rfl ⟨(λ γ => Zw 6 0 rfl (λ _ h13 => Ze (Zn rfl (Zj VT.fa121_1 h13 z0)))), trivial⟩)<|Zp (Zm _) (Zo rfl rfl ⟨(λ γ => Zw 7 0 rfl (λ _ h14 => Ze (Zn rfl (Zu 1 VT.ty119 h14 rfl rfl z0)))), trivial⟩)<|Zp (Zm _) (Zo rfl rfl ⟨(λ γ => Zw 8 0 rfl (λ _ h15 => Ze (Zn rfl (V_len_raw Tryz.underlying119 h15 z0)))), trivial⟩)<|Zp (Zm _) (Zo rfl rfl ⟨(λ γ => Zw 9 0 rfl (λ _ h16 => Ze (Zn rfl (Zu2 (Zk2 h16 rfl (by simp only [maxLen] at hcm; omega) z0) (V.le.of_eq (congrArg V.int (show (n : Int) - 1 = ((n - 1 : Nat) : Int) by omega))) z0)))), trivial⟩)<|Zp (Zm _) (Zo rfl rfl ⟨(λ γ => Zw 4 6 rfl (λ _ h11 => Zw 10 0 rfl (λ _ h17 => Ze (Zn rfl (V_slice_rawTo VT.sl119 h11 h17 (by omega) (by omega) z0))))), trivial⟩)<|Zp (Zm _) (Zo rfl rfl ⟨(λ γ => Zw 0 11 rfl (λ _ h7 => Ze (Zn rfl (Zv1 h7 z0)))), trivial⟩)<|Zp (Zm _) (Zo rfl rfl ⟨(λ γ => Zw 12 0 rfl (λ _ h19 => Ze (Zn rfl (Zj VT.fa121_1 h19 z0)))), trivial⟩)<|Zp Za3 (Zn2 rfl<|λ γ => Zw 13 0 rfl<|λ _ h20 => Zw 11 2 rfl<|λ _ h18 => Ze<|Zn rfl<|Zy 1 VT.ty119 h20 h18 rfl rfl rfl ⟨default, trivial, rfl⟩)<|DrawP_nil<|λ γ => Ze<|Zi<|Zb<|Zb<|Zd<|Zc<|Zl rfl<|Zc<|Zv1 rfl<|Zc<|Zj VT.fa121_1 rfl<|Zc<|Zu 1 VT.ty119 rfl rfl rfl<|Zc<|V_len_raw Tryz.underlying119 rfl<|Zc<|Zj1 rfl rfl rfl<|Za<|Zi<|Zn1 rfl (λ h26 => ?_)<|λ h26 => ?_)
 . exact absurd h26 (by omega)
 refine Zi1<|Zi<|Zb<|Zd<|Zc<|Zk rfl<|Za<|Zi<|Zb<|Zb<|Zd<|Zc<|Zj VT.fa159_0 rfl<|Zc<|Zu 0 VT.ty3 rfl rfl rfl<|Zc<|Zj1 rfl rfl rfl<|Zc<|Zl rfl<|Zj2 (q := 50) rfl (λ hq50 => ?_)<|λ hq50 => ?_
 .
  refine Zk0 hq50<|Zk0 hq50<|Zk0 hq50<|Zc<|Zs1 rfl hq50 rfl<|Za<|Zi<|Zp1 rfl rfl ?_
  rw [if_pos (by simp_all)]
  refine Zd<|Zc<|Zj VT.fa159_1 rfl<|Zc<|Zu 0 VT.ty3 rfl rfl rfl<|Zc<|Zk rfl<|Za<|Zi<|Zd<|Zc<|Zl rfl<|Zc<|Zl rfl<|Zc<|Zm3 [.tmp 57, .const (.int .i64 (0)), .tmp 58] [_] _ rfl rfl VT.en87 (Zv2 (i := 1) rfl) (stop_c gm u (stkV gs (n - 1) cap) ov M 0 _) ?_
  rintro r Sa rfl
  refine Za<|Zn3 rfl ?_
  exact ⟨_, (Dk (Dd (Dk (Dd (Dd (Zt2 _)))))), rfl⟩
 refine Zc (Zj VT.fa159_0 rfl ?_)<|Zy0 hq50
 refine Zc (Zu 0 VT.ty3 rfl rfl rfl ?_)<|Zy0 hq50
 refine Zc (Zj1 rfl rfl rfl ?_)<|Zy0 hq50
 refine Zc<|Zt1 rfl hq50 rfl<|Za<|Zi<|Zl1 rfl (λ h54 => ?_)<|λ h54 => ?_
 .
  rw [if_pos (by simp_all)]
  refine Zd<|Zc<|Zj VT.fa159_1 rfl<|Zc<|Zu 0 VT.ty3 rfl rfl rfl<|Zc<|Zk rfl<|Za<|Zi<|Zd<|Zc<|Zl rfl<|Zc<|Zl rfl<|Zc<|Zm3 [.tmp 57, .const (.int .i64 (0)), .tmp 58] [_] _ rfl rfl VT.en87 (Zv2 (i := 1) rfl) (stop_c gm u (stkV gs (n - 1) cap) ov M 0 _) ?_
  rintro r Sa rfl
  refine Za<|Zn3 rfl ?_
  exact ⟨_, (Dk (Dd (Dk (Dd (Dd (Zt2 _)))))), rfl⟩
 rw [if_neg (by simp_all)]
 refine Zi1<|Zi<|Zd<|Zc<|Zl rfl<|Zc<|Zl rfl<|Zc<|Zm3 [.tmp 57, .const (.int .i64 (0)), .tmp 58] [_] _ rfl rfl VT.en87 (Zv2 (i := 1) rfl) (stop_c gm u (stkV gs (n - 1) cap) ov M 0 _) ?_
 rintro r Sa rfl
 refine Za<|Zn3 rfl ?_
 exact ⟨_, (Dk (Dd (Dk (Dd (Dd (Zt2 _)))))), rfl⟩
theorem leave_c (gm gf gv gs n cap : Nat) (u : SUnit) (ov : V) (M : Mach) (ρ : Nat -> Nat) (f : MFrame) (v : Val) (ls : List V) (hnc : n <= cap) (hcm : cap <= maxLen) (hn : 2 <= n) (gg ggv : Nat) (g : MFrame) (hg : ls[n - 2]? = some (.ptr gg 0)) : VCalls Tryz.prog 105 [.ptr gm 0, .ptr gf 0, valX ρ v] [mcells gm u (stkV gs n cap) ov M, srow gs ls, fcell gf gv f, fmap ρ gv f.vals, fcell gg ggv g, fmap ρ ggv g.vals] λ r S' => S' = [mcells gm u (stkV gs (n - 1) cap) ov M, srow gs ls, fcell gg ggv g, fmap ρ ggv (vput g.vals f.to v)] := by
 refine VCalls_drops<|V_start (nt := 60) Tryz.func105 rfl rfl rfl ?_
 refine Zb<|Zd<|Zc<|Zc2 rfl (valX_flat ρ v)<|λ g5 => (Za<|Zi<|Zb<|VW_drawR (G := Unit) [([], [0], []), ([], [0], []), ([1], [8], []), ([2, 1], [9], []), ([3, 2, 1], [10], []), ([], [0], []), ([5], [12], []), ([6, 5], [13], []), ([7, 6, 5], [14], []), ([8, 7, 6, 5], [15], []), ([9, 8, 7, 6, 5], [16], []), ([10, 9, 8, 7, 6, 5, 4, 3, 2, 1], [11, 17], []), (dn 12, [7], []), (dn 13, [19], []), (dn 14, [20, 18], [])] [14] (setSt _ 1<|λ _ => mcells gm u (stkV gs (n - 1) cap) ov M) [] [7, 8, 9, 10, 11, 12, 13, 14, 15, 16, 17, 18, 19, 20] rfl VT.mix<|Zp (Zm _) (Zo rfl rfl ⟨(λ γ => Zf (λ _ h0 => Ze (Zn rfl (Zl h0 z0)))), trivial⟩)<|Zp (Zm _) (Zo rfl rfl ⟨(λ γ => Zf (λ _ h0 => Ze (Zn rfl (Zl h0 z0)))), trivial⟩)<|Zp (Zm _) (Zo rfl rfl ⟨(λ γ => Zw 1 0 rfl (λ _ h8 => Ze (Zn rfl (Zv1 h8 z0)))), trivial⟩)<|Zp (Zm _) (Zo rfl rfl ⟨(λ γ => Zw 2 0 rfl (λ _ h9 => Ze (Zn rfl (Zj VT.fa121_1 h9 z0)))), trivial⟩)<|Zp (Zm _) (Zo rfl rfl ⟨(λ γ => Zw 3 0 rfl (λ _ h10 => Ze (Zn rfl (Zu 1 VT.ty119 h10 rfl rfl z0)))), trivial⟩)<|Zp (Zm _) (Zo rfl rfl ⟨(λ γ => Zf (λ _ h0 => Ze (Zn rfl (Zl h0 z0)))), trivial⟩)<|Zp (Zm _) (Zo rfl rfl ⟨(λ γ => Zw 5 0 rfl (λ _ h12 => Ze (Zn rfl (Zv1 h12 z0)))), trivial⟩)<|Zp (Zm _) (Zo rfl rfl ⟨(λ γ => Zw 6 0 rfl (λ _ h13 => Ze (Zn rfl (Zj VT.fa121_1 h13 z0)))), trivial⟩)<|Zp (Zm _) (Zo rfl rfl ⟨(λ γ => Zw 7 0 rfl (λ _ h14 => Ze (Zn rfl (Zu 1 VT.ty119 h14 rfl rfl z0)))), trivial⟩)<|Zp (Zm _) (Zo rfl rfl ⟨(λ γ => Zw 8 0 rfl (λ _ h15 => Ze (Zn rfl (V_len_raw Tryz.underlying119 h15 z0)))), trivial⟩)<|Zp (Zm _) (Zo rfl rfl ⟨(λ γ => Zw 9 0 rfl (λ _ h16 => Ze (Zn rfl (Zu2 (Zk2 h16 rfl (by simp only [maxLen] at hcm; omega) z0) (V.le.of_eq (congrArg V.int (show (n : Int) - 1 = ((n - 1 : Nat) : Int) by omega))) z0)))), trivial⟩)<|Zp (Zm _) (Zo rfl rfl ⟨(λ γ => Zw 4 6 rfl (λ _ h11 => Zw 10 0 rfl (λ _ h17 => Ze (Zn rfl (V_slice_rawTo VT.sl119 h11 h17 (by omega) (by omega) z0))))), trivial⟩)<|Zp (Zm _) (Zo rfl rfl ⟨(λ γ => Zw 0 11 rfl (λ _ h7 => Ze (Zn rfl (Zv1 h7 z0)))), trivial⟩)<|Zp (Zm _) (Zo rfl rfl ⟨(λ γ => Zw 12 0 rfl (λ _ h19 => Ze (Zn rfl (Zj VT.fa121_1 h19 z0)))), trivial⟩)<|Zp Za3 (Zn2 rfl<|λ γ => Zw 13 0 rfl<|λ _ h20 => Zw 11 2 rfl<|λ _ h18 => Ze<|Zn rfl<|Zy 1 VT.ty119 h20 h18 rfl rfl rfl ⟨default, trivial, rfl⟩)<|DrawP_nil<|λ γ => Ze<|Zi<|Zb<|Zb<|Zd<|Zc<|Zl rfl<|Zc<|Zv1 rfl<|Zc<|Zj VT.fa121_1 rfl<|Zc<|Zu 1 VT.ty119 rfl rfl rfl<|Zc<|V_len_raw Tryz.underlying119 rfl<|Zc<|Zj1 rfl rfl rfl<|Za<|Zi<|Zn1 rfl (λ h26 => ?_)<|λ h26 => ?_)
 .
  refine Zb<|VW_drawR (G := Unit) [([], [0], []), ([0], [27], []), ([1, 0], [28], []), ([2, 1, 0], [29], []), ([], [0], []), ([4], [31], []), ([5, 4], [32], []), ([6, 5, 4], [33], []), ([7, 6, 5, 4], [34], []), ([8, 7, 6, 5, 4], [35], []), (dn 10, [30, 36], []), (dn 11, [37], []), (dn 12, [38], []), (dn 13, [39], []), (dn 14, [40], []), ([], [1], []), ([15], [42], []), ([16, 15], [43], []), ([17, 16, 15], [44], []), ([], [5], []), (dn 20, [41, 45, 46], [])] [20] (setSt _ 6<|λ _ => .map ggv<|kmap kint<|kput (encV ρ g.vals) f.to<|valX ρ v) [] [27, 28, 29, 30, 31, 32, 33, 34, 35, 36, 37, 38, 39, 40, 41, 42, 43, 44, 45, 46] rfl VT.mix<|Zp (Zm _) (Zo rfl rfl ⟨(λ γ => Zf (λ _ h0 => Ze (Zn rfl (Zl h0 z0)))), trivial⟩)<|Zp (Zm _) (Zo rfl rfl ⟨(λ γ => Zw 0 0 rfl (λ _ h27 => Ze (Zn rfl (Zv1 h27 z0)))), trivial⟩)<|Zp (Zm _) (Zo rfl rfl ⟨(λ γ => Zw 1 0 rfl (λ _ h28 => Ze (Zn rfl (Zj VT.fa121_1 h28 z0)))), trivial⟩)<|Zp (Zm _) (Zo rfl rfl ⟨(λ γ => Zw 2 0 rfl (λ _ h29 => Ze (Zn rfl (Zu 1 VT.ty119 h29 rfl rfl z0)))), trivial⟩)<|Zp (Zm _) (Zo rfl rfl ⟨(λ γ => Zf (λ _ h0 => Ze (Zn rfl (Zl h0 z0)))), trivial⟩)<|Zp (Zm _) (Zo rfl rfl ⟨(λ γ => Zw 4 0 rfl (λ _ h31 => Ze (Zn rfl (Zv1 h31 z0)))), trivial⟩)<|Zp (Zm _) (Zo rfl rfl ⟨(λ γ => Zw 5 0 rfl (λ _ h32 => Ze (Zn rfl (Zj VT.fa121_1 h32 z0)))), trivial⟩)<|Zp (Zm _) (Zo rfl rfl ⟨(λ γ => Zw 6 0 rfl (λ _ h33 => Ze (Zn rfl (Zu 1 VT.ty119 h33 rfl rfl z0)))), trivial⟩)<|Zp (Zm _) (Zo rfl rfl ⟨(λ γ => Zw 7 0 rfl (λ _ h34 => Ze (Zn rfl (V_len_raw Tryz.underlying119 h34 z0)))), trivial⟩)<|Zp (Zm _) (Zo rfl rfl ⟨(λ γ => Zw 8 0 rfl (λ _ h35 => Ze (Zn rfl (Zu2 (Zk2 h35 rfl (by simp only [maxLen] at hcm; omega) z0) (V.le.of_eq (congrArg V.int (show ((n - 1 : Nat) : Int) - 1 = ((n - 2 : Nat) : Int) by omega))) z0)))), trivial⟩)<|Zp (Zm _) (Zo rfl rfl ⟨(λ γ => Zw 3 6 rfl (λ _ h30 => Zw 9 0 rfl (λ _ h36 => Ze (Zn rfl (Zr2 VT.sl119 h30 h36 (by omega) (by omega) z0))))), trivial⟩)<|Zp (Zm _) (Zo rfl rfl ⟨(λ γ => Zw 10 0 rfl (λ _ h37 => Ze (Zn rfl (Zf3 2 (n - 2) VT.ty153 h37 (by omega) rfl (Yb _).symm hg z0)))), trivial⟩)<|Zp (Zm _) (Zo rfl rfl ⟨(λ γ => Zw 11 0 rfl (λ _ h38 => Ze (Zn rfl (Zv1 h38 z0)))), trivial⟩)<|Zp (Zm _) (Zo rfl rfl ⟨(λ γ => Zw 12 0 rfl (λ _ h39 => Ze (Zn rfl (Zj VT.fa156_4 h39 z0)))), trivial⟩)<|Zp (Zm _) (Zo rfl rfl ⟨(λ γ => Zw 13 0 rfl (λ _ h40 => Ze (Zn rfl (Zu 5 VT.ty154 h40 rfl rfl z0)))), trivial⟩)<|Zp (Zm _) (Zo rfl rfl ⟨(λ γ => Zf (λ _ h1 => Ze (Zn rfl (Zl h1 z0)))), trivial⟩)<|Zp (Zm _) (Zo rfl rfl ⟨(λ γ => Zw 15 0 rfl (λ _ h42 => Ze (Zn rfl (Zv1 h42 z0)))), trivial⟩)<|Zp (Zm _) (Zo rfl rfl ⟨(λ γ => Zw 16 0 rfl (λ _ h43 => Ze (Zn rfl (Zj VT.fa156_3 h43 z0)))), trivial⟩)<|Zp (Zm _) (Zo rfl rfl ⟨(λ γ => Zw 17 0 rfl (λ _ h44 => Ze (Zn rfl (Zu 3 VT.ty3 h44 rfl rfl z0)))), trivial⟩)<|Zp (Zm _) (Zo rfl rfl ⟨(λ γ => Zf (λ _ h5 => Ze (Zn rfl (Zv 0 VT.ty159 h5 rfl rfl z0)))), trivial⟩)<|Zp Za3 (Zn2 rfl<|λ γ => Zw 14 5 rfl<|λ _ h41 => Zw 18 1 rfl<|λ _ h45 => Zw 19 0 rfl<|λ _ h46 => Ze<|Zn rfl<|V_mapUpdate 6 Tryz.underlying154 (key_int Tryz.underlying3) h41 h45 h46 rfl ⟨default, trivial, rfl⟩)<|DrawP_nil<|λ γ => Ze<|Zi<|Zf1<|Zd1<|Zh1 rfl rfl (.nil)<|⟨_, (Dd (Dk (Dk (Dd (Dd (Dk (Dk (Zt2 _)))))))), ?_⟩
  exact congrArg (λ l => [mcells gm u (stkV gs (n - 1) cap) ov M, srow gs ls, fcell gg ggv g, Own.map ggv (kmap kint l)]) (kput_encV ρ f.to v g.vals)
 exact absurd (show ((n - 1 : Nat) : Int) > 0 by omega) h26
end Go.Proofs.YtpkbgamoboojaaaGreat.X5
