import Derived.Test.YtpkbgamoboojaaaGreatX5
set_option maxRecDepth 100000
set_option maxHeartbeats 8000000
open Go.VL.Drops renaming keep → Dk, drop → Dd
set_option linter.all false
open List renaming replicate → Ya, cons_append → Yb
namespace Go.Proofs.YtpkbgamoboojaaaGreat.X6
open Go.VL Go.SM Go.Proofs.YtpkbgamoboojaaaGreat X1 X2 X3 X4 X5
theorem bneT {a b : Int} (h : (a != b) = true) : a ≠ b := by simpa using h
theorem bneF {a b : Int} (h : (a != b) = false) : a = b := by simpa using h
theorem beqT {a b : Int} (h : (a == b) = true) : a = b := by simpa using h
theorem beqF {a b : Int} (h : (a == b) = false) : a ≠ b := by simpa using h
theorem decT {p : Prop} [Decidable p] (h : decide p = true) : p := of_decide_eq_true h
theorem decF {p : Prop} [Decidable p] (h : decide p = false) : ¬ p := of_decide_eq_false h
theorem le_vec (ρ : Nat -> Nat) (tk : Tok) (l : List Val) : V.le (.agg [.int 4, .int 0, .sl 4 (some tk) (l.map (valX ρ)), .raw (.pointer none)]) (valX ρ (.mk 4 0 l none)) := by
  have h := valsX_eq ρ l
  show V.le _ (.agg [.int 4, .int 0, valsX ρ l, .raw (.pointer none)])
  rw [h]
  exact V.le.agg ⟨V.le.refl _, rfl, V.le.refl _, rfl, V.le.strip, rfl, V.le.refl _, rfl, trivial⟩
abbrev outV (tok : Tok) (l : List Int) : V := .sl 1 (some tok) (l.map V.int)
abbrev obuf (tok : Tok) (l : List Int) : Own := .buf tok 3 1 l.length
abbrev acell (ga gr n : Nat) : Own := .cells ga 152 [.raw (.slice (some ⟨gr, 0, none⟩) n n)]
abbrev arow (ρ : Nat -> Nat) (gr : Nat) (l : List Val) : Own := .cells gr 159 (rowV ρ l)
def arrsS (ρ : Nat -> Nat) : List (Nat × Nat) -> List (List Val) -> Store
  | x :: A, l :: h => acell x.1 x.2 l.length :: arow ρ x.2 l :: arrsS ρ A h
  | _, _ => []
theorem arrsS_perm (ρ : Nat -> Nat) : ∀ {A : List (Nat × Nat)} {h : List (List Val)} {k : Nat} {x : Nat × Nat} {l : List Val}, A[k]? = some x -> h[k]? = some l -> (arrsS ρ A h).Perm (acell x.1 x.2 l.length :: arow ρ x.2 l :: arrsS ρ (A.eraseIdx k) (h.eraseIdx k))
  | y :: A, m :: h, 0, x, l, h1, h2 => by
    simp at h1 h2
    subst h1 h2
    exact .refl _
  | y :: A, m :: h, k + 1, x, l, h1, h2 => by
    simp at h1 h2
    have ih := arrsS_perm ρ h1 h2
    rw [arrsS, List.eraseIdx_cons_succ, List.eraseIdx_cons_succ, arrsS]
    refine ((ih.cons _).cons _).trans<|(List.Perm.cons _<|List.Perm.swap _ _ _).trans<|(List.Perm.swap _ _ _).trans<|List.Perm.cons _<|(List.Perm.cons _<|List.Perm.swap _ _ _).trans ?_
    exact List.Perm.swap _ _ _
  | [], _, _, _, _, h1, _ => by simp at h1
  | _ :: _, [], _, _, _, _, h2 => by simp at h2
theorem arrsS_set (ρ : Nat -> Nat) {A : List (Nat × Nat)} {h : List (List Val)} {k : Nat} {x : Nat × Nat} {l l' : List Val} (h1 : A[k]? = some x) (h2 : h[k]? = some l) (hl : l'.length = l.length) : (acell x.1 x.2 l.length :: arow ρ x.2 l' :: arrsS ρ (A.eraseIdx k) (h.eraseIdx k)).Perm (arrsS ρ A (h.set k l')) := by
  have h3 : (h.set k l')[k]? = some l' := by rw [List.getElem?_set, if_pos rfl, if_pos (List.getElem?_eq_some_iff.1 h2).1]
  have := (arrsS_perm ρ h1 h3).symm
  rwa [erase_set, hl] at this
theorem arrsS_snoc (ρ : Nat -> Nat) (x : Nat × Nat) (l : List Val) : ∀ (A : List (Nat × Nat)) (h : List (List Val)), A.length = h.length -> arrsS ρ (A ++ [x]) (h ++ [l]) = arrsS ρ A h ++ [acell x.1 x.2 l.length, arow ρ x.2 l]
  | [], [], _ => rfl
  | y :: A, m :: h, hl => by
    simp at hl
    rw [Yb, Yb, arrsS, arrsS_snoc ρ x l A h hl, arrsS, Yb, Yb]
  | [], _ :: _, hl => by simp at hl
  | _ :: _, [], hl => by simp at hl
theorem rowV_ext {nf nh : Nat} {ρ ρ' : Nat -> Nat} (h : ∀ k, k < nh -> ρ k = ρ' k) {l : List Val} (hv : ∀ v ∈ l, okV nf nh v = true) : rowV ρ l = rowV ρ' l := by
  unfold rowV
  rw [List.map_congr_left λ v hm => valX_ext h (hv v hm)]
theorem arrsS_ext {nf nh : Nat} {ρ ρ' : Nat -> Nat} (h : ∀ k, k < nh -> ρ k = ρ' k) : ∀ (A : List (Nat × Nat)) {H : List (List Val)}, (∀ l ∈ H, ∀ v ∈ l, okV nf nh v = true) -> arrsS ρ A H = arrsS ρ' A H
  | x :: A, l :: H, hv => by
    rw [arrsS, arrsS, arrsS_ext h A λ l' hl => hv l' (List.mem_cons_of_mem _ hl)]
    unfold arow
    rw [rowV_ext h (hv l (List.mem_cons_self ..))]
  | [], _, _ => by simp [arrsS]
  | _ :: _, [], _ => rfl
theorem encV_ext {nf nh : Nat} {ρ ρ' : Nat -> Nat} (h : ∀ k, k < nh -> ρ k = ρ' k) {m : Vals} (hv : ∀ e ∈ m, okV nf nh e.2 = true) : encV ρ m = encV ρ' m := List.map_congr_left λ e he => by rw [valX_ext h (hv e he)]
theorem object_c (ρ : Nat -> Nat) (i : SIns) (args : List Val) (h1 : 1 <= args.length) (hop : elemJ i.op [10, 11, 12, 21] = true) (h2 : i.op = 21 -> 2 <= args.length) (hn : i.op = 11 -> 0 <= i.n) : VPure Tryz.prog 110 [insV i, valsX ρ args] (.tup [valX ρ (objectF i args).1, .int (objectF i args).2]) := by
 have hr := objectF.eq_def i args
 dsimp only at hr
 have hop2 : i.op = 10 \/ i.op = 11 \/ i.op = 12 \/ i.op = 21 := by simpa [elemJ] using hop
 refine V_start (nt := 89) Tryz.func110 rfl rfl rfl ?_
 refine Zb<|Zd<|Zc<|Zc2 rfl rfl<|λ g2 => (Zc<|Zb2 VT.zr159 _ rfl rfl<|λ g4 => (Zc<|Zk rfl<|Za<|Zi<|Zb<|Zd<|Zc<|Zl rfl<|Zc<|Zz (el := valX ρ (argAt args 0)) VT.sl152 rfl rfl (by omega) (get_arg (by omega))<|λ a8 => (Zc<|Za2 VT.ty159 rfl rfl<|Zc<|Zb2 VT.zr159 _ rfl rfl<|λ g6 => (Zc<|Zx 0 VT.ty159 rfl rfl rfl rfl rfl<|Za<|Zi<|Zb<|Zs<|Zb<|Zd<|Zc<|Zj VT.fa38_1 rfl<|Zc<|Zu 2 VT.ty3 rfl rfl rfl<|Zc<|Zj1 rfl rfl rfl<|Zc<|Zk rfl<|Za<|Zi<|Zl1 rfl (λ h10 => ?_)<|λ h10 => ?_))))
 .
  rw [if_pos h10] at hr
  refine Zb<|Zb<|Zd<|Zc<|Zj VT.fa159_0 rfl<|Zc<|Zu 0 VT.ty3 rfl rfl rfl<|Zc<|Zj1 rfl rfl rfl<|Zc<|Zl rfl<|Zj2 (q := 17) rfl (λ hq17 => ?_)<|λ hq17 => ?_
  .
   have hx17 := bneT hq17
   refine Zc (Zj VT.fa159_0 rfl ?_)<|Zy1 hq17
   refine Zc (Zu 0 VT.ty3 rfl rfl rfl ?_)<|Zy1 hq17
   refine Zc (Zj1 rfl rfl rfl ?_)<|Zy1 hq17
   refine Zc<|Zs1 rfl hq17 rfl<|Zc<|Zl rfl<|Zj2 (q := 22) rfl (λ hq22 => ?_)<|λ hq22 => ?_
   .
    have hx22 := bneT hq22
    refine Zk0 hq22<|Zk0 hq22<|Zk0 hq22<|Zk0 hq22<|Zk0 hq22<|Zk0 hq22<|Zc<|Zs1 rfl hq22 rfl<|Za<|Zi<|Zp1 rfl rfl ?_
    rw [if_pos (by omega)] at hr
    refine Zb<|Zd<|Zc<|Zu2 (Zf2 [] [] VT.st159 rfl rfl rfl rfl ⟨rfl, rfl⟩) ((le_val ρ 0 0))<|Zc<|Zx 1 VT.ty159 rfl rfl rfl rfl rfl<|Zc<|Zk rfl<|Za<|Zi<|Zf1<|Zd1<|Za1<|Zd1<|Zh1 rfl rfl (.cons (.agg (i := 1) VT.ty159 rfl rfl rfl)<|.cons (.tmp rfl)<|.nil) ?_
    rw [hr]; first | done | rfl
   have hx22 := bneF hq22
   refine Zc (Zj VT.fa38_2 rfl ?_)<|Zy0 hq22
   refine Zc (Zu 2 VT.ty3 rfl rfl rfl ?_)<|Zy0 hq22
   refine Zc (Zj VT.fa159_2 rfl ?_)<|Zy0 hq22
   refine Zc (Zu 0 VT.ty152 rfl rfl rfl ?_)<|Zy0 hq22
   refine Zc (Zd2 (n := (argAt args 0).list.length) Tryz.underlying152 rfl (by simp)<|λ hl27 => ?_)<|Zy0 hq22
   refine Zc (Zj1 rfl rfl rfl ?_)<|Zy0 hq22
   refine Zc<|Zt1 rfl hq22 rfl<|Za<|Zi<|Zn1 rfl (λ h29 => ?_)<|λ h29 => ?_
   .
    rw [if_pos (by omega)] at hr
    refine Zb<|Zd<|Zc<|Zu2 (Zf2 [] [] VT.st159 rfl rfl rfl rfl ⟨rfl, rfl⟩) ((le_val ρ 0 0))<|Zc<|Zx 1 VT.ty159 rfl rfl rfl rfl rfl<|Zc<|Zk rfl<|Za<|Zi<|Zf1<|Zd1<|Za1<|Zd1<|Zh1 rfl rfl (.cons (.agg (i := 1) VT.ty159 rfl rfl rfl)<|.cons (.tmp rfl)<|.nil) ?_
    rw [hr]; first | done | rfl
   rw [if_neg (by omega)] at hr
   refine Zi1<|Zi<|Zb<|Zd<|Zc<|Zj VT.fa159_2 rfl<|Zc<|Zu 0 VT.ty152 rfl rfl rfl<|Zc<|Zj VT.fa38_2 rfl<|Zc<|Zu 2 VT.ty3 rfl rfl rfl<|Zc<|Zz (el := valX ρ (argAt (argAt args 0).list i.n.toNat)) VT.sl152 rfl rfl (hn h10) (get_arg (by have := hn h10; omega))<|λ a35 => (Zc<|Za2 VT.ty159 rfl rfl<|Zc<|Zx 1 VT.ty159 rfl rfl rfl rfl rfl<|Zc<|Zk rfl<|Za<|Zi<|Zf1<|Za1<|Zd1<|Zh1 rfl rfl (.cons (.agg (i := 1) VT.ty159 rfl rfl rfl)<|.cons (.tmp rfl)<|.nil) ?_)
   rw [hr]; first | done | rfl
  have hx17 := bneF hq17
  refine Zk1 hq17<|Zk1 hq17<|Zk1 hq17<|Zc<|Zt1 rfl hq17 rfl<|Zc<|Zl rfl<|Zc (Zj VT.fa38_2 rfl ?_)<|Zy0 rfl
  refine Zc (Zu 2 VT.ty3 rfl rfl rfl ?_)<|Zy0 rfl
  refine Zc (Zj VT.fa159_2 rfl ?_)<|Zy0 rfl
  refine Zc (Zu 0 VT.ty152 rfl rfl rfl ?_)<|Zy0 rfl
  refine Zc (Zd2 (n := (argAt args 0).list.length) Tryz.underlying152 rfl (by simp)<|λ hl27 => ?_)<|Zy0 rfl
  refine Zc (Zj1 rfl rfl rfl ?_)<|Zy0 rfl
  refine Zc<|Zt1 rfl rfl rfl<|Za<|Zi<|Zn1 rfl (λ h29 => ?_)<|λ h29 => ?_
  .
   rw [if_pos (by omega)] at hr
   refine Zb<|Zd<|Zc<|Zu2 (Zf2 [] [] VT.st159 rfl rfl rfl rfl ⟨rfl, rfl⟩) ((le_val ρ 0 0))<|Zc<|Zx 1 VT.ty159 rfl rfl rfl rfl rfl<|Zc<|Zk rfl<|Za<|Zi<|Zf1<|Zd1<|Za1<|Zd1<|Zh1 rfl rfl (.cons (.agg (i := 1) VT.ty159 rfl rfl rfl)<|.cons (.tmp rfl)<|.nil) ?_
   rw [hr]; first | done | rfl
  rw [if_neg (by omega)] at hr
  refine Zi1<|Zi<|Zb<|Zd<|Zc<|Zj VT.fa159_2 rfl<|Zc<|Zu 0 VT.ty152 rfl rfl rfl<|Zc<|Zj VT.fa38_2 rfl<|Zc<|Zu 2 VT.ty3 rfl rfl rfl<|Zc<|Zz (el := valX ρ (argAt (argAt args 0).list i.n.toNat)) VT.sl152 rfl rfl (hn h10) (get_arg (by have := hn h10; omega))<|λ a35 => (Zc<|Za2 VT.ty159 rfl rfl<|Zc<|Zx 1 VT.ty159 rfl rfl rfl rfl rfl<|Zc<|Zk rfl<|Za<|Zi<|Zf1<|Za1<|Zd1<|Zh1 rfl rfl (.cons (.agg (i := 1) VT.ty159 rfl rfl rfl)<|.cons (.tmp rfl)<|.nil) ?_)
  rw [hr]; first | done | rfl
 rw [if_neg h10] at hr
 refine Zb<|Zd<|Zc<|Zj VT.fa159_0 rfl<|Zc<|Zu 0 VT.ty3 rfl rfl rfl<|Zc<|Zj1 rfl rfl rfl<|Zc<|Zk rfl<|Za<|Zi<|Zm1 rfl (λ h37 => ?_)<|λ h37 => ?_
 .
  rw [if_pos h37] at hr
  refine Zb<|Zd<|Zc<|Zu2 (Zf2 [] [] VT.st159 rfl rfl rfl rfl ⟨rfl, rfl⟩) ((le_val ρ 0 0))<|Zc<|Zx 1 VT.ty159 rfl rfl rfl rfl rfl<|Zc<|Zk rfl<|Za<|Zi<|Zf1<|Za1<|Zd1<|Zh1 rfl rfl (.cons (.agg (i := 1) VT.ty159 rfl rfl rfl)<|.cons (.tmp rfl)<|.nil) ?_
  rw [hr]; first | done | rfl
 rw [if_neg (by omega)] at hr
 refine Zb<|Zd<|Zc<|Zj VT.fa38_1 rfl<|Zc<|Zu 2 VT.ty3 rfl rfl rfl<|Zc<|Zj1 rfl rfl rfl<|Zc<|Zk rfl<|Za<|Zi<|Zl1 rfl (λ h42 => ?_)<|λ h42 => ?_
 .
  rw [if_pos h42] at hr
  refine Zb<|Zd<|Zc<|Zj VT.fa159_1 rfl<|Zc<|Zu 0 VT.ty3 rfl rfl rfl<|Zc<|Zx1 [.tmp 47] rfl rfl VT.en107 (wordOf_c ρ _)<|Zc<|Zx 1 VT.ty159 rfl rfl rfl rfl rfl<|Zc<|Zk rfl<|Za<|Zi<|Zf1<|Za1<|Zd1<|Zh1 rfl rfl (.cons (.agg (i := 1) VT.ty159 rfl rfl rfl)<|.cons (.tmp rfl)<|.nil) ?_
  rw [hr]; first | done | rfl
 rw [if_neg h42] at hr
 refine Zb<|Zd<|Zc<|Zj VT.fa38_1 rfl<|Zc<|Zu 2 VT.ty3 rfl rfl rfl<|Zc<|Zj1 rfl rfl rfl<|Zc<|Zk rfl<|Za<|Zi<|Zl1 rfl (λ h49 => ?_)<|λ h49 => ?_
 .
  rw [if_pos h49] at hr
  refine Zb<|Zd<|Zc<|Zj VT.fa159_2 rfl<|Zc<|Zu 0 VT.ty152 rfl rfl rfl<|Zc<|Zd2 (n := (argAt args 0).list.length) Tryz.underlying152 rfl (by simp)<|λ hl55 => (Zc<|Zx1 [.tmp 55] rfl rfl VT.en107 (wordOf_c ρ _)<|Zc<|Zx 1 VT.ty159 rfl rfl rfl rfl rfl<|Zc<|Zk rfl<|Za<|Zi<|Zf1<|Za1<|Zd1<|Zh1 rfl rfl (.cons (.agg (i := 1) VT.ty159 rfl rfl rfl)<|.cons (.tmp rfl)<|.nil) ?_)
  rw [hr]; first | done | rfl
 rw [if_neg h49] at hr
 have hl2 := h2 (by omega)
 refine Zb<|Zd<|Zc<|Zl rfl<|Zc<|Zz (el := valX ρ (argAt args 1)) VT.sl152 rfl rfl (by omega) (get_arg (by omega))<|λ a59 => (Zc<|Zw1 VT.fa159_0 rfl rfl<|Zc<|Zz1 VT.ty3 rfl rfl<|Zc<|Zj1 rfl rfl rfl<|Zc<|Zk rfl<|Za<|Zi<|Zm1 rfl (λ h57 => ?_)<|λ h57 => ?_)
 .
  rw [if_pos h57] at hr
  refine Zb<|Zd<|Zc<|Zu2 (Zf2 [] [] VT.st159 rfl rfl rfl rfl ⟨rfl, rfl⟩) ((le_val ρ 0 0))<|Zc<|Zx 1 VT.ty159 rfl rfl rfl rfl rfl<|Zc<|Zk rfl<|Za<|Zi<|Zf1<|Za1<|Zd1<|Zh1 rfl rfl (.cons (.agg (i := 1) VT.ty159 rfl rfl rfl)<|.cons (.tmp rfl)<|.nil) ?_
  rw [hr]; first | done | rfl
 rw [if_neg (by omega)] at hr
 refine Zb ?_
 rcases Bool.eq_false_or_eq_true (decide ((argAt args 1).n < 0)) with hq69 | hq69
 .
  refine VW_drawR (G := Unit) [([], [1], []), ([0], [65], []), ([1, 0], [66], []), ([2, 1, 0], [67], []), (dn 4, [68], []), (dn 5, [69], []), (dn 6, [1, 70], []), (dn 7, [71, 70], []), (dn 8, [72, 70], []), (dn 9, [73, 70], []), (dn 6, [6, 70], []), ([10, 5, 4, 3, 2, 1, 0], [75, 70], []), ([11, 10, 5, 4, 3, 2, 1, 0], [76, 70], []), (dn 13, [74, 77, 70], []), (dn 14, [70, 78], []), (dn 15, [79], [])] [] (constSt _) [64] [64, 65, 66, 67, 68, 69, 70, 71, 72, 73, 74, 75, 76, 77, 78, 79] rfl VT.mix<|ZA (λ γ => Zf<|λ _ h1 => Ze<|Zn rfl<|Zl h1 z0)<|Zp (Zb3 _) (Zq<|λ γ => Zw 0 0 rfl<|λ _ h65 => Ze<|Zn rfl<|Zz (el := valX ρ (argAt args 1)) VT.sl152 h65 rfl (by omega) (get_arg (by omega))<|λ a66 => ⟨⟨_, rfl⟩, rfl⟩)<|Zp (Zb3 _) (Zq<|λ γ => Zw 1 0 rfl<|λ _ h66 => Ze<|Zc3 h66<|λ a_66 e66 => Zn rfl<|Zw1 VT.fa159_1 e66 rfl ⟨⟨_, rfl⟩, rfl⟩)<|ZA (λ γ => Zw 2 0 rfl<|λ _ h67 => Ze<|Zc3 h67<|λ a_67 e67 => Zn rfl<|Zz1 VT.ty3 e67 rfl z0)<|ZA (λ γ => Zw 3 0 rfl<|λ _ h68 => Ze<|Zn rfl<|Zj1 h68 rfl rfl z0)<|ZA (λ γ => Zw 4 0 rfl<|λ _ h69 => Ze<|Zn rfl<|Zl h69 z0)<|ZA (λ γ => Zf<|λ _ h1 => Zw 5 0 rfl<|λ _ h70 => Ze<|Zy2 (Zr rfl rfl h70 hq69) z0)<|ZA (λ γ => Zw 6 0 rfl<|λ _ h71 => Zw 5 1 rfl<|λ _ h70 => Ze<|Zy2 (Zr rfl rfl h70 hq69) z0)<|ZA (λ γ => Zw 7 0 rfl<|λ _ h72 => Zw 5 2 rfl<|λ _ h70 => Ze<|Zy2 (Zr rfl rfl h70 hq69) z0)<|ZA (λ γ => Zw 8 0 rfl<|λ _ h73 => Zw 5 3 rfl<|λ _ h70 => Ze<|Zy2 (Zr rfl rfl h70 hq69) z0)<|ZA (λ γ => Zf<|λ _ h6 => Zw 5 4 rfl<|λ _ h70 => Ze<|Zy2 (Zr rfl rfl h70 hq69) z0)<|ZA (λ γ => Zw 10 0 rfl<|λ _ h75 => Zw 5 5 rfl<|λ _ h70 => Ze<|Zy2 (Zr rfl rfl h70 hq69) z0)<|ZA (λ γ => Zw 11 0 rfl<|λ _ h76 => Zw 5 6 rfl<|λ _ h70 => Ze<|Zy2 (Zr rfl rfl h70 hq69) z0)<|ZA (λ γ => Zw 9 3 rfl<|λ _ h74 => Zw 12 0 rfl<|λ _ h77 => Zw 5 7 rfl<|λ _ h70 => Ze<|Zy2 (Zr rfl rfl h70 hq69) z0)<|ZA (λ γ => Zw 5 8 rfl<|λ _ h70 => Zw 13 0 rfl<|λ _ h78 => Ze<|Zn rfl<|Zs1 h70 hq69 rfl z0)<|ZA (λ γ => Zw 14 0 rfl<|λ _ h79 => Ze<|Zn rfl<|Zk h79 z0)<|DrawP_nil<|λ γ => Zw 15 0 rfl<|λ r64 h64 => Ze ?_
  have e64 : r64 = some _ := h64
  subst e64
  clear h64
  refine Zi<|Zp1 rfl rfl ?_
  have hx69 := decT hq69
  rw [if_pos (.inl hx69)] at hr
  refine Zb<|Zd<|Zc<|Zu2 (Zf2 [] [] VT.st159 rfl rfl rfl rfl ⟨rfl, rfl⟩) ((le_val ρ 0 0))<|Zc<|Zx 1 VT.ty159 rfl rfl rfl rfl rfl<|Zc<|Zk rfl<|Za<|Zi<|Zf1<|Za1<|Zd1<|Zh1 rfl rfl (.cons (.agg (i := 1) VT.ty159 rfl rfl rfl)<|.cons (.tmp rfl)<|.nil) ?_
  rw [hr]; first | done | rfl
 refine VW_drawR (G := Unit) [([], [1], []), ([0], [65], []), ([1, 0], [66], []), ([2, 1, 0], [67], []), (dn 4, [68], []), (dn 5, [69], []), (dn 6, [1, 70], []), (dn 7, [71, 70], []), (dn 8, [72, 70], []), (dn 9, [73, 70], []), (dn 6, [6, 70], []), ([10, 5, 4, 3, 2, 1, 0], [75, 70], []), ([11, 10, 5, 4, 3, 2, 1, 0], [76, 70], []), (dn 13, [74, 77, 70], []), (dn 14, [70, 78], []), (dn 15, [79], [])] [] (constSt _) [64] [64, 65, 66, 67, 68, 69, 70, 71, 72, 73, 74, 75, 76, 77, 78, 79] rfl VT.mix<|ZA (λ γ => Zf<|λ _ h1 => Ze<|Zn rfl<|Zl h1 z0)<|Zp (Zb3 _) (Zq<|λ γ => Zw 0 0 rfl<|λ _ h65 => Ze<|Zn rfl<|Zz (el := valX ρ (argAt args 1)) VT.sl152 h65 rfl (by omega) (get_arg (by omega))<|λ a66 => ⟨⟨_, rfl⟩, rfl⟩)<|Zp (Zb3 _) (Zq<|λ γ => Zw 1 0 rfl<|λ _ h66 => Ze<|Zc3 h66<|λ a_66 e66 => Zn rfl<|Zw1 VT.fa159_1 e66 rfl ⟨⟨_, rfl⟩, rfl⟩)<|ZA (λ γ => Zw 2 0 rfl<|λ _ h67 => Ze<|Zc3 h67<|λ a_67 e67 => Zn rfl<|Zz1 VT.ty3 e67 rfl z0)<|ZA (λ γ => Zw 3 0 rfl<|λ _ h68 => Ze<|Zn rfl<|Zj1 h68 rfl rfl z0)<|ZA (λ γ => Zw 4 0 rfl<|λ _ h69 => Ze<|Zn rfl<|Zl h69 z0)<|ZA (λ γ => Zf<|λ _ h1 => Zw 5 0 rfl<|λ _ h70 => Ze<|Zn (Zg rfl rfl h70 hq69)<|Zl h1 z0)<|Zp (Zb3 _) (Zq<|λ γ => Zw 6 0 rfl<|λ _ h71 => Zw 5 1 rfl<|λ _ h70 => Ze<|Zn (Zg rfl rfl h70 hq69)<|Zz (el := valX ρ (argAt args 1)) VT.sl152 h71 rfl (by omega) (get_arg (by omega))<|λ a72 => ⟨⟨_, rfl⟩, rfl⟩)<|Zp (Zb3 _) (Zq<|λ γ => Zw 7 0 rfl<|λ _ h72 => Zw 5 2 rfl<|λ _ h70 => Ze<|Zc3 h72<|λ a_72 e72 => Zn (Zg rfl rfl h70 hq69)<|Zw1 VT.fa159_1 e72 rfl ⟨⟨_, rfl⟩, rfl⟩)<|ZA (λ γ => Zw 8 0 rfl<|λ _ h73 => Zw 5 3 rfl<|λ _ h70 => Ze<|Zc3 h73<|λ a_73 e73 => Zn (Zg rfl rfl h70 hq69)<|Zz1 VT.ty3 e73 rfl z0)<|ZA (λ γ => Zf<|λ _ h6 => Zw 5 4 rfl<|λ _ h70 => Ze<|Zn (Zg rfl rfl h70 hq69)<|Zj VT.fa159_2 h6 z0)<|ZA (λ γ => Zw 10 0 rfl<|λ _ h75 => Zw 5 5 rfl<|λ _ h70 => Ze<|Zn (Zg rfl rfl h70 hq69)<|Zu 0 VT.ty152 h75 rfl rfl z0)<|ZA (λ γ => Zw 11 0 rfl<|λ _ h76 => Zw 5 6 rfl<|λ _ h70 => Ze<|Zn (Zg rfl rfl h70 hq69)<|Zd2 (n := (argAt args 0).list.length) Tryz.underlying152 h76 (by simp)<|λ hl77 => z0)<|ZA (λ γ => Zw 9 3 rfl<|λ _ h74 => Zw 12 0 rfl<|λ _ h77 => Zw 5 7 rfl<|λ _ h70 => Ze<|Zn (Zg rfl rfl h70 hq69)<|Zj1 h74 h77 rfl z0)<|ZA (λ γ => Zw 5 8 rfl<|λ _ h70 => Zw 13 0 rfl<|λ _ h78 => Ze<|Zn rfl<|Zt1 h70 hq69 h78 z0)<|ZA (λ γ => Zw 14 0 rfl<|λ _ h79 => Ze<|Zn rfl<|Zk h79 z0)<|DrawP_nil<|λ γ => Zw 15 0 rfl<|λ r64 h64 => Ze ?_
 have e64 : r64 = some _ := h64
 subst e64
 clear h64
 refine Zi<|Zn1 rfl (λ h64 => ?_)<|λ h64 => ?_
 .
  have hx69 := decF hq69
  rw [if_pos (.inr h64)] at hr
  refine Zb<|Zd<|Zc<|Zu2 (Zf2 [] [] VT.st159 rfl rfl rfl rfl ⟨rfl, rfl⟩) ((le_val ρ 0 0))<|Zc<|Zx 1 VT.ty159 rfl rfl rfl rfl rfl<|Zc<|Zk rfl<|Za<|Zi<|Zf1<|Za1<|Zd1<|Zh1 rfl rfl (.cons (.agg (i := 1) VT.ty159 rfl rfl rfl)<|.cons (.tmp rfl)<|.nil) ?_
  rw [hr]; first | done | rfl
 have hx69 := decF hq69
 rw [if_neg (by omega)] at hr
 refine Zi1<|Zb1<|Zi<|Zb<|VW_drawR (G := Unit) [([], [6], []), ([0], [81], []), ([], [1], []), ([2], [83], []), ([3, 2], [84], []), ([4, 3, 2], [85], []), (dn 6, [82, 86], []), (dn 7, [87], []), (dn 8, [4, 88], []), (dn 9, [], [])] [8] (setSt _ 1<|λ _ => .cells g4 159 (valX ρ<|argAt (argAt args 0).list (argAt args 1).n.toNat).leaves) [5] [5, 81, 82, 83, 84, 85, 86, 87, 88] rfl VT.mix<|Zp (Zm _) (Zo rfl rfl ⟨(λ γ => Zf (λ _ h6 => Ze (Zn rfl (Zj VT.fa159_2 h6 z0)))), trivial⟩)<|Zp (Zm _) (Zo rfl rfl ⟨(λ γ => Zw 0 0 rfl (λ _ h81 => Ze (Zn rfl (Zu 0 VT.ty152 h81 rfl rfl z0)))), trivial⟩)<|Zp (Zm _) (Zo rfl rfl ⟨(λ γ => Zf (λ _ h1 => Ze (Zn rfl (Zl h1 z0)))), trivial⟩)<|Zp (Zb3 _) (Zo rfl rfl ⟨(λ γ => Zw 2 0 rfl (λ _ h83 => Ze (Zn rfl (Zz (el := valX ρ (argAt args 1)) VT.sl152 h83 rfl (by omega) (get_arg (by omega)) (λ a84 => ⟨⟨_, rfl⟩, rfl⟩))))), trivial⟩)<|Zp (Zb3 _) (Zo rfl rfl ⟨(λ γ => Zw 3 0 rfl (λ _ h84 => Ze (Zc3 h84 (λ a_84 e84 => Zn rfl (Zw1 VT.fa159_1 e84 rfl ⟨⟨_, rfl⟩, rfl⟩))))), trivial⟩)<|Zp (Zm _) (Zo rfl rfl ⟨(λ γ => Zw 4 0 rfl (λ _ h85 => Ze (Zc3 h85 (λ a_85 e85 => Zn rfl (Zz1 VT.ty3 e85 rfl z0))))), trivial⟩)<|Zp (Zb3 _) (Zo rfl rfl ⟨(λ γ => Zw 1 4 rfl (λ _ h82 => Zw 5 0 rfl (λ _ h86 => Ze (Zn rfl (Zz (el := valX ρ (argAt (argAt args 0).list (argAt args 1).n.toNat)) VT.sl152 h82 h86 (by omega) (get_arg (by omega)) (λ a87 => ⟨⟨_, rfl⟩, rfl⟩)))))), trivial⟩)<|Zp (Zm _) (Zo rfl rfl ⟨(λ γ => Zw 6 0 rfl (λ _ h87 => Ze (Zc3 h87 (λ a_87 e87 => Zn rfl (Za2 VT.ty159 e87 rfl z0))))), trivial⟩)<|Zp Za3 (Zn2 rfl<|λ γ => Zf<|λ _ h4 => Zw 7 0 rfl<|λ _ h88 => Ze<|Zn rfl<|Zx 1 VT.ty159 h4 h88 rfl rfl rfl ⟨default, trivial, rfl⟩)<|Zp (Zm _) (Zo rfl rfl ⟨(λ γ => Ze (Zn rfl (Zk rfl z0))), trivial⟩)<|DrawP_nil<|λ γ => Zw 9 0 rfl<|λ r5 h5 => Ze ?_
 have e5 : r5 = some _ := h5
 subst e5
 clear h5
 refine Zi<|Zf1<|Zh1 rfl rfl (.cons (.agg (i := 1) VT.ty159 rfl rfl rfl)<|.cons (.tmp rfl)<|.nil) ?_
 rw [hr]; first | done | rfl
theorem vector_c (ρ : Nat -> Nat) (i : SIns) (args : List Val) (hop : elemJ i.op [22, 23, 24] = true) (h1 : i.op = 24 -> 1 <= args.length /\ 0 <= i.n) (h2 : i.op = 23 -> 2 <= args.length) (hb : args.length <= 4096) (hv : ∀ v ∈ args, v.list.length <= 4096) : VPure Tryz.prog 111 [insV i, valsX ρ args] (.tup [valX ρ (vectorF i args).1, .int (vectorF i args).2]) := by
 have hr := vectorF.eq_def i args
 have hop2 : i.op = 22 \/ i.op = 23 \/ i.op = 24 := by simpa [elemJ] using hop
 refine V_start (nt := 99) Tryz.func111 rfl rfl rfl ?_
 refine Zb<|Zd<|Zc<|Zc2 rfl rfl<|λ g2 => (Zc<|Zb2 VT.zr159 _ rfl rfl<|λ g4 => (Zc<|Zk rfl<|Za<|Zi<|Zb<|Zb<|Zd<|Zc<|Zj VT.fa38_1 rfl<|Zc<|Zu 1 VT.ty3 rfl rfl rfl<|Za<|Zi<|Zs<|Zb<|Zd<|Zc<|Zj1 rfl rfl rfl<|Zc<|Zk rfl<|Za<|Zi<|Zl1 rfl (λ h13 => ?_)<|λ h13 => ?_))
 .
  rw [if_pos h13] at hr
  refine Zb<|Zb<|Zd<|Zc<|Zl rfl<|Zc<|Zx1 [.tmp 15, .const (.int .i64 (0))] rfl rfl VT.en108 (all_c ρ args _)<|Zc<|Zl2 rfl<|Za<|Zi<|Zo1 rfl (λ h17 => ?_)<|λ h17 => ?_
  .
   rw [if_pos h17] at hr
   refine Zb<|Zd<|Zc<|Zu2 (Zf2 [] [] VT.st159 rfl rfl rfl rfl ⟨rfl, rfl⟩) ((le_val ρ 0 0))<|Zc<|Zx 0 VT.ty159 rfl rfl rfl rfl rfl<|Zc<|Zk rfl<|Za<|Zi<|Zf1<|Zd1<|Za1<|Zd1<|Zh1 rfl rfl (.cons (.agg (i := 0) VT.ty159 rfl rfl rfl)<|.cons (.tmp rfl)<|.nil) ?_
   rw [hr]; first | done | rfl
  rw [if_neg (by rw [h17]; decide)] at hr
  refine Zi1<|Zi<|Zb<|Zd<|Zc<|Zl rfl<|Zc<|Zf2 [0, 2] [.const (.int .i64 (4)), .tmp 19] VT.st159 rfl rfl rfl rfl<|Zc<|Zx 0 VT.ty159 rfl rfl rfl rfl rfl<|Zc<|Zk rfl<|Za<|Zi<|Zf1<|Za1<|Zd1<|Zh1 rfl rfl (.cons (.agg (i := 0) VT.ty159 rfl rfl rfl)<|.cons (.tmp rfl)<|.nil) ?_
  rw [hr]; first | done | rfl
 rw [if_neg h13] at hr
 refine Zb<|Zd<|Zc<|Zj1 rfl rfl rfl<|Zc<|Zk rfl<|Za<|Zi<|Zl1 rfl (λ h21 => ?_)<|λ h21 => ?_
 .
  rw [if_pos h21] at hr
  obtain ⟨hl1, hn⟩ := h1 h21
  refine Zb<|Zb ?_
  rcases Bool.eq_false_or_eq_true (((argAt args 0).kind != (4 : Int))) with hq27 | hq27
  .
   refine VW_drawR (G := Unit) [([], [1], []), ([0], [23], []), ([1, 0], [24], []), ([2, 1, 0], [25], []), (dn 4, [26], []), (dn 5, [27], []), (dn 6, [2, 28], []), (dn 7, [29, 28], []), (dn 6, [1, 28], []), ([8, 5, 4, 3, 2, 1, 0], [31, 28], []), ([9, 8, 5, 4, 3, 2, 1, 0], [32, 28], []), ([10, 9, 8, 5, 4, 3, 2, 1, 0], [33, 28], []), ([11, 10, 9, 8, 5, 4, 3, 2, 1, 0], [34, 28], []), (dn 13, [30, 35, 28], []), (dn 14, [28, 36], [])] [] (constSt _) [37] [23, 24, 25, 26, 27, 28, 29, 30, 31, 32, 33, 34, 35, 36, 37] rfl VT.mix<|ZA (λ γ => Zf<|λ _ h1 => Ze<|Zn rfl<|Zl h1 z0)<|Zp (Zb3 _) (Zq<|λ γ => Zw 0 0 rfl<|λ _ h23 => Ze<|Zn rfl<|Zz (el := valX ρ (argAt args 0)) VT.sl152 h23 rfl (by omega) (get_arg (by omega))<|λ a24 => ⟨⟨_, rfl⟩, rfl⟩)<|Zp (Zb3 _) (Zq<|λ γ => Zw 1 0 rfl<|λ _ h24 => Ze<|Zc3 h24<|λ a_24 e24 => Zn rfl<|Zw1 VT.fa159_0 e24 rfl ⟨⟨_, rfl⟩, rfl⟩)<|ZA (λ γ => Zw 2 0 rfl<|λ _ h25 => Ze<|Zc3 h25<|λ a_25 e25 => Zn rfl<|Zz1 VT.ty3 e25 rfl z0)<|ZA (λ γ => Zw 3 0 rfl<|λ _ h26 => Ze<|Zn rfl<|Zj1 h26 rfl rfl z0)<|ZA (λ γ => Zw 4 0 rfl<|λ _ h27 => Ze<|Zn rfl<|Zl h27 z0)<|ZA (λ γ => Zf<|λ _ h2 => Zw 5 0 rfl<|λ _ h28 => Ze<|Zy2 (Zr rfl rfl h28 hq27) z0)<|ZA (λ γ => Zw 6 0 rfl<|λ _ h29 => Zw 5 1 rfl<|λ _ h28 => Ze<|Zy2 (Zr rfl rfl h28 hq27) z0)<|ZA (λ γ => Zf<|λ _ h1 => Zw 5 2 rfl<|λ _ h28 => Ze<|Zy2 (Zr rfl rfl h28 hq27) z0)<|ZA (λ γ => Zw 8 0 rfl<|λ _ h31 => Zw 5 3 rfl<|λ _ h28 => Ze<|Zy2 (Zr rfl rfl h28 hq27) z0)<|ZA (λ γ => Zw 9 0 rfl<|λ _ h32 => Zw 5 4 rfl<|λ _ h28 => Ze<|Zy2 (Zr rfl rfl h28 hq27) z0)<|ZA (λ γ => Zw 10 0 rfl<|λ _ h33 => Zw 5 5 rfl<|λ _ h28 => Ze<|Zy2 (Zr rfl rfl h28 hq27) z0)<|ZA (λ γ => Zw 11 0 rfl<|λ _ h34 => Zw 5 6 rfl<|λ _ h28 => Ze<|Zy2 (Zr rfl rfl h28 hq27) z0)<|ZA (λ γ => Zw 7 5 rfl<|λ _ h30 => Zw 12 0 rfl<|λ _ h35 => Zw 5 7 rfl<|λ _ h28 => Ze<|Zy2 (Zr rfl rfl h28 hq27) z0)<|ZA (λ γ => Zw 5 8 rfl<|λ _ h28 => Zw 13 0 rfl<|λ _ h36 => Ze<|Zn rfl<|Zs1 h28 hq27 rfl z0)<|DrawP_nil<|λ γ => Zw 14 0 rfl<|λ r37 h37 => Ze ?_
   have e37 : r37 = some _ := h37
   subst e37
   clear h37
   refine Zi<|Zp1 rfl rfl ?_
   rw [if_pos (.inl (bneT hq27))] at hr
   refine Zb<|Zd<|Zc<|Zu2 (Zf2 [] [] VT.st159 rfl rfl rfl rfl ⟨rfl, rfl⟩) ((le_val ρ 0 0))<|Zc<|Zx 0 VT.ty159 rfl rfl rfl rfl rfl<|Zc<|Zk rfl<|Za<|Zi<|Zf1<|Zd1<|Za1<|Zd1<|Zh1 rfl rfl (.cons (.agg (i := 0) VT.ty159 rfl rfl rfl)<|.cons (.tmp rfl)<|.nil) ?_
   rw [hr]; first | done | rfl
  refine VW_drawR (G := Unit) [([], [1], []), ([0], [23], []), ([1, 0], [24], []), ([2, 1, 0], [25], []), (dn 4, [26], []), (dn 5, [27], []), (dn 6, [2, 28], []), (dn 7, [29, 28], []), (dn 6, [1, 28], []), ([8, 5, 4, 3, 2, 1, 0], [31, 28], []), ([9, 8, 5, 4, 3, 2, 1, 0], [32, 28], []), ([10, 9, 8, 5, 4, 3, 2, 1, 0], [33, 28], []), ([11, 10, 9, 8, 5, 4, 3, 2, 1, 0], [34, 28], []), (dn 13, [30, 35, 28], []), (dn 14, [28, 36], [])] [] (constSt _) [37] [23, 24, 25, 26, 27, 28, 29, 30, 31, 32, 33, 34, 35, 36, 37] rfl VT.mix<|ZA (λ γ => Zf<|λ _ h1 => Ze<|Zn rfl<|Zl h1 z0)<|Zp (Zb3 _) (Zq<|λ γ => Zw 0 0 rfl<|λ _ h23 => Ze<|Zn rfl<|Zz (el := valX ρ (argAt args 0)) VT.sl152 h23 rfl (by omega) (get_arg (by omega))<|λ a24 => ⟨⟨_, rfl⟩, rfl⟩)<|Zp (Zb3 _) (Zq<|λ γ => Zw 1 0 rfl<|λ _ h24 => Ze<|Zc3 h24<|λ a_24 e24 => Zn rfl<|Zw1 VT.fa159_0 e24 rfl ⟨⟨_, rfl⟩, rfl⟩)<|ZA (λ γ => Zw 2 0 rfl<|λ _ h25 => Ze<|Zc3 h25<|λ a_25 e25 => Zn rfl<|Zz1 VT.ty3 e25 rfl z0)<|ZA (λ γ => Zw 3 0 rfl<|λ _ h26 => Ze<|Zn rfl<|Zj1 h26 rfl rfl z0)<|ZA (λ γ => Zw 4 0 rfl<|λ _ h27 => Ze<|Zn rfl<|Zl h27 z0)<|ZA (λ γ => Zf<|λ _ h2 => Zw 5 0 rfl<|λ _ h28 => Ze<|Zn (Zg rfl rfl h28 hq27)<|Zj VT.fa38_2 h2 z0)<|ZA (λ γ => Zw 6 0 rfl<|λ _ h29 => Zw 5 1 rfl<|λ _ h28 => Ze<|Zn (Zg rfl rfl h28 hq27)<|Zu 1 VT.ty3 h29 rfl rfl z0)<|ZA (λ γ => Zf<|λ _ h1 => Zw 5 2 rfl<|λ _ h28 => Ze<|Zn (Zg rfl rfl h28 hq27)<|Zl h1 z0)<|Zp (Zb3 _) (Zq<|λ γ => Zw 8 0 rfl<|λ _ h31 => Zw 5 3 rfl<|λ _ h28 => Ze<|Zn (Zg rfl rfl h28 hq27)<|Zz (el := valX ρ (argAt args 0)) VT.sl152 h31 rfl (by omega) (get_arg (by omega))<|λ a32 => ⟨⟨_, rfl⟩, rfl⟩)<|Zp (Zb3 _) (Zq<|λ γ => Zw 9 0 rfl<|λ _ h32 => Zw 5 4 rfl<|λ _ h28 => Ze<|Zc3 h32<|λ a_32 e32 => Zn (Zg rfl rfl h28 hq27)<|Zw1 VT.fa159_2 e32 rfl ⟨⟨_, rfl⟩, rfl⟩)<|ZA (λ γ => Zw 10 0 rfl<|λ _ h33 => Zw 5 5 rfl<|λ _ h28 => Ze<|Zc3 h33<|λ a_33 e33 => Zn (Zg rfl rfl h28 hq27)<|Zz1 VT.ty152 e33 rfl z0)<|ZA (λ γ => Zw 11 0 rfl<|λ _ h34 => Zw 5 6 rfl<|λ _ h28 => Ze<|Zn (Zg rfl rfl h28 hq27)<|Zd2 (n := (argAt args 0).list.length) Tryz.underlying152 h34 (by simp)<|λ hl35 => z0)<|ZA (λ γ => Zw 7 5 rfl<|λ _ h30 => Zw 12 0 rfl<|λ _ h35 => Zw 5 7 rfl<|λ _ h28 => Ze<|Zn (Zg rfl rfl h28 hq27)<|Zj1 h30 h35 rfl z0)<|ZA (λ γ => Zw 5 8 rfl<|λ _ h28 => Zw 13 0 rfl<|λ _ h36 => Ze<|Zn rfl<|Zt1 h28 hq27 h36 z0)<|DrawP_nil<|λ γ => Zw 14 0 rfl<|λ r37 h37 => Ze ?_
  have e37 : r37 = some _ := h37
  subst e37
  clear h37
  refine Zi<|Zn1 rfl (λ h37 => ?_)<|λ h37 => ?_
  .
   rw [if_pos (.inr h37)] at hr
   refine Zb<|Zd<|Zc<|Zu2 (Zf2 [] [] VT.st159 rfl rfl rfl rfl ⟨rfl, rfl⟩) ((le_val ρ 0 0))<|Zc<|Zx 0 VT.ty159 rfl rfl rfl rfl rfl<|Zc<|Zk rfl<|Za<|Zi<|Zf1<|Zd1<|Za1<|Zd1<|Zh1 rfl rfl (.cons (.agg (i := 0) VT.ty159 rfl rfl rfl)<|.cons (.tmp rfl)<|.nil) ?_
   rw [hr]; first | done | rfl
  have hx27 := bneF hq27
  rw [if_neg (by omega)] at hr
  refine Zi1<|Zi<|Zb<|VW_drawR (G := Unit) [([], [1], []), ([0], [39], []), ([1, 0], [40], []), ([2, 1, 0], [41], []), ([], [2], []), ([4], [43], []), (dn 6, [42, 44], []), (dn 7, [45], []), (dn 8, [4, 46], []), (dn 9, [], [])] [8] (setSt _ 0<|λ _ => .cells g4 159 (valX ρ<|argAt (argAt args 0).list i.n.toNat).leaves) [5] [5, 39, 40, 41, 42, 43, 44, 45, 46] rfl VT.mix<|Zp (Zm _) (Zo rfl rfl ⟨(λ γ => Zf (λ _ h1 => Ze (Zn rfl (Zl h1 z0)))), trivial⟩)<|Zp (Zb3 _) (Zo rfl rfl ⟨(λ γ => Zw 0 0 rfl (λ _ h39 => Ze (Zn rfl (Zz (el := valX ρ (argAt args 0)) VT.sl152 h39 rfl (by omega) (get_arg (by omega)) (λ a40 => ⟨⟨_, rfl⟩, rfl⟩))))), trivial⟩)<|Zp (Zb3 _) (Zo rfl rfl ⟨(λ γ => Zw 1 0 rfl (λ _ h40 => Ze (Zc3 h40 (λ a_40 e40 => Zn rfl (Zw1 VT.fa159_2 e40 rfl ⟨⟨_, rfl⟩, rfl⟩))))), trivial⟩)<|Zp (Zm _) (Zo rfl rfl ⟨(λ γ => Zw 2 0 rfl (λ _ h41 => Ze (Zc3 h41 (λ a_41 e41 => Zn rfl (Zz1 VT.ty152 e41 rfl z0))))), trivial⟩)<|Zp (Zm _) (Zo rfl rfl ⟨(λ γ => Zf (λ _ h2 => Ze (Zn rfl (Zj VT.fa38_2 h2 z0)))), trivial⟩)<|Zp (Zm _) (Zo rfl rfl ⟨(λ γ => Zw 4 0 rfl (λ _ h43 => Ze (Zn rfl (Zu 1 VT.ty3 h43 rfl rfl z0)))), trivial⟩)<|Zp (Zb3 _) (Zo rfl rfl ⟨(λ γ => Zw 3 2 rfl (λ _ h42 => Zw 5 0 rfl (λ _ h44 => Ze (Zn rfl (Zz (el := valX ρ (argAt (argAt args 0).list i.n.toNat)) VT.sl152 h42 h44 (by omega) (get_arg (by omega)) (λ a45 => ⟨⟨_, rfl⟩, rfl⟩)))))), trivial⟩)<|Zp (Zm _) (Zo rfl rfl ⟨(λ γ => Zw 6 0 rfl (λ _ h45 => Ze (Zc3 h45 (λ a_45 e45 => Zn rfl (Za2 VT.ty159 e45 rfl z0))))), trivial⟩)<|Zp Za3 (Zn2 rfl<|λ γ => Zf<|λ _ h4 => Zw 7 0 rfl<|λ _ h46 => Ze<|Zn rfl<|Zx 0 VT.ty159 h4 h46 rfl rfl rfl ⟨default, trivial, rfl⟩)<|Zp (Zm _) (Zo rfl rfl ⟨(λ γ => Ze (Zn rfl (Zk rfl z0))), trivial⟩)<|DrawP_nil<|λ γ => Zw 9 0 rfl<|λ r5 h5 => Ze ?_
  have e5 : r5 = some _ := h5
  subst e5
  clear h5
  refine Zi<|Zf1<|Za1<|Zd1<|Zh1 rfl rfl (.cons (.agg (i := 0) VT.ty159 rfl rfl rfl)<|.cons (.tmp rfl)<|.nil) ?_
  rw [hr]; first | done | rfl
 rw [if_neg h21] at hr
 have hl2 := h2 (by omega)
 refine Zi1<|Zb1<|Zi<|Zb<|Zb ?_
 rcases Bool.eq_false_or_eq_true ((!(allK 4 args))) with hq49 | hq49
 .
  refine VW_drawR (G := Unit) [([], [1], []), ([0], [47], []), ([1, 0], [48], []), ([2, 1, 0], [49], []), (dn 4, [1, 50], []), (dn 5, [51, 50], []), (dn 6, [52, 50], []), (dn 7, [53, 50], []), (dn 8, [54, 50], []), (dn 4, [1, 50], []), ([9, 3, 2, 1, 0], [56, 50], []), ([10, 9, 3, 2, 1, 0], [57, 50], []), ([11, 10, 9, 3, 2, 1, 0], [58, 50], []), ([12, 11, 10, 9, 3, 2, 1, 0], [59, 50], []), (dn 14, [55, 60, 50], []), (dn 15, [50, 61], [])] [] (constSt _) [62] [47, 48, 49, 50, 51, 52, 53, 54, 55, 56, 57, 58, 59, 60, 61, 62] rfl VT.mix<|ZA (λ γ => Zf<|λ _ h1 => Ze<|Zn rfl<|Zl h1 z0)<|ZA (λ γ => Zw 0 0 rfl<|λ _ h47 => Ze<|Zn rfl<|Zx1 [.tmp 47, .const (.int .i64 (4))] rfl (Zp2 h47<|Zp2 rfl Zq2) VT.en108 (all_c ρ args _) z0)<|ZA (λ γ => Zw 1 0 rfl<|λ _ h48 => Ze<|Zn rfl<|Zl2 h48 z0)<|ZA (λ γ => Zw 2 0 rfl<|λ _ h49 => Ze<|Zn rfl<|Zl h49 z0)<|ZA (λ γ => Zf<|λ _ h1 => Zw 3 0 rfl<|λ _ h50 => Ze<|Zy2 (Zr rfl rfl h50 hq49) z0)<|ZA (λ γ => Zw 4 0 rfl<|λ _ h51 => Zw 3 1 rfl<|λ _ h50 => Ze<|Zy2 (Zr rfl rfl h50 hq49) z0)<|ZA (λ γ => Zw 5 0 rfl<|λ _ h52 => Zw 3 2 rfl<|λ _ h50 => Ze<|Zy2 (Zr rfl rfl h50 hq49) z0)<|ZA (λ γ => Zw 6 0 rfl<|λ _ h53 => Zw 3 3 rfl<|λ _ h50 => Ze<|Zy2 (Zr rfl rfl h50 hq49) z0)<|ZA (λ γ => Zw 7 0 rfl<|λ _ h54 => Zw 3 4 rfl<|λ _ h50 => Ze<|Zy2 (Zr rfl rfl h50 hq49) z0)<|ZA (λ γ => Zf<|λ _ h1 => Zw 3 5 rfl<|λ _ h50 => Ze<|Zy2 (Zr rfl rfl h50 hq49) z0)<|ZA (λ γ => Zw 9 0 rfl<|λ _ h56 => Zw 3 6 rfl<|λ _ h50 => Ze<|Zy2 (Zr rfl rfl h50 hq49) z0)<|ZA (λ γ => Zw 10 0 rfl<|λ _ h57 => Zw 3 7 rfl<|λ _ h50 => Ze<|Zy2 (Zr rfl rfl h50 hq49) z0)<|ZA (λ γ => Zw 11 0 rfl<|λ _ h58 => Zw 3 8 rfl<|λ _ h50 => Ze<|Zy2 (Zr rfl rfl h50 hq49) z0)<|ZA (λ γ => Zw 12 0 rfl<|λ _ h59 => Zw 3 9 rfl<|λ _ h50 => Ze<|Zy2 (Zr rfl rfl h50 hq49) z0)<|ZA (λ γ => Zw 8 5 rfl<|λ _ h55 => Zw 13 0 rfl<|λ _ h60 => Zw 3 10 rfl<|λ _ h50 => Ze<|Zy2 (Zr rfl rfl h50 hq49) z0)<|ZA (λ γ => Zw 3 11 rfl<|λ _ h50 => Zw 14 0 rfl<|λ _ h61 => Ze<|Zn rfl<|Zs1 h50 hq49 rfl z0)<|DrawP_nil<|λ γ => Zw 15 0 rfl<|λ r62 h62 => Ze ?_
  have e62 : r62 = some _ := h62
  subst e62
  clear h62
  refine Zi<|Zp1 rfl rfl ?_
  rw [if_pos (.inl (by simpa using hq49))] at hr
  refine Zb<|Zd<|Zc<|Zu2 (Zf2 [] [] VT.st159 rfl rfl rfl rfl ⟨rfl, rfl⟩) ((le_val ρ 0 0))<|Zc<|Zx 0 VT.ty159 rfl rfl rfl rfl rfl<|Zc<|Zk rfl<|Za<|Zi<|Zf1<|Zd1<|Zh1 rfl rfl (.cons (.agg (i := 0) VT.ty159 rfl rfl rfl)<|.cons (.tmp rfl)<|.nil) ?_
  rw [hr]; first | done | rfl
 refine VW_drawR (G := Unit) [([], [1], []), ([0], [47], []), ([1, 0], [48], []), ([2, 1, 0], [49], []), (dn 4, [1, 50], []), (dn 5, [51, 50], []), (dn 6, [52, 50], []), (dn 7, [53, 50], []), (dn 8, [54, 50], []), (dn 4, [1, 50], []), ([9, 3, 2, 1, 0], [56, 50], []), ([10, 9, 3, 2, 1, 0], [57, 50], []), ([11, 10, 9, 3, 2, 1, 0], [58, 50], []), ([12, 11, 10, 9, 3, 2, 1, 0], [59, 50], []), (dn 14, [55, 60, 50], []), (dn 15, [50, 61], [])] [] (constSt _) [62] [47, 48, 49, 50, 51, 52, 53, 54, 55, 56, 57, 58, 59, 60, 61, 62] rfl VT.mix<|ZA (λ γ => Zf<|λ _ h1 => Ze<|Zn rfl<|Zl h1 z0)<|ZA (λ γ => Zw 0 0 rfl<|λ _ h47 => Ze<|Zn rfl<|Zx1 [.tmp 47, .const (.int .i64 (4))] rfl (Zp2 h47<|Zp2 rfl Zq2) VT.en108 (all_c ρ args _) z0)<|ZA (λ γ => Zw 1 0 rfl<|λ _ h48 => Ze<|Zn rfl<|Zl2 h48 z0)<|ZA (λ γ => Zw 2 0 rfl<|λ _ h49 => Ze<|Zn rfl<|Zl h49 z0)<|ZA (λ γ => Zf<|λ _ h1 => Zw 3 0 rfl<|λ _ h50 => Ze<|Zn (Zg rfl rfl h50 hq49)<|Zl h1 z0)<|Zp (Zb3 _) (Zq<|λ γ => Zw 4 0 rfl<|λ _ h51 => Zw 3 1 rfl<|λ _ h50 => Ze<|Zn (Zg rfl rfl h50 hq49)<|Zz (el := valX ρ (argAt args 0)) VT.sl152 h51 rfl (by omega) (get_arg (by omega))<|λ a52 => ⟨⟨_, rfl⟩, rfl⟩)<|Zp (Zb3 _) (Zq<|λ γ => Zw 5 0 rfl<|λ _ h52 => Zw 3 2 rfl<|λ _ h50 => Ze<|Zc3 h52<|λ a_52 e52 => Zn (Zg rfl rfl h50 hq49)<|Zw1 VT.fa159_2 e52 rfl ⟨⟨_, rfl⟩, rfl⟩)<|ZA (λ γ => Zw 6 0 rfl<|λ _ h53 => Zw 3 3 rfl<|λ _ h50 => Ze<|Zc3 h53<|λ a_53 e53 => Zn (Zg rfl rfl h50 hq49)<|Zz1 VT.ty152 e53 rfl z0)<|ZA (λ γ => Zw 7 0 rfl<|λ _ h54 => Zw 3 4 rfl<|λ _ h50 => Ze<|Zn (Zg rfl rfl h50 hq49)<|Zd2 (n := (argAt args 0).list.length) Tryz.underlying152 h54 (by simp)<|λ hl55 => z0)<|ZA (λ γ => Zf<|λ _ h1 => Zw 3 5 rfl<|λ _ h50 => Ze<|Zn (Zg rfl rfl h50 hq49)<|Zl h1 z0)<|Zp (Zb3 _) (Zq<|λ γ => Zw 9 0 rfl<|λ _ h56 => Zw 3 6 rfl<|λ _ h50 => Ze<|Zn (Zg rfl rfl h50 hq49)<|Zz (el := valX ρ (argAt args 1)) VT.sl152 h56 rfl (by omega) (get_arg (by omega))<|λ a57 => ⟨⟨_, rfl⟩, rfl⟩)<|Zp (Zb3 _) (Zq<|λ γ => Zw 10 0 rfl<|λ _ h57 => Zw 3 7 rfl<|λ _ h50 => Ze<|Zc3 h57<|λ a_57 e57 => Zn (Zg rfl rfl h50 hq49)<|Zw1 VT.fa159_2 e57 rfl ⟨⟨_, rfl⟩, rfl⟩)<|ZA (λ γ => Zw 11 0 rfl<|λ _ h58 => Zw 3 8 rfl<|λ _ h50 => Ze<|Zc3 h58<|λ a_58 e58 => Zn (Zg rfl rfl h50 hq49)<|Zz1 VT.ty152 e58 rfl z0)<|ZA (λ γ => Zw 12 0 rfl<|λ _ h59 => Zw 3 9 rfl<|λ _ h50 => Ze<|Zn (Zg rfl rfl h50 hq49)<|Zd2 (n := (argAt args 1).list.length) Tryz.underlying152 h59 (by simp)<|λ hl60 => z0)<|ZA (λ γ => Zw 8 5 rfl<|λ _ h55 => Zw 13 0 rfl<|λ _ h60 => Zw 3 10 rfl<|λ _ h50 => Ze<|Zn (Zg rfl rfl h50 hq49)<|Zj1 h55 h60 rfl z0)<|ZA (λ γ => Zw 3 11 rfl<|λ _ h50 => Zw 14 0 rfl<|λ _ h61 => Ze<|Zn rfl<|Zt1 h50 hq49 h61 z0)<|DrawP_nil<|λ γ => Zw 15 0 rfl<|λ r62 h62 => Ze ?_
 have e62 : r62 = some _ := h62
 subst e62
 clear h62
 refine Zi<|Zm1 rfl (λ h62 => ?_)<|λ h62 => ?_
 .
  rw [if_pos (.inr h62)] at hr
  refine Zb<|Zd<|Zc<|Zu2 (Zf2 [] [] VT.st159 rfl rfl rfl rfl ⟨rfl, rfl⟩) ((le_val ρ 0 0))<|Zc<|Zx 0 VT.ty159 rfl rfl rfl rfl rfl<|Zc<|Zk rfl<|Za<|Zi<|Zf1<|Zd1<|Zh1 rfl rfl (.cons (.agg (i := 0) VT.ty159 rfl rfl rfl)<|.cons (.tmp rfl)<|.nil) ?_
  rw [hr]; first | done | rfl
 have hq49 : allK 4 args = true := by simpa using hq49
 have hll : (argAt args 0).list.length = (argAt args 1).list.length := by omega
 rw [if_neg (by rw [hq49]; simp; omega)] at hr
 refine Zi1<|Zi<|Zb<|Zd<|Zc<|Zf2 [0] [.const (.int .i64 (4))] VT.st159 rfl rfl rfl rfl<|Zc<|Zb2 VT.zr159 _ rfl rfl<|λ g6 => (Zc<|Zx 0 VT.ty159 rfl rfl rfl rfl rfl<|Za<|Zi<|VW_cells 0 (ls' := [.int 4, .int 0, .sl 4 (some .nil) [], .raw (.pointer none)]) rfl ⟨V.le.refl _, rfl, V.le.refl _, rfl, V.le.nilTok 4, rfl, V.le.refl _, rfl, trivial⟩<|VW_nilBuf 159 4 ?_)
 have hl0 : (argAt args 0).list.length <= 4096 := hv _ (argAt_mem (by omega))
 refine Zb<|Zb<|Zd<|Zc<|Zl rfl<|Zc<|Zz (el := valX ρ (argAt args 0)) VT.sl152 rfl rfl (by omega) (get_arg (by omega))<|λ a66 => (Zc<|Zw1 VT.fa159_2 rfl rfl<|Zc<|Zz1 VT.ty152 rfl rfl<|Zc<|Zd2 (n := (argAt args 0).list.length) Tryz.underlying152 rfl (by simp)<|λ hl69 => (Zc<|Zl rfl<|Za<|Zi<|Zs<|Zi2 (ι := Nat × Tok) (λ (k, tk) => (argAt args 0).list.length - k) (λ (k, tk) => [(1, some (valsX ρ args)), (2, some (.ptr g2 0)), (4, some (.ptr g4 0)), (6, some (.ptr g6 0)), (68, some (valsX ρ (argAt args 0).list)), (69, some (.int (argAt args 0).list.length)), (70, some (.int k))]) (λ (k, tk) => [.buf tk 159 4 (lanesF i.n ((argAt args 0).list.take k) ((argAt args 1).list.take k)).length, .cells g6 159 [.int 4, .int 0, .sl 4 (some tk) ((lanesF i.n ((argAt args 0).list.take k) ((argAt args 1).list.take k)).map (valX ρ)), .raw (.pointer none)], .cells g4 159 VT.zs159, .cells g2 38 (insV i).leaves]) (λ (k, tk) => k <= (argAt args 0).list.length) (0, .nil) (Nat.zero_le _) ⟨rfl, rfl, rfl, rfl, rfl, rfl, rfl, trivial⟩ (Drops.buf (by simp [lanesF])<|Dk<|Dk<|Dk<|Zt2 _) ?_))
 rintro ⟨k, tk⟩ hk
 change k <= (argAt args 0).list.length at hk
 refine Zb<|Zd<|Zc<|Zj1 rfl rfl rfl<|Za<|Zi<|Zb<|Zn1 rfl (λ h71 => ?_)<|λ h71 => ?_
 .
  obtain ⟨x, hx⟩ := get_of_lt (argAt args 0).list k h71
  obtain ⟨y, hy⟩ := get_of_lt (argAt args 1).list k (by omega)
  have hla : lanesF i.n ((argAt args 0).list.take (k + 1)) ((argAt args 1).list.take (k + 1)) = lanesF i.n ((argAt args 0).list.take k) ((argAt args 1).list.take k) ++ [(binaryF i.n x.n y.n).1] := by rw [take_snoc hx, take_snoc hy, lanes_snoc _ _ _ _ _ (by simp; omega)]
  refine Zi1<|Zi<|Zb<|Zs<|Zb<|Zd<|Zc<|Zl rfl<|Zc<|Zz (el := valX ρ x) VT.sl152 rfl rfl (by omega) (get_valS hx)<|λ a73 => (Zc<|Za2 VT.ty159 rfl rfl<|Zc<|Zb2 VT.zr159 _ rfl rfl<|λ g8 => (Zc<|Zk rfl<|Zc<|Zx 0 VT.ty159 rfl rfl rfl rfl rfl<|Za<|Zi<|Zb<|VW_drawR (G := Nat) [([], [2], []), ([0], [76], []), ([], [8], []), ([2], [78], []), ([], [1], []), ([4], [80], []), ([5, 4], [81], []), ([6, 5, 4], [82], []), ([], [7], []), ([8, 7, 6, 5, 4], [83, 84], []), ([9, 8, 7, 6, 5, 4], [85], []), ([10, 9, 8, 7, 6, 5, 4], [86], []), (dn 12, [77, 79, 87], []), (dn 13, [88], []), (dn 14, [75], []), (dn 14, [75], []), ([], [], [0]), ([16, 14, 13, 12, 11, 10, 9, 8, 7, 6, 5, 4, 3, 2, 1, 0], [9, 89], []), (dn 18, [90], [])] [16, 17] (twoSt _ (λ g9 => .cells g9 159 VT.zs159 :: [.cells g8 159 (valX ρ x).leaves, .buf tk 159 4 (lanesF i.n ((argAt args 0).list.take k) ((argAt args 1).list.take k)).length, .cells g6 159 [.int 4, .int 0, .sl 4 (some tk) ((lanesF i.n ((argAt args 0).list.take k) ((argAt args 1).list.take k)).map (valX ρ)), .raw (.pointer none)], .cells g4 159 VT.zs159, .cells g2 38 (insV i).leaves]) (λ g9 _ => .cells g9 159 (valX ρ (binaryF i.n x.n y.n).1).leaves :: [.cells g8 159 (valX ρ x).leaves, .buf tk 159 4 (lanesF i.n ((argAt args 0).list.take k) ((argAt args 1).list.take k)).length, .cells g6 159 [.int 4, .int 0, .sl 4 (some tk) ((lanesF i.n ((argAt args 0).list.take k) ((argAt args 1).list.take k)).map (valX ρ)), .raw (.pointer none)], .cells g4 159 VT.zs159, .cells g2 38 (insV i).leaves])) [9, 10] [9, 10, 75, 76, 77, 78, 79, 80, 81, 82, 83, 84, 85, 86, 87, 88, 89, 90] rfl VT.mix<|Zp (Zm _) (Zm2 rfl<|λ _ => (λ γ => Zf<|λ _ h2 => Ze<|Zn rfl<|Zj VT.fa38_2 h2 z0))<|Zp (Zm _) (Zo rfl rfl ⟨(λ γ => Zw 0 0 rfl (λ _ h76 => Ze (Zn rfl (Zu 4 VT.ty3 h76 rfl rfl z0)))), (λ γ => Zw 0 0 rfl (λ _ h76 => Ze (Zn rfl (Zu 5 VT.ty3 h76 rfl rfl z0)))), trivial⟩)<|Zp (Zm _) (Zm2 rfl<|λ _ => (λ γ => Zf<|λ _ h8 => Ze<|Zn rfl<|Zj VT.fa159_1 h8 z0))<|Zp (Zm _) (Zo rfl rfl ⟨(λ γ => Zw 2 0 rfl (λ _ h78 => Ze (Zn rfl (Zu 0 VT.ty3 h78 rfl rfl z0)))), (λ γ => Zw 2 0 rfl (λ _ h78 => Ze (Zn rfl (Zu 1 VT.ty3 h78 rfl rfl z0)))), trivial⟩)<|Zp (Zm _) (Zm2 rfl<|λ _ => (λ γ => Zf<|λ _ h1 => Ze<|Zn rfl<|Zl h1 z0))<|Zp (Zb3 _) (Zm2 rfl<|λ _ => (λ γ => Zw 4 0 rfl<|λ _ h80 => Ze<|Zn rfl<|Zz (el := valX ρ (argAt args 1)) VT.sl152 h80 rfl (by omega) (get_arg (by omega))<|λ a81 => ⟨⟨_, rfl⟩, rfl⟩))<|Zp (Zb3 _) (Zm2 rfl<|λ _ => (λ γ => Zw 5 0 rfl<|λ _ h81 => Ze<|Zc3 h81<|λ a_81 e81 => Zn rfl<|Zw1 VT.fa159_2 e81 rfl ⟨⟨_, rfl⟩, rfl⟩))<|Zp (Zm _) (Zm2 rfl<|λ _ => (λ γ => Zw 6 0 rfl<|λ _ h82 => Ze<|Zc3 h82<|λ a_82 e82 => Zn rfl<|Zz1 VT.ty152 e82 rfl z0))<|Zp (Zm _) (Zm2 rfl<|λ _ => (λ γ => Zf<|λ _ h7 => Ze<|Zn rfl<|Zl h7 z0))<|Zp (Zb3 _) (Zm2 rfl<|λ _ => (λ γ => Zw 7 1 rfl<|λ _ h83 => Zw 8 0 rfl<|λ _ h84 => Ze<|Zn rfl<|Zz (el := valX ρ y) VT.sl152 h83 h84 (by omega) (get_valS hy)<|λ a85 => ⟨⟨_, rfl⟩, rfl⟩))<|Zp (Zb3 _) (Zm2 rfl<|λ _ => (λ γ => Zw 9 0 rfl<|λ _ h85 => Ze<|Zc3 h85<|λ a_85 e85 => Zn rfl<|Zw1 VT.fa159_1 e85 rfl ⟨⟨_, rfl⟩, rfl⟩))<|Zp (Zm _) (Zm2 rfl<|λ _ => (λ γ => Zw 10 0 rfl<|λ _ h86 => Ze<|Zc3 h86<|λ a_86 e86 => Zn rfl<|Zz1 VT.ty3 e86 rfl z0))<|Zp (Zm _) (Zm2 rfl<|λ _ => (λ γ => Zw 1 10 rfl<|λ _ h77 => Zw 3 8 rfl<|λ _ h79 => Zw 11 0 rfl<|λ _ h87 => Ze<|Zn rfl<|Zx1 [.tmp 77, .tmp 79, .tmp 87] rfl (Zp2 h77<|Zp2 h79<|Zp2 h87 Zq2) VT.en109 (binary_c ρ i.n x.n y.n) z0))<|Zp (Zm _) (Zm2 rfl<|λ _ => (λ γ => Zw 12 0 rfl<|λ _ h88 => Ze<|Zn rfl<|Zl h88 z0))<|Zp (Zm _) (Zm2 rfl<|λ _ => (λ γ => Zw 13 0 rfl<|λ _ h75 => Ze<|Zn rfl<|Zg2 h75 rfl z0))<|Zp (Zm _) (Zm2 rfl<|λ _ => (λ γ => Zw 13 1 rfl<|λ _ h75 => Ze<|Zn rfl<|Zg2 h75 rfl z0))<|Zp (Zw2<|λ g9 => .ptr g9 0) (Zo2 0 rfl<|λ γ => Ze<|Zn rfl<|Zb2 VT.zr159 _ rfl rfl<|λ g9 => ⟨g9, ⟨g9, rfl, rfl⟩, rfl⟩)<|Zp Za3 (Zo2 1 rfl<|λ γ => Zw 16 0 rfl<|λ _ h9 => Zw 14 2 rfl<|λ _ h89 => Ze<|Zx2 h9<|λ e9 => Zn rfl<|Zx 0 VT.ty159 e9 h89 rfl rfl rfl ⟨default, trivial, rfl⟩)<|Zp (Zm _) (Zo rfl rfl ⟨(λ γ => Zw 15 2 rfl (λ _ h90 => Ze (Zn rfl (Zk h90 z0)))), trivial⟩)<|DrawP_nil<|λ γ => Zw 16 2 rfl<|λ r9 h9 => Zw 18 0 rfl<|λ r10 h10 => Ze ?_))
  have e9 : r9 = some _ := Zd3 h9
  subst e9
  clear h9
  have e10 : r10 = some _ := h10
  subst e10
  clear h10
  refine Zi<|Zd<|Zc<|Zj VT.fa159_2 rfl<|Zc<|Zu 3 VT.ty152 rfl rfl rfl<|Zc<|Zu2 (Zv 0 VT.ty159 rfl rfl rfl ⟨rfl, rfl⟩) ((V.le.refl _ : V.le _ (valX ρ (binaryF i.n x.n y.n).1)))<|Zc<|Zk3 [.tmp 93] VT.sl152 rfl rfl rfl rfl (by simp [valX_fit])<|Zc<|Zi3 2 _ VT.sl152 rfl rfl rfl (by simp) (by have := lanes_len i.n ((argAt args 0).list.take k) ((argAt args 1).list.take k); rw [List.length_take] at this; simp; omega)<|λ t95 => (Zc<|Zj VT.fa159_2 rfl<|Zc<|Zy 3 VT.ty152 rfl rfl rfl rfl rfl<|Za<|Zb1<|Zi<|Zd<|Zc<|Zh2 rfl rfl (by omega)<|Zc<|Zl rfl<|Za<|Zi ?_)
  exact ⟨(k + 1, t95), (by (try simp only []); omega), (by omega), ⟨rfl, rfl, rfl, rfl, rfl, rfl, rfl, trivial⟩, (Dd (Dd (Drops.buf (by rw [hla]; simp) (Drops.keepE (by rw [hla, List.map_append]; rfl) (Dk (Dk (Zt2 _)))))))⟩
 have hke : k = (argAt args 0).list.length := by omega
 subst hke
 have ht1 : (argAt args 1).list.take (argAt args 0).list.length = (argAt args 1).list := by rw [hll, List.take_length]
 have ht2 : lanesF i.n (argAt args 0).list (argAt args 1).list = lanesF i.n ((argAt args 0).list.take (argAt args 0).list.length) ((argAt args 1).list.take (argAt args 0).list.length) := by rw [ht1, List.take_length]
 rw [ht2] at hr
 refine Zt<|Ze1<|Ze1<|Zc1<|Zi<|Zb<|Zd<|Zc<|Zu2 (Zv 1 VT.ty159 rfl rfl rfl ⟨rfl, rfl⟩) ((le_vec ρ tk _))<|Zc<|Zx 2 VT.ty159 rfl rfl rfl rfl rfl<|Zc<|Zk rfl<|Za<|Zi<|Zf1<|Zh1 rfl rfl (.cons (.agg (i := 2) VT.ty159 rfl rfl rfl)<|.cons (.tmp rfl)<|.nil) ?_
 rw [hr]; first | done | rfl
theorem allocate_c (gm : Nat) (u : SUnit) (stk ov : V) (M : Mach) (ρ : Nat -> Nat) (size fill : Val) (h2 : 0 <= M.left) (h3 : M.left <= 1000000) : VCalls Tryz.prog 125 [.ptr gm 0, valX ρ size, valX ρ fill] [mcells gm u stk ov M] λ r S' => (r = .tup [valX ρ (allocF size fill M).2.1, .int (allocF size fill M).2.2] /\ S' = [mcells gm u stk ov (allocF size fill M).1] /\ (allocF size fill M).1.heap = M.heap) \/ ∃ ga gr, r = .tup [.agg [.int 3, .int 0, .sl 4 none [], .ptr ga 0], .int 0] /\ (allocF size fill M).2 = (.mk 3 0 [] (some M.heap.length), 0) /\ (allocF size fill M).1.heap = M.heap ++ [Ya size.n.toNat fill] /\ S' = [mcells gm u stk ov (allocF size fill M).1, acell ga gr size.n.toNat, arow ρ gr (Ya size.n.toNat fill)] := by
 refine VCalls_drops ?_
 have hr := allocF.eq_def size fill M
 refine V_start (nt := 48) Tryz.func125 rfl rfl rfl ?_
 refine Zb<|Zd<|Zc<|Zc2 rfl (valX_flat ρ size)<|λ g4 => (Zc<|Zc2 rfl (valX_flat ρ fill)<|λ g5 => (Zc<|Zb2 VT.zr159 _ rfl rfl<|λ g6 => (Zc<|Zk rfl<|Za<|Zi<|Zb<|Zs<|Zb<|Zd<|Zc<|Zj VT.fa159_0 rfl<|Zc<|Zu 2 VT.ty3 rfl rfl rfl<|Zc<|Zj1 rfl rfl rfl<|Zc<|Zk rfl<|Za<|Zi<|Zm1 rfl (λ h10 => ?_)<|λ h10 => ?_)))
 .
  rw [if_pos h10] at hr
  refine Zb<|Zd<|Zc<|Zu2 (Zf2 [] [] VT.st159 rfl rfl rfl rfl ⟨rfl, rfl⟩) ((le_val ρ 0 0))<|Zc<|Zx 0 VT.ty159 rfl rfl rfl rfl rfl<|Zc<|Zk rfl<|Za<|Zi<|Zf1<|Za1<|Zd1<|Zh1 rfl rfl (.cons (.agg (i := 0) VT.ty159 rfl rfl rfl)<|.cons (.tmp rfl)<|.nil)<|⟨_, (Dd (Dd (Dd (Dk (Zt2 _))))), .inl ⟨?_, ?_, ?_⟩⟩
  . rw [hr]; first | done | rfl
  . rw [hr]; first | done | rfl
  rw [hr]; first | done | rfl | (unfold payF; split <;> rfl)
 rw [if_neg (by omega)] at hr
 refine Zb<|Zd<|Zc<|Zj VT.fa159_1 rfl<|Zc<|Zu 2 VT.ty3 rfl rfl rfl<|Zc<|Zj1 rfl rfl rfl<|Zc<|Zl rfl<|Zj2 (q := 19) rfl (λ hq19 => ?_)<|λ hq19 => ?_
 .
  have hx18 := decT hq19
  refine Zk0 hq19<|Zk0 hq19<|Zk0 hq19<|Zc<|Zs1 rfl hq19 rfl<|Zc<|Zk rfl<|Za<|Zi<|Zp1 rfl rfl ?_
  rw [if_pos (.inl hx18)] at hr
  refine Zb<|Zd<|Zc<|Zu2 (Zf2 [] [] VT.st159 rfl rfl rfl rfl ⟨rfl, rfl⟩) ((le_val ρ 0 0))<|Zc<|Zx 0 VT.ty159 rfl rfl rfl rfl rfl<|Zc<|Zk rfl<|Za<|Zi<|Zf1<|Za1<|Zd1<|Zh1 rfl rfl (.cons (.agg (i := 0) VT.ty159 rfl rfl rfl)<|.cons (.tmp rfl)<|.nil)<|⟨_, (Dd (Dd (Dd (Dk (Zt2 _))))), .inl ⟨?_, ?_, ?_⟩⟩
  . rw [hr]; first | done | rfl
  . rw [hr]; first | done | rfl
  rw [hr]; first | done | rfl | (unfold payF; split <;> rfl)
 have hx18 := decF hq19
 refine Zc (Zj VT.fa159_1 rfl ?_)<|Zy0 hq19
 refine Zc (Zu 2 VT.ty3 rfl rfl rfl ?_)<|Zy0 hq19
 refine Zc (Zj1 rfl rfl rfl ?_)<|Zy0 hq19
 refine Zc<|Zt1 rfl hq19 rfl<|Zc<|Zk rfl<|Za<|Zi<|Zn1 rfl (λ h15 => ?_)<|λ h15 => ?_
 .
  rw [if_pos (.inr (by omega))] at hr
  refine Zb<|Zd<|Zc<|Zu2 (Zf2 [] [] VT.st159 rfl rfl rfl rfl ⟨rfl, rfl⟩) ((le_val ρ 0 0))<|Zc<|Zx 0 VT.ty159 rfl rfl rfl rfl rfl<|Zc<|Zk rfl<|Za<|Zi<|Zf1<|Za1<|Zd1<|Zh1 rfl rfl (.cons (.agg (i := 0) VT.ty159 rfl rfl rfl)<|.cons (.tmp rfl)<|.nil)<|⟨_, (Dd (Dd (Dd (Dk (Zt2 _))))), .inl ⟨?_, ?_, ?_⟩⟩
  . rw [hr]; first | done | rfl
  . rw [hr]; first | done | rfl
  rw [hr]; first | done | rfl | (unfold payF; split <;> rfl)
 rw [if_neg (by omega)] at hr
 refine Zi1<|Zb1<|Zi<|Zb<|Zd<|Zc<|Zl rfl<|Zc<|Zj VT.fa159_1 rfl<|Zc<|Zu 2 VT.ty3 rfl rfl rfl<|Zc<|Zm3 [.tmp 25, .tmp 27] [_] _ rfl rfl VT.en53 (Zv2 (i := 3) rfl) (pay_c gm u stk ov M size.n (by omega) (by omega) h2 h3) ?_
 rintro r Sa rfl
 refine Za<|Zi<|Zb<|Zb<|Zd<|Zc<|Zl rfl<|Zc<|Zv1 rfl<|Zc<|Zj VT.fa121_3 rfl<|Zc<|Zu 0 VT.ty4 rfl rfl rfl<|Za<|Zi<|Zr1 rfl (λ h32 => ?_)<|λ h32 => ?_
 .
  rw [if_pos h32] at hr
  refine Zb<|Zd<|Zc<|Zu2 (Zf2 [] [] VT.st159 rfl rfl rfl rfl ⟨rfl, rfl⟩) ((le_val ρ 0 0))<|Zc<|Zx 1 VT.ty159 rfl rfl rfl rfl rfl<|Zc<|Zk rfl<|Za<|Zi<|Zf1<|Zd1<|Zh1 rfl rfl (.cons (.agg (i := 1) VT.ty159 rfl rfl rfl)<|.cons (.tmp rfl)<|.nil)<|⟨_, (Dk (Dd (Dd (Dd (Zt2 _))))), .inl ⟨?_, ?_, ?_⟩⟩
  . rw [hr]; first | done | rfl
  . rw [hr]; first | done | rfl
  rw [hr]; first | done | rfl | (unfold payF; split <;> rfl)
 rw [if_neg (by rw [h32]; decide)] at hr
 have hhp : (payF size.n M).heap = M.heap := by unfold payF; split <;> rfl
 refine Zi1<|Zi<|Zb<|Zd<|Zc<|Zj VT.fa159_1 rfl<|Zc<|Zu 3 VT.ty3 rfl rfl rfl<|Zc<|V_makeRow (valX ρ Val.zero) (zero_rep ρ) rfl VT.sl152 rfl rfl (by omega) (by omega)<|λ g36 => (Zc<|Zb2 VT.zr152 _ rfl rfl<|λ g8 => (Zc<|Zy 0 VT.ty152 rfl rfl rfl rfl rfl<|Za<|Zi<|Zb<|Zb<|Zd<|Zc<|Zu 0 VT.ty152 rfl rfl rfl<|Zc<|V_len_raw Tryz.underlying152 rfl<|Zc<|Zl rfl<|Za<|Zi<|Zs<|Zi2 (ι := Nat × List Val) (λ (k, o) => size.n.toNat - k) (λ (k, o) => [(5, some (.ptr g5 0)), (6, some (.ptr g6 0)), (8, some (.ptr g8 0)), (38, some (.int size.n.toNat)), (39, some (.int k))]) (λ (k, o) => [acell g8 g36 size.n.toNat, arow ρ g36 o, mcells gm u stk ov (payF size.n M), .cells g6 159 VT.zs159, .cells g5 159 (valX ρ fill).leaves]) (λ (k, o) => k <= size.n.toNat /\ o.length = size.n.toNat /\ o.take k = Ya k fill) (0, Ya size.n.toNat Val.zero) ⟨Nat.zero_le _, List.length_replicate, rfl⟩ ⟨rfl, rfl, rfl, rfl, rfl, trivial⟩ (Dk<|Drops.keepE (by rw [arow, rowV, List.map_replicate])<|Dk<|Dk<|Dk<|Dd<|Zt2 _) ?_))
 rintro ⟨k, o⟩ hA
 change k <= size.n.toNat /\ o.length = size.n.toNat /\ o.take k = Ya k fill at hA
 obtain ⟨hk, hlo, hq⟩ := hA
 refine Zb<|Zd<|Zc<|Zj1 rfl rfl rfl<|Za<|Zi<|Zb<|Zn1 rfl (λ h40 => ?_)<|λ h40 => ?_
 .
  refine Zi1<|Zi<|Zb<|Zs<|Zb<|Zd<|Zc<|Zl rfl<|Zc<|Zk rfl<|Za<|Zi<|Zd<|Zc<|Zu 0 VT.ty152 rfl rfl rfl<|Zc<|Zl rfl<|Zc<|Zv 4 VT.ty159 rfl rfl rfl<|Zc<|Zr2 VT.sl152 rfl rfl (by omega) (by omega)<|Zc<|Zg3 1 k VT.ty159 rfl (by simp) rfl rfl rfl (rowV_nil _ _) (vals_fit _ _) (by rw [List.length_map]; omega)<|Za<|Zb1<|Zi<|Zd<|Zc<|Zh2 rfl rfl (by omega)<|Zc<|Zl rfl<|Za<|Zi ?_
  exact ⟨(k + 1, o.set k fill), (by (try simp only []); omega), ⟨by omega, by rw [List.length_set]; exact hlo, by rw [take_set_succ (by omega), hq, List.replicate_succ']⟩, ⟨rfl, rfl, rfl, rfl, rfl, trivial⟩, (Dk (Drops.keepE (congrArg (Own.cells g36 159) (rowV_set ρ o k fill)) (Dk (Dk (Dk (Zt2 _))))))⟩
 have hke : k = size.n.toNat := by omega
 subst hke
 rw [List.take_of_length_le (by omega)] at hq
 subst hq
 refine Zt<|Ze1<|Ze1<|Zc1<|Zi<|Zb<|Zd<|Zc<|Zu2 (Zf2 [0, 3] [.const (.int .i64 (3)), .tmp 8] VT.st159 rfl rfl rfl rfl ⟨rfl, rfl⟩) ((V.le.agg (xs := [.int 3, .int 0, V.nilSl, .ptr g8 0]) ⟨V.le.refl _, rfl, V.le.refl _, rfl, V.le.nil 4, rfl, V.le.refl _, rfl, trivial⟩ : V.le _ (.agg [.int 3, .int 0, .sl 4 none [], .ptr g8 0])))<|Zc<|Zx 3 VT.ty159 rfl rfl rfl rfl rfl<|Zc<|Zk rfl<|Za<|Zi<|Zf1<|Zh1 rfl rfl (.cons (.agg (i := 3) VT.ty159 rfl rfl rfl)<|.cons (.tmp rfl)<|.nil)<|⟨_, (Drops.pick 2 rfl rfl (Drops.pick 0 rfl rfl (Drops.pick 0 rfl rfl (Drops.nil _)))), .inr ⟨g8, g36, rfl, ?_, ?_, ?_⟩⟩
 . rw [hr, <- hhp]; first | done | rfl
 . rw [hr, <- hhp]; first | done | rfl
 rw [hr]; first | done | rfl
end Go.Proofs.YtpkbgamoboojaaaGreat.X6
