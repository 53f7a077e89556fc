/- Walks, printed by walk.py. -/
import Derived.Test.YtmioemdikgdpkaaVT
import Derived.Test.YtmioemdikgdpkaaS2
import Derived.Test.YtmioemdikgdpkaaS5
import Derived.Test.YtmioemdikgdpkaaX1
import Derived.Test.YtmioemdikgdpkaaX2
import Derived.Test.YtmioemdikgdpkaaX3
import Derived.Test.YtmioemdikgdpkaaX4
import Derived.Test.YtmioemdikgdpkaaX5
set_option linter.unusedVariables false
set_option linter.unusedSimpArgs false
namespace Go.Proofs.Ytmioemdikgdpkaa.X6
open Go.VL Go.SM Go.Proofs.Ytmioemdikgdpkaa Go.Proofs.Ytmioemdikgdpkaa.X1 Go.Proofs.Ytmioemdikgdpkaa.X2 Go.Proofs.Ytmioemdikgdpkaa.X3 Go.Proofs.Ytmioemdikgdpkaa.X4 Go.Proofs.Ytmioemdikgdpkaa.X5

theorem bneT {a b : Int} (h : (a != b) = true) : a ≠ b := by simpa using h
theorem bneF {a b : Int} (h : (a != b) = false) : a = b := by simpa using h
theorem beqT {a b : Int} (h : (a == b) = true) : a = b := by simpa using h
theorem beqF {a b : Int} (h : (a == b) = false) : a ≠ b := by simpa using h
theorem decT {p : Prop} [Decidable p] (h : decide p = true) : p := of_decide_eq_true h
theorem decF {p : Prop} [Decidable p] (h : decide p = false) : ¬ p := of_decide_eq_false h
theorem le_vec (ρ : Nat → Nat) (tk : Tok) (l : List Val) : V.le (.agg [.int 4, .int 0, .sl 4 (some tk) (l.map (valX ρ)), .raw (.pointer none)]) (valX ρ (.mk 4 0 l none)) := by
  have h := valsX_eq ρ l
  show V.le _ (.agg [.int 4, .int 0, valsX ρ l, .raw (.pointer none)])
  rw [h]
  exact V.le.agg ⟨V.le.refl _, rfl, V.le.refl _, rfl, V.le.strip, rfl, V.le.refl _, rfl, trivial⟩
abbrev outV (tok : Tok) (l : List Int) : V := .sl 1 (some tok) (l.map V.int)
abbrev obuf (tok : Tok) (l : List Int) : Own := .buf tok 3 1 l.length
abbrev acell (ga gr n : Nat) : Own := .cells ga 145 [.raw (.slice (some ⟨gr, 0, none⟩) n n)]
abbrev arow (ρ : Nat → Nat) (gr : Nat) (l : List Val) : Own := .cells gr 152 (rowV ρ l)
def arrsS (ρ : Nat → Nat) : List (Nat × Nat) → List (List Val) → Store
  | x :: A, l :: h => acell x.1 x.2 l.length :: arow ρ x.2 l :: arrsS ρ A h
  | _, _ => []
theorem arrsS_perm (ρ : Nat → Nat) : ∀ {A : List (Nat × Nat)} {h : List (List Val)} {k : Nat} {x : Nat × Nat} {l : List Val}, A[k]? = some x → h[k]? = some l → (arrsS ρ A h).Perm (acell x.1 x.2 l.length :: arow ρ x.2 l :: arrsS ρ (A.eraseIdx k) (h.eraseIdx k))
  | y :: A, m :: h, 0, x, l, h1, h2 => by
    simp at h1 h2
    subst h1 h2
    exact .refl _
  | y :: A, m :: h, k + 1, x, l, h1, h2 => by
    simp at h1 h2
    have ih := arrsS_perm ρ h1 h2
    rw [arrsS, List.eraseIdx_cons_succ, List.eraseIdx_cons_succ, arrsS]
    refine ((ih.cons _).cons _).trans ?_
    refine (List.Perm.cons _ (List.Perm.swap _ _ _)).trans ?_
    refine (List.Perm.swap _ _ _).trans (List.Perm.cons _ ?_)
    refine (List.Perm.cons _ (List.Perm.swap _ _ _)).trans ?_
    exact List.Perm.swap _ _ _
  | [], _, _, _, _, h1, _ => by simp at h1
  | _ :: _, [], _, _, _, _, h2 => by simp at h2
theorem arrsS_set (ρ : Nat → Nat) {A : List (Nat × Nat)} {h : List (List Val)} {k : Nat} {x : Nat × Nat} {l l' : List Val} (h1 : A[k]? = some x) (h2 : h[k]? = some l) (hl : l'.length = l.length) : (acell x.1 x.2 l.length :: arow ρ x.2 l' :: arrsS ρ (A.eraseIdx k) (h.eraseIdx k)).Perm (arrsS ρ A (h.set k l')) := by
  have h3 : (h.set k l')[k]? = some l' := by rw [List.getElem?_set, if_pos rfl, if_pos (List.getElem?_eq_some_iff.1 h2).1]
  have := (arrsS_perm ρ h1 h3).symm
  rwa [erase_set, hl] at this
theorem arrsS_snoc (ρ : Nat → Nat) (x : Nat × Nat) (l : List Val) : ∀ (A : List (Nat × Nat)) (h : List (List Val)), A.length = h.length → arrsS ρ (A ++ [x]) (h ++ [l]) = arrsS ρ A h ++ [acell x.1 x.2 l.length, arow ρ x.2 l]
  | [], [], _ => rfl
  | y :: A, m :: h, hl => by
    simp at hl
    rw [List.cons_append, List.cons_append, arrsS, arrsS_snoc ρ x l A h hl, arrsS, List.cons_append, List.cons_append]
  | [], _ :: _, hl => by simp at hl
  | _ :: _, [], hl => by simp at hl
theorem rowV_ext {nf nh : Nat} {ρ ρ' : Nat → Nat} (h : ∀ k, k < nh → ρ k = ρ' k) {l : List Val} (hv : ∀ v ∈ l, okV nf nh v = true) : rowV ρ l = rowV ρ' l := by
  unfold rowV
  rw [List.map_congr_left fun v hm => valX_ext h (hv v hm)]
theorem arrsS_ext {nf nh : Nat} {ρ ρ' : Nat → Nat} (h : ∀ k, k < nh → ρ k = ρ' k) : ∀ (A : List (Nat × Nat)) {H : List (List Val)}, (∀ l ∈ H, ∀ v ∈ l, okV nf nh v = true) → arrsS ρ A H = arrsS ρ' A H
  | x :: A, l :: H, hv => by
    rw [arrsS, arrsS, arrsS_ext h A fun l' hl => hv l' (List.mem_cons_of_mem _ hl)]
    unfold arow
    rw [rowV_ext h (hv l (List.mem_cons_self ..))]
  | [], _, _ => by simp [arrsS]
  | _ :: _, [], _ => rfl
theorem encV_ext {nf nh : Nat} {ρ ρ' : Nat → Nat} (h : ∀ k, k < nh → ρ k = ρ' k) {m : Vals} (hv : ∀ e ∈ m, okV nf nh e.2 = true) : encV ρ m = encV ρ' m := List.map_congr_left fun e he => by rw [valX_ext h (hv e he)]

set_option maxRecDepth 100000 in
set_option maxHeartbeats 8000000 in
theorem object_c (ρ : Nat → Nat) (i : SIns) (args : List Val) (h1 : 1 ≤ args.length) (hop : elemJ i.op [10, 11, 12, 21] = true) (h2 : i.op = 21 → 2 ≤ args.length) (hn : i.op = 11 → 0 ≤ i.n) : VPure Try.prog 113 [insV i, valsX ρ args] (.tup [valX ρ (objectF i args).1, .int (objectF i args).2]) := by
 have hr := objectF.eq_def i args
 dsimp only at hr
 have hop2 : i.op = 10 ∨ i.op = 11 ∨ i.op = 12 ∨ i.op = 21 := by simpa [elemJ] using hop
 refine V_start (nt := 89) Try.func113 rfl rfl rfl ?_
 refine VW_seq ?_
 refine VW_region ?_
 refine VOps_cons rfl rfl (V_box rfl rfl (fun g2 => ?_))
 refine VOps_cons rfl rfl (V_alloc VT.zr152 _ rfl rfl (fun g4 => ?_))
 refine VOps_cons rfl rfl (V_assign rfl ?_)
 refine VOps_nil ?_
 refine Then_n ?_
 refine VW_seq ?_
 refine VW_region ?_
 refine VOps_cons rfl rfl (V_move rfl ?_)
 refine VOps_cons rfl rfl (V_indexAddr (el := valX ρ (argAt args 0)) VT.sl145 rfl rfl (by omega) (get_arg (by omega)) (fun a8 => ?_))
 refine VOps_cons rfl rfl (V_load_ep_agg VT.ty152 rfl rfl ?_)
 refine VOps_cons rfl rfl (V_alloc VT.zr152 _ rfl rfl (fun g6 => ?_))
 refine VOps_cons rfl rfl (V_store_agg 0 VT.ty152 rfl rfl rfl rfl rfl ?_)
 refine VOps_nil ?_
 refine Then_n ?_
 refine VW_seq ?_
 refine VW_block ?_
 refine VW_seq ?_
 refine VW_region ?_
 refine VOps_cons rfl rfl (V_fieldAddr VT.fa25_1 rfl ?_)
 refine VOps_cons rfl rfl (V_load 2 VT.ty3 rfl rfl rfl ?_)
 refine VOps_cons rfl rfl (V_bin rfl rfl rfl ?_)
 refine VOps_cons rfl rfl (V_assign rfl ?_)
 refine VOps_nil ?_
 refine Then_n ?_
 refine VW_condEq rfl (fun h10 => ?_) (fun h10 => ?_)
 ·
  rw [if_pos h10] at hr
  refine VW_seq ?_
  refine VW_seq ?_
  refine VW_region ?_
  refine VOps_cons rfl rfl (V_fieldAddr VT.fa152_0 rfl ?_)
  refine VOps_cons rfl rfl (V_load 0 VT.ty3 rfl rfl rfl ?_)
  refine VOps_cons rfl rfl (V_bin rfl rfl rfl ?_)
  refine VOps_cons rfl rfl (V_move rfl ?_)
  refine VOps_split (q := 17) rfl (fun hq17 => ?_) (fun hq17 => ?_)
  ·
   have hx17 := bneT hq17
   refine VOps_cons (want_of rfl rfl rfl hq17) rfl (V_fieldAddr VT.fa152_0 rfl ?_)
   refine VOps_cons (want_of rfl rfl rfl hq17) rfl (V_load 0 VT.ty3 rfl rfl rfl ?_)
   refine VOps_cons (want_of rfl rfl rfl hq17) rfl (V_bin rfl rfl rfl ?_)
   refine VOps_cons rfl rfl (V_pickT rfl hq17 rfl ?_)
   refine VOps_cons rfl rfl (V_move rfl ?_)
   refine VOps_split (q := 22) rfl (fun hq22 => ?_) (fun hq22 => ?_)
   ·
    have hx22 := bneT hq22
    refine VOps_skipU (.inl (skip_of rfl rfl rfl hq22)) rfl ?_
    refine VOps_skipU (.inl (skip_of rfl rfl rfl hq22)) rfl ?_
    refine VOps_skipU (.inl (skip_of rfl rfl rfl hq22)) rfl ?_
    refine VOps_skipU (.inl (skip_of rfl rfl rfl hq22)) rfl ?_
    refine VOps_skipU (.inl (skip_of rfl rfl rfl hq22)) rfl ?_
    refine VOps_skipU (.inl (skip_of rfl rfl rfl hq22)) rfl ?_
    refine VOps_cons rfl rfl (V_pickT rfl hq22 rfl ?_)
    refine VOps_nil ?_
    refine Then_n ?_
    refine VW_condT rfl rfl ?_
    rw [if_pos (by omega)] at hr
    refine VW_seq ?_
    refine VW_region ?_
    refine VOps_cons rfl rfl (VOp_as (V_build [] [] VT.st152 rfl rfl rfl rfl ⟨rfl, rfl⟩) ((le_val ρ 0 0)) ?_)
    refine VOps_cons rfl rfl (V_store_agg 1 VT.ty152 rfl rfl rfl rfl rfl ?_)
    refine VOps_cons rfl rfl (V_assign rfl ?_)
    refine VOps_nil ?_
    refine Then_n ?_
    refine VW_ret ?_
    refine Then_r (InBlock_r (Then_r (VRet_many rfl rfl (.cons (.agg (i := 1) VT.ty152 rfl rfl rfl) (.cons (.tmp rfl) (.nil))) ?_)))
    rw [hr]; first | done | rfl
   ·
    have hx22 := bneF hq22
    refine VOps_cons (want_of rfl rfl rfl hq22) rfl (V_fieldAddr VT.fa25_2 rfl ?_)
    refine VOps_cons (want_of rfl rfl rfl hq22) rfl (V_load 2 VT.ty3 rfl rfl rfl ?_)
    refine VOps_cons (want_of rfl rfl rfl hq22) rfl (V_fieldAddr VT.fa152_2 rfl ?_)
    refine VOps_cons (want_of rfl rfl rfl hq22) rfl (V_load 0 VT.ty145 rfl rfl rfl ?_)
    refine VOps_cons (want_of rfl rfl rfl hq22) rfl (V_lenN (n := (argAt args 0).list.length) Try.underlying145 rfl (by simp) (fun hl27 => ?_))
    refine VOps_cons (want_of rfl rfl rfl hq22) rfl (V_bin rfl rfl rfl ?_)
    refine VOps_cons rfl rfl (V_pickF rfl hq22 rfl ?_)
    refine VOps_nil ?_
    refine Then_n ?_
    refine VW_condP rfl (fun h29 => ?_) (fun h29 => ?_)
    ·
     rw [if_pos (by omega)] at hr
     refine VW_seq ?_
     refine VW_region ?_
     refine VOps_cons rfl rfl (VOp_as (V_build [] [] VT.st152 rfl rfl rfl rfl ⟨rfl, rfl⟩) ((le_val ρ 0 0)) ?_)
     refine VOps_cons rfl rfl (V_store_agg 1 VT.ty152 rfl rfl rfl rfl rfl ?_)
     refine VOps_cons rfl rfl (V_assign rfl ?_)
     refine VOps_nil ?_
     refine Then_n ?_
     refine VW_ret ?_
     refine Then_r (InBlock_r (Then_r (VRet_many rfl rfl (.cons (.agg (i := 1) VT.ty152 rfl rfl rfl) (.cons (.tmp rfl) (.nil))) ?_)))
     rw [hr]; first | done | rfl
    ·
     rw [if_neg (by omega)] at hr
     refine VW_skip ?_
     refine Then_n ?_
     refine VW_seq ?_
     refine VW_region ?_
     refine VOps_cons rfl rfl (V_fieldAddr VT.fa152_2 rfl ?_)
     refine VOps_cons rfl rfl (V_load 0 VT.ty145 rfl rfl rfl ?_)
     refine VOps_cons rfl rfl (V_fieldAddr VT.fa25_2 rfl ?_)
     refine VOps_cons rfl rfl (V_load 2 VT.ty3 rfl rfl rfl ?_)
     refine VOps_cons rfl rfl (V_indexAddr (el := valX ρ (argAt (argAt args 0).list i.n.toNat)) VT.sl145 rfl rfl (hn h10) (get_arg (by have := hn h10; omega)) (fun a35 => ?_))
     refine VOps_cons rfl rfl (V_load_ep_agg VT.ty152 rfl rfl ?_)
     refine VOps_cons rfl rfl (V_store_agg 1 VT.ty152 rfl rfl rfl rfl rfl ?_)
     refine VOps_cons rfl rfl (V_assign rfl ?_)
     refine VOps_nil ?_
     refine Then_n ?_
     refine VW_ret ?_
     refine InBlock_r (Then_r (VRet_many rfl rfl (.cons (.agg (i := 1) VT.ty152 rfl rfl rfl) (.cons (.tmp rfl) (.nil))) ?_))
     rw [hr]; first | done | rfl
  ·
   have hx17 := bneF hq17
   refine VOps_skipU (.inl (skip_of rfl rfl rfl hq17)) rfl ?_
   refine VOps_skipU (.inl (skip_of rfl rfl rfl hq17)) rfl ?_
   refine VOps_skipU (.inl (skip_of rfl rfl rfl hq17)) rfl ?_
   refine VOps_cons rfl rfl (V_pickF rfl hq17 rfl ?_)
   refine VOps_cons rfl rfl (V_move rfl ?_)
   refine VOps_cons (want_of rfl rfl rfl rfl) rfl (V_fieldAddr VT.fa25_2 rfl ?_)
   refine VOps_cons (want_of rfl rfl rfl rfl) rfl (V_load 2 VT.ty3 rfl rfl rfl ?_)
   refine VOps_cons (want_of rfl rfl rfl rfl) rfl (V_fieldAddr VT.fa152_2 rfl ?_)
   refine VOps_cons (want_of rfl rfl rfl rfl) rfl (V_load 0 VT.ty145 rfl rfl rfl ?_)
   refine VOps_cons (want_of rfl rfl rfl rfl) rfl (V_lenN (n := (argAt args 0).list.length) Try.underlying145 rfl (by simp) (fun hl27 => ?_))
   refine VOps_cons (want_of rfl rfl rfl rfl) rfl (V_bin rfl rfl rfl ?_)
   refine VOps_cons rfl rfl (V_pickF rfl rfl rfl ?_)
   refine VOps_nil ?_
   refine Then_n ?_
   refine VW_condP rfl (fun h29 => ?_) (fun h29 => ?_)
   ·
    rw [if_pos (by omega)] at hr
    refine VW_seq ?_
    refine VW_region ?_
    refine VOps_cons rfl rfl (VOp_as (V_build [] [] VT.st152 rfl rfl rfl rfl ⟨rfl, rfl⟩) ((le_val ρ 0 0)) ?_)
    refine VOps_cons rfl rfl (V_store_agg 1 VT.ty152 rfl rfl rfl rfl rfl ?_)
    refine VOps_cons rfl rfl (V_assign rfl ?_)
    refine VOps_nil ?_
    refine Then_n ?_
    refine VW_ret ?_
    refine Then_r (InBlock_r (Then_r (VRet_many rfl rfl (.cons (.agg (i := 1) VT.ty152 rfl rfl rfl) (.cons (.tmp rfl) (.nil))) ?_)))
    rw [hr]; first | done | rfl
   ·
    rw [if_neg (by omega)] at hr
    refine VW_skip ?_
    refine Then_n ?_
    refine VW_seq ?_
    refine VW_region ?_
    refine VOps_cons rfl rfl (V_fieldAddr VT.fa152_2 rfl ?_)
    refine VOps_cons rfl rfl (V_load 0 VT.ty145 rfl rfl rfl ?_)
    refine VOps_cons rfl rfl (V_fieldAddr VT.fa25_2 rfl ?_)
    refine VOps_cons rfl rfl (V_load 2 VT.ty3 rfl rfl rfl ?_)
    refine VOps_cons rfl rfl (V_indexAddr (el := valX ρ (argAt (argAt args 0).list i.n.toNat)) VT.sl145 rfl rfl (hn h10) (get_arg (by have := hn h10; omega)) (fun a35 => ?_))
    refine VOps_cons rfl rfl (V_load_ep_agg VT.ty152 rfl rfl ?_)
    refine VOps_cons rfl rfl (V_store_agg 1 VT.ty152 rfl rfl rfl rfl rfl ?_)
    refine VOps_cons rfl rfl (V_assign rfl ?_)
    refine VOps_nil ?_
    refine Then_n ?_
    refine VW_ret ?_
    refine InBlock_r (Then_r (VRet_many rfl rfl (.cons (.agg (i := 1) VT.ty152 rfl rfl rfl) (.cons (.tmp rfl) (.nil))) ?_))
    rw [hr]; first | done | rfl
 ·
  rw [if_neg h10] at hr
  refine VW_seq ?_
  refine VW_region ?_
  refine VOps_cons rfl rfl (V_fieldAddr VT.fa152_0 rfl ?_)
  refine VOps_cons rfl rfl (V_load 0 VT.ty3 rfl rfl rfl ?_)
  refine VOps_cons rfl rfl (V_bin rfl rfl rfl ?_)
  refine VOps_cons rfl rfl (V_assign rfl ?_)
  refine VOps_nil ?_
  refine Then_n ?_
  refine VW_condNe rfl (fun h37 => ?_) (fun h37 => ?_)
  ·
   rw [if_pos h37] at hr
   refine VW_seq ?_
   refine VW_region ?_
   refine VOps_cons rfl rfl (VOp_as (V_build [] [] VT.st152 rfl rfl rfl rfl ⟨rfl, rfl⟩) ((le_val ρ 0 0)) ?_)
   refine VOps_cons rfl rfl (V_store_agg 1 VT.ty152 rfl rfl rfl rfl rfl ?_)
   refine VOps_cons rfl rfl (V_assign rfl ?_)
   refine VOps_nil ?_
   refine Then_n ?_
   refine VW_ret ?_
   refine InBlock_r (Then_r (VRet_many rfl rfl (.cons (.agg (i := 1) VT.ty152 rfl rfl rfl) (.cons (.tmp rfl) (.nil))) ?_))
   rw [hr]; first | done | rfl
  ·
   rw [if_neg (by omega)] at hr
   refine VW_seq ?_
   refine VW_region ?_
   refine VOps_cons rfl rfl (V_fieldAddr VT.fa25_1 rfl ?_)
   refine VOps_cons rfl rfl (V_load 2 VT.ty3 rfl rfl rfl ?_)
   refine VOps_cons rfl rfl (V_bin rfl rfl rfl ?_)
   refine VOps_cons rfl rfl (V_assign rfl ?_)
   refine VOps_nil ?_
   refine Then_n ?_
   refine VW_condEq rfl (fun h42 => ?_) (fun h42 => ?_)
   ·
    rw [if_pos h42] at hr
    refine VW_seq ?_
    refine VW_region ?_
    refine VOps_cons rfl rfl (V_fieldAddr VT.fa152_1 rfl ?_)
    refine VOps_cons rfl rfl (V_load 0 VT.ty3 rfl rfl rfl ?_)
    refine VOps_cons rfl rfl (V_callP [.tmp 47] rfl rfl VT.en110 (wordOf_c ρ _) ?_)
    refine VOps_cons rfl rfl (V_store_agg 1 VT.ty152 rfl rfl rfl rfl rfl ?_)
    refine VOps_cons rfl rfl (V_assign rfl ?_)
    refine VOps_nil ?_
    refine Then_n ?_
    refine VW_ret ?_
    refine InBlock_r (Then_r (VRet_many rfl rfl (.cons (.agg (i := 1) VT.ty152 rfl rfl rfl) (.cons (.tmp rfl) (.nil))) ?_))
    rw [hr]; first | done | rfl
   ·
    rw [if_neg h42] at hr
    refine VW_seq ?_
    refine VW_region ?_
    refine VOps_cons rfl rfl (V_fieldAddr VT.fa25_1 rfl ?_)
    refine VOps_cons rfl rfl (V_load 2 VT.ty3 rfl rfl rfl ?_)
    refine VOps_cons rfl rfl (V_bin rfl rfl rfl ?_)
    refine VOps_cons rfl rfl (V_assign rfl ?_)
    refine VOps_nil ?_
    refine Then_n ?_
    refine VW_condEq rfl (fun h49 => ?_) (fun h49 => ?_)
    ·
     rw [if_pos h49] at hr
     refine VW_seq ?_
     refine VW_region ?_
     refine VOps_cons rfl rfl (V_fieldAddr VT.fa152_2 rfl ?_)
     refine VOps_cons rfl rfl (V_load 0 VT.ty145 rfl rfl rfl ?_)
     refine VOps_cons rfl rfl (V_lenN (n := (argAt args 0).list.length) Try.underlying145 rfl (by simp) (fun hl55 => ?_))
     refine VOps_cons rfl rfl (V_callP [.tmp 55] rfl rfl VT.en110 (wordOf_c ρ _) ?_)
     refine VOps_cons rfl rfl (V_store_agg 1 VT.ty152 rfl rfl rfl rfl rfl ?_)
     refine VOps_cons rfl rfl (V_assign rfl ?_)
     refine VOps_nil ?_
     refine Then_n ?_
     refine VW_ret ?_
     refine InBlock_r (Then_r (VRet_many rfl rfl (.cons (.agg (i := 1) VT.ty152 rfl rfl rfl) (.cons (.tmp rfl) (.nil))) ?_))
     rw [hr]; first | done | rfl
    ·
     rw [if_neg h49] at hr
     have hl2 := h2 (by omega)
     refine VW_seq ?_
     refine VW_region ?_
     refine VOps_cons rfl rfl (V_move rfl ?_)
     refine VOps_cons rfl rfl (V_indexAddr (el := valX ρ (argAt args 1)) VT.sl145 rfl rfl (by omega) (get_arg (by omega)) (fun a59 => ?_))
     refine VOps_cons rfl rfl (V_fieldAddr_ep VT.fa152_0 rfl rfl ?_)
     refine VOps_cons rfl rfl (V_load_ep VT.ty3 rfl rfl ?_)
     refine VOps_cons rfl rfl (V_bin rfl rfl rfl ?_)
     refine VOps_cons rfl rfl (V_assign rfl ?_)
     refine VOps_nil ?_
     refine Then_n ?_
     refine VW_condNe rfl (fun h57 => ?_) (fun h57 => ?_)
     ·
      rw [if_pos h57] at hr
      refine VW_seq ?_
      refine VW_region ?_
      refine VOps_cons rfl rfl (VOp_as (V_build [] [] VT.st152 rfl rfl rfl rfl ⟨rfl, rfl⟩) ((le_val ρ 0 0)) ?_)
      refine VOps_cons rfl rfl (V_store_agg 1 VT.ty152 rfl rfl rfl rfl rfl ?_)
      refine VOps_cons rfl rfl (V_assign rfl ?_)
      refine VOps_nil ?_
      refine Then_n ?_
      refine VW_ret ?_
      refine InBlock_r (Then_r (VRet_many rfl rfl (.cons (.agg (i := 1) VT.ty152 rfl rfl rfl) (.cons (.tmp rfl) (.nil))) ?_))
      rw [hr]; first | done | rfl
     ·
      rw [if_neg (by omega)] at hr
      refine VW_seq ?_
      rcases Bool.eq_false_or_eq_true (decide ((argAt args 1).n < 0)) with hq69 | hq69
      ·
       refine VW_draw (G := Unit) [([], [1], []), ([0], [65], []), ([1, 0], [66], []), ([2, 1, 0], [67], []), ([3, 2, 1, 0], [68], []), ([4, 3, 2, 1, 0], [69], []), ([5, 4, 3, 2, 1, 0], [1, 70], []), ([6, 5, 4, 3, 2, 1, 0], [71, 70], []), ([7, 6, 5, 4, 3, 2, 1, 0], [72, 70], []), ([8, 7, 6, 5, 4, 3, 2, 1, 0], [73, 70], []), ([5, 4, 3, 2, 1, 0], [6, 70], []), ([10, 5, 4, 3, 2, 1, 0], [75, 70], []), ([11, 10, 5, 4, 3, 2, 1, 0], [76, 70], []), ([12, 11, 10, 9, 8, 7, 6, 5, 4, 3, 2, 1, 0], [74, 77, 70], []), ([13, 12, 11, 10, 9, 8, 7, 6, 5, 4, 3, 2, 1, 0], [70, 78], []), ([14, 13, 12, 11, 10, 9, 8, 7, 6, 5, 4, 3, 2, 1, 0], [79], [])] [] (constSt _) [64] [64, 65, 66, 67, 68, 69, 70, 71, 72, 73, 74, 75, 76, 77, 78, 79] rfl VT.mix (by kernel_rfl) (by kernel_rfl) ?_
       refine DrawP_consL (acc' := [_]) (eqRes _) (good0 (fun γ => Needs_f (by kernel_rfl) (fun r1 h1 => Needs_nil (vopT rfl (V_move h1 ⟨rfl, rfl⟩))))) rfl ?_
       refine DrawP_consL (acc' := [_, _]) (epRes _) (good0 (fun γ => Needs_w 0 (by kernel_rfl) rfl (fun r65 h65 => Needs_nil (vopT rfl (V_indexAddr (el := valX ρ (argAt args 1)) VT.sl145 h65 rfl (by omega) (get_arg (by omega)) (fun a66 => ⟨⟨_, rfl⟩, rfl⟩)))))) rfl ?_
       refine DrawP_consL (acc' := [_, _, _]) (epRes _) (good0 (fun γ => Needs_w 1 (by kernel_rfl) rfl (fun r66 h66 => Needs_nil (epE h66 (fun a_66 e66 => vopT rfl (V_fieldAddr_ep VT.fa152_1 e66 rfl ⟨⟨_, rfl⟩, rfl⟩)))))) rfl ?_
       refine DrawP_consL (acc' := [_, _, _, _]) (eqRes _) (good0 (fun γ => Needs_w 2 (by kernel_rfl) rfl (fun r67 h67 => Needs_nil (epE h67 (fun a_67 e67 => vopT rfl (V_load_ep VT.ty3 e67 rfl ⟨rfl, rfl⟩)))))) rfl ?_
       refine DrawP_consL (acc' := [_, _, _, _, _]) (eqRes _) (good0 (fun γ => Needs_w 3 (by kernel_rfl) rfl (fun r68 h68 => Needs_nil (vopT rfl (V_bin h68 rfl rfl ⟨rfl, rfl⟩))))) rfl ?_
       refine DrawP_consL (acc' := [_, _, _, _, _, _]) (eqRes _) (good0 (fun γ => Needs_w 4 (by kernel_rfl) rfl (fun r69 h69 => Needs_nil (vopT rfl (V_move h69 ⟨rfl, rfl⟩))))) rfl ?_
       refine DrawP_consL (acc' := [_, _, _, _, _, _, _]) (eqRes _) (good0 (fun γ => Needs_f (by kernel_rfl) (fun r1 h1 => Needs_w 5 (by kernel_rfl) rfl (fun r70 h70 => Needs_nil (vopF (skip_of rfl rfl h70 hq69) ⟨rfl, rfl⟩))))) rfl ?_
       refine DrawP_consL (acc' := [_, _, _, _, _, _, _, _]) (eqRes _) (good0 (fun γ => Needs_w 6 (by kernel_rfl) rfl (fun r71 h71 => Needs_w 5 (by kernel_rfl) rfl (fun r70 h70 => Needs_nil (vopF (skip_of rfl rfl h70 hq69) ⟨rfl, rfl⟩))))) rfl ?_
       refine DrawP_consL (acc' := [_, _, _, _, _, _, _, _, _]) (eqRes _) (good0 (fun γ => Needs_w 7 (by kernel_rfl) rfl (fun r72 h72 => Needs_w 5 (by kernel_rfl) rfl (fun r70 h70 => Needs_nil (vopF (skip_of rfl rfl h70 hq69) ⟨rfl, rfl⟩))))) rfl ?_
       refine DrawP_consL (acc' := [_, _, _, _, _, _, _, _, _, _]) (eqRes _) (good0 (fun γ => Needs_w 8 (by kernel_rfl) rfl (fun r73 h73 => Needs_w 5 (by kernel_rfl) rfl (fun r70 h70 => Needs_nil (vopF (skip_of rfl rfl h70 hq69) ⟨rfl, rfl⟩))))) rfl ?_
       refine DrawP_consL (acc' := [_, _, _, _, _, _, _, _, _, _, _]) (eqRes _) (good0 (fun γ => Needs_f (by kernel_rfl) (fun r6 h6 => Needs_w 5 (by kernel_rfl) rfl (fun r70 h70 => Needs_nil (vopF (skip_of rfl rfl h70 hq69) ⟨rfl, rfl⟩))))) rfl ?_
       refine DrawP_consL (acc' := [_, _, _, _, _, _, _, _, _, _, _, _]) (eqRes _) (good0 (fun γ => Needs_w 10 (by kernel_rfl) rfl (fun r75 h75 => Needs_w 5 (by kernel_rfl) rfl (fun r70 h70 => Needs_nil (vopF (skip_of rfl rfl h70 hq69) ⟨rfl, rfl⟩))))) rfl ?_
       refine DrawP_consL (acc' := [_, _, _, _, _, _, _, _, _, _, _, _, _]) (eqRes _) (good0 (fun γ => Needs_w 11 (by kernel_rfl) rfl (fun r76 h76 => Needs_w 5 (by kernel_rfl) rfl (fun r70 h70 => Needs_nil (vopF (skip_of rfl rfl h70 hq69) ⟨rfl, rfl⟩))))) rfl ?_
       refine DrawP_consL (acc' := [_, _, _, _, _, _, _, _, _, _, _, _, _, _]) (eqRes _) (good0 (fun γ => Needs_w 9 (by kernel_rfl) rfl (fun r74 h74 => Needs_w 12 (by kernel_rfl) rfl (fun r77 h77 => Needs_w 5 (by kernel_rfl) rfl (fun r70 h70 => Needs_nil (vopF (skip_of rfl rfl h70 hq69) ⟨rfl, rfl⟩)))))) rfl ?_
       refine DrawP_consL (acc' := [_, _, _, _, _, _, _, _, _, _, _, _, _, _, _]) (eqRes _) (good0 (fun γ => Needs_w 5 (by kernel_rfl) rfl (fun r70 h70 => Needs_w 13 (by kernel_rfl) rfl (fun r78 h78 => Needs_nil (vopT rfl (V_pickT h70 hq69 rfl ⟨rfl, rfl⟩)))))) rfl ?_
       refine DrawP_consL (acc' := [_, _, _, _, _, _, _, _, _, _, _, _, _, _, _, _]) (eqRes _) (good0 (fun γ => Needs_w 14 (by kernel_rfl) rfl (fun r79 h79 => Needs_nil (vopT rfl (V_assign h79 ⟨rfl, rfl⟩))))) rfl ?_
       refine DrawP_nil (fun γ => Needs_w 15 (by kernel_rfl) rfl (fun r64 h64 => Needs_nil ?_))
       have e64 : r64 = some _ := h64
       subst e64
       clear h64
       refine Then_n ?_
       refine VW_condT rfl rfl ?_
       have hx69 := decT hq69
       rw [if_pos (.inl hx69)] at hr
       refine VW_seq ?_
       refine VW_region ?_
       refine VOps_cons rfl rfl (VOp_as (V_build [] [] VT.st152 rfl rfl rfl rfl ⟨rfl, rfl⟩) ((le_val ρ 0 0)) ?_)
       refine VOps_cons rfl rfl (V_store_agg 1 VT.ty152 rfl rfl rfl rfl rfl ?_)
       refine VOps_cons rfl rfl (V_assign rfl ?_)
       refine VOps_nil ?_
       refine Then_n ?_
       refine VW_ret ?_
       refine InBlock_r (Then_r (VRet_many rfl rfl (.cons (.agg (i := 1) VT.ty152 rfl rfl rfl) (.cons (.tmp rfl) (.nil))) ?_))
       rw [hr]; first | done | rfl
      ·
       refine VW_draw (G := Unit) [([], [1], []), ([0], [65], []), ([1, 0], [66], []), ([2, 1, 0], [67], []), ([3, 2, 1, 0], [68], []), ([4, 3, 2, 1, 0], [69], []), ([5, 4, 3, 2, 1, 0], [1, 70], []), ([6, 5, 4, 3, 2, 1, 0], [71, 70], []), ([7, 6, 5, 4, 3, 2, 1, 0], [72, 70], []), ([8, 7, 6, 5, 4, 3, 2, 1, 0], [73, 70], []), ([5, 4, 3, 2, 1, 0], [6, 70], []), ([10, 5, 4, 3, 2, 1, 0], [75, 70], []), ([11, 10, 5, 4, 3, 2, 1, 0], [76, 70], []), ([12, 11, 10, 9, 8, 7, 6, 5, 4, 3, 2, 1, 0], [74, 77, 70], []), ([13, 12, 11, 10, 9, 8, 7, 6, 5, 4, 3, 2, 1, 0], [70, 78], []), ([14, 13, 12, 11, 10, 9, 8, 7, 6, 5, 4, 3, 2, 1, 0], [79], [])] [] (constSt _) [64] [64, 65, 66, 67, 68, 69, 70, 71, 72, 73, 74, 75, 76, 77, 78, 79] rfl VT.mix (by kernel_rfl) (by kernel_rfl) ?_
       refine DrawP_consL (acc' := [_]) (eqRes _) (good0 (fun γ => Needs_f (by kernel_rfl) (fun r1 h1 => Needs_nil (vopT rfl (V_move h1 ⟨rfl, rfl⟩))))) rfl ?_
       refine DrawP_consL (acc' := [_, _]) (epRes _) (good0 (fun γ => Needs_w 0 (by kernel_rfl) rfl (fun r65 h65 => Needs_nil (vopT rfl (V_indexAddr (el := valX ρ (argAt args 1)) VT.sl145 h65 rfl (by omega) (get_arg (by omega)) (fun a66 => ⟨⟨_, rfl⟩, rfl⟩)))))) rfl ?_
       refine DrawP_consL (acc' := [_, _, _]) (epRes _) (good0 (fun γ => Needs_w 1 (by kernel_rfl) rfl (fun r66 h66 => Needs_nil (epE h66 (fun a_66 e66 => vopT rfl (V_fieldAddr_ep VT.fa152_1 e66 rfl ⟨⟨_, rfl⟩, rfl⟩)))))) rfl ?_
       refine DrawP_consL (acc' := [_, _, _, _]) (eqRes _) (good0 (fun γ => Needs_w 2 (by kernel_rfl) rfl (fun r67 h67 => Needs_nil (epE h67 (fun a_67 e67 => vopT rfl (V_load_ep VT.ty3 e67 rfl ⟨rfl, rfl⟩)))))) rfl ?_
       refine DrawP_consL (acc' := [_, _, _, _, _]) (eqRes _) (good0 (fun γ => Needs_w 3 (by kernel_rfl) rfl (fun r68 h68 => Needs_nil (vopT rfl (V_bin h68 rfl rfl ⟨rfl, rfl⟩))))) rfl ?_
       refine DrawP_consL (acc' := [_, _, _, _, _, _]) (eqRes _) (good0 (fun γ => Needs_w 4 (by kernel_rfl) rfl (fun r69 h69 => Needs_nil (vopT rfl (V_move h69 ⟨rfl, rfl⟩))))) rfl ?_
       refine DrawP_consL (acc' := [_, _, _, _, _, _, _]) (eqRes _) (good0 (fun γ => Needs_f (by kernel_rfl) (fun r1 h1 => Needs_w 5 (by kernel_rfl) rfl (fun r70 h70 => Needs_nil (vopT (want_of rfl rfl h70 hq69) (V_move h1 ⟨rfl, rfl⟩)))))) rfl ?_
       refine DrawP_consL (acc' := [_, _, _, _, _, _, _, _]) (epRes _) (good0 (fun γ => Needs_w 6 (by kernel_rfl) rfl (fun r71 h71 => Needs_w 5 (by kernel_rfl) rfl (fun r70 h70 => Needs_nil (vopT (want_of rfl rfl h70 hq69) (V_indexAddr (el := valX ρ (argAt args 1)) VT.sl145 h71 rfl (by omega) (get_arg (by omega)) (fun a72 => ⟨⟨_, rfl⟩, rfl⟩))))))) rfl ?_
       refine DrawP_consL (acc' := [_, _, _, _, _, _, _, _, _]) (epRes _) (good0 (fun γ => Needs_w 7 (by kernel_rfl) rfl (fun r72 h72 => Needs_w 5 (by kernel_rfl) rfl (fun r70 h70 => Needs_nil (epE h72 (fun a_72 e72 => vopT (want_of rfl rfl h70 hq69) (V_fieldAddr_ep VT.fa152_1 e72 rfl ⟨⟨_, rfl⟩, rfl⟩))))))) rfl ?_
       refine DrawP_consL (acc' := [_, _, _, _, _, _, _, _, _, _]) (eqRes _) (good0 (fun γ => Needs_w 8 (by kernel_rfl) rfl (fun r73 h73 => Needs_w 5 (by kernel_rfl) rfl (fun r70 h70 => Needs_nil (epE h73 (fun a_73 e73 => vopT (want_of rfl rfl h70 hq69) (V_load_ep VT.ty3 e73 rfl ⟨rfl, rfl⟩))))))) rfl ?_
       refine DrawP_consL (acc' := [_, _, _, _, _, _, _, _, _, _, _]) (eqRes _) (good0 (fun γ => Needs_f (by kernel_rfl) (fun r6 h6 => Needs_w 5 (by kernel_rfl) rfl (fun r70 h70 => Needs_nil (vopT (want_of rfl rfl h70 hq69) (V_fieldAddr VT.fa152_2 h6 ⟨rfl, rfl⟩)))))) rfl ?_
       refine DrawP_consL (acc' := [_, _, _, _, _, _, _, _, _, _, _, _]) (eqRes _) (good0 (fun γ => Needs_w 10 (by kernel_rfl) rfl (fun r75 h75 => Needs_w 5 (by kernel_rfl) rfl (fun r70 h70 => Needs_nil (vopT (want_of rfl rfl h70 hq69) (V_load 0 VT.ty145 h75 rfl rfl ⟨rfl, rfl⟩)))))) rfl ?_
       refine DrawP_consL (acc' := [_, _, _, _, _, _, _, _, _, _, _, _, _]) (eqRes _) (good0 (fun γ => Needs_w 11 (by kernel_rfl) rfl (fun r76 h76 => Needs_w 5 (by kernel_rfl) rfl (fun r70 h70 => Needs_nil (vopT (want_of rfl rfl h70 hq69) (V_lenN (n := (argAt args 0).list.length) Try.underlying145 h76 (by simp) (fun hl77 => ⟨rfl, rfl⟩))))))) rfl ?_
       refine DrawP_consL (acc' := [_, _, _, _, _, _, _, _, _, _, _, _, _, _]) (eqRes _) (good0 (fun γ => Needs_w 9 (by kernel_rfl) rfl (fun r74 h74 => Needs_w 12 (by kernel_rfl) rfl (fun r77 h77 => Needs_w 5 (by kernel_rfl) rfl (fun r70 h70 => Needs_nil (vopT (want_of rfl rfl h70 hq69) (V_bin h74 h77 rfl ⟨rfl, rfl⟩))))))) rfl ?_
       refine DrawP_consL (acc' := [_, _, _, _, _, _, _, _, _, _, _, _, _, _, _]) (eqRes _) (good0 (fun γ => Needs_w 5 (by kernel_rfl) rfl (fun r70 h70 => Needs_w 13 (by kernel_rfl) rfl (fun r78 h78 => Needs_nil (vopT rfl (V_pickF h70 hq69 h78 ⟨rfl, rfl⟩)))))) rfl ?_
       refine DrawP_consL (acc' := [_, _, _, _, _, _, _, _, _, _, _, _, _, _, _, _]) (eqRes _) (good0 (fun γ => Needs_w 14 (by kernel_rfl) rfl (fun r79 h79 => Needs_nil (vopT rfl (V_assign h79 ⟨rfl, rfl⟩))))) rfl ?_
       refine DrawP_nil (fun γ => Needs_w 15 (by kernel_rfl) rfl (fun r64 h64 => Needs_nil ?_))
       have e64 : r64 = some _ := h64
       subst e64
       clear h64
       refine Then_n ?_
       refine VW_condP rfl (fun h64 => ?_) (fun h64 => ?_)
       ·
        have hx69 := decF hq69
        rw [if_pos (.inr h64)] at hr
        refine VW_seq ?_
        refine VW_region ?_
        refine VOps_cons rfl rfl (VOp_as (V_build [] [] VT.st152 rfl rfl rfl rfl ⟨rfl, rfl⟩) ((le_val ρ 0 0)) ?_)
        refine VOps_cons rfl rfl (V_store_agg 1 VT.ty152 rfl rfl rfl rfl rfl ?_)
        refine VOps_cons rfl rfl (V_assign rfl ?_)
        refine VOps_nil ?_
        refine Then_n ?_
        refine VW_ret ?_
        refine InBlock_r (Then_r (VRet_many rfl rfl (.cons (.agg (i := 1) VT.ty152 rfl rfl rfl) (.cons (.tmp rfl) (.nil))) ?_))
        rw [hr]; first | done | rfl
       ·
        have hx69 := decF hq69
        rw [if_neg (by omega)] at hr
        refine VW_skip ?_
        refine InBlock_n (Then_n ?_)
        refine VW_seq ?_
        refine VW_draw (G := Unit) [([], [6], []), ([0], [81], []), ([], [1], []), ([2], [83], []), ([3, 2], [84], []), ([4, 3, 2], [85], []), ([5, 4, 3, 2, 1, 0], [82, 86], []), ([6, 5, 4, 3, 2, 1, 0], [87], []), ([7, 6, 5, 4, 3, 2, 1, 0], [4, 88], []), ([8, 7, 6, 5, 4, 3, 2, 1, 0], [], [])] [8] (setSt _ 1 (fun _ => .cells g4 152 (valX ρ (argAt (argAt args 0).list (argAt args 1).n.toNat)).leaves)) [5] [5, 81, 82, 83, 84, 85, 86, 87, 88] rfl VT.mix (by kernel_rfl) (by kernel_rfl) ?_
        refine DrawP_consL (acc' := [_]) (eqRes _) (goodS rfl rfl ⟨(fun γ => Needs_f (by kernel_rfl) (fun r6 h6 => Needs_nil (vopT rfl (V_fieldAddr VT.fa152_2 h6 ⟨rfl, rfl⟩)))), trivial⟩) rfl ?_
        refine DrawP_consL (acc' := [_, _]) (eqRes _) (goodS rfl rfl ⟨(fun γ => Needs_w 0 (by kernel_rfl) rfl (fun r81 h81 => Needs_nil (vopT rfl (V_load 0 VT.ty145 h81 rfl rfl ⟨rfl, rfl⟩)))), trivial⟩) rfl ?_
        refine DrawP_consL (acc' := [_, _, _]) (eqRes _) (goodS rfl rfl ⟨(fun γ => Needs_f (by kernel_rfl) (fun r1 h1 => Needs_nil (vopT rfl (V_move h1 ⟨rfl, rfl⟩)))), trivial⟩) rfl ?_
        refine DrawP_consL (acc' := [_, _, _, _]) (epRes _) (goodS rfl rfl ⟨(fun γ => Needs_w 2 (by kernel_rfl) rfl (fun r83 h83 => Needs_nil (vopT rfl (V_indexAddr (el := valX ρ (argAt args 1)) VT.sl145 h83 rfl (by omega) (get_arg (by omega)) (fun a84 => ⟨⟨_, rfl⟩, rfl⟩))))), trivial⟩) rfl ?_
        refine DrawP_consL (acc' := [_, _, _, _, _]) (epRes _) (goodS rfl rfl ⟨(fun γ => Needs_w 3 (by kernel_rfl) rfl (fun r84 h84 => Needs_nil (epE h84 (fun a_84 e84 => vopT rfl (V_fieldAddr_ep VT.fa152_1 e84 rfl ⟨⟨_, rfl⟩, rfl⟩))))), trivial⟩) rfl ?_
        refine DrawP_consL (acc' := [_, _, _, _, _, _]) (eqRes _) (goodS rfl rfl ⟨(fun γ => Needs_w 4 (by kernel_rfl) rfl (fun r85 h85 => Needs_nil (epE h85 (fun a_85 e85 => vopT rfl (V_load_ep VT.ty3 e85 rfl ⟨rfl, rfl⟩))))), trivial⟩) rfl ?_
        refine DrawP_consL (acc' := [_, _, _, _, _, _, _]) (epRes _) (goodS rfl rfl ⟨(fun γ => Needs_w 1 (by kernel_rfl) rfl (fun r82 h82 => Needs_w 5 (by kernel_rfl) rfl (fun r86 h86 => Needs_nil (vopT rfl (V_indexAddr (el := valX ρ (argAt (argAt args 0).list (argAt args 1).n.toNat)) VT.sl145 h82 h86 (by omega) (get_arg (by omega)) (fun a87 => ⟨⟨_, rfl⟩, rfl⟩)))))), trivial⟩) rfl ?_
        refine DrawP_consL (acc' := [_, _, _, _, _, _, _, _]) (eqRes _) (goodS rfl rfl ⟨(fun γ => Needs_w 6 (by kernel_rfl) rfl (fun r87 h87 => Needs_nil (epE h87 (fun a_87 e87 => vopT rfl (V_load_ep_agg VT.ty152 e87 rfl ⟨rfl, rfl⟩))))), trivial⟩) rfl ?_
        refine DrawP_consL (acc' := [_, _, _, _, _, _, _, _, _]) anyRes (goodU1 rfl (fun γ => Needs_f (by kernel_rfl) (fun r4 h4 => Needs_w 7 (by kernel_rfl) rfl (fun r88 h88 => Needs_nil (vopT rfl (V_store_agg 1 VT.ty152 h4 h88 rfl rfl rfl ⟨default, trivial, rfl⟩)))))) rfl ?_
        refine DrawP_consL (acc' := [_, _, _, _, _, _, _, _, _, _]) (eqRes _) (goodS rfl rfl ⟨(fun γ => Needs_nil (vopT rfl (V_assign rfl ⟨rfl, rfl⟩))), trivial⟩) rfl ?_
        refine DrawP_nil (fun γ => Needs_w 9 (by kernel_rfl) rfl (fun r5 h5 => Needs_nil ?_))
        have e5 : r5 = some _ := h5
        subst e5
        clear h5
        refine Then_n ?_
        refine VW_ret ?_
        refine VRet_many rfl rfl (.cons (.agg (i := 1) VT.ty152 rfl rfl rfl) (.cons (.tmp rfl) (.nil))) ?_
        rw [hr]; first | done | rfl


set_option maxRecDepth 100000 in
set_option maxHeartbeats 8000000 in
theorem vector_c (ρ : Nat → Nat) (i : SIns) (args : List Val) (hop : elemJ i.op [22, 23, 24] = true) (h1 : i.op = 24 → 1 ≤ args.length ∧ 0 ≤ i.n) (h2 : i.op = 23 → 2 ≤ args.length) (hb : args.length ≤ 4096) (hv : ∀ v ∈ args, v.list.length ≤ 4096) : VPure Try.prog 114 [insV i, valsX ρ args] (.tup [valX ρ (vectorF i args).1, .int (vectorF i args).2]) := by
 have hr := vectorF.eq_def i args
 have hop2 : i.op = 22 ∨ i.op = 23 ∨ i.op = 24 := by simpa [elemJ] using hop
 refine V_start (nt := 99) Try.func114 rfl rfl rfl ?_
 refine VW_seq ?_
 refine VW_region ?_
 refine VOps_cons rfl rfl (V_box rfl rfl (fun g2 => ?_))
 refine VOps_cons rfl rfl (V_alloc VT.zr152 _ rfl rfl (fun g4 => ?_))
 refine VOps_cons rfl rfl (V_assign rfl ?_)
 refine VOps_nil ?_
 refine Then_n ?_
 refine VW_seq ?_
 refine VW_seq ?_
 refine VW_region ?_
 refine VOps_cons rfl rfl (V_fieldAddr VT.fa25_1 rfl ?_)
 refine VOps_cons rfl rfl (V_load 1 VT.ty3 rfl rfl rfl ?_)
 refine VOps_nil ?_
 refine Then_n ?_
 refine VW_block ?_
 refine VW_seq ?_
 refine VW_region ?_
 refine VOps_cons rfl rfl (V_bin rfl rfl rfl ?_)
 refine VOps_cons rfl rfl (V_assign rfl ?_)
 refine VOps_nil ?_
 refine Then_n ?_
 refine VW_condEq rfl (fun h13 => ?_) (fun h13 => ?_)
 ·
  rw [if_pos h13] at hr
  refine VW_seq ?_
  refine VW_seq ?_
  refine VW_region ?_
  refine VOps_cons rfl rfl (V_move rfl ?_)
  refine VOps_cons rfl rfl (V_callP [.tmp 15, .const (.int .i64 (0))] rfl rfl VT.en111 (all_c ρ args _) ?_)
  refine VOps_cons rfl rfl (V_not rfl ?_)
  refine VOps_nil ?_
  refine Then_n ?_
  refine VW_condN rfl (fun h17 => ?_) (fun h17 => ?_)
  ·
   rw [if_pos h17] at hr
   refine VW_seq ?_
   refine VW_region ?_
   refine VOps_cons rfl rfl (VOp_as (V_build [] [] VT.st152 rfl rfl rfl rfl ⟨rfl, rfl⟩) ((le_val ρ 0 0)) ?_)
   refine VOps_cons rfl rfl (V_store_agg 0 VT.ty152 rfl rfl rfl rfl rfl ?_)
   refine VOps_cons rfl rfl (V_assign rfl ?_)
   refine VOps_nil ?_
   refine Then_n ?_
   refine VW_ret ?_
   refine Then_r (InBlock_r (Then_r (VRet_many rfl rfl (.cons (.agg (i := 0) VT.ty152 rfl rfl rfl) (.cons (.tmp rfl) (.nil))) ?_)))
   rw [hr]; first | done | rfl
  ·
   rw [if_neg (by rw [h17]; decide)] at hr
   refine VW_skip ?_
   refine Then_n ?_
   refine VW_seq ?_
   refine VW_region ?_
   refine VOps_cons rfl rfl (V_move rfl ?_)
   refine VOps_cons rfl rfl (V_build [0, 2] [.const (.int .i64 (4)), .tmp 19] VT.st152 rfl rfl rfl rfl ?_)
   refine VOps_cons rfl rfl (V_store_agg 0 VT.ty152 rfl rfl rfl rfl rfl ?_)
   refine VOps_cons rfl rfl (V_assign rfl ?_)
   refine VOps_nil ?_
   refine Then_n ?_
   refine VW_ret ?_
   refine InBlock_r (Then_r (VRet_many rfl rfl (.cons (.agg (i := 0) VT.ty152 rfl rfl rfl) (.cons (.tmp rfl) (.nil))) ?_))
   rw [hr]; first | done | rfl
 ·
  rw [if_neg h13] at hr
  refine VW_seq ?_
  refine VW_region ?_
  refine VOps_cons rfl rfl (V_bin rfl rfl rfl ?_)
  refine VOps_cons rfl rfl (V_assign rfl ?_)
  refine VOps_nil ?_
  refine Then_n ?_
  refine VW_condEq rfl (fun h21 => ?_) (fun h21 => ?_)
  ·
   rw [if_pos h21] at hr
   obtain ⟨hl1, hn⟩ := h1 h21
   refine VW_seq ?_
   refine VW_seq ?_
   rcases Bool.eq_false_or_eq_true (((argAt args 0).kind != (4 : Int))) with hq27 | hq27
   ·
    refine VW_draw (G := Unit) [([], [1], []), ([0], [23], []), ([1, 0], [24], []), ([2, 1, 0], [25], []), ([3, 2, 1, 0], [26], []), ([4, 3, 2, 1, 0], [27], []), ([5, 4, 3, 2, 1, 0], [2, 28], []), ([6, 5, 4, 3, 2, 1, 0], [29, 28], []), ([5, 4, 3, 2, 1, 0], [1, 28], []), ([8, 5, 4, 3, 2, 1, 0], [31, 28], []), ([9, 8, 5, 4, 3, 2, 1, 0], [32, 28], []), ([10, 9, 8, 5, 4, 3, 2, 1, 0], [33, 28], []), ([11, 10, 9, 8, 5, 4, 3, 2, 1, 0], [34, 28], []), ([12, 11, 10, 9, 8, 7, 6, 5, 4, 3, 2, 1, 0], [30, 35, 28], []), ([13, 12, 11, 10, 9, 8, 7, 6, 5, 4, 3, 2, 1, 0], [28, 36], [])] [] (constSt _) [37] [23, 24, 25, 26, 27, 28, 29, 30, 31, 32, 33, 34, 35, 36, 37] rfl VT.mix (by kernel_rfl) (by kernel_rfl) ?_
    refine DrawP_consL (acc' := [_]) (eqRes _) (good0 (fun γ => Needs_f (by kernel_rfl) (fun r1 h1 => Needs_nil (vopT rfl (V_move h1 ⟨rfl, rfl⟩))))) rfl ?_
    refine DrawP_consL (acc' := [_, _]) (epRes _) (good0 (fun γ => Needs_w 0 (by kernel_rfl) rfl (fun r23 h23 => Needs_nil (vopT rfl (V_indexAddr (el := valX ρ (argAt args 0)) VT.sl145 h23 rfl (by omega) (get_arg (by omega)) (fun a24 => ⟨⟨_, rfl⟩, rfl⟩)))))) rfl ?_
    refine DrawP_consL (acc' := [_, _, _]) (epRes _) (good0 (fun γ => Needs_w 1 (by kernel_rfl) rfl (fun r24 h24 => Needs_nil (epE h24 (fun a_24 e24 => vopT rfl (V_fieldAddr_ep VT.fa152_0 e24 rfl ⟨⟨_, rfl⟩, rfl⟩)))))) rfl ?_
    refine DrawP_consL (acc' := [_, _, _, _]) (eqRes _) (good0 (fun γ => Needs_w 2 (by kernel_rfl) rfl (fun r25 h25 => Needs_nil (epE h25 (fun a_25 e25 => vopT rfl (V_load_ep VT.ty3 e25 rfl ⟨rfl, rfl⟩)))))) rfl ?_
    refine DrawP_consL (acc' := [_, _, _, _, _]) (eqRes _) (good0 (fun γ => Needs_w 3 (by kernel_rfl) rfl (fun r26 h26 => Needs_nil (vopT rfl (V_bin h26 rfl rfl ⟨rfl, rfl⟩))))) rfl ?_
    refine DrawP_consL (acc' := [_, _, _, _, _, _]) (eqRes _) (good0 (fun γ => Needs_w 4 (by kernel_rfl) rfl (fun r27 h27 => Needs_nil (vopT rfl (V_move h27 ⟨rfl, rfl⟩))))) rfl ?_
    refine DrawP_consL (acc' := [_, _, _, _, _, _, _]) (eqRes _) (good0 (fun γ => Needs_f (by kernel_rfl) (fun r2 h2 => Needs_w 5 (by kernel_rfl) rfl (fun r28 h28 => Needs_nil (vopF (skip_of rfl rfl h28 hq27) ⟨rfl, rfl⟩))))) rfl ?_
    refine DrawP_consL (acc' := [_, _, _, _, _, _, _, _]) (eqRes _) (good0 (fun γ => Needs_w 6 (by kernel_rfl) rfl (fun r29 h29 => Needs_w 5 (by kernel_rfl) rfl (fun r28 h28 => Needs_nil (vopF (skip_of rfl rfl h28 hq27) ⟨rfl, rfl⟩))))) rfl ?_
    refine DrawP_consL (acc' := [_, _, _, _, _, _, _, _, _]) (eqRes _) (good0 (fun γ => Needs_f (by kernel_rfl) (fun r1 h1 => Needs_w 5 (by kernel_rfl) rfl (fun r28 h28 => Needs_nil (vopF (skip_of rfl rfl h28 hq27) ⟨rfl, rfl⟩))))) rfl ?_
    refine DrawP_consL (acc' := [_, _, _, _, _, _, _, _, _, _]) (eqRes _) (good0 (fun γ => Needs_w 8 (by kernel_rfl) rfl (fun r31 h31 => Needs_w 5 (by kernel_rfl) rfl (fun r28 h28 => Needs_nil (vopF (skip_of rfl rfl h28 hq27) ⟨rfl, rfl⟩))))) rfl ?_
    refine DrawP_consL (acc' := [_, _, _, _, _, _, _, _, _, _, _]) (eqRes _) (good0 (fun γ => Needs_w 9 (by kernel_rfl) rfl (fun r32 h32 => Needs_w 5 (by kernel_rfl) rfl (fun r28 h28 => Needs_nil (vopF (skip_of rfl rfl h28 hq27) ⟨rfl, rfl⟩))))) rfl ?_
    refine DrawP_consL (acc' := [_, _, _, _, _, _, _, _, _, _, _, _]) (eqRes _) (good0 (fun γ => Needs_w 10 (by kernel_rfl) rfl (fun r33 h33 => Needs_w 5 (by kernel_rfl) rfl (fun r28 h28 => Needs_nil (vopF (skip_of rfl rfl h28 hq27) ⟨rfl, rfl⟩))))) rfl ?_
    refine DrawP_consL (acc' := [_, _, _, _, _, _, _, _, _, _, _, _, _]) (eqRes _) (good0 (fun γ => Needs_w 11 (by kernel_rfl) rfl (fun r34 h34 => Needs_w 5 (by kernel_rfl) rfl (fun r28 h28 => Needs_nil (vopF (skip_of rfl rfl h28 hq27) ⟨rfl, rfl⟩))))) rfl ?_
    refine DrawP_consL (acc' := [_, _, _, _, _, _, _, _, _, _, _, _, _, _]) (eqRes _) (good0 (fun γ => Needs_w 7 (by kernel_rfl) rfl (fun r30 h30 => Needs_w 12 (by kernel_rfl) rfl (fun r35 h35 => Needs_w 5 (by kernel_rfl) rfl (fun r28 h28 => Needs_nil (vopF (skip_of rfl rfl h28 hq27) ⟨rfl, rfl⟩)))))) rfl ?_
    refine DrawP_consL (acc' := [_, _, _, _, _, _, _, _, _, _, _, _, _, _, _]) (eqRes _) (good0 (fun γ => Needs_w 5 (by kernel_rfl) rfl (fun r28 h28 => Needs_w 13 (by kernel_rfl) rfl (fun r36 h36 => Needs_nil (vopT rfl (V_pickT h28 hq27 rfl ⟨rfl, rfl⟩)))))) rfl ?_
    refine DrawP_nil (fun γ => Needs_w 14 (by kernel_rfl) rfl (fun r37 h37 => Needs_nil ?_))
    have e37 : r37 = some _ := h37
    subst e37
    clear h37
    refine Then_n ?_
    refine VW_condT rfl rfl ?_
    rw [if_pos (.inl (bneT hq27))] at hr
    refine VW_seq ?_
    refine VW_region ?_
    refine VOps_cons rfl rfl (VOp_as (V_build [] [] VT.st152 rfl rfl rfl rfl ⟨rfl, rfl⟩) ((le_val ρ 0 0)) ?_)
    refine VOps_cons rfl rfl (V_store_agg 0 VT.ty152 rfl rfl rfl rfl rfl ?_)
    refine VOps_cons rfl rfl (V_assign rfl ?_)
    refine VOps_nil ?_
    refine Then_n ?_
    refine VW_ret ?_
    refine Then_r (InBlock_r (Then_r (VRet_many rfl rfl (.cons (.agg (i := 0) VT.ty152 rfl rfl rfl) (.cons (.tmp rfl) (.nil))) ?_)))
    rw [hr]; first | done | rfl
   ·
    refine VW_draw (G := Unit) [([], [1], []), ([0], [23], []), ([1, 0], [24], []), ([2, 1, 0], [25], []), ([3, 2, 1, 0], [26], []), ([4, 3, 2, 1, 0], [27], []), ([5, 4, 3, 2, 1, 0], [2, 28], []), ([6, 5, 4, 3, 2, 1, 0], [29, 28], []), ([5, 4, 3, 2, 1, 0], [1, 28], []), ([8, 5, 4, 3, 2, 1, 0], [31, 28], []), ([9, 8, 5, 4, 3, 2, 1, 0], [32, 28], []), ([10, 9, 8, 5, 4, 3, 2, 1, 0], [33, 28], []), ([11, 10, 9, 8, 5, 4, 3, 2, 1, 0], [34, 28], []), ([12, 11, 10, 9, 8, 7, 6, 5, 4, 3, 2, 1, 0], [30, 35, 28], []), ([13, 12, 11, 10, 9, 8, 7, 6, 5, 4, 3, 2, 1, 0], [28, 36], [])] [] (constSt _) [37] [23, 24, 25, 26, 27, 28, 29, 30, 31, 32, 33, 34, 35, 36, 37] rfl VT.mix (by kernel_rfl) (by kernel_rfl) ?_
    refine DrawP_consL (acc' := [_]) (eqRes _) (good0 (fun γ => Needs_f (by kernel_rfl) (fun r1 h1 => Needs_nil (vopT rfl (V_move h1 ⟨rfl, rfl⟩))))) rfl ?_
    refine DrawP_consL (acc' := [_, _]) (epRes _) (good0 (fun γ => Needs_w 0 (by kernel_rfl) rfl (fun r23 h23 => Needs_nil (vopT rfl (V_indexAddr (el := valX ρ (argAt args 0)) VT.sl145 h23 rfl (by omega) (get_arg (by omega)) (fun a24 => ⟨⟨_, rfl⟩, rfl⟩)))))) rfl ?_
    refine DrawP_consL (acc' := [_, _, _]) (epRes _) (good0 (fun γ => Needs_w 1 (by kernel_rfl) rfl (fun r24 h24 => Needs_nil (epE h24 (fun a_24 e24 => vopT rfl (V_fieldAddr_ep VT.fa152_0 e24 rfl ⟨⟨_, rfl⟩, rfl⟩)))))) rfl ?_
    refine DrawP_consL (acc' := [_, _, _, _]) (eqRes _) (good0 (fun γ => Needs_w 2 (by kernel_rfl) rfl (fun r25 h25 => Needs_nil (epE h25 (fun a_25 e25 => vopT rfl (V_load_ep VT.ty3 e25 rfl ⟨rfl, rfl⟩)))))) rfl ?_
    refine DrawP_consL (acc' := [_, _, _, _, _]) (eqRes _) (good0 (fun γ => Needs_w 3 (by kernel_rfl) rfl (fun r26 h26 => Needs_nil (vopT rfl (V_bin h26 rfl rfl ⟨rfl, rfl⟩))))) rfl ?_
    refine DrawP_consL (acc' := [_, _, _, _, _, _]) (eqRes _) (good0 (fun γ => Needs_w 4 (by kernel_rfl) rfl (fun r27 h27 => Needs_nil (vopT rfl (V_move h27 ⟨rfl, rfl⟩))))) rfl ?_
    refine DrawP_consL (acc' := [_, _, _, _, _, _, _]) (eqRes _) (good0 (fun γ => Needs_f (by kernel_rfl) (fun r2 h2 => Needs_w 5 (by kernel_rfl) rfl (fun r28 h28 => Needs_nil (vopT (want_of rfl rfl h28 hq27) (V_fieldAddr VT.fa25_2 h2 ⟨rfl, rfl⟩)))))) rfl ?_
    refine DrawP_consL (acc' := [_, _, _, _, _, _, _, _]) (eqRes _) (good0 (fun γ => Needs_w 6 (by kernel_rfl) rfl (fun r29 h29 => Needs_w 5 (by kernel_rfl) rfl (fun r28 h28 => Needs_nil (vopT (want_of rfl rfl h28 hq27) (V_load 1 VT.ty3 h29 rfl rfl ⟨rfl, rfl⟩)))))) rfl ?_
    refine DrawP_consL (acc' := [_, _, _, _, _, _, _, _, _]) (eqRes _) (good0 (fun γ => Needs_f (by kernel_rfl) (fun r1 h1 => Needs_w 5 (by kernel_rfl) rfl (fun r28 h28 => Needs_nil (vopT (want_of rfl rfl h28 hq27) (V_move h1 ⟨rfl, rfl⟩)))))) rfl ?_
    refine DrawP_consL (acc' := [_, _, _, _, _, _, _, _, _, _]) (epRes _) (good0 (fun γ => Needs_w 8 (by kernel_rfl) rfl (fun r31 h31 => Needs_w 5 (by kernel_rfl) rfl (fun r28 h28 => Needs_nil (vopT (want_of rfl rfl h28 hq27) (V_indexAddr (el := valX ρ (argAt args 0)) VT.sl145 h31 rfl (by omega) (get_arg (by omega)) (fun a32 => ⟨⟨_, rfl⟩, rfl⟩))))))) rfl ?_
    refine DrawP_consL (acc' := [_, _, _, _, _, _, _, _, _, _, _]) (epRes _) (good0 (fun γ => Needs_w 9 (by kernel_rfl) rfl (fun r32 h32 => Needs_w 5 (by kernel_rfl) rfl (fun r28 h28 => Needs_nil (epE h32 (fun a_32 e32 => vopT (want_of rfl rfl h28 hq27) (V_fieldAddr_ep VT.fa152_2 e32 rfl ⟨⟨_, rfl⟩, rfl⟩))))))) rfl ?_
    refine DrawP_consL (acc' := [_, _, _, _, _, _, _, _, _, _, _, _]) (eqRes _) (good0 (fun γ => Needs_w 10 (by kernel_rfl) rfl (fun r33 h33 => Needs_w 5 (by kernel_rfl) rfl (fun r28 h28 => Needs_nil (epE h33 (fun a_33 e33 => vopT (want_of rfl rfl h28 hq27) (V_load_ep VT.ty145 e33 rfl ⟨rfl, rfl⟩))))))) rfl ?_
    refine DrawP_consL (acc' := [_, _, _, _, _, _, _, _, _, _, _, _, _]) (eqRes _) (good0 (fun γ => Needs_w 11 (by kernel_rfl) rfl (fun r34 h34 => Needs_w 5 (by kernel_rfl) rfl (fun r28 h28 => Needs_nil (vopT (want_of rfl rfl h28 hq27) (V_lenN (n := (argAt args 0).list.length) Try.underlying145 h34 (by simp) (fun hl35 => ⟨rfl, rfl⟩))))))) rfl ?_
    refine DrawP_consL (acc' := [_, _, _, _, _, _, _, _, _, _, _, _, _, _]) (eqRes _) (good0 (fun γ => Needs_w 7 (by kernel_rfl) rfl (fun r30 h30 => Needs_w 12 (by kernel_rfl) rfl (fun r35 h35 => Needs_w 5 (by kernel_rfl) rfl (fun r28 h28 => Needs_nil (vopT (want_of rfl rfl h28 hq27) (V_bin h30 h35 rfl ⟨rfl, rfl⟩))))))) rfl ?_
    refine DrawP_consL (acc' := [_, _, _, _, _, _, _, _, _, _, _, _, _, _, _]) (eqRes _) (good0 (fun γ => Needs_w 5 (by kernel_rfl) rfl (fun r28 h28 => Needs_w 13 (by kernel_rfl) rfl (fun r36 h36 => Needs_nil (vopT rfl (V_pickF h28 hq27 h36 ⟨rfl, rfl⟩)))))) rfl ?_
    refine DrawP_nil (fun γ => Needs_w 14 (by kernel_rfl) rfl (fun r37 h37 => Needs_nil ?_))
    have e37 : r37 = some _ := h37
    subst e37
    clear h37
    refine Then_n ?_
    refine VW_condP rfl (fun h37 => ?_) (fun h37 => ?_)
    ·
     rw [if_pos (.inr h37)] at hr
     refine VW_seq ?_
     refine VW_region ?_
     refine VOps_cons rfl rfl (VOp_as (V_build [] [] VT.st152 rfl rfl rfl rfl ⟨rfl, rfl⟩) ((le_val ρ 0 0)) ?_)
     refine VOps_cons rfl rfl (V_store_agg 0 VT.ty152 rfl rfl rfl rfl rfl ?_)
     refine VOps_cons rfl rfl (V_assign rfl ?_)
     refine VOps_nil ?_
     refine Then_n ?_
     refine VW_ret ?_
     refine Then_r (InBlock_r (Then_r (VRet_many rfl rfl (.cons (.agg (i := 0) VT.ty152 rfl rfl rfl) (.cons (.tmp rfl) (.nil))) ?_)))
     rw [hr]; first | done | rfl
    ·
     have hx27 := bneF hq27
     rw [if_neg (by omega)] at hr
     refine VW_skip ?_
     refine Then_n ?_
     refine VW_seq ?_
     refine VW_draw (G := Unit) [([], [1], []), ([0], [39], []), ([1, 0], [40], []), ([2, 1, 0], [41], []), ([], [2], []), ([4], [43], []), ([5, 4, 3, 2, 1, 0], [42, 44], []), ([6, 5, 4, 3, 2, 1, 0], [45], []), ([7, 6, 5, 4, 3, 2, 1, 0], [4, 46], []), ([8, 7, 6, 5, 4, 3, 2, 1, 0], [], [])] [8] (setSt _ 0 (fun _ => .cells g4 152 (valX ρ (argAt (argAt args 0).list i.n.toNat)).leaves)) [5] [5, 39, 40, 41, 42, 43, 44, 45, 46] rfl VT.mix (by kernel_rfl) (by kernel_rfl) ?_
     refine DrawP_consL (acc' := [_]) (eqRes _) (goodS rfl rfl ⟨(fun γ => Needs_f (by kernel_rfl) (fun r1 h1 => Needs_nil (vopT rfl (V_move h1 ⟨rfl, rfl⟩)))), trivial⟩) rfl ?_
     refine DrawP_consL (acc' := [_, _]) (epRes _) (goodS rfl rfl ⟨(fun γ => Needs_w 0 (by kernel_rfl) rfl (fun r39 h39 => Needs_nil (vopT rfl (V_indexAddr (el := valX ρ (argAt args 0)) VT.sl145 h39 rfl (by omega) (get_arg (by omega)) (fun a40 => ⟨⟨_, rfl⟩, rfl⟩))))), trivial⟩) rfl ?_
     refine DrawP_consL (acc' := [_, _, _]) (epRes _) (goodS rfl rfl ⟨(fun γ => Needs_w 1 (by kernel_rfl) rfl (fun r40 h40 => Needs_nil (epE h40 (fun a_40 e40 => vopT rfl (V_fieldAddr_ep VT.fa152_2 e40 rfl ⟨⟨_, rfl⟩, rfl⟩))))), trivial⟩) rfl ?_
     refine DrawP_consL (acc' := [_, _, _, _]) (eqRes _) (goodS rfl rfl ⟨(fun γ => Needs_w 2 (by kernel_rfl) rfl (fun r41 h41 => Needs_nil (epE h41 (fun a_41 e41 => vopT rfl (V_load_ep VT.ty145 e41 rfl ⟨rfl, rfl⟩))))), trivial⟩) rfl ?_
     refine DrawP_consL (acc' := [_, _, _, _, _]) (eqRes _) (goodS rfl rfl ⟨(fun γ => Needs_f (by kernel_rfl) (fun r2 h2 => Needs_nil (vopT rfl (V_fieldAddr VT.fa25_2 h2 ⟨rfl, rfl⟩)))), trivial⟩) rfl ?_
     refine DrawP_consL (acc' := [_, _, _, _, _, _]) (eqRes _) (goodS rfl rfl ⟨(fun γ => Needs_w 4 (by kernel_rfl) rfl (fun r43 h43 => Needs_nil (vopT rfl (V_load 1 VT.ty3 h43 rfl rfl ⟨rfl, rfl⟩)))), trivial⟩) rfl ?_
     refine DrawP_consL (acc' := [_, _, _, _, _, _, _]) (epRes _) (goodS rfl rfl ⟨(fun γ => Needs_w 3 (by kernel_rfl) rfl (fun r42 h42 => Needs_w 5 (by kernel_rfl) rfl (fun r44 h44 => Needs_nil (vopT rfl (V_indexAddr (el := valX ρ (argAt (argAt args 0).list i.n.toNat)) VT.sl145 h42 h44 (by omega) (get_arg (by omega)) (fun a45 => ⟨⟨_, rfl⟩, rfl⟩)))))), trivial⟩) rfl ?_
     refine DrawP_consL (acc' := [_, _, _, _, _, _, _, _]) (eqRes _) (goodS rfl rfl ⟨(fun γ => Needs_w 6 (by kernel_rfl) rfl (fun r45 h45 => Needs_nil (epE h45 (fun a_45 e45 => vopT rfl (V_load_ep_agg VT.ty152 e45 rfl ⟨rfl, rfl⟩))))), trivial⟩) rfl ?_
     refine DrawP_consL (acc' := [_, _, _, _, _, _, _, _, _]) anyRes (goodU1 rfl (fun γ => Needs_f (by kernel_rfl) (fun r4 h4 => Needs_w 7 (by kernel_rfl) rfl (fun r46 h46 => Needs_nil (vopT rfl (V_store_agg 0 VT.ty152 h4 h46 rfl rfl rfl ⟨default, trivial, rfl⟩)))))) rfl ?_
     refine DrawP_consL (acc' := [_, _, _, _, _, _, _, _, _, _]) (eqRes _) (goodS rfl rfl ⟨(fun γ => Needs_nil (vopT rfl (V_assign rfl ⟨rfl, rfl⟩))), trivial⟩) rfl ?_
     refine DrawP_nil (fun γ => Needs_w 9 (by kernel_rfl) rfl (fun r5 h5 => Needs_nil ?_))
     have e5 : r5 = some _ := h5
     subst e5
     clear h5
     refine Then_n ?_
     refine VW_ret ?_
     refine InBlock_r (Then_r (VRet_many rfl rfl (.cons (.agg (i := 0) VT.ty152 rfl rfl rfl) (.cons (.tmp rfl) (.nil))) ?_))
     rw [hr]; first | done | rfl
  ·
   rw [if_neg h21] at hr
   have hl2 := h2 (by omega)
   refine VW_skip ?_
   refine InBlock_n (Then_n ?_)
   refine VW_seq ?_
   refine VW_seq ?_
   rcases Bool.eq_false_or_eq_true ((!(allK 4 args))) with hq49 | hq49
   ·
    refine VW_draw (G := Unit) [([], [1], []), ([0], [47], []), ([1, 0], [48], []), ([2, 1, 0], [49], []), ([3, 2, 1, 0], [1, 50], []), ([4, 3, 2, 1, 0], [51, 50], []), ([5, 4, 3, 2, 1, 0], [52, 50], []), ([6, 5, 4, 3, 2, 1, 0], [53, 50], []), ([7, 6, 5, 4, 3, 2, 1, 0], [54, 50], []), ([3, 2, 1, 0], [1, 50], []), ([9, 3, 2, 1, 0], [56, 50], []), ([10, 9, 3, 2, 1, 0], [57, 50], []), ([11, 10, 9, 3, 2, 1, 0], [58, 50], []), ([12, 11, 10, 9, 3, 2, 1, 0], [59, 50], []), ([13, 12, 11, 10, 9, 8, 7, 6, 5, 4, 3, 2, 1, 0], [55, 60, 50], []), ([14, 13, 12, 11, 10, 9, 8, 7, 6, 5, 4, 3, 2, 1, 0], [50, 61], [])] [] (constSt _) [62] [47, 48, 49, 50, 51, 52, 53, 54, 55, 56, 57, 58, 59, 60, 61, 62] rfl VT.mix (by kernel_rfl) (by kernel_rfl) ?_
    refine DrawP_consL (acc' := [_]) (eqRes _) (good0 (fun γ => Needs_f (by kernel_rfl) (fun r1 h1 => Needs_nil (vopT rfl (V_move h1 ⟨rfl, rfl⟩))))) rfl ?_
    refine DrawP_consL (acc' := [_, _]) (eqRes _) (good0 (fun γ => Needs_w 0 (by kernel_rfl) rfl (fun r47 h47 => Needs_nil (vopT rfl (V_callP [.tmp 47, .const (.int .i64 (4))] rfl (evs_cons h47 (evs_cons rfl evs_nil)) VT.en111 (all_c ρ args _) ⟨rfl, rfl⟩))))) rfl ?_
    refine DrawP_consL (acc' := [_, _, _]) (eqRes _) (good0 (fun γ => Needs_w 1 (by kernel_rfl) rfl (fun r48 h48 => Needs_nil (vopT rfl (V_not h48 ⟨rfl, rfl⟩))))) rfl ?_
    refine DrawP_consL (acc' := [_, _, _, _]) (eqRes _) (good0 (fun γ => Needs_w 2 (by kernel_rfl) rfl (fun r49 h49 => Needs_nil (vopT rfl (V_move h49 ⟨rfl, rfl⟩))))) rfl ?_
    refine DrawP_consL (acc' := [_, _, _, _, _]) (eqRes _) (good0 (fun γ => Needs_f (by kernel_rfl) (fun r1 h1 => Needs_w 3 (by kernel_rfl) rfl (fun r50 h50 => Needs_nil (vopF (skip_of rfl rfl h50 hq49) ⟨rfl, rfl⟩))))) rfl ?_
    refine DrawP_consL (acc' := [_, _, _, _, _, _]) (eqRes _) (good0 (fun γ => Needs_w 4 (by kernel_rfl) rfl (fun r51 h51 => Needs_w 3 (by kernel_rfl) rfl (fun r50 h50 => Needs_nil (vopF (skip_of rfl rfl h50 hq49) ⟨rfl, rfl⟩))))) rfl ?_
    refine DrawP_consL (acc' := [_, _, _, _, _, _, _]) (eqRes _) (good0 (fun γ => Needs_w 5 (by kernel_rfl) rfl (fun r52 h52 => Needs_w 3 (by kernel_rfl) rfl (fun r50 h50 => Needs_nil (vopF (skip_of rfl rfl h50 hq49) ⟨rfl, rfl⟩))))) rfl ?_
    refine DrawP_consL (acc' := [_, _, _, _, _, _, _, _]) (eqRes _) (good0 (fun γ => Needs_w 6 (by kernel_rfl) rfl (fun r53 h53 => Needs_w 3 (by kernel_rfl) rfl (fun r50 h50 => Needs_nil (vopF (skip_of rfl rfl h50 hq49) ⟨rfl, rfl⟩))))) rfl ?_
    refine DrawP_consL (acc' := [_, _, _, _, _, _, _, _, _]) (eqRes _) (good0 (fun γ => Needs_w 7 (by kernel_rfl) rfl (fun r54 h54 => Needs_w 3 (by kernel_rfl) rfl (fun r50 h50 => Needs_nil (vopF (skip_of rfl rfl h50 hq49) ⟨rfl, rfl⟩))))) rfl ?_
    refine DrawP_consL (acc' := [_, _, _, _, _, _, _, _, _, _]) (eqRes _) (good0 (fun γ => Needs_f (by kernel_rfl) (fun r1 h1 => Needs_w 3 (by kernel_rfl) rfl (fun r50 h50 => Needs_nil (vopF (skip_of rfl rfl h50 hq49) ⟨rfl, rfl⟩))))) rfl ?_
    refine DrawP_consL (acc' := [_, _, _, _, _, _, _, _, _, _, _]) (eqRes _) (good0 (fun γ => Needs_w 9 (by kernel_rfl) rfl (fun r56 h56 => Needs_w 3 (by kernel_rfl) rfl (fun r50 h50 => Needs_nil (vopF (skip_of rfl rfl h50 hq49) ⟨rfl, rfl⟩))))) rfl ?_
    refine DrawP_consL (acc' := [_, _, _, _, _, _, _, _, _, _, _, _]) (eqRes _) (good0 (fun γ => Needs_w 10 (by kernel_rfl) rfl (fun r57 h57 => Needs_w 3 (by kernel_rfl) rfl (fun r50 h50 => Needs_nil (vopF (skip_of rfl rfl h50 hq49) ⟨rfl, rfl⟩))))) rfl ?_
    refine DrawP_consL (acc' := [_, _, _, _, _, _, _, _, _, _, _, _, _]) (eqRes _) (good0 (fun γ => Needs_w 11 (by kernel_rfl) rfl (fun r58 h58 => Needs_w 3 (by kernel_rfl) rfl (fun r50 h50 => Needs_nil (vopF (skip_of rfl rfl h50 hq49) ⟨rfl, rfl⟩))))) rfl ?_
    refine DrawP_consL (acc' := [_, _, _, _, _, _, _, _, _, _, _, _, _, _]) (eqRes _) (good0 (fun γ => Needs_w 12 (by kernel_rfl) rfl (fun r59 h59 => Needs_w 3 (by kernel_rfl) rfl (fun r50 h50 => Needs_nil (vopF (skip_of rfl rfl h50 hq49) ⟨rfl, rfl⟩))))) rfl ?_
    refine DrawP_consL (acc' := [_, _, _, _, _, _, _, _, _, _, _, _, _, _, _]) (eqRes _) (good0 (fun γ => Needs_w 8 (by kernel_rfl) rfl (fun r55 h55 => Needs_w 13 (by kernel_rfl) rfl (fun r60 h60 => Needs_w 3 (by kernel_rfl) rfl (fun r50 h50 => Needs_nil (vopF (skip_of rfl rfl h50 hq49) ⟨rfl, rfl⟩)))))) rfl ?_
    refine DrawP_consL (acc' := [_, _, _, _, _, _, _, _, _, _, _, _, _, _, _, _]) (eqRes _) (good0 (fun γ => Needs_w 3 (by kernel_rfl) rfl (fun r50 h50 => Needs_w 14 (by kernel_rfl) rfl (fun r61 h61 => Needs_nil (vopT rfl (V_pickT h50 hq49 rfl ⟨rfl, rfl⟩)))))) rfl ?_
    refine DrawP_nil (fun γ => Needs_w 15 (by kernel_rfl) rfl (fun r62 h62 => Needs_nil ?_))
    have e62 : r62 = some _ := h62
    subst e62
    clear h62
    refine Then_n ?_
    refine VW_condT rfl rfl ?_
    rw [if_pos (.inl (by simpa using hq49))] at hr
    refine VW_seq ?_
    refine VW_region ?_
    refine VOps_cons rfl rfl (VOp_as (V_build [] [] VT.st152 rfl rfl rfl rfl ⟨rfl, rfl⟩) ((le_val ρ 0 0)) ?_)
    refine VOps_cons rfl rfl (V_store_agg 0 VT.ty152 rfl rfl rfl rfl rfl ?_)
    refine VOps_cons rfl rfl (V_assign rfl ?_)
    refine VOps_nil ?_
    refine Then_n ?_
    refine VW_ret ?_
    refine Then_r (VRet_many rfl rfl (.cons (.agg (i := 0) VT.ty152 rfl rfl rfl) (.cons (.tmp rfl) (.nil))) ?_)
    rw [hr]; first | done | rfl
   ·
    refine VW_draw (G := Unit) [([], [1], []), ([0], [47], []), ([1, 0], [48], []), ([2, 1, 0], [49], []), ([3, 2, 1, 0], [1, 50], []), ([4, 3, 2, 1, 0], [51, 50], []), ([5, 4, 3, 2, 1, 0], [52, 50], []), ([6, 5, 4, 3, 2, 1, 0], [53, 50], []), ([7, 6, 5, 4, 3, 2, 1, 0], [54, 50], []), ([3, 2, 1, 0], [1, 50], []), ([9, 3, 2, 1, 0], [56, 50], []), ([10, 9, 3, 2, 1, 0], [57, 50], []), ([11, 10, 9, 3, 2, 1, 0], [58, 50], []), ([12, 11, 10, 9, 3, 2, 1, 0], [59, 50], []), ([13, 12, 11, 10, 9, 8, 7, 6, 5, 4, 3, 2, 1, 0], [55, 60, 50], []), ([14, 13, 12, 11, 10, 9, 8, 7, 6, 5, 4, 3, 2, 1, 0], [50, 61], [])] [] (constSt _) [62] [47, 48, 49, 50, 51, 52, 53, 54, 55, 56, 57, 58, 59, 60, 61, 62] rfl VT.mix (by kernel_rfl) (by kernel_rfl) ?_
    refine DrawP_consL (acc' := [_]) (eqRes _) (good0 (fun γ => Needs_f (by kernel_rfl) (fun r1 h1 => Needs_nil (vopT rfl (V_move h1 ⟨rfl, rfl⟩))))) rfl ?_
    refine DrawP_consL (acc' := [_, _]) (eqRes _) (good0 (fun γ => Needs_w 0 (by kernel_rfl) rfl (fun r47 h47 => Needs_nil (vopT rfl (V_callP [.tmp 47, .const (.int .i64 (4))] rfl (evs_cons h47 (evs_cons rfl evs_nil)) VT.en111 (all_c ρ args _) ⟨rfl, rfl⟩))))) rfl ?_
    refine DrawP_consL (acc' := [_, _, _]) (eqRes _) (good0 (fun γ => Needs_w 1 (by kernel_rfl) rfl (fun r48 h48 => Needs_nil (vopT rfl (V_not h48 ⟨rfl, rfl⟩))))) rfl ?_
    refine DrawP_consL (acc' := [_, _, _, _]) (eqRes _) (good0 (fun γ => Needs_w 2 (by kernel_rfl) rfl (fun r49 h49 => Needs_nil (vopT rfl (V_move h49 ⟨rfl, rfl⟩))))) rfl ?_
    refine DrawP_consL (acc' := [_, _, _, _, _]) (eqRes _) (good0 (fun γ => Needs_f (by kernel_rfl) (fun r1 h1 => Needs_w 3 (by kernel_rfl) rfl (fun r50 h50 => Needs_nil (vopT (want_of rfl rfl h50 hq49) (V_move h1 ⟨rfl, rfl⟩)))))) rfl ?_
    refine DrawP_consL (acc' := [_, _, _, _, _, _]) (epRes _) (good0 (fun γ => Needs_w 4 (by kernel_rfl) rfl (fun r51 h51 => Needs_w 3 (by kernel_rfl) rfl (fun r50 h50 => Needs_nil (vopT (want_of rfl rfl h50 hq49) (V_indexAddr (el := valX ρ (argAt args 0)) VT.sl145 h51 rfl (by omega) (get_arg (by omega)) (fun a52 => ⟨⟨_, rfl⟩, rfl⟩))))))) rfl ?_
    refine DrawP_consL (acc' := [_, _, _, _, _, _, _]) (epRes _) (good0 (fun γ => Needs_w 5 (by kernel_rfl) rfl (fun r52 h52 => Needs_w 3 (by kernel_rfl) rfl (fun r50 h50 => Needs_nil (epE h52 (fun a_52 e52 => vopT (want_of rfl rfl h50 hq49) (V_fieldAddr_ep VT.fa152_2 e52 rfl ⟨⟨_, rfl⟩, rfl⟩))))))) rfl ?_
    refine DrawP_consL (acc' := [_, _, _, _, _, _, _, _]) (eqRes _) (good0 (fun γ => Needs_w 6 (by kernel_rfl) rfl (fun r53 h53 => Needs_w 3 (by kernel_rfl) rfl (fun r50 h50 => Needs_nil (epE h53 (fun a_53 e53 => vopT (want_of rfl rfl h50 hq49) (V_load_ep VT.ty145 e53 rfl ⟨rfl, rfl⟩))))))) rfl ?_
    refine DrawP_consL (acc' := [_, _, _, _, _, _, _, _, _]) (eqRes _) (good0 (fun γ => Needs_w 7 (by kernel_rfl) rfl (fun r54 h54 => Needs_w 3 (by kernel_rfl) rfl (fun r50 h50 => Needs_nil (vopT (want_of rfl rfl h50 hq49) (V_lenN (n := (argAt args 0).list.length) Try.underlying145 h54 (by simp) (fun hl55 => ⟨rfl, rfl⟩))))))) rfl ?_
    refine DrawP_consL (acc' := [_, _, _, _, _, _, _, _, _, _]) (eqRes _) (good0 (fun γ => Needs_f (by kernel_rfl) (fun r1 h1 => Needs_w 3 (by kernel_rfl) rfl (fun r50 h50 => Needs_nil (vopT (want_of rfl rfl h50 hq49) (V_move h1 ⟨rfl, rfl⟩)))))) rfl ?_
    refine DrawP_consL (acc' := [_, _, _, _, _, _, _, _, _, _, _]) (epRes _) (good0 (fun γ => Needs_w 9 (by kernel_rfl) rfl (fun r56 h56 => Needs_w 3 (by kernel_rfl) rfl (fun r50 h50 => Needs_nil (vopT (want_of rfl rfl h50 hq49) (V_indexAddr (el := valX ρ (argAt args 1)) VT.sl145 h56 rfl (by omega) (get_arg (by omega)) (fun a57 => ⟨⟨_, rfl⟩, rfl⟩))))))) rfl ?_
    refine DrawP_consL (acc' := [_, _, _, _, _, _, _, _, _, _, _, _]) (epRes _) (good0 (fun γ => Needs_w 10 (by kernel_rfl) rfl (fun r57 h57 => Needs_w 3 (by kernel_rfl) rfl (fun r50 h50 => Needs_nil (epE h57 (fun a_57 e57 => vopT (want_of rfl rfl h50 hq49) (V_fieldAddr_ep VT.fa152_2 e57 rfl ⟨⟨_, rfl⟩, rfl⟩))))))) rfl ?_
    refine DrawP_consL (acc' := [_, _, _, _, _, _, _, _, _, _, _, _, _]) (eqRes _) (good0 (fun γ => Needs_w 11 (by kernel_rfl) rfl (fun r58 h58 => Needs_w 3 (by kernel_rfl) rfl (fun r50 h50 => Needs_nil (epE h58 (fun a_58 e58 => vopT (want_of rfl rfl h50 hq49) (V_load_ep VT.ty145 e58 rfl ⟨rfl, rfl⟩))))))) rfl ?_
    refine DrawP_consL (acc' := [_, _, _, _, _, _, _, _, _, _, _, _, _, _]) (eqRes _) (good0 (fun γ => Needs_w 12 (by kernel_rfl) rfl (fun r59 h59 => Needs_w 3 (by kernel_rfl) rfl (fun r50 h50 => Needs_nil (vopT (want_of rfl rfl h50 hq49) (V_lenN (n := (argAt args 1).list.length) Try.underlying145 h59 (by simp) (fun hl60 => ⟨rfl, rfl⟩))))))) rfl ?_
    refine DrawP_consL (acc' := [_, _, _, _, _, _, _, _, _, _, _, _, _, _, _]) (eqRes _) (good0 (fun γ => Needs_w 8 (by kernel_rfl) rfl (fun r55 h55 => Needs_w 13 (by kernel_rfl) rfl (fun r60 h60 => Needs_w 3 (by kernel_rfl) rfl (fun r50 h50 => Needs_nil (vopT (want_of rfl rfl h50 hq49) (V_bin h55 h60 rfl ⟨rfl, rfl⟩))))))) rfl ?_
    refine DrawP_consL (acc' := [_, _, _, _, _, _, _, _, _, _, _, _, _, _, _, _]) (eqRes _) (good0 (fun γ => Needs_w 3 (by kernel_rfl) rfl (fun r50 h50 => Needs_w 14 (by kernel_rfl) rfl (fun r61 h61 => Needs_nil (vopT rfl (V_pickF h50 hq49 h61 ⟨rfl, rfl⟩)))))) rfl ?_
    refine DrawP_nil (fun γ => Needs_w 15 (by kernel_rfl) rfl (fun r62 h62 => Needs_nil ?_))
    have e62 : r62 = some _ := h62
    subst e62
    clear h62
    refine Then_n ?_
    refine VW_condNe rfl (fun h62 => ?_) (fun h62 => ?_)
    ·
     rw [if_pos (.inr h62)] at hr
     refine VW_seq ?_
     refine VW_region ?_
     refine VOps_cons rfl rfl (VOp_as (V_build [] [] VT.st152 rfl rfl rfl rfl ⟨rfl, rfl⟩) ((le_val ρ 0 0)) ?_)
     refine VOps_cons rfl rfl (V_store_agg 0 VT.ty152 rfl rfl rfl rfl rfl ?_)
     refine VOps_cons rfl rfl (V_assign rfl ?_)
     refine VOps_nil ?_
     refine Then_n ?_
     refine VW_ret ?_
     refine Then_r (VRet_many rfl rfl (.cons (.agg (i := 0) VT.ty152 rfl rfl rfl) (.cons (.tmp rfl) (.nil))) ?_)
     rw [hr]; first | done | rfl
    ·
     have hq49 : allK 4 args = true := by simpa using hq49
     have hll : (argAt args 0).list.length = (argAt args 1).list.length := by omega
     rw [if_neg (by rw [hq49]; simp; omega)] at hr
     refine VW_skip ?_
     refine Then_n ?_
     refine VW_seq ?_
     refine VW_region ?_
     refine VOps_cons rfl rfl (V_build [0] [.const (.int .i64 (4))] VT.st152 rfl rfl rfl rfl ?_)
     refine VOps_cons rfl rfl (V_alloc VT.zr152 _ rfl rfl (fun g6 => ?_))
     refine VOps_cons rfl rfl (V_store_agg 0 VT.ty152 rfl rfl rfl rfl rfl ?_)
     refine VOps_nil ?_
     refine Then_n ?_
     refine VW_cells 0 (ls' := [.int 4, .int 0, .sl 4 (some .nil) [], .raw (.pointer none)]) rfl ⟨V.le.refl _, rfl, V.le.refl _, rfl, V.le.nilTok 4, rfl, V.le.refl _, rfl, trivial⟩ ?_
     refine VW_nilBuf 152 4 ?_
     have hl0 : (argAt args 0).list.length ≤ 4096 := hv _ (argAt_mem (by omega))
     refine VW_seq ?_
     refine VW_seq ?_
     refine VW_region ?_
     refine VOps_cons rfl rfl (V_move rfl ?_)
     refine VOps_cons rfl rfl (V_indexAddr (el := valX ρ (argAt args 0)) VT.sl145 rfl rfl (by omega) (get_arg (by omega)) (fun a66 => ?_))
     refine VOps_cons rfl rfl (V_fieldAddr_ep VT.fa152_2 rfl rfl ?_)
     refine VOps_cons rfl rfl (V_load_ep VT.ty145 rfl rfl ?_)
     refine VOps_cons rfl rfl (V_lenN (n := (argAt args 0).list.length) Try.underlying145 rfl (by simp) (fun hl69 => ?_))
     refine VOps_cons rfl rfl (V_move rfl ?_)
     refine VOps_nil ?_
     refine Then_n ?_
     refine VW_block ?_
     refine VW_loopF (ι := Nat × Tok) (fun (k, tk) => (argAt args 0).list.length - k) (fun (k, tk) => [(1, some (valsX ρ args)), (2, some (.ptr g2 0)), (4, some (.ptr g4 0)), (6, some (.ptr g6 0)), (68, some (valsX ρ (argAt args 0).list)), (69, some (.int (argAt args 0).list.length)), (70, some (.int k))]) (fun (k, tk) => [.buf tk 152 4 (lanesF i.n ((argAt args 0).list.take k) ((argAt args 1).list.take k)).length, .cells g6 152 [.int 4, .int 0, .sl 4 (some tk) ((lanesF i.n ((argAt args 0).list.take k) ((argAt args 1).list.take k)).map (valX ρ)), .raw (.pointer none)], .cells g4 152 VT.zs152, .cells g2 25 (insV i).leaves]) (fun (k, tk) => k ≤ (argAt args 0).list.length) (0, .nil) (Nat.zero_le _) ⟨rfl, rfl, rfl, rfl, rfl, rfl, rfl, trivial⟩ (Drops.buf (by simp [lanesF]) (Drops.keep (Drops.keep (Drops.keep (Drops.refl _))))) ?_
     rintro ⟨k, tk⟩ hk
     change k ≤ (argAt args 0).list.length at hk
     refine VW_seq ?_
     refine VW_region ?_
     refine VOps_cons rfl rfl (V_bin rfl rfl rfl ?_)
     refine VOps_nil ?_
     refine Then_n ?_
     refine VW_seq ?_
     refine VW_condP rfl (fun h71 => ?_) (fun h71 => ?_)
     ·
      obtain ⟨x, hx⟩ := get_of_lt (argAt args 0).list k h71
      obtain ⟨y, hy⟩ := get_of_lt (argAt args 1).list k (by omega)
      have hla : lanesF i.n ((argAt args 0).list.take (k + 1)) ((argAt args 1).list.take (k + 1)) = lanesF i.n ((argAt args 0).list.take k) ((argAt args 1).list.take k) ++ [(binaryF i.n x.n y.n).1] := by rw [take_snoc hx, take_snoc hy, lanes_snoc _ _ _ _ _ (by simp; omega)]
      refine VW_skip ?_
      refine Then_n ?_
      refine VW_seq ?_
      refine VW_block ?_
      refine VW_seq ?_
      refine VW_region ?_
      refine VOps_cons rfl rfl (V_move rfl ?_)
      refine VOps_cons rfl rfl (V_indexAddr (el := valX ρ x) VT.sl145 rfl rfl (by omega) (get_valS hx) (fun a73 => ?_))
      refine VOps_cons rfl rfl (V_load_ep_agg VT.ty152 rfl rfl ?_)
      refine VOps_cons rfl rfl (V_alloc VT.zr152 _ rfl rfl (fun g8 => ?_))
      refine VOps_cons rfl rfl (V_assign rfl ?_)
      refine VOps_cons rfl rfl (V_store_agg 0 VT.ty152 rfl rfl rfl rfl rfl ?_)
      refine VOps_nil ?_
      refine Then_n ?_
      refine VW_seq ?_
      refine VW_draw (G := Nat) [([], [2], []), ([0], [76], []), ([], [8], []), ([2], [78], []), ([], [1], []), ([4], [80], []), ([5, 4], [81], []), ([6, 5, 4], [82], []), ([], [7], []), ([8, 7, 6, 5, 4], [83, 84], []), ([9, 8, 7, 6, 5, 4], [85], []), ([10, 9, 8, 7, 6, 5, 4], [86], []), ([11, 10, 9, 8, 7, 6, 5, 4, 3, 2, 1, 0], [77, 79, 87], []), ([12, 11, 10, 9, 8, 7, 6, 5, 4, 3, 2, 1, 0], [88], []), ([13, 12, 11, 10, 9, 8, 7, 6, 5, 4, 3, 2, 1, 0], [75], []), ([13, 12, 11, 10, 9, 8, 7, 6, 5, 4, 3, 2, 1, 0], [75], []), ([], [], [0]), ([16, 14, 13, 12, 11, 10, 9, 8, 7, 6, 5, 4, 3, 2, 1, 0], [9, 89], []), ([17, 16, 15, 14, 13, 12, 11, 10, 9, 8, 7, 6, 5, 4, 3, 2, 1, 0], [90], [])] [16, 17] (twoSt _ (fun g9 => .cells g9 152 VT.zs152 :: [.cells g8 152 (valX ρ x).leaves, .buf tk 152 4 (lanesF i.n ((argAt args 0).list.take k) ((argAt args 1).list.take k)).length, .cells g6 152 [.int 4, .int 0, .sl 4 (some tk) ((lanesF i.n ((argAt args 0).list.take k) ((argAt args 1).list.take k)).map (valX ρ)), .raw (.pointer none)], .cells g4 152 VT.zs152, .cells g2 25 (insV i).leaves]) (fun g9 _ => .cells g9 152 (valX ρ (binaryF i.n x.n y.n).1).leaves :: [.cells g8 152 (valX ρ x).leaves, .buf tk 152 4 (lanesF i.n ((argAt args 0).list.take k) ((argAt args 1).list.take k)).length, .cells g6 152 [.int 4, .int 0, .sl 4 (some tk) ((lanesF i.n ((argAt args 0).list.take k) ((argAt args 1).list.take k)).map (valX ρ)), .raw (.pointer none)], .cells g4 152 VT.zs152, .cells g2 25 (insV i).leaves])) [9, 10] [9, 10, 75, 76, 77, 78, 79, 80, 81, 82, 83, 84, 85, 86, 87, 88, 89, 90] rfl VT.mix (by kernel_rfl) (by kernel_rfl) ?_
      refine DrawP_consL (acc' := [_]) (eqRes _) (goodS rfl rfl ⟨(fun γ => Needs_f (by kernel_rfl) (fun r2 h2 => Needs_nil (vopT rfl (V_fieldAddr VT.fa25_2 h2 ⟨rfl, rfl⟩)))), (fun γ => Needs_f (by kernel_rfl) (fun r2 h2 => Needs_nil (vopT rfl (V_fieldAddr VT.fa25_2 h2 ⟨rfl, rfl⟩)))), trivial⟩) rfl ?_
      refine DrawP_consL (acc' := [_, _]) (eqRes _) (goodS rfl rfl ⟨(fun γ => Needs_w 0 (by kernel_rfl) rfl (fun r76 h76 => Needs_nil (vopT rfl (V_load 4 VT.ty3 h76 rfl rfl ⟨rfl, rfl⟩)))), (fun γ => Needs_w 0 (by kernel_rfl) rfl (fun r76 h76 => Needs_nil (vopT rfl (V_load 5 VT.ty3 h76 rfl rfl ⟨rfl, rfl⟩)))), trivial⟩) rfl ?_
      refine DrawP_consL (acc' := [_, _, _]) (eqRes _) (goodS rfl rfl ⟨(fun γ => Needs_f (by kernel_rfl) (fun r8 h8 => Needs_nil (vopT rfl (V_fieldAddr VT.fa152_1 h8 ⟨rfl, rfl⟩)))), (fun γ => Needs_f (by kernel_rfl) (fun r8 h8 => Needs_nil (vopT rfl (V_fieldAddr VT.fa152_1 h8 ⟨rfl, rfl⟩)))), trivial⟩) rfl ?_
      refine DrawP_consL (acc' := [_, _, _, _]) (eqRes _) (goodS rfl rfl ⟨(fun γ => Needs_w 2 (by kernel_rfl) rfl (fun r78 h78 => Needs_nil (vopT rfl (V_load 0 VT.ty3 h78 rfl rfl ⟨rfl, rfl⟩)))), (fun γ => Needs_w 2 (by kernel_rfl) rfl (fun r78 h78 => Needs_nil (vopT rfl (V_load 1 VT.ty3 h78 rfl rfl ⟨rfl, rfl⟩)))), trivial⟩) rfl ?_
      refine DrawP_consL (acc' := [_, _, _, _, _]) (eqRes _) (goodS rfl rfl ⟨(fun γ => Needs_f (by kernel_rfl) (fun r1 h1 => Needs_nil (vopT rfl (V_move h1 ⟨rfl, rfl⟩)))), (fun γ => Needs_f (by kernel_rfl) (fun r1 h1 => Needs_nil (vopT rfl (V_move h1 ⟨rfl, rfl⟩)))), trivial⟩) rfl ?_
      refine DrawP_consL (acc' := [_, _, _, _, _, _]) (epRes _) (goodS rfl rfl ⟨(fun γ => Needs_w 4 (by kernel_rfl) rfl (fun r80 h80 => Needs_nil (vopT rfl (V_indexAddr (el := valX ρ (argAt args 1)) VT.sl145 h80 rfl (by omega) (get_arg (by omega)) (fun a81 => ⟨⟨_, rfl⟩, rfl⟩))))), (fun γ => Needs_w 4 (by kernel_rfl) rfl (fun r80 h80 => Needs_nil (vopT rfl (V_indexAddr (el := valX ρ (argAt args 1)) VT.sl145 h80 rfl (by omega) (get_arg (by omega)) (fun a81 => ⟨⟨_, rfl⟩, rfl⟩))))), trivial⟩) rfl ?_
      refine DrawP_consL (acc' := [_, _, _, _, _, _, _]) (epRes _) (goodS rfl rfl ⟨(fun γ => Needs_w 5 (by kernel_rfl) rfl (fun r81 h81 => Needs_nil (epE h81 (fun a_81 e81 => vopT rfl (V_fieldAddr_ep VT.fa152_2 e81 rfl ⟨⟨_, rfl⟩, rfl⟩))))), (fun γ => Needs_w 5 (by kernel_rfl) rfl (fun r81 h81 => Needs_nil (epE h81 (fun a_81 e81 => vopT rfl (V_fieldAddr_ep VT.fa152_2 e81 rfl ⟨⟨_, rfl⟩, rfl⟩))))), trivial⟩) rfl ?_
      refine DrawP_consL (acc' := [_, _, _, _, _, _, _, _]) (eqRes _) (goodS rfl rfl ⟨(fun γ => Needs_w 6 (by kernel_rfl) rfl (fun r82 h82 => Needs_nil (epE h82 (fun a_82 e82 => vopT rfl (V_load_ep VT.ty145 e82 rfl ⟨rfl, rfl⟩))))), (fun γ => Needs_w 6 (by kernel_rfl) rfl (fun r82 h82 => Needs_nil (epE h82 (fun a_82 e82 => vopT rfl (V_load_ep VT.ty145 e82 rfl ⟨rfl, rfl⟩))))), trivial⟩) rfl ?_
      refine DrawP_consL (acc' := [_, _, _, _, _, _, _, _, _]) (eqRes _) (goodS rfl rfl ⟨(fun γ => Needs_f (by kernel_rfl) (fun r7 h7 => Needs_nil (vopT rfl (V_move h7 ⟨rfl, rfl⟩)))), (fun γ => Needs_f (by kernel_rfl) (fun r7 h7 => Needs_nil (vopT rfl (V_move h7 ⟨rfl, rfl⟩)))), trivial⟩) rfl ?_
      refine DrawP_consL (acc' := [_, _, _, _, _, _, _, _, _, _]) (epRes _) (goodS rfl rfl ⟨(fun γ => Needs_w 7 (by kernel_rfl) rfl (fun r83 h83 => Needs_w 8 (by kernel_rfl) rfl (fun r84 h84 => Needs_nil (vopT rfl (V_indexAddr (el := valX ρ y) VT.sl145 h83 h84 (by omega) (get_valS hy) (fun a85 => ⟨⟨_, rfl⟩, rfl⟩)))))), (fun γ => Needs_w 7 (by kernel_rfl) rfl (fun r83 h83 => Needs_w 8 (by kernel_rfl) rfl (fun r84 h84 => Needs_nil (vopT rfl (V_indexAddr (el := valX ρ y) VT.sl145 h83 h84 (by omega) (get_valS hy) (fun a85 => ⟨⟨_, rfl⟩, rfl⟩)))))), trivial⟩) rfl ?_
      refine DrawP_consL (acc' := [_, _, _, _, _, _, _, _, _, _, _]) (epRes _) (goodS rfl rfl ⟨(fun γ => Needs_w 9 (by kernel_rfl) rfl (fun r85 h85 => Needs_nil (epE h85 (fun a_85 e85 => vopT rfl (V_fieldAddr_ep VT.fa152_1 e85 rfl ⟨⟨_, rfl⟩, rfl⟩))))), (fun γ => Needs_w 9 (by kernel_rfl) rfl (fun r85 h85 => Needs_nil (epE h85 (fun a_85 e85 => vopT rfl (V_fieldAddr_ep VT.fa152_1 e85 rfl ⟨⟨_, rfl⟩, rfl⟩))))), trivial⟩) rfl ?_
      refine DrawP_consL (acc' := [_, _, _, _, _, _, _, _, _, _, _, _]) (eqRes _) (goodS rfl rfl ⟨(fun γ => Needs_w 10 (by kernel_rfl) rfl (fun r86 h86 => Needs_nil (epE h86 (fun a_86 e86 => vopT rfl (V_load_ep VT.ty3 e86 rfl ⟨rfl, rfl⟩))))), (fun γ => Needs_w 10 (by kernel_rfl) rfl (fun r86 h86 => Needs_nil (epE h86 (fun a_86 e86 => vopT rfl (V_load_ep VT.ty3 e86 rfl ⟨rfl, rfl⟩))))), trivial⟩) rfl ?_
      refine DrawP_consL (acc' := [_, _, _, _, _, _, _, _, _, _, _, _, _]) (eqRes _) (goodS rfl rfl ⟨(fun γ => Needs_w 1 (by kernel_rfl) rfl (fun r77 h77 => Needs_w 3 (by kernel_rfl) rfl (fun r79 h79 => Needs_w 11 (by kernel_rfl) rfl (fun r87 h87 => Needs_nil (vopT rfl (V_callP [.tmp 77, .tmp 79, .tmp 87] rfl (evs_cons h77 (evs_cons h79 (evs_cons h87 evs_nil))) VT.en112 (binary_c ρ i.n x.n y.n) ⟨rfl, rfl⟩)))))), (fun γ => Needs_w 1 (by kernel_rfl) rfl (fun r77 h77 => Needs_w 3 (by kernel_rfl) rfl (fun r79 h79 => Needs_w 11 (by kernel_rfl) rfl (fun r87 h87 => Needs_nil (vopT rfl (V_callP [.tmp 77, .tmp 79, .tmp 87] rfl (evs_cons h77 (evs_cons h79 (evs_cons h87 evs_nil))) VT.en112 (binary_c ρ i.n x.n y.n) ⟨rfl, rfl⟩)))))), trivial⟩) rfl ?_
      refine DrawP_consL (acc' := [_, _, _, _, _, _, _, _, _, _, _, _, _, _]) (eqRes _) (goodS rfl rfl ⟨(fun γ => Needs_w 12 (by kernel_rfl) rfl (fun r88 h88 => Needs_nil (vopT rfl (V_move h88 ⟨rfl, rfl⟩)))), (fun γ => Needs_w 12 (by kernel_rfl) rfl (fun r88 h88 => Needs_nil (vopT rfl (V_move h88 ⟨rfl, rfl⟩)))), trivial⟩) rfl ?_
      refine DrawP_consL (acc' := [_, _, _, _, _, _, _, _, _, _, _, _, _, _, _]) (eqRes _) (goodS rfl rfl ⟨(fun γ => Needs_w 13 (by kernel_rfl) rfl (fun r75 h75 => Needs_nil (vopT rfl (V_extract h75 rfl ⟨rfl, rfl⟩)))), (fun γ => Needs_w 13 (by kernel_rfl) rfl (fun r75 h75 => Needs_nil (vopT rfl (V_extract h75 rfl ⟨rfl, rfl⟩)))), trivial⟩) rfl ?_
      refine DrawP_consL (acc' := [_, _, _, _, _, _, _, _, _, _, _, _, _, _, _, _]) (eqRes _) (goodS rfl rfl ⟨(fun γ => Needs_w 13 (by kernel_rfl) rfl (fun r75 h75 => Needs_nil (vopT rfl (V_extract h75 rfl ⟨rfl, rfl⟩)))), (fun γ => Needs_w 13 (by kernel_rfl) rfl (fun r75 h75 => Needs_nil (vopT rfl (V_extract h75 rfl ⟨rfl, rfl⟩)))), (fun γ => Needs_w 13 (by kernel_rfl) rfl (fun r75 h75 => Needs_nil (vopT rfl (V_extract h75 rfl ⟨rfl, rfl⟩)))), trivial⟩) rfl ?_
      refine DrawP_consL (acc' := [_, _, _, _, _, _, _, _, _, _, _, _, _, _, _, _, _]) (oneRes (fun g9 => .ptr g9 0)) (goodU 0 rfl (fun γ => Needs_nil (vopT rfl (V_alloc VT.zr152 _ rfl rfl (fun g9 => ⟨g9, ⟨g9, rfl, rfl⟩, rfl⟩))))) rfl ?_
      refine DrawP_consL (acc' := [_, _, _, _, _, _, _, _, _, _, _, _, _, _, _, _, _, _]) anyRes (goodU 1 rfl (fun γ => Needs_w 16 (by kernel_rfl) rfl (fun r9 h9 => Needs_w 14 (by kernel_rfl) rfl (fun r89 h89 => Needs_nil (oneE h9 (fun e9 => vopT rfl (V_store_agg 0 VT.ty152 e9 h89 rfl rfl rfl ⟨default, trivial, rfl⟩))))))) rfl ?_
      refine DrawP_consL (acc' := [_, _, _, _, _, _, _, _, _, _, _, _, _, _, _, _, _, _, _]) (eqRes _) (goodS rfl rfl ⟨(fun γ => Needs_w 15 (by kernel_rfl) rfl (fun r90 h90 => Needs_nil (vopT rfl (V_assign h90 ⟨rfl, rfl⟩)))), trivial⟩) rfl ?_
      refine DrawP_nil (fun γ => Needs_w 16 (by kernel_rfl) rfl (fun r9 h9 => Needs_w 18 (by kernel_rfl) rfl (fun r10 h10 => Needs_nil ?_)))
      have e9 : r9 = some _ := oneY h9
      subst e9
      clear h9
      have e10 : r10 = some _ := h10
      subst e10
      clear h10
      refine Then_n ?_
      refine VW_region ?_
      refine VOps_cons rfl rfl (V_fieldAddr VT.fa152_2 rfl ?_)
      refine VOps_cons rfl rfl (V_load 3 VT.ty145 rfl rfl rfl ?_)
      refine VOps_cons rfl rfl (VOp_as (V_load_agg 0 VT.ty152 rfl rfl rfl ⟨rfl, rfl⟩) ((V.le.refl _ : V.le _ (valX ρ (binaryF i.n x.n y.n).1))) ?_)
      refine VOps_cons rfl rfl (V_lit [.tmp 93] VT.sl145 rfl rfl rfl rfl (by simp [valX_fit]) ?_)
      refine VOps_cons rfl rfl (V_appendN 2 _ VT.sl145 rfl rfl rfl (by simp) (by have := lanes_len i.n ((argAt args 0).list.take k) ((argAt args 1).list.take k); rw [List.length_take] at this; simp; omega) (fun t95 => ?_))
      refine VOps_cons rfl rfl (V_fieldAddr VT.fa152_2 rfl ?_)
      refine VOps_cons rfl rfl (V_store 3 VT.ty145 rfl rfl rfl rfl rfl ?_)
      refine VOps_nil ?_
      refine InBlock_n (Then_n ?_)
      refine VW_region ?_
      refine VOps_cons rfl rfl (V_add rfl rfl (by omega) ?_)
      refine VOps_cons rfl rfl (V_move rfl ?_)
      refine VOps_nil ?_
      refine Then_n ?_
      exact ⟨(k + 1, t95), (by (try simp only []); omega), (by omega), ⟨rfl, rfl, rfl, rfl, rfl, rfl, rfl, trivial⟩, (Drops.drop (Drops.drop (Drops.buf (by rw [hla]; simp) (Drops.keepE (by rw [hla, List.map_append]; rfl) (Drops.keep (Drops.keep (Drops.refl _)))))))⟩
     ·
      have hke : k = (argAt args 0).list.length := by omega
      subst hke
      have ht1 : (argAt args 1).list.take (argAt args 0).list.length = (argAt args 1).list := by rw [hll, List.take_length]
      have ht2 : lanesF i.n (argAt args 0).list (argAt args 1).list = lanesF i.n ((argAt args 0).list.take (argAt args 0).list.length) ((argAt args 1).list.take (argAt args 0).list.length) := by rw [ht1, List.take_length]
      rw [ht2] at hr
      refine VW_exit ?_
      refine Then_e (Then_e (InBlock_hit ?_))
      refine Then_n ?_
      refine VW_seq ?_
      refine VW_region ?_
      refine VOps_cons rfl rfl (VOp_as (V_load_agg 1 VT.ty152 rfl rfl rfl ⟨rfl, rfl⟩) ((le_vec ρ tk _)) ?_)
      refine VOps_cons rfl rfl (V_store_agg 2 VT.ty152 rfl rfl rfl rfl rfl ?_)
      refine VOps_cons rfl rfl (V_assign rfl ?_)
      refine VOps_nil ?_
      refine Then_n ?_
      refine VW_ret ?_
      refine VRet_many rfl rfl (.cons (.agg (i := 2) VT.ty152 rfl rfl rfl) (.cons (.tmp rfl) (.nil))) ?_
      rw [hr]; first | done | rfl


set_option maxRecDepth 100000 in
set_option maxHeartbeats 8000000 in
theorem allocate_c (gm : Nat) (u : SUnit) (stk ov : V) (M : Mach) (ρ : Nat → Nat) (size fill : Val) (h2 : 0 ≤ M.left) (h3 : M.left ≤ 1000000) : VCalls Try.prog 122 [.ptr gm 0, valX ρ size, valX ρ fill] [mcells gm u stk ov M] fun r S' => (r = .tup [valX ρ (allocF size fill M).2.1, .int (allocF size fill M).2.2] ∧ S' = [mcells gm u stk ov (allocF size fill M).1] ∧ (allocF size fill M).1.heap = M.heap) ∨ ∃ ga gr, r = .tup [.agg [.int 3, .int 0, .sl 4 none [], .ptr ga 0], .int 0] ∧ (allocF size fill M).2 = (.mk 3 0 [] (some M.heap.length), 0) ∧ (allocF size fill M).1.heap = M.heap ++ [List.replicate size.n.toNat fill] ∧ S' = [mcells gm u stk ov (allocF size fill M).1, acell ga gr size.n.toNat, arow ρ gr (List.replicate size.n.toNat fill)] := by
 refine VCalls_drops ?_
 have hr := allocF.eq_def size fill M
 refine V_start (nt := 48) Try.func122 rfl rfl rfl ?_
 refine VW_seq ?_
 refine VW_region ?_
 refine VOps_cons rfl rfl (V_box rfl (valX_flat ρ size) (fun g4 => ?_))
 refine VOps_cons rfl rfl (V_box rfl (valX_flat ρ fill) (fun g5 => ?_))
 refine VOps_cons rfl rfl (V_alloc VT.zr152 _ rfl rfl (fun g6 => ?_))
 refine VOps_cons rfl rfl (V_assign rfl ?_)
 refine VOps_nil ?_
 refine Then_n ?_
 refine VW_seq ?_
 refine VW_block ?_
 refine VW_seq ?_
 refine VW_region ?_
 refine VOps_cons rfl rfl (V_fieldAddr VT.fa152_0 rfl ?_)
 refine VOps_cons rfl rfl (V_load 2 VT.ty3 rfl rfl rfl ?_)
 refine VOps_cons rfl rfl (V_bin rfl rfl rfl ?_)
 refine VOps_cons rfl rfl (V_assign rfl ?_)
 refine VOps_nil ?_
 refine Then_n ?_
 refine VW_condNe rfl (fun h10 => ?_) (fun h10 => ?_)
 ·
  rw [if_pos h10] at hr
  refine VW_seq ?_
  refine VW_region ?_
  refine VOps_cons rfl rfl (VOp_as (V_build [] [] VT.st152 rfl rfl rfl rfl ⟨rfl, rfl⟩) ((le_val ρ 0 0)) ?_)
  refine VOps_cons rfl rfl (V_store_agg 0 VT.ty152 rfl rfl rfl rfl rfl ?_)
  refine VOps_cons rfl rfl (V_assign rfl ?_)
  refine VOps_nil ?_
  refine Then_n ?_
  refine VW_ret ?_
  refine InBlock_r (Then_r (VRet_many rfl rfl (.cons (.agg (i := 0) VT.ty152 rfl rfl rfl) (.cons (.tmp rfl) (.nil))) ?_))
  refine ⟨_, (Drops.drop (Drops.drop (Drops.drop (Drops.keep (Drops.refl _))))), .inl ⟨?_, ?_, ?_⟩⟩
  · rw [hr]; first | done | rfl
  · rw [hr]; first | done | rfl
  · rw [hr]; first | done | rfl | (unfold payF; split <;> rfl)
 ·
  rw [if_neg (by omega)] at hr
  refine VW_seq ?_
  refine VW_region ?_
  refine VOps_cons rfl rfl (V_fieldAddr VT.fa152_1 rfl ?_)
  refine VOps_cons rfl rfl (V_load 2 VT.ty3 rfl rfl rfl ?_)
  refine VOps_cons rfl rfl (V_bin rfl rfl rfl ?_)
  refine VOps_cons rfl rfl (V_move rfl ?_)
  refine VOps_split (q := 19) rfl (fun hq19 => ?_) (fun hq19 => ?_)
  ·
   have hx18 := decT hq19
   refine VOps_skipU (.inl (skip_of rfl rfl rfl hq19)) rfl ?_
   refine VOps_skipU (.inl (skip_of rfl rfl rfl hq19)) rfl ?_
   refine VOps_skipU (.inl (skip_of rfl rfl rfl hq19)) rfl ?_
   refine VOps_cons rfl rfl (V_pickT rfl hq19 rfl ?_)
   refine VOps_cons rfl rfl (V_assign rfl ?_)
   refine VOps_nil ?_
   refine Then_n ?_
   refine VW_condT rfl rfl ?_
   rw [if_pos (.inl hx18)] at hr
   refine VW_seq ?_
   refine VW_region ?_
   refine VOps_cons rfl rfl (VOp_as (V_build [] [] VT.st152 rfl rfl rfl rfl ⟨rfl, rfl⟩) ((le_val ρ 0 0)) ?_)
   refine VOps_cons rfl rfl (V_store_agg 0 VT.ty152 rfl rfl rfl rfl rfl ?_)
   refine VOps_cons rfl rfl (V_assign rfl ?_)
   refine VOps_nil ?_
   refine Then_n ?_
   refine VW_ret ?_
   refine InBlock_r (Then_r (VRet_many rfl rfl (.cons (.agg (i := 0) VT.ty152 rfl rfl rfl) (.cons (.tmp rfl) (.nil))) ?_))
   refine ⟨_, (Drops.drop (Drops.drop (Drops.drop (Drops.keep (Drops.refl _))))), .inl ⟨?_, ?_, ?_⟩⟩
   · rw [hr]; first | done | rfl
   · rw [hr]; first | done | rfl
   · rw [hr]; first | done | rfl | (unfold payF; split <;> rfl)
  ·
   have hx18 := decF hq19
   refine VOps_cons (want_of rfl rfl rfl hq19) rfl (V_fieldAddr VT.fa152_1 rfl ?_)
   refine VOps_cons (want_of rfl rfl rfl hq19) rfl (V_load 2 VT.ty3 rfl rfl rfl ?_)
   refine VOps_cons (want_of rfl rfl rfl hq19) rfl (V_bin rfl rfl rfl ?_)
   refine VOps_cons rfl rfl (V_pickF rfl hq19 rfl ?_)
   refine VOps_cons rfl rfl (V_assign rfl ?_)
   refine VOps_nil ?_
   refine Then_n ?_
   refine VW_condP rfl (fun h15 => ?_) (fun h15 => ?_)
   ·
    rw [if_pos (.inr (by omega))] at hr
    refine VW_seq ?_
    refine VW_region ?_
    refine VOps_cons rfl rfl (VOp_as (V_build [] [] VT.st152 rfl rfl rfl rfl ⟨rfl, rfl⟩) ((le_val ρ 0 0)) ?_)
    refine VOps_cons rfl rfl (V_store_agg 0 VT.ty152 rfl rfl rfl rfl rfl ?_)
    refine VOps_cons rfl rfl (V_assign rfl ?_)
    refine VOps_nil ?_
    refine Then_n ?_
    refine VW_ret ?_
    refine InBlock_r (Then_r (VRet_many rfl rfl (.cons (.agg (i := 0) VT.ty152 rfl rfl rfl) (.cons (.tmp rfl) (.nil))) ?_))
    refine ⟨_, (Drops.drop (Drops.drop (Drops.drop (Drops.keep (Drops.refl _))))), .inl ⟨?_, ?_, ?_⟩⟩
    · rw [hr]; first | done | rfl
    · rw [hr]; first | done | rfl
    · rw [hr]; first | done | rfl | (unfold payF; split <;> rfl)
   ·
    rw [if_neg (by omega)] at hr
    refine VW_skip ?_
    refine InBlock_n (Then_n ?_)
    refine VW_seq ?_
    refine VW_region ?_
    refine VOps_cons rfl rfl (V_move rfl ?_)
    refine VOps_cons rfl rfl (V_fieldAddr VT.fa152_1 rfl ?_)
    refine VOps_cons rfl rfl (V_load 2 VT.ty3 rfl rfl rfl ?_)
    refine VOps_cons rfl rfl (V_call [.tmp 25, .tmp 27] [_] _ rfl rfl VT.en73 (perm_erase (i := 3) rfl) (pay_c gm u stk ov M size.n (by omega) (by omega) h2 h3) ?_)
    rintro r Sa rfl
    refine VOps_nil ?_
    refine Then_n ?_
    refine VW_seq ?_
    refine VW_seq ?_
    refine VW_region ?_
    refine VOps_cons rfl rfl (V_move rfl ?_)
    refine VOps_cons rfl rfl (V_nilCheck rfl ?_)
    refine VOps_cons rfl rfl (V_fieldAddr VT.fa119_3 rfl ?_)
    refine VOps_cons rfl rfl (V_load 0 VT.ty4 rfl rfl rfl ?_)
    refine VOps_nil ?_
    refine Then_n ?_
    refine VW_cond rfl (fun h32 => ?_) (fun h32 => ?_)
    ·
     rw [if_pos h32] at hr
     refine VW_seq ?_
     refine VW_region ?_
     refine VOps_cons rfl rfl (VOp_as (V_build [] [] VT.st152 rfl rfl rfl rfl ⟨rfl, rfl⟩) ((le_val ρ 0 0)) ?_)
     refine VOps_cons rfl rfl (V_store_agg 1 VT.ty152 rfl rfl rfl rfl rfl ?_)
     refine VOps_cons rfl rfl (V_assign rfl ?_)
     refine VOps_nil ?_
     refine Then_n ?_
     refine VW_ret ?_
     refine Then_r (VRet_many rfl rfl (.cons (.agg (i := 1) VT.ty152 rfl rfl rfl) (.cons (.tmp rfl) (.nil))) ?_)
     refine ⟨_, (Drops.keep (Drops.drop (Drops.drop (Drops.drop (Drops.refl _))))), .inl ⟨?_, ?_, ?_⟩⟩
     · rw [hr]; first | done | rfl
     · rw [hr]; first | done | rfl
     · rw [hr]; first | done | rfl | (unfold payF; split <;> rfl)
    ·
     rw [if_neg (by rw [h32]; decide)] at hr
     have hhp : (payF size.n M).heap = M.heap := by unfold payF; split <;> rfl
     refine VW_skip ?_
     refine Then_n ?_
     refine VW_seq ?_
     refine VW_region ?_
     refine VOps_cons rfl rfl (V_fieldAddr VT.fa152_1 rfl ?_)
     refine VOps_cons rfl rfl (V_load 3 VT.ty3 rfl rfl rfl ?_)
     refine VOps_cons rfl rfl (V_makeRow (valX ρ Val.zero) (zero_rep ρ) rfl VT.sl145 rfl rfl (by omega) (by omega) (fun g36 => ?_))
     refine VOps_cons rfl rfl (V_alloc VT.zr145 _ rfl rfl (fun g8 => ?_))
     refine VOps_cons rfl rfl (V_store 0 VT.ty145 rfl rfl rfl rfl rfl ?_)
     refine VOps_nil ?_
     refine Then_n ?_
     refine VW_seq ?_
     refine VW_seq ?_
     refine VW_region ?_
     refine VOps_cons rfl rfl (V_load 0 VT.ty145 rfl rfl rfl ?_)
     refine VOps_cons rfl rfl (V_len_raw Try.underlying145 rfl ?_)
     refine VOps_cons rfl rfl (V_move rfl ?_)
     refine VOps_nil ?_
     refine Then_n ?_
     refine VW_block ?_
     refine VW_loopF (ι := Nat × List Val) (fun (k, o) => size.n.toNat - k) (fun (k, o) => [(5, some (.ptr g5 0)), (6, some (.ptr g6 0)), (8, some (.ptr g8 0)), (38, some (.int size.n.toNat)), (39, some (.int k))]) (fun (k, o) => [acell g8 g36 size.n.toNat, arow ρ g36 o, mcells gm u stk ov (payF size.n M), .cells g6 152 VT.zs152, .cells g5 152 (valX ρ fill).leaves]) (fun (k, o) => k ≤ size.n.toNat ∧ o.length = size.n.toNat ∧ o.take k = List.replicate k fill) (0, List.replicate size.n.toNat Val.zero) ⟨Nat.zero_le _, List.length_replicate, rfl⟩ ⟨rfl, rfl, rfl, rfl, rfl, trivial⟩ (Drops.keep (Drops.keepE (by rw [arow, rowV, List.map_replicate]) (Drops.keep (Drops.keep (Drops.keep (Drops.drop (Drops.refl _))))))) ?_
     rintro ⟨k, o⟩ hA
     change k ≤ size.n.toNat ∧ o.length = size.n.toNat ∧ o.take k = List.replicate k fill at hA
     obtain ⟨hk, hlo, hq⟩ := hA
     refine VW_seq ?_
     refine VW_region ?_
     refine VOps_cons rfl rfl (V_bin rfl rfl rfl ?_)
     refine VOps_nil ?_
     refine Then_n ?_
     refine VW_seq ?_
     refine VW_condP rfl (fun h40 => ?_) (fun h40 => ?_)
     ·
      refine VW_skip ?_
      refine Then_n ?_
      refine VW_seq ?_
      refine VW_block ?_
      refine VW_seq ?_
      refine VW_region ?_
      refine VOps_cons rfl rfl (V_move rfl ?_)
      refine VOps_cons rfl rfl (V_assign rfl ?_)
      refine VOps_nil ?_
      refine Then_n ?_
      refine VW_region ?_
      refine VOps_cons rfl rfl (V_load 0 VT.ty145 rfl rfl rfl ?_)
      refine VOps_cons rfl rfl (V_move rfl ?_)
      refine VOps_cons rfl rfl (V_load_agg 4 VT.ty152 rfl rfl rfl ?_)
      refine VOps_cons rfl rfl (V_indexAddr_row VT.sl145 rfl rfl (by omega) (by omega) ?_)
      refine VOps_cons rfl rfl (V_store_elem 1 k VT.ty152 rfl (by simp) rfl rfl rfl (rowV_nil _ _) (vals_fit _ _) (by rw [List.length_map]; omega) ?_)
      refine VOps_nil ?_
      refine InBlock_n (Then_n ?_)
      refine VW_region ?_
      refine VOps_cons rfl rfl (V_add rfl rfl (by omega) ?_)
      refine VOps_cons rfl rfl (V_move rfl ?_)
      refine VOps_nil ?_
      refine Then_n ?_
      exact ⟨(k + 1, o.set k fill), (by (try simp only []); omega), ⟨by omega, by rw [List.length_set]; exact hlo, by rw [take_set_succ (by omega), hq, List.replicate_succ']⟩, ⟨rfl, rfl, rfl, rfl, rfl, trivial⟩, (Drops.keep (Drops.keepE (congrArg (Own.cells g36 152) (rowV_set ρ o k fill)) (Drops.keep (Drops.keep (Drops.keep (Drops.refl _))))))⟩
     ·
      have hke : k = size.n.toNat := by omega
      subst hke
      rw [List.take_of_length_le (by omega)] at hq
      subst hq
      refine VW_exit ?_
      refine Then_e (Then_e (InBlock_hit ?_))
      refine Then_n ?_
      refine VW_seq ?_
      refine VW_region ?_
      refine VOps_cons rfl rfl (VOp_as (V_build [0, 3] [.const (.int .i64 (3)), .tmp 8] VT.st152 rfl rfl rfl rfl ⟨rfl, rfl⟩) ((V.le.agg (xs := [.int 3, .int 0, V.nilSl, .ptr g8 0]) ⟨V.le.refl _, rfl, V.le.refl _, rfl, V.le.nil 4, rfl, V.le.refl _, rfl, trivial⟩ : V.le _ (.agg [.int 3, .int 0, .sl 4 none [], .ptr g8 0]))) ?_)
      refine VOps_cons rfl rfl (V_store_agg 3 VT.ty152 rfl rfl rfl rfl rfl ?_)
      refine VOps_cons rfl rfl (V_assign rfl ?_)
      refine VOps_nil ?_
      refine Then_n ?_
      refine VW_ret ?_
      refine VRet_many rfl rfl (.cons (.agg (i := 3) VT.ty152 rfl rfl rfl) (.cons (.tmp rfl) (.nil))) ?_
      refine ⟨_, (Drops.pick 2 rfl rfl (Drops.pick 0 rfl rfl (Drops.pick 0 rfl rfl (Drops.nil _)))), .inr ⟨g8, g36, rfl, ?_, ?_, ?_⟩⟩
      · rw [hr, ← hhp]; first | done | rfl
      · rw [hr, ← hhp]; first | done | rfl
      · rw [hr]; first | done | rfl


end Go.Proofs.Ytmioemdikgdpkaa.X6
