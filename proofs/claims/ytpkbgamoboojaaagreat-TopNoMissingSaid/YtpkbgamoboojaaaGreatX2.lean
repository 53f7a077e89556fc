import Derived.Test.YtpkbgamoboojaaaGreatX1
set_option maxRecDepth 100000
set_option maxHeartbeats 4000000
open Go.VL.Drops renaming keep → Dk, drop → Dd
set_option linter.all false
open List renaming all_cons → Ya, drop_length → Yb, all_nil → Yc, perm_append_comm → Yd, exists_cons_of_ne_nil → Ye
open Nat renaming zero_le → Yf
namespace Go.Proofs.YtpkbgamoboojaaaGreat.X2
open Go.VL Go.SM Go.Proofs.YtpkbgamoboojaaaGreat X1
theorem tdiv64 (k : Nat) : (k : Int).tdiv 64 = ((k / 64 : Nat) : Int) := rfl
theorem tmod64 (k : Nat) : (k : Int).tmod 64 = ((k % 64 : Nat) : Int) := rfl
theorem word_get (s : BSet) {k : Nat} (hk : k < 128) : ([V.u64 s.1, V.u64 s.2] : List V)[0 + ((k / 64 : Nat) : Int).toNat]? = some (V.u64 (s.word k)) := by
  have h : k / 64 = 0 \/ k / 64 = 1 := by omega
  unfold BSet.word
  rcases h with h | h <;> rw [h] <;> rfl
theorem ble_two {k : Nat} (hk : k < 128) (a b : V) : Nat.ble (0 + ((k / 64 : Nat) : Int).toNat + 1) ([a, b] : List V).length = true := by
  have h : k / 64 = 0 \/ k / 64 = 1 := by omega
  rcases h with h | h <;> rw [h] <;> rfl
theorem with_eq (s : BSet) {k : Nat} (hk : k < 128) : V.agg ((([V.u64 s.1, V.u64 s.2].set (0 + ((k / 64 : Nat) : Int).toNat) (V.u64 (s.word k ||| 1#64 <<< (k % 64)))).drop 0).take 2) = setV (s.with k) := by
  have h : k / 64 = 0 \/ k / 64 = 1 := by omega
  unfold BSet.word BSet.with setV
  rcases h with h | h <;> rw [h] <;> rfl
theorem has_n (s : BSet) (k : Nat) (hk : k < 128) : VPure Tryz.prog 102 [setV s, .int k] (.bool (s.has k)) := by
 refine V_start (nt := 14) Tryz.func102 rfl rfl rfl ?_
 refine Zb<|Zd<|Zc<|Zc2 rfl rfl<|λ g2 => (Zc<|Zk rfl<|Za<|Zi<|Zb<|Zd<|Zc<|Zl rfl<|Zc<|Zu2 (V_quo rfl rfl (by decide) (by rw [tdiv64]; omega) ⟨rfl, rfl⟩) (V.le.of_eq<|congrArg V.int<|tdiv64 k)<|Zc<|V_indexAddr_arr Tryz.underlying182 VT.se182 rfl rfl (by omega) (by omega)<|Zc<|Zu 0 VT.ty180 rfl rfl (word_get s hk)<|Zc<|Zl rfl<|Zc<|Zu2 (V_rem rfl rfl (by omega) ⟨rfl, rfl⟩) (V.le.of_eq<|congrArg V.int<|tmod64 k)<|Zc<|V_shr64 (n := (k % 64)) rfl rfl (Nat.mod_lt _ (by decide))<|Zc<|V_and64 (b := 1#64) rfl rfl<|Zc<|V_eq64 (b := 1#64) rfl rfl<|Zc<|Zk rfl<|Za<|Zi<|Zf1<|Zg1 rfl (.tmp rfl) ?_)
 rfl
theorem has_c (s : BSet) (k : Int) (h0 : 0 <= k) (h1 : k < 128) : VPure Tryz.prog 102 [setV s, .int k] (.bool (s.has k.toNat)) := by
  obtain ⟨n, rfl⟩ := Int.eq_ofNat_of_zero_le h0
  exact has_n s n (by omega)
theorem with_n (s : BSet) (k : Nat) (hk : k < 128) : VPure Tryz.prog 117 [setV s, .int k] (setV (s.with k)) := by
 refine V_start (nt := 15) Tryz.func117 rfl rfl rfl ?_
 refine Zb<|Zd<|Zc<|Zc2 rfl rfl<|λ g2 => (Zc<|Zb2 VT.zr182 _ rfl rfl<|λ g4 => (Za<|Zi<|Zb<|VW_drawR (G := Unit) [([], [1], []), ([0], [5], []), ([1, 0], [2, 6], []), ([2, 1, 0], [7], []), ([], [1], []), ([4], [9], []), ([5, 4], [10], []), (dn 7, [8, 11], []), (dn 8, [2, 6], []), (dn 9, [13, 12], [])] [9] (setSt _ 1<|λ _ => .cells g2 182<|[V.u64 s.1, V.u64 s.2].set (0 + ((k / 64 : Nat) : Int).toNat)<|V.u64 (s.word k ||| 1#64 <<< (k % 64))) [] [5, 6, 7, 8, 9, 10, 11, 12, 13] rfl VT.mix<|Zp (Zm _) (Zo rfl rfl ⟨(λ γ => Zf (λ _ h1 => Ze (Zn rfl (Zl h1 z0)))), trivial⟩)<|Zp (Zm _) (Zo rfl rfl ⟨(λ γ => Zw 0 0 rfl (λ _ h5 => Ze (Zn rfl (Zu2 (V_quo h5 rfl (by decide) (by rw [tdiv64]; omega) z0) (V.le.of_eq (congrArg V.int (tdiv64 k))) z0)))), trivial⟩)<|Zp (Zm _) (Zo rfl rfl ⟨(λ γ => Zf (λ _ h2 => Zw 1 0 rfl (λ _ h6 => Ze (Zn rfl (V_indexAddr_arr Tryz.underlying182 VT.se182 h2 h6 (by omega) (by omega) z0))))), trivial⟩)<|Zp (Zm _) (Zo rfl rfl ⟨(λ γ => Zw 2 0 rfl (λ _ h7 => Ze (Zn rfl (Zu 1 VT.ty180 h7 rfl (word_get s hk) z0)))), trivial⟩)<|Zp (Zm _) (Zo rfl rfl ⟨(λ γ => Zf (λ _ h1 => Ze (Zn rfl (Zl h1 z0)))), trivial⟩)<|Zp (Zm _) (Zo rfl rfl ⟨(λ γ => Zw 4 0 rfl (λ _ h9 => Ze (Zn rfl (Zu2 (V_rem h9 rfl (by omega) z0) (V.le.of_eq (congrArg V.int (tmod64 k))) z0)))), trivial⟩)<|Zp (Zm _) (Zo rfl rfl ⟨(λ γ => Zw 5 0 rfl (λ _ h10 => Ze (Zn rfl (V_shl64 (n := (k % 64)) (a := 1#64) rfl h10 (Nat.mod_lt _ (by decide)) z0)))), trivial⟩)<|Zp (Zm _) (Zo rfl rfl ⟨(λ γ => Zw 3 3 rfl (λ _ h8 => Zw 6 0 rfl (λ _ h11 => Ze (Zn rfl (V_or64 h8 h11 z0))))), trivial⟩)<|Zp (Zm _) (Zo rfl rfl ⟨(λ γ => Zf (λ _ h2 => Zw 1 6 rfl (λ _ h6 => Ze (Zn rfl (V_indexAddr_arr Tryz.underlying182 VT.se182 h2 h6 (by omega) (by omega) z0))))), trivial⟩)<|Zp Za3 (Zn2 rfl<|λ γ => Zw 8 0 rfl<|λ _ h13 => Zw 7 1 rfl<|λ _ h12 => Ze<|Zn rfl<|Zy 1 VT.ty180 h13 h12 rfl rfl (ble_two hk _ _) ⟨default, trivial, rfl⟩)<|DrawP_nil<|λ γ => Ze<|Zi<|Zb<|Zd<|Zc<|Zu2 (Zv 1 VT.ty182 rfl rfl (by rw [List.length_set]; rfl) ⟨rfl, rfl⟩) (V.le.of_eq<|with_eq s hk)<|Zc<|Zx 0 VT.ty182 rfl rfl rfl rfl rfl<|Za<|Zi<|Zf1<|Zg1 rfl (.agg (i := 0) VT.ty182 rfl rfl rfl) ?_))
 rfl
theorem with_c (s : BSet) (k : Int) (h0 : 0 <= k) (h1 : k < 128) : VPure Tryz.prog 117 [setV s, .int k] (setV (s.with k.toNat)) := by
  obtain ⟨n, rfl⟩ := Int.eq_ofNat_of_zero_le h0
  exact with_n s n (by omega)
theorem both_c (s t : BSet) : VPure Tryz.prog 118 [setV s, setV t] (setV (s.both t)) := by
 refine V_start (nt := 16) Tryz.func118 rfl rfl rfl ?_
 refine Zb<|Zd<|Zc<|Zc2 rfl rfl<|λ g2 => (Zc<|Zc2 rfl rfl<|λ g3 => (Zc<|Zb2 VT.zr182 _ rfl rfl<|λ g4 => (Za<|Zi<|Zb<|Zd<|Zc<|V_indexAddr_arr Tryz.underlying182 VT.se182 rfl rfl (by omega) (by omega)<|Zc<|Zu 2 VT.ty180 rfl rfl rfl<|Zc<|V_indexAddr_arr Tryz.underlying182 VT.se182 rfl rfl (by omega) (by omega)<|Zc<|Zu 1 VT.ty180 rfl rfl rfl<|Zc<|V_and64 rfl rfl<|Zc<|V_indexAddr_arr Tryz.underlying182 VT.se182 rfl rfl (by omega) (by omega)<|Zc<|Zu 2 VT.ty180 rfl rfl rfl<|Zc<|V_indexAddr_arr Tryz.underlying182 VT.se182 rfl rfl (by omega) (by omega)<|Zc<|Zu 1 VT.ty180 rfl rfl rfl<|Zc<|V_and64 rfl rfl<|Zc<|V_buildArr [0, 1] [.tmp 9, .tmp 14] VT.at182 rfl rfl rfl rfl<|Zc<|Zx 0 VT.ty182 rfl rfl rfl rfl rfl<|Za<|Zi<|Zf1<|Zg1 rfl (.agg (i := 0) VT.ty182 rfl rfl rfl) ?_)))
 rfl
theorem define_c (gc gm : Nat) (name : Int) (bs : List SBlock) (v : Int) (p : Int × Int) (d : Defs) : VCalls Tryz.prog 97 [.ptr gc 0, .int v, placeV p] [.cells gc 149 [.int name, blocksX bs, .raw (.map (some gm))], .map gm (kmap kint (encD d))] λ r S' => r = .int (defineF v p d).1 /\ S' = [.cells gc 149 [.int name, blocksX bs, .raw (.map (some gm))], .map gm (kmap kint (encD (defineF v p d).2))] := by
 refine VCalls_drops ?_
 have hr := defineF.eq_def v p d
 refine V_start (nt := 28) Tryz.func97 rfl rfl rfl ?_
 refine Zb<|Zd<|Zc<|Zc2 rfl rfl<|λ g5 => (Zc<|Zk rfl<|Za<|Zi<|Zb<|Zb<|Zd<|Zc<|Zl rfl<|Zc<|Zx1 [.tmp 9, .const (.int .i64 (0)), .const (.int .i64 (4095))] rfl rfl VT.en26 (within_c v _ _)<|Zc<|Zl2 rfl<|Za<|Zi<|Zo1 rfl (λ h11 => ?_)<|λ h11 => ?_)
 .
  rw [if_pos h11] at hr
  refine Zb<|Zd<|Zc<|Zk rfl<|Za<|Zi<|Zf1<|Zd1<|Zg1 rfl (.tmp rfl) ?_
  exact ⟨_, Dd (Zt2 _), by rw [hr], by rw [hr]⟩
 rw [if_neg (by rw [h11]; decide)] at hr
 refine Zi1<|Zi<|Zb<|Zb<|Zd<|Zc<|Zl rfl<|Zc<|Zv1 rfl<|Zc<|Zj VT.fa149_1 rfl<|Zc<|Zu 1 VT.ty147 rfl rfl rfl<|Zc<|Zl rfl<|Zc<|V_lookupDOk 2 (.agg VT.zs176) (λ m => ⟨rfl, _, rfl, by simp [Go.VL.RepL, VT.zs176, Rep]⟩) Tryz.underlying147 (key_int Tryz.underlying3) VT.zr176 rfl rfl rfl<|Zc<|Zl rfl<|Zc<|Zu2 (Zg2 rfl rfl ⟨rfl, rfl⟩) (V.le.of_eq<|kget_or d v)<|Zc<|Zu2 (Zg2 rfl rfl ⟨rfl, rfl⟩) (V.le.of_eq<|congrArg V.bool<|kget_some d v)<|Zc<|Zb2 VT.zr176 _ rfl rfl<|λ g7 => (Zc<|Zx 0 VT.ty176 rfl rfl rfl rfl rfl<|Zc<|Zk rfl<|Za<|Zi<|Zb<|Zd<|Zc<|Zl rfl<|Za<|Zi<|Zr1 rfl (λ h21 => ?_)<|λ h21 => ?_)
 .
  rw [if_pos h21] at hr
  refine Zb<|Zd<|Zc<|Zk rfl<|Za<|Zi<|Zf1<|Zd1<|Zg1 rfl (.tmp rfl) ?_
  exact ⟨_, Dd (Dd (Zt2 _)), by rw [hr], by rw [hr]⟩
 rw [if_neg (by rw [h21]; decide)] at hr
 have hn : dget d v = none := by simpa using h21
 refine Zi1<|Zi<|Zb<|VW_drawR (G := Unit) [([], [0], []), ([0], [22], []), ([1, 0], [23], []), ([2, 1, 0], [24], []), ([], [1], []), ([], [5], []), (dn 6, [25, 26, 27], [])] [6] (setSt _ 3<|λ _ => .map gm<|kmap kint<|kput (encD d) v<|placeV p) [] [22, 23, 24, 25, 26, 27] rfl VT.mix<|Zp (Zm _) (Zo rfl rfl ⟨(λ γ => Zf (λ _ h0 => Ze (Zn rfl (Zl h0 z0)))), trivial⟩)<|Zp (Zm _) (Zo rfl rfl ⟨(λ γ => Zw 0 0 rfl (λ _ h22 => Ze (Zn rfl (Zv1 h22 z0)))), trivial⟩)<|Zp (Zm _) (Zo rfl rfl ⟨(λ γ => Zw 1 0 rfl (λ _ h23 => Ze (Zn rfl (Zj VT.fa149_1 h23 z0)))), trivial⟩)<|Zp (Zm _) (Zo rfl rfl ⟨(λ γ => Zw 2 0 rfl (λ _ h24 => Ze (Zn rfl (Zu 2 VT.ty147 h24 rfl rfl z0)))), trivial⟩)<|Zp (Zm _) (Zo rfl rfl ⟨(λ γ => Zf (λ _ h1 => Ze (Zn rfl (Zl h1 z0)))), trivial⟩)<|Zp (Zm _) (Zo rfl rfl ⟨(λ γ => Zf (λ _ h5 => Ze (Zn rfl (Zv 1 VT.ty176 h5 rfl rfl z0)))), trivial⟩)<|Zp Za3 (Zn2 rfl<|λ γ => Zw 3 2 rfl<|λ _ h25 => Zw 4 1 rfl<|λ _ h26 => Zw 5 0 rfl<|λ _ h27 => Ze<|Zn rfl<|V_mapUpdate 3 Tryz.underlying147 (key_int Tryz.underlying3) h25 h26 h27 rfl ⟨default, trivial, rfl⟩)<|DrawP_nil<|λ γ => Ze<|Zi<|Zb<|Zd<|Zc<|Zk rfl<|Za<|Zi<|Zf1<|Zg1 rfl (.tmp rfl) ?_
 exact ⟨_, Dd (Dd (Zt2 _)), by rw [hr], by rw [hr, <- kput_encD v p hn]; rfl⟩
theorem end_c (name : Int) (bs : List SBlock) (t : STerm) : VPure Tryz.prog 99 [.agg [.int name, blocksX bs], termV t] (.int (endF bs t)) := by
 have hr := endF.eq_def bs t
 refine V_start (nt := 78) Tryz.func99 rfl rfl rfl ?_
 refine Zb<|Zd<|Zc<|Zc2 rfl rfl<|λ g2 => (Zc<|Zc2 rfl rfl<|λ g3 => (Zc<|Zk rfl<|Za<|Zi<|Zb<|Zs<|Zb<|Zd<|Zc<|Zv 0 VT.ty42 rfl rfl rfl<|Zc<|Zx1 [.tmp 10] rfl rfl VT.en115 (shape_c t)<|Zc<|Zl2 rfl<|Zc<|Zk rfl<|Za<|Zi<|Zo1 rfl (λ h9 => ?_)<|λ h9 => ?_))
 .
  rw [if_pos h9] at hr
  refine Zb<|Zd<|Zc<|Zk rfl<|Za<|Zi<|Zf1<|Za1<|Zd1<|Zg1 rfl (.tmp rfl) ?_
  rw [hr]
 rw [if_neg (by rw [h9]; decide)] at hr
 refine Zb<|Zd<|Zc<|Zj VT.fa42_3 rfl<|Zc<|Zu 0 VT.ty36 rfl rfl rfl<|Zc<|Zd2 (n := t.cases.length) Tryz.underlying36 rfl (by simp)<|λ hl16 => (Zc<|Zj1 rfl rfl rfl<|Zc<|Zk rfl<|Za<|Zi<|Zn1 rfl (λ h13 => ?_)<|λ h13 => ?_)
 .
  rw [if_pos h13] at hr
  refine Zb<|Zd<|Zc<|Zk rfl<|Za<|Zi<|Zf1<|Za1<|Zd1<|Zg1 rfl (.tmp rfl) ?_
  rw [hr]
 rw [if_neg h13] at hr
 refine Zb<|Zd<|Zc<|Zj VT.fa42_0 rfl<|Zc<|Zu 0 VT.ty3 rfl rfl rfl<|Zc<|Zj1 rfl rfl rfl<|Zc<|Zl rfl<|Zj2 (q := 22) rfl (λ hq22 => ?_)<|λ hq22 => ?_
 .
  refine Zc (Zj VT.fa42_2 rfl ?_)<|Zy1 hq22
  refine Zc (Zu 0 VT.ty3 rfl rfl rfl ?_)<|Zy1 hq22
  refine Zc (Zx1 [.tmp 24, .const (.int .i64 (1)), .const (.int .i64 (6))] rfl rfl VT.en26 (within_c _ _ _) ?_)<|Zy1 hq22
  refine Zc (Zl2 rfl ?_)<|Zy1 hq22
  refine Zc<|Zs1 rfl hq22 rfl<|Zc<|Zk rfl<|Za<|Zi<|Zo1 rfl (λ h18 => ?_)<|λ h18 => ?_
  .
   rw [if_pos (by simp_all)] at hr
   refine Zb<|Zd<|Zc<|Zk rfl<|Za<|Zi<|Zf1<|Za1<|Zd1<|Zg1 rfl (.tmp rfl) ?_
   rw [hr]
  rw [if_neg (by simp_all)] at hr
  refine Zi1<|Zb1<|Zi<|Zb<|Zb<|Zd<|Zc<|Zj VT.fa42_3 rfl<|Zc<|Zu 0 VT.ty36 rfl rfl rfl<|Zc<|Zd2 (n := t.cases.length) Tryz.underlying36 rfl (by simp)<|λ hl30 => (Zc<|Zl rfl<|Za<|Zi<|Zs<|Zi2 (ι := Nat) (λ k => t.cases.length - k) (λ k => [(2, some (.ptr g2 0)), (3, some (.ptr g3 0)), (29, some (intsX t.cases)), (30, some (.int t.cases.length)), (31, some (.int k))]) (λ k => [.cells g3 42 [.int t.kind, .int t.arg, .int t.n, intsX t.cases, edgesX t.to], .cells g2 47 [.int name, blocksX bs]]) (λ k => k <= t.cases.length /\ casesF (t.cases.take k) (t.cases.drop k) = casesF [] t.cases) 0 ⟨Yf _, by simp⟩ ⟨rfl, rfl, rfl, rfl, rfl, trivial⟩ (Dk<|Dk<|Zt2 _) ?_)
  rintro k hA
  change k <= t.cases.length /\ casesF (t.cases.take k) (t.cases.drop k) = casesF [] t.cases at hA
  obtain ⟨hk, hq⟩ := hA
  refine Zb<|Zd<|Zc<|Zj1 rfl rfl rfl<|Za<|Zi<|Zb<|Zn1 rfl (λ h32 => ?_)<|λ h32 => ?_
  .
   obtain ⟨c, hc⟩ := get_of_lt t.cases k h32
   refine Zi1<|Zi<|Zb<|Zs<|Zb<|Zd<|Zc<|Zl rfl<|Zc<|Zz (el := V.int c) VT.sl36 rfl rfl (by omega) (get_int hc)<|λ a34 => (Zc<|Zz1 VT.ty3 rfl rfl<|Zc<|Zk rfl<|Zc<|Zk rfl<|Za<|Zi<|Zs<|Zb<|Zd<|Zc<|Zl rfl<|Zc<|Zx1 [.tmp 37] rfl rfl VT.en116 (isWord_c _)<|Zc<|Zl2 rfl<|Zc<|Zk rfl<|Za<|Zi<|Zo1 rfl (λ h36 => ?_)<|λ h36 => ?_)
   .
    have hce : casesF [] t.cases = 4 := by rw [<- hq, drop_cons hc, casesF, if_pos h36]
    rw [if_pos (by rw [hce]; decide), hce] at hr
    refine Zb<|Zd<|Zc<|Zk rfl<|Za<|Zi<|Zf1<|Za1<|Za1<|Zd1<|Zd1<|Za1<|Zd1<|Zg1 rfl (.tmp rfl) ?_
    rw [hr]
   refine Zb<|Zd<|Zc<|Zj VT.fa42_3 rfl<|Zc<|Zu 0 VT.ty36 rfl rfl rfl<|Zc<|Zl rfl<|Zc<|Zu2 (V_sliceTo VT.sl36 rfl rfl (by omega) (by simp; omega) ⟨rfl, rfl⟩) (V.le.of_eq (v' := intsX (t.cases.take k)) (by rw [intsX, List.map_take]; rfl))<|Zc<|Zl rfl<|Zc<|Zx1 [.tmp 44, .tmp 45] rfl rfl VT.en58 (intContains_c (t.cases.take k) none c)<|Zc<|Zk rfl<|Za<|Zi<|Zr1 rfl (λ h40 => ?_)<|λ h40 => ?_
   .
    have hce : casesF [] t.cases = 7 := by rw [<- hq, drop_cons hc, casesF, if_neg (by rw [h36]; decide), if_pos h40]
    rw [if_pos (by rw [hce]; decide), hce] at hr
    refine Zb<|Zd<|Zc<|Zk rfl<|Za<|Zi<|Zf1<|Za1<|Za1<|Zd1<|Zd1<|Za1<|Zd1<|Zg1 rfl (.tmp rfl) ?_
    rw [hr]
   refine Zi1<|Zb1<|Zb1<|Zi<|Zd<|Zc<|Zh2 rfl rfl (by omega)<|Zc<|Zl rfl<|Za<|Zi ?_
   exact ⟨k + 1, (by (try simp only []); omega), ⟨by omega, by rw [<- hq, drop_cons hc, casesF, if_neg (by rw [h36]; decide), if_neg (by rw [h40]; decide), take_snoc hc]⟩, ⟨rfl, rfl, rfl, rfl, rfl, trivial⟩, (Dk (Dk (Zt2 _)))⟩
  have hke : k = t.cases.length := by omega
  subst hke
  have hce : casesF [] t.cases = 0 := by rw [<- hq, Yb, casesF]
  rw [if_neg (by rw [hce]; decide)] at hr
  refine Zt<|Ze1<|Ze1<|Zc1<|Zi<|Zb<|Zb<|Zd<|Zc<|Zj VT.fa42_4 rfl<|Zc<|Zu 0 VT.ty40 rfl rfl rfl<|Zc<|Zd2 (n := t.to.length) Tryz.underlying40 rfl (by simp)<|λ hl50 => (Zc<|Zl rfl<|Za<|Zi<|Zs<|Zi2 (ι := Nat) (λ k => t.to.length - k) (λ k => [(2, some (.ptr g2 0)), (3, some (.ptr g3 0)), (49, some (edgesX t.to)), (50, some (.int t.to.length)), (51, some (.int k))]) (λ k => [.cells g3 42 [.int t.kind, .int t.arg, .int t.n, intsX t.cases, edgesX t.to], .cells g2 47 [.int name, blocksX bs]]) (λ k => k <= t.to.length /\ edgesF bs (t.to.drop k) = edgesF bs t.to) 0 ⟨Yf _, rfl⟩ ⟨rfl, rfl, rfl, rfl, rfl, trivial⟩ (Dk<|Dk<|Zt2 _) ?_)
  rintro k hA
  change k <= t.to.length /\ edgesF bs (t.to.drop k) = edgesF bs t.to at hA
  obtain ⟨hk, hq⟩ := hA
  refine Zb<|Zd<|Zc<|Zj1 rfl rfl rfl<|Za<|Zi<|Zb<|Zn1 rfl (λ h52 => ?_)<|λ h52 => ?_
  .
   obtain ⟨e, he⟩ := get_of_lt t.to k h52
   refine Zi1<|Zi<|Zb<|Zs<|Zb<|Zd<|Zc<|Zz (el := edgeV e) VT.sl40 rfl rfl (by omega) (get_mapS _ he)<|λ a53 => (Zc<|Za2 VT.ty189 rfl rfl<|Zc<|Zb2 VT.zr189 _ rfl rfl<|λ g8 => (Zc<|Zx 0 VT.ty189 rfl rfl rfl rfl rfl<|Za<|Zi<|Zs<|Zb<|Zd<|Zc<|Zj VT.fa189_0 rfl<|Zc<|Zu 0 VT.ty3 rfl rfl rfl<|Zc<|Zj VT.fa47_1 rfl<|Zc<|Zu 2 VT.ty45 rfl rfl rfl<|Zc<|Zd2 (n := bs.length) Tryz.underlying45 rfl (by simp)<|λ hl60 => (Zc<|Zk2 rfl rfl (by omega)<|Zc<|Zx1 [.tmp 57, .const (.int .i64 (1)), .tmp 61] rfl rfl VT.en26 (within_c _ _ _)<|Zc<|Zl2 rfl<|Zc<|Zk rfl<|Za<|Zi<|Zo1 rfl (λ h55 => ?_)<|λ h55 => ?_)))
   .
    rw [<- hq, drop_cons he, edgesF, if_pos h55] at hr
    refine Zb<|Zd<|Zc<|Zk rfl<|Za<|Zi<|Zf1<|Za1<|Za1<|Zd1<|Zd1<|Za1<|Zd1<|Zg1 rfl (.tmp rfl) ?_
    rw [hr]
   have hw := wi_iff.1 h55
   obtain ⟨b, hb⟩ := get_of_lt bs e.block.toNat (by omega)
   have hp : paramsOf bs e.block = b.params := by rw [paramsOf, hb]; rfl
   refine Zb<|VW_drawR (G := Unit) [([], [8], []), ([0], [65], []), ([1, 0], [66], []), ([], [2], []), ([3], [68], []), ([], [8], []), ([5], [70], []), ([6, 5, 4, 3], [69, 71], []), ([7, 6, 5, 4, 3], [72], []), ([8, 7, 6, 5, 4, 3], [73], []), ([9, 8, 7, 6, 5, 4, 3], [74], []), (dn 11, [67, 75], []), (dn 12, [76], [])] [] (constSt _) [64] [64, 65, 66, 67, 68, 69, 70, 71, 72, 73, 74, 75, 76] rfl VT.mix<|ZA (λ γ => Zf<|λ _ h8 => Ze<|Zn rfl<|Zj VT.fa189_1 h8 z0)<|ZA (λ γ => Zw 0 0 rfl<|λ _ h65 => Ze<|Zn rfl<|Zu 0 VT.ty36 h65 rfl rfl z0)<|ZA (λ γ => Zw 1 0 rfl<|λ _ h66 => Ze<|Zn rfl<|Zd2 (n := e.args.length) Tryz.underlying36 h66 (by simp)<|λ hl67 => z0)<|ZA (λ γ => Zf<|λ _ h2 => Ze<|Zn rfl<|Zj VT.fa47_1 h2 z0)<|ZA (λ γ => Zw 3 0 rfl<|λ _ h68 => Ze<|Zn rfl<|Zu 2 VT.ty45 h68 rfl rfl z0)<|ZA (λ γ => Zf<|λ _ h8 => Ze<|Zn rfl<|Zj VT.fa189_0 h8 z0)<|ZA (λ γ => Zw 5 0 rfl<|λ _ h70 => Ze<|Zn rfl<|Zu 0 VT.ty3 h70 rfl rfl z0)<|Zp (Zb3 _) (Zq<|λ γ => Zw 4 2 rfl<|λ _ h69 => Zw 6 0 rfl<|λ _ h71 => Ze<|Zn rfl<|Zz (el := blockV b) VT.sl45 h69 h71 (by omega) (get_mapS _ hb)<|λ a72 => ⟨⟨_, rfl⟩, rfl⟩)<|Zp (Zb3 _) (Zq<|λ γ => Zw 7 0 rfl<|λ _ h72 => Ze<|Zc3 h72<|λ a_72 e72 => Zn rfl<|Zw1 VT.fa44_0 e72 rfl ⟨⟨_, rfl⟩, rfl⟩)<|ZA (λ γ => Zw 8 0 rfl<|λ _ h73 => Ze<|Zc3 h73<|λ a_73 e73 => Zn rfl<|Zz1 VT.ty36 e73 rfl z0)<|ZA (λ γ => Zw 9 0 rfl<|λ _ h74 => Ze<|Zn rfl<|Zd2 (n := b.params.length) Tryz.underlying36 h74 (by simp)<|λ hl75 => z0)<|ZA (λ γ => Zw 2 8 rfl<|λ _ h67 => Zw 10 0 rfl<|λ _ h75 => Ze<|Zn rfl<|Zj1 h67 h75 rfl z0)<|ZA (λ γ => Zw 11 0 rfl<|λ _ h76 => Ze<|Zn rfl<|Zk h76 z0)<|DrawP_nil<|λ γ => Zw 12 0 rfl<|λ r64 h64 => Ze ?_
   have e64 : r64 = some _ := h64
   subst e64
   clear h64
   refine Zi<|Zm1 rfl (λ h64 => ?_)<|λ h64 => ?_
   .
    rw [<- hq, drop_cons he, edgesF, if_neg (by rw [h55]; decide), if_pos (by rw [hp]; omega)] at hr
    refine Zb<|Zd<|Zc<|Zk rfl<|Za<|Zi<|Zf1<|Za1<|Za1<|Zd1<|Zd1<|Za1<|Zd1<|Zg1 rfl (.tmp rfl) ?_
    rw [hr]
   refine Zi1<|Zb1<|Zb1<|Zi<|Zd<|Zc<|Zh2 rfl rfl (by omega)<|Zc<|Zl rfl<|Za<|Zi ?_
   exact ⟨k + 1, (by (try simp only []); omega), ⟨by omega, by rw [<- hq, drop_cons he, edgesF, if_neg (by rw [h55]; decide), if_neg (by rw [hp]; omega)]⟩, ⟨rfl, rfl, rfl, rfl, rfl, trivial⟩, (Dd (Dk (Dk (Zt2 _))))⟩
  have hke : k = t.to.length := by omega
  subst hke
  rw [Yb, edgesF] at hq
  rw [<- hq] at hr
  refine Zt<|Ze1<|Ze1<|Zc1<|Zi<|Zb<|Zd<|Zc<|Zk rfl<|Za<|Zi<|Zf1<|Zg1 rfl (.tmp rfl) ?_
  rw [hr]
 refine Zk1 hq22<|Zk1 hq22<|Zk1 hq22<|Zk1 hq22<|Zc<|Zt1 rfl hq22 rfl<|Zc<|Zk rfl<|Za<|Zi<|Zq1 rfl rfl ?_
 rw [if_neg (by simp_all)] at hr
 refine Zi1<|Zb1<|Zi<|Zb<|Zb<|Zd<|Zc<|Zj VT.fa42_3 rfl<|Zc<|Zu 0 VT.ty36 rfl rfl rfl<|Zc<|Zd2 (n := t.cases.length) Tryz.underlying36 rfl (by simp)<|λ hl30 => (Zc<|Zl rfl<|Za<|Zi<|Zs<|Zi2 (ι := Nat) (λ k => t.cases.length - k) (λ k => [(2, some (.ptr g2 0)), (3, some (.ptr g3 0)), (29, some (intsX t.cases)), (30, some (.int t.cases.length)), (31, some (.int k))]) (λ k => [.cells g3 42 [.int t.kind, .int t.arg, .int t.n, intsX t.cases, edgesX t.to], .cells g2 47 [.int name, blocksX bs]]) (λ k => k <= t.cases.length /\ casesF (t.cases.take k) (t.cases.drop k) = casesF [] t.cases) 0 ⟨Yf _, by simp⟩ ⟨rfl, rfl, rfl, rfl, rfl, trivial⟩ (Dk<|Dk<|Zt2 _) ?_)
 rintro k hA
 change k <= t.cases.length /\ casesF (t.cases.take k) (t.cases.drop k) = casesF [] t.cases at hA
 obtain ⟨hk, hq⟩ := hA
 refine Zb<|Zd<|Zc<|Zj1 rfl rfl rfl<|Za<|Zi<|Zb<|Zn1 rfl (λ h32 => ?_)<|λ h32 => ?_
 .
  obtain ⟨c, hc⟩ := get_of_lt t.cases k h32
  refine Zi1<|Zi<|Zb<|Zs<|Zb<|Zd<|Zc<|Zl rfl<|Zc<|Zz (el := V.int c) VT.sl36 rfl rfl (by omega) (get_int hc)<|λ a34 => (Zc<|Zz1 VT.ty3 rfl rfl<|Zc<|Zk rfl<|Zc<|Zk rfl<|Za<|Zi<|Zs<|Zb<|Zd<|Zc<|Zl rfl<|Zc<|Zx1 [.tmp 37] rfl rfl VT.en116 (isWord_c _)<|Zc<|Zl2 rfl<|Zc<|Zk rfl<|Za<|Zi<|Zo1 rfl (λ h36 => ?_)<|λ h36 => ?_)
  .
   have hce : casesF [] t.cases = 4 := by rw [<- hq, drop_cons hc, casesF, if_pos h36]
   rw [if_pos (by rw [hce]; decide), hce] at hr
   refine Zb<|Zd<|Zc<|Zk rfl<|Za<|Zi<|Zf1<|Za1<|Za1<|Zd1<|Zd1<|Za1<|Zd1<|Zg1 rfl (.tmp rfl) ?_
   rw [hr]
  refine Zb<|Zd<|Zc<|Zj VT.fa42_3 rfl<|Zc<|Zu 0 VT.ty36 rfl rfl rfl<|Zc<|Zl rfl<|Zc<|Zu2 (V_sliceTo VT.sl36 rfl rfl (by omega) (by simp; omega) ⟨rfl, rfl⟩) (V.le.of_eq (v' := intsX (t.cases.take k)) (by rw [intsX, List.map_take]; rfl))<|Zc<|Zl rfl<|Zc<|Zx1 [.tmp 44, .tmp 45] rfl rfl VT.en58 (intContains_c (t.cases.take k) none c)<|Zc<|Zk rfl<|Za<|Zi<|Zr1 rfl (λ h40 => ?_)<|λ h40 => ?_
  .
   have hce : casesF [] t.cases = 7 := by rw [<- hq, drop_cons hc, casesF, if_neg (by rw [h36]; decide), if_pos h40]
   rw [if_pos (by rw [hce]; decide), hce] at hr
   refine Zb<|Zd<|Zc<|Zk rfl<|Za<|Zi<|Zf1<|Za1<|Za1<|Zd1<|Zd1<|Za1<|Zd1<|Zg1 rfl (.tmp rfl) ?_
   rw [hr]
  refine Zi1<|Zb1<|Zb1<|Zi<|Zd<|Zc<|Zh2 rfl rfl (by omega)<|Zc<|Zl rfl<|Za<|Zi ?_
  exact ⟨k + 1, (by (try simp only []); omega), ⟨by omega, by rw [<- hq, drop_cons hc, casesF, if_neg (by rw [h36]; decide), if_neg (by rw [h40]; decide), take_snoc hc]⟩, ⟨rfl, rfl, rfl, rfl, rfl, trivial⟩, (Dk (Dk (Zt2 _)))⟩
 have hke : k = t.cases.length := by omega
 subst hke
 have hce : casesF [] t.cases = 0 := by rw [<- hq, Yb, casesF]
 rw [if_neg (by rw [hce]; decide)] at hr
 refine Zt<|Ze1<|Ze1<|Zc1<|Zi<|Zb<|Zb<|Zd<|Zc<|Zj VT.fa42_4 rfl<|Zc<|Zu 0 VT.ty40 rfl rfl rfl<|Zc<|Zd2 (n := t.to.length) Tryz.underlying40 rfl (by simp)<|λ hl50 => (Zc<|Zl rfl<|Za<|Zi<|Zs<|Zi2 (ι := Nat) (λ k => t.to.length - k) (λ k => [(2, some (.ptr g2 0)), (3, some (.ptr g3 0)), (49, some (edgesX t.to)), (50, some (.int t.to.length)), (51, some (.int k))]) (λ k => [.cells g3 42 [.int t.kind, .int t.arg, .int t.n, intsX t.cases, edgesX t.to], .cells g2 47 [.int name, blocksX bs]]) (λ k => k <= t.to.length /\ edgesF bs (t.to.drop k) = edgesF bs t.to) 0 ⟨Yf _, rfl⟩ ⟨rfl, rfl, rfl, rfl, rfl, trivial⟩ (Dk<|Dk<|Zt2 _) ?_)
 rintro k hA
 change k <= t.to.length /\ edgesF bs (t.to.drop k) = edgesF bs t.to at hA
 obtain ⟨hk, hq⟩ := hA
 refine Zb<|Zd<|Zc<|Zj1 rfl rfl rfl<|Za<|Zi<|Zb<|Zn1 rfl (λ h52 => ?_)<|λ h52 => ?_
 .
  obtain ⟨e, he⟩ := get_of_lt t.to k h52
  refine Zi1<|Zi<|Zb<|Zs<|Zb<|Zd<|Zc<|Zz (el := edgeV e) VT.sl40 rfl rfl (by omega) (get_mapS _ he)<|λ a53 => (Zc<|Za2 VT.ty189 rfl rfl<|Zc<|Zb2 VT.zr189 _ rfl rfl<|λ g8 => (Zc<|Zx 0 VT.ty189 rfl rfl rfl rfl rfl<|Za<|Zi<|Zs<|Zb<|Zd<|Zc<|Zj VT.fa189_0 rfl<|Zc<|Zu 0 VT.ty3 rfl rfl rfl<|Zc<|Zj VT.fa47_1 rfl<|Zc<|Zu 2 VT.ty45 rfl rfl rfl<|Zc<|Zd2 (n := bs.length) Tryz.underlying45 rfl (by simp)<|λ hl60 => (Zc<|Zk2 rfl rfl (by omega)<|Zc<|Zx1 [.tmp 57, .const (.int .i64 (1)), .tmp 61] rfl rfl VT.en26 (within_c _ _ _)<|Zc<|Zl2 rfl<|Zc<|Zk rfl<|Za<|Zi<|Zo1 rfl (λ h55 => ?_)<|λ h55 => ?_)))
  .
   rw [<- hq, drop_cons he, edgesF, if_pos h55] at hr
   refine Zb<|Zd<|Zc<|Zk rfl<|Za<|Zi<|Zf1<|Za1<|Za1<|Zd1<|Zd1<|Za1<|Zd1<|Zg1 rfl (.tmp rfl) ?_
   rw [hr]
  have hw := wi_iff.1 h55
  obtain ⟨b, hb⟩ := get_of_lt bs e.block.toNat (by omega)
  have hp : paramsOf bs e.block = b.params := by rw [paramsOf, hb]; rfl
  refine Zb<|VW_drawR (G := Unit) [([], [8], []), ([0], [65], []), ([1, 0], [66], []), ([], [2], []), ([3], [68], []), ([], [8], []), ([5], [70], []), ([6, 5, 4, 3], [69, 71], []), ([7, 6, 5, 4, 3], [72], []), ([8, 7, 6, 5, 4, 3], [73], []), ([9, 8, 7, 6, 5, 4, 3], [74], []), (dn 11, [67, 75], []), (dn 12, [76], [])] [] (constSt _) [64] [64, 65, 66, 67, 68, 69, 70, 71, 72, 73, 74, 75, 76] rfl VT.mix<|ZA (λ γ => Zf<|λ _ h8 => Ze<|Zn rfl<|Zj VT.fa189_1 h8 z0)<|ZA (λ γ => Zw 0 0 rfl<|λ _ h65 => Ze<|Zn rfl<|Zu 0 VT.ty36 h65 rfl rfl z0)<|ZA (λ γ => Zw 1 0 rfl<|λ _ h66 => Ze<|Zn rfl<|Zd2 (n := e.args.length) Tryz.underlying36 h66 (by simp)<|λ hl67 => z0)<|ZA (λ γ => Zf<|λ _ h2 => Ze<|Zn rfl<|Zj VT.fa47_1 h2 z0)<|ZA (λ γ => Zw 3 0 rfl<|λ _ h68 => Ze<|Zn rfl<|Zu 2 VT.ty45 h68 rfl rfl z0)<|ZA (λ γ => Zf<|λ _ h8 => Ze<|Zn rfl<|Zj VT.fa189_0 h8 z0)<|ZA (λ γ => Zw 5 0 rfl<|λ _ h70 => Ze<|Zn rfl<|Zu 0 VT.ty3 h70 rfl rfl z0)<|Zp (Zb3 _) (Zq<|λ γ => Zw 4 2 rfl<|λ _ h69 => Zw 6 0 rfl<|λ _ h71 => Ze<|Zn rfl<|Zz (el := blockV b) VT.sl45 h69 h71 (by omega) (get_mapS _ hb)<|λ a72 => ⟨⟨_, rfl⟩, rfl⟩)<|Zp (Zb3 _) (Zq<|λ γ => Zw 7 0 rfl<|λ _ h72 => Ze<|Zc3 h72<|λ a_72 e72 => Zn rfl<|Zw1 VT.fa44_0 e72 rfl ⟨⟨_, rfl⟩, rfl⟩)<|ZA (λ γ => Zw 8 0 rfl<|λ _ h73 => Ze<|Zc3 h73<|λ a_73 e73 => Zn rfl<|Zz1 VT.ty36 e73 rfl z0)<|ZA (λ γ => Zw 9 0 rfl<|λ _ h74 => Ze<|Zn rfl<|Zd2 (n := b.params.length) Tryz.underlying36 h74 (by simp)<|λ hl75 => z0)<|ZA (λ γ => Zw 2 8 rfl<|λ _ h67 => Zw 10 0 rfl<|λ _ h75 => Ze<|Zn rfl<|Zj1 h67 h75 rfl z0)<|ZA (λ γ => Zw 11 0 rfl<|λ _ h76 => Ze<|Zn rfl<|Zk h76 z0)<|DrawP_nil<|λ γ => Zw 12 0 rfl<|λ r64 h64 => Ze ?_
  have e64 : r64 = some _ := h64
  subst e64
  clear h64
  refine Zi<|Zm1 rfl (λ h64 => ?_)<|λ h64 => ?_
  .
   rw [<- hq, drop_cons he, edgesF, if_neg (by rw [h55]; decide), if_pos (by rw [hp]; omega)] at hr
   refine Zb<|Zd<|Zc<|Zk rfl<|Za<|Zi<|Zf1<|Za1<|Za1<|Zd1<|Zd1<|Za1<|Zd1<|Zg1 rfl (.tmp rfl) ?_
   rw [hr]
  refine Zi1<|Zb1<|Zb1<|Zi<|Zd<|Zc<|Zh2 rfl rfl (by omega)<|Zc<|Zl rfl<|Za<|Zi ?_
  exact ⟨k + 1, (by (try simp only []); omega), ⟨by omega, by rw [<- hq, drop_cons he, edgesF, if_neg (by rw [h55]; decide), if_neg (by rw [hp]; omega)]⟩, ⟨rfl, rfl, rfl, rfl, rfl, trivial⟩, (Dd (Dk (Dk (Zt2 _))))⟩
 have hke : k = t.to.length := by omega
 subst hke
 rw [Yb, edgesF] at hq
 rw [<- hq] at hr
 refine Zt<|Ze1<|Ze1<|Zc1<|Zi<|Zb<|Zd<|Zc<|Zk rfl<|Za<|Zi<|Zf1<|Zg1 rfl (.tmp rfl) ?_
 rw [hr]
theorem calls_c (u : SUnit) (i : SIns) (hN : i.op = 13 \/ i.op = 9 -> 0 <= i.n) (hB : ∀ f ∈ u.fns, f.blocks ≠ []) : VPure Tryz.prog 51 [unitV u, insV i] (.int (callF u i)) := by
 have hr := callF.eq_def u i
 refine V_start (nt := 50) Tryz.func51 rfl rfl rfl ?_
 refine Zb<|Zd<|Zc<|Zc2 rfl rfl<|λ g2 => (Zc<|Zc2 rfl rfl<|λ g3 => (Zc<|Zk rfl<|Za<|Zi<|Zb<|Zb<|Zd<|Zc<|Zj VT.fa38_1 rfl<|Zc<|Zu 0 VT.ty3 rfl rfl rfl<|Zc<|Zj1 rfl rfl rfl<|Zc<|Zl rfl<|Zj2 (q := 9) rfl (λ hq9 => ?_)<|λ hq9 => ?_))
 .
  refine Zc (Zj VT.fa38_1 rfl ?_)<|Zy1 hq9
  refine Zc (Zu 0 VT.ty3 rfl rfl rfl ?_)<|Zy1 hq9
  refine Zc (Zj1 rfl rfl rfl ?_)<|Zy1 hq9
  refine Zc<|Zs1 rfl hq9 rfl<|Za<|Zi<|Zm1 rfl (λ h13 => ?_)<|λ h13 => ?_
  .
   rw [if_pos (by simp_all)] at hr
   refine Zb<|Zd<|Zc<|Zk rfl<|Za<|Zi<|Zf1<|Zd1<|Zg1 rfl (.tmp rfl) ?_
   rw [hr]
  rw [if_neg (by simp_all)] at hr
  have hop : i.op = 13 \/ i.op = 9 := by by_cases h1 : i.op = 13 <;> by_cases h2 : i.op = 9 <;> simp_all
  have h0 := hN hop
  refine Zi1<|Zi<|Zb<|Zb<|Zd<|Zc<|Zj VT.fa38_2 rfl<|Zc<|Zu 0 VT.ty3 rfl rfl rfl<|Zc<|Zj VT.fa50_0 rfl<|Zc<|Zu 1 VT.ty48 rfl rfl rfl<|Zc<|Zd2 (n := u.fns.length) Tryz.underlying48 rfl (by simp)<|λ hl18 => (Zc<|Zj1 rfl rfl rfl<|Za<|Zi<|Zn1 rfl (λ h19 => ?_)<|λ h19 => ?_)
  .
   rw [if_pos h19] at hr
   refine Zb<|Zd<|Zc<|Zk rfl<|Za<|Zi<|Zf1<|Zd1<|Zg1 rfl (.tmp rfl) ?_
   rw [hr]
  rw [if_neg h19] at hr
  obtain ⟨f, hf⟩ := get_of_lt u.fns i.n.toNat (by omega)
  obtain ⟨b, tl, hb⟩ := Ye (hB f (List.mem_of_getElem? hf))
  have hen : entryOf u i.n = b.params := by rw [entryOf, hf]; simp [paramsOf, hb]
  rw [hen] at hr
  refine Zi1<|Zi<|Zb<|Zd<|Zc<|Zj VT.fa50_0 rfl<|Zc<|Zu 1 VT.ty48 rfl rfl rfl<|Zc<|Zj VT.fa38_2 rfl<|Zc<|Zu 0 VT.ty3 rfl rfl rfl<|Zc<|Zz (el := funcV f) VT.sl48 rfl rfl (by omega) (get_mapS _ hf)<|λ a24 => (Zc<|Zw1 VT.fa47_1 rfl rfl<|Zc<|Zz1 VT.ty45 rfl rfl<|Zc<|Zz (el := blockV b) VT.sl45 rfl rfl (by omega) (by rw [hb]; rfl)<|λ a27 => (Zc<|Zw1 VT.fa44_0 rfl rfl<|Zc<|Zz1 VT.ty36 rfl rfl<|Zc<|Zd2 (n := b.params.length) Tryz.underlying36 rfl (by simp)<|λ hl30 => (Zc<|Zk rfl<|Za<|Zi<|Zb<|Zb<|Zd<|Zc<|Zj VT.fa38_1 rfl<|Zc<|Zu 0 VT.ty3 rfl rfl rfl<|Zc<|Zj1 rfl rfl rfl<|Zc<|Zl rfl<|Zj2 (q := 34) rfl (λ hq34 => ?_)<|λ hq34 => ?_)))
  .
   refine Zc (Zl rfl ?_)<|Zy1 hq34
   refine Zc (Zj VT.fa38_3 rfl ?_)<|Zy1 hq34
   refine Zc (Zu 0 VT.ty36 rfl rfl rfl ?_)<|Zy1 hq34
   refine Zc (Zd2 (n := i.args.length) Tryz.underlying36 rfl (by simp)<|λ hl38 => ?_)<|Zy1 hq34
   refine Zc (Zj1 rfl rfl rfl ?_)<|Zy1 hq34
   refine Zc<|Zs1 rfl hq34 rfl<|Zc<|Zl rfl<|Zj2 (q := 41) rfl (λ hq41 => ?_)<|λ hq41 => ?_
   .
    refine Zk0 hq41<|Zk0 hq41<|Zk0 hq41<|Zk0 hq41<|Zh (.inr ⟨_, _, 45, rfl, rfl, rfl⟩) rfl<|Zh (.inr ⟨_, _, 45, rfl, rfl, rfl⟩) rfl<|Zk0 hq41<|Zc<|Zs1 rfl hq41 rfl<|Za<|Zi<|Zp1 rfl rfl ?_
    rw [if_pos (by first | (simp_all; done) | (simp_all; omega))] at hr
    refine Zb<|Zd<|Zc<|Zk rfl<|Za<|Zi<|Zf1<|Zd1<|Zg1 rfl (.tmp rfl) ?_
    rw [hr]
   refine Zc (Zj VT.fa38_1 rfl ?_)<|Zy0 hq41
   refine Zc (Zu 0 VT.ty3 rfl rfl rfl ?_)<|Zy0 hq41
   refine Zc (Zj1 rfl rfl rfl ?_)<|Zy0 hq41
   refine Zc (Zl rfl ?_)<|Zy0 hq41
   refine Zj2 (q := 45) rfl (λ hq45 => ?_)<|λ hq45 => ?_
   .
    refine Zc (Zl rfl ?_)<|Zy1 hq45
    refine Zc (Zj1 rfl rfl rfl ?_)<|Zy1 hq45
    refine Zc (Zs1 rfl hq45 rfl ?_)<|Zy0 hq41
    refine Zc<|Zt1 rfl hq41 rfl<|Za<|Zi<|Zl1 rfl (λ h49 => ?_)<|λ h49 => ?_
    .
     rw [if_pos (by first | (simp_all; done) | (simp_all; omega))] at hr
     refine Zb<|Zd<|Zc<|Zk rfl<|Za<|Zi<|Zf1<|Zd1<|Zg1 rfl (.tmp rfl) ?_
     rw [hr]
    rw [if_neg (by first | (simp_all; done) | (simp_all; omega))] at hr
    refine Zi1<|Zi<|Zb<|Zd<|Zc<|Zk rfl<|Za<|Zi<|Zf1<|Zg1 rfl (.tmp rfl) ?_
    rw [hr]
   refine Zk1 hq45<|Zk1 hq45<|Zc (Zt1 rfl hq45 rfl ?_)<|Zy0 hq41
   refine Zc<|Zt1 rfl hq41 rfl<|Za<|Zi<|Zq1 rfl rfl ?_
   rw [if_neg (by first | (simp_all; done) | (simp_all; omega))] at hr
   refine Zi1<|Zi<|Zb<|Zd<|Zc<|Zk rfl<|Za<|Zi<|Zf1<|Zg1 rfl (.tmp rfl) ?_
   rw [hr]
  refine Zk1 hq34<|Zk1 hq34<|Zk1 hq34<|Zk1 hq34<|Zk1 hq34<|Zc<|Zt1 rfl hq34 rfl<|Zc<|Zl rfl<|Zc (Zj VT.fa38_1 rfl ?_)<|Zy0 rfl
  refine Zc (Zu 0 VT.ty3 rfl rfl rfl ?_)<|Zy0 rfl
  refine Zc (Zj1 rfl rfl rfl ?_)<|Zy0 rfl
  refine Zc (Zl rfl ?_)<|Zy0 rfl
  refine Zj2 (q := 45) rfl (λ hq45 => ?_)<|λ hq45 => ?_
  .
   refine Zc (Zl rfl ?_)<|Zy1 hq45
   refine Zc (Zj1 rfl rfl rfl ?_)<|Zy1 hq45
   refine Zc (Zs1 rfl hq45 rfl ?_)<|Zy0 rfl
   refine Zc<|Zt1 rfl rfl rfl<|Za<|Zi<|Zl1 rfl (λ h49 => ?_)<|λ h49 => ?_
   .
    rw [if_pos (by first | (simp_all; done) | (simp_all; omega))] at hr
    refine Zb<|Zd<|Zc<|Zk rfl<|Za<|Zi<|Zf1<|Zd1<|Zg1 rfl (.tmp rfl) ?_
    rw [hr]
   rw [if_neg (by first | (simp_all; done) | (simp_all; omega))] at hr
   refine Zi1<|Zi<|Zb<|Zd<|Zc<|Zk rfl<|Za<|Zi<|Zf1<|Zg1 rfl (.tmp rfl) ?_
   rw [hr]
  refine Zk1 hq45<|Zk1 hq45<|Zc (Zt1 rfl hq45 rfl ?_)<|Zy0 rfl
  refine Zc<|Zt1 rfl rfl rfl<|Za<|Zi<|Zq1 rfl rfl ?_
  rw [if_neg (by first | (simp_all; done) | (simp_all; omega))] at hr
  refine Zi1<|Zi<|Zb<|Zd<|Zc<|Zk rfl<|Za<|Zi<|Zf1<|Zg1 rfl (.tmp rfl) ?_
  rw [hr]
 refine Zk1 hq9<|Zk1 hq9<|Zk1 hq9<|Zc<|Zt1 rfl hq9 rfl<|Za<|Zi<|Zq1 rfl rfl ?_
 rw [if_neg (by simp_all)] at hr
 have hop : i.op = 13 \/ i.op = 9 := by by_cases h1 : i.op = 13 <;> by_cases h2 : i.op = 9 <;> simp_all
 have h0 := hN hop
 refine Zi1<|Zi<|Zb<|Zb<|Zd<|Zc<|Zj VT.fa38_2 rfl<|Zc<|Zu 0 VT.ty3 rfl rfl rfl<|Zc<|Zj VT.fa50_0 rfl<|Zc<|Zu 1 VT.ty48 rfl rfl rfl<|Zc<|Zd2 (n := u.fns.length) Tryz.underlying48 rfl (by simp)<|λ hl18 => (Zc<|Zj1 rfl rfl rfl<|Za<|Zi<|Zn1 rfl (λ h19 => ?_)<|λ h19 => ?_)
 .
  rw [if_pos h19] at hr
  refine Zb<|Zd<|Zc<|Zk rfl<|Za<|Zi<|Zf1<|Zd1<|Zg1 rfl (.tmp rfl) ?_
  rw [hr]
 rw [if_neg h19] at hr
 obtain ⟨f, hf⟩ := get_of_lt u.fns i.n.toNat (by omega)
 obtain ⟨b, tl, hb⟩ := Ye (hB f (List.mem_of_getElem? hf))
 have hen : entryOf u i.n = b.params := by rw [entryOf, hf]; simp [paramsOf, hb]
 rw [hen] at hr
 refine Zi1<|Zi<|Zb<|Zd<|Zc<|Zj VT.fa50_0 rfl<|Zc<|Zu 1 VT.ty48 rfl rfl rfl<|Zc<|Zj VT.fa38_2 rfl<|Zc<|Zu 0 VT.ty3 rfl rfl rfl<|Zc<|Zz (el := funcV f) VT.sl48 rfl rfl (by omega) (get_mapS _ hf)<|λ a24 => (Zc<|Zw1 VT.fa47_1 rfl rfl<|Zc<|Zz1 VT.ty45 rfl rfl<|Zc<|Zz (el := blockV b) VT.sl45 rfl rfl (by omega) (by rw [hb]; rfl)<|λ a27 => (Zc<|Zw1 VT.fa44_0 rfl rfl<|Zc<|Zz1 VT.ty36 rfl rfl<|Zc<|Zd2 (n := b.params.length) Tryz.underlying36 rfl (by simp)<|λ hl30 => (Zc<|Zk rfl<|Za<|Zi<|Zb<|Zb<|Zd<|Zc<|Zj VT.fa38_1 rfl<|Zc<|Zu 0 VT.ty3 rfl rfl rfl<|Zc<|Zj1 rfl rfl rfl<|Zc<|Zl rfl<|Zj2 (q := 34) rfl (λ hq34 => ?_)<|λ hq34 => ?_)))
 .
  refine Zc (Zl rfl ?_)<|Zy1 hq34
  refine Zc (Zj VT.fa38_3 rfl ?_)<|Zy1 hq34
  refine Zc (Zu 0 VT.ty36 rfl rfl rfl ?_)<|Zy1 hq34
  refine Zc (Zd2 (n := i.args.length) Tryz.underlying36 rfl (by simp)<|λ hl38 => ?_)<|Zy1 hq34
  refine Zc (Zj1 rfl rfl rfl ?_)<|Zy1 hq34
  refine Zc<|Zs1 rfl hq34 rfl<|Zc<|Zl rfl<|Zj2 (q := 41) rfl (λ hq41 => ?_)<|λ hq41 => ?_
  .
   refine Zk0 hq41<|Zk0 hq41<|Zk0 hq41<|Zk0 hq41<|Zh (.inr ⟨_, _, 45, rfl, rfl, rfl⟩) rfl<|Zh (.inr ⟨_, _, 45, rfl, rfl, rfl⟩) rfl<|Zk0 hq41<|Zc<|Zs1 rfl hq41 rfl<|Za<|Zi<|Zp1 rfl rfl ?_
   rw [if_pos (by first | (simp_all; done) | (simp_all; omega))] at hr
   refine Zb<|Zd<|Zc<|Zk rfl<|Za<|Zi<|Zf1<|Zd1<|Zg1 rfl (.tmp rfl) ?_
   rw [hr]
  refine Zc (Zj VT.fa38_1 rfl ?_)<|Zy0 hq41
  refine Zc (Zu 0 VT.ty3 rfl rfl rfl ?_)<|Zy0 hq41
  refine Zc (Zj1 rfl rfl rfl ?_)<|Zy0 hq41
  refine Zc (Zl rfl ?_)<|Zy0 hq41
  refine Zj2 (q := 45) rfl (λ hq45 => ?_)<|λ hq45 => ?_
  .
   refine Zc (Zl rfl ?_)<|Zy1 hq45
   refine Zc (Zj1 rfl rfl rfl ?_)<|Zy1 hq45
   refine Zc (Zs1 rfl hq45 rfl ?_)<|Zy0 hq41
   refine Zc<|Zt1 rfl hq41 rfl<|Za<|Zi<|Zl1 rfl (λ h49 => ?_)<|λ h49 => ?_
   .
    rw [if_pos (by first | (simp_all; done) | (simp_all; omega))] at hr
    refine Zb<|Zd<|Zc<|Zk rfl<|Za<|Zi<|Zf1<|Zd1<|Zg1 rfl (.tmp rfl) ?_
    rw [hr]
   rw [if_neg (by first | (simp_all; done) | (simp_all; omega))] at hr
   refine Zi1<|Zi<|Zb<|Zd<|Zc<|Zk rfl<|Za<|Zi<|Zf1<|Zg1 rfl (.tmp rfl) ?_
   rw [hr]
  refine Zk1 hq45<|Zk1 hq45<|Zc (Zt1 rfl hq45 rfl ?_)<|Zy0 hq41
  refine Zc<|Zt1 rfl hq41 rfl<|Za<|Zi<|Zq1 rfl rfl ?_
  rw [if_neg (by first | (simp_all; done) | (simp_all; omega))] at hr
  refine Zi1<|Zi<|Zb<|Zd<|Zc<|Zk rfl<|Za<|Zi<|Zf1<|Zg1 rfl (.tmp rfl) ?_
  rw [hr]
 refine Zk1 hq34<|Zk1 hq34<|Zk1 hq34<|Zk1 hq34<|Zk1 hq34<|Zc<|Zt1 rfl hq34 rfl<|Zc<|Zl rfl<|Zc (Zj VT.fa38_1 rfl ?_)<|Zy0 rfl
 refine Zc (Zu 0 VT.ty3 rfl rfl rfl ?_)<|Zy0 rfl
 refine Zc (Zj1 rfl rfl rfl ?_)<|Zy0 rfl
 refine Zc (Zl rfl ?_)<|Zy0 rfl
 refine Zj2 (q := 45) rfl (λ hq45 => ?_)<|λ hq45 => ?_
 .
  refine Zc (Zl rfl ?_)<|Zy1 hq45
  refine Zc (Zj1 rfl rfl rfl ?_)<|Zy1 hq45
  refine Zc (Zs1 rfl hq45 rfl ?_)<|Zy0 rfl
  refine Zc<|Zt1 rfl rfl rfl<|Za<|Zi<|Zl1 rfl (λ h49 => ?_)<|λ h49 => ?_
  .
   rw [if_pos (by first | (simp_all; done) | (simp_all; omega))] at hr
   refine Zb<|Zd<|Zc<|Zk rfl<|Za<|Zi<|Zf1<|Zd1<|Zg1 rfl (.tmp rfl) ?_
   rw [hr]
  rw [if_neg (by first | (simp_all; done) | (simp_all; omega))] at hr
  refine Zi1<|Zi<|Zb<|Zd<|Zc<|Zk rfl<|Za<|Zi<|Zf1<|Zg1 rfl (.tmp rfl) ?_
  rw [hr]
 refine Zk1 hq45<|Zk1 hq45<|Zc (Zt1 rfl hq45 rfl ?_)<|Zy0 rfl
 refine Zc<|Zt1 rfl rfl rfl<|Za<|Zi<|Zq1 rfl rfl ?_
 rw [if_neg (by first | (simp_all; done) | (simp_all; omega))] at hr
 refine Zi1<|Zi<|Zb<|Zd<|Zc<|Zk rfl<|Za<|Zi<|Zf1<|Zg1 rfl (.tmp rfl) ?_
 rw [hr]
theorem used_c (t : STerm) {c : FuncId} {caps : List V} {O : Store} {p : Int -> Bool} (hen : Enters Tryz.prog c) (hp : ∀ v, VKeep Tryz.prog c (.int v :: caps) O (.bool (p v))) : VKeep Tryz.prog 103 [termV t, .clo (.func c) caps] O (.bool (usedF t p)) := by
 refine VKeep.drops ?_
 have hr := usedF.eq_def t p
 refine V_start (nt := 44) Tryz.func103 rfl rfl rfl ?_
 refine Zb<|Zd<|Zc<|Zc2 rfl rfl<|λ g2 => (Zc<|Zk rfl<|Za<|Zi<|Zb<|Zb<|Zd<|Zc<|Zj VT.fa42_0 rfl<|Zc<|Zu 0 VT.ty3 rfl rfl rfl<|Zc<|Zj1 rfl rfl rfl<|Zc<|Zl rfl<|Zj2 (q := 12) rfl (λ hq12 => ?_)<|λ hq12 => ?_)
 .
  refine Zc (Zj VT.fa42_0 rfl ?_)<|Zy1 hq12
  refine Zc (Zu 0 VT.ty3 rfl rfl rfl ?_)<|Zy1 hq12
  refine Zc (Zj1 rfl rfl rfl ?_)<|Zy1 hq12
  refine Zc<|Zs1 rfl hq12 rfl<|Zc<|Zl rfl<|Zj2 (q := 17) rfl (λ hq17 => ?_)<|λ hq17 => ?_
  .
   refine Zc (Zl rfl ?_)<|Zy1 hq17
   refine Zc (Zj VT.fa42_1 rfl ?_)<|Zy1 hq17
   refine Zc (Zu 0 VT.ty3 rfl rfl rfl ?_)<|Zy1 hq17
   refine Zc (V_callCloKs [.tmp 20] _ [_] rfl rfl rfl hen (Yd (l₁ := [_]) (l₂ := _)) (hp _) ?_)<|Zy1 hq17
   refine Zc (Zl2 rfl ?_)<|Zy1 hq17
   refine Zc<|Zs1 rfl hq17 rfl<|Za<|Zi<|Zo1 rfl (λ h23 => ?_)<|λ h23 => ?_
   .
    rw [if_pos (by simp_all)] at hr
    refine Zb<|Zd<|Zc<|Zk rfl<|Za<|Zi<|Zf1<|Zd1<|Zg1 rfl (.tmp rfl) ?_
    exact ⟨by rw [hr], Dd (Zt2 _)⟩
   rw [if_neg (by simp_all)] at hr
   refine Zi1<|Zi<|Zb<|Zb<|Zd<|Zc<|Zj VT.fa42_4 rfl<|Zc<|Zu 0 VT.ty40 rfl rfl rfl<|Zc<|Zd2 (n := t.to.length) Tryz.underlying40 rfl (by simp)<|λ hl26 => (Zc<|Zl rfl<|Za<|Zi<|Zs<|Zi2 (ι := Nat) (λ k => t.to.length - k) (λ k => [(1, some (.clo (.func c) caps)), (25, some (edgesX t.to)), (26, some (.int t.to.length)), (27, some (.int k))]) (λ k => O) (λ k => k <= t.to.length /\ ((t.to.drop k).all λ e => e.args.all p) = (t.to.all λ e => e.args.all p)) 0 ⟨Yf _, rfl⟩ ⟨rfl, rfl, rfl, rfl, trivial⟩ (Dd<|Zt2 _) ?_)
   rintro k hA
   change k <= t.to.length /\ ((t.to.drop k).all λ e => e.args.all p) = (t.to.all λ e => e.args.all p) at hA
   obtain ⟨hk, hq⟩ := hA
   refine Zb<|Zd<|Zc<|Zj1 rfl rfl rfl<|Za<|Zi<|Zb<|Zn1 rfl (λ h28 => ?_)<|λ h28 => ?_
   .
    obtain ⟨e, he⟩ := get_of_lt t.to k h28
    refine Zi1<|Zi<|Zb<|Zs<|Zb<|Zd<|Zc<|Zz (el := edgeV e) VT.sl40 rfl rfl (by omega) (get_mapS _ he)<|λ a29 => (Zc<|Za2 VT.ty189 rfl rfl<|Zc<|Zb2 VT.zr189 _ rfl rfl<|λ g6 => (Zc<|Zx 0 VT.ty189 rfl rfl rfl rfl rfl<|Za<|Zi<|Zb<|Zd<|Zc<|Zj VT.fa189_1 rfl<|Zc<|Zu 0 VT.ty36 rfl rfl rfl<|Zc<|Zd2 (n := e.args.length) Tryz.underlying36 rfl (by simp)<|λ hl33 => (Zc<|Zl rfl<|Za<|Zi<|Zs<|Zi2 (ι := Nat) (λ j => e.args.length - j) (λ j => [(1, some (.clo (.func c) caps)), (25, some (edgesX t.to)), (26, some (.int t.to.length)), (27, some (.int k)), (32, some (intsX e.args)), (33, some (.int e.args.length)), (34, some (.int j))]) (λ j => O) (λ j => j <= e.args.length /\ (e.args.drop j).all p = e.args.all p) 0 ⟨Yf _, rfl⟩ ⟨rfl, rfl, rfl, rfl, rfl, rfl, rfl, trivial⟩ (Dd<|Zt2 _) ?_)))
    rintro j hA2
    change j <= e.args.length /\ (e.args.drop j).all p = e.args.all p at hA2
    obtain ⟨hj, hq2⟩ := hA2
    refine Zb<|Zd<|Zc<|Zj1 rfl rfl rfl<|Za<|Zi<|Zb<|Zn1 rfl (λ h35 => ?_)<|λ h35 => ?_
    .
     obtain ⟨x, hx⟩ := get_of_lt e.args j h35
     refine Zi1<|Zi<|Zb<|Zs<|Zb<|Zd<|Zc<|Zz (el := V.int x) VT.sl36 rfl rfl (by omega) (get_int hx)<|λ a36 => (Zc<|Zz1 VT.ty3 rfl rfl<|Zc<|Zk rfl<|Za<|Zi<|Zb<|Zd<|Zc<|Zl rfl<|Zc<|Zl rfl<|Zc<|V_callCloKs [.tmp 39] _ [] rfl rfl rfl hen (Yd (l₁ := []) (l₂ := _)) (hp _)<|Zc<|Zl2 rfl<|Za<|Zi<|Zo1 rfl (λ h41 => ?_)<|λ h41 => ?_)
     .
      have hall : e.args.all p = false := by rw [<- hq2, drop_cons hx, Ya, h41, Bool.false_and]
      rw [<- hq, drop_cons he, Ya, hall, Bool.false_and] at hr
      refine Zb<|Zd<|Zc<|Zk rfl<|Za<|Zi<|Zf1<|Za1<|Zd1<|Zd1<|Za1<|Za1<|Zd1<|Zd1<|Za1<|Zd1<|Zg1 rfl (.tmp rfl) ?_
      exact ⟨by rw [hr], Zt2 _⟩
     refine Zi1<|Zb1<|Zi<|Zd<|Zc<|Zh2 rfl rfl (by omega)<|Zc<|Zl rfl<|Za<|Zi ?_
     exact ⟨j + 1, (by (try simp only []); omega), ⟨by omega, by rw [<- hq2, drop_cons hx, Ya, h41, Bool.true_and]⟩, ⟨rfl, rfl, rfl, rfl, rfl, rfl, rfl, trivial⟩, (Zt2 _)⟩
    have hje : j = e.args.length := by omega
    subst hje
    rw [Yb, Yc] at hq2
    have hall : e.args.all p = true := hq2.symm
    refine Zt<|Ze1<|Ze1<|Zc1<|Zb1<|Zi<|Zd<|Zc<|Zh2 rfl rfl (by omega)<|Zc<|Zl rfl<|Za<|Zi ?_
    exact ⟨k + 1, (by (try simp only []); omega), ⟨by omega, by rw [<- hq, drop_cons he, Ya, hall, Bool.true_and]⟩, ⟨rfl, rfl, rfl, rfl, trivial⟩, (Zt2 _)⟩
   have hke : k = t.to.length := by omega
   subst hke
   rw [Yb, Yc] at hq
   rw [<- hq] at hr
   refine Zt<|Ze1<|Ze1<|Zc1<|Zi<|Zb<|Zd<|Zc<|Zk rfl<|Za<|Zi<|Zf1<|Zg1 rfl (.tmp rfl) ?_
   exact ⟨by rw [hr], Zt2 _⟩
  refine Zk1 hq17<|Zk1 hq17<|Zk1 hq17<|Zk1 hq17<|Zk1 hq17<|Zc<|Zt1 rfl hq17 rfl<|Za<|Zi<|Zq1 rfl rfl ?_
  rw [if_neg (by simp_all)] at hr
  refine Zi1<|Zi<|Zb<|Zb<|Zd<|Zc<|Zj VT.fa42_4 rfl<|Zc<|Zu 0 VT.ty40 rfl rfl rfl<|Zc<|Zd2 (n := t.to.length) Tryz.underlying40 rfl (by simp)<|λ hl26 => (Zc<|Zl rfl<|Za<|Zi<|Zs<|Zi2 (ι := Nat) (λ k => t.to.length - k) (λ k => [(1, some (.clo (.func c) caps)), (25, some (edgesX t.to)), (26, some (.int t.to.length)), (27, some (.int k))]) (λ k => O) (λ k => k <= t.to.length /\ ((t.to.drop k).all λ e => e.args.all p) = (t.to.all λ e => e.args.all p)) 0 ⟨Yf _, rfl⟩ ⟨rfl, rfl, rfl, rfl, trivial⟩ (Dd<|Zt2 _) ?_)
  rintro k hA
  change k <= t.to.length /\ ((t.to.drop k).all λ e => e.args.all p) = (t.to.all λ e => e.args.all p) at hA
  obtain ⟨hk, hq⟩ := hA
  refine Zb<|Zd<|Zc<|Zj1 rfl rfl rfl<|Za<|Zi<|Zb<|Zn1 rfl (λ h28 => ?_)<|λ h28 => ?_
  .
   obtain ⟨e, he⟩ := get_of_lt t.to k h28
   refine Zi1<|Zi<|Zb<|Zs<|Zb<|Zd<|Zc<|Zz (el := edgeV e) VT.sl40 rfl rfl (by omega) (get_mapS _ he)<|λ a29 => (Zc<|Za2 VT.ty189 rfl rfl<|Zc<|Zb2 VT.zr189 _ rfl rfl<|λ g6 => (Zc<|Zx 0 VT.ty189 rfl rfl rfl rfl rfl<|Za<|Zi<|Zb<|Zd<|Zc<|Zj VT.fa189_1 rfl<|Zc<|Zu 0 VT.ty36 rfl rfl rfl<|Zc<|Zd2 (n := e.args.length) Tryz.underlying36 rfl (by simp)<|λ hl33 => (Zc<|Zl rfl<|Za<|Zi<|Zs<|Zi2 (ι := Nat) (λ j => e.args.length - j) (λ j => [(1, some (.clo (.func c) caps)), (25, some (edgesX t.to)), (26, some (.int t.to.length)), (27, some (.int k)), (32, some (intsX e.args)), (33, some (.int e.args.length)), (34, some (.int j))]) (λ j => O) (λ j => j <= e.args.length /\ (e.args.drop j).all p = e.args.all p) 0 ⟨Yf _, rfl⟩ ⟨rfl, rfl, rfl, rfl, rfl, rfl, rfl, trivial⟩ (Dd<|Zt2 _) ?_)))
   rintro j hA2
   change j <= e.args.length /\ (e.args.drop j).all p = e.args.all p at hA2
   obtain ⟨hj, hq2⟩ := hA2
   refine Zb<|Zd<|Zc<|Zj1 rfl rfl rfl<|Za<|Zi<|Zb<|Zn1 rfl (λ h35 => ?_)<|λ h35 => ?_
   .
    obtain ⟨x, hx⟩ := get_of_lt e.args j h35
    refine Zi1<|Zi<|Zb<|Zs<|Zb<|Zd<|Zc<|Zz (el := V.int x) VT.sl36 rfl rfl (by omega) (get_int hx)<|λ a36 => (Zc<|Zz1 VT.ty3 rfl rfl<|Zc<|Zk rfl<|Za<|Zi<|Zb<|Zd<|Zc<|Zl rfl<|Zc<|Zl rfl<|Zc<|V_callCloKs [.tmp 39] _ [] rfl rfl rfl hen (Yd (l₁ := []) (l₂ := _)) (hp _)<|Zc<|Zl2 rfl<|Za<|Zi<|Zo1 rfl (λ h41 => ?_)<|λ h41 => ?_)
    .
     have hall : e.args.all p = false := by rw [<- hq2, drop_cons hx, Ya, h41, Bool.false_and]
     rw [<- hq, drop_cons he, Ya, hall, Bool.false_and] at hr
     refine Zb<|Zd<|Zc<|Zk rfl<|Za<|Zi<|Zf1<|Za1<|Zd1<|Zd1<|Za1<|Za1<|Zd1<|Zd1<|Za1<|Zd1<|Zg1 rfl (.tmp rfl) ?_
     exact ⟨by rw [hr], Zt2 _⟩
    refine Zi1<|Zb1<|Zi<|Zd<|Zc<|Zh2 rfl rfl (by omega)<|Zc<|Zl rfl<|Za<|Zi ?_
    exact ⟨j + 1, (by (try simp only []); omega), ⟨by omega, by rw [<- hq2, drop_cons hx, Ya, h41, Bool.true_and]⟩, ⟨rfl, rfl, rfl, rfl, rfl, rfl, rfl, trivial⟩, (Zt2 _)⟩
   have hje : j = e.args.length := by omega
   subst hje
   rw [Yb, Yc] at hq2
   have hall : e.args.all p = true := hq2.symm
   refine Zt<|Ze1<|Ze1<|Zc1<|Zb1<|Zi<|Zd<|Zc<|Zh2 rfl rfl (by omega)<|Zc<|Zl rfl<|Za<|Zi ?_
   exact ⟨k + 1, (by (try simp only []); omega), ⟨by omega, by rw [<- hq, drop_cons he, Ya, hall, Bool.true_and]⟩, ⟨rfl, rfl, rfl, rfl, trivial⟩, (Zt2 _)⟩
  have hke : k = t.to.length := by omega
  subst hke
  rw [Yb, Yc] at hq
  rw [<- hq] at hr
  refine Zt<|Ze1<|Ze1<|Zc1<|Zi<|Zb<|Zd<|Zc<|Zk rfl<|Za<|Zi<|Zf1<|Zg1 rfl (.tmp rfl) ?_
  exact ⟨by rw [hr], Zt2 _⟩
 refine Zk1 hq12<|Zk1 hq12<|Zk1 hq12<|Zc<|Zt1 rfl hq12 rfl<|Zc<|Zl rfl<|Zk1 rfl<|Zk1 rfl<|Zk1 rfl<|Zk1 rfl<|Zk1 rfl<|Zc<|Zt1 rfl rfl rfl<|Za<|Zi<|Zq1 rfl rfl ?_
 rw [if_neg (by simp_all)] at hr
 refine Zi1<|Zi<|Zb<|Zb<|Zd<|Zc<|Zj VT.fa42_4 rfl<|Zc<|Zu 0 VT.ty40 rfl rfl rfl<|Zc<|Zd2 (n := t.to.length) Tryz.underlying40 rfl (by simp)<|λ hl26 => (Zc<|Zl rfl<|Za<|Zi<|Zs<|Zi2 (ι := Nat) (λ k => t.to.length - k) (λ k => [(1, some (.clo (.func c) caps)), (25, some (edgesX t.to)), (26, some (.int t.to.length)), (27, some (.int k))]) (λ k => O) (λ k => k <= t.to.length /\ ((t.to.drop k).all λ e => e.args.all p) = (t.to.all λ e => e.args.all p)) 0 ⟨Yf _, rfl⟩ ⟨rfl, rfl, rfl, rfl, trivial⟩ (Dd<|Zt2 _) ?_)
 rintro k hA
 change k <= t.to.length /\ ((t.to.drop k).all λ e => e.args.all p) = (t.to.all λ e => e.args.all p) at hA
 obtain ⟨hk, hq⟩ := hA
 refine Zb<|Zd<|Zc<|Zj1 rfl rfl rfl<|Za<|Zi<|Zb<|Zn1 rfl (λ h28 => ?_)<|λ h28 => ?_
 .
  obtain ⟨e, he⟩ := get_of_lt t.to k h28
  refine Zi1<|Zi<|Zb<|Zs<|Zb<|Zd<|Zc<|Zz (el := edgeV e) VT.sl40 rfl rfl (by omega) (get_mapS _ he)<|λ a29 => (Zc<|Za2 VT.ty189 rfl rfl<|Zc<|Zb2 VT.zr189 _ rfl rfl<|λ g6 => (Zc<|Zx 0 VT.ty189 rfl rfl rfl rfl rfl<|Za<|Zi<|Zb<|Zd<|Zc<|Zj VT.fa189_1 rfl<|Zc<|Zu 0 VT.ty36 rfl rfl rfl<|Zc<|Zd2 (n := e.args.length) Tryz.underlying36 rfl (by simp)<|λ hl33 => (Zc<|Zl rfl<|Za<|Zi<|Zs<|Zi2 (ι := Nat) (λ j => e.args.length - j) (λ j => [(1, some (.clo (.func c) caps)), (25, some (edgesX t.to)), (26, some (.int t.to.length)), (27, some (.int k)), (32, some (intsX e.args)), (33, some (.int e.args.length)), (34, some (.int j))]) (λ j => O) (λ j => j <= e.args.length /\ (e.args.drop j).all p = e.args.all p) 0 ⟨Yf _, rfl⟩ ⟨rfl, rfl, rfl, rfl, rfl, rfl, rfl, trivial⟩ (Dd<|Zt2 _) ?_)))
  rintro j hA2
  change j <= e.args.length /\ (e.args.drop j).all p = e.args.all p at hA2
  obtain ⟨hj, hq2⟩ := hA2
  refine Zb<|Zd<|Zc<|Zj1 rfl rfl rfl<|Za<|Zi<|Zb<|Zn1 rfl (λ h35 => ?_)<|λ h35 => ?_
  .
   obtain ⟨x, hx⟩ := get_of_lt e.args j h35
   refine Zi1<|Zi<|Zb<|Zs<|Zb<|Zd<|Zc<|Zz (el := V.int x) VT.sl36 rfl rfl (by omega) (get_int hx)<|λ a36 => (Zc<|Zz1 VT.ty3 rfl rfl<|Zc<|Zk rfl<|Za<|Zi<|Zb<|Zd<|Zc<|Zl rfl<|Zc<|Zl rfl<|Zc<|V_callCloKs [.tmp 39] _ [] rfl rfl rfl hen (Yd (l₁ := []) (l₂ := _)) (hp _)<|Zc<|Zl2 rfl<|Za<|Zi<|Zo1 rfl (λ h41 => ?_)<|λ h41 => ?_)
   .
    have hall : e.args.all p = false := by rw [<- hq2, drop_cons hx, Ya, h41, Bool.false_and]
    rw [<- hq, drop_cons he, Ya, hall, Bool.false_and] at hr
    refine Zb<|Zd<|Zc<|Zk rfl<|Za<|Zi<|Zf1<|Za1<|Zd1<|Zd1<|Za1<|Za1<|Zd1<|Zd1<|Za1<|Zd1<|Zg1 rfl (.tmp rfl) ?_
    exact ⟨by rw [hr], Zt2 _⟩
   refine Zi1<|Zb1<|Zi<|Zd<|Zc<|Zh2 rfl rfl (by omega)<|Zc<|Zl rfl<|Za<|Zi ?_
   exact ⟨j + 1, (by (try simp only []); omega), ⟨by omega, by rw [<- hq2, drop_cons hx, Ya, h41, Bool.true_and]⟩, ⟨rfl, rfl, rfl, rfl, rfl, rfl, rfl, trivial⟩, (Zt2 _)⟩
  have hje : j = e.args.length := by omega
  subst hje
  rw [Yb, Yc] at hq2
  have hall : e.args.all p = true := hq2.symm
  refine Zt<|Ze1<|Ze1<|Zc1<|Zb1<|Zi<|Zd<|Zc<|Zh2 rfl rfl (by omega)<|Zc<|Zl rfl<|Za<|Zi ?_
  exact ⟨k + 1, (by (try simp only []); omega), ⟨by omega, by rw [<- hq, drop_cons he, Ya, hall, Bool.true_and]⟩, ⟨rfl, rfl, rfl, rfl, trivial⟩, (Zt2 _)⟩
 have hke : k = t.to.length := by omega
 subst hke
 rw [Yb, Yc] at hq
 rw [<- hq] at hr
 refine Zt<|Ze1<|Ze1<|Zc1<|Zi<|Zb<|Zd<|Zc<|Zk rfl<|Za<|Zi<|Zf1<|Zg1 rfl (.tmp rfl) ?_
 exact ⟨by rw [hr], Zt2 _⟩
end Go.Proofs.YtpkbgamoboojaaaGreat.X2
