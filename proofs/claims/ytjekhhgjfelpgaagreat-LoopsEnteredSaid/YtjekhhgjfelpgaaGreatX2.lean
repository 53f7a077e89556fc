import Derived.Test.YtjekhhgjfelpgaaGreatX1
set_option linter.all false
open List renaming all_cons → Ya, drop_length → Yb, all_nil → Yc, perm_append_comm → Yd, exists_cons_of_ne_nil → Ye
open Nat renaming zero_le → Yf
namespace Go.Proofs.YtjekhhgjfelpgaaGreat.X2
open Go.VL Go.SM Go.Proofs.YtjekhhgjfelpgaaGreat X1
theorem tdiv64 (k : Nat) : (k : Int).tdiv 64 = ((k / 64 : Nat) : Int) := rfl
theorem tmod64 (k : Nat) : (k : Int).tmod 64 = ((k % 64 : Nat) : Int) := rfl
theorem word_get (s : BSet) {k : Nat} (hk : k < 128) : ([V.u64 s.1, V.u64 s.2] : List V)[0 + ((k / 64 : Nat) : Int).toNat]? = some (V.u64 (s.word k)) := by
  have h : k / 64 = 0 ∨ k / 64 = 1 := by omega
  unfold BSet.word
  rcases h with h | h <;> rw [h] <;> rfl
theorem ble_two {k : Nat} (hk : k < 128) (a b : V) : Nat.ble (0 + ((k / 64 : Nat) : Int).toNat + 1) ([a, b] : List V).length = true := by
  have h : k / 64 = 0 ∨ k / 64 = 1 := by omega
  rcases h with h | h <;> rw [h] <;> rfl
theorem with_eq (s : BSet) {k : Nat} (hk : k < 128) : V.agg ((([V.u64 s.1, V.u64 s.2].set (0 + ((k / 64 : Nat) : Int).toNat) (V.u64 (s.word k ||| 1#64 <<< (k % 64)))).drop 0).take 2) = setV (s.with k) := by
  have h : k / 64 = 0 ∨ k / 64 = 1 := by omega
  unfold BSet.word BSet.with setV
  rcases h with h | h <;> rw [h] <;> rfl
set_option maxRecDepth 100000 in
theorem has_n (s : BSet) (k : Nat) (hk : k < 128) : VPure Tryz.prog 69 [setV s, .int k] (.bool (s.has k)) := by
 refine V_start (nt := 14) Tryz.func69 rfl rfl rfl ?_
 refine Zb (Zd ?_)
 refine Zc (Zc2 rfl rfl (fun g2 => ?_))
 refine Zc (Zk rfl (Za (Zi (Zb (Zd (Zc (Zl rfl ?_)))))))
 refine Zc (Zu2 (V_quo rfl rfl (by decide) (by rw [tdiv64]; omega) ⟨rfl, rfl⟩) (V.le.of_eq (congrArg V.int (tdiv64 k))) ?_)
 refine Zc (V_indexAddr_arr Tryz.underlying129 VT.se129 rfl rfl (by omega) (by omega) ?_)
 refine Zc (Zu 0 VT.ty127 rfl rfl (word_get s hk) ?_)
 refine Zc (Zl rfl ?_)
 refine Zc (Zu2 (V_rem rfl rfl (by omega) ⟨rfl, rfl⟩) (V.le.of_eq (congrArg V.int (tmod64 k))) ?_)
 refine Zc (V_shr64 (n := (k % 64)) rfl rfl (Nat.mod_lt _ (by decide)) ?_)
 refine Zc (V_and64 (b := 1#64) rfl rfl ?_)
 refine Zc (V_eq64 (b := 1#64) rfl rfl ?_)
 refine Zc (Zk rfl (Za (Zi (Zf1 ?_))))
 refine Zg1 rfl (.tmp rfl) ?_
 rfl
theorem has_c (s : BSet) (k : Int) (h0 : 0 ≤ k) (h1 : k < 128) : VPure Tryz.prog 69 [setV s, .int k] (.bool (s.has k.toNat)) := by
  obtain ⟨n, rfl⟩ := Int.eq_ofNat_of_zero_le h0
  exact has_n s n (by omega)
set_option maxRecDepth 100000 in
theorem with_n (s : BSet) (k : Nat) (hk : k < 128) : VPure Tryz.prog 94 [setV s, .int k] (setV (s.with k)) := by
 refine V_start (nt := 15) Tryz.func94 rfl rfl rfl ?_
 refine Zb (Zd ?_)
 refine Zc (Zc2 rfl rfl (fun g2 => ?_))
 refine Zc (Zb2 VT.zr129 _ rfl rfl (fun g4 => ?_))
 refine Za (Zi (Zb ?_))
 refine VW_drawR (G := Unit) [([], [1], []), ([0], [5], []), ([1, 0], [2, 6], []), ([2, 1, 0], [7], []), ([], [1], []), ([4], [9], []), ([5, 4], [10], []), (dn 7, [8, 11], []), (dn 8, [2, 6], []), (dn 9, [13, 12], [])] [9] (setSt _ 1 (fun _ => .cells g2 129 ([V.u64 s.1, V.u64 s.2].set (0 + ((k / 64 : Nat) : Int).toNat) (V.u64 (s.word k ||| 1#64 <<< (k % 64)))))) [] [5, 6, 7, 8, 9, 10, 11, 12, 13] rfl VT.mix ?_
 refine Zp (Zm _) (Zo rfl rfl ⟨(fun γ => Zf (fun _ h1 => Ze (Zn rfl (Zl h1 z0)))), trivial⟩) ?_
 refine Zp (Zm _) (Zo rfl rfl ⟨(fun γ => Zw 0 0 rfl (fun _ h5 => Ze (Zn rfl (Zu2 (V_quo h5 rfl (by decide) (by rw [tdiv64]; omega) z0) (V.le.of_eq (congrArg V.int (tdiv64 k))) z0)))), trivial⟩) ?_
 refine Zp (Zm _) (Zo rfl rfl ⟨(fun γ => Zf (fun _ h2 => Zw 1 0 rfl (fun _ h6 => Ze (Zn rfl (V_indexAddr_arr Tryz.underlying129 VT.se129 h2 h6 (by omega) (by omega) z0))))), trivial⟩) ?_
 refine Zp (Zm _) (Zo rfl rfl ⟨(fun γ => Zw 2 0 rfl (fun _ h7 => Ze (Zn rfl (Zu 1 VT.ty127 h7 rfl (word_get s hk) z0)))), trivial⟩) ?_
 refine Zp (Zm _) (Zo rfl rfl ⟨(fun γ => Zf (fun _ h1 => Ze (Zn rfl (Zl h1 z0)))), trivial⟩) ?_
 refine Zp (Zm _) (Zo rfl rfl ⟨(fun γ => Zw 4 0 rfl (fun _ h9 => Ze (Zn rfl (Zu2 (V_rem h9 rfl (by omega) z0) (V.le.of_eq (congrArg V.int (tmod64 k))) z0)))), trivial⟩) ?_
 refine Zp (Zm _) (Zo rfl rfl ⟨(fun γ => Zw 5 0 rfl (fun _ h10 => Ze (Zn rfl (V_shl64 (n := (k % 64)) (a := 1#64) rfl h10 (Nat.mod_lt _ (by decide)) z0)))), trivial⟩) ?_
 refine Zp (Zm _) (Zo rfl rfl ⟨(fun γ => Zw 3 3 rfl (fun _ h8 => Zw 6 0 rfl (fun _ h11 => Ze (Zn rfl (V_or64 h8 h11 z0))))), trivial⟩) ?_
 refine Zp (Zm _) (Zo rfl rfl ⟨(fun γ => Zf (fun _ h2 => Zw 1 6 rfl (fun _ h6 => Ze (Zn rfl (V_indexAddr_arr Tryz.underlying129 VT.se129 h2 h6 (by omega) (by omega) z0))))), trivial⟩) ?_
 refine Zp Za3 (Zn2 rfl (fun γ => Zw 8 0 rfl (fun _ h13 => Zw 7 1 rfl (fun _ h12 => Ze (Zn rfl (Zy 1 VT.ty127 h13 h12 rfl rfl (ble_two hk _ _) ⟨default, trivial, rfl⟩)))))) ?_
 refine DrawP_nil (fun γ => Ze ?_)
 refine Zi (Zb (Zd ?_))
 refine Zc (Zu2 (Zv 1 VT.ty129 rfl rfl (by rw [List.length_set]; rfl) ⟨rfl, rfl⟩) (V.le.of_eq (with_eq s hk)) ?_)
 refine Zc (Zx 0 VT.ty129 rfl rfl rfl rfl rfl (Za (Zi (Zf1 ?_))))
 refine Zg1 rfl (.agg (i := 0) VT.ty129 rfl rfl rfl) ?_
 rfl
theorem with_c (s : BSet) (k : Int) (h0 : 0 ≤ k) (h1 : k < 128) : VPure Tryz.prog 94 [setV s, .int k] (setV (s.with k.toNat)) := by
  obtain ⟨n, rfl⟩ := Int.eq_ofNat_of_zero_le h0
  exact with_n s n (by omega)
set_option maxRecDepth 100000 in
theorem both_c (s t : BSet) : VPure Tryz.prog 95 [setV s, setV t] (setV (s.both t)) := by
 refine V_start (nt := 16) Tryz.func95 rfl rfl rfl ?_
 refine Zb (Zd ?_)
 refine Zc (Zc2 rfl rfl (fun g2 => ?_))
 refine Zc (Zc2 rfl rfl (fun g3 => ?_))
 refine Zc (Zb2 VT.zr129 _ rfl rfl (fun g4 => ?_))
 refine Za (Zi (Zb (Zd ?_)))
 refine Zc (V_indexAddr_arr Tryz.underlying129 VT.se129 rfl rfl (by omega) (by omega) ?_)
 refine Zc (Zu 2 VT.ty127 rfl rfl rfl ?_)
 refine Zc (V_indexAddr_arr Tryz.underlying129 VT.se129 rfl rfl (by omega) (by omega) ?_)
 refine Zc (Zu 1 VT.ty127 rfl rfl rfl (Zc (V_and64 rfl rfl ?_)))
 refine Zc (V_indexAddr_arr Tryz.underlying129 VT.se129 rfl rfl (by omega) (by omega) ?_)
 refine Zc (Zu 2 VT.ty127 rfl rfl rfl ?_)
 refine Zc (V_indexAddr_arr Tryz.underlying129 VT.se129 rfl rfl (by omega) (by omega) ?_)
 refine Zc (Zu 1 VT.ty127 rfl rfl rfl (Zc (V_and64 rfl rfl ?_)))
 refine Zc (V_buildArr [0, 1] [.tmp 9, .tmp 14] VT.at129 rfl rfl rfl rfl ?_)
 refine Zc (Zx 0 VT.ty129 rfl rfl rfl rfl rfl (Za (Zi (Zf1 ?_))))
 refine Zg1 rfl (.agg (i := 0) VT.ty129 rfl rfl rfl) ?_
 rfl
set_option maxRecDepth 100000 in
set_option maxHeartbeats 2000000 in
theorem define_c (gc gm : Nat) (name : Int) (bs : List SBlock) (v : Int) (p : Int × Int) (d : Defs) : VCalls Tryz.prog 64 [.ptr gc 0, .int v, placeV p] [.cells gc 105 [.int name, blocksX bs, .raw (.map (some gm))], .map gm (kmap kint (encD d))] fun r S' => r = .int (defineF v p d).1 ∧ S' = [.cells gc 105 [.int name, blocksX bs, .raw (.map (some gm))], .map gm (kmap kint (encD (defineF v p d).2))] := by
 refine VCalls_drops ?_
 have hr := defineF.eq_def v p d
 refine V_start (nt := 28) Tryz.func64 rfl rfl rfl ?_
 refine Zb (Zd ?_)
 refine Zc (Zc2 rfl rfl (fun g5 => ?_))
 refine Zc (Zk rfl (Za (Zi (Zb (Zb (Zd (Zc (Zl rfl ?_))))))))
 refine Zc (Zx1 [.tmp 9, .const (.int .i64 (0)), .const (.int .i64 (4095))] rfl rfl VT.en22 (within_c v _ _) ?_)
 refine Zc (Zl2 rfl (Za (Zi ?_)))
 refine Zo1 rfl (fun h11 => ?_) (fun h11 => ?_)
 ·
  rw [if_pos h11] at hr
  refine Zb (Zd (Zc (Zk rfl (Za (Zi (Zf1 ?_))))))
  refine Zd1 (Zg1 rfl (.tmp rfl) ?_)
  exact ⟨_, Drops.drop (Zt2 _), by rw [hr], by rw [hr]⟩
 ·
  rw [if_neg (by rw [h11]; decide)] at hr
  refine Zi1 (Zi (Zb (Zb (Zd (Zc (Zl rfl (Zc (Zv1 rfl (Zc (Zj VT.fa105_1 rfl (Zc (Zu 1 VT.ty103 rfl rfl rfl (Zc (Zl rfl ?_))))))))))))))
  refine Zc (V_lookupDOk 2 (.agg VT.zs123) (fun m => ⟨rfl, _, rfl, by simp [Go.VL.RepL, VT.zs123, Rep]⟩) Tryz.underlying103 (key_int Tryz.underlying3) VT.zr123 rfl rfl rfl ?_)
  refine Zc (Zl rfl ?_)
  refine Zc (Zu2 (Zg2 rfl rfl ⟨rfl, rfl⟩) (V.le.of_eq (kget_or d v)) ?_)
  refine Zc (Zu2 (Zg2 rfl rfl ⟨rfl, rfl⟩) (V.le.of_eq (congrArg V.bool (kget_some d v))) ?_)
  refine Zc (Zb2 VT.zr123 _ rfl rfl (fun g7 => ?_))
  refine Zc (Zx 0 VT.ty123 rfl rfl rfl rfl rfl (Zc (Zk rfl (Za (Zi (Zb (Zd (Zc (Zl rfl (Za (Zi ?_)))))))))))
  refine Zr1 rfl (fun h21 => ?_) (fun h21 => ?_)
  ·
   rw [if_pos h21] at hr
   refine Zb (Zd (Zc (Zk rfl (Za (Zi (Zf1 ?_))))))
   refine Zd1 (Zg1 rfl (.tmp rfl) ?_)
   exact ⟨_, Drops.drop (Drops.drop (Zt2 _)), by rw [hr], by rw [hr]⟩
  ·
   rw [if_neg (by rw [h21]; decide)] at hr
   have hn : dget d v = none := by simpa using h21
   refine Zi1 (Zi (Zb ?_))
   refine VW_drawR (G := Unit) [([], [0], []), ([0], [22], []), ([1, 0], [23], []), ([2, 1, 0], [24], []), ([], [1], []), ([], [5], []), (dn 6, [25, 26, 27], [])] [6] (setSt _ 3 (fun _ => .map gm (kmap kint (kput (encD d) v (placeV p))))) [] [22, 23, 24, 25, 26, 27] rfl VT.mix ?_
   refine Zp (Zm _) (Zo rfl rfl ⟨(fun γ => Zf (fun _ h0 => Ze (Zn rfl (Zl h0 z0)))), trivial⟩) ?_
   refine Zp (Zm _) (Zo rfl rfl ⟨(fun γ => Zw 0 0 rfl (fun _ h22 => Ze (Zn rfl (Zv1 h22 z0)))), trivial⟩) ?_
   refine Zp (Zm _) (Zo rfl rfl ⟨(fun γ => Zw 1 0 rfl (fun _ h23 => Ze (Zn rfl (Zj VT.fa105_1 h23 z0)))), trivial⟩) ?_
   refine Zp (Zm _) (Zo rfl rfl ⟨(fun γ => Zw 2 0 rfl (fun _ h24 => Ze (Zn rfl (Zu 2 VT.ty103 h24 rfl rfl z0)))), trivial⟩) ?_
   refine Zp (Zm _) (Zo rfl rfl ⟨(fun γ => Zf (fun _ h1 => Ze (Zn rfl (Zl h1 z0)))), trivial⟩) ?_
   refine Zp (Zm _) (Zo rfl rfl ⟨(fun γ => Zf (fun _ h5 => Ze (Zn rfl (Zv 1 VT.ty123 h5 rfl rfl z0)))), trivial⟩) ?_
   refine Zp Za3 (Zn2 rfl (fun γ => Zw 3 2 rfl (fun _ h25 => Zw 4 1 rfl (fun _ h26 => Zw 5 0 rfl (fun _ h27 => Ze (Zn rfl (V_mapUpdate 3 Tryz.underlying103 (key_int Tryz.underlying3) h25 h26 h27 rfl ⟨default, trivial, rfl⟩))))))) ?_
   refine DrawP_nil (fun γ => Ze ?_)
   refine Zi (Zb (Zd (Zc (Zk rfl (Za (Zi (Zf1 ?_)))))))
   refine Zg1 rfl (.tmp rfl) ?_
   exact ⟨_, Drops.drop (Drops.drop (Zt2 _)), by rw [hr], by rw [hr, ← kput_encD v p hn]; rfl⟩
set_option maxRecDepth 100000 in
set_option maxHeartbeats 4000000 in
theorem end_c (name : Int) (bs : List SBlock) (t : STerm) : VPure Tryz.prog 66 [.agg [.int name, blocksX bs], termV t] (.int (endF bs t)) := by
 have hr := endF.eq_def bs t
 refine V_start (nt := 78) Tryz.func66 rfl rfl rfl ?_
 refine Zb (Zd ?_)
 refine Zc (Zc2 rfl rfl (fun g2 => ?_))
 refine Zc (Zc2 rfl rfl (fun g3 => ?_))
 refine Zc (Zk rfl (Za (Zi (Zb (Zs (Zb (Zd (Zc (Zv 0 VT.ty47 rfl rfl rfl ?_)))))))))
 refine Zc (Zx1 [.tmp 10] rfl rfl VT.en92 (shape_c t) ?_)
 refine Zc (Zl2 rfl (Zc (Zk rfl (Za (Zi ?_)))))
 refine Zo1 rfl (fun h9 => ?_) (fun h9 => ?_)
 ·
  rw [if_pos h9] at hr
  refine Zb (Zd (Zc (Zk rfl (Za (Zi (Zf1 ?_))))))
  refine Za1 (Zd1 (Zg1 rfl (.tmp rfl) ?_))
  rw [hr]
 ·
  rw [if_neg (by rw [h9]; decide)] at hr
  refine Zb (Zd (Zc (Zj VT.fa47_3 rfl (Zc (Zu 0 VT.ty41 rfl rfl rfl ?_)))))
  refine Zc (Zd2 (n := t.cases.length) Tryz.underlying41 rfl (by simp) (fun hl16 => ?_))
  refine Zc (Zj1 rfl rfl rfl (Zc (Zk rfl (Za (Zi ?_)))))
  refine Zn1 rfl (fun h13 => ?_) (fun h13 => ?_)
  ·
   rw [if_pos h13] at hr
   refine Zb (Zd (Zc (Zk rfl (Za (Zi (Zf1 ?_))))))
   refine Za1 (Zd1 (Zg1 rfl (.tmp rfl) ?_))
   rw [hr]
  ·
   rw [if_neg h13] at hr
   refine Zb (Zd (Zc (Zj VT.fa47_0 rfl (Zc (Zu 0 VT.ty3 rfl rfl rfl (Zc (Zj1 rfl rfl rfl (Zc (Zl rfl ?_)))))))))
   refine Zj2 (q := 22) rfl (fun hq22 => ?_) (fun hq22 => ?_)
   ·
    refine Zc (Zj VT.fa47_2 rfl ?_) (Zy1 hq22)
    refine Zc (Zu 0 VT.ty3 rfl rfl rfl ?_) (Zy1 hq22)
    refine Zc (Zx1 [.tmp 24, .const (.int .i64 (1)), .const (.int .i64 (6))] rfl rfl VT.en22 (within_c _ _ _) ?_) (Zy1 hq22)
    refine Zc (Zl2 rfl ?_) (Zy1 hq22)
    refine Zc (Zs1 rfl hq22 rfl ?_)
    refine Zc (Zk rfl (Za (Zi ?_)))
    refine Zo1 rfl (fun h18 => ?_) (fun h18 => ?_)
    ·
     rw [if_pos (by simp_all)] at hr
     refine Zb (Zd (Zc (Zk rfl (Za (Zi (Zf1 ?_))))))
     refine Za1 (Zd1 (Zg1 rfl (.tmp rfl) ?_))
     rw [hr]
    ·
     rw [if_neg (by simp_all)] at hr
     refine Zi1 (Zb1 (Zi (Zb (Zb (Zd (Zc (Zj VT.fa47_3 rfl (Zc (Zu 0 VT.ty41 rfl rfl rfl ?_)))))))))
     refine Zc (Zd2 (n := t.cases.length) Tryz.underlying41 rfl (by simp) (fun hl30 => ?_))
     refine Zc (Zl rfl (Za (Zi (Zs ?_))))
     refine Zi2 (ι := Nat) (fun k => t.cases.length - k) (fun k => [(2, some (.ptr g2 0)), (3, some (.ptr g3 0)), (29, some (intsX t.cases)), (30, some (.int t.cases.length)), (31, some (.int k))]) (fun k => [.cells g3 47 [.int t.kind, .int t.arg, .int t.n, intsX t.cases, edgesX t.to], .cells g2 34 [.int name, blocksX bs]]) (fun k => k ≤ t.cases.length ∧ casesF (t.cases.take k) (t.cases.drop k) = casesF [] t.cases) 0 ⟨Yf _, by simp⟩ ⟨rfl, rfl, rfl, rfl, rfl, trivial⟩ (Drops.keep (Drops.keep (Zt2 _))) ?_
     rintro k hA
     change k ≤ t.cases.length ∧ casesF (t.cases.take k) (t.cases.drop k) = casesF [] t.cases at hA
     obtain ⟨hk, hq⟩ := hA
     refine Zb (Zd (Zc (Zj1 rfl rfl rfl (Za (Zi (Zb ?_))))))
     refine Zn1 rfl (fun h32 => ?_) (fun h32 => ?_)
     ·
      obtain ⟨c, hc⟩ := get_of_lt t.cases k h32
      refine Zi1 (Zi (Zb (Zs (Zb (Zd (Zc (Zl rfl ?_)))))))
      refine Zc (Zz (el := V.int c) VT.sl41 rfl rfl (by omega) (get_int hc) (fun a34 => ?_))
      refine Zc (Zz1 VT.ty3 rfl rfl (Zc (Zk rfl (Zc (Zk rfl (Za (Zi (Zs (Zb (Zd (Zc (Zl rfl ?_))))))))))))
      refine Zc (Zx1 [.tmp 37] rfl rfl VT.en93 (isWord_c _) ?_)
      refine Zc (Zl2 rfl (Zc (Zk rfl (Za (Zi ?_)))))
      refine Zo1 rfl (fun h36 => ?_) (fun h36 => ?_)
      ·
       have hce : casesF [] t.cases = 4 := by rw [← hq, drop_cons hc, casesF, if_pos h36]
       rw [if_pos (by rw [hce]; decide), hce] at hr
       refine Zb (Zd (Zc (Zk rfl (Za (Zi (Zf1 ?_))))))
       refine Za1 (Za1 (Zd1 (Zd1 (Za1 (Zd1 (Zg1 rfl (.tmp rfl) ?_))))))
       rw [hr]
      ·
       refine Zb (Zd (Zc (Zj VT.fa47_3 rfl (Zc (Zu 0 VT.ty41 rfl rfl rfl (Zc (Zl rfl ?_)))))))
       refine Zc (Zu2 (V_sliceTo VT.sl41 rfl rfl (by omega) (by simp; omega) ⟨rfl, rfl⟩) (V.le.of_eq (v' := intsX (t.cases.take k)) (by rw [intsX, List.map_take]; rfl)) ?_)
       refine Zc (Zl rfl ?_)
       refine Zc (Zx1 [.tmp 44, .tmp 45] rfl rfl VT.en32 (intContains_c (t.cases.take k) none c) ?_)
       refine Zc (Zk rfl (Za (Zi ?_)))
       refine Zr1 rfl (fun h40 => ?_) (fun h40 => ?_)
       ·
        have hce : casesF [] t.cases = 7 := by rw [← hq, drop_cons hc, casesF, if_neg (by rw [h36]; decide), if_pos h40]
        rw [if_pos (by rw [hce]; decide), hce] at hr
        refine Zb (Zd (Zc (Zk rfl (Za (Zi (Zf1 ?_))))))
        refine Za1 (Za1 (Zd1 (Zd1 (Za1 (Zd1 (Zg1 rfl (.tmp rfl) ?_))))))
        rw [hr]
       ·
        refine Zi1 (Zb1 (Zb1 (Zi (Zd ?_))))
        refine Zc (Zh2 rfl rfl (by omega) ?_)
        refine Zc (Zl rfl (Za (Zi ?_)))
        exact ⟨k + 1, (by (try simp only []); omega), ⟨by omega, by rw [← hq, drop_cons hc, casesF, if_neg (by rw [h36]; decide), if_neg (by rw [h40]; decide), take_snoc hc]⟩, ⟨rfl, rfl, rfl, rfl, rfl, trivial⟩, (Drops.keep (Drops.keep (Zt2 _)))⟩
     ·
      have hke : k = t.cases.length := by omega
      subst hke
      have hce : casesF [] t.cases = 0 := by rw [← hq, Yb, casesF]
      rw [if_neg (by rw [hce]; decide)] at hr
      refine Zt (Ze1 (Ze1 (Zc1 (Zi (Zb (Zb (Zd (Zc (Zj VT.fa47_4 rfl (Zc (Zu 0 VT.ty45 rfl rfl rfl ?_)))))))))))
      refine Zc (Zd2 (n := t.to.length) Tryz.underlying45 rfl (by simp) (fun hl50 => ?_))
      refine Zc (Zl rfl (Za (Zi (Zs ?_))))
      refine Zi2 (ι := Nat) (fun k => t.to.length - k) (fun k => [(2, some (.ptr g2 0)), (3, some (.ptr g3 0)), (49, some (edgesX t.to)), (50, some (.int t.to.length)), (51, some (.int k))]) (fun k => [.cells g3 47 [.int t.kind, .int t.arg, .int t.n, intsX t.cases, edgesX t.to], .cells g2 34 [.int name, blocksX bs]]) (fun k => k ≤ t.to.length ∧ edgesF bs (t.to.drop k) = edgesF bs t.to) 0 ⟨Yf _, rfl⟩ ⟨rfl, rfl, rfl, rfl, rfl, trivial⟩ (Drops.keep (Drops.keep (Zt2 _))) ?_
      rintro k hA
      change k ≤ t.to.length ∧ edgesF bs (t.to.drop k) = edgesF bs t.to at hA
      obtain ⟨hk, hq⟩ := hA
      refine Zb (Zd (Zc (Zj1 rfl rfl rfl (Za (Zi (Zb ?_))))))
      refine Zn1 rfl (fun h52 => ?_) (fun h52 => ?_)
      ·
       obtain ⟨e, he⟩ := get_of_lt t.to k h52
       refine Zi1 (Zi (Zb (Zs (Zb (Zd ?_)))))
       refine Zc (Zz (el := edgeV e) VT.sl45 rfl rfl (by omega) (get_mapS _ he) (fun a53 => ?_))
       refine Zc (Za2 VT.ty79 rfl rfl ?_)
       refine Zc (Zb2 VT.zr79 _ rfl rfl (fun g8 => ?_))
       refine Zc (Zx 0 VT.ty79 rfl rfl rfl rfl rfl (Za (Zi (Zs (Zb (Zd (Zc (Zj VT.fa79_0 rfl (Zc (Zu 0 VT.ty3 rfl rfl rfl (Zc (Zj VT.fa34_1 rfl (Zc (Zu 2 VT.ty32 rfl rfl rfl ?_))))))))))))))
       refine Zc (Zd2 (n := bs.length) Tryz.underlying32 rfl (by simp) (fun hl60 => ?_))
       refine Zc (Zk2 rfl rfl (by omega) ?_)
       refine Zc (Zx1 [.tmp 57, .const (.int .i64 (1)), .tmp 61] rfl rfl VT.en22 (within_c _ _ _) ?_)
       refine Zc (Zl2 rfl (Zc (Zk rfl (Za (Zi ?_)))))
       refine Zo1 rfl (fun h55 => ?_) (fun h55 => ?_)
       ·
        rw [← hq, drop_cons he, edgesF, if_pos h55] at hr
        refine Zb (Zd (Zc (Zk rfl (Za (Zi (Zf1 ?_))))))
        refine Za1 (Za1 (Zd1 (Zd1 (Za1 (Zd1 (Zg1 rfl (.tmp rfl) ?_))))))
        rw [hr]
       ·
        have hw := wi_iff.1 h55
        obtain ⟨b, hb⟩ := get_of_lt bs e.block.toNat (by omega)
        have hp : paramsOf bs e.block = b.params := by rw [paramsOf, hb]; rfl
        refine Zb ?_
        refine VW_drawR (G := Unit) [([], [8], []), ([0], [65], []), ([1, 0], [66], []), ([], [2], []), ([3], [68], []), ([], [8], []), ([5], [70], []), ([6, 5, 4, 3], [69, 71], []), ([7, 6, 5, 4, 3], [72], []), ([8, 7, 6, 5, 4, 3], [73], []), ([9, 8, 7, 6, 5, 4, 3], [74], []), (dn 11, [67, 75], []), (dn 12, [76], [])] [] (constSt _) [64] [64, 65, 66, 67, 68, 69, 70, 71, 72, 73, 74, 75, 76] rfl VT.mix ?_
        refine ZA (fun γ => Zf (fun _ h8 => Ze (Zn rfl (Zj VT.fa79_1 h8 z0)))) ?_
        refine ZA (fun γ => Zw 0 0 rfl (fun _ h65 => Ze (Zn rfl (Zu 0 VT.ty41 h65 rfl rfl z0)))) ?_
        refine ZA (fun γ => Zw 1 0 rfl (fun _ h66 => Ze (Zn rfl (Zd2 (n := e.args.length) Tryz.underlying41 h66 (by simp) (fun hl67 => z0))))) ?_
        refine ZA (fun γ => Zf (fun _ h2 => Ze (Zn rfl (Zj VT.fa34_1 h2 z0)))) ?_
        refine ZA (fun γ => Zw 3 0 rfl (fun _ h68 => Ze (Zn rfl (Zu 2 VT.ty32 h68 rfl rfl z0)))) ?_
        refine ZA (fun γ => Zf (fun _ h8 => Ze (Zn rfl (Zj VT.fa79_0 h8 z0)))) ?_
        refine ZA (fun γ => Zw 5 0 rfl (fun _ h70 => Ze (Zn rfl (Zu 0 VT.ty3 h70 rfl rfl z0)))) ?_
        refine Zp (Zb3 _) (Zq (fun γ => Zw 4 2 rfl (fun _ h69 => Zw 6 0 rfl (fun _ h71 => Ze (Zn rfl (Zz (el := blockV b) VT.sl32 h69 h71 (by omega) (get_mapS _ hb) (fun a72 => ⟨⟨_, rfl⟩, rfl⟩))))))) ?_
        refine Zp (Zb3 _) (Zq (fun γ => Zw 7 0 rfl (fun _ h72 => Ze (Zc3 h72 (fun a_72 e72 => Zn rfl (Zw1 VT.fa50_0 e72 rfl ⟨⟨_, rfl⟩, rfl⟩)))))) ?_
        refine ZA (fun γ => Zw 8 0 rfl (fun _ h73 => Ze (Zc3 h73 (fun a_73 e73 => Zn rfl (Zz1 VT.ty41 e73 rfl z0))))) ?_
        refine ZA (fun γ => Zw 9 0 rfl (fun _ h74 => Ze (Zn rfl (Zd2 (n := b.params.length) Tryz.underlying41 h74 (by simp) (fun hl75 => z0))))) ?_
        refine ZA (fun γ => Zw 2 8 rfl (fun _ h67 => Zw 10 0 rfl (fun _ h75 => Ze (Zn rfl (Zj1 h67 h75 rfl z0))))) ?_
        refine ZA (fun γ => Zw 11 0 rfl (fun _ h76 => Ze (Zn rfl (Zk h76 z0)))) ?_
        refine DrawP_nil (fun γ => Zw 12 0 rfl (fun r64 h64 => Ze ?_))
        have e64 : r64 = some _ := h64
        subst e64
        clear h64
        refine Zi ?_
        refine Zm1 rfl (fun h64 => ?_) (fun h64 => ?_)
        ·
         rw [← hq, drop_cons he, edgesF, if_neg (by rw [h55]; decide), if_pos (by rw [hp]; omega)] at hr
         refine Zb (Zd (Zc (Zk rfl (Za (Zi (Zf1 ?_))))))
         refine Za1 (Za1 (Zd1 (Zd1 (Za1 (Zd1 (Zg1 rfl (.tmp rfl) ?_))))))
         rw [hr]
        ·
         refine Zi1 (Zb1 (Zb1 (Zi (Zd ?_))))
         refine Zc (Zh2 rfl rfl (by omega) ?_)
         refine Zc (Zl rfl (Za (Zi ?_)))
         exact ⟨k + 1, (by (try simp only []); omega), ⟨by omega, by rw [← hq, drop_cons he, edgesF, if_neg (by rw [h55]; decide), if_neg (by rw [hp]; omega)]⟩, ⟨rfl, rfl, rfl, rfl, rfl, trivial⟩, (Drops.drop (Drops.keep (Drops.keep (Zt2 _))))⟩
      ·
       have hke : k = t.to.length := by omega
       subst hke
       rw [Yb, edgesF] at hq
       rw [← hq] at hr
       refine Zt (Ze1 (Ze1 (Zc1 (Zi (Zb (Zd (Zc (Zk rfl (Za (Zi (Zf1 ?_)))))))))))
       refine Zg1 rfl (.tmp rfl) ?_
       rw [hr]
   ·
    refine Zk1 hq22 ?_
    refine Zk1 hq22 ?_
    refine Zk1 hq22 ?_
    refine Zk1 hq22 ?_
    refine Zc (Zt1 rfl hq22 rfl ?_)
    refine Zc (Zk rfl (Za (Zi ?_)))
    refine Zq1 rfl rfl ?_
    rw [if_neg (by simp_all)] at hr
    refine Zi1 (Zb1 (Zi (Zb (Zb (Zd (Zc (Zj VT.fa47_3 rfl (Zc (Zu 0 VT.ty41 rfl rfl rfl ?_)))))))))
    refine Zc (Zd2 (n := t.cases.length) Tryz.underlying41 rfl (by simp) (fun hl30 => ?_))
    refine Zc (Zl rfl (Za (Zi (Zs ?_))))
    refine Zi2 (ι := Nat) (fun k => t.cases.length - k) (fun k => [(2, some (.ptr g2 0)), (3, some (.ptr g3 0)), (29, some (intsX t.cases)), (30, some (.int t.cases.length)), (31, some (.int k))]) (fun k => [.cells g3 47 [.int t.kind, .int t.arg, .int t.n, intsX t.cases, edgesX t.to], .cells g2 34 [.int name, blocksX bs]]) (fun k => k ≤ t.cases.length ∧ casesF (t.cases.take k) (t.cases.drop k) = casesF [] t.cases) 0 ⟨Yf _, by simp⟩ ⟨rfl, rfl, rfl, rfl, rfl, trivial⟩ (Drops.keep (Drops.keep (Zt2 _))) ?_
    rintro k hA
    change k ≤ t.cases.length ∧ casesF (t.cases.take k) (t.cases.drop k) = casesF [] t.cases at hA
    obtain ⟨hk, hq⟩ := hA
    refine Zb (Zd (Zc (Zj1 rfl rfl rfl (Za (Zi (Zb ?_))))))
    refine Zn1 rfl (fun h32 => ?_) (fun h32 => ?_)
    ·
     obtain ⟨c, hc⟩ := get_of_lt t.cases k h32
     refine Zi1 (Zi (Zb (Zs (Zb (Zd (Zc (Zl rfl ?_)))))))
     refine Zc (Zz (el := V.int c) VT.sl41 rfl rfl (by omega) (get_int hc) (fun a34 => ?_))
     refine Zc (Zz1 VT.ty3 rfl rfl (Zc (Zk rfl (Zc (Zk rfl (Za (Zi (Zs (Zb (Zd (Zc (Zl rfl ?_))))))))))))
     refine Zc (Zx1 [.tmp 37] rfl rfl VT.en93 (isWord_c _) ?_)
     refine Zc (Zl2 rfl (Zc (Zk rfl (Za (Zi ?_)))))
     refine Zo1 rfl (fun h36 => ?_) (fun h36 => ?_)
     ·
      have hce : casesF [] t.cases = 4 := by rw [← hq, drop_cons hc, casesF, if_pos h36]
      rw [if_pos (by rw [hce]; decide), hce] at hr
      refine Zb (Zd (Zc (Zk rfl (Za (Zi (Zf1 ?_))))))
      refine Za1 (Za1 (Zd1 (Zd1 (Za1 (Zd1 (Zg1 rfl (.tmp rfl) ?_))))))
      rw [hr]
     ·
      refine Zb (Zd (Zc (Zj VT.fa47_3 rfl (Zc (Zu 0 VT.ty41 rfl rfl rfl (Zc (Zl rfl ?_)))))))
      refine Zc (Zu2 (V_sliceTo VT.sl41 rfl rfl (by omega) (by simp; omega) ⟨rfl, rfl⟩) (V.le.of_eq (v' := intsX (t.cases.take k)) (by rw [intsX, List.map_take]; rfl)) ?_)
      refine Zc (Zl rfl ?_)
      refine Zc (Zx1 [.tmp 44, .tmp 45] rfl rfl VT.en32 (intContains_c (t.cases.take k) none c) ?_)
      refine Zc (Zk rfl (Za (Zi ?_)))
      refine Zr1 rfl (fun h40 => ?_) (fun h40 => ?_)
      ·
       have hce : casesF [] t.cases = 7 := by rw [← hq, drop_cons hc, casesF, if_neg (by rw [h36]; decide), if_pos h40]
       rw [if_pos (by rw [hce]; decide), hce] at hr
       refine Zb (Zd (Zc (Zk rfl (Za (Zi (Zf1 ?_))))))
       refine Za1 (Za1 (Zd1 (Zd1 (Za1 (Zd1 (Zg1 rfl (.tmp rfl) ?_))))))
       rw [hr]
      ·
       refine Zi1 (Zb1 (Zb1 (Zi (Zd ?_))))
       refine Zc (Zh2 rfl rfl (by omega) ?_)
       refine Zc (Zl rfl (Za (Zi ?_)))
       exact ⟨k + 1, (by (try simp only []); omega), ⟨by omega, by rw [← hq, drop_cons hc, casesF, if_neg (by rw [h36]; decide), if_neg (by rw [h40]; decide), take_snoc hc]⟩, ⟨rfl, rfl, rfl, rfl, rfl, trivial⟩, (Drops.keep (Drops.keep (Zt2 _)))⟩
    ·
     have hke : k = t.cases.length := by omega
     subst hke
     have hce : casesF [] t.cases = 0 := by rw [← hq, Yb, casesF]
     rw [if_neg (by rw [hce]; decide)] at hr
     refine Zt (Ze1 (Ze1 (Zc1 (Zi (Zb (Zb (Zd (Zc (Zj VT.fa47_4 rfl (Zc (Zu 0 VT.ty45 rfl rfl rfl ?_)))))))))))
     refine Zc (Zd2 (n := t.to.length) Tryz.underlying45 rfl (by simp) (fun hl50 => ?_))
     refine Zc (Zl rfl (Za (Zi (Zs ?_))))
     refine Zi2 (ι := Nat) (fun k => t.to.length - k) (fun k => [(2, some (.ptr g2 0)), (3, some (.ptr g3 0)), (49, some (edgesX t.to)), (50, some (.int t.to.length)), (51, some (.int k))]) (fun k => [.cells g3 47 [.int t.kind, .int t.arg, .int t.n, intsX t.cases, edgesX t.to], .cells g2 34 [.int name, blocksX bs]]) (fun k => k ≤ t.to.length ∧ edgesF bs (t.to.drop k) = edgesF bs t.to) 0 ⟨Yf _, rfl⟩ ⟨rfl, rfl, rfl, rfl, rfl, trivial⟩ (Drops.keep (Drops.keep (Zt2 _))) ?_
     rintro k hA
     change k ≤ t.to.length ∧ edgesF bs (t.to.drop k) = edgesF bs t.to at hA
     obtain ⟨hk, hq⟩ := hA
     refine Zb (Zd (Zc (Zj1 rfl rfl rfl (Za (Zi (Zb ?_))))))
     refine Zn1 rfl (fun h52 => ?_) (fun h52 => ?_)
     ·
      obtain ⟨e, he⟩ := get_of_lt t.to k h52
      refine Zi1 (Zi (Zb (Zs (Zb (Zd ?_)))))
      refine Zc (Zz (el := edgeV e) VT.sl45 rfl rfl (by omega) (get_mapS _ he) (fun a53 => ?_))
      refine Zc (Za2 VT.ty79 rfl rfl ?_)
      refine Zc (Zb2 VT.zr79 _ rfl rfl (fun g8 => ?_))
      refine Zc (Zx 0 VT.ty79 rfl rfl rfl rfl rfl (Za (Zi (Zs (Zb (Zd (Zc (Zj VT.fa79_0 rfl (Zc (Zu 0 VT.ty3 rfl rfl rfl (Zc (Zj VT.fa34_1 rfl (Zc (Zu 2 VT.ty32 rfl rfl rfl ?_))))))))))))))
      refine Zc (Zd2 (n := bs.length) Tryz.underlying32 rfl (by simp) (fun hl60 => ?_))
      refine Zc (Zk2 rfl rfl (by omega) ?_)
      refine Zc (Zx1 [.tmp 57, .const (.int .i64 (1)), .tmp 61] rfl rfl VT.en22 (within_c _ _ _) ?_)
      refine Zc (Zl2 rfl (Zc (Zk rfl (Za (Zi ?_)))))
      refine Zo1 rfl (fun h55 => ?_) (fun h55 => ?_)
      ·
       rw [← hq, drop_cons he, edgesF, if_pos h55] at hr
       refine Zb (Zd (Zc (Zk rfl (Za (Zi (Zf1 ?_))))))
       refine Za1 (Za1 (Zd1 (Zd1 (Za1 (Zd1 (Zg1 rfl (.tmp rfl) ?_))))))
       rw [hr]
      ·
       have hw := wi_iff.1 h55
       obtain ⟨b, hb⟩ := get_of_lt bs e.block.toNat (by omega)
       have hp : paramsOf bs e.block = b.params := by rw [paramsOf, hb]; rfl
       refine Zb ?_
       refine VW_drawR (G := Unit) [([], [8], []), ([0], [65], []), ([1, 0], [66], []), ([], [2], []), ([3], [68], []), ([], [8], []), ([5], [70], []), ([6, 5, 4, 3], [69, 71], []), ([7, 6, 5, 4, 3], [72], []), ([8, 7, 6, 5, 4, 3], [73], []), ([9, 8, 7, 6, 5, 4, 3], [74], []), (dn 11, [67, 75], []), (dn 12, [76], [])] [] (constSt _) [64] [64, 65, 66, 67, 68, 69, 70, 71, 72, 73, 74, 75, 76] rfl VT.mix ?_
       refine ZA (fun γ => Zf (fun _ h8 => Ze (Zn rfl (Zj VT.fa79_1 h8 z0)))) ?_
       refine ZA (fun γ => Zw 0 0 rfl (fun _ h65 => Ze (Zn rfl (Zu 0 VT.ty41 h65 rfl rfl z0)))) ?_
       refine ZA (fun γ => Zw 1 0 rfl (fun _ h66 => Ze (Zn rfl (Zd2 (n := e.args.length) Tryz.underlying41 h66 (by simp) (fun hl67 => z0))))) ?_
       refine ZA (fun γ => Zf (fun _ h2 => Ze (Zn rfl (Zj VT.fa34_1 h2 z0)))) ?_
       refine ZA (fun γ => Zw 3 0 rfl (fun _ h68 => Ze (Zn rfl (Zu 2 VT.ty32 h68 rfl rfl z0)))) ?_
       refine ZA (fun γ => Zf (fun _ h8 => Ze (Zn rfl (Zj VT.fa79_0 h8 z0)))) ?_
       refine ZA (fun γ => Zw 5 0 rfl (fun _ h70 => Ze (Zn rfl (Zu 0 VT.ty3 h70 rfl rfl z0)))) ?_
       refine Zp (Zb3 _) (Zq (fun γ => Zw 4 2 rfl (fun _ h69 => Zw 6 0 rfl (fun _ h71 => Ze (Zn rfl (Zz (el := blockV b) VT.sl32 h69 h71 (by omega) (get_mapS _ hb) (fun a72 => ⟨⟨_, rfl⟩, rfl⟩))))))) ?_
       refine Zp (Zb3 _) (Zq (fun γ => Zw 7 0 rfl (fun _ h72 => Ze (Zc3 h72 (fun a_72 e72 => Zn rfl (Zw1 VT.fa50_0 e72 rfl ⟨⟨_, rfl⟩, rfl⟩)))))) ?_
       refine ZA (fun γ => Zw 8 0 rfl (fun _ h73 => Ze (Zc3 h73 (fun a_73 e73 => Zn rfl (Zz1 VT.ty41 e73 rfl z0))))) ?_
       refine ZA (fun γ => Zw 9 0 rfl (fun _ h74 => Ze (Zn rfl (Zd2 (n := b.params.length) Tryz.underlying41 h74 (by simp) (fun hl75 => z0))))) ?_
       refine ZA (fun γ => Zw 2 8 rfl (fun _ h67 => Zw 10 0 rfl (fun _ h75 => Ze (Zn rfl (Zj1 h67 h75 rfl z0))))) ?_
       refine ZA (fun γ => Zw 11 0 rfl (fun _ h76 => Ze (Zn rfl (Zk h76 z0)))) ?_
       refine DrawP_nil (fun γ => Zw 12 0 rfl (fun r64 h64 => Ze ?_))
       have e64 : r64 = some _ := h64
       subst e64
       clear h64
       refine Zi ?_
       refine Zm1 rfl (fun h64 => ?_) (fun h64 => ?_)
       ·
        rw [← hq, drop_cons he, edgesF, if_neg (by rw [h55]; decide), if_pos (by rw [hp]; omega)] at hr
        refine Zb (Zd (Zc (Zk rfl (Za (Zi (Zf1 ?_))))))
        refine Za1 (Za1 (Zd1 (Zd1 (Za1 (Zd1 (Zg1 rfl (.tmp rfl) ?_))))))
        rw [hr]
       ·
        refine Zi1 (Zb1 (Zb1 (Zi (Zd ?_))))
        refine Zc (Zh2 rfl rfl (by omega) ?_)
        refine Zc (Zl rfl (Za (Zi ?_)))
        exact ⟨k + 1, (by (try simp only []); omega), ⟨by omega, by rw [← hq, drop_cons he, edgesF, if_neg (by rw [h55]; decide), if_neg (by rw [hp]; omega)]⟩, ⟨rfl, rfl, rfl, rfl, rfl, trivial⟩, (Drops.drop (Drops.keep (Drops.keep (Zt2 _))))⟩
     ·
      have hke : k = t.to.length := by omega
      subst hke
      rw [Yb, edgesF] at hq
      rw [← hq] at hr
      refine Zt (Ze1 (Ze1 (Zc1 (Zi (Zb (Zd (Zc (Zk rfl (Za (Zi (Zf1 ?_)))))))))))
      refine Zg1 rfl (.tmp rfl) ?_
      rw [hr]
set_option maxRecDepth 100000 in
set_option maxHeartbeats 4000000 in
theorem calls_c (u : SUnit) (i : SIns) (hN : i.op = 13 ∨ i.op = 9 → 0 ≤ i.n) (hB : ∀ f ∈ u.fns, f.blocks ≠ []) : VPure Tryz.prog 24 [unitV u, insV i] (.int (callF u i)) := by
 have hr := callF.eq_def u i
 refine V_start (nt := 50) Tryz.func24 rfl rfl rfl ?_
 refine Zb (Zd ?_)
 refine Zc (Zc2 rfl rfl (fun g2 => ?_))
 refine Zc (Zc2 rfl rfl (fun g3 => ?_))
 refine Zc (Zk rfl (Za (Zi (Zb (Zb (Zd (Zc (Zj VT.fa70_1 rfl (Zc (Zu 0 VT.ty3 rfl rfl rfl (Zc (Zj1 rfl rfl rfl (Zc (Zl rfl ?_))))))))))))))
 refine Zj2 (q := 9) rfl (fun hq9 => ?_) (fun hq9 => ?_)
 ·
  refine Zc (Zj VT.fa70_1 rfl ?_) (Zy1 hq9)
  refine Zc (Zu 0 VT.ty3 rfl rfl rfl ?_) (Zy1 hq9)
  refine Zc (Zj1 rfl rfl rfl ?_) (Zy1 hq9)
  refine Zc (Zs1 rfl hq9 rfl ?_)
  refine Za (Zi ?_)
  refine Zm1 rfl (fun h13 => ?_) (fun h13 => ?_)
  ·
   rw [if_pos (by simp_all)] at hr
   refine Zb (Zd (Zc (Zk rfl (Za (Zi (Zf1 ?_))))))
   refine Zd1 (Zg1 rfl (.tmp rfl) ?_)
   rw [hr]
  ·
   rw [if_neg (by simp_all)] at hr
   have hop : i.op = 13 ∨ i.op = 9 := by by_cases h1 : i.op = 13 <;> by_cases h2 : i.op = 9 <;> simp_all
   have h0 := hN hop
   refine Zi1 (Zi (Zb (Zb (Zd (Zc (Zj VT.fa70_2 rfl (Zc (Zu 0 VT.ty3 rfl rfl rfl (Zc (Zj VT.fa24_0 rfl (Zc (Zu 1 VT.ty22 rfl rfl rfl ?_))))))))))))
   refine Zc (Zd2 (n := u.fns.length) Tryz.underlying22 rfl (by simp) (fun hl18 => ?_))
   refine Zc (Zj1 rfl rfl rfl (Za (Zi ?_)))
   refine Zn1 rfl (fun h19 => ?_) (fun h19 => ?_)
   ·
    rw [if_pos h19] at hr
    refine Zb (Zd (Zc (Zk rfl (Za (Zi (Zf1 ?_))))))
    refine Zd1 (Zg1 rfl (.tmp rfl) ?_)
    rw [hr]
   ·
    rw [if_neg h19] at hr
    obtain ⟨f, hf⟩ := get_of_lt u.fns i.n.toNat (by omega)
    obtain ⟨b, tl, hb⟩ := Ye (hB f (List.mem_of_getElem? hf))
    have hen : entryOf u i.n = b.params := by rw [entryOf, hf]; simp [paramsOf, hb]
    rw [hen] at hr
    refine Zi1 (Zi (Zb (Zd (Zc (Zj VT.fa24_0 rfl (Zc (Zu 1 VT.ty22 rfl rfl rfl (Zc (Zj VT.fa70_2 rfl (Zc (Zu 0 VT.ty3 rfl rfl rfl ?_)))))))))))
    refine Zc (Zz (el := funcV f) VT.sl22 rfl rfl (by omega) (get_mapS _ hf) (fun a24 => ?_))
    refine Zc (Zw1 VT.fa34_1 rfl rfl (Zc (Zz1 VT.ty32 rfl rfl ?_)))
    refine Zc (Zz (el := blockV b) VT.sl32 rfl rfl (by omega) (by rw [hb]; rfl) (fun a27 => ?_))
    refine Zc (Zw1 VT.fa50_0 rfl rfl (Zc (Zz1 VT.ty41 rfl rfl ?_)))
    refine Zc (Zd2 (n := b.params.length) Tryz.underlying41 rfl (by simp) (fun hl30 => ?_))
    refine Zc (Zk rfl (Za (Zi (Zb (Zb (Zd (Zc (Zj VT.fa70_1 rfl (Zc (Zu 0 VT.ty3 rfl rfl rfl (Zc (Zj1 rfl rfl rfl (Zc (Zl rfl ?_))))))))))))))
    refine Zj2 (q := 34) rfl (fun hq34 => ?_) (fun hq34 => ?_)
    ·
     refine Zc (Zl rfl ?_) (Zy1 hq34)
     refine Zc (Zj VT.fa70_3 rfl ?_) (Zy1 hq34)
     refine Zc (Zu 0 VT.ty41 rfl rfl rfl ?_) (Zy1 hq34)
     refine Zc (Zd2 (n := i.args.length) Tryz.underlying41 rfl (by simp) (fun hl38 => ?_)) (Zy1 hq34)
     refine Zc (Zj1 rfl rfl rfl ?_) (Zy1 hq34)
     refine Zc (Zs1 rfl hq34 rfl ?_)
     refine Zc (Zl rfl ?_)
     refine Zj2 (q := 41) rfl (fun hq41 => ?_) (fun hq41 => ?_)
     ·
      refine Zk0 hq41 ?_
      refine Zk0 hq41 ?_
      refine Zk0 hq41 ?_
      refine Zk0 hq41 ?_
      refine Zh (.inr ⟨_, _, 45, rfl, rfl, rfl⟩) rfl ?_
      refine Zh (.inr ⟨_, _, 45, rfl, rfl, rfl⟩) rfl ?_
      refine Zk0 hq41 ?_
      refine Zc (Zs1 rfl hq41 rfl ?_)
      refine Za (Zi ?_)
      refine Zp1 rfl rfl ?_
      rw [if_pos (by first | (simp_all; done) | (simp_all; omega))] at hr
      refine Zb (Zd (Zc (Zk rfl (Za (Zi (Zf1 ?_))))))
      refine Zd1 (Zg1 rfl (.tmp rfl) ?_)
      rw [hr]
     ·
      refine Zc (Zj VT.fa70_1 rfl ?_) (Zy0 hq41)
      refine Zc (Zu 0 VT.ty3 rfl rfl rfl ?_) (Zy0 hq41)
      refine Zc (Zj1 rfl rfl rfl ?_) (Zy0 hq41)
      refine Zc (Zl rfl ?_) (Zy0 hq41)
      refine Zj2 (q := 45) rfl (fun hq45 => ?_) (fun hq45 => ?_)
      ·
       refine Zc (Zl rfl ?_) (Zy1 hq45)
       refine Zc (Zj1 rfl rfl rfl ?_) (Zy1 hq45)
       refine Zc (Zs1 rfl hq45 rfl ?_) (Zy0 hq41)
       refine Zc (Zt1 rfl hq41 rfl ?_)
       refine Za (Zi ?_)
       refine Zl1 rfl (fun h49 => ?_) (fun h49 => ?_)
       ·
        rw [if_pos (by first | (simp_all; done) | (simp_all; omega))] at hr
        refine Zb (Zd (Zc (Zk rfl (Za (Zi (Zf1 ?_))))))
        refine Zd1 (Zg1 rfl (.tmp rfl) ?_)
        rw [hr]
       ·
        rw [if_neg (by first | (simp_all; done) | (simp_all; omega))] at hr
        refine Zi1 (Zi (Zb (Zd (Zc (Zk rfl (Za (Zi (Zf1 ?_))))))))
        refine Zg1 rfl (.tmp rfl) ?_
        rw [hr]
      ·
       refine Zk1 hq45 ?_
       refine Zk1 hq45 ?_
       refine Zc (Zt1 rfl hq45 rfl ?_) (Zy0 hq41)
       refine Zc (Zt1 rfl hq41 rfl ?_)
       refine Za (Zi ?_)
       refine Zq1 rfl rfl ?_
       rw [if_neg (by first | (simp_all; done) | (simp_all; omega))] at hr
       refine Zi1 (Zi (Zb (Zd (Zc (Zk rfl (Za (Zi (Zf1 ?_))))))))
       refine Zg1 rfl (.tmp rfl) ?_
       rw [hr]
    ·
     refine Zk1 hq34 ?_
     refine Zk1 hq34 ?_
     refine Zk1 hq34 ?_
     refine Zk1 hq34 ?_
     refine Zk1 hq34 ?_
     refine Zc (Zt1 rfl hq34 rfl ?_)
     refine Zc (Zl rfl ?_)
     refine Zc (Zj VT.fa70_1 rfl ?_) (Zy0 rfl)
     refine Zc (Zu 0 VT.ty3 rfl rfl rfl ?_) (Zy0 rfl)
     refine Zc (Zj1 rfl rfl rfl ?_) (Zy0 rfl)
     refine Zc (Zl rfl ?_) (Zy0 rfl)
     refine Zj2 (q := 45) rfl (fun hq45 => ?_) (fun hq45 => ?_)
     ·
      refine Zc (Zl rfl ?_) (Zy1 hq45)
      refine Zc (Zj1 rfl rfl rfl ?_) (Zy1 hq45)
      refine Zc (Zs1 rfl hq45 rfl ?_) (Zy0 rfl)
      refine Zc (Zt1 rfl rfl rfl (Za (Zi ?_)))
      refine Zl1 rfl (fun h49 => ?_) (fun h49 => ?_)
      ·
       rw [if_pos (by first | (simp_all; done) | (simp_all; omega))] at hr
       refine Zb (Zd (Zc (Zk rfl (Za (Zi (Zf1 ?_))))))
       refine Zd1 (Zg1 rfl (.tmp rfl) ?_)
       rw [hr]
      ·
       rw [if_neg (by first | (simp_all; done) | (simp_all; omega))] at hr
       refine Zi1 (Zi (Zb (Zd (Zc (Zk rfl (Za (Zi (Zf1 ?_))))))))
       refine Zg1 rfl (.tmp rfl) ?_
       rw [hr]
     ·
      refine Zk1 hq45 ?_
      refine Zk1 hq45 ?_
      refine Zc (Zt1 rfl hq45 rfl ?_) (Zy0 rfl)
      refine Zc (Zt1 rfl rfl rfl (Za (Zi ?_)))
      refine Zq1 rfl rfl ?_
      rw [if_neg (by first | (simp_all; done) | (simp_all; omega))] at hr
      refine Zi1 (Zi (Zb (Zd (Zc (Zk rfl (Za (Zi (Zf1 ?_))))))))
      refine Zg1 rfl (.tmp rfl) ?_
      rw [hr]
 ·
  refine Zk1 hq9 ?_
  refine Zk1 hq9 ?_
  refine Zk1 hq9 ?_
  refine Zc (Zt1 rfl hq9 rfl ?_)
  refine Za (Zi ?_)
  refine Zq1 rfl rfl ?_
  rw [if_neg (by simp_all)] at hr
  have hop : i.op = 13 ∨ i.op = 9 := by by_cases h1 : i.op = 13 <;> by_cases h2 : i.op = 9 <;> simp_all
  have h0 := hN hop
  refine Zi1 (Zi (Zb (Zb (Zd (Zc (Zj VT.fa70_2 rfl (Zc (Zu 0 VT.ty3 rfl rfl rfl (Zc (Zj VT.fa24_0 rfl (Zc (Zu 1 VT.ty22 rfl rfl rfl ?_))))))))))))
  refine Zc (Zd2 (n := u.fns.length) Tryz.underlying22 rfl (by simp) (fun hl18 => ?_))
  refine Zc (Zj1 rfl rfl rfl (Za (Zi ?_)))
  refine Zn1 rfl (fun h19 => ?_) (fun h19 => ?_)
  ·
   rw [if_pos h19] at hr
   refine Zb (Zd (Zc (Zk rfl (Za (Zi (Zf1 ?_))))))
   refine Zd1 (Zg1 rfl (.tmp rfl) ?_)
   rw [hr]
  ·
   rw [if_neg h19] at hr
   obtain ⟨f, hf⟩ := get_of_lt u.fns i.n.toNat (by omega)
   obtain ⟨b, tl, hb⟩ := Ye (hB f (List.mem_of_getElem? hf))
   have hen : entryOf u i.n = b.params := by rw [entryOf, hf]; simp [paramsOf, hb]
   rw [hen] at hr
   refine Zi1 (Zi (Zb (Zd (Zc (Zj VT.fa24_0 rfl (Zc (Zu 1 VT.ty22 rfl rfl rfl (Zc (Zj VT.fa70_2 rfl (Zc (Zu 0 VT.ty3 rfl rfl rfl ?_)))))))))))
   refine Zc (Zz (el := funcV f) VT.sl22 rfl rfl (by omega) (get_mapS _ hf) (fun a24 => ?_))
   refine Zc (Zw1 VT.fa34_1 rfl rfl (Zc (Zz1 VT.ty32 rfl rfl ?_)))
   refine Zc (Zz (el := blockV b) VT.sl32 rfl rfl (by omega) (by rw [hb]; rfl) (fun a27 => ?_))
   refine Zc (Zw1 VT.fa50_0 rfl rfl (Zc (Zz1 VT.ty41 rfl rfl ?_)))
   refine Zc (Zd2 (n := b.params.length) Tryz.underlying41 rfl (by simp) (fun hl30 => ?_))
   refine Zc (Zk rfl (Za (Zi (Zb (Zb (Zd (Zc (Zj VT.fa70_1 rfl (Zc (Zu 0 VT.ty3 rfl rfl rfl (Zc (Zj1 rfl rfl rfl (Zc (Zl rfl ?_))))))))))))))
   refine Zj2 (q := 34) rfl (fun hq34 => ?_) (fun hq34 => ?_)
   ·
    refine Zc (Zl rfl ?_) (Zy1 hq34)
    refine Zc (Zj VT.fa70_3 rfl ?_) (Zy1 hq34)
    refine Zc (Zu 0 VT.ty41 rfl rfl rfl ?_) (Zy1 hq34)
    refine Zc (Zd2 (n := i.args.length) Tryz.underlying41 rfl (by simp) (fun hl38 => ?_)) (Zy1 hq34)
    refine Zc (Zj1 rfl rfl rfl ?_) (Zy1 hq34)
    refine Zc (Zs1 rfl hq34 rfl ?_)
    refine Zc (Zl rfl ?_)
    refine Zj2 (q := 41) rfl (fun hq41 => ?_) (fun hq41 => ?_)
    ·
     refine Zk0 hq41 ?_
     refine Zk0 hq41 ?_
     refine Zk0 hq41 ?_
     refine Zk0 hq41 ?_
     refine Zh (.inr ⟨_, _, 45, rfl, rfl, rfl⟩) rfl ?_
     refine Zh (.inr ⟨_, _, 45, rfl, rfl, rfl⟩) rfl ?_
     refine Zk0 hq41 ?_
     refine Zc (Zs1 rfl hq41 rfl ?_)
     refine Za (Zi ?_)
     refine Zp1 rfl rfl ?_
     rw [if_pos (by first | (simp_all; done) | (simp_all; omega))] at hr
     refine Zb (Zd (Zc (Zk rfl (Za (Zi (Zf1 ?_))))))
     refine Zd1 (Zg1 rfl (.tmp rfl) ?_)
     rw [hr]
    ·
     refine Zc (Zj VT.fa70_1 rfl ?_) (Zy0 hq41)
     refine Zc (Zu 0 VT.ty3 rfl rfl rfl ?_) (Zy0 hq41)
     refine Zc (Zj1 rfl rfl rfl ?_) (Zy0 hq41)
     refine Zc (Zl rfl ?_) (Zy0 hq41)
     refine Zj2 (q := 45) rfl (fun hq45 => ?_) (fun hq45 => ?_)
     ·
      refine Zc (Zl rfl ?_) (Zy1 hq45)
      refine Zc (Zj1 rfl rfl rfl ?_) (Zy1 hq45)
      refine Zc (Zs1 rfl hq45 rfl ?_) (Zy0 hq41)
      refine Zc (Zt1 rfl hq41 rfl ?_)
      refine Za (Zi ?_)
      refine Zl1 rfl (fun h49 => ?_) (fun h49 => ?_)
      ·
       rw [if_pos (by first | (simp_all; done) | (simp_all; omega))] at hr
       refine Zb (Zd (Zc (Zk rfl (Za (Zi (Zf1 ?_))))))
       refine Zd1 (Zg1 rfl (.tmp rfl) ?_)
       rw [hr]
      ·
       rw [if_neg (by first | (simp_all; done) | (simp_all; omega))] at hr
       refine Zi1 (Zi (Zb (Zd (Zc (Zk rfl (Za (Zi (Zf1 ?_))))))))
       refine Zg1 rfl (.tmp rfl) ?_
       rw [hr]
     ·
      refine Zk1 hq45 ?_
      refine Zk1 hq45 ?_
      refine Zc (Zt1 rfl hq45 rfl ?_) (Zy0 hq41)
      refine Zc (Zt1 rfl hq41 rfl ?_)
      refine Za (Zi ?_)
      refine Zq1 rfl rfl ?_
      rw [if_neg (by first | (simp_all; done) | (simp_all; omega))] at hr
      refine Zi1 (Zi (Zb (Zd (Zc (Zk rfl (Za (Zi (Zf1 ?_))))))))
      refine Zg1 rfl (.tmp rfl) ?_
      rw [hr]
   ·
    refine Zk1 hq34 ?_
    refine Zk1 hq34 ?_
    refine Zk1 hq34 ?_
    refine Zk1 hq34 ?_
    refine Zk1 hq34 ?_
    refine Zc (Zt1 rfl hq34 rfl ?_)
    refine Zc (Zl rfl ?_)
    refine Zc (Zj VT.fa70_1 rfl ?_) (Zy0 rfl)
    refine Zc (Zu 0 VT.ty3 rfl rfl rfl ?_) (Zy0 rfl)
    refine Zc (Zj1 rfl rfl rfl ?_) (Zy0 rfl)
    refine Zc (Zl rfl ?_) (Zy0 rfl)
    refine Zj2 (q := 45) rfl (fun hq45 => ?_) (fun hq45 => ?_)
    ·
     refine Zc (Zl rfl ?_) (Zy1 hq45)
     refine Zc (Zj1 rfl rfl rfl ?_) (Zy1 hq45)
     refine Zc (Zs1 rfl hq45 rfl ?_) (Zy0 rfl)
     refine Zc (Zt1 rfl rfl rfl (Za (Zi ?_)))
     refine Zl1 rfl (fun h49 => ?_) (fun h49 => ?_)
     ·
      rw [if_pos (by first | (simp_all; done) | (simp_all; omega))] at hr
      refine Zb (Zd (Zc (Zk rfl (Za (Zi (Zf1 ?_))))))
      refine Zd1 (Zg1 rfl (.tmp rfl) ?_)
      rw [hr]
     ·
      rw [if_neg (by first | (simp_all; done) | (simp_all; omega))] at hr
      refine Zi1 (Zi (Zb (Zd (Zc (Zk rfl (Za (Zi (Zf1 ?_))))))))
      refine Zg1 rfl (.tmp rfl) ?_
      rw [hr]
    ·
     refine Zk1 hq45 ?_
     refine Zk1 hq45 ?_
     refine Zc (Zt1 rfl hq45 rfl ?_) (Zy0 rfl)
     refine Zc (Zt1 rfl rfl rfl (Za (Zi ?_)))
     refine Zq1 rfl rfl ?_
     rw [if_neg (by first | (simp_all; done) | (simp_all; omega))] at hr
     refine Zi1 (Zi (Zb (Zd (Zc (Zk rfl (Za (Zi (Zf1 ?_))))))))
     refine Zg1 rfl (.tmp rfl) ?_
     rw [hr]
set_option maxRecDepth 100000 in
set_option maxHeartbeats 4000000 in
theorem used_c (t : STerm) {c : FuncId} {caps : List V} {O : Store} {p : Int → Bool} (hen : Enters Tryz.prog c) (hp : ∀ v, VKeep Tryz.prog c (.int v :: caps) O (.bool (p v))) : VKeep Tryz.prog 70 [termV t, .clo (.func c) caps] O (.bool (usedF t p)) := by
 refine VKeep.drops ?_
 have hr := usedF.eq_def t p
 refine V_start (nt := 44) Tryz.func70 rfl rfl rfl ?_
 refine Zb (Zd ?_)
 refine Zc (Zc2 rfl rfl (fun g2 => ?_))
 refine Zc (Zk rfl (Za (Zi (Zb (Zb (Zd (Zc (Zj VT.fa47_0 rfl (Zc (Zu 0 VT.ty3 rfl rfl rfl (Zc (Zj1 rfl rfl rfl (Zc (Zl rfl ?_))))))))))))))
 refine Zj2 (q := 12) rfl (fun hq12 => ?_) (fun hq12 => ?_)
 ·
  refine Zc (Zj VT.fa47_0 rfl ?_) (Zy1 hq12)
  refine Zc (Zu 0 VT.ty3 rfl rfl rfl ?_) (Zy1 hq12)
  refine Zc (Zj1 rfl rfl rfl ?_) (Zy1 hq12)
  refine Zc (Zs1 rfl hq12 rfl ?_)
  refine Zc (Zl rfl ?_)
  refine Zj2 (q := 17) rfl (fun hq17 => ?_) (fun hq17 => ?_)
  ·
   refine Zc (Zl rfl ?_) (Zy1 hq17)
   refine Zc (Zj VT.fa47_1 rfl ?_) (Zy1 hq17)
   refine Zc (Zu 0 VT.ty3 rfl rfl rfl ?_) (Zy1 hq17)
   refine Zc (V_callCloKs [.tmp 20] _ [_] rfl rfl rfl hen (Yd (l₁ := [_]) (l₂ := _)) (hp _) ?_) (Zy1 hq17)
   refine Zc (Zl2 rfl ?_) (Zy1 hq17)
   refine Zc (Zs1 rfl hq17 rfl ?_)
   refine Za (Zi ?_)
   refine Zo1 rfl (fun h23 => ?_) (fun h23 => ?_)
   ·
    rw [if_pos (by simp_all)] at hr
    refine Zb (Zd (Zc (Zk rfl (Za (Zi (Zf1 ?_))))))
    refine Zd1 (Zg1 rfl (.tmp rfl) ?_)
    exact ⟨by rw [hr], Drops.drop (Zt2 _)⟩
   ·
    rw [if_neg (by simp_all)] at hr
    refine Zi1 (Zi (Zb (Zb (Zd (Zc (Zj VT.fa47_4 rfl (Zc (Zu 0 VT.ty45 rfl rfl rfl ?_))))))))
    refine Zc (Zd2 (n := t.to.length) Tryz.underlying45 rfl (by simp) (fun hl26 => ?_))
    refine Zc (Zl rfl (Za (Zi (Zs ?_))))
    refine Zi2 (ι := Nat) (fun k => t.to.length - k) (fun k => [(1, some (.clo (.func c) caps)), (25, some (edgesX t.to)), (26, some (.int t.to.length)), (27, some (.int k))]) (fun k => O) (fun k => k ≤ t.to.length ∧ ((t.to.drop k).all fun e => e.args.all p) = (t.to.all fun e => e.args.all p)) 0 ⟨Yf _, rfl⟩ ⟨rfl, rfl, rfl, rfl, trivial⟩ (Drops.drop (Zt2 _)) ?_
    rintro k hA
    change k ≤ t.to.length ∧ ((t.to.drop k).all fun e => e.args.all p) = (t.to.all fun e => e.args.all p) at hA
    obtain ⟨hk, hq⟩ := hA
    refine Zb (Zd (Zc (Zj1 rfl rfl rfl (Za (Zi (Zb ?_))))))
    refine Zn1 rfl (fun h28 => ?_) (fun h28 => ?_)
    ·
     obtain ⟨e, he⟩ := get_of_lt t.to k h28
     refine Zi1 (Zi (Zb (Zs (Zb (Zd ?_)))))
     refine Zc (Zz (el := edgeV e) VT.sl45 rfl rfl (by omega) (get_mapS _ he) (fun a29 => ?_))
     refine Zc (Za2 VT.ty79 rfl rfl ?_)
     refine Zc (Zb2 VT.zr79 _ rfl rfl (fun g6 => ?_))
     refine Zc (Zx 0 VT.ty79 rfl rfl rfl rfl rfl (Za (Zi (Zb (Zd (Zc (Zj VT.fa79_1 rfl (Zc (Zu 0 VT.ty41 rfl rfl rfl ?_)))))))))
     refine Zc (Zd2 (n := e.args.length) Tryz.underlying41 rfl (by simp) (fun hl33 => ?_))
     refine Zc (Zl rfl (Za (Zi (Zs ?_))))
     refine Zi2 (ι := Nat) (fun j => e.args.length - j) (fun j => [(1, some (.clo (.func c) caps)), (25, some (edgesX t.to)), (26, some (.int t.to.length)), (27, some (.int k)), (32, some (intsX e.args)), (33, some (.int e.args.length)), (34, some (.int j))]) (fun j => O) (fun j => j ≤ e.args.length ∧ (e.args.drop j).all p = e.args.all p) 0 ⟨Yf _, rfl⟩ ⟨rfl, rfl, rfl, rfl, rfl, rfl, rfl, trivial⟩ (Drops.drop (Zt2 _)) ?_
     rintro j hA2
     change j ≤ e.args.length ∧ (e.args.drop j).all p = e.args.all p at hA2
     obtain ⟨hj, hq2⟩ := hA2
     refine Zb (Zd (Zc (Zj1 rfl rfl rfl (Za (Zi (Zb ?_))))))
     refine Zn1 rfl (fun h35 => ?_) (fun h35 => ?_)
     ·
      obtain ⟨x, hx⟩ := get_of_lt e.args j h35
      refine Zi1 (Zi (Zb (Zs (Zb (Zd ?_)))))
      refine Zc (Zz (el := V.int x) VT.sl41 rfl rfl (by omega) (get_int hx) (fun a36 => ?_))
      refine Zc (Zz1 VT.ty3 rfl rfl (Zc (Zk rfl (Za (Zi (Zb (Zd (Zc (Zl rfl (Zc (Zl rfl ?_)))))))))))
      refine Zc (V_callCloKs [.tmp 39] _ [] rfl rfl rfl hen (Yd (l₁ := []) (l₂ := _)) (hp _) ?_)
      refine Zc (Zl2 rfl (Za (Zi ?_)))
      refine Zo1 rfl (fun h41 => ?_) (fun h41 => ?_)
      ·
       have hall : e.args.all p = false := by rw [← hq2, drop_cons hx, Ya, h41, Bool.false_and]
       rw [← hq, drop_cons he, Ya, hall, Bool.false_and] at hr
       refine Zb (Zd (Zc (Zk rfl (Za (Zi (Zf1 ?_))))))
       refine Za1 (Zd1 (Zd1 (Za1 (Za1 (Zd1 (Zd1 (Za1 (Zd1 (Zg1 rfl (.tmp rfl) ?_)))))))))
       exact ⟨by rw [hr], Zt2 _⟩
      ·
       refine Zi1 (Zb1 (Zi (Zd ?_)))
       refine Zc (Zh2 rfl rfl (by omega) ?_)
       refine Zc (Zl rfl (Za (Zi ?_)))
       exact ⟨j + 1, (by (try simp only []); omega), ⟨by omega, by rw [← hq2, drop_cons hx, Ya, h41, Bool.true_and]⟩, ⟨rfl, rfl, rfl, rfl, rfl, rfl, rfl, trivial⟩, (Zt2 _)⟩
     ·
      have hje : j = e.args.length := by omega
      subst hje
      rw [Yb, Yc] at hq2
      have hall : e.args.all p = true := hq2.symm
      refine Zt (Ze1 (Ze1 (Zc1 (Zb1 (Zi (Zd ?_))))))
      refine Zc (Zh2 rfl rfl (by omega) ?_)
      refine Zc (Zl rfl (Za (Zi ?_)))
      exact ⟨k + 1, (by (try simp only []); omega), ⟨by omega, by rw [← hq, drop_cons he, Ya, hall, Bool.true_and]⟩, ⟨rfl, rfl, rfl, rfl, trivial⟩, (Zt2 _)⟩
    ·
     have hke : k = t.to.length := by omega
     subst hke
     rw [Yb, Yc] at hq
     rw [← hq] at hr
     refine Zt (Ze1 (Ze1 (Zc1 (Zi (Zb (Zd (Zc (Zk rfl (Za (Zi (Zf1 ?_)))))))))))
     refine Zg1 rfl (.tmp rfl) ?_
     exact ⟨by rw [hr], Zt2 _⟩
  ·
   refine Zk1 hq17 ?_
   refine Zk1 hq17 ?_
   refine Zk1 hq17 ?_
   refine Zk1 hq17 ?_
   refine Zk1 hq17 ?_
   refine Zc (Zt1 rfl hq17 rfl ?_)
   refine Za (Zi ?_)
   refine Zq1 rfl rfl ?_
   rw [if_neg (by simp_all)] at hr
   refine Zi1 (Zi (Zb (Zb (Zd (Zc (Zj VT.fa47_4 rfl (Zc (Zu 0 VT.ty45 rfl rfl rfl ?_))))))))
   refine Zc (Zd2 (n := t.to.length) Tryz.underlying45 rfl (by simp) (fun hl26 => ?_))
   refine Zc (Zl rfl (Za (Zi (Zs ?_))))
   refine Zi2 (ι := Nat) (fun k => t.to.length - k) (fun k => [(1, some (.clo (.func c) caps)), (25, some (edgesX t.to)), (26, some (.int t.to.length)), (27, some (.int k))]) (fun k => O) (fun k => k ≤ t.to.length ∧ ((t.to.drop k).all fun e => e.args.all p) = (t.to.all fun e => e.args.all p)) 0 ⟨Yf _, rfl⟩ ⟨rfl, rfl, rfl, rfl, trivial⟩ (Drops.drop (Zt2 _)) ?_
   rintro k hA
   change k ≤ t.to.length ∧ ((t.to.drop k).all fun e => e.args.all p) = (t.to.all fun e => e.args.all p) at hA
   obtain ⟨hk, hq⟩ := hA
   refine Zb (Zd (Zc (Zj1 rfl rfl rfl (Za (Zi (Zb ?_))))))
   refine Zn1 rfl (fun h28 => ?_) (fun h28 => ?_)
   ·
    obtain ⟨e, he⟩ := get_of_lt t.to k h28
    refine Zi1 (Zi (Zb (Zs (Zb (Zd ?_)))))
    refine Zc (Zz (el := edgeV e) VT.sl45 rfl rfl (by omega) (get_mapS _ he) (fun a29 => ?_))
    refine Zc (Za2 VT.ty79 rfl rfl ?_)
    refine Zc (Zb2 VT.zr79 _ rfl rfl (fun g6 => ?_))
    refine Zc (Zx 0 VT.ty79 rfl rfl rfl rfl rfl (Za (Zi (Zb (Zd (Zc (Zj VT.fa79_1 rfl (Zc (Zu 0 VT.ty41 rfl rfl rfl ?_)))))))))
    refine Zc (Zd2 (n := e.args.length) Tryz.underlying41 rfl (by simp) (fun hl33 => ?_))
    refine Zc (Zl rfl (Za (Zi (Zs ?_))))
    refine Zi2 (ι := Nat) (fun j => e.args.length - j) (fun j => [(1, some (.clo (.func c) caps)), (25, some (edgesX t.to)), (26, some (.int t.to.length)), (27, some (.int k)), (32, some (intsX e.args)), (33, some (.int e.args.length)), (34, some (.int j))]) (fun j => O) (fun j => j ≤ e.args.length ∧ (e.args.drop j).all p = e.args.all p) 0 ⟨Yf _, rfl⟩ ⟨rfl, rfl, rfl, rfl, rfl, rfl, rfl, trivial⟩ (Drops.drop (Zt2 _)) ?_
    rintro j hA2
    change j ≤ e.args.length ∧ (e.args.drop j).all p = e.args.all p at hA2
    obtain ⟨hj, hq2⟩ := hA2
    refine Zb (Zd (Zc (Zj1 rfl rfl rfl (Za (Zi (Zb ?_))))))
    refine Zn1 rfl (fun h35 => ?_) (fun h35 => ?_)
    ·
     obtain ⟨x, hx⟩ := get_of_lt e.args j h35
     refine Zi1 (Zi (Zb (Zs (Zb (Zd ?_)))))
     refine Zc (Zz (el := V.int x) VT.sl41 rfl rfl (by omega) (get_int hx) (fun a36 => ?_))
     refine Zc (Zz1 VT.ty3 rfl rfl (Zc (Zk rfl (Za (Zi (Zb (Zd (Zc (Zl rfl (Zc (Zl rfl ?_)))))))))))
     refine Zc (V_callCloKs [.tmp 39] _ [] rfl rfl rfl hen (Yd (l₁ := []) (l₂ := _)) (hp _) ?_)
     refine Zc (Zl2 rfl (Za (Zi ?_)))
     refine Zo1 rfl (fun h41 => ?_) (fun h41 => ?_)
     ·
      have hall : e.args.all p = false := by rw [← hq2, drop_cons hx, Ya, h41, Bool.false_and]
      rw [← hq, drop_cons he, Ya, hall, Bool.false_and] at hr
      refine Zb (Zd (Zc (Zk rfl (Za (Zi (Zf1 ?_))))))
      refine Za1 (Zd1 (Zd1 (Za1 (Za1 (Zd1 (Zd1 (Za1 (Zd1 (Zg1 rfl (.tmp rfl) ?_)))))))))
      exact ⟨by rw [hr], Zt2 _⟩
     ·
      refine Zi1 (Zb1 (Zi (Zd ?_)))
      refine Zc (Zh2 rfl rfl (by omega) ?_)
      refine Zc (Zl rfl (Za (Zi ?_)))
      exact ⟨j + 1, (by (try simp only []); omega), ⟨by omega, by rw [← hq2, drop_cons hx, Ya, h41, Bool.true_and]⟩, ⟨rfl, rfl, rfl, rfl, rfl, rfl, rfl, trivial⟩, (Zt2 _)⟩
    ·
     have hje : j = e.args.length := by omega
     subst hje
     rw [Yb, Yc] at hq2
     have hall : e.args.all p = true := hq2.symm
     refine Zt (Ze1 (Ze1 (Zc1 (Zb1 (Zi (Zd ?_))))))
     refine Zc (Zh2 rfl rfl (by omega) ?_)
     refine Zc (Zl rfl (Za (Zi ?_)))
     exact ⟨k + 1, (by (try simp only []); omega), ⟨by omega, by rw [← hq, drop_cons he, Ya, hall, Bool.true_and]⟩, ⟨rfl, rfl, rfl, rfl, trivial⟩, (Zt2 _)⟩
   ·
    have hke : k = t.to.length := by omega
    subst hke
    rw [Yb, Yc] at hq
    rw [← hq] at hr
    refine Zt (Ze1 (Ze1 (Zc1 (Zi (Zb (Zd (Zc (Zk rfl (Za (Zi (Zf1 ?_)))))))))))
    refine Zg1 rfl (.tmp rfl) ?_
    exact ⟨by rw [hr], Zt2 _⟩
 ·
  refine Zk1 hq12 ?_
  refine Zk1 hq12 ?_
  refine Zk1 hq12 ?_
  refine Zc (Zt1 rfl hq12 rfl ?_)
  refine Zc (Zl rfl ?_)
  refine Zk1 rfl ?_
  refine Zk1 rfl ?_
  refine Zk1 rfl ?_
  refine Zk1 rfl ?_
  refine Zk1 rfl ?_
  refine Zc (Zt1 rfl rfl rfl (Za (Zi ?_)))
  refine Zq1 rfl rfl ?_
  rw [if_neg (by simp_all)] at hr
  refine Zi1 (Zi (Zb (Zb (Zd (Zc (Zj VT.fa47_4 rfl (Zc (Zu 0 VT.ty45 rfl rfl rfl ?_))))))))
  refine Zc (Zd2 (n := t.to.length) Tryz.underlying45 rfl (by simp) (fun hl26 => ?_))
  refine Zc (Zl rfl (Za (Zi (Zs ?_))))
  refine Zi2 (ι := Nat) (fun k => t.to.length - k) (fun k => [(1, some (.clo (.func c) caps)), (25, some (edgesX t.to)), (26, some (.int t.to.length)), (27, some (.int k))]) (fun k => O) (fun k => k ≤ t.to.length ∧ ((t.to.drop k).all fun e => e.args.all p) = (t.to.all fun e => e.args.all p)) 0 ⟨Yf _, rfl⟩ ⟨rfl, rfl, rfl, rfl, trivial⟩ (Drops.drop (Zt2 _)) ?_
  rintro k hA
  change k ≤ t.to.length ∧ ((t.to.drop k).all fun e => e.args.all p) = (t.to.all fun e => e.args.all p) at hA
  obtain ⟨hk, hq⟩ := hA
  refine Zb (Zd (Zc (Zj1 rfl rfl rfl (Za (Zi (Zb ?_))))))
  refine Zn1 rfl (fun h28 => ?_) (fun h28 => ?_)
  ·
   obtain ⟨e, he⟩ := get_of_lt t.to k h28
   refine Zi1 (Zi (Zb (Zs (Zb (Zd ?_)))))
   refine Zc (Zz (el := edgeV e) VT.sl45 rfl rfl (by omega) (get_mapS _ he) (fun a29 => ?_))
   refine Zc (Za2 VT.ty79 rfl rfl ?_)
   refine Zc (Zb2 VT.zr79 _ rfl rfl (fun g6 => ?_))
   refine Zc (Zx 0 VT.ty79 rfl rfl rfl rfl rfl (Za (Zi (Zb (Zd (Zc (Zj VT.fa79_1 rfl (Zc (Zu 0 VT.ty41 rfl rfl rfl ?_)))))))))
   refine Zc (Zd2 (n := e.args.length) Tryz.underlying41 rfl (by simp) (fun hl33 => ?_))
   refine Zc (Zl rfl (Za (Zi (Zs ?_))))
   refine Zi2 (ι := Nat) (fun j => e.args.length - j) (fun j => [(1, some (.clo (.func c) caps)), (25, some (edgesX t.to)), (26, some (.int t.to.length)), (27, some (.int k)), (32, some (intsX e.args)), (33, some (.int e.args.length)), (34, some (.int j))]) (fun j => O) (fun j => j ≤ e.args.length ∧ (e.args.drop j).all p = e.args.all p) 0 ⟨Yf _, rfl⟩ ⟨rfl, rfl, rfl, rfl, rfl, rfl, rfl, trivial⟩ (Drops.drop (Zt2 _)) ?_
   rintro j hA2
   change j ≤ e.args.length ∧ (e.args.drop j).all p = e.args.all p at hA2
   obtain ⟨hj, hq2⟩ := hA2
   refine Zb (Zd (Zc (Zj1 rfl rfl rfl (Za (Zi (Zb ?_))))))
   refine Zn1 rfl (fun h35 => ?_) (fun h35 => ?_)
   ·
    obtain ⟨x, hx⟩ := get_of_lt e.args j h35
    refine Zi1 (Zi (Zb (Zs (Zb (Zd ?_)))))
    refine Zc (Zz (el := V.int x) VT.sl41 rfl rfl (by omega) (get_int hx) (fun a36 => ?_))
    refine Zc (Zz1 VT.ty3 rfl rfl (Zc (Zk rfl (Za (Zi (Zb (Zd (Zc (Zl rfl (Zc (Zl rfl ?_)))))))))))
    refine Zc (V_callCloKs [.tmp 39] _ [] rfl rfl rfl hen (Yd (l₁ := []) (l₂ := _)) (hp _) ?_)
    refine Zc (Zl2 rfl (Za (Zi ?_)))
    refine Zo1 rfl (fun h41 => ?_) (fun h41 => ?_)
    ·
     have hall : e.args.all p = false := by rw [← hq2, drop_cons hx, Ya, h41, Bool.false_and]
     rw [← hq, drop_cons he, Ya, hall, Bool.false_and] at hr
     refine Zb (Zd (Zc (Zk rfl (Za (Zi (Zf1 ?_))))))
     refine Za1 (Zd1 (Zd1 (Za1 (Za1 (Zd1 (Zd1 (Za1 (Zd1 (Zg1 rfl (.tmp rfl) ?_)))))))))
     exact ⟨by rw [hr], Zt2 _⟩
    ·
     refine Zi1 (Zb1 (Zi (Zd ?_)))
     refine Zc (Zh2 rfl rfl (by omega) ?_)
     refine Zc (Zl rfl (Za (Zi ?_)))
     exact ⟨j + 1, (by (try simp only []); omega), ⟨by omega, by rw [← hq2, drop_cons hx, Ya, h41, Bool.true_and]⟩, ⟨rfl, rfl, rfl, rfl, rfl, rfl, rfl, trivial⟩, (Zt2 _)⟩
   ·
    have hje : j = e.args.length := by omega
    subst hje
    rw [Yb, Yc] at hq2
    have hall : e.args.all p = true := hq2.symm
    refine Zt (Ze1 (Ze1 (Zc1 (Zb1 (Zi (Zd ?_))))))
    refine Zc (Zh2 rfl rfl (by omega) ?_)
    refine Zc (Zl rfl (Za (Zi ?_)))
    exact ⟨k + 1, (by (try simp only []); omega), ⟨by omega, by rw [← hq, drop_cons he, Ya, hall, Bool.true_and]⟩, ⟨rfl, rfl, rfl, rfl, trivial⟩, (Zt2 _)⟩
  ·
   have hke : k = t.to.length := by omega
   subst hke
   rw [Yb, Yc] at hq
   rw [← hq] at hr
   refine Zt (Ze1 (Ze1 (Zc1 (Zi (Zb (Zd (Zc (Zk rfl (Za (Zi (Zf1 ?_)))))))))))
   refine Zg1 rfl (.tmp rfl) ?_
   exact ⟨by rw [hr], Zt2 _⟩
end Go.Proofs.YtjekhhgjfelpgaaGreat.X2
