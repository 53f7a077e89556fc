import Derived.Test.YtpkbgamoboojaaaGreatW19
set_option maxRecDepth 100000
set_option linter.all false
namespace Go.Proofs.YtpkbgamoboojaaaGreat.W20
open Go.VL Go.PM Go.Proofs.YtpkbgamoboojaaaGreat W1 W2 W16 W17 W19
theorem kget_kput (l : List (Str × V)) (s x : Str) (v : V) : kget (kput l s v) x = if s = x then some v else kget l x := by
 induction l with
 | nil => simp [kput, kget]
 | cons a l ih =>
  obtain ⟨b, u⟩ := a
  simp only [kput]
  by_cases h : b = s
  .subst h
   rw [if_pos rfl]
   by_cases hx : b = x
   .simp [kget, hx]
   simp [kget, hx]
  rw [if_neg h]
  simp only [kget]
  by_cases hx : b = x
  .subst hx
   rw [if_pos rfl, if_pos rfl, if_neg (λ e => h e.symm)]
  rw [if_neg hx, if_neg hx, ih]
structure TabRel (ds : List DataSig) (base : Addr) (t : Tab) (tab : List (Str × V)) : Prop where
 no : ∀ s, tget t s = none -> kget tab s = none
 yes : ∀ s c, tget t s = some c -> ∃ D, ds[c.1]? = some D /\ kget tab s = some (.ep ⟨base.block, base.off + c.1 * 3, none⟩ (dataV D))
theorem TabRel.con {ds : List DataSig} {base : Addr} {t : Tab} {tab : List (Str × V)} (h : TabRel ds base t tab) : ConTab t ds tab := λ s c D hc hD => by
 obtain ⟨D', h1, h2⟩ := h.yes s c hc
 rw [hD] at h1
 injection h1 with h1
 subst h1
 exact ⟨_, h2⟩
theorem TabRel.add {ds : List DataSig} {base : Addr} {t : Tab} {tab : List (Str × V)} {s : Str} {k n m : Nat} {D : DataSig} (h : TabRel ds base t tab) (hs : tget t s = .none) (hD : ds[k]? = .some D) : TabRel ds base (t ++ [(s, k, n, m)]) (kput tab s (.ep ⟨base.block, base.off + k * 3, none⟩ (dataV D))) := by
 refine ⟨λ x hx => ?_, λ x c hx => ?_⟩
 .rw [tget_snoc] at hx
  cases hg : tget t x with
  | some y => rw [hg] at hx; cases hx
  | none =>
   rw [hg] at hx
   simp only at hx
   by_cases e : s = x
   .rw [if_pos e] at hx; cases hx
   rw [kget_kput, if_neg e]; exact h.no x hg
 rw [tget_snoc] at hx
 cases hg : tget t x with
 | some y =>
  rw [hg] at hx
  have e : ¬ s = x := λ e => by rw [<- e, hs] at hg; cases hg
  rw [kget_kput, if_neg e]
  exact h.yes x c (hg.trans hx)
 | none =>
  rw [hg] at hx
  simp only at hx
  by_cases e : s = x
  .rw [if_pos e] at hx
   injection hx with hx
   subst hx
   exact ⟨D, hD, by rw [kget_kput, if_pos e]⟩
  rw [if_neg e] at hx; cases hx
theorem nodes_flat (l : List MNode) : ∀ y ∈ l.map nodeX, y.flat = true := λ y hy => by
 obtain ⟨n, _, rfl⟩ := List.mem_map.1 hy
 rfl
set_option maxHeartbeats 2000000 in
theorem mindex_c (ds : List DataSig) (t : Tab) (hb : buildF 0 ds [] = some t) : VCalls Tryz.prog 13 [datasX ds] [] λ r S' => ∃ g tab base, r = .tup [.raw (.map (some g)), .int 0] /\ S' = [.map g (kmap kstr tab)] /\ TabRel ds base t tab := by
 refine VCalls_drops ?_
 refine V_start (nt := 38) Tryz.func13 rfl rfl rfl ?_
 refine VW_pin (q := 0) rfl (λ base => ?_)
 refine Zb (Zd (Zc (Zk rfl (Zc (Zk rfl (Za (Zi (Zb (Zd ?_)))))))))
 refine Zc (V_makeMap (kv := kstr) (λ g8 => ?_))
 refine Zc (Zk rfl (Za (Zi (Zb (Zb (Zd (Zc (Zl rfl ?_))))))))
 refine Zc (Zd2 (n := ds.length) Tryz.underlying22 rfl (by simp) (λ hl10 => ?_))
 refine Zc (Zl rfl (Za (Zi (Zs ?_))))
 refine Zi2 (ι := Nat × Tab × List (Str × V)) (λ (k, tb, tab) => ds.length - k) (λ (k, tb, tab) => [(0, some (.sl 3 (some (.pin base)) (ds.map dataV))), (4, some (.raw (.map (some g8)))), (9, some (.sl 3 (some (.pin base)) (ds.map dataV))), (10, some (.int ds.length)), (11, some (.int k))]) (λ (k, tb, tab) => [.map g8 (kmap kstr tab)]) (λ (k, tb, tab) => k <= ds.length /\ buildF k (ds.drop k) tb = some t /\ TabRel ds base tb tab) (0, [], []) ⟨Nat.zero_le _, hb, ⟨λ _ _ => rfl, λ _ _ h => by cases h⟩⟩ ⟨rfl, rfl, rfl, rfl, rfl, trivial⟩ (Drops.keep (Zt2 _)) ?_
 rintro ⟨k, tb, tab⟩ hA
 change k <= ds.length /\ buildF k (ds.drop k) tb = some t /\ TabRel ds base tb tab at hA
 obtain ⟨hk, hq, hrel⟩ := hA
 refine Zb (Zd (Zc (Zj1 rfl rfl rfl (Za (Zi (Zb ?_))))))
 refine Zn1 rfl (λ h12 => ?_) (λ h12 => ?_)
 .
  obtain ⟨d, hd⟩ := get_of_lt ds k h12
  rw [drop_cons hd, buildF] at hq
  obtain ⟨tz, hz⟩ : ∃ tz, addCons k 0 d.cons tb = some tz := by cases hz : addCons k 0 d.cons tb with | none => rw [hz] at hq; cases hq | some tz => exact ⟨tz, rfl⟩
  refine Zi1 (Zi (Zb (Zs (Zb (Zd (Zc (Zl rfl (Zc (Zk rfl (Za (Zi (Zb (Zd (Zc (Zl rfl (Zc (Zl rfl ?_)))))))))))))))))
  refine Zc (V_indexAddr_pin (el := dataV d) VT.sl22 rfl rfl (by omega) (get_mapS _ hd) ?_)
  refine Zc (Zw1 VT.fa92_2 rfl rfl (Zc (Zz1 VT.ty90 rfl rfl ?_)))
  refine Zc (Zd2 (n := d.cons.length) Tryz.underlying90 rfl (by simp) (λ hl19 => ?_))
  refine Zc (Zl rfl (Za (Zi (Zs ?_))))
  refine Zi2 (ι := Nat × Tab × List (Str × V)) (λ (n, tb1, tab1) => d.cons.length - n) (λ (n, tb1, tab1) => [(0, some (.sl 3 (some (.pin base)) (ds.map dataV))), (4, some (.raw (.map (some g8)))), (5, some (.int k)), (9, some (.sl 3 (some (.pin base)) (ds.map dataV))), (10, some (.int ds.length)), (11, some (.int k)), (18, some (.sl 2 none (d.cons.map conV))), (19, some (.int d.cons.length)), (20, some (.int n))]) (λ (n, tb1, tab1) => [.map g8 (kmap kstr tab1)]) (λ (n, tb1, tab1) => n <= d.cons.length /\ addCons k n (d.cons.drop n) tb1 = addCons k 0 d.cons tb /\ TabRel ds base tb1 tab1) (0, tb, tab) ⟨Nat.zero_le _, rfl, hrel⟩ ⟨rfl, rfl, rfl, rfl, rfl, rfl, rfl, rfl, rfl, trivial⟩ (Drops.keep (Zt2 _)) ?_
  rintro ⟨n, tb1, tab1⟩ hA
  change n <= d.cons.length /\ addCons k n (d.cons.drop n) tb1 = addCons k 0 d.cons tb /\ TabRel ds base tb1 tab1 at hA
  obtain ⟨hn, hq2, hrel1⟩ := hA
  refine Zb (Zd (Zc (Zj1 rfl rfl rfl (Za (Zi (Zb ?_))))))
  refine Zn1 rfl (λ h21 => ?_) (λ h21 => ?_)
  .
   obtain ⟨c, hc⟩ := get_of_lt d.cons n h21
   have htn : tget tb1 c.name = none := by cases ht : tget tb1 c.name with | none => rfl | some y => rw [<- hq2, drop_cons hc, addCons, ht] at hz; cases hz
   refine Zi1 (Zi (Zb (Zs (Zb (Zd ?_)))))
   refine Zc (Zz (el := conV c) VT.sl90 rfl rfl (by omega) (get_mapS _ hc) (λ a22 => ?_))
   refine Zc (Za2 VT.ty95 rfl rfl ?_)
   refine Zc (Zb2 VT.zr95 _ rfl rfl (λ g7 => ?_))
   refine Zc (Zx 0 VT.ty95 rfl rfl rfl rfl rfl (Za (Zi (Zb (Zb (Zd (Zc (Zl rfl (Zc (Zj VT.fa95_0 rfl (Zc (Zu 0 VT.ty9 rfl rfl rfl ?_))))))))))))
   refine Zc (V_lookup0 1 (.raw (.pointer none)) (λ m => rfl) Tryz.underlying56 (key_str Tryz.underlying9) VT.zr96 rfl rfl rfl ((hrel1.no _ htn)) ?_)
   refine Zc (V_nilNeNil Tryz.underlying96 rfl ?_)
   refine Za (Zi ?_)
   refine Zq1 rfl rfl ?_
   refine Zi1 (Zi ?_)
   refine VW_drawR (G := Unit) [([], [4], []), ([], [7], []), ([1], [30], []), ([], [0], []), ([], [5], []), ([4, 3], [32, 33], []), (dn 6, [29, 31, 34], [])] [6] (oneSt _ (λ _ => [.cells g7 95 [.str c.name, .sl 4 none c.args], .map g8 (kmap kstr (kput tab1 c.name (.ep ⟨base.block, base.off + Int.toNat (k : Int) * 3, none⟩ (dataV d))))])) [] [29, 30, 31, 32, 33, 34] rfl VT.mix ?_
   refine Zp (Zm _) (Zo rfl rfl ⟨(λ γ => Zf (λ _ h4 => Ze (Zn rfl (Zl h4 z0)))), trivial⟩) ?_
   refine Zp (Zm _) (Zo rfl rfl ⟨(λ γ => Zf (λ _ h7 => Ze (Zn rfl (Zj VT.fa95_0 h7 z0)))), trivial⟩) ?_
   refine Zp (Zm _) (Zo rfl rfl ⟨(λ γ => Zw 1 0 rfl (λ _ h30 => Ze (Zn rfl (Zu 0 VT.ty9 h30 rfl rfl z0)))), trivial⟩) ?_
   refine Zp (Zm _) (Zo rfl rfl ⟨(λ γ => Zf (λ _ h0 => Ze (Zn rfl (Zl h0 z0)))), trivial⟩) ?_
   refine Zp (Zm _) (Zo rfl rfl ⟨(λ γ => Zf (λ _ h5 => Ze (Zn rfl (Zl h5 z0)))), trivial⟩) ?_
   refine Zp (Zm _) (Zo rfl rfl ⟨(λ γ => Zw 3 1 rfl (λ _ h32 => Zw 4 0 rfl (λ _ h33 => Ze (Zn rfl (V_indexAddr_pin (el := dataV d) VT.sl22 h32 h33 (by omega) (get_mapS _ hd) z0))))), trivial⟩) ?_
   refine Zp Za3 (Zn2 rfl (λ γ => Zw 0 5 rfl (λ _ h29 => Zw 2 3 rfl (λ _ h31 => Zw 5 0 rfl (λ _ h34 => Ze (Zn rfl (V_mapUpdate 1 Tryz.underlying56 (key_str Tryz.underlying9) h29 h31 h34 rfl ⟨default, trivial, rfl⟩))))))) ?_
   refine DrawP_nil (λ γ => Ze ?_)
   refine Zb1 (Zi (Zd ?_))
   refine Zc (Zh2 rfl rfl (by omega) ?_)
   refine Zc (Zl rfl (Za (Zi ?_)))
   exact ⟨(n + 1, tb1 ++ [(c.name, k, n, c.args.length)], kput tab1 c.name (.ep ⟨base.block, base.off + k * 3, none⟩ (dataV d))), (by (try simp only []); omega), ⟨by omega, by rw [<- hq2, drop_cons hc, addCons, htn], hrel1.add htn hd⟩, ⟨rfl, rfl, rfl, rfl, rfl, rfl, rfl, rfl, rfl, trivial⟩, (Drops.drop (Drops.keep (Zt2 _)))⟩
  have hne : n = d.cons.length := by omega
  subst hne
  rw [List.drop_length, addCons] at hq2
  rw [<- hq2] at hq
  refine Zt (Ze1 (Ze1 (Zc1 (Zb1 (Zi (Zd ?_))))))
  refine Zc (Zh2 rfl rfl (by omega) ?_)
  refine Zc (Zl rfl (Za (Zi ?_)))
  exact ⟨(k + 1, tb1, tab1), (by (try simp only []); omega), ⟨by omega, hq, hrel1⟩, ⟨rfl, rfl, rfl, rfl, rfl, trivial⟩, (Drops.keep (Zt2 _))⟩
 have hke : k = ds.length := by omega
 subst hke
 rw [List.drop_length, buildF] at hq
 injection hq with hq
 subst hq
 refine Zt (Ze1 (Ze1 (Zc1 (Zi (Zb (Zd (Zc (Zl rfl (Zc (Zk rfl (Zc (Zk rfl (Za (Zi (Zf1 ?_)))))))))))))))
 refine Zh1 rfl rfl (.cons (.tmp rfl) (.cons (.tmp rfl) (.nil))) ?_
 exact ⟨_, Zt2 _, g8, tab, base, rfl, rfl, hrel⟩
theorem nodeCloneRow_c (l : List MNode) (hne : l ≠ []) (hl : l.length <= 1000000) : VCalls Tryz.prog 15 [.sl 6 none (l.map nodeX)] [] λ r S' => ∃ g cap rest, l.length <= cap /\ cap <= maxLen /\ r = .raw (.slice (some ⟨g, 0, none⟩) l.length cap) /\ S' = [.cells g 70 ((l.map nodeX).flatMap V.leaves ++ rest)] := by
 refine VCalls_drops ?_
 refine V_start (nt := 8) Tryz.func15 rfl rfl rfl ?_
 refine Zb (Zd (Zc (Zk rfl (Za (Zi (Zb (Zb (Zd (Zc (Zl rfl ?_))))))))))
 refine Zc (V_eqNil Tryz.underlying26 rfl (λ b4 hb4 => ?_))
 refine Za (Zi ?_)
 refine Zr1 rfl (λ h4 => ?_) (λ h4 => ?_)
 . exact absurd (hb4 h4) (by simpa using hne)
 refine Zi1 (Zi (Zb (Zd ?_)))
 refine Zc (V_litRow [] VT.sl26 rfl rfl rfl rfl rfl (λ g5 => ?_))
 refine Zc (Zl rfl ?_)
 refine Zc (V_appendRow VT.sl26 (by decide) rfl rfl (by have := List.length_pos_iff.2 hne; simpa using this) (by simp; omega) (nodes_flat l) (λ g7 cap7 rest7 hc7 hm7 => ?_))
 refine Zc (Zk rfl (Za (Zi (Zf1 ?_))))
 refine Zg1 rfl (.tmp rfl) ?_
 exact ⟨_, Drops.keep (Drops.drop (Zt2 _)), g7, cap7, rest7, by simpa using hc7, hm7, by simp, rfl⟩
end Go.Proofs.YtpkbgamoboojaaaGreat.W20
