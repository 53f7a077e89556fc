import Derived.Test.YtpkbgamoboojaaaGreatWA
set_option maxRecDepth 100000
set_option maxHeartbeats 4000000
open Go.VL.Drops renaming keep → Dk, drop → Dd
set_option linter.all false
open List renaming mem_of_getElem? → Ya, drop_length → Yb, append_nil → Yc, take_length → Yd, map_append → Ye, exists_cons_of_ne_nil → Yf
open Nat renaming zero_le → Yg
section
namespace Go.Proofs.YtpkbgamoboojaaaGreat.W5
open Go.VL Go.PM Go.Proofs.YtpkbgamoboojaaaGreat W1 W2 W3 W4
def absV : Option Pat -> V
 | some p => .tup [patX p, .bool true]
 | none => .tup [patX anyP, .bool false]
theorem pat_le (k n : Int) (s : Str) : V.le (.agg [.int k, .str s, .int n, V.nilSl]) (patX (.mk k s n [])) := V.le.agg ⟨V.le.refl _, rfl, V.le.refl _, rfl, V.le.refl _, rfl, V.le.nil 4, rfl, trivial⟩
theorem absent_c (ds : List DataSig) (t : Tab) (g : Nat) (l : List Pat) (hl : l.length <= 1000000) (hh : ∀ p tl, l = p :: tl -> p.kind ≠ 2 -> ∃ c D, tget t p.name = some c /\ ds[c.1]? = some D /\ D.cons.length <= 1000 /\ ∀ k ∈ D.cons, k.args.length * 56 <= 140737488355328) : VKeep Tryz.prog 46 [tabX ds g, patsX l] [tabO g t] (absV (absentF t ds l)) := by
 refine VCalls_drops ?_
 refine V_start (nt := 56) Tryz.func46 rfl rfl rfl ?_
 refine Zb (Zd ?_)
 refine Zc (Zc2 rfl rfl (λ g2 => ?_))
 refine Zc (Zb2 VT.zr75 _ rfl rfl (λ g4 => ?_))
 refine Zc (Zk rfl (Za (Zi (Zb (Zb (Zd (Zc (Zl rfl ?_))))))))
 refine Zc (Zd2 (n := l.length) Tryz.underlying24 rfl (by simp) (λ hl10 => ?_))
 refine Zc (Zj1 rfl rfl rfl (Za (Zi ?_)))
 refine Zl1 rfl (λ h11 => ?_) (λ h11 => ?_)
 .
  have hn : l = [] := by cases l with | nil => rfl | cons a b => simp at h11; omega
  subst hn
  refine Zb (Zd ?_)
  refine Zc (Zu2 (Zf2 [] [] VT.st75 rfl rfl rfl rfl ⟨rfl, rfl⟩) (any_le) ?_)
  refine Zc (Zx 0 VT.ty75 rfl rfl rfl rfl rfl (Zc (Zk rfl (Za (Zi (Zf1 ?_))))))
  refine Zd1 (Zh1 rfl rfl (.cons (.agg (i := 0) VT.ty75 rfl rfl rfl) (.cons (.tmp rfl) (.nil))) ?_)
  exact ⟨_, Dd (Dd (Zt2 _)), rfl, rfl⟩
 obtain ⟨p, tl, rfl⟩ := Yf (l := l) (by rintro rfl; exact h11 rfl)
 refine Zi1 (Zi (Zb (Zb (Zd (Zc (Zl rfl ?_))))))
 refine Zc (Zz (el := patX p) VT.sl24 rfl rfl (by omega) (get_patS rfl) (λ a14 => ?_))
 refine Zc (Zw1 VT.fa75_0 rfl rfl (Zc (Zz1 VT.ty3 rfl rfl (Zc (Zj1 rfl rfl rfl (Za (Zi ?_)))))))
 refine Zl1 rfl (λ h17 => ?_) (λ h17 => ?_)
 .
  refine Zb (Zd ?_)
  refine Zc (Zb2 VT.zr3 _ rfl rfl (λ g6 => ?_))
  refine Zc (Zy 0 VT.ty3 rfl rfl rfl rfl rfl (Za (Zi (Zb (Zs ?_)))))
  refine Zi2 (ι := Int) (λ n => countGE (p :: tl) n) (λ n => [(1, some (patsX (p :: tl))), (4, some (.ptr g4 0)), (6, some (.ptr g6 0))]) (λ n => [.cells g6 3 [.int n], .cells g4 75 VT.zs75, tabO g t]) (λ n => 0 <= n /\ fresh (p :: tl) n = fresh (p :: tl) 0 /\ n + countGE (p :: tl) n <= (p :: tl).length) 0 ⟨Int.le_refl _, rfl, by have : countGE (p :: tl) 0 <= (p :: tl).length := List.countP_le_length; omega⟩ ⟨rfl, rfl, rfl, trivial⟩ (Dk (Dk (Dd (Dk (Zt2 _))))) ?_
  rintro n hA
  change 0 <= n /\ fresh (p :: tl) n = fresh (p :: tl) 0 /\ n + countGE (p :: tl) n <= (p :: tl).length at hA
  obtain ⟨n0, hq, hn⟩ := hA
  refine Zb (Zb (Zd (Zc (Zl rfl ?_))))
  refine Zc (V_makeFunc [.tmp 6] rfl rfl ?_)
  refine Zc (V_callK 0 [.tmp 18, .tmp 19] rfl rfl VT.en78 rfl (patAnyK_c (p := λ q => decide (q.n = n)) VT.en80 (λ q _ => absent1_c q n g6)) ?_)
  refine Za (Zi ?_)
  refine Zr1 rfl (λ h20 => ?_) (λ h20 => ?_)
  .
   have hlt := countGE_lt h20
   have hlm : (p :: tl).length <= 1000000 := hl
   refine Zi1 (Zi (Zs (Zd (Zc (Zu 0 VT.ty3 rfl rfl rfl ?_)))))
   refine Zc (Zh2 rfl rfl (by omega) ?_)
   refine Zc (Zy 0 VT.ty3 rfl rfl rfl rfl rfl (Za (Zb1 (Zi ?_))))
   exact ⟨n + 1, (countGE_lt h20), ⟨by omega, by rw [<- fresh_yes h20]; exact hq, by omega⟩, ⟨rfl, rfl, rfl, trivial⟩, (Dk (Dk (Dk (Zt2 _))))⟩
  refine Zt (Ze1 (Ze1 (Zc1 (Zi (Zb (Zd (Zc (Zu 0 VT.ty3 rfl rfl rfl ?_))))))))
  refine Zc (Zu2 (Zf2 [0, 2] [.const (.int .i64 (2)), .tmp 23] VT.st75 rfl rfl rfl rfl ⟨rfl, rfl⟩) (pat_le 2 _ []) ?_)
  refine Zc (Zx 1 VT.ty75 rfl rfl rfl rfl rfl (Zc (Zk rfl (Za (Zi (Zf1 ?_))))))
  refine Zd1 (Zh1 rfl rfl (.cons (.agg (i := 1) VT.ty75 rfl rfl rfl) (.cons (.tmp rfl) (.nil))) ?_)
  refine ⟨_, Dd (Dd (Zt2 _)), ?_, rfl⟩
  rw [absentF, if_pos h17, <- hq, fresh_no h20]
  rfl
 obtain ⟨c, D, ht, hD, hdl, hb⟩ := hh p tl rfl h17
 refine Zi1 (Zi (Zb (Zb ?_)))
 refine VW_drawR (G := Unit) [([], [2], []), ([0], [25], []), ([], [2], []), ([2], [27], []), ([], [1], []), ([4], [29], []), ([5, 4], [30], []), ([6, 5, 4], [31], []), ([7, 6, 5, 4, 3, 2], [28, 32], []), ([8, 7, 6, 5, 4, 3, 2], [33], []), (dn 10, [26, 34], []), (dn 11, [35], []), (dn 12, [36], []), (dn 13, [37], []), ([], [], [])] [] (constSt _) [37, 38, 39] [25, 26, 27, 28, 29, 30, 31, 32, 33, 34, 35, 36, 37, 38, 39] rfl VT.mix ?_
 refine ZA (λ γ => Zf (λ _ h2 => Ze (Zn rfl (Zj VT.fa83_0 h2 z0)))) ?_
 refine ZA (λ γ => Zw 0 0 rfl (λ _ h25 => Ze (Zn rfl (Zu 1 VT.ty22 h25 rfl rfl z0)))) ?_
 refine ZA (λ γ => Zf (λ _ h2 => Ze (Zn rfl (Zj VT.fa83_1 h2 z0)))) ?_
 refine ZA (λ γ => Zw 2 0 rfl (λ _ h27 => Ze (Zn rfl (Zu 1 VT.ty81 h27 rfl rfl z0)))) ?_
 refine ZA (λ γ => Zf (λ _ h1 => Ze (Zn rfl (Zl h1 z0)))) ?_
 refine Zp (Zb3 _) (Zq (λ γ => Zw 4 0 rfl (λ _ h29 => Ze (Zn rfl (Zz (el := patX p) VT.sl24 h29 rfl (by omega) (get_patS rfl) (λ a30 => ⟨⟨_, rfl⟩, rfl⟩)))))) ?_
 refine Zp (Zb3 _) (Zq (λ γ => Zw 5 0 rfl (λ _ h30 => Ze (Zc3 h30 (λ a_30 e30 => Zn rfl (Zw1 VT.fa75_1 e30 rfl ⟨⟨_, rfl⟩, rfl⟩)))))) ?_
 refine ZA (λ γ => Zw 6 0 rfl (λ _ h31 => Ze (Zc3 h31 (λ a_31 e31 => Zn rfl (Zz1 VT.ty9 e31 rfl z0))))) ?_
 refine ZA (λ γ => Zw 3 4 rfl (λ _ h28 => Zw 7 0 rfl (λ _ h32 => Ze (Zn rfl (V_lookup1 2 Tryz.underlying81 (key_str Tryz.underlying9) VT.zr113 h28 h32 rfl (by rw [kget_tab, ht]; rfl) z0))))) ?_
 refine ZA (λ γ => Zw 8 0 rfl (λ _ h33 => Ze (Zn rfl (V_field (x := 0) VT.fa113_0 h33 rfl z0)))) ?_
 refine Zp (Zb3 _) (Zq (λ γ => Zw 1 8 rfl (λ _ h26 => Zw 9 0 rfl (λ _ h34 => Ze (Zn rfl (Zz (el := dataV D) VT.sl22 h26 h34 (by omega) (get_mapS _ hD) (λ a35 => ⟨⟨_, rfl⟩, rfl⟩))))))) ?_
 refine Zp (Zb3 _) (Zq (λ γ => Zw 10 0 rfl (λ _ h35 => Ze (Zc3 h35 (λ a_35 e35 => Zn rfl (Zw1 VT.fa92_2 e35 rfl ⟨⟨_, rfl⟩, rfl⟩)))))) ?_
 refine ZA (λ γ => Zw 11 0 rfl (λ _ h36 => Ze (Zc3 h36 (λ a_36 e36 => Zn rfl (Zz1 VT.ty90 e36 rfl z0))))) ?_
 refine ZA (λ γ => Zw 12 0 rfl (λ _ h37 => Ze (Zn rfl (Zd2 (n := D.cons.length) Tryz.underlying90 h37 (by simp) (λ hl38 => z0))))) ?_
 refine ZA (λ γ => Ze (Zn rfl (Zl rfl z0))) ?_
 refine DrawP_nil (λ γ => Zw 12 2 rfl (λ r37 h37 => Zw 13 1 rfl (λ r38 h38 => Zw 14 0 rfl (λ r39 h39 => Ze ?_))))
 have e37 : r37 = some _ := h37
 subst e37
 clear h37
 have e38 : r38 = some _ := h38
 subst e38
 clear h38
 have e39 : r39 = some _ := h39
 subst e39
 clear h39
 refine Zi (Zs ?_)
 refine Zi2 (ι := Nat) (λ k => D.cons.length - k) (λ k => [(1, some (patsX (p :: tl))), (4, some (.ptr g4 0)), (37, some (.sl 2 none (D.cons.map conV))), (38, some (.int D.cons.length)), (39, some (.int k))]) (λ k => [.cells g4 75 VT.zs75, tabO g t]) (λ k => k <= D.cons.length /\ (D.cons.drop k).find? (lacks (p :: tl)) = D.cons.find? (lacks (p :: tl))) 0 ⟨Yg _, rfl⟩ ⟨rfl, rfl, rfl, rfl, rfl, trivial⟩ (Dk (Dd (Dk (Zt2 _)))) ?_
 rintro k hA
 change k <= D.cons.length /\ (D.cons.drop k).find? (lacks (p :: tl)) = D.cons.find? (lacks (p :: tl)) at hA
 obtain ⟨hk, hq⟩ := hA
 refine Zb (Zd (Zc (Zj1 rfl rfl rfl (Za (Zi (Zb ?_))))))
 refine Zn1 rfl (λ h40 => ?_) (λ h40 => ?_)
 .
  obtain ⟨e, hc⟩ := get_of_lt D.cons k h40
  refine Zi1 (Zi (Zb (Zs (Zb (Zd ?_)))))
  refine Zc (Zz (el := conV e) VT.sl90 rfl rfl (by omega) (get_mapS _ hc) (λ a41 => ?_))
  refine Zc (Za2 VT.ty95 rfl rfl ?_)
  refine Zc (Zb2 VT.zr95 _ rfl rfl (λ g8 => ?_))
  refine Zc (Zx 0 VT.ty95 rfl rfl rfl rfl rfl (Za (Zi (Zb (Zd (Zc (Zl rfl ?_)))))))
  refine Zc (V_makeFunc [.tmp 8] rfl rfl ?_)
  refine Zc (V_callK 0 [.tmp 43, .tmp 44] rfl rfl VT.en78 rfl (patAnyK_c (p := λ q => decide (q.name = e.name)) VT.en81 (λ q _ => absent2_c q e g8)) ?_)
  refine Zc (Zl2 rfl (Za (Zi ?_)))
  refine Zo1 rfl (λ h46 => ?_) (λ h46 => ?_)
  .
   have hlk : lacks (p :: tl) e = true := by unfold lacks; rw [h46]; rfl
   refine Zb ?_
   refine VW_drawR (G := Unit) [([], [8], []), ([0], [47], []), ([], [8], []), ([2], [49], []), ([3, 2], [50], []), ([4, 3, 2], [51], []), (dn 6, [48, 52], []), (dn 7, [4, 53], []), (dn 8, [], [])] [7] (oneSt _ (λ _ => [.cells g8 95 [.str e.name, .sl 4 none e.args], .cells g4 75 [.int 3, .str e.name, .int 0, patsX (anysL e.args.length)], tabO g t])) [5] [5, 47, 48, 49, 50, 51, 52, 53] rfl VT.mix ?_
   refine Zp (Zm _) (Zo rfl rfl ⟨(λ γ => Zf (λ _ h8 => Ze (Zn rfl (Zj VT.fa95_0 h8 z0)))), trivial⟩) ?_
   refine Zp (Zm _) (Zo rfl rfl ⟨(λ γ => Zw 0 0 rfl (λ _ h47 => Ze (Zn rfl (Zu 0 VT.ty9 h47 rfl rfl z0)))), trivial⟩) ?_
   refine Zp (Zm _) (Zo rfl rfl ⟨(λ γ => Zf (λ _ h8 => Ze (Zn rfl (Zj VT.fa95_1 h8 z0)))), trivial⟩) ?_
   refine Zp (Zm _) (Zo rfl rfl ⟨(λ γ => Zw 2 0 rfl (λ _ h49 => Ze (Zn rfl (Zu 0 VT.ty93 h49 rfl rfl z0)))), trivial⟩) ?_
   refine Zp (Zm _) (Zo rfl rfl ⟨(λ γ => Zw 3 0 rfl (λ _ h50 => Ze (Zn rfl (Zd2 (n := e.args.length) Tryz.underlying93 h50 (by simp) (λ hl51 => z0))))), trivial⟩) ?_
   refine Zp (Zm _) (Zo rfl rfl ⟨(λ γ => Zw 4 0 rfl (λ _ h51 => Ze (Zn rfl (Zx1 [.tmp 51] rfl (Zp2 h51 Zq2) VT.en82 (anys_c e.args.length (hb e (Ya hc))) z0)))), trivial⟩) ?_
   refine Zp (Zm _) (Zo rfl rfl ⟨(λ γ => Zw 1 4 rfl (λ _ h48 => Zw 5 0 rfl (λ _ h52 => Ze (Zn rfl (Zf2 [0, 1, 3] [.const (.int .i64 (3)), .tmp 48, .tmp 52] VT.st75 rfl rfl (Zp2 rfl (Zp2 h48 (Zp2 h52 Zq2))) rfl z0))))), trivial⟩) ?_
   refine Zp Za3 (Zn2 rfl (λ γ => Zf (λ _ h4 => Zw 6 0 rfl (λ _ h53 => Ze (Zn rfl (Zx 1 VT.ty75 h4 h53 rfl rfl rfl ⟨default, trivial, rfl⟩)))))) ?_
   refine Zp (Zm _) (Zo rfl rfl ⟨(λ γ => Ze (Zn rfl (Zk rfl z0))), trivial⟩) ?_
   refine DrawP_nil (λ γ => Zw 8 0 rfl (λ r5 h5 => Ze ?_))
   have e5 : r5 = some _ := h5
   subst e5
   clear h5
   refine Zi (Zf1 ?_)
   refine Za1 (Zd1 (Zd1 (Za1 (Zd1 (Zh1 rfl rfl (.cons (.agg (i := 1) VT.ty75 rfl rfl rfl) (.cons (.tmp rfl) (.nil))) ?_)))))
   refine ⟨_, Dd (Dd (Zt2 _)), ?_, rfl⟩
   have hfd : D.cons.find? (lacks (p :: tl)) = some e := by rw [<- hq, drop_cons hc, List.find?_cons, hlk]
   simp only [absentF, if_neg h17, consAt, ht, hD, hfd]
   rfl
  have hlk : lacks (p :: tl) e = false := by unfold lacks; rw [h46]; rfl
  refine Zi1 (Zb1 (Zi (Zd ?_)))
  refine Zc (Zh2 rfl rfl (by omega) ?_)
  refine Zc (Zl rfl (Za (Zi ?_)))
  exact ⟨k + 1, (by (try simp only []); omega), ⟨by omega, by rw [<- hq, drop_cons hc, List.find?_cons, hlk]⟩, ⟨rfl, rfl, rfl, rfl, rfl, trivial⟩, (Dd (Dk (Dk (Zt2 _))))⟩
 have hke : k = D.cons.length := by omega
 subst hke
 rw [Yb] at hq
 refine Zt (Ze1 (Ze1 (Zc1 (Zi (Zb (Zd ?_))))))
 refine Zc (Zu2 (Zf2 [] [] VT.st75 rfl rfl rfl rfl ⟨rfl, rfl⟩) (any_le) ?_)
 refine Zc (Zx 0 VT.ty75 rfl rfl rfl rfl rfl (Zc (Zk rfl (Za (Zi (Zf1 ?_))))))
 refine Zh1 rfl rfl (.cons (.agg (i := 0) VT.ty75 rfl rfl rfl) (.cons (.tmp rfl) (.nil))) ?_
 refine ⟨_, Dd (Zt2 _), ?_, rfl⟩
 have hfd : D.cons.find? (lacks (p :: tl)) = none := hq.symm
 simp only [absentF, if_neg h17, consAt, ht, hD, hfd]
 rfl
end Go.Proofs.YtpkbgamoboojaaaGreat.W5
end
section
namespace Go.Proofs.YtpkbgamoboojaaaGreat.W6
open Go.VL Go.PM Go.Proofs.YtpkbgamoboojaaaGreat W1 W2 W3 W4 W5
def missV (r : List Pat × Bool) : V := .tup [patsX r.1, .bool r.2]
theorem rowsT.ne {t : Tab} {τ : Ty} {τs : List Ty} {rows : List (List Pat)} (h : rowsT t (τ :: τs) rows) : ∀ r ∈ rows, r ≠ [] := λ r hr e => by
 have := h r hr
 rw [e] at this
 exact this
theorem rowsT.args_le {t : Tab} {d : Nat} {f : Str -> Nat -> Ty} {τs : List Ty} {rows : List (List Pat)} (h : rowsT t (.dat d f :: τs) rows) : ∀ p tl, p :: tl ∈ rows -> free p = false -> p.args.length <= 400 := λ p tl hr hf => by
 rcases (h _ hr).1 with h5 | ⟨_, _, h6, _⟩
 .rw [hf] at h5; cases h5
 exact h6
theorem take_map {α : Type} (g : α -> V) (l : List α) (n : Nat) : V.sl 4 none ((l.map g).take n) = .sl 4 none ((l.take n).map g) := by rw [List.map_take]
theorem drop_map {α : Type} (g : α -> V) (l : List α) (n : Nat) : V.sl 4 none ((l.map g).drop n) = .sl 4 none ((l.drop n).map g) := by rw [List.map_drop]
theorem missing_step (ds : List DataSig) (t : Tab) (g : Nat) (hok : TabOk t ds) (f : Nat) (hc : f <= 400000) (ih : ∀ rows τs, MissPre t f rows τs -> VKeep Tryz.prog 24 [tabX ds g, rowsX rows, .int τs.length] [tabO g t] (missV (missF t ds f rows τs.length))) (rows : List (List Pat)) (τs : List Ty) (hp : MissPre t (f + 1) rows τs) : VKeep Tryz.prog 24 [tabX ds g, rowsX rows, .int τs.length] [tabO g t] (missV (missF t ds (f + 1) rows τs.length)) := by
 obtain ⟨hT, hl, hf⟩ := hp
 refine VCalls_drops ?_
 refine V_start (nt := 97) Tryz.func24 rfl rfl rfl ?_
 refine Zb (Zd ?_)
 refine Zc (Zc2 rfl rfl (λ g3 => ?_))
 refine Zc (Zk rfl (Zc (Zk rfl (Za (Zi (Zb (Zb (Zd (Zc (Zl rfl (Zc (Zj1 rfl rfl rfl (Za (Zi ?_))))))))))))))
 refine Zl1 rfl (λ h20 => ?_) (λ h20 => ?_)
 .
  obtain rfl : τs = [] := by cases τs with | nil => rfl | cons a b => simp at h20; omega
  refine Zb (Zd (Zc (Zl rfl ?_)))
  refine Zc (Zd2 (n := rows.length) Tryz.underlying23 rfl (by simp) (λ hl22 => ?_))
  refine Zc (Zj1 rfl rfl rfl ?_)
  refine Zc (Zu2 (Zk rfl ⟨rfl, rfl⟩) (V.le.nil 4) ?_)
  refine Zc (Zk rfl (Za (Zi (Zf1 ?_))))
  refine Zd1 (Zh1 rfl rfl (.cons (.strip rfl) (.cons (.tmp rfl) (.nil))) ?_)
  exact ⟨_, Dd (Zt2 _), rfl, rfl⟩
 obtain ⟨τ, σs, rfl⟩ : ∃ τ σs, τs = τ :: σs := by cases τs with | nil => exact absurd rfl h20 | cons a b => exact ⟨a, b, rfl⟩
 rw [List.length_cons] at hf
 have hne := rowsT.ne hT
 have hr1 : ∀ r ∈ rows, r.length <= 500000 := λ r hr => by rw [(hT r hr).len, List.length_cons]; omega
 have hh : ∀ p tl, first rows = p :: tl -> p.kind ≠ 2 -> ∃ c D, tget t p.name = some c /\ ds[c.1]? = some D /\ D.cons.length <= 1000 /\ ∀ k ∈ D.cons, k.args.length * 56 <= 140737488355328 := λ p tl h k => by obtain ⟨d, f2, a, D, _, _, h1, h2⟩ := first_head hok hT h k; exact ⟨_, D, h1, h2, hok.small d D h2⟩
 have hfl := first_len rows
 have hrl := rest_len rows
 have hrw := rest_w rows
 have hrT := rowsT.rest hT
 refine Zi1 (Zi (Zb (Zd (Zc (Zl rfl ?_)))))
 refine Zc (Zx1 [.tmp 24] rfl rfl VT.en45 (first_c rows hne (by omega)) ?_)
 refine Zc (Zk rfl (Za (Zi (Zb (Zb (Zd (Zc (Zv 0 VT.ty83 rfl rfl rfl (Zc (Zl rfl ?_))))))))))
 rcases hab : absentF t ds (first rows) with _ | q
 .
  obtain ⟨d, fT, D, hF⟩ := absent_none hok hT hab
  have hnn : first rows ≠ [] := λ h => by rw [h] at hab; cases hab
  obtain ⟨p0, l0, hfr⟩ := Yf hnn
  have hk0 : p0.kind ≠ 2 := λ h => by rw [hfr, absentF, if_pos h] at hab; cases hab
  obtain ⟨d0, f0, a0, D0, hτ, _, ht0, hD0⟩ := first_head hok hT hfr hk0
  have hc0 : consAt t ds ((first rows).headD anyP).name = D0.cons := by rw [hfr]; simp only [List.headD_cons, consAt, ht0, hD0]
  have hall := hF.all
  rw [<- hF.cons, hc0] at hall
  have hTd : rowsT t (.dat d fT :: σs) rows := by rw [<- hF.ty]; exact hT
  have hr2 := rowsT.args_le hTd
  have hdl := (hok.small _ _ hD0).1
  refine Zc (V_callK 1 [.tmp 27, .tmp 28] rfl rfl VT.en46 rfl (by have h := absent_c ds t g (first rows) (by omega) hh; rw [hab] at h; exact h) ?_)
  refine Zc (Zl rfl (Zc (Zg2 rfl rfl (Zc (Zg2 rfl rfl ?_)))))
  refine Zc (Zb2 VT.zr75 _ rfl rfl (λ g9 => ?_))
  refine Zc (Zx 0 VT.ty75 rfl rfl rfl rfl rfl (Zc (Zk rfl (Za (Zi (Zb (Zd (Zc (Zl rfl (Za (Zi ?_)))))))))))
  refine Zq1 rfl (rfl) ?_
  refine Zi1 (Zi (Zb (Zb ?_)))
  refine VW_drawR (G := Unit) [([], [3], []), ([0], [47], []), ([], [3], []), ([2], [49], []), ([], [8], []), ([4], [51], []), ([5, 4], [52], []), ([6, 5, 4], [53], []), ([7, 6, 5, 4, 3, 2], [50, 54], []), ([8, 7, 6, 5, 4, 3, 2], [55], []), (dn 10, [48, 56], []), (dn 11, [57], []), (dn 12, [58], []), (dn 13, [59], []), ([], [], [])] [] (constSt _) [59, 60, 61] [47, 48, 49, 50, 51, 52, 53, 54, 55, 56, 57, 58, 59, 60, 61] rfl VT.mix ?_
  refine ZA (λ γ => Zf (λ _ h3 => Ze (Zn rfl (Zj VT.fa83_0 h3 z0)))) ?_
  refine ZA (λ γ => Zw 0 0 rfl (λ _ h47 => Ze (Zn rfl (Zu 1 VT.ty22 h47 rfl rfl z0)))) ?_
  refine ZA (λ γ => Zf (λ _ h3 => Ze (Zn rfl (Zj VT.fa83_1 h3 z0)))) ?_
  refine ZA (λ γ => Zw 2 0 rfl (λ _ h49 => Ze (Zn rfl (Zu 1 VT.ty81 h49 rfl rfl z0)))) ?_
  refine ZA (λ γ => Zf (λ _ h8 => Ze (Zn rfl (Zl h8 z0)))) ?_
  refine Zp (Zb3 _) (Zq (λ γ => Zw 4 0 rfl (λ _ h51 => Ze (Zn rfl (Zz (el := patX p0) VT.sl24 h51 rfl (by omega) (by rw [hfr]; exact get_patS rfl) (λ a52 => ⟨⟨_, rfl⟩, rfl⟩)))))) ?_
  refine Zp (Zb3 _) (Zq (λ γ => Zw 5 0 rfl (λ _ h52 => Ze (Zc3 h52 (λ a_52 e52 => Zn rfl (Zw1 VT.fa75_1 e52 rfl ⟨⟨_, rfl⟩, rfl⟩)))))) ?_
  refine ZA (λ γ => Zw 6 0 rfl (λ _ h53 => Ze (Zc3 h53 (λ a_53 e53 => Zn rfl (Zz1 VT.ty9 e53 rfl z0))))) ?_
  refine ZA (λ γ => Zw 3 4 rfl (λ _ h50 => Zw 7 0 rfl (λ _ h54 => Ze (Zn rfl (V_lookup1 2 Tryz.underlying81 (key_str Tryz.underlying9) VT.zr113 h50 h54 rfl (by rw [kget_tab, ht0]; rfl) z0))))) ?_
  refine ZA (λ γ => Zw 8 0 rfl (λ _ h55 => Ze (Zn rfl (V_field (x := 0) VT.fa113_0 h55 rfl z0)))) ?_
  refine Zp (Zb3 _) (Zq (λ γ => Zw 1 8 rfl (λ _ h48 => Zw 9 0 rfl (λ _ h56 => Ze (Zn rfl (Zz (el := dataV D0) VT.sl22 h48 h56 (by omega) (get_mapS _ hD0) (λ a57 => ⟨⟨_, rfl⟩, rfl⟩))))))) ?_
  refine Zp (Zb3 _) (Zq (λ γ => Zw 10 0 rfl (λ _ h57 => Ze (Zc3 h57 (λ a_57 e57 => Zn rfl (Zw1 VT.fa92_2 e57 rfl ⟨⟨_, rfl⟩, rfl⟩)))))) ?_
  refine ZA (λ γ => Zw 11 0 rfl (λ _ h58 => Ze (Zc3 h58 (λ a_58 e58 => Zn rfl (Zz1 VT.ty90 e58 rfl z0))))) ?_
  refine ZA (λ γ => Zw 12 0 rfl (λ _ h59 => Ze (Zn rfl (Zd2 (n := D0.cons.length) Tryz.underlying90 h59 (by simp) (λ hl60 => z0))))) ?_
  refine ZA (λ γ => Ze (Zn rfl (Zl rfl z0))) ?_
  refine DrawP_nil (λ γ => Zw 12 2 rfl (λ r59 h59 => Zw 13 1 rfl (λ r60 h60 => Zw 14 0 rfl (λ r61 h61 => Ze ?_))))
  have e59 : r59 = some _ := h59
  subst e59
  clear h59
  have e60 : r60 = some _ := h60
  subst e60
  clear h60
  have e61 : r61 = some _ := h61
  subst e61
  clear h61
  refine Zi (Zs ?_)
  refine Zi2 (ι := Nat) (λ k => D0.cons.length - k) (λ k => [(1, some (rowsX rows)), (2, some (.int (τ :: σs).length)), (3, some (.ptr g3 0)), (59, some (.sl 2 none (D0.cons.map conV))), (60, some (.int D0.cons.length)), (61, some (.int k))]) (λ k => [.cells g3 83 [datasX ds, .raw (.map (some g))], tabO g t]) (λ k => k <= D0.cons.length /\ missLoop (missF t ds f) rows σs.length (D0.cons.drop k) = missLoop (missF t ds f) rows σs.length D0.cons) 0 ⟨Yg _, rfl⟩ ⟨rfl, rfl, rfl, rfl, rfl, rfl, trivial⟩ (Dd (Dk (Dk (Zt2 _)))) ?_
  rintro k hA
  change k <= D0.cons.length /\ missLoop (missF t ds f) rows σs.length (D0.cons.drop k) = missLoop (missF t ds f) rows σs.length D0.cons at hA
  obtain ⟨hk, hq⟩ := hA
  refine Zb (Zd (Zc (Zj1 rfl rfl rfl (Za (Zi (Zb ?_))))))
  refine Zn1 rfl (λ h62 => ?_) (λ h62 => ?_)
  .
   obtain ⟨e, hcn⟩ := get_of_lt D0.cons k h62
   obtain ⟨q1, tl1, hq1, hqf, hqn, hea, a1, hta⟩ := hall e (Ya hcn)
   have hT2 := rowsT.narrow hTd hta
   have hw1 := narrow_w1 e.name e.args.length hqf hqn rows hq1
   have hln := narrow_len e.name e.args.length rows
   have hal := argT_len (fT e.name) e.args.length
   have hih := ih _ _ ⟨hT2, by omega, by rw [List.length_append, hal]; omega⟩
   rw [List.length_append, hal] at hih
   have hRl := missF_len t ds f (narrow e.name e.args.length rows) (e.args.length + σs.length)
   generalize hR : missF t ds f (narrow e.name e.args.length rows) (e.args.length + σs.length) = R at hih hRl
   refine Zi1 (Zi (Zb (Zs (Zb (Zd ?_)))))
   refine Zc (Zz (el := conV e) VT.sl90 rfl rfl (by omega) (get_mapS _ hcn) (λ a63 => ?_))
   refine Zc (Za2 VT.ty95 rfl rfl ?_)
   refine Zc (Zb2 VT.zr95 _ rfl rfl (λ g14 => ?_))
   refine Zc (Zx 0 VT.ty95 rfl rfl rfl rfl rfl (Za (Zi (Zb (Zd (Zc (Zj VT.fa95_1 rfl (Zc (Zu 0 VT.ty93 rfl rfl rfl ?_)))))))))
   refine Zc (Zd2 (n := e.args.length) Tryz.underlying93 rfl (by simp) (λ hl67 => ?_))
   refine Zc (Zk rfl (Za (Zi (Zb ?_))))
   refine VW_drawR (G := Unit) [([], [3], []), ([], [1], []), ([], [14], []), ([2], [71], []), ([], [15], []), ([4, 3, 2, 1], [70, 72, 73], []), ([], [15], []), ([], [2], []), ([7, 6], [75, 76], []), ([8, 7, 6], [77], []), (dn 10, [69, 74, 78], []), (dn 11, [79], []), (dn 12, [68], []), (dn 12, [68], []), (dn 13, [80], []), (dn 15, [81], [])] [] (constSt _) [16, 17] [16, 17, 68, 69, 70, 71, 72, 73, 74, 75, 76, 77, 78, 79, 80, 81] rfl VT.mix ?_
   refine ZA (λ γ => Zf (λ _ h3 => Ze (Zn rfl (Zv 1 VT.ty83 h3 rfl rfl z0)))) ?_
   refine ZA (λ γ => Zf (λ _ h1 => Ze (Zn rfl (Zl h1 z0)))) ?_
   refine ZA (λ γ => Zf (λ _ h14 => Ze (Zn rfl (Zj VT.fa95_0 h14 z0)))) ?_
   refine ZA (λ γ => Zw 2 0 rfl (λ _ h71 => Ze (Zn rfl (Zu 0 VT.ty9 h71 rfl rfl z0)))) ?_
   refine ZA (λ γ => Zf (λ _ h15 => Ze (Zn rfl (Zl h15 z0)))) ?_
   refine ZA (λ γ => Zw 1 3 rfl (λ _ h70 => Zw 3 1 rfl (λ _ h72 => Zw 4 0 rfl (λ _ h73 => Ze (Zn rfl (Zx1 [.tmp 70, .tmp 72, .tmp 73] rfl (Zp2 h70 (Zp2 h72 (Zp2 h73 Zq2))) VT.en48 (narrow_c rows e.name e.args.length hne (by omega) hr1 hr2 hea) z0)))))) ?_
   refine ZA (λ γ => Zf (λ _ h15 => Ze (Zn rfl (Zl h15 z0)))) ?_
   refine ZA (λ γ => Zf (λ _ h2 => Ze (Zn rfl (Zl h2 z0)))) ?_
   refine ZA (λ γ => Zw 6 1 rfl (λ _ h75 => Zw 7 0 rfl (λ _ h76 => Ze (Zn rfl (Zh2 h75 h76 (by simp; omega) z0))))) ?_
   refine ZA (λ γ => Zw 8 0 rfl (λ _ h77 => Ze (Zn rfl (Zu2 (Zk2 h77 rfl (by simp; omega) z0) (V.le.of_eq (v' := .int ((e.args.length + σs.length : Nat) : Int)) (by simp; omega)) z0)))) ?_
   refine ZA (λ γ => Zw 0 9 rfl (λ _ h69 => Zw 5 4 rfl (λ _ h74 => Zw 9 0 rfl (λ _ h78 => Ze (Zn rfl (V_callK 2 [.tmp 69, .tmp 74, .tmp 78] rfl (Zp2 h69 (Zp2 h74 (Zp2 h78 Zq2))) VT.en24 rfl (hih) z0)))))) ?_
   refine ZA (λ γ => Zw 10 0 rfl (λ _ h79 => Ze (Zn rfl (Zl h79 z0)))) ?_
   refine ZA (λ γ => Zw 11 0 rfl (λ _ h68 => Ze (Zn rfl (Zg2 h68 rfl z0)))) ?_
   refine ZA (λ γ => Zw 11 1 rfl (λ _ h68 => Ze (Zn rfl (Zg2 h68 rfl z0)))) ?_
   refine ZA (λ γ => Zw 12 1 rfl (λ _ h80 => Ze (Zn rfl (Zk h80 z0)))) ?_
   refine ZA (λ γ => Zw 13 1 rfl (λ _ h81 => Ze (Zn rfl (Zk h81 z0)))) ?_
   refine DrawP_nil (λ γ => Zw 14 1 rfl (λ r16 h16 => Zw 15 0 rfl (λ r17 h17 => Ze ?_)))
   have e16 : r16 = some _ := h16
   subst e16
   clear h16
   have e17 : r17 = some _ := h17
   subst e17
   clear h17
   refine Zi (Zb (Zd (Zc (Zl rfl (Za (Zi ?_))))))
   refine Zr1 rfl (λ h82 => ?_) (λ h82 => ?_)
   .
    have hRl1 := hRl.2 h82
    refine Zb ?_
    refine VW_drawR (G := Nat) [([], [14], []), ([0], [83], []), ([], [16], []), ([], [15], []), ([3, 2], [85, 86], []), ([4, 3, 2], [87], []), (dn 6, [84, 88], []), ([], [], [0]), (dn 8, [18, 89], [])] [7, 8] (twoSt _ (λ g18 => [.cells g18 75 VT.zs75, .cells g14 95 [.str e.name, .sl 4 none e.args], .cells g3 83 [datasX ds, .raw (.map (some g))], tabO g t]) (λ g18 _ => [.cells g18 75 [.int 3, .str e.name, .int 0, patsX (R.1.take e.args.length)], .cells g14 95 [.str e.name, .sl 4 none e.args], .cells g3 83 [datasX ds, .raw (.map (some g))], tabO g t])) [18] [18, 83, 84, 85, 86, 87, 88, 89] rfl VT.mix ?_
    refine Zp (Zm _) (Zm2 rfl (λ _ => (λ γ => Zf (λ _ h14 => Ze (Zn rfl (Zj VT.fa95_0 h14 z0)))))) ?_
    refine Zp (Zm _) (Zo rfl rfl ⟨(λ γ => Zw 0 0 rfl (λ _ h83 => Ze (Zn rfl (Zu 0 VT.ty9 h83 rfl rfl z0)))), (λ γ => Zw 0 0 rfl (λ _ h83 => Ze (Zn rfl (Zu 1 VT.ty9 h83 rfl rfl z0)))), trivial⟩) ?_
    refine Zp (Zm _) (Zm2 rfl (λ _ => (λ γ => Zf (λ _ h16 => Ze (Zn rfl (Zl h16 z0)))))) ?_
    refine Zp (Zm _) (Zm2 rfl (λ _ => (λ γ => Zf (λ _ h15 => Ze (Zn rfl (Zl h15 z0)))))) ?_
    refine Zp (Zm _) (Zm2 rfl (λ _ => (λ γ => Zw 2 1 rfl (λ _ h85 => Zw 3 0 rfl (λ _ h86 => Ze (Zn rfl (Zu2 (V_sliceTo VT.sl24 h85 h86 (by omega) (by simp; omega) z0) (V.le.of_eq (v' := patsX (R.1.take e.args.length)) (take_map patV R.1 e.args.length)) z0))))))) ?_
    refine Zp (Zm _) (Zm2 rfl (λ _ => (λ γ => Zw 4 0 rfl (λ _ h87 => Ze (Zn rfl (Zx1 [.tmp 87] rfl (Zp2 h87 Zq2) VT.en49 (clone_c (R.1.take e.args.length) (by rw [List.length_take]; omega)) z0)))))) ?_
    refine Zp (Zm _) (Zm2 rfl (λ _ => (λ γ => Zw 1 4 rfl (λ _ h84 => Zw 5 0 rfl (λ _ h88 => Ze (Zn rfl (Zf2 [0, 1, 3] [.const (.int .i64 (3)), .tmp 84, .tmp 88] VT.st75 rfl rfl (Zp2 rfl (Zp2 h84 (Zp2 h88 Zq2))) rfl z0))))))) ?_
    refine Zp (Zw2 (λ g18 => .ptr g18 0)) (Zo2 0 rfl (λ γ => Ze (Zn rfl (Zb2 VT.zr75 _ rfl rfl (λ g18 => ⟨g18, ⟨g18, rfl, rfl⟩, rfl⟩))))) ?_
    refine Zp Za3 (Zo2 1 rfl (λ γ => Zw 7 0 rfl (λ _ h18 => Zw 6 1 rfl (λ _ h89 => Ze (Zx2 h18 (λ e18 => Zn rfl (Zx 0 VT.ty75 e18 h89 rfl rfl rfl ⟨default, trivial, rfl⟩))))))) ?_
    refine DrawP_nil (λ γ => Zw 7 1 rfl (λ r18 h18 => Ze ?_))
    have e18 : r18 = some _ := Zd3 h18
    subst e18
    clear h18
    refine Zi (Zb ?_)
    refine VW_drawR (G := Tok) [([], [18], []), ([0], [90], [0]), ([], [16], []), ([], [15], []), ([3, 2], [92, 93], []), (dn 5, [91, 94], [1]), (dn 6, [95], [1]), (dn 7, [], [])] [1, 5] (twoSt _ (λ x => [.buf x 75 4 1, .cells (γ 0) 75 [.int 3, .str e.name, .int 0, patsX (R.1.take e.args.length)], .cells g14 95 [.str e.name, .sl 4 none e.args], .cells g3 83 [datasX ds, .raw (.map (some g))], tabO g t]) (λ _ x => [.buf x 75 4 ([V.agg [.int 3, .str e.name, .int 0, patsX (R.1.take e.args.length)]] ++ (R.1.drop e.args.length).map patV).length, .cells (γ 0) 75 [.int 3, .str e.name, .int 0, patsX (R.1.take e.args.length)], .cells g14 95 [.str e.name, .sl 4 none e.args], .cells g3 83 [datasX ds, .raw (.map (some g))], tabO g t])) [6, 7] [6, 7, 90, 91, 92, 93, 94, 95] rfl VT.mix ?_
    refine Zp (Zm _) (Zo rfl rfl ⟨(λ γ => Zf (λ _ h18 => Ze (Zn rfl (Zv 0 VT.ty75 h18 rfl rfl z0)))), trivial⟩) ?_
    refine Zp (Zw2 (λ x => .sl 4 (some x) [V.agg [.int 3, .str e.name, .int 0, patsX (R.1.take e.args.length)]])) (Zo2 0 rfl (λ γ => Zw 0 0 rfl (λ _ h90 => Ze (Zn rfl (V_litTok [.tmp 90] VT.sl24 rfl rfl rfl (Zp2 h90 Zq2) rfl (λ t91 => ⟨t91, ⟨t91, rfl, rfl⟩, rfl⟩)))))) ?_
    refine Zp (Zm _) (Zm2 rfl (λ _ => (λ γ => Zf (λ _ h16 => Ze (Zn rfl (Zl h16 z0)))))) ?_
    refine Zp (Zm _) (Zm2 rfl (λ _ => (λ γ => Zf (λ _ h15 => Ze (Zn rfl (Zl h15 z0)))))) ?_
    refine Zp (Zm _) (Zm2 rfl (λ _ => (λ γ => Zw 2 1 rfl (λ _ h92 => Zw 3 0 rfl (λ _ h93 => Ze (Zn rfl (Zu2 (V_sliceFrom VT.sl24 h92 h93 (by omega) (by simp; omega) z0) (V.le.of_eq (v' := patsX (R.1.drop e.args.length)) (drop_map patV R.1 e.args.length)) z0))))))) ?_
    refine Zp (Zw2 (λ x => .sl 4 (some x) ([V.agg [.int 3, .str e.name, .int 0, patsX (R.1.take e.args.length)]] ++ (R.1.drop e.args.length).map patV))) (Zo2 1 rfl (λ γ => Zw 1 3 rfl (λ _ h91 => Zw 4 0 rfl (λ _ h94 => Ze (Zx2 h91 (λ e91 => Zn rfl (Zi3 0 _ VT.sl24 e91 h94 rfl (by simp) (by simp; omega) (λ t95 => ⟨t95, ⟨t95, rfl, rfl⟩, rfl⟩)))))))) ?_
    refine Zp (Zw2 (λ x => .sl 4 (some x) ([V.agg [.int 3, .str e.name, .int 0, patsX (R.1.take e.args.length)]] ++ (R.1.drop e.args.length).map patV))) (Zo rfl rfl ⟨(λ γ => Zw 5 0 rfl (λ _ h95 => Ze (Zx2 h95 (λ e95 => Zn rfl (Zk e95 ⟨⟨_, rfl, rfl⟩, rfl⟩))))), trivial⟩) ?_
    refine Zp (Zm _) (Zo rfl rfl ⟨(λ γ => Ze (Zn rfl (Zk rfl z0))), trivial⟩) ?_
    refine DrawP_nil (λ γ => Zw 6 1 rfl (λ r6 h6 => Zw 7 0 rfl (λ r7 h7 => Ze ?_)))
    have e6 : r6 = some _ := Zd3 h6
    subst e6
    clear h6
    have e7 : r7 = some _ := h7
    subst e7
    clear h7
    refine Zi (Zf1 ?_)
    refine Za1 (Zd1 (Zd1 (Za1 (Zd1 (Zh1 rfl rfl (.cons (.strip rfl) (.cons (.tmp rfl) (.nil))) ?_)))))
    refine ⟨_, Dd (Dd (Dd (Dd (Zt2 _)))), ?_, rfl⟩
    show _ = missV (missF t ds (f + 1) rows (σs.length + 1))
    rw [missF, hab]
    simp only [hc0, <- hq, drop_cons hcn, missLoop, hR, h82, cond_true]
    simp [missV, patV_eq, Pat.kind, Pat.name, Pat.n, Pat.args, List.map_take]
   refine Zi1 (Zb1 (Zi (Zd ?_)))
   refine Zc (Zh2 rfl rfl (by omega) ?_)
   refine Zc (Zl rfl (Za (Zi ?_)))
   exact ⟨k + 1, (by (try simp only []); omega), ⟨by omega, by rw [<- hq, drop_cons hcn, missLoop, hR, h82]; rfl⟩, ⟨rfl, rfl, rfl, rfl, rfl, rfl, trivial⟩, (Dd (Dk (Dk (Zt2 _))))⟩
  have hke : k = D0.cons.length := by omega
  subst hke
  rw [Yb, missLoop] at hq
  refine Zt (Ze1 (Ze1 (Zc1 (Zi (Zb (Zd ?_))))))
  refine Zc (Zu2 (Zk rfl ⟨rfl, rfl⟩) (V.le.nil 4) ?_)
  refine Zc (Zk rfl (Za (Zi (Zf1 ?_))))
  refine Zh1 rfl rfl (.cons (.strip rfl) (.cons (.tmp rfl) (.nil))) ?_
  refine ⟨_, Dd (Zt2 _), ?_, rfl⟩
  show _ = missV (missF t ds (f + 1) rows (σs.length + 1))
  rw [missF, hab]
  simp only [hc0, <- hq]
  rfl
 refine Zc (V_callK 1 [.tmp 27, .tmp 28] rfl rfl VT.en46 rfl (by have h := absent_c ds t g (first rows) (by omega) hh; rw [hab] at h; exact h) ?_)
 refine Zc (Zl rfl (Zc (Zg2 rfl rfl (Zc (Zg2 rfl rfl ?_)))))
 refine Zc (Zb2 VT.zr75 _ rfl rfl (λ g9 => ?_))
 refine Zc (Zx 0 VT.ty75 rfl rfl rfl rfl rfl (Zc (Zk rfl (Za (Zi (Zb (Zd (Zc (Zl rfl (Za (Zi ?_)))))))))))
 refine Zp1 rfl (rfl) ?_
 refine Zb ?_
 refine VW_drawR (G := Unit) [([], [3], []), ([], [1], []), ([1], [35], []), ([], [2], []), ([3], [37], []), (dn 5, [34, 36, 38], []), (dn 6, [39], []), (dn 7, [33], []), (dn 7, [33], []), (dn 8, [40], []), (dn 10, [41], [])] [] (constSt _) [11, 12] [11, 12, 33, 34, 35, 36, 37, 38, 39, 40, 41] rfl VT.mix ?_
 refine ZA (λ γ => Zf (λ _ h3 => Ze (Zn rfl (Zv 1 VT.ty83 h3 rfl rfl z0)))) ?_
 refine ZA (λ γ => Zf (λ _ h1 => Ze (Zn rfl (Zl h1 z0)))) ?_
 refine ZA (λ γ => Zw 1 0 rfl (λ _ h35 => Ze (Zn rfl (Zx1 [.tmp 35] rfl (Zp2 h35 Zq2) VT.en47 (rest_c rows hne (by omega)) z0)))) ?_
 refine ZA (λ γ => Zf (λ _ h2 => Ze (Zn rfl (Zl h2 z0)))) ?_
 refine ZA (λ γ => Zw 3 0 rfl (λ _ h37 => Ze (Zn rfl (Zu2 (Zk2 h37 rfl (by simp; omega) z0) (V.le.of_eq (v' := .int σs.length) (by simp)) z0)))) ?_
 refine ZA (λ γ => Zw 0 4 rfl (λ _ h34 => Zw 2 2 rfl (λ _ h36 => Zw 4 0 rfl (λ _ h38 => Ze (Zn rfl (V_callK 2 [.tmp 34, .tmp 36, .tmp 38] rfl (Zp2 h34 (Zp2 h36 (Zp2 h38 Zq2))) VT.en24 rfl (ih (rest rows) σs ⟨hrT, by omega, by omega⟩) z0)))))) ?_
 refine ZA (λ γ => Zw 5 0 rfl (λ _ h39 => Ze (Zn rfl (Zl h39 z0)))) ?_
 refine ZA (λ γ => Zw 6 0 rfl (λ _ h33 => Ze (Zn rfl (Zg2 h33 rfl z0)))) ?_
 refine ZA (λ γ => Zw 6 1 rfl (λ _ h33 => Ze (Zn rfl (Zg2 h33 rfl z0)))) ?_
 refine ZA (λ γ => Zw 7 1 rfl (λ _ h40 => Ze (Zn rfl (Zk h40 z0)))) ?_
 refine ZA (λ γ => Zw 8 1 rfl (λ _ h41 => Ze (Zn rfl (Zk h41 z0)))) ?_
 refine DrawP_nil (λ γ => Zw 9 1 rfl (λ r11 h11 => Zw 10 0 rfl (λ r12 h12 => Ze ?_)))
 have e11 : r11 = some _ := h11
 subst e11
 clear h11
 have e12 : r12 = some _ := h12
 subst e12
 clear h12
 refine Zi (Zb (Zd (Zc (Zv 0 VT.ty75 rfl rfl rfl ?_))))
 refine Zc (V_litTok [.tmp 42] VT.sl24 rfl rfl rfl rfl rfl (λ t43 => ?_))
 refine Zc (Zl rfl ?_)
 refine Zc (Zi3 0 _ VT.sl24 rfl rfl rfl (by simp) (by have := (missF_len t ds f (rest rows) σs.length).1; simp; omega) (λ t45 => ?_))
 refine Zc (Zl rfl (Zc (Zk rfl (Zc (Zk rfl (Za (Zi (Zf1 ?_))))))))
 refine Zd1 (Zh1 rfl rfl (.cons (.strip rfl) (.cons (.tmp rfl) (.nil))) ?_)
 refine ⟨_, Dd (Dd (Dd (Zt2 _))), ?_, rfl⟩
 show _ = missV (missF t ds (f + 1) rows (σs.length + 1))
 rw [missF, hab]
 simp [missV, patV_eq]
theorem missing_c (ds : List DataSig) (t : Tab) (g : Nat) (hok : TabOk t ds) : ∀ (f : Nat), f <= 400000 -> ∀ rows τs, MissPre t f rows τs -> VKeep Tryz.prog 24 [tabX ds g, rowsX rows, .int τs.length] [tabO g t] (missV (missF t ds f rows τs.length))
 | 0, _, rows, τs, h => absurd h.fuel (Nat.not_lt_zero _)
 | f + 1, hf, rows, τs, h => missing_step ds t g hok f (by omega) (λ rows τs h => missing_c ds t g hok f (by omega) rows τs h) rows τs h
end Go.Proofs.YtpkbgamoboojaaaGreat.W6
end
section
namespace Go.Proofs.YtpkbgamoboojaaaGreat.W7
open Go.VL Go.PM Go.Proofs.YtpkbgamoboojaaaGreat W1 W2 W3 W4
theorem agree_false {t : Tab} {f : Nat} {l m : List Pat} (hm : m = l.filter nf) (h : agreeLoop (agreeF t f) m [] m = false) : agreeF t (f + 1) l = false := by
 subst hm
 rw [agreeF, h, Bool.and_false]
theorem take_mapX (l : List Pat) (n : Nat) : V.sl 4 none ((l.map patV).take n) = patsX (l.take n) := by rw [patsX, List.map_take]
theorem agree_step (ds : List DataSig) (t : Tab) (g : Nat) (f : Nat) (ih : ∀ l, AgreePre t f l -> VKeep Tryz.prog 44 [tabX ds g, patsX l] [tabO g t] (.bool (agreeF t f l))) (l : List Pat) (hp : AgreePre t (f + 1) l) : VKeep Tryz.prog 44 [tabX ds g, patsX l] [tabO g t] (.bool (agreeF t (f + 1) l)) := by
 have hne := hp.ne
 have hl := hp.len
 have hfil := List.length_filter_le nf l
 refine VCalls_drops ?_
 refine V_start (nt := 79) Tryz.func44 rfl rfl rfl ?_
 refine Zb (Zd ?_)
 refine Zc (Zc2 rfl rfl (λ g2 => ?_))
 refine Zc (Zk rfl (Za (Zi (Zb (Zd (Zc (Zl rfl ?_)))))))
 refine Zc (Zm3 [.tmp 13] [] _ rfl rfl VT.en49 (.refl _) (cloneRow_c l hne (by omega)) ?_)
 rintro r Sa ⟨g0, cap0, rest0, hc0, hm0, rfl, rfl⟩
 refine Zc (Zm3 [.tmp 14, .func 40] [_] _ rfl rfl VT.en76 (Zv2 (i := 0) rfl) (delete_c l rest0 g0 cap0 (by omega) hc0) ?_)
 rintro r Sa ⟨rest1, rfl, rfl⟩
 refine Zc (Zk rfl (Za (Zi ?_)))
 refine VW_freeze 0 (q := 1) ((l.filter nf).map patV) rfl rfl rfl (by simp) (by omega) hm0 (pats_fits _) ?_
 generalize hm : l.filter nf = m at hfil
 have hok : ∀ p ∈ m, patF t p = 0 := λ p h => hp.ok p (nf_mem (hm ▸ h)).1
 have hnf : ∀ p ∈ m, free p = false := λ p h => (nf_mem (hm ▸ h)).2
 refine Zb (Zb (Zd (Zc (Zl rfl ?_))))
 refine Zc (Zd2 (n := m.length) Tryz.underlying24 rfl (by simp) (λ hl17 => ?_))
 refine Zc (Zl rfl (Za (Zi (Zs ?_))))
 refine Zi2 (ι := Nat) (λ k => m.length - k) (λ k => [(1, some (patsX m)), (2, some (.ptr g2 0)), (16, some (patsX m)), (17, some (.int m.length)), (18, some (.int k))]) (λ k => [.cells g2 83 [datasX ds, .raw (.map (some g))], tabO g t]) (λ k => k <= m.length /\ (m.take k).all (λ p => decide (kindF t p = kindF t (m.headD anyP))) = true) 0 ⟨Yg _, rfl⟩ ⟨rfl, rfl, rfl, rfl, rfl, trivial⟩ (Dk (Dk (Zt2 _))) ?_
 rintro k hA
 change k <= m.length /\ (m.take k).all (λ p => decide (kindF t p = kindF t (m.headD anyP))) = true at hA
 obtain ⟨hk, hall⟩ := hA
 refine Zb (Zd (Zc (Zj1 rfl rfl rfl (Za (Zi (Zb ?_))))))
 refine Zn1 rfl (λ h19 => ?_) (λ h19 => ?_)
 .
  obtain ⟨p, hr⟩ := get_of_lt m k h19
  obtain ⟨p0, l0, hm0⟩ : ∃ p0 l0, m = p0 :: l0 := by cases m with | nil => simp at hr | cons a b => exact ⟨a, b, rfl⟩
  have hhd : m.headD anyP = p0 := by rw [hm0]; rfl
  refine Zi1 (Zi (Zb (Zs (Zb (Zd ?_)))))
  refine Zc (Zz (el := patX p) VT.sl24 rfl rfl (by omega) (get_patS hr) (λ a20 => ?_))
  refine Zc (Za2 VT.ty75 rfl rfl ?_)
  refine Zc (Zb2 VT.zr75 _ rfl rfl (λ g6 => ?_))
  refine Zc (Zx 0 VT.ty75 rfl rfl rfl rfl rfl (Za (Zi (Zb ?_))))
  refine VW_drawR (G := Unit) [([], [2], []), ([], [6], []), ([1, 0], [22, 23], []), ([], [2], []), ([], [1], []), ([4], [26], []), ([5, 4], [27], []), (dn 7, [25, 28], []), (dn 8, [24, 29], [])] [] (constSt _) [30] [22, 23, 24, 25, 26, 27, 28, 29, 30] rfl VT.mix ?_
  refine ZA (λ γ => Zf (λ _ h2 => Ze (Zn rfl (Zv 1 VT.ty83 h2 rfl rfl z0)))) ?_
  refine ZA (λ γ => Zf (λ _ h6 => Ze (Zn rfl (Zv 0 VT.ty75 h6 rfl rfl z0)))) ?_
  refine ZA (λ γ => Zw 0 1 rfl (λ _ h22 => Zw 1 0 rfl (λ _ h23 => Ze (Zn rfl (V_callK 2 [.tmp 22, .tmp 23] rfl (Zp2 h22 (Zp2 h23 Zq2)) VT.en77 rfl (kind_c ds t g p) z0))))) ?_
  refine ZA (λ γ => Zf (λ _ h2 => Ze (Zn rfl (Zv 1 VT.ty83 h2 rfl rfl z0)))) ?_
  refine ZA (λ γ => Zf (λ _ h1 => Ze (Zn rfl (Zl h1 z0)))) ?_
  refine Zp (Zb3 _) (Zq (λ γ => Zw 4 0 rfl (λ _ h26 => Ze (Zn rfl (Zz (el := patX p0) VT.sl24 h26 rfl (by omega) (by rw [hm0]; exact get_patS rfl) (λ a27 => ⟨⟨_, rfl⟩, rfl⟩)))))) ?_
  refine ZA (λ γ => Zw 5 0 rfl (λ _ h27 => Ze (Zc3 h27 (λ a_27 e27 => Zn rfl (Za2 VT.ty75 e27 rfl z0))))) ?_
  refine ZA (λ γ => Zw 3 3 rfl (λ _ h25 => Zw 6 0 rfl (λ _ h28 => Ze (Zn rfl (V_callK 2 [.tmp 25, .tmp 28] rfl (Zp2 h25 (Zp2 h28 Zq2)) VT.en77 rfl (kind_c ds t g p0) z0))))) ?_
  refine ZA (λ γ => Zw 2 5 rfl (λ _ h24 => Zw 7 0 rfl (λ _ h29 => Ze (Zn rfl (Zj1 h24 h29 rfl z0))))) ?_
  refine DrawP_nil (λ γ => Zw 8 0 rfl (λ r30 h30 => Ze ?_))
  have e30 : r30 = some _ := h30
  subst e30
  clear h30
  refine Zi ?_
  refine Zm1 rfl (λ h30 => ?_) (λ h30 => ?_)
  .
   rw [<- hhd] at h30
   refine Zb (Zd (Zc (Zk rfl (Za (Zi (Zf1 ?_))))))
   refine Za1 (Zd1 (Zd1 (Za1 (Zd1 (Zg1 rfl (.tmp rfl) ?_)))))
   refine ⟨_, Dd (Dd (Zt2 _)), ?_, rfl⟩
   rw [agreeF, hm, sameKind_no hr h30, Bool.false_and]
  rw [<- hhd] at h30
  refine Zi1 (Zb1 (Zi (Zd ?_)))
  refine Zc (Zh2 rfl rfl (by omega) ?_)
  refine Zc (Zl rfl (Za (Zi ?_)))
  exact ⟨k + 1, (by (try simp only []); omega), ⟨by omega, all_snoc hr hall (by simpa using h30)⟩, ⟨rfl, rfl, rfl, rfl, rfl, trivial⟩, (Dd (Dk (Dk (Zt2 _))))⟩
 have hke : k = m.length := by omega
 subst hke
 rw [Yd] at hall
 have hsk : sameKind t m = true := hall
 refine Zt (Ze1 (Ze1 (Zc1 (Zi (Zb (Zb (Zd (Zc (Zl rfl ?_)))))))))
 refine Zc (Zd2 (n := m.length) Tryz.underlying24 rfl (by simp) (λ hl33 => ?_))
 refine Zc (Zl rfl (Za (Zi (Zs ?_))))
 refine Zi2 (ι := Nat) (λ j => m.length - j) (λ j => [(1, some (patsX m)), (2, some (.ptr g2 0)), (32, some (patsX m)), (33, some (.int m.length)), (34, some (.int j))]) (λ j => [.cells g2 83 [datasX ds, .raw (.map (some g))], tabO g t]) (λ j => j <= m.length /\ agreeLoop (agreeF t f) m (m.take j) (m.drop j) = agreeLoop (agreeF t f) m [] m) 0 ⟨Yg _, rfl⟩ ⟨rfl, rfl, rfl, rfl, rfl, trivial⟩ (Dk (Dk (Zt2 _))) ?_
 rintro j hA
 change j <= m.length /\ agreeLoop (agreeF t f) m (m.take j) (m.drop j) = agreeLoop (agreeF t f) m [] m at hA
 obtain ⟨hj, hq⟩ := hA
 refine Zb (Zd (Zc (Zj1 rfl rfl rfl (Za (Zi (Zb ?_))))))
 refine Zn1 rfl (λ h35 => ?_) (λ h35 => ?_)
 .
  obtain ⟨p, hr⟩ := get_of_lt m j h35
  have hpm := Ya hr
  refine Zi1 (Zi (Zb (Zs (Zb (Zd (Zc (Zl rfl ?_)))))))
  refine Zc (Zz (el := patX p) VT.sl24 rfl rfl (by omega) (get_patS hr) (λ a37 => ?_))
  refine Zc (Za2 VT.ty75 rfl rfl ?_)
  refine Zc (Zb2 VT.zr75 _ rfl rfl (λ g8 => ?_))
  refine Zc (Zk rfl (Zc (Zx 0 VT.ty75 rfl rfl rfl rfl rfl (Za (Zi (Zb (Zb (Zd (Zc (Zl rfl (Zc (Zl rfl ?_))))))))))))
  refine Zc (Zu2 (V_sliceTo VT.sl24 rfl rfl (by omega) (by simp; omega) ⟨rfl, rfl⟩) (V.le.of_eq (take_mapX m j)) ?_)
  refine Zc (V_makeFunc [.tmp 8] rfl rfl ?_)
  refine Zc (V_callK 0 [.tmp 41, .tmp 42] rfl rfl VT.en78 rfl (patAnyK_c (p := λ q => decide (q.name = p.name)) VT.en79 (λ q _ => agree1_c q p g8)) ?_)
  refine Za (Zi ?_)
  refine Zr1 rfl (λ h43 => ?_) (λ h43 => ?_)
  .
   have hstep : agreeLoop (agreeF t f) m (m.take (j + 1)) (m.drop (j + 1)) = agreeLoop (agreeF t f) m [] m := by rw [<- hq, drop_cons hr, agreeLoop, take_snoc hr, h43]; simp
   refine Zt (Ze1 (Zc1 (Zi (Zd ?_))))
   refine Zc (Zh2 rfl rfl (by omega) ?_)
   refine Zc (Zl rfl (Za (Zi ?_)))
   exact ⟨j + 1, (by (try simp only []); omega), ⟨by omega, hstep⟩, ⟨rfl, rfl, rfl, rfl, rfl, trivial⟩, (Dd (Dk (Dk (Zt2 _))))⟩
  refine Zi1 (Zi (Zb (Zb (Zd (Zc (Zj VT.fa75_0 rfl (Zc (Zu 0 VT.ty3 rfl rfl rfl (Zc (Zj1 rfl rfl rfl (Za (Zi ?_))))))))))))
  refine Zm1 rfl (λ h46 => ?_) (λ h46 => ?_)
  .
   have h46a : decide (p.kind ≠ 3) = true := by simpa using h46
   have hstep : agreeLoop (agreeF t f) m (m.take (j + 1)) (m.drop (j + 1)) = agreeLoop (agreeF t f) m [] m := by rw [<- hq, drop_cons hr, agreeLoop, take_snoc hr, h46a]; simp
   refine Zt (Ze1 (Zc1 (Zi (Zd ?_))))
   refine Zc (Zh2 rfl rfl (by omega) ?_)
   refine Zc (Zl rfl (Za (Zi ?_)))
   exact ⟨j + 1, (by (try simp only []); omega), ⟨by omega, hstep⟩, ⟨rfl, rfl, rfl, rfl, rfl, trivial⟩, (Dd (Dk (Dk (Zt2 _))))⟩
  have hargs : ∀ q ∈ m, q.name = p.name -> q.args.length = p.args.length := λ q hq1 hq2 => (same_args hsk hok hnf hpm hq1 h46 hq2).2.1
  refine Zi1 (Zi (Zb (Zd (Zc (Zj VT.fa75_3 rfl (Zc (Zu 0 VT.ty24 rfl rfl rfl ?_)))))))
  refine Zc (Zd2 (n := p.args.length) Tryz.underlying24 rfl (by simp) (λ hl49 => ?_))
  refine Zc (Zl rfl (Za (Zi (Zs ?_))))
  refine Zi2 (ι := Nat) (λ n => p.args.length - n) (λ n => [(1, some (patsX m)), (2, some (.ptr g2 0)), (8, some (.ptr g8 0)), (32, some (patsX m)), (33, some (.int m.length)), (34, some (.int j)), (49, some (.int p.args.length)), (50, some (.int n))]) (λ n => [.cells g8 75 [.int p.kind, .str p.name, .int p.n, patsX p.args], .cells g2 83 [datasX ds, .raw (.map (some g))], tabO g t]) (λ n => n <= p.args.length /\ agreeArgs (agreeF t f) m p.name n (p.args.length - n) = agreeArgs (agreeF t f) m p.name 0 p.args.length) 0 ⟨Yg _, rfl⟩ ⟨rfl, rfl, rfl, rfl, rfl, rfl, rfl, rfl, trivial⟩ (Dk (Dk (Dk (Zt2 _)))) ?_
  rintro n hA
  change n <= p.args.length /\ agreeArgs (agreeF t f) m p.name n (p.args.length - n) = agreeArgs (agreeF t f) m p.name 0 p.args.length at hA
  obtain ⟨hn, hqa⟩ := hA
  refine Zb (Zd (Zc (Zj1 rfl rfl rfl (Za (Zi (Zb ?_))))))
  refine Zn1 rfl (λ h51 => ?_) (λ h51 => ?_)
  .
   have hpre2 := hp.below hm.symm hsk hpm h46 (n := n) (by omega)
   refine Zi1 (Zi (Zb (Zs (Zb (Zd (Zc (Zl rfl (Zc (Zk rfl (Za (Zi (Zb (Zd (Zc (V_assign_nil 75 4 (Za (Zi (Zb (Zb (Zd (Zc (Zl rfl ?_))))))))))))))))))))))
   refine Zc (Zd2 (n := m.length) Tryz.underlying24 rfl (by simp) (λ hl54 => ?_))
   refine Zc (Zl rfl (Za (Zi (Zs ?_))))
   refine Zi2 (ι := Nat × Tok) (λ (i, tk) => m.length - i) (λ (i, tk) => [(1, some (patsX m)), (2, some (.ptr g2 0)), (8, some (.ptr g8 0)), (9, some (.int n)), (10, some (.sl 4 (some tk) ((belowF (m.take i) p.name n).map patV))), (32, some (patsX m)), (33, some (.int m.length)), (34, some (.int j)), (49, some (.int p.args.length)), (50, some (.int n)), (53, some (patsX m)), (54, some (.int m.length)), (55, some (.int i))]) (λ (i, tk) => [.buf tk 75 4 (belowF (m.take i) p.name n).length, .cells g8 75 [.int p.kind, .str p.name, .int p.n, patsX p.args], .cells g2 83 [datasX ds, .raw (.map (some g))], tabO g t]) (λ (i, tk) => i <= m.length) (0, .nil) (by simp) ⟨rfl, rfl, rfl, rfl, (by simp [belowF]; rfl), rfl, rfl, rfl, rfl, rfl, rfl, rfl, rfl, trivial⟩ (Drops.buf (by simp [belowF]) (Dk (Dk (Dk (Zt2 _))))) ?_
   rintro ⟨i, tk⟩ hi
   change i <= m.length at hi
   refine Zb (Zd (Zc (Zj1 rfl rfl rfl (Za (Zi (Zb ?_))))))
   refine Zn1 rfl (λ h56 => ?_) (λ h56 => ?_)
   .
    obtain ⟨q, hqi⟩ := get_of_lt m i h56
    refine Zi1 (Zi (Zb (Zs (Zb (Zd ?_)))))
    refine Zc (Zz (el := patX q) VT.sl24 rfl rfl (by omega) (get_patS hqi) (λ a57 => ?_))
    refine Zc (Za2 VT.ty75 rfl rfl ?_)
    refine Zc (Zb2 VT.zr75 _ rfl rfl (λ g12 => ?_))
    refine Zc (Zx 0 VT.ty75 rfl rfl rfl rfl rfl (Za (Zi (Zb (Zd (Zc (Zj VT.fa75_1 rfl (Zc (Zu 0 VT.ty9 rfl rfl rfl (Zc (Zj VT.fa75_1 rfl (Zc (Zu 2 VT.ty9 rfl rfl rfl (Zc (V_streq rfl rfl (Za (Zi ?_)))))))))))))))))
    refine Zl1 rfl (λ h63 => ?_) (λ h63 => ?_)
    .
     have hql := hargs q (Ya hqi) h63
     obtain ⟨qa, hqa2⟩ := get_of_lt q.args n (by omega)
     have hqg : q.args.getD n anyP = qa := by simp [hqa2]
     have hbl := below_len (m.take i) p.name n
     rw [List.length_take] at hbl
     refine Zd (Zc (Zl rfl (Zc (Zj VT.fa75_3 rfl (Zc (Zu 0 VT.ty24 rfl rfl rfl (Zc (Zl rfl ?_))))))))
     refine Zc (Zz (el := patX qa) VT.sl24 rfl rfl (by omega) (get_patS hqa2) (λ a68 => ?_))
     refine Zc (Za2 VT.ty75 rfl rfl ?_)
     refine Zc (Zk3 [.tmp 69] VT.sl24 rfl rfl rfl rfl rfl ?_)
     refine Zc (Zi3 1 _ VT.sl24 rfl rfl rfl (by simp) (by simp; omega) (λ t71 => ?_))
     refine Zc (Zk rfl (Za (Zb1 (Zi (Zd ?_)))))
     refine Zc (Zh2 rfl rfl (by omega) ?_)
     refine Zc (Zl rfl (Za (Zi ?_)))
     exact ⟨(i + 1, t71), (by (try simp only []); omega), (by omega), ⟨rfl, rfl, rfl, rfl, (by rw [take_snoc hqi, below_snoc]; first | (rw [if_neg h63, Yc]; rfl) | (rw [if_pos h63, hqg, Ye, List.map_cons, patV_eq qa]; rfl)), rfl, rfl, rfl, rfl, rfl, rfl, rfl, rfl, trivial⟩, (Dd (Drops.buf (by rw [take_snoc hqi, below_snoc]; first | (rw [if_neg h63, Yc]; done) | (rw [if_pos h63, hqg]; simp)) (Dk (Dk (Dk (Zt2 _))))))⟩
    refine Zi1 (Zb1 (Zi (Zd ?_)))
    refine Zc (Zh2 rfl rfl (by omega) ?_)
    refine Zc (Zl rfl (Za (Zi ?_)))
    exact ⟨(i + 1, tk), (by (try simp only []); omega), (by omega), ⟨rfl, rfl, rfl, rfl, (by rw [take_snoc hqi, below_snoc]; first | (rw [if_neg h63, Yc]; rfl) | (rw [if_pos h63, hqg, Ye, List.map_cons, patV_eq qa]; rfl)), rfl, rfl, rfl, rfl, rfl, rfl, rfl, rfl, trivial⟩, (Dd (Drops.buf (by rw [take_snoc hqi, below_snoc]; first | (rw [if_neg h63, Yc]; done) | (rw [if_pos h63, hqg]; simp)) (Dk (Dk (Dk (Zt2 _))))))⟩
   have hte := take_end h56
   refine Zt (Ze1 (Ze1 (Zc1 (Zi (Zb (Zd (Zc (Zv 2 VT.ty83 rfl rfl rfl ?_))))))))
   refine Zc (Zu2 (Zl rfl ⟨rfl, rfl⟩) (V.le.strip) ?_)
   refine Zc (V_callK 3 [.tmp 73, .tmp 74] rfl rfl VT.en44 rfl ((by rw [hte]; exact ih _ hpre2 : VKeep Tryz.prog 44 [tabX ds g, patsX (belowF (m.take i) p.name n)] [tabO g t] (.bool (agreeF t f (belowF m p.name n))))) ?_)
   refine Zc (Zl2 rfl (Za (Zi ?_)))
   refine Zo1 rfl (λ h76 => ?_) (λ h76 => ?_)
   .
    refine Zb (Zd (Zc (Zk rfl (Za (Zi (Zf1 ?_))))))
    refine Za1 (Zd1 (Zd1 (Za1 (Za1 (Zd1 (Zd1 (Za1 (Zd1 (Zg1 rfl (.tmp rfl) ?_)))))))))
    refine ⟨_, Dd (Dd (Dd (Zt2 _))), ?_, rfl⟩
    rw [agree_false hm.symm ?_]
    rw [<- hq, drop_cons hr, agreeLoop, <- hqa, show p.args.length - n = (p.args.length - (n + 1)) + 1 by omega, agreeArgs, h76, h43]
    simp [h46]
   refine Zi1 (Zb1 (Zi (Zd ?_)))
   refine Zc (Zh2 rfl rfl (by omega) ?_)
   refine Zc (Zl rfl (Za (Zi ?_)))
   exact ⟨n + 1, (by (try simp only []); omega), ⟨by omega, by rw [<- hqa, show p.args.length - n = (p.args.length - (n + 1)) + 1 by omega, agreeArgs, h76]; rfl⟩, ⟨rfl, rfl, rfl, rfl, rfl, rfl, rfl, rfl, trivial⟩, (Dd (Dk (Dk (Dk (Zt2 _)))))⟩
  have hne2 : n = p.args.length := by omega
  subst hne2
  rw [Nat.sub_self, agreeArgs] at hqa
  have hstep : agreeLoop (agreeF t f) m (m.take (j + 1)) (m.drop (j + 1)) = agreeLoop (agreeF t f) m [] m := by rw [<- hq, drop_cons hr, agreeLoop, take_snoc hr, <- hqa]; simp
  refine Zt (Ze1 (Ze1 (Zc1 (Zb1 (Zi (Zd ?_))))))
  refine Zc (Zh2 rfl rfl (by omega) ?_)
  refine Zc (Zl rfl (Za (Zi ?_)))
  exact ⟨j + 1, (by (try simp only []); omega), ⟨by omega, hstep⟩, ⟨rfl, rfl, rfl, rfl, rfl, trivial⟩, (Dd (Dk (Dk (Zt2 _))))⟩
 have hje : j = m.length := by omega
 subst hje
 rw [Yd, Yb, agreeLoop] at hq
 refine Zt (Ze1 (Ze1 (Zc1 (Zi (Zb (Zd (Zc (Zk rfl (Za (Zi (Zf1 ?_)))))))))))
 refine Zg1 rfl (.tmp rfl) ?_
 refine ⟨_, Dd (Zt2 _), ?_, rfl⟩
 rw [agreeF, hm, hsk, <- hq]
 rfl
theorem agree_c (ds : List DataSig) (t : Tab) (g : Nat) : ∀ (f : Nat) (l : List Pat), AgreePre t f l -> VKeep Tryz.prog 44 [tabX ds g, patsX l] [tabO g t] (.bool (agreeF t f l))
 | 0, l, h => absurd h.fuel (Nat.not_lt_zero _)
 | f + 1, l, h => agree_step ds t g f (λ l h => agree_c ds t g f l h) l h
end Go.Proofs.YtpkbgamoboojaaaGreat.W7
end
section
namespace Go.Proofs.YtpkbgamoboojaaaGreat.W8
open Go.VL Go.PM Go.Proofs.YtpkbgamoboojaaaGreat W1 W2 W3 W4 W7
theorem build_no {ds : List DataSig} (h : buildF 0 ds [] = none) : VPure Tryz.prog 42 [datasX ds] (.tup [.agg VT.zs83, .int 7]) := (build_c ds).mono λ r S' k => by
 rcases k with ⟨g, t, h1, _⟩ | ⟨_, h2, _⟩
 .rw [h] at h1; cases h1
 exact h2
theorem build_yes {ds : List DataSig} {t : Tab} (h : buildF 0 ds [] = some t) : VCalls Tryz.prog 42 [datasX ds] [] λ r S' => ∃ g, r = .tup [tabX ds g, .int 0] /\ S' = [tabO g t] := (build_c ds).mono λ r S' k => by
 rcases k with ⟨g, t', h1, h2, h3⟩ | ⟨h1, _, _⟩
 .rw [h] at h1
  injection h1 with h1
  subst h1
  exact ⟨g, h2, h3⟩
 rw [h] at h1; cases h1
theorem check_c (ds : List DataSig) (rows : List (List Pat)) : VCalls Tryz.prog 23 [datasX ds, rowsX rows] [] λ r S' => (checkF ds rows = 0 /\ ∃ g t, buildF 0 ds [] = some t /\ r = .tup [tabX ds g, .int 0] /\ S' = [tabO g t]) \/ (checkF ds rows ≠ 0 /\ r = .tup [.agg VT.zs83, .int (checkF ds rows)] /\ S' = []) := by
 refine VCalls_drops ?_
 refine V_start (nt := 102) Tryz.func23 rfl rfl rfl ?_
 refine Zb (Zd ?_)
 refine Zc (Zb2 VT.zr83 _ rfl rfl (λ g4 => ?_))
 refine Zc (Zk rfl (Za (Zi (Zb (Zb (Zd (Zc (Zl rfl (Zc (Zl rfl ?_))))))))))
 refine Zc (Zx1 [.tmp 19, .tmp 20] rfl rfl VT.en41 (small_c ds rows) ?_)
 refine Zc (Zl2 rfl (Za (Zi ?_)))
 refine Zo1 rfl (λ h22 => ?_) (λ h22 => ?_)
 .
  have he : checkF ds rows = 2 := by simp [checkF, h22]
  refine Zb (Zd ?_)
  refine Zc (Zf2 [] [] VT.st83 rfl rfl rfl rfl ?_)
  refine Zc (Zx 0 VT.ty83 rfl rfl rfl rfl rfl (Zc (Zk rfl (Za (Zi (Zf1 ?_))))))
  refine Zd1 (Zh1 rfl rfl (.cons (.agg (i := 0) VT.ty83 rfl rfl rfl) (.cons (.tmp rfl) (.nil))) ?_)
  exact ⟨_, Drops.nil _, .inr ⟨by rw [he]; omega, by rw [he]; rfl, rfl⟩⟩
 have hs := h22
 have hsm := small_of h22
 refine Zi1 (Zi (Zb (Zd (Zc (Zl rfl ?_)))))
 rcases hb : buildF 0 ds [] with _ | t
 .
  have he : checkF ds rows = 7 := by simp [checkF, hs, hb]
  refine Zc (Zx1 [.tmp 25] rfl rfl VT.en42 (build_no hb) ?_)
  refine Zc (Zl rfl (Zc (Zg2 rfl rfl (Zc (Zg2 rfl rfl ?_)))))
  refine Zc (Zb2 VT.zr83 _ rfl rfl (λ g6 => ?_))
  refine Zc (Zx 0 VT.ty83 rfl rfl rfl rfl rfl (Zc (Zk rfl (Za (Zi (Zb (Zb (Zd (Zc (Zl rfl (Zc (Zj1 rfl rfl rfl (Za (Zi ?_))))))))))))))
  refine Zp1 rfl (rfl) ?_
  refine Zb (Zd ?_)
  refine Zc (Zf2 [] [] VT.st83 rfl rfl rfl rfl ?_)
  refine Zc (Zl rfl (Zc (Zx 1 VT.ty83 rfl rfl rfl rfl rfl (Zc (Zk rfl (Za (Zi (Zf1 ?_))))))))
  refine Zd1 (Zh1 rfl rfl (.cons (.agg (i := 1) VT.ty83 rfl rfl rfl) (.cons (.tmp rfl) (.nil))) ?_)
  exact ⟨_, Drops.nil _, .inr ⟨by rw [he]; omega, by rw [he]; rfl, rfl⟩⟩
 refine Zc (Zm3 [.tmp 25] [] _ rfl rfl VT.en42 (.refl _) (build_yes hb) ?_)
 rintro r Sa ⟨g, rfl, rfl⟩
 refine Zc (Zl rfl (Zc (Zg2 rfl rfl (Zc (Zg2 rfl rfl ?_)))))
 refine Zc (Zb2 VT.zr83 _ rfl rfl (λ g6 => ?_))
 refine Zc (Zx 0 VT.ty83 rfl rfl rfl rfl rfl (Zc (Zk rfl (Za (Zi (Zb (Zb (Zd (Zc (Zl rfl (Zc (Zj1 rfl rfl rfl (Za (Zi ?_))))))))))))))
 refine Zq1 rfl (rfl) ?_
 refine Zi1 (Zi (Zb (Zb (Zd (Zc (Zl rfl ?_))))))
 refine Zc (Zd2 (n := rows.length) Tryz.underlying23 rfl (by simp) (λ hl34 => ?_))
 refine Zc (Zl rfl (Za (Zi (Zs ?_))))
 refine Zi2 (ι := Nat) (λ k => rows.length - k) (λ k => [(1, some (rowsX rows)), (4, some (.ptr g4 0)), (6, some (.ptr g6 0)), (33, some (rowsX rows)), (34, some (.int rows.length)), (35, some (.int k))]) (λ k => [.cells g6 83 [datasX ds, .raw (.map (some g))], tabO g t, .cells g4 83 VT.zs83]) (λ k => k <= rows.length /\ (rows.take k).all (sameLen rows) = true) 0 ⟨Yg _, rfl⟩ ⟨rfl, rfl, rfl, rfl, rfl, rfl, trivial⟩ (Dk (Dk (Dk (Zt2 _)))) ?_
 rintro k hA
 change k <= rows.length /\ (rows.take k).all (sameLen rows) = true at hA
 obtain ⟨hk, hall⟩ := hA
 refine Zb (Zd (Zc (Zj1 rfl rfl rfl (Za (Zi (Zb ?_))))))
 refine Zn1 rfl (λ h36 => ?_) (λ h36 => ?_)
 .
  obtain ⟨r, hr⟩ := get_of_lt rows k h36
  obtain ⟨r0, rs, hr0⟩ : ∃ r0 rs, rows = r0 :: rs := by cases rows with | nil => simp at hr | cons a b => exact ⟨a, b, rfl⟩
  have hw : width rows = r0.length := by rw [hr0]; rfl
  refine Zi1 (Zi (Zb (Zs (Zb (Zd ?_)))))
  refine Zc (Zz (el := patsX r) VT.sl23 rfl rfl (by omega) (get_mapS _ hr) (λ a37 => ?_))
  refine Zc (Zz1 VT.ty24 rfl rfl (Zc (Zk rfl (Za (Zi (Zb (Zd (Zc (Zl rfl ?_)))))))))
  refine Zc (Zd2 (n := r.length) Tryz.underlying24 rfl (by simp) (λ hl40 => ?_))
  refine Zc (Zl rfl ?_)
  refine Zc (Zz (el := patsX r0) VT.sl23 rfl rfl (by omega) (by rw [hr0]; rfl) (λ a42 => ?_))
  refine Zc (Zz1 VT.ty24 rfl rfl ?_)
  refine Zc (Zd2 (n := r0.length) Tryz.underlying24 rfl (by simp) (λ hl44 => ?_))
  refine Zc (Zj1 rfl rfl rfl (Za (Zi ?_)))
  refine Zm1 rfl (λ h45 => ?_) (λ h45 => ?_)
  .
   have hno : rows.all (sameLen rows) = false := by rw [List.all_eq_false]; exact ⟨r, Ya hr, by unfold sameLen; rw [hw]; simp; omega⟩
   have he : checkF ds rows = 3 := by simp [checkF, hs, hb, checkT, hno]
   refine Zb (Zd ?_)
   refine Zc (Zf2 [] [] VT.st83 rfl rfl rfl rfl ?_)
   refine Zc (Zx 2 VT.ty83 rfl rfl rfl rfl rfl (Zc (Zk rfl (Za (Zi (Zf1 ?_))))))
   refine Za1 (Zd1 (Zd1 (Za1 (Zd1 (Zh1 rfl rfl (.cons (.agg (i := 2) VT.ty83 rfl rfl rfl) (.cons (.tmp rfl) (.nil))) ?_)))))
   exact ⟨_, Drops.nil _, .inr ⟨by rw [he]; omega, by rw [he]; rfl, rfl⟩⟩
  refine Zi1 (Zb1 (Zi (Zd ?_)))
  refine Zc (Zh2 rfl rfl (by omega) ?_)
  refine Zc (Zl rfl (Za (Zi ?_)))
  exact ⟨k + 1, (by (try simp only []); omega), ⟨by omega, all_snoc hr hall (by unfold sameLen; rw [hw]; simp; omega)⟩, ⟨rfl, rfl, rfl, rfl, rfl, rfl, trivial⟩, (Dk (Dk (Dk (Zt2 _))))⟩
 have hke : k = rows.length := by omega
 subst hke
 rw [Yd] at hall
 refine Zt (Ze1 (Ze1 (Zc1 (Zi (Zb (Zb (Zd (Zc (Zl rfl ?_)))))))))
 refine Zc (Zd2 (n := rows.length) Tryz.underlying23 rfl (by simp) (λ hl49 => ?_))
 refine Zc (Zl rfl (Za (Zi (Zs ?_))))
 refine Zi2 (ι := Nat) (λ k => rows.length - k) (λ k => [(1, some (rowsX rows)), (4, some (.ptr g4 0)), (6, some (.ptr g6 0)), (48, some (rowsX rows)), (49, some (.int rows.length)), (50, some (.int k))]) (λ k => [.cells g6 83 [datasX ds, .raw (.map (some g))], tabO g t, .cells g4 83 VT.zs83]) (λ k => k <= rows.length /\ errRows t (rows.drop k) = errRows t rows) 0 ⟨Yg _, rfl⟩ ⟨rfl, rfl, rfl, rfl, rfl, rfl, trivial⟩ (Dk (Dk (Dk (Zt2 _)))) ?_
 rintro k hA
 change k <= rows.length /\ errRows t (rows.drop k) = errRows t rows at hA
 obtain ⟨hk, hq⟩ := hA
 refine Zb (Zd (Zc (Zj1 rfl rfl rfl (Za (Zi (Zb ?_))))))
 refine Zn1 rfl (λ h51 => ?_) (λ h51 => ?_)
 .
  obtain ⟨r, hr⟩ := get_of_lt rows k h51
  have hr16 := hsm.cols r (Ya hr)
  refine Zi1 (Zi (Zb (Zs (Zb (Zd ?_)))))
  refine Zc (Zz (el := patsX r) VT.sl23 rfl rfl (by omega) (get_mapS _ hr) (λ a52 => ?_))
  refine Zc (Zz1 VT.ty24 rfl rfl (Zc (Zk rfl (Za (Zi (Zb (Zd (Zc (Zl rfl ?_)))))))))
  refine Zc (Zd2 (n := r.length) Tryz.underlying24 rfl (by simp) (λ hl55 => ?_))
  refine Zc (Zl rfl (Za (Zi (Zs ?_))))
  refine Zi2 (ι := Nat) (λ n => r.length - n) (λ n => [(1, some (rowsX rows)), (4, some (.ptr g4 0)), (6, some (.ptr g6 0)), (48, some (rowsX rows)), (49, some (.int rows.length)), (50, some (.int k)), (54, some (patsX r)), (55, some (.int r.length)), (56, some (.int n))]) (λ n => [.cells g6 83 [datasX ds, .raw (.map (some g))], tabO g t, .cells g4 83 VT.zs83]) (λ n => n <= r.length /\ patsF t (r.drop n) = patsF t r) 0 ⟨Yg _, rfl⟩ ⟨rfl, rfl, rfl, rfl, rfl, rfl, rfl, rfl, rfl, trivial⟩ (Dk (Dk (Dk (Zt2 _)))) ?_
  rintro n hA
  change n <= r.length /\ patsF t (r.drop n) = patsF t r at hA
  obtain ⟨hn, hq2⟩ := hA
  refine Zb (Zd (Zc (Zj1 rfl rfl rfl (Za (Zi (Zb ?_))))))
  refine Zn1 rfl (λ h57 => ?_) (λ h57 => ?_)
  .
   obtain ⟨p, hp⟩ := get_of_lt r n h57
   refine Zi1 (Zi (Zb (Zs (Zb (Zd ?_)))))
   refine Zc (Zz (el := patX p) VT.sl24 rfl rfl (by omega) (get_patS hp) (λ a58 => ?_))
   refine Zc (Za2 VT.ty75 rfl rfl ?_)
   refine Zc (Zb2 VT.zr75 _ rfl rfl (λ g13 => ?_))
   refine Zc (Zx 0 VT.ty75 rfl rfl rfl rfl rfl (Za (Zi (Zb (Zd (Zc (Zv 1 VT.ty83 rfl rfl rfl (Zc (Zv 0 VT.ty75 rfl rfl rfl ?_)))))))))
   refine Zc (V_callK 2 [.tmp 60, .tmp 61] rfl rfl VT.en43 rfl (pattern_c ds t g _ p (Nat.lt_succ_self _)) ?_)
   refine Zc (Zk rfl (Za (Zi (Zb (Zd (Zc (Zl rfl (Zc (Zj1 rfl rfl rfl (Za (Zi ?_)))))))))))
   refine Zm1 rfl (λ h64 => ?_) (λ h64 => ?_)
   .
    have h1 : patsF t r = patF t p := by rw [<- hq2, drop_cons hp, patsF, if_pos h64]
    have h2 : errRows t rows = patF t p := by rw [<- hq, drop_cons hr, errRows, h1, if_pos h64]
    have he : checkF ds rows = patF t p := by simp [checkF, hs, hb, checkT, hall, h2, h64]
    refine Zb (Zd ?_)
    refine Zc (Zf2 [] [] VT.st83 rfl rfl rfl rfl ?_)
    refine Zc (Zl rfl (Zc (Zx 3 VT.ty83 rfl rfl rfl rfl rfl (Zc (Zk rfl (Za (Zi (Zf1 ?_))))))))
    refine Za1 (Zd1 (Zd1 (Za1 (Za1 (Zd1 (Zd1 (Za1 (Zd1 (Zh1 rfl rfl (.cons (.agg (i := 3) VT.ty83 rfl rfl rfl) (.cons (.tmp rfl) (.nil))) ?_)))))))))
    exact ⟨_, Drops.nil _, .inr ⟨by rw [he]; exact h64, by rw [he]; rfl, rfl⟩⟩
   refine Zi1 (Zb1 (Zi (Zd ?_)))
   refine Zc (Zh2 rfl rfl (by omega) ?_)
   refine Zc (Zl rfl (Za (Zi ?_)))
   exact ⟨n + 1, (by (try simp only []); omega), ⟨by omega, by rw [<- hq2, drop_cons hp, patsF, if_neg (by simpa using h64)]⟩, ⟨rfl, rfl, rfl, rfl, rfl, rfl, rfl, rfl, rfl, trivial⟩, (Dd (Dk (Dk (Dk (Zt2 _)))))⟩
  have hne : n = r.length := by omega
  subst hne
  rw [Yb, patsF] at hq2
  replace hq2 := hq2.symm
  refine Zt (Ze1 (Ze1 (Zc1 (Zb1 (Zi (Zd ?_))))))
  refine Zc (Zh2 rfl rfl (by omega) ?_)
  refine Zc (Zl rfl (Za (Zi ?_)))
  exact ⟨k + 1, (by (try simp only []); omega), ⟨by omega, by rw [<- hq, drop_cons hr, errRows, if_neg (by simpa using hq2)]⟩, ⟨rfl, rfl, rfl, rfl, rfl, rfl, trivial⟩, (Dk (Dk (Dk (Zt2 _))))⟩
 have hke : k = rows.length := by omega
 subst hke
 rw [Yb, errRows] at hq
 replace hq := hq.symm
 refine Zt (Ze1 (Ze1 (Zc1 (Zi (Zb (Zb (Zd (Zc (Zk rfl (Za (Zi (Zs ?_))))))))))))
 refine Zi2 (ι := Nat) (λ n => width rows - n) (λ n => [(1, some (rowsX rows)), (4, some (.ptr g4 0)), (6, some (.ptr g6 0)), (15, some (.int n))]) (λ n => [.cells g6 83 [datasX ds, .raw (.map (some g))], tabO g t, .cells g4 83 VT.zs83]) (λ n => n <= width rows /\ colsLoop t rows n (width rows - n) = colsLoop t rows 0 (width rows)) 0 ⟨Yg _, rfl⟩ ⟨rfl, rfl, rfl, rfl, trivial⟩ (Dk (Dk (Dk (Zt2 _)))) ?_
 rintro n hA
 change n <= width rows /\ colsLoop t rows n (width rows - n) = colsLoop t rows 0 (width rows) at hA
 obtain ⟨hn, hcl⟩ := hA
 refine Zb (Zb (Zd (Zc (Zl rfl ?_))))
 refine Zc (Zd2 (n := rows.length) Tryz.underlying23 rfl (by simp) (λ hl70 => ?_))
 refine Zc (Zj1 rfl rfl rfl (Zc (Zl rfl ?_)))
 refine Zj2 (q := 72) rfl (λ hq72 => ?_) (λ hq72 => ?_)
 .
  obtain ⟨r0, rs, hr0⟩ : ∃ r0 rs, rows = r0 :: rs := by cases rows with | nil => simp at hq72 | cons a b => exact ⟨a, b, rfl⟩
  have hw : width rows = r0.length := by rw [hr0]; rfl
  have hrne : rows ≠ [] := by rw [hr0]; simp
  have hr016 := hsm.cols r0 (by rw [hr0]; exact List.mem_cons_self ..)
  refine Zc (Zl rfl ?_) (Zy1 hq72)
  refine Zc (Zl rfl ?_) (Zy1 hq72)
  refine Zc (Zz (el := patsX r0) VT.sl23 rfl rfl (by omega) (by rw [hr0]; rfl) (λ a75 => ?_)) (Zy1 hq72)
  refine Zc (Zz1 VT.ty24 rfl rfl ?_) (Zy1 hq72)
  refine Zc (Zd2 (n := r0.length) Tryz.underlying24 rfl (by simp) (λ hl77 => ?_)) (Zy1 hq72)
  refine Zc (Zj1 rfl rfl rfl ?_) (Zy1 hq72)
  refine Zc (Zs1 rfl hq72 rfl ?_)
  refine Za (Zi ?_)
  refine Zn1 rfl (λ h79 => ?_) (λ h79 => ?_)
  .
   have hap := agreePre_col hsm hall hq (n := n) hrne (by omega)
   refine Zi1 (Zi (Zb (Zs (Zb (Zd (Zc (V_assign_nil 75 4 (Za (Zi (Zb (Zb (Zd (Zc (Zl rfl ?_))))))))))))))
   refine Zc (Zd2 (n := rows.length) Tryz.underlying23 rfl (by simp) (λ hl83 => ?_))
   refine Zc (Zl rfl (Za (Zi (Zs ?_))))
   refine Zi2 (ι := Nat × Tok) (λ (i, tk) => rows.length - i) (λ (i, tk) => [(1, some (rowsX rows)), (4, some (.ptr g4 0)), (6, some (.ptr g6 0)), (15, some (.int n)), (16, some (.sl 4 (some tk) ((colF (rows.take i) n).map patV))), (82, some (rowsX rows)), (83, some (.int rows.length)), (84, some (.int i))]) (λ (i, tk) => [.buf tk 75 4 (colF (rows.take i) n).length, .cells g6 83 [datasX ds, .raw (.map (some g))], tabO g t, .cells g4 83 VT.zs83]) (λ (i, tk) => i <= rows.length) (0, .nil) (by simp) ⟨rfl, rfl, rfl, rfl, rfl, rfl, rfl, rfl, trivial⟩ (Drops.buf rfl (Dk (Dk (Dk (Zt2 _))))) ?_
   rintro ⟨i, tk⟩ hi
   change i <= rows.length at hi
   refine Zb (Zd (Zc (Zj1 rfl rfl rfl (Za (Zi (Zb ?_))))))
   refine Zn1 rfl (λ h85 => ?_) (λ h85 => ?_)
   .
    obtain ⟨r, hr⟩ := get_of_lt rows i h85
    have hrl := same_all hall r (Ya hr)
    obtain ⟨p, hp⟩ := get_of_lt r n (by omega)
    have hpg : r.getD n anyP = p := by simp [hp]
    have hrs := hsm.rows
    have hcol : (colF (rows.take i) n).length <= 64 := by simp [colF]; omega
    refine Zi1 (Zi (Zb (Zs (Zb (Zd ?_)))))
    refine Zc (Zz (el := patsX r) VT.sl23 rfl rfl (by omega) (get_mapS _ hr) (λ a86 => ?_))
    refine Zc (Zz1 VT.ty24 rfl rfl (Zc (Zk rfl (Za (Zi (Zd (Zc (Zl rfl (Zc (Zl rfl (Zc (Zl rfl ?_))))))))))))
    refine Zc (Zz (el := patX p) VT.sl24 rfl rfl (by omega) (get_patS hp) (λ a91 => ?_))
    refine Zc (Za2 VT.ty75 rfl rfl ?_)
    refine Zc (Zk3 [.tmp 92] VT.sl24 rfl rfl rfl rfl rfl ?_)
    refine Zc (Zi3 0 _ VT.sl24 rfl rfl rfl (by simp) (by simp; omega) (λ t94 => ?_))
    refine Zc (Zk rfl (Za (Zb1 (Zi (Zd ?_)))))
    refine Zc (Zh2 rfl rfl (by omega) ?_)
    refine Zc (Zl rfl (Za (Zi ?_)))
    exact ⟨(i + 1, t94), (by (try simp only []); omega), (by omega), ⟨rfl, rfl, rfl, rfl, (by rw [take_snoc hr, col_snoc, hpg, Ye, List.map_cons, patV_eq p]; rfl), rfl, rfl, rfl, trivial⟩, (Drops.buf (by rw [take_snoc hr, col_snoc]; simp) (Dk (Dk (Dk (Zt2 _)))))⟩
   have hte := take_end h85
   refine Zt (Ze1 (Ze1 (Zc1 (Zi (Zb (Zd (Zc (Zv 1 VT.ty83 rfl rfl rfl ?_))))))))
   refine Zc (Zu2 (Zl rfl ⟨rfl, rfl⟩) (V.le.strip) ?_)
   refine Zc (V_callK 2 [.tmp 96, .tmp 97] rfl rfl VT.en44 rfl ((by rw [hte]; exact agree_c ds t g 401 _ hap : VKeep Tryz.prog 44 [tabX ds g, patsX (colF (rows.take i) n)] [tabO g t] (.bool (agreeF t 401 (colF rows n))))) ?_)
   refine Zc (Zl2 rfl (Za (Zi ?_)))
   refine Zo1 rfl (λ h99 => ?_) (λ h99 => ?_)
   .
    have hcc : colsLoop t rows 0 (width rows) = false := by rw [<- hcl, show width rows - n = (width rows - (n + 1)) + 1 by omega, colsLoop, h99]; rfl
    have he : checkF ds rows = 10 := by simp [checkF, hs, hb, checkT, hall, hq, hcc]
    refine Zb (Zd ?_)
    refine Zc (Zf2 [] [] VT.st83 rfl rfl rfl rfl ?_)
    refine Zc (Zx 3 VT.ty83 rfl rfl rfl rfl rfl (Zc (Zk rfl (Za (Zi (Zf1 ?_))))))
    refine Za1 (Zd1 (Zd1 (Za1 (Zd1 (Zh1 rfl rfl (.cons (.agg (i := 3) VT.ty83 rfl rfl rfl) (.cons (.tmp rfl) (.nil))) ?_)))))
    exact ⟨_, Drops.nil _, .inr ⟨by rw [he]; omega, by rw [he]; rfl, rfl⟩⟩
   refine Zi1 (Zb1 (Zi (Zd (Zc (Zl rfl ?_)))))
   refine Zc (Zh2 rfl rfl (by omega) ?_)
   refine Zc (Zk rfl (Za (Zi ?_)))
   exact ⟨n + 1, (by (try simp only []); omega), ⟨by omega, by rw [<- hcl, show width rows - n = (width rows - (n + 1)) + 1 by omega, colsLoop, h99]; rfl⟩, ⟨rfl, rfl, rfl, rfl, trivial⟩, (Dd (Dk (Dk (Dk (Zt2 _)))))⟩
  have hcc : colsLoop t rows 0 (width rows) = true := by rw [<- hcl, show width rows - n = 0 by omega]; rfl
  refine Zt (Ze1 (Ze1 (Zc1 (Zi (Zb (Zd (Zc (Zv 0 VT.ty83 rfl rfl rfl (Zc (Zx 2 VT.ty83 rfl rfl rfl rfl rfl (Zc (Zk rfl (Za (Zi (Zf1 ?_)))))))))))))))
  refine Zh1 rfl rfl (.cons (.agg (i := 2) VT.ty83 rfl rfl rfl) (.cons (.tmp rfl) (.nil))) ?_
  have he : checkF ds rows = 0 := by simp [checkF, hs, hb, checkT, hall, hq, hcc]
  exact ⟨_, Dd (Dk (Drops.nil _)), .inl ⟨he, g, t, rfl, rfl, rfl⟩⟩
 have hre : rows = [] := by cases rows with | nil => rfl | cons a b => simp at hq72
 have hcc : colsLoop t rows 0 (width rows) = true := by rw [hre]; rfl
 refine Zk1 hq72 ?_
 refine Zk1 hq72 ?_
 refine Zk1 hq72 ?_
 refine Zk1 hq72 ?_
 refine Zk1 hq72 ?_
 refine Zk1 hq72 ?_
 refine Zc (Zt1 rfl hq72 rfl ?_)
 refine Za (Zi ?_)
 refine Zq1 rfl rfl ?_
 refine Zt (Ze1 (Ze1 (Zc1 (Zi (Zb (Zd (Zc (Zv 0 VT.ty83 rfl rfl rfl (Zc (Zx 2 VT.ty83 rfl rfl rfl rfl rfl (Zc (Zk rfl (Za (Zi (Zf1 ?_)))))))))))))))
 refine Zh1 rfl rfl (.cons (.agg (i := 2) VT.ty83 rfl rfl rfl) (.cons (.tmp rfl) (.nil))) ?_
 have he : checkF ds rows = 0 := by simp [checkF, hs, hb, checkT, hall, hq, hcc]
 exact ⟨_, Dd (Dk (Drops.nil _)), .inl ⟨he, g, t, rfl, rfl, rfl⟩⟩
end Go.Proofs.YtpkbgamoboojaaaGreat.W8
end
