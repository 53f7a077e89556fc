import Derived.Test.YtpkbgamoboojaaaGreatVT
import Derived.Test.YtpkbgamoboojaaaGreatDZ
import Derived.Test.YtpkbgamoboojaaaGreatVZ
set_option maxRecDepth 100000
open Go.VL.Drops renaming keep → Dk, drop → Dd
set_option linter.all false
open List renaming mem_of_getElem? → Ya, drop_length → Yb, take_length → Yc, length_append → Yd, filterMap_append → Ye, length_filterMap_le → Yf, exists_cons_of_ne_nil → Yg, length_map → Yh
open Nat renaming zero_le → Yi
section
namespace Go.Proofs.YtpkbgamoboojaaaGreat.W1
open Go.VL Go.PM Go.Proofs.YtpkbgamoboojaaaGreat
theorem first_snoc (l : List (List Pat)) (p : Pat) (tl : List Pat) : first (l ++ [p :: tl]) = first l ++ (if free p then [] else [p]) := by
 unfold first
 rw [Ye]
 by_cases hf : free p = true <;> simp [hf]
theorem first_len (rows : List (List Pat)) : (first rows).length <= rows.length := Yf _ _
def SizeSpec (n : Nat) : Prop := ∀ (l : List Pat) (deep many : Int) (g : Nat) (T : TypeId), deep = 21 - (n : Int) -> n <= 21 -> 0 <= many -> many <= 400 -> VCalls Tryz.prog 73 [patsX l, .int deep, .ptr g 0] [.cells g T [.int many]] λ r S' => r = .bool (sizeF n l many).1 /\ S' = [.cells g T [.int (sizeF n l many).2]]
theorem free_c (p : Pat) : VPure Tryz.prog 40 [patX p] (.bool (free p)) := by
 refine V_start (nt := 11) Tryz.func40 rfl rfl rfl ?_
 refine Zb (Zd ?_)
 refine Zc (Zc2 rfl rfl (λ g1 => ?_))
 refine Zc (Zk rfl (Za (Zi (Zb (Zd (Zc (Zj VT.fa75_0 rfl (Zc (Zu 0 VT.ty3 rfl rfl rfl (Zc (Zj1 rfl rfl rfl (Zc (Zl rfl ?_)))))))))))))
 refine Zj2 (q := 6) rfl (λ hq6 => ?_) (λ hq6 => ?_)
 .
  refine Zk0 hq6 ?_
  refine Zk0 hq6 ?_
  refine Zk0 hq6 ?_
  refine Zc (Zs1 rfl hq6 rfl ?_)
  refine Zc (Zk rfl (Za (Zi (Zf1 ?_))))
  refine Zg1 rfl (.tmp rfl) ?_
  have hk := hq6
  simp at hk
  simp [free, hk]
 refine Zc (Zj VT.fa75_0 rfl ?_) (Zy0 hq6)
 refine Zc (Zu 0 VT.ty3 rfl rfl rfl ?_) (Zy0 hq6)
 refine Zc (Zj1 rfl rfl rfl ?_) (Zy0 hq6)
 refine Zc (Zt1 rfl hq6 rfl ?_)
 refine Zc (Zk rfl (Za (Zi (Zf1 ?_))))
 refine Zg1 rfl (.tmp rfl) ?_
 have hk := hq6
 simp at hk
 simp [free, hk]
theorem first_c (rows : List (List Pat)) (hne : ∀ r ∈ rows, r ≠ []) (hl : rows.length <= 1000000) : VPure Tryz.prog 45 [rowsX rows] (patsX (first rows)) := by
 refine V_start (nt := 25) Tryz.func45 rfl rfl rfl ?_
 refine Zb (Zd (Zc (Zk rfl (Za (Zi (Zb (Zd (Zc (V_assign_nil 75 4 (Za (Zi (Zb (Zb (Zd (Zc (Zl rfl ?_))))))))))))))))
 refine Zc (Zd2 (n := rows.length) Tryz.underlying23 rfl (by simp) (λ hl7 => ?_))
 refine Zc (Zl rfl (Za (Zi (Zs ?_))))
 refine Zi2 (ι := Nat × Tok) (λ (k, t) => rows.length - k) (λ (k, t) => [(3, some (.sl 4 (some t) ((first (rows.take k)).map patV))), (6, some (rowsX rows)), (7, some (.int rows.length)), (8, some (.int k))]) (λ (k, t) => [.buf t 75 4 (first (rows.take k)).length]) (λ (k, t) => k <= rows.length) (0, .nil) (by simp) ⟨(by simp [first]; rfl), rfl, rfl, rfl, trivial⟩ (Drops.buf (by simp [first]) (Zt2 _)) ?_
 rintro ⟨k, t⟩ hk
 change k <= rows.length at hk
 refine Zb (Zd (Zc (Zj1 rfl rfl rfl (Za (Zi (Zb ?_))))))
 refine Zn1 rfl (λ h9 => ?_) (λ h9 => ?_)
 .
  obtain ⟨r, hr⟩ := get_of_lt rows k h9
  obtain ⟨p, tl, rfl⟩ := Yg (hne _ (Ya hr))
  refine Zi1 (Zi (Zb (Zs (Zb (Zd ?_)))))
  refine Zc (Zz (el := patsX (p :: tl)) VT.sl23 rfl rfl (by omega) (get_mapS _ hr) (λ a10 => ?_))
  refine Zc (Zz1 VT.ty24 rfl rfl (Zc (Zk rfl (Za (Zi (Zb (Zd (Zc (Zl rfl ?_)))))))))
  refine Zc (Zz (el := patX p) VT.sl24 rfl rfl (by omega) (get_patS rfl) (λ a13 => ?_))
  refine Zc (Za2 VT.ty75 rfl rfl ?_)
  refine Zc (Zx1 [.tmp 14] rfl rfl VT.en40 (free_c _) ?_)
  refine Zc (Zl2 rfl (Za (Zi ?_)))
  refine Zo1 rfl (λ h16 => ?_) (λ h16 => ?_)
  .
   refine Zd (Zc (Zl rfl (Zc (Zl rfl ?_))))
   refine Zc (Zz (el := patX p) VT.sl24 rfl rfl (by omega) (get_patS rfl) (λ a19 => ?_))
   refine Zc (Za2 VT.ty75 rfl rfl ?_)
   refine Zc (Zk3 [.tmp 20] VT.sl24 rfl rfl rfl rfl rfl ?_)
   refine Zc (Zi3 0 _ VT.sl24 rfl rfl rfl (by simp) (by have := first_len (rows.take k); simp at this ⊢; omega) (λ t22 => ?_))
   refine Zc (Zk rfl (Za (Zb1 (Zi (Zd ?_)))))
   refine Zc (Zh2 rfl rfl (by omega) ?_)
   refine Zc (Zl rfl (Za (Zi ?_)))
   exact ⟨(k + 1, t22), (by (try simp only []); omega), (by omega), ⟨(by rw [take_snoc hr, first_snoc]; simp [h16, patV_eq]; rfl), rfl, rfl, rfl, trivial⟩, (Drops.buf (by rw [take_snoc hr, first_snoc]; simp [h16]) (Zt2 _))⟩
  refine Zi1 (Zb1 (Zi (Zd ?_)))
  refine Zc (Zh2 rfl rfl (by omega) ?_)
  refine Zc (Zl rfl (Za (Zi ?_)))
  exact ⟨(k + 1, t), (by (try simp only []); omega), (by omega), ⟨(by rw [take_snoc hr, first_snoc]; simp [h16, patV_eq]; rfl), rfl, rfl, rfl, trivial⟩, (Drops.buf (by rw [take_snoc hr, first_snoc]; simp [h16]) (Zt2 _))⟩
 refine Zt (Ze1 (Ze1 (Zc1 (Zi (Zb (Zd (Zc (Zl rfl (Zc (Zk rfl (Za (Zi (Zf1 ?_)))))))))))))
 refine Zg1 rfl (.strip rfl) ?_
 rw [take_end h9]
theorem size_step (n : Nat) (ih : ∀ k, k < n -> SizeSpec k) : SizeSpec n := by
 intro l deep many g T hd hn h0 h4
 refine VCalls_drops ?_
 refine V_start (nt := 39) Tryz.func73 rfl rfl rfl ?_
 refine Zb (Zd (Zc (Zk rfl (Za (Zi (Zb (Zb (Zd (Zc (Zl rfl (Zc (Zj1 rfl rfl rfl (Za (Zi ?_))))))))))))))
 refine Zn1 rfl (λ h10 => ?_) (λ h10 => ?_)
 .
  have hn0 : n = 0 := by omega
  subst hn0
  refine Zb (Zd (Zc (Zl rfl ?_)))
  refine Zc (Zd2 (n := l.length) Tryz.underlying24 rfl (by simp) (λ hl12 => ?_))
  refine Zc (Zj1 rfl rfl rfl (Zc (Zk rfl (Za (Zi (Zf1 ?_))))))
  refine Zd1 (Zg1 rfl (.tmp rfl) ?_)
  exact ⟨_, Zt2 _, by simp [sizeF, natbeq], by simp [sizeF]⟩
 obtain ⟨n, rfl⟩ : ∃ q, n = q + 1 := ⟨n - 1, by omega⟩
 refine Zi1 (Zi (Zb (Zb (Zd (Zc (Zl rfl ?_))))))
 refine Zc (Zd2 (n := l.length) Tryz.underlying24 rfl (by simp) (λ hl15 => ?_))
 refine Zc (Zl rfl (Za (Zi (Zs ?_))))
 refine Zi2 (ι := Nat × Int) (λ (k, q) => l.length - k) (λ (k, q) => [(1, some (.int deep)), (2, some (.ptr g 0)), (14, some (patsX l)), (15, some (.int l.length)), (16, some (.int k))]) (λ (k, q) => [.cells g T [.int q]]) (λ (k, q) => k <= l.length /\ 0 <= q /\ q <= 400 /\ sizeLoop (sizeF n) (l.drop k) q = sizeF (n + 1) l many) (0, many) ⟨Yi _, h0, h4, rfl⟩ ⟨rfl, rfl, rfl, rfl, rfl, trivial⟩ (Zt2 _) ?_
 rintro ⟨k, q⟩ hA
 change k <= l.length /\ 0 <= q /\ q <= 400 /\ sizeLoop (sizeF n) (l.drop k) q = sizeF (n + 1) l many at hA
 obtain ⟨hk, q0, q4, hq⟩ := hA
 refine Zb (Zd (Zc (Zj1 rfl rfl rfl (Za (Zi (Zb ?_))))))
 refine Zn1 rfl (λ h17 => ?_) (λ h17 => ?_)
 .
  obtain ⟨p, hr⟩ := get_of_lt l k h17
  refine Zi1 (Zi (Zb (Zs (Zb (Zd ?_)))))
  refine Zc (Zz (el := patX p) VT.sl24 rfl rfl (by omega) (get_patS hr) (λ a18 => ?_))
  refine Zc (Za2 VT.ty75 rfl rfl ?_)
  refine Zc (Zb2 VT.zr75 _ rfl rfl (λ g8 => ?_))
  refine Zc (Zx 0 VT.ty75 rfl rfl rfl rfl rfl (Za (Zi (Zb (Zd (Zc (Zl rfl (Zc (Zv1 rfl (Zc (Zu 1 VT.ty3 rfl rfl rfl ?_)))))))))))
  refine Zc (Zh2 rfl rfl (by omega) ?_)
  refine Zc (Zv1 rfl (Zc (Zy 1 VT.ty3 rfl rfl rfl rfl rfl (Za (Zi (Zb (Zd (Zc (Zl rfl (Zc (Zv1 rfl (Zc (Zu 1 VT.ty3 rfl rfl rfl (Zc (Zj1 rfl rfl rfl (Zc (Zl rfl ?_)))))))))))))))))
  refine Zj2 (q := 29) rfl (λ hq29 => ?_) (λ hq29 => ?_)
  .
   have hm : q + 1 > 400 := by simpa using hq29
   refine Zk0 hq29 ?_
   refine Zk0 hq29 ?_
   refine Zk0 hq29 ?_
   refine Zk0 hq29 ?_
   refine Zk0 hq29 ?_
   refine Zk0 hq29 ?_
   refine Zk0 hq29 ?_
   refine Zc (Zs1 rfl hq29 rfl ?_)
   refine Za (Zi ?_)
   refine Zp1 rfl rfl ?_
   refine Zb (Zd (Zc (Zk rfl (Za (Zi (Zf1 ?_))))))
   refine Za1 (Zd1 (Zd1 (Za1 (Zd1 (Zg1 rfl (.tmp rfl) ?_)))))
   refine ⟨_, Dd (Zt2 _), ?_, ?_⟩ <;> rw [<- hq, drop_cons hr] <;> simp [sizeLoop, hm] <;> rfl
  have hm : ¬ q + 1 > 400 := by simpa using hq29
  have hs := sizeF_le n p.args (q + 1) (by omega) (by omega)
  refine Zc (Zj VT.fa75_3 rfl ?_) (Zy0 hq29)
  refine Zc (Zu 0 VT.ty24 rfl rfl rfl ?_) (Zy0 hq29)
  refine Zc (Zl rfl ?_) (Zy0 hq29)
  refine Zc (Zh2 rfl rfl (by omega) ?_) (Zy0 hq29)
  refine Zc (Zl rfl ?_) (Zy0 hq29)
  refine Zc (Zm3 [.tmp 31, .tmp 33, .tmp 34] [_] _ rfl rfl VT.en73 (Zv2 (i := 1) rfl) (ih n (by omega) p.args (deep + 1) (q + 1) g T (by omega) (by omega) (by omega) (by omega)) ?_) (Zy0 hq29)
  rintro r Sa ⟨rfl, rfl⟩
  refine Zc (Zl2 rfl ?_) (Zy0 hq29)
  refine Zc (Zt1 rfl hq29 rfl ?_)
  refine Za (Zi ?_)
  refine Zo1 rfl (λ h37 => ?_) (λ h37 => ?_)
  .
   refine Zb (Zd (Zc (Zk rfl (Za (Zi (Zf1 ?_))))))
   refine Za1 (Zd1 (Zd1 (Za1 (Zd1 (Zg1 rfl (.tmp rfl) ?_)))))
   refine ⟨_, Drops.swap (Dd (Zt2 _)), ?_, ?_⟩ <;> rw [<- hq, drop_cons hr] <;> simp [sizeLoop, hm, h37]
  refine Zi1 (Zb1 (Zi (Zd ?_)))
  refine Zc (Zh2 rfl rfl (by omega) ?_)
  refine Zc (Zl rfl (Za (Zi ?_)))
  have hs2 : 0 <= (sizeF n p.args (q + 1)).2 /\ (sizeF n p.args (q + 1)).2 <= 400 /\ sizeLoop (sizeF n) (l.drop (k + 1)) (sizeF n p.args (q + 1)).2 = sizeF (n + 1) l many := ⟨by omega, hs.2 h37, by rw [<- hq, drop_cons hr]; simp [sizeLoop, hm, h37]⟩
  exact ⟨(k + 1, (sizeF n p.args (q + 1)).2), (by (try simp only []); omega), ⟨by omega, hs2⟩, ⟨rfl, rfl, rfl, rfl, rfl, trivial⟩, (Dk (Dd (Zt2 _)))⟩
 have hke : k = l.length := by omega
 subst hke
 rw [Yb] at hq
 refine Zt (Ze1 (Ze1 (Zc1 (Zi (Zb (Zd (Zc (Zk rfl (Za (Zi (Zf1 ?_)))))))))))
 refine Zg1 rfl (.tmp rfl) ?_
 refine ⟨_, Zt2 _, ?_, ?_⟩ <;> rw [<- hq] <;> simp [sizeLoop]
theorem size_c (n : Nat) : SizeSpec n := by
 induction n using Nat.strongRecOn with
 | _ n ih => exact size_step n ih
theorem dataIdx_c {l : List DataSig} {tok : Option Tok} {p : DataSig -> Bool} {c : FuncId} {caps : List V} (hen : Enters Tryz.prog c) (hp : ∀ x ∈ l, VPure Tryz.prog c (dataV x :: caps) (.bool (p x))) : VPure Tryz.prog 96 [.sl 3 tok (l.map dataV), .clo (.func c) caps] (.int (idxOf p l)) := by
 refine V_start (nt := 19) Tryz.func96 rfl rfl rfl ?_
 refine Zb (Zd (Zc (Zk rfl (Za (Zi (Zb (Zb (Zd (Zc (Zl rfl ?_))))))))))
 refine Zc (Zd2 (n := l.length) Tryz.underlying22 rfl (by simp) (λ hl7 => ?_))
 refine Zc (Zl rfl (Za (Zi (Zs ?_))))
 refine Zi2 (ι := Nat) (λ k => l.length - k) (λ k => [(0, some (.sl 3 tok (l.map dataV))), (1, some (.clo (.func c) caps)), (7, some (.int l.length)), (8, some (.int k))]) (λ k => []) (λ k => k <= l.length /\ (l.take k).any p = false) 0 ⟨Yi _, rfl⟩ ⟨rfl, rfl, rfl, rfl, trivial⟩ (Zt2 _) ?_
 rintro k hA
 change k <= l.length /\ (l.take k).any p = false at hA
 obtain ⟨hk, hany⟩ := hA
 refine Zb (Zd (Zc (Zj1 rfl rfl rfl (Za (Zi (Zb ?_))))))
 refine Zn1 rfl (λ h9 => ?_) (λ h9 => ?_)
 .
  obtain ⟨x, hr⟩ := get_of_lt l k h9
  refine Zi1 (Zi (Zb (Zs (Zb (Zd (Zc (Zl rfl (Zc (Zk rfl (Za (Zi (Zb (Zd (Zc (Zl rfl (Zc (Zl rfl (Zc (Zl rfl ?_)))))))))))))))))))
  refine Zc (Zz (el := dataV x) VT.sl22 rfl rfl (by omega) (get_mapS _ hr) (λ a14 => ?_))
  refine Zc (Za2 VT.ty92 rfl rfl ?_)
  refine Zc (V_callCloP [.tmp 15] rfl rfl rfl hen (hp x (Ya hr)) ?_)
  refine Za (Zi ?_)
  refine Zr1 rfl (λ h16 => ?_) (λ h16 => ?_)
  .
   refine Zb (Zd (Zc (Zl rfl (Zc (Zk rfl (Za (Zi (Zf1 ?_))))))))
   refine Za1 (Zd1 (Zd1 (Za1 (Zd1 (Zg1 rfl (.tmp rfl) ?_)))))
   rw [idxOf_at p hr hany h16]
  refine Zi1 (Zb1 (Zi (Zd ?_)))
  refine Zc (Zh2 rfl rfl (by omega) ?_)
  refine Zc (Zl rfl (Za (Zi ?_)))
  exact ⟨k + 1, (by (try simp only []); omega), ⟨by omega, any_snoc hr hany h16⟩, ⟨rfl, rfl, rfl, rfl, trivial⟩, (Drops.nil _)⟩
 refine Zt (Ze1 (Ze1 (Zc1 (Zi (Zb (Zd (Zc (Zk rfl (Za (Zi (Zf1 ?_)))))))))))
 refine Zg1 rfl (.tmp rfl) ?_
 have hke : k = l.length := by omega
 subst hke
 rw [Yc] at hany
 rw [idxOf_none p hany]
theorem dataAny_c {l : List DataSig} {tok : Option Tok} {p : DataSig -> Bool} {c : FuncId} {caps : List V} (hen : Enters Tryz.prog c) (hp : ∀ x ∈ l, VPure Tryz.prog c (dataV x :: caps) (.bool (p x))) : VPure Tryz.prog 74 [.sl 3 tok (l.map dataV), .clo (.func c) caps] (.bool (l.any p)) := by
 refine V_start (nt := 9) Tryz.func74 rfl rfl rfl ?_
 refine Zb (Zd (Zc (Zk rfl (Za (Zi (Zb (Zd (Zc (Zl rfl (Zc (Zl rfl ?_)))))))))))
 refine Zc (Zx1 [.tmp 5, .tmp 6] rfl rfl VT.en96 (dataIdx_c hen hp) ?_)
 refine Zc (Zj1 rfl rfl rfl (Zc (Zk rfl (Za (Zi (Zf1 ?_))))))
 refine Zg1 rfl (.tmp rfl) ?_
 rw [idxOf_ge]
theorem patIdx_c {l : List Pat} {tok : Option Tok} {p : Pat -> Bool} {c : FuncId} {caps : List V} (hen : Enters Tryz.prog c) (hp : ∀ x ∈ l, VPure Tryz.prog c (patX x :: caps) (.bool (p x))) : VPure Tryz.prog 29 [.sl 4 tok (l.map patV), .clo (.func c) caps] (.int (idxOf p l)) := by
 refine V_start (nt := 19) Tryz.func29 rfl rfl rfl ?_
 refine Zb (Zd (Zc (Zk rfl (Za (Zi (Zb (Zb (Zd (Zc (Zl rfl ?_))))))))))
 refine Zc (Zd2 (n := l.length) Tryz.underlying24 rfl (by simp) (λ hl7 => ?_))
 refine Zc (Zl rfl (Za (Zi (Zs ?_))))
 refine Zi2 (ι := Nat) (λ k => l.length - k) (λ k => [(0, some (.sl 4 tok (l.map patV))), (1, some (.clo (.func c) caps)), (7, some (.int l.length)), (8, some (.int k))]) (λ k => []) (λ k => k <= l.length /\ (l.take k).any p = false) 0 ⟨Yi _, rfl⟩ ⟨rfl, rfl, rfl, rfl, trivial⟩ (Zt2 _) ?_
 rintro k hA
 change k <= l.length /\ (l.take k).any p = false at hA
 obtain ⟨hk, hany⟩ := hA
 refine Zb (Zd (Zc (Zj1 rfl rfl rfl (Za (Zi (Zb ?_))))))
 refine Zn1 rfl (λ h9 => ?_) (λ h9 => ?_)
 .
  obtain ⟨x, hr⟩ := get_of_lt l k h9
  refine Zi1 (Zi (Zb (Zs (Zb (Zd (Zc (Zl rfl (Zc (Zk rfl (Za (Zi (Zb (Zd (Zc (Zl rfl (Zc (Zl rfl (Zc (Zl rfl ?_)))))))))))))))))))
  refine Zc (Zz (el := patX x) VT.sl24 rfl rfl (by omega) (get_patS hr) (λ a14 => ?_))
  refine Zc (Za2 VT.ty75 rfl rfl ?_)
  refine Zc (V_callCloP [.tmp 15] rfl rfl rfl hen (hp x (Ya hr)) ?_)
  refine Za (Zi ?_)
  refine Zr1 rfl (λ h16 => ?_) (λ h16 => ?_)
  .
   refine Zb (Zd (Zc (Zl rfl (Zc (Zk rfl (Za (Zi (Zf1 ?_))))))))
   refine Za1 (Zd1 (Zd1 (Za1 (Zd1 (Zg1 rfl (.tmp rfl) ?_)))))
   rw [idxOf_at p hr hany h16]
  refine Zi1 (Zb1 (Zi (Zd ?_)))
  refine Zc (Zh2 rfl rfl (by omega) ?_)
  refine Zc (Zl rfl (Za (Zi ?_)))
  exact ⟨k + 1, (by (try simp only []); omega), ⟨by omega, any_snoc hr hany h16⟩, ⟨rfl, rfl, rfl, rfl, trivial⟩, (Drops.nil _)⟩
 refine Zt (Ze1 (Ze1 (Zc1 (Zi (Zb (Zd (Zc (Zk rfl (Za (Zi (Zf1 ?_)))))))))))
 refine Zg1 rfl (.tmp rfl) ?_
 have hke : k = l.length := by omega
 subst hke
 rw [Yc] at hany
 rw [idxOf_none p hany]
theorem big_c (d : DataSig) : VPure Tryz.prog 75 [dataV d] (.bool (decide ((d.cons.length : Int) > 256))) := by
 refine V_start (nt := 7) Tryz.func75 rfl rfl rfl ?_
 refine Zb (Zd ?_)
 refine Zc (Zc2 rfl rfl (λ g1 => ?_))
 refine Zc (Zk rfl (Za (Zi (Zb (Zd (Zc (Zj VT.fa92_2 rfl (Zc (Zu 0 VT.ty90 rfl rfl rfl ?_)))))))))
 refine Zc (Zd2 (n := d.cons.length) Tryz.underlying90 rfl (by simp) (λ hl5 => ?_))
 refine Zc (Zj1 rfl rfl rfl (Zc (Zk rfl (Za (Zi (Zf1 ?_))))))
 refine Zg1 rfl (.tmp rfl) ?_
 rfl
theorem small_c (datas : List DataSig) (rows : List (List Pat)) : VPure Tryz.prog 41 [datasX datas, rowsX rows] (.bool (small datas rows)) := by
 refine V_start (nt := 31) Tryz.func41 rfl rfl rfl ?_
 refine Zb (Zd (Zc (Zk rfl (Za (Zi (Zb (Zd ?_)))))))
 refine Zc (Zb2 VT.zr3 _ rfl rfl (λ g5 => ?_))
 refine Zc (Zy 0 VT.ty3 rfl rfl rfl rfl rfl (Za (Zi (Zb (Zb (Zd (Zc (Zl rfl ?_))))))))
 refine Zc (Zd2 (n := rows.length) Tryz.underlying23 rfl (by simp) (λ hl9 => ?_))
 refine Zc (Zl rfl (Za (Zi (Zs ?_))))
 refine Zi2 (ι := Nat × Int) (λ (k, q) => rows.length - k) (λ (k, q) => [(0, some (datasX datas)), (1, some (rowsX rows)), (5, some (.ptr g5 0)), (8, some (rowsX rows)), (9, some (.int rows.length)), (10, some (.int k))]) (λ (k, q) => [.cells g5 3 [.int q]]) (λ (k, q) => k <= rows.length /\ 0 <= q /\ q <= 400 /\ small.smallRows (rows.drop k) q = small.smallRows rows 0) (0, 0) ⟨Yi _, by omega, by omega, rfl⟩ ⟨rfl, rfl, rfl, rfl, rfl, rfl, trivial⟩ (Zt2 _) ?_
 rintro ⟨k, q⟩ hA
 change k <= rows.length /\ 0 <= q /\ q <= 400 /\ small.smallRows (rows.drop k) q = small.smallRows rows 0 at hA
 obtain ⟨hk, q0, q4, hq⟩ := hA
 refine Zb (Zd (Zc (Zj1 rfl rfl rfl (Za (Zi (Zb ?_))))))
 refine Zn1 rfl (λ h11 => ?_) (λ h11 => ?_)
 .
  obtain ⟨r, hr⟩ := get_of_lt rows k h11
  refine Zi1 (Zi (Zb (Zs (Zb (Zd ?_)))))
  refine Zc (Zz (el := patsX r) VT.sl23 rfl rfl (by omega) (get_mapS _ hr) (λ a12 => ?_))
  refine Zc (Zz1 VT.ty24 rfl rfl (Zc (Zk rfl (Za (Zi (Zb (Zd (Zc (Zl rfl ?_)))))))))
  refine Zc (Zd2 (n := r.length) Tryz.underlying24 rfl (by simp) (λ hl15 => ?_))
  refine Zc (Zj1 rfl rfl rfl (Zc (Zl rfl ?_)))
  refine Zj2 (q := 17) rfl (λ hq17 => ?_) (λ hq17 => ?_)
  .
   have hm : r.length > 16 := by simp at hq17; omega
   refine Zk0 hq17 ?_
   refine Zk0 hq17 ?_
   refine Zk0 hq17 ?_
   refine Zc (Zs1 rfl hq17 rfl ?_)
   refine Za (Zi ?_)
   refine Zp1 rfl rfl ?_
   refine Zb (Zd (Zc (Zk rfl (Za (Zi (Zf1 ?_))))))
   refine Za1 (Zd1 (Zd1 (Za1 (Zd1 (Zg1 rfl (.tmp rfl) ?_)))))
   unfold small
   rw [<- hq, drop_cons hr]
   simp [small.smallRows, hm]
  have hm : ¬ r.length > 16 := by simp at hq17; omega
  have hs := sizeF_le 20 r q q0 q4
  refine Zc (Zl rfl ?_) (Zy0 hq17)
  refine Zc (Zm3 [.tmp 18, .const (.int .i64 (1)), .tmp 5] [_] _ rfl rfl VT.en73 (Zv2 (i := 0) rfl) (size_c 20 r 1 q g5 3 (by omega) (by omega) q0 q4) ?_) (Zy0 hq17)
  rintro r0 Sa ⟨rfl, rfl⟩
  refine Zc (Zl2 rfl ?_) (Zy0 hq17)
  refine Zc (Zt1 rfl hq17 rfl ?_)
  refine Za (Zi ?_)
  refine Zo1 rfl (λ h21 => ?_) (λ h21 => ?_)
  .
   refine Zb (Zd (Zc (Zk rfl (Za (Zi (Zf1 ?_))))))
   refine Za1 (Zd1 (Zd1 (Za1 (Zd1 (Zg1 rfl (.tmp rfl) ?_)))))
   unfold small
   rw [<- hq, drop_cons hr]
   simp [small.smallRows, hm, h21]
  refine Zi1 (Zb1 (Zi (Zd ?_)))
  refine Zc (Zh2 rfl rfl (by omega) ?_)
  refine Zc (Zl rfl (Za (Zi ?_)))
  have hs2 : 0 <= (sizeF 20 r q).2 /\ (sizeF 20 r q).2 <= 400 /\ small.smallRows (rows.drop (k + 1)) (sizeF 20 r q).2 = small.smallRows rows 0 := ⟨by omega, hs.2 h21, by rw [<- hq, drop_cons hr]; simp [small.smallRows, hm, h21]⟩
  exact ⟨(k + 1, (sizeF 20 r q).2), (by (try simp only []); omega), ⟨by omega, hs2⟩, ⟨rfl, rfl, rfl, rfl, rfl, rfl, trivial⟩, (Dk (Zt2 _))⟩
 have hke : k = rows.length := by omega
 subst hke
 rw [Yb] at hq
 refine Zt (Ze1 (Ze1 (Zc1 (Zi (Zb (Zd (Zc (Zl rfl ?_))))))))
 refine Zc (Zd2 (n := rows.length) Tryz.underlying23 rfl (by simp) (λ hl24 => ?_))
 refine Zc (Zj1 rfl rfl rfl (Zc (Zl rfl ?_)))
 refine Zj2 (q := 26) rfl (λ hq26 => ?_) (λ hq26 => ?_)
 .
  have hm : rows.length <= 64 := by simp at hq26; omega
  refine Zc (Zl rfl ?_) (Zy1 hq26)
  refine Zc (Zx1 [.tmp 27, .func 75] rfl rfl VT.en74 (dataAny_c (p := λ d => decide ((d.cons.length : Int) > 256)) (caps := []) VT.en75 (λ d _ => big_c d)) ?_) (Zy1 hq26)
  refine Zc (Zl2 rfl ?_) (Zy1 hq26)
  refine Zc (Zs1 rfl hq26 rfl ?_)
  refine Zc (Zk rfl (Za (Zi (Zf1 ?_))))
  refine Zg1 rfl (.tmp rfl) ?_
  unfold small
  rw [<- hq]
  simp [small.smallRows, hm]
 have hm : ¬ rows.length <= 64 := by simp at hq26; omega
 refine Zk1 hq26 ?_
 refine Zk1 hq26 ?_
 refine Zk1 hq26 ?_
 refine Zc (Zt1 rfl hq26 rfl ?_)
 refine Zc (Zk rfl (Za (Zi (Zf1 ?_))))
 refine Zg1 rfl (.tmp rfl) ?_
 unfold small
 rw [<- hq]
 simp [small.smallRows, hm]
end Go.Proofs.YtpkbgamoboojaaaGreat.W1
end
section
namespace Go.Proofs.YtpkbgamoboojaaaGreat.W2
open Go.VL Go.PM Go.Proofs.YtpkbgamoboojaaaGreat W1
theorem pats_flat (l : List Pat) : ∀ y ∈ l.map patV, y.flat = true := λ y hy => by
 obtain ⟨p, _, rfl⟩ := List.mem_map.1 hy
 rw [patV_eq]
 rfl
def cat (rows : List (List Pat)) : List Pat := rows.flatten
theorem cat_snoc (l : List (List Pat)) (r : List Pat) : cat (l ++ [r]) = cat l ++ r := by simp [cat]
theorem flat_le {rows : List (List Pat)} {k : Nat} {r : List Pat} (h : rows[k]? = some r) : (cat (rows.take k)).length + r.length <= (cat rows).length := by
 unfold cat
 have h1 : (rows.take (k + 1)).flatten.length <= rows.flatten.length := by
  conv => rhs; rw [<- List.take_append_drop (k + 1) rows, List.flatten_append, Yd]
  omega
 rw [take_snoc h, List.flatten_append, Yd] at h1
 simpa using h1
theorem any_le : V.le (.agg VT.zs75) (patX anyP) := V.le.agg (by
 unfold VT.zs75
 simp only [V.les]
 exact ⟨V.le.refl _, rfl, V.le.refl _, rfl, V.le.refl _, rfl, V.le.nil 4, rfl, trivial⟩)
theorem any_rep (m : Mem) : Rep m (patX anyP) (.agg #[(.int .i64 0), (.string ⟨#[]⟩), (.int .i64 0), (.slice none 0 0)]) :=
 any_le m _ ⟨rfl, _, rfl, by simp [Go.VL.RepL, VT.zs75, Rep]⟩
theorem rest_snoc (l : List (List Pat)) (p : Pat) (tl : List Pat) : rest (l ++ [p :: tl]) = rest l ++ (if free p then [tl] else []) := by
 unfold rest
 rw [Ye]
 by_cases hf : free p = true <;> simp [hf]
theorem rest_len (rows : List (List Pat)) : (rest rows).length <= rows.length := Yf _ _
theorem patF_eq (t : Tab) (p : Pat) : patF t p = if p.kind = 0 \/ p.kind = 1 then 0 else if p.kind = 2 then (if p.n < -1073741824 \/ p.n > 1073741823 then 4 else 0) else if p.kind = 3 then
      (match tget t p.name with | none => 6 | some c => if p.args.length ≠ c.2.2 then 3 else patsF t p.args) else 3 := by
  cases p; rw [patF]; rfl
abbrev tabX (ds : List DataSig) (g : Nat) : V := .agg [datasX ds, .raw (.map (some g))]
abbrev tabO (g : Nat) (t : Tab) : Own := .map g (kmap kstr (tabV t))
theorem clone_c (l : List Pat) (hl : l.length <= 1000000) : VPure Tryz.prog 49 [patsX l] (patsX l) := by
 refine V_start (nt := 8) Tryz.func49 rfl rfl rfl ?_
 refine Zb (Zd (Zc (Zk rfl (Za (Zi (Zb (Zb (Zd (Zc (Zl rfl ?_))))))))))
 refine Zc (V_eqNil Tryz.underlying24 rfl (λ b4 hb4 => ?_))
 refine Za (Zi ?_)
 refine Zr1 rfl (λ h4 => ?_) (λ h4 => ?_)
 .
  have hn : l = [] := by simpa using hb4 h4
  subst hn
  refine Zb (Zd ?_)
  refine Zc (Zu2 (Zk rfl ⟨rfl, rfl⟩) (V.le.nil 4) ?_)
  refine Za (Zi (Zf1 ?_))
  refine Zd1 (Zg1 rfl (.strip rfl) ?_)
  rfl
 refine Zi1 (Zi (Zb (Zd ?_)))
 refine Zc (V_litTok [] VT.sl24 rfl rfl rfl rfl rfl (λ t5 => ?_))
 refine Zc (Zl rfl ?_)
 refine Zc (Zi3 0 _ VT.sl24 rfl rfl rfl (by simp) (by simp; omega) (λ t7 => ?_))
 refine Zc (Zk rfl (Za (Zi (Zf1 ?_))))
 refine Zg1 rfl (.strip rfl) ?_
 rfl
theorem cloneRow_c (l : List Pat) (hne : l ≠ []) (hl : l.length <= 1000000) : VCalls Tryz.prog 49 [patsX l] [] λ r S' => ∃ g cap rest, l.length <= cap /\ cap <= maxLen /\ r = .raw (.slice (some ⟨g, 0, none⟩) l.length cap) /\ S' = [.cells g 75 ((l.map patV).flatMap V.leaves ++ rest)] := by
 refine VCalls_drops ?_
 refine V_start (nt := 8) Tryz.func49 rfl rfl rfl ?_
 refine Zb (Zd (Zc (Zk rfl (Za (Zi (Zb (Zb (Zd (Zc (Zl rfl ?_))))))))))
 refine Zc (V_eqNil Tryz.underlying24 rfl (λ b4 hb4 => ?_))
 refine Za (Zi ?_)
 refine Zr1 rfl (λ h4 => ?_) (λ h4 => ?_)
 . exact absurd (hb4 h4) (by simpa using hne)
 refine Zi1 (Zi (Zb (Zd ?_)))
 refine Zc (V_litRow [] VT.sl24 rfl rfl rfl rfl rfl (λ g5 => ?_))
 refine Zc (Zl rfl ?_)
 refine Zc (V_appendRow VT.sl24 (by decide) rfl rfl (by have := List.length_pos_iff.2 hne; simpa using this) (by simp; omega) (pats_flat l) (λ g7 cap7 rest7 hc7 hm7 => ?_))
 refine Zc (Zk rfl (Za (Zi (Zf1 ?_))))
 refine Zg1 rfl (.tmp rfl) ?_
 exact ⟨_, Dk (Dd (Zt2 _)), g7, cap7, rest7, by simpa using hc7, hm7, by simp, rfl⟩
theorem grow_c (n : Int) (h0 : 0 <= n) (hn : n <= 2000000) : VCalls Tryz.prog 91 [V.nilSl, .int n] [] λ r S' => ∃ tok, r = .sl 4 (some tok) [] /\ S' = [.buf tok 75 4 0] := by
 refine V_start (nt := 27) Tryz.func91 rfl rfl rfl ?_
 refine Zb (Zd (Zc (Zk rfl (Za (Zi (Zb (Zb (Zd (Zc (Zl rfl (Zc (Zj1 rfl rfl rfl (Za (Zi ?_))))))))))))))
 refine Zq1 rfl (by simp; omega) ?_
 refine Zi1 (Zi (Zb (Zb (Zd (Zc (Zl rfl (Zc (Zl rfl ?_))))))))
 refine Zc (V_cap_raw Tryz.underlying24 rfl ?_)
 refine Zc (Zl rfl ?_)
 refine Zc (V_len_raw Tryz.underlying24 rfl ?_)
 refine Zc (Zk2 rfl rfl (by omega) ?_)
 refine Zc (Zk2 rfl rfl (by omega) ?_)
 refine Zc (Zk rfl (Za (Zi (Zb (Zd (Zc (Zl rfl (Zc (Zj1 rfl rfl rfl (Za (Zi ?_)))))))))))
 refine Zn1 rfl (λ h16 => ?_) (λ h16 => ?_)
 .
  refine Zd (Zc (Zl rfl (Zc (Zl rfl ?_))))
  refine Zc (V_cap_raw Tryz.underlying24 rfl ?_)
  refine Zc (V_slice_raw VT.sl24 rfl rfl rfl (by omega) (by omega) (by omega) ?_)
  refine Zc (Zl rfl ?_)
  refine Zc (V_growNil VT.sl24 Tryz.underlying3 rfl rfl (by omega) (by omega) (λ g22 cap22 hcg22 hmg22 => ?_))
  refine Zc (Zl rfl ?_)
  refine Zc (V_len_raw Tryz.underlying24 rfl ?_)
  refine Zc (V_slice0 VT.sl24 rfl rfl (by omega) hmg22 ?_)
  refine Zc (Zk rfl (Za (Zi (Zb (Zd (Zc (Zl rfl (Zc (Zk rfl (Za (Zi (Zf1 ?_))))))))))))
  refine Zg1 rfl (.tmp rfl) ?_
  exact ⟨_, rfl, rfl⟩
 refine VW_nil (q := 0) 75 4 rfl ?_
 refine Zi1 (Zi (Zb (Zd (Zc (Zl rfl (Zc (Zk rfl (Za (Zi (Zf1 ?_))))))))))
 refine Zg1 rfl (.tmp rfl) ?_
 exact ⟨_, rfl, rfl⟩
theorem concat_c (rows : List (List Pat)) (hs : (cat rows).length <= 1000000) : VPure Tryz.prog 61 [rowsX rows] (patsX (cat rows)) := by
 refine V_start (nt := 36) Tryz.func61 rfl rfl rfl ?_
 refine Zb (Zd (Zc (Zk rfl (Za (Zi (Zb (Zd (Zc (Zk rfl (Za (Zi (Zb (Zb (Zd (Zc (Zl rfl ?_))))))))))))))))
 refine Zc (Zd2 (n := rows.length) Tryz.underlying23 rfl (by simp) (λ hl10 => ?_))
 refine Zc (Zl rfl (Za (Zi (Zs ?_))))
 refine Zi2 (ι := Nat) (λ k => rows.length - k) (λ k => [(0, some (rowsX rows)), (3, some (.int (cat (rows.take k)).length)), (9, some (rowsX rows)), (10, some (.int rows.length)), (11, some (.int k))]) (λ k => []) (λ k => k <= rows.length) 0 (by simp) ⟨rfl, rfl, rfl, rfl, rfl, trivial⟩ (Drops.nil _) ?_
 rintro k hk
 change k <= rows.length at hk
 refine Zb (Zd (Zc (Zj1 rfl rfl rfl (Za (Zi (Zb ?_))))))
 refine Zn1 rfl (λ h12 => ?_) (λ h12 => ?_)
 .
  obtain ⟨r, hr⟩ := get_of_lt rows k h12
  have hfl := flat_le hr
  refine Zi1 (Zi (Zb (Zs (Zb (Zd ?_)))))
  refine Zc (Zz (el := patsX r) VT.sl23 rfl rfl (by omega) (get_mapS _ hr) (λ a13 => ?_))
  refine Zc (Zz1 VT.ty24 rfl rfl (Zc (Zk rfl (Za (Zi (Zb (Zd (Zc (Zl rfl (Zc (Zl rfl ?_)))))))))))
  refine Zc (Zd2 (n := r.length) Tryz.underlying24 rfl (by simp) (λ hl17 => ?_))
  refine Zc (Zh2 rfl rfl (by omega) ?_)
  refine Zc (Zk rfl (Za (Zi (Zb (Zd (Zc (Zl rfl (Zc (Zj1 rfl rfl rfl (Za (Zi ?_)))))))))))
  refine Zq1 rfl (by simp; omega) ?_
  refine Zi1 (Zb1 (Zi (Zd ?_)))
  refine Zc (Zh2 rfl rfl (by omega) ?_)
  refine Zc (Zl rfl (Za (Zi ?_)))
  exact ⟨k + 1, (by (try simp only []); omega), (by omega), ⟨rfl, (by rw [take_snoc hr, cat_snoc, Yd]; rfl), rfl, rfl, rfl, trivial⟩, (Drops.nil _)⟩
 have hT : (cat (rows.take k)).length <= 1000000 := by rw [take_end h12]; exact hs
 refine Zt (Ze1 (Ze1 (Zc1 (Zi (Zb (Zd (Zc (Zl rfl ?_))))))))
 refine Zc (Zm3 [.const _, .tmp 23] [] _ rfl rfl VT.en91 (.refl _) (grow_c _ (by omega) (by omega)) ?_)
 rintro r Sa ⟨tok0, rfl, rfl⟩
 refine Zc (Zk rfl (Za (Zi (Zb (Zb (Zd (Zc (Zl rfl ?_))))))))
 refine Zc (Zd2 (n := rows.length) Tryz.underlying23 rfl (by simp) (λ hl26 => ?_))
 refine Zc (Zl rfl (Za (Zi (Zs ?_))))
 refine Zi2 (ι := Nat × Tok) (λ (j, t) => rows.length - j) (λ (j, t) => [(6, some (.sl 4 (some t) ((cat (rows.take j)).map patV))), (25, some (rowsX rows)), (26, some (.int rows.length)), (27, some (.int j))]) (λ (j, t) => [.buf t 75 4 (cat (rows.take j)).length]) (λ (j, t) => j <= rows.length) (0, tok0) (by simp) ⟨rfl, rfl, rfl, rfl, trivial⟩ (Drops.buf rfl (Zt2 _)) ?_
 rintro ⟨j, t⟩ hj
 change j <= rows.length at hj
 refine Zb (Zd (Zc (Zj1 rfl rfl rfl (Za (Zi (Zb ?_))))))
 refine Zn1 rfl (λ h28 => ?_) (λ h28 => ?_)
 .
  obtain ⟨r, hr⟩ := get_of_lt rows j h28
  have hfl := flat_le hr
  refine Zi1 (Zi (Zb (Zs (Zb (Zd ?_)))))
  refine Zc (Zz (el := patsX r) VT.sl23 rfl rfl (by omega) (get_mapS _ hr) (λ a29 => ?_))
  refine Zc (Zz1 VT.ty24 rfl rfl (Zc (Zk rfl (Za (Zi (Zd (Zc (Zl rfl (Zc (Zl rfl ?_))))))))))
  refine Zc (Zi3 0 _ VT.sl24 rfl rfl rfl (by simp) (by rw [Yh, Yh]; omega) (λ t33 => ?_))
  refine Zc (Zk rfl (Za (Zb1 (Zi (Zd ?_)))))
  refine Zc (Zh2 rfl rfl (by omega) ?_)
  refine Zc (Zl rfl (Za (Zi ?_)))
  exact ⟨(j + 1, t33), (by (try simp only []); omega), (by omega), ⟨(by rw [take_snoc hr, cat_snoc, List.map_append]; rfl), rfl, rfl, rfl, trivial⟩, (Drops.buf (by rw [take_snoc hr, cat_snoc]; simp) (Zt2 _))⟩
 refine Zt (Ze1 (Ze1 (Zc1 (Zi (Zb (Zd (Zc (Zl rfl (Zc (Zk rfl (Za (Zi (Zf1 ?_)))))))))))))
 refine Zg1 rfl (.strip rfl) ?_
 rw [take_end h28]
theorem anys_c (n : Nat) (hn : n * 56 <= 140737488355328) : VPure Tryz.prog 82 [.int n] (patsX (anysL n)) := by
 refine V_start (nt := 5) Tryz.func82 rfl rfl rfl ?_
 refine Zb (Zd (Zc (Zk rfl (Za (Zi (Zb (Zd (Zc (Zl rfl ?_)))))))))
 refine Zc (V_make (patX anyP) any_rep rfl VT.sl24 rfl rfl (by omega) (by omega) (λ t4 => ?_))
 refine Zc (Zk rfl (Za (Zi (Zf1 ?_))))
 refine Zg1 rfl (.strip rfl) ?_
 simp [patV_eq]
theorem rest_c (rows : List (List Pat)) (hne : ∀ r ∈ rows, r ≠ []) (hl : rows.length <= 1000000) : VPure Tryz.prog 47 [rowsX rows] (rowsX (rest rows)) := by
 refine V_start (nt := 23) Tryz.func47 rfl rfl rfl ?_
 refine Zb (Zd (Zc (Zk rfl (Za (Zi (Zb (Zd (Zc (V_assign_nil 24 1 (Za (Zi (Zb (Zb (Zd (Zc (Zl rfl ?_))))))))))))))))
 refine Zc (Zd2 (n := rows.length) Tryz.underlying23 rfl (by simp) (λ hl7 => ?_))
 refine Zc (Zl rfl (Za (Zi (Zs ?_))))
 refine Zi2 (ι := Nat × Tok) (λ (k, t) => rows.length - k) (λ (k, t) => [(3, some (.sl 1 (some t) ((rest (rows.take k)).map patsX))), (6, some (rowsX rows)), (7, some (.int rows.length)), (8, some (.int k))]) (λ (k, t) => [.buf t 24 1 (rest (rows.take k)).length]) (λ (k, t) => k <= rows.length) (0, .nil) (by simp) ⟨(by simp [rest]; rfl), rfl, rfl, rfl, trivial⟩ (Drops.buf (by simp [rest]) (Zt2 _)) ?_
 rintro ⟨k, t⟩ hk
 change k <= rows.length at hk
 refine Zb (Zd (Zc (Zj1 rfl rfl rfl (Za (Zi (Zb ?_))))))
 refine Zn1 rfl (λ h9 => ?_) (λ h9 => ?_)
 .
  obtain ⟨r, hr⟩ := get_of_lt rows k h9
  obtain ⟨p, tl, rfl⟩ := Yg (hne _ (Ya hr))
  refine Zi1 (Zi (Zb (Zs (Zb (Zd ?_)))))
  refine Zc (Zz (el := patsX (p :: tl)) VT.sl23 rfl rfl (by omega) (get_mapS _ hr) (λ a10 => ?_))
  refine Zc (Zz1 VT.ty24 rfl rfl (Zc (Zk rfl (Za (Zi (Zb (Zd (Zc (Zl rfl ?_)))))))))
  refine Zc (Zz (el := patX p) VT.sl24 rfl rfl (by omega) (get_patS rfl) (λ a13 => ?_))
  refine Zc (Za2 VT.ty75 rfl rfl ?_)
  refine Zc (Zx1 [.tmp 14] rfl rfl VT.en40 (free_c _) ?_)
  refine Za (Zi ?_)
  refine Zr1 rfl (λ h15 => ?_) (λ h15 => ?_)
  .
   refine Zd (Zc (Zl rfl (Zc (Zl rfl ?_))))
   refine Zc (V_sliceFrom VT.sl24 rfl rfl (by omega) (by simp; omega) ?_)
   refine Zc (Zk3 [.tmp 18] VT.sl23 rfl rfl rfl rfl rfl ?_)
   refine Zc (Zi3 0 _ VT.sl23 rfl rfl rfl (by simp) (by have := rest_len (rows.take k); simp at this ⊢; omega) (λ t20 => ?_))
   refine Zc (Zk rfl (Za (Zb1 (Zi (Zd ?_)))))
   refine Zc (Zh2 rfl rfl (by omega) ?_)
   refine Zc (Zl rfl (Za (Zi ?_)))
   exact ⟨(k + 1, t20), (by (try simp only []); omega), (by omega), ⟨(by rw [take_snoc hr, rest_snoc]; simp [h15]; try rfl), rfl, rfl, rfl, trivial⟩, (Drops.buf (by rw [take_snoc hr, rest_snoc]; simp [h15]) (Zt2 _))⟩
  refine Zi1 (Zb1 (Zi (Zd ?_)))
  refine Zc (Zh2 rfl rfl (by omega) ?_)
  refine Zc (Zl rfl (Za (Zi ?_)))
  exact ⟨(k + 1, t), (by (try simp only []); omega), (by omega), ⟨(by rw [take_snoc hr, rest_snoc]; simp [h15]; try rfl), rfl, rfl, rfl, trivial⟩, (Drops.buf (by rw [take_snoc hr, rest_snoc]; simp [h15]) (Zt2 _))⟩
 refine Zt (Ze1 (Ze1 (Zc1 (Zi (Zb (Zd (Zc (Zl rfl (Zc (Zk rfl (Za (Zi (Zf1 ?_)))))))))))))
 refine Zg1 rfl (.strip rfl) ?_
 rw [take_end h9]
theorem kind_c (ds : List DataSig) (t : Tab) (g : Nat) (p : Pat) : VKeep Tryz.prog 77 [tabX ds g, patX p] [tabO g t] (.int (kindF t p)) := by
 refine VCalls_drops ?_
 refine V_start (nt := 17) Tryz.func77 rfl rfl rfl ?_
 refine Zb (Zd ?_)
 refine Zc (Zc2 rfl rfl (λ g2 => ?_))
 refine Zc (Zc2 rfl rfl (λ g3 => ?_))
 refine Zc (Zk rfl (Za (Zi (Zb (Zb (Zd (Zc (Zj VT.fa75_0 rfl (Zc (Zu 0 VT.ty3 rfl rfl rfl (Za (Zi (Zs (Zb (Zd (Zc (Zj1 rfl rfl rfl (Zc (Zk rfl (Za (Zi ?_)))))))))))))))))))))
 refine Zl1 rfl (λ h7 => ?_) (λ h7 => ?_)
 .
  refine Zb (Zd (Zc (Zk rfl (Za (Zi (Zf1 ?_))))))
  refine Za1 (Zd1 (Zg1 rfl (.tmp rfl) ?_))
  exact ⟨_, Dd (Dd (Zt2 _)), by simp [kindF, h7], rfl⟩
 refine Zb (Zd (Zc (Zj1 rfl rfl rfl (Zc (Zk rfl (Za (Zi ?_)))))))
 refine Zl1 rfl (λ h9 => ?_) (λ h9 => ?_)
 .
  refine Zb (Zd (Zc (Zj VT.fa83_1 rfl (Zc (Zu 1 VT.ty81 rfl rfl rfl (Zc (Zj VT.fa75_1 rfl (Zc (Zu 0 VT.ty9 rfl rfl rfl ?_)))))))))
  rcases ht : tget t p.name with _ | c
  .
   refine Zc (V_lookup0 2 (.agg VT.zs113) (λ m => ⟨rfl, _, rfl, by simp [Go.VL.RepL, VT.zs113, Rep]⟩) Tryz.underlying81 (key_str Tryz.underlying9) VT.zr113 rfl rfl rfl (by rw [kget_tab, ht]; rfl) ?_)
   refine Zc (V_field (x := 0) VT.fa113_0 rfl rfl ?_)
   refine Zc (Zk rfl (Za (Zi (Zf1 ?_))))
   refine Za1 (Zd1 (Zg1 rfl (.tmp rfl) ?_))
   exact ⟨_, Dd (Dd (Zt2 _)), by simp [kindF, h7, h9, ht], rfl⟩
  refine Zc (V_lookup1 2 Tryz.underlying81 (key_str Tryz.underlying9) VT.zr113 rfl rfl rfl (by rw [kget_tab, ht]; rfl) ?_)
  refine Zc (V_field (x := 0) VT.fa113_0 rfl rfl ?_)
  refine Zc (Zk rfl (Za (Zi (Zf1 ?_))))
  refine Za1 (Zd1 (Zg1 rfl (.tmp rfl) ?_))
  exact ⟨_, Dd (Dd (Zt2 _)), by simp [kindF, h7, h9, ht], rfl⟩
 refine Zi1 (Zb1 (Zi (Zb (Zd (Zc (Zk rfl (Za (Zi (Zf1 ?_)))))))))
 refine Zg1 rfl (.tmp rfl) ?_
 exact ⟨_, Dd (Dd (Zt2 _)), by simp [kindF, h7, h9], rfl⟩
theorem pattern_step (ds : List DataSig) (t : Tab) (g : Nat) (p : Pat) (ih : ∀ q ∈ p.args, VKeep Tryz.prog 43 [tabX ds g, patX q] [tabO g t] (.int (patF t q))) : VKeep Tryz.prog 43 [tabX ds g, patX p] [tabO g t] (.int (patF t p)) := by
 refine VCalls_drops ?_
 refine V_start (nt := 59) Tryz.func43 rfl rfl rfl ?_
 refine Zb (Zd ?_)
 refine Zc (Zc2 rfl rfl (λ g2 => ?_))
 refine Zc (Zc2 rfl rfl (λ g3 => ?_))
 refine Zc (Zk rfl (Za (Zi (Zb (Zb (Zd (Zc (Zj VT.fa75_0 rfl (Zc (Zu 0 VT.ty3 rfl rfl rfl (Za (Zi (Zs (Zb ?_))))))))))))))
 refine VW_or (q := 12) (x := 11) [(13, 0), (14, 1)] rfl rfl rfl ?_
 refine Zi ?_
 refine Zr1 rfl (λ h12 => ?_) (λ h12 => ?_)
 .
  have h12a : p.kind = 0 \/ p.kind = 1 := by simpa [elemJ] using h12
  clear h12
  refine Zb (Zd (Zc (Zk rfl (Za (Zi (Zf1 ?_))))))
  refine Za1 (Zd1 (Zg1 rfl (.tmp rfl) ?_))
  exact ⟨_, by first | exact Dd (Dd (Zt2 _)) | exact Dd (Dd (Dd (Zt2 _))) | exact Dd (Zt2 _), by first | (rw [patF_eq]; simp_all; done) | (rw [<- hq, drop_cons hr, patsF]; simp_all; done) | rw [hq], rfl⟩
 have h12a : ¬ (p.kind = 0 \/ p.kind = 1) := by rintro (h | h) <;> simp [elemJ, h] at h12
 clear h12
 refine Zb (Zd (Zc (Zj1 rfl rfl rfl (Zc (Zk rfl (Za (Zi ?_)))))))
 refine Zl1 rfl (λ h15 => ?_) (λ h15 => ?_)
 .
  refine Zb (Zb (Zd (Zc (Zj VT.fa75_2 rfl (Zc (Zu 0 VT.ty3 rfl rfl rfl (Zc (Zj1 rfl rfl rfl (Zc (Zl rfl ?_))))))))))
  refine Zj2 (q := 20) rfl (λ hq20 => ?_) (λ hq20 => ?_)
  .
   refine Zk0 hq20 ?_
   refine Zk0 hq20 ?_
   refine Zk0 hq20 ?_
   refine Zc (Zs1 rfl hq20 rfl ?_)
   refine Za (Zi ?_)
   refine Zp1 rfl rfl ?_
   refine Zb (Zd (Zc (Zk rfl (Za (Zi (Zf1 ?_))))))
   refine Zd1 (Za1 (Zd1 (Zg1 rfl (.tmp rfl) ?_)))
   exact ⟨_, by first | exact Dd (Dd (Zt2 _)) | exact Dd (Dd (Dd (Zt2 _))) | exact Dd (Zt2 _), by first | (rw [patF_eq]; simp_all; done) | (rw [<- hq, drop_cons hr, patsF]; simp_all; done) | rw [hq], rfl⟩
  refine Zc (Zj VT.fa75_2 rfl ?_) (Zy0 hq20)
  refine Zc (Zu 0 VT.ty3 rfl rfl rfl ?_) (Zy0 hq20)
  refine Zc (Zj1 rfl rfl rfl ?_) (Zy0 hq20)
  refine Zc (Zt1 rfl hq20 rfl ?_)
  refine Za (Zi ?_)
  refine Zn1 rfl (λ h24 => ?_) (λ h24 => ?_)
  .
   refine Zb (Zd (Zc (Zk rfl (Za (Zi (Zf1 ?_))))))
   refine Zd1 (Za1 (Zd1 (Zg1 rfl (.tmp rfl) ?_)))
   exact ⟨_, by first | exact Dd (Dd (Zt2 _)) | exact Dd (Dd (Dd (Zt2 _))) | exact Dd (Zt2 _), by first | (rw [patF_eq]; simp_all; done) | (rw [<- hq, drop_cons hr, patsF]; simp_all; done) | rw [hq], rfl⟩
  refine Zi1 (Zi (Zb (Zd (Zc (Zk rfl (Za (Zi (Zf1 ?_))))))))
  refine Za1 (Zd1 (Zg1 rfl (.tmp rfl) ?_))
  exact ⟨_, by first | exact Dd (Dd (Zt2 _)) | exact Dd (Dd (Dd (Zt2 _))) | exact Dd (Zt2 _), by first | (rw [patF_eq]; simp_all; done) | (rw [<- hq, drop_cons hr, patsF]; simp_all; done) | rw [hq], rfl⟩
 refine Zb (Zd (Zc (Zj1 rfl rfl rfl (Zc (Zk rfl (Za (Zi ?_)))))))
 refine Zl1 rfl (λ h25 => ?_) (λ h25 => ?_)
 .
  refine Zi1 (Zb1 (Zi (Zb (Zd (Zc (Zj VT.fa83_1 rfl (Zc (Zu 1 VT.ty81 rfl rfl rfl (Zc (Zj VT.fa75_1 rfl (Zc (Zu 0 VT.ty9 rfl rfl rfl ?_))))))))))))
  rcases ht : tget t p.name with _ | c
  .
   refine Zc (V_lookupNo 2 (.agg VT.zs113) (λ m => ⟨rfl, _, rfl, by simp [Go.VL.RepL, VT.zs113, Rep]⟩) Tryz.underlying81 (key_str Tryz.underlying9) VT.zr113 rfl rfl rfl (by rw [kget_tab, ht]; rfl) ?_)
   refine Zc (Zl rfl (Zc (Zg2 rfl rfl (Zc (Zg2 rfl rfl ?_)))))
   refine Zc (Zb2 VT.zr113 _ rfl rfl (λ g5 => ?_))
   refine Zc (Zx 0 VT.ty113 rfl rfl rfl rfl rfl (Zc (Zk rfl (Za (Zi (Zb (Zs (Zb (Zd (Zc (Zl rfl (Zc (Zl2 rfl (Zc (Zk rfl (Za (Zi ?_)))))))))))))))))
   refine Zp1 rfl (rfl) ?_
   refine Zb (Zd (Zc (Zk rfl (Za (Zi (Zf1 ?_))))))
   refine Za1 (Zd1 (Zg1 rfl (.tmp rfl) ?_))
   exact ⟨_, Dd (Dd (Dd (Zt2 _))), by rw [patF_eq]; simp_all, rfl⟩
  refine Zc (V_lookupOk 2 Tryz.underlying81 (key_str Tryz.underlying9) VT.zr113 rfl rfl rfl (by rw [kget_tab, ht]; rfl) ?_)
  refine Zc (Zl rfl (Zc (Zg2 rfl rfl (Zc (Zg2 rfl rfl ?_)))))
  refine Zc (Zb2 VT.zr113 _ rfl rfl (λ g5 => ?_))
  refine Zc (Zx 0 VT.ty113 rfl rfl rfl rfl rfl (Zc (Zk rfl (Za (Zi (Zb (Zs (Zb (Zd (Zc (Zl rfl (Zc (Zl2 rfl (Zc (Zk rfl (Za (Zi ?_)))))))))))))))))
  refine Zq1 rfl (rfl) ?_
  refine Zb (Zd (Zc (Zj VT.fa75_3 rfl (Zc (Zu 1 VT.ty24 rfl rfl rfl ?_)))))
  refine Zc (Zd2 (n := p.args.length) Tryz.underlying24 rfl (by simp) (λ hl41 => ?_))
  refine Zc (Zj VT.fa113_2 rfl (Zc (Zu 0 VT.ty3 rfl rfl rfl (Zc (Zj1 rfl rfl rfl (Zc (Zk rfl (Za (Zi ?_)))))))))
  refine Zm1 rfl (λ h38 => ?_) (λ h38 => ?_)
  .
   have h38a : p.args.length ≠ c.2.2 := by omega
   refine Zb (Zd (Zc (Zk rfl (Za (Zi (Zf1 ?_))))))
   refine Za1 (Zd1 (Zg1 rfl (.tmp rfl) ?_))
   exact ⟨_, by first | exact Dd (Dd (Zt2 _)) | exact Dd (Dd (Dd (Zt2 _))) | exact Dd (Zt2 _), by first | (rw [patF_eq]; simp_all; done) | (rw [<- hq, drop_cons hr, patsF]; simp_all; done) | rw [hq], rfl⟩
  have h38a : p.args.length = c.2.2 := by omega
  refine Zi1 (Zb1 (Zi (Zb (Zb (Zd (Zc (Zj VT.fa75_3 rfl (Zc (Zu 1 VT.ty24 rfl rfl rfl ?_)))))))))
  refine Zc (Zd2 (n := p.args.length) Tryz.underlying24 rfl (by simp) (λ hl47 => ?_))
  refine Zc (Zl rfl (Za (Zi (Zs ?_))))
  refine Zi2 (ι := Nat) (λ k => p.args.length - k) (λ k => [(2, some (.ptr g2 0)), (46, some (patsX p.args)), (47, some (.int p.args.length)), (48, some (.int k))]) (λ k => [.cells g2 83 [datasX ds, .raw (.map (some g))], tabO g t]) (λ k => k <= p.args.length /\ patsF t (p.args.drop k) = patF t p) 0 ⟨Yi _, by rw [patF_eq]; simp_all⟩ ⟨rfl, rfl, rfl, rfl, trivial⟩ (Dd (Dd (Dk (Dk (Zt2 _))))) ?_
  rintro k hA
  change k <= p.args.length /\ patsF t (p.args.drop k) = patF t p at hA
  obtain ⟨hk, hq⟩ := hA
  refine Zb (Zd (Zc (Zj1 rfl rfl rfl (Za (Zi (Zb ?_))))))
  refine Zn1 rfl (λ h49 => ?_) (λ h49 => ?_)
  .
   obtain ⟨q, hr⟩ := get_of_lt p.args k h49
   refine Zi1 (Zi (Zb (Zs (Zb (Zd ?_)))))
   refine Zc (Zz (el := patX q) VT.sl24 rfl rfl (by omega) (get_patS hr) (λ a50 => ?_))
   refine Zc (Za2 VT.ty75 rfl rfl ?_)
   refine Zc (Zb2 VT.zr75 _ rfl rfl (λ g8 => ?_))
   refine Zc (Zx 0 VT.ty75 rfl rfl rfl rfl rfl (Za (Zi (Zb (Zd (Zc (Zv 1 VT.ty83 rfl rfl rfl (Zc (Zv 0 VT.ty75 rfl rfl rfl ?_)))))))))
   refine Zc (V_callK 2 [.tmp 52, .tmp 53] rfl rfl VT.en43 rfl (ih q (Ya hr)) ?_)
   refine Zc (Zk rfl (Za (Zi (Zb (Zd (Zc (Zl rfl (Zc (Zj1 rfl rfl rfl (Za (Zi ?_)))))))))))
   refine Zm1 rfl (λ h56 => ?_) (λ h56 => ?_)
   .
    refine Zb (Zd (Zc (Zl rfl (Zc (Zk rfl (Za (Zi (Zf1 ?_))))))))
    refine Za1 (Zd1 (Zd1 (Za1 (Zd1 (Zg1 rfl (.tmp rfl) ?_)))))
    exact ⟨_, by first | exact Dd (Dd (Zt2 _)) | exact Dd (Dd (Dd (Zt2 _))) | exact Dd (Zt2 _), by first | (rw [patF_eq]; simp_all; done) | (rw [<- hq, drop_cons hr, patsF]; simp_all; done) | rw [hq], rfl⟩
   refine Zi1 (Zb1 (Zi (Zd ?_)))
   refine Zc (Zh2 rfl rfl (by omega) ?_)
   refine Zc (Zl rfl (Za (Zi ?_)))
   exact ⟨k + 1, (by (try simp only []); omega), ⟨by omega, by rw [<- hq, drop_cons hr, patsF]; simp_all⟩, ⟨rfl, rfl, rfl, rfl, trivial⟩, (Dd (Dk (Dk (Zt2 _))))⟩
  have hke : k = p.args.length := by omega
  subst hke
  rw [Yb, patsF] at hq
  refine Zt (Ze1 (Ze1 (Zc1 (Zi (Zb (Zd (Zc (Zk rfl (Za (Zi (Zf1 ?_)))))))))))
  refine Zg1 rfl (.tmp rfl) ?_
  exact ⟨_, by first | exact Dd (Dd (Zt2 _)) | exact Dd (Dd (Dd (Zt2 _))) | exact Dd (Zt2 _), by first | (rw [patF_eq]; simp_all; done) | (rw [<- hq, drop_cons hr, patsF]; simp_all; done) | rw [hq], rfl⟩
 refine Zb (Zd (Zc (Zk rfl (Za (Zi (Zf1 ?_))))))
 refine Za1 (Zd1 (Zg1 rfl (.tmp rfl) ?_))
 exact ⟨_, by first | exact Dd (Dd (Zt2 _)) | exact Dd (Dd (Dd (Zt2 _))) | exact Dd (Zt2 _), by first | (rw [patF_eq]; simp_all; done) | (rw [<- hq, drop_cons hr, patsF]; simp_all; done) | rw [hq], rfl⟩
theorem pattern_c (ds : List DataSig) (t : Tab) (g : Nat) : ∀ (n : Nat) (p : Pat), SizeOf.sizeOf p < n -> VKeep Tryz.prog 43 [tabX ds g, patX p] [tabO g t] (.int (patF t p))
 | 0, p, h => absurd h (Nat.not_lt_zero _)
 | n + 1, p, h => pattern_step ds t g p λ q hq => pattern_c ds t g n q (by have := mem_size hq; omega)
end Go.Proofs.YtpkbgamoboojaaaGreat.W2
end
section
namespace Go.Proofs.YtpkbgamoboojaaaGreat.W3
open Go.VL Go.PM Go.Proofs.YtpkbgamoboojaaaGreat W1 W2
def narrow1 (name : Str) (n : Nat) (p : Pat) (t : List Pat) : List (List Pat) := if free p then [anysL n ++ t] else if p.name = name then [p.args ++ t] else []
theorem narrow_snoc (name : Str) (n : Nat) (l : List (List Pat)) (p : Pat) (tl : List Pat) : narrow name n (l ++ [p :: tl]) = narrow name n l ++ narrow1 name n p tl := by
 unfold narrow narrow1
 rw [Ye]
 by_cases hf : free p = true
 .simp [hf]
 by_cases hn : p.name = name <;> simp [hf, hn]
theorem narrow_len (name : Str) (n : Nat) (rows : List (List Pat)) : (narrow name n rows).length <= rows.length := Yf _ _
theorem cat_two (a b : List Pat) : cat [a, b] = a ++ b := by simp [cat]
theorem build_c (ds : List DataSig) : VCalls Tryz.prog 42 [datasX ds] [] λ r S' => (∃ g t, buildF 0 ds [] = some t /\ r = .tup [tabX ds g, .int 0] /\ S' = [tabO g t]) \/ (buildF 0 ds [] = none /\ r = .tup [.agg VT.zs83, .int 7] /\ S' = []) := by
 refine VCalls_drops ?_
 refine V_start (nt := 52) Tryz.func42 rfl rfl rfl ?_
 refine Zb (Zd ?_)
 refine Zc (Zb2 VT.zr83 _ rfl rfl (λ g2 => ?_))
 refine Zc (Zk rfl (Za (Zi (Zb (Zd (Zc (Zl rfl ?_)))))))
 refine Zc (V_makeMap (kv := kstr) (λ g12 => ?_))
 refine Zc (Zf2 [0, 1] [.tmp 11, .tmp 12] VT.st83 rfl rfl rfl rfl ?_)
 refine Zc (Zb2 VT.zr83 _ rfl rfl (λ g4 => ?_))
 refine Zc (Zx 0 VT.ty83 rfl rfl rfl rfl rfl (Za (Zi (Zb (Zb (Zd (Zc (Zl rfl ?_))))))))
 refine Zc (Zd2 (n := ds.length) Tryz.underlying22 rfl (by simp) (λ hl15 => ?_))
 refine Zc (Zl rfl (Za (Zi (Zs ?_))))
 refine Zi2 (ι := Nat × Tab) (λ (k, t) => ds.length - k) (λ (k, t) => [(2, some (.ptr g2 0)), (4, some (.ptr g4 0)), (14, some (datasX ds)), (15, some (.int ds.length)), (16, some (.int k))]) (λ (k, t) => [.cells g4 83 [datasX ds, .raw (.map (some g12))], tabO g12 t, .cells g2 83 VT.zs83]) (λ (k, t) => k <= ds.length /\ buildF k (ds.drop k) t = buildF 0 ds []) (0, []) ⟨Yi _, rfl⟩ ⟨rfl, rfl, rfl, rfl, rfl, trivial⟩ (Dk (Dk (Dk (Zt2 _)))) ?_
 rintro ⟨k, t⟩ hA
 change k <= ds.length /\ buildF k (ds.drop k) t = buildF 0 ds [] at hA
 obtain ⟨hk, hq⟩ := hA
 refine Zb (Zd (Zc (Zj1 rfl rfl rfl (Za (Zi (Zb ?_))))))
 refine Zn1 rfl (λ h17 => ?_) (λ h17 => ?_)
 .
  obtain ⟨d, hr⟩ := get_of_lt ds k h17
  refine Zi1 (Zi (Zb (Zs (Zb (Zd (Zc (Zl rfl ?_)))))))
  refine Zc (Zz (el := dataV d) VT.sl22 rfl rfl (by omega) (get_mapS _ hr) (λ a19 => ?_))
  refine Zc (Za2 VT.ty92 rfl rfl ?_)
  refine Zc (Zb2 VT.zr92 _ rfl rfl (λ g6 => ?_))
  refine Zc (Zk rfl (Zc (Zx 0 VT.ty92 rfl rfl rfl rfl rfl (Za (Zi (Zb (Zd (Zc (Zj VT.fa92_2 rfl (Zc (Zu 0 VT.ty90 rfl rfl rfl ?_)))))))))))
  refine Zc (Zd2 (n := d.cons.length) Tryz.underlying90 rfl (by simp) (λ hl23 => ?_))
  refine Zc (Zl rfl (Za (Zi (Zs ?_))))
  refine Zi2 (ι := Nat × Tab) (λ (n, t1) => d.cons.length - n) (λ (n, t1) => [(2, some (.ptr g2 0)), (4, some (.ptr g4 0)), (5, some (.int k)), (14, some (datasX ds)), (15, some (.int ds.length)), (16, some (.int k)), (22, some (.sl 2 none (d.cons.map conV))), (23, some (.int d.cons.length)), (24, some (.int n))]) (λ (n, t1) => [.cells g4 83 [datasX ds, .raw (.map (some g12))], tabO g12 t1, .cells g2 83 VT.zs83]) (λ (n, t1) => n <= d.cons.length /\ addCons k n (d.cons.drop n) t1 = addCons k 0 d.cons t) (0, t) ⟨Yi _, rfl⟩ ⟨rfl, rfl, rfl, rfl, rfl, rfl, rfl, rfl, rfl, trivial⟩ (Dd (Dk (Dk (Dk (Zt2 _))))) ?_
  rintro ⟨n, t1⟩ hA
  change n <= d.cons.length /\ addCons k n (d.cons.drop n) t1 = addCons k 0 d.cons t at hA
  obtain ⟨hn, hq2⟩ := hA
  refine Zb (Zd (Zc (Zj1 rfl rfl rfl (Za (Zi (Zb ?_))))))
  refine Zn1 rfl (λ h25 => ?_) (λ h25 => ?_)
  .
   obtain ⟨c, hc⟩ := get_of_lt d.cons n h25
   refine Zi1 (Zi (Zb (Zs (Zb (Zd (Zc (Zl rfl ?_)))))))
   refine Zc (Zz (el := conV c) VT.sl90 rfl rfl (by omega) (get_mapS _ hc) (λ a27 => ?_))
   refine Zc (Za2 VT.ty95 rfl rfl ?_)
   refine Zc (Zb2 VT.zr95 _ rfl rfl (λ g8 => ?_))
   refine Zc (Zk rfl (Zc (Zx 0 VT.ty95 rfl rfl rfl rfl rfl (Za (Zi (Zb (Zb (Zd (Zc (Zj VT.fa83_1 rfl (Zc (Zu 1 VT.ty81 rfl rfl rfl (Zc (Zj VT.fa95_0 rfl (Zc (Zu 0 VT.ty9 rfl rfl rfl ?_))))))))))))))))
   rcases ht : tget t1 c.name with _ | cc
   .
    refine Zc (V_lookupNo 2 (.agg VT.zs113) (λ m => ⟨rfl, _, rfl, by simp [Go.VL.RepL, VT.zs113, Rep]⟩) Tryz.underlying81 (key_str Tryz.underlying9) VT.zr113 rfl rfl rfl (by rw [kget_tab, ht]; rfl) ?_)
    refine Zc (Zl rfl (Zc (Zg2 rfl rfl (Zc (Zg2 rfl rfl ?_)))))
    refine Zc (Zb2 VT.zr113 _ rfl rfl (λ g9 => ?_))
    refine Zc (Zx 0 VT.ty113 rfl rfl rfl rfl rfl (Zc (Zk rfl (Za (Zi (Zb (Zd (Zc (Zl rfl (Za (Zi ?_)))))))))))
    refine Zq1 rfl (rfl) ?_
    refine Zi1 (Zi (Zd (Zc (Zj VT.fa83_1 rfl (Zc (Zu 2 VT.ty81 rfl rfl rfl (Zc (Zj VT.fa95_0 rfl (Zc (Zu 1 VT.ty9 rfl rfl rfl (Zc (Zl rfl (Zc (Zl rfl (Zc (Zj VT.fa95_1 rfl (Zc (Zu 1 VT.ty93 rfl rfl rfl ?_))))))))))))))))))
    refine Zc (Zd2 (n := c.args.length) Tryz.underlying93 rfl (by simp) (λ hl47 => ?_))
    refine Zc (Zf2 [0, 1, 2] [.tmp 43, .tmp 44, .tmp 47] VT.st113 rfl rfl rfl rfl ?_)
    refine Zc (V_mapUpdate 3 Tryz.underlying81 (key_str Tryz.underlying9) rfl rfl rfl rfl ?_)
    refine Za (Zb1 (Zi (Zd ?_)))
    refine Zc (Zh2 rfl rfl (by omega) ?_)
    refine Zc (Zl rfl (Za (Zi ?_)))
    exact ⟨(n + 1, t1 ++ [(c.name, k, n, c.args.length)]), (by (try simp only []); omega), ⟨by omega, by rw [<- hq2, drop_cons hc, addCons, ht]⟩, ⟨rfl, rfl, rfl, rfl, rfl, rfl, rfl, rfl, rfl, trivial⟩, (Dd (Dd (Dk (Drops.keepE (congrArg (λ l => Own.map g12 (kmap kstr l)) (kput_tab t1 c.name (k, n, c.args.length) ht)) (Dk (Zt2 _))))))⟩
   refine Zc (V_lookupOk 2 Tryz.underlying81 (key_str Tryz.underlying9) VT.zr113 rfl rfl rfl (by rw [kget_tab, ht]; rfl) ?_)
   refine Zc (Zl rfl (Zc (Zg2 rfl rfl (Zc (Zg2 rfl rfl ?_)))))
   refine Zc (Zb2 VT.zr113 _ rfl rfl (λ g9 => ?_))
   refine Zc (Zx 0 VT.ty113 rfl rfl rfl rfl rfl (Zc (Zk rfl (Za (Zi (Zb (Zd (Zc (Zl rfl (Za (Zi ?_)))))))))))
   refine Zp1 rfl (rfl) ?_
   refine Zb (Zd ?_)
   refine Zc (Zf2 [] [] VT.st83 rfl rfl rfl rfl ?_)
   refine Zc (Zx 4 VT.ty83 rfl rfl rfl rfl rfl (Zc (Zk rfl (Za (Zi (Zf1 ?_))))))
   refine Zd1 (Za1 (Zd1 (Zd1 (Za1 (Za1 (Zd1 (Zd1 (Za1 (Zd1 (Zh1 rfl rfl (.cons (.agg (i := 4) VT.ty83 rfl rfl rfl) (.cons (.tmp rfl) (.nil))) ?_))))))))))
   refine ⟨_, Drops.nil _, .inr ⟨?_, rfl, rfl⟩⟩
   rw [<- hq, drop_cons hr, buildF, <- hq2, drop_cons hc, addCons, ht]
  have hne : n = d.cons.length := by omega
  subst hne
  rw [Yb, addCons] at hq2
  replace hq2 := hq2.symm
  refine Zt (Ze1 (Ze1 (Zc1 (Zb1 (Zi (Zd ?_))))))
  refine Zc (Zh2 rfl rfl (by omega) ?_)
  refine Zc (Zl rfl (Za (Zi ?_)))
  exact ⟨(k + 1, t1), (by (try simp only []); omega), ⟨by omega, by rw [<- hq, drop_cons hr, buildF, hq2]⟩, ⟨rfl, rfl, rfl, rfl, rfl, trivial⟩, (Dk (Dk (Dk (Zt2 _))))⟩
 have hke : k = ds.length := by omega
 subst hke
 rw [Yb, buildF] at hq
 refine Zt (Ze1 (Ze1 (Zc1 (Zi (Zb (Zd (Zc (Zv 0 VT.ty83 rfl rfl rfl (Zc (Zx 2 VT.ty83 rfl rfl rfl rfl rfl (Zc (Zk rfl (Za (Zi (Zf1 ?_)))))))))))))))
 refine Zh1 rfl rfl (.cons (.agg (i := 2) VT.ty83 rfl rfl rfl) (.cons (.tmp rfl) (.nil))) ?_
 exact ⟨_, Dd (Dk (Drops.nil _)), .inl ⟨g12, t, hq.symm, rfl, rfl⟩⟩
theorem narrow_c (rows : List (List Pat)) (name : Str) (n : Nat) (hne : ∀ r ∈ rows, r ≠ []) (hl : rows.length <= 1000000) (hr1 : ∀ r ∈ rows, r.length <= 500000) (hr2 : ∀ p tl, p :: tl ∈ rows -> free p = false -> p.args.length <= 400) (hn : n <= 400) : VPure Tryz.prog 48 [rowsX rows, .str name, .int n] (rowsX (narrow name n rows)) := by
 refine V_start (nt := 50) Tryz.func48 rfl rfl rfl ?_
 refine Zb (Zd (Zc (Zk rfl (Za (Zi (Zb (Zd (Zc (V_assign_nil 24 1 (Za (Zi (Zb (Zb (Zd (Zc (Zl rfl ?_))))))))))))))))
 refine Zc (Zd2 (n := rows.length) Tryz.underlying23 rfl (by simp) (λ hl11 => ?_))
 refine Zc (Zl rfl (Za (Zi (Zs ?_))))
 refine Zi2 (ι := Nat × Tok) (λ (k, t) => rows.length - k) (λ (k, t) => [(1, some (.str name)), (2, some (.int n)), (7, some (.sl 1 (some t) ((narrow name n (rows.take k)).map patsX))), (10, some (rowsX rows)), (11, some (.int rows.length)), (12, some (.int k))]) (λ (k, t) => [.buf t 24 1 (narrow name n (rows.take k)).length]) (λ (k, t) => k <= rows.length) (0, .nil) (by simp) ⟨rfl, rfl, (by simp [narrow]; rfl), rfl, rfl, rfl, trivial⟩ (Drops.buf (by simp [narrow]) (Zt2 _)) ?_
 rintro ⟨k, t⟩ hk
 change k <= rows.length at hk
 refine Zb (Zd (Zc (Zj1 rfl rfl rfl (Za (Zi (Zb ?_))))))
 refine Zn1 rfl (λ h13 => ?_) (λ h13 => ?_)
 .
  obtain ⟨r, hr⟩ := get_of_lt rows k h13
  obtain ⟨p, tl, rfl⟩ := Yg (hne _ (Ya hr))
  have hb1 := hr1 _ (Ya hr)
  have hb2 := hr2 p tl (Ya hr)
  have hb3 := narrow_len name n (rows.take k)
  rw [List.length_take] at hb3
  rw [List.length_cons] at hb1
  refine Zi1 (Zi (Zb (Zs (Zb (Zd ?_)))))
  refine Zc (Zz (el := patsX (p :: tl)) VT.sl23 rfl rfl (by omega) (get_mapS _ hr) (λ a14 => ?_))
  refine Zc (Zz1 VT.ty24 rfl rfl (Zc (Zk rfl (Za (Zi (Zs (Zb (Zd (Zc (Zl rfl ?_))))))))))
  refine Zc (Zz (el := patX p) VT.sl24 rfl rfl (by omega) (get_patS rfl) (λ a18 => ?_))
  refine Zc (Za2 VT.ty75 rfl rfl ?_)
  refine Zc (Zx1 [.tmp 19] rfl rfl VT.en40 (free_c _) ?_)
  refine Zc (Zk rfl (Za (Zi ?_)))
  refine Zr1 rfl (λ h16 => ?_) (λ h16 => ?_)
  .
   refine VW_drawR (G := Tok) [([], [7], []), ([], [2], []), ([1], [22], []), ([], [9], []), ([3], [24], []), ([4, 3, 2, 1], [23, 25], []), ([5, 4, 3, 2, 1], [26], []), ([6, 5, 4, 3, 2, 1], [27], []), (dn 8, [21, 28], [0]), (dn 9, [29], [0])] [8] (oneSt _ (λ x => [.buf x 24 1 ((narrow name n (rows.take k)).map patsX ++ [patsX (cat [anysL n, tl])]).length])) [7] [7, 21, 22, 23, 24, 25, 26, 27, 28, 29] rfl VT.mix ?_
   refine Zp (Zm _) (Zo rfl rfl ⟨(λ γ => Zf (λ _ h7 => Ze (Zn rfl (Zl h7 z0)))), trivial⟩) ?_
   refine Zp (Zm _) (Zo rfl rfl ⟨(λ γ => Zf (λ _ h2 => Ze (Zn rfl (Zl h2 z0)))), trivial⟩) ?_
   refine Zp (Zm _) (Zo rfl rfl ⟨(λ γ => Zw 1 0 rfl (λ _ h22 => Ze (Zn rfl (Zx1 [.tmp 22] rfl (Zp2 h22 Zq2) VT.en82 (anys_c n (by omega)) z0)))), trivial⟩) ?_
   refine Zp (Zm _) (Zo rfl rfl ⟨(λ γ => Zf (λ _ h9 => Ze (Zn rfl (Zl h9 z0)))), trivial⟩) ?_
   refine Zp (Zm _) (Zo rfl rfl ⟨(λ γ => Zw 3 0 rfl (λ _ h24 => Ze (Zn rfl (V_sliceFrom VT.sl24 h24 rfl (by omega) (by simp; omega) z0)))), trivial⟩) ?_
   refine Zp (Zm _) (Zo rfl rfl ⟨(λ γ => Zw 2 2 rfl (λ _ h23 => Zw 4 0 rfl (λ _ h25 => Ze (Zn rfl (Zk3 [.tmp 23, .tmp 25] VT.sl23 rfl rfl rfl (Zp2 h23 (Zp2 h25 Zq2)) rfl z0))))), trivial⟩) ?_
   refine Zp (Zm _) (Zo rfl rfl ⟨(λ γ => Zw 5 0 rfl (λ _ h26 => Ze (Zn rfl (Zx1 [.tmp 26] rfl (Zp2 h26 Zq2) VT.en61 (concat_c [anysL n, tl] (by rw [cat_two]; simp; omega)) z0)))), trivial⟩) ?_
   refine Zp (Zm _) (Zo rfl rfl ⟨(λ γ => Zw 6 0 rfl (λ _ h27 => Ze (Zn rfl (Zk3 [.tmp 27] VT.sl23 rfl rfl rfl (Zp2 h27 Zq2) rfl z0)))), trivial⟩) ?_
   refine Zp (Zw2 (λ x => .sl 1 (some x) ((narrow name n (rows.take k)).map patsX ++ [patsX (cat [anysL n, tl])]))) (Zn2 rfl (λ γ => Zw 0 7 rfl (λ _ h21 => Zw 7 0 rfl (λ _ h28 => Ze (Zn rfl (Zi3 0 _ VT.sl23 h21 h28 rfl (by simp) (by simp; omega) (λ t29 => ⟨t29, ⟨t29, rfl, rfl⟩, rfl⟩))))))) ?_
   refine Zp (Zw2 (λ x => .sl 1 (some x) ((narrow name n (rows.take k)).map patsX ++ [patsX (cat [anysL n, tl])]))) (Zo rfl rfl ⟨(λ γ => Zw 8 0 rfl (λ _ h29 => Ze (Zx2 h29 (λ e29 => Zn rfl (Zk e29 ⟨⟨_, rfl, rfl⟩, rfl⟩))))), trivial⟩) ?_
   refine DrawP_nil (λ γ => Zw 9 0 rfl (λ r7 h7 => Ze ?_))
   have e7 : r7 = some _ := Zd3 h7
   subst e7
   clear h7
   refine Zb1 (Zb1 (Zi (Zd ?_)))
   refine Zc (Zh2 rfl rfl (by omega) ?_)
   refine Zc (Zl rfl (Za (Zi ?_)))
   exact ⟨(k + 1, (γ 0)), (by (try simp only []); omega), (by omega), ⟨rfl, rfl, (by rw [take_snoc hr, narrow_snoc]; simp [narrow1, cat_two, *]; try rfl), rfl, rfl, rfl, trivial⟩, (Drops.buf (by rw [take_snoc hr, narrow_snoc]; simp [narrow1, cat_two, *]) (Zt2 _))⟩
  refine Zb (Zd (Zc (Zl rfl ?_)))
  refine Zc (Zz (el := patX p) VT.sl24 rfl rfl (by omega) (get_patS rfl) (λ a32 => ?_))
  refine Zc (Zw1 VT.fa75_1 rfl rfl (Zc (Zz1 VT.ty9 rfl rfl (Zc (Zl rfl (Zc (V_streq rfl rfl (Zc (Zk rfl (Za (Zi ?_)))))))))))
  refine Zl1 rfl (λ h30 => ?_) (λ h30 => ?_)
  .
   refine VW_drawR (G := Tok) [([], [7], []), ([], [9], []), ([1], [38], []), ([2, 1], [39], []), ([3, 2, 1], [40], []), ([], [9], []), ([5], [42], []), ([6, 5, 4, 3, 2, 1], [41, 43], []), ([7, 6, 5, 4, 3, 2, 1], [44], []), ([8, 7, 6, 5, 4, 3, 2, 1], [45], []), (dn 10, [37, 46], [0]), (dn 11, [47], [0])] [10] (oneSt _ (λ x => [.buf x 24 1 ((narrow name n (rows.take k)).map patsX ++ [patsX (cat [p.args, tl])]).length])) [7] [7, 37, 38, 39, 40, 41, 42, 43, 44, 45, 46, 47] rfl VT.mix ?_
   refine Zp (Zm _) (Zo rfl rfl ⟨(λ γ => Zf (λ _ h7 => Ze (Zn rfl (Zl h7 z0)))), trivial⟩) ?_
   refine Zp (Zm _) (Zo rfl rfl ⟨(λ γ => Zf (λ _ h9 => Ze (Zn rfl (Zl h9 z0)))), trivial⟩) ?_
   refine Zp (Zb3 _) (Zo rfl rfl ⟨(λ γ => Zw 1 0 rfl (λ _ h38 => Ze (Zn rfl (Zz (el := patX p) VT.sl24 h38 rfl (by omega) (get_patS rfl) (λ a39 => ⟨⟨_, rfl⟩, rfl⟩))))), trivial⟩) ?_
   refine Zp (Zb3 _) (Zo rfl rfl ⟨(λ γ => Zw 2 0 rfl (λ _ h39 => Ze (Zc3 h39 (λ a_39 e39 => Zn rfl (Zw1 VT.fa75_3 e39 rfl ⟨⟨_, rfl⟩, rfl⟩))))), trivial⟩) ?_
   refine Zp (Zm _) (Zo rfl rfl ⟨(λ γ => Zw 3 0 rfl (λ _ h40 => Ze (Zc3 h40 (λ a_40 e40 => Zn rfl (Zz1 VT.ty24 e40 rfl z0))))), trivial⟩) ?_
   refine Zp (Zm _) (Zo rfl rfl ⟨(λ γ => Zf (λ _ h9 => Ze (Zn rfl (Zl h9 z0)))), trivial⟩) ?_
   refine Zp (Zm _) (Zo rfl rfl ⟨(λ γ => Zw 5 0 rfl (λ _ h42 => Ze (Zn rfl (V_sliceFrom VT.sl24 h42 rfl (by omega) (by simp; omega) z0)))), trivial⟩) ?_
   refine Zp (Zm _) (Zo rfl rfl ⟨(λ γ => Zw 4 2 rfl (λ _ h41 => Zw 6 0 rfl (λ _ h43 => Ze (Zn rfl (Zk3 [.tmp 41, .tmp 43] VT.sl23 rfl rfl rfl (Zp2 h41 (Zp2 h43 Zq2)) rfl z0))))), trivial⟩) ?_
   refine Zp (Zm _) (Zo rfl rfl ⟨(λ γ => Zw 7 0 rfl (λ _ h44 => Ze (Zn rfl (Zx1 [.tmp 44] rfl (Zp2 h44 Zq2) VT.en61 (concat_c [p.args, tl] (by have := hb2 h16; rw [cat_two]; simp; omega)) z0)))), trivial⟩) ?_
   refine Zp (Zm _) (Zo rfl rfl ⟨(λ γ => Zw 8 0 rfl (λ _ h45 => Ze (Zn rfl (Zk3 [.tmp 45] VT.sl23 rfl rfl rfl (Zp2 h45 Zq2) rfl z0)))), trivial⟩) ?_
   refine Zp (Zw2 (λ x => .sl 1 (some x) ((narrow name n (rows.take k)).map patsX ++ [patsX (cat [p.args, tl])]))) (Zn2 rfl (λ γ => Zw 0 9 rfl (λ _ h37 => Zw 9 0 rfl (λ _ h46 => Ze (Zn rfl (Zi3 0 _ VT.sl23 h37 h46 rfl (by simp) (by simp; omega) (λ t47 => ⟨t47, ⟨t47, rfl, rfl⟩, rfl⟩))))))) ?_
   refine Zp (Zw2 (λ x => .sl 1 (some x) ((narrow name n (rows.take k)).map patsX ++ [patsX (cat [p.args, tl])]))) (Zo rfl rfl ⟨(λ γ => Zw 10 0 rfl (λ _ h47 => Ze (Zx2 h47 (λ e47 => Zn rfl (Zk e47 ⟨⟨_, rfl, rfl⟩, rfl⟩))))), trivial⟩) ?_
   refine DrawP_nil (λ γ => Zw 11 0 rfl (λ r7 h7 => Ze ?_))
   have e7 : r7 = some _ := Zd3 h7
   subst e7
   clear h7
   refine Zb1 (Zb1 (Zi (Zd ?_)))
   refine Zc (Zh2 rfl rfl (by omega) ?_)
   refine Zc (Zl rfl (Za (Zi ?_)))
   exact ⟨(k + 1, (γ 0)), (by (try simp only []); omega), (by omega), ⟨rfl, rfl, (by rw [take_snoc hr, narrow_snoc]; simp [narrow1, cat_two, *]; try rfl), rfl, rfl, rfl, trivial⟩, (Drops.buf (by rw [take_snoc hr, narrow_snoc]; simp [narrow1, cat_two, *]) (Zt2 _))⟩
  refine Zi1 (Zb1 (Zb1 (Zi (Zd ?_))))
  refine Zc (Zh2 rfl rfl (by omega) ?_)
  refine Zc (Zl rfl (Za (Zi ?_)))
  exact ⟨(k + 1, t), (by (try simp only []); omega), (by omega), ⟨rfl, rfl, (by rw [take_snoc hr, narrow_snoc]; simp [narrow1, cat_two, *]; try rfl), rfl, rfl, rfl, trivial⟩, (Drops.buf (by rw [take_snoc hr, narrow_snoc]; simp [narrow1, cat_two, *]) (Zt2 _))⟩
 refine Zt (Ze1 (Ze1 (Zc1 (Zi (Zb (Zd (Zc (Zl rfl (Zc (Zk rfl (Za (Zi (Zf1 ?_)))))))))))))
 refine Zg1 rfl (.strip rfl) ?_
 rw [take_end h13]
end Go.Proofs.YtpkbgamoboojaaaGreat.W3
end
section
namespace Go.Proofs.YtpkbgamoboojaaaGreat.W4
open Go.VL Go.PM Go.Proofs.YtpkbgamoboojaaaGreat W1 W2
theorem agree1_c (q p : Pat) (g : Nat) : VKeep Tryz.prog 79 [patX q, .ptr g 0] [.cells g 75 [.int p.kind, .str p.name, .int p.n, patsX p.args]] (.bool (decide (q.name = p.name))) := by
 refine VCalls_drops ?_
 refine V_start (nt := 9) Tryz.func79 rfl rfl rfl ?_
 refine Zb (Zd ?_)
 refine Zc (Zc2 rfl rfl (λ g2 => ?_))
 refine Zc (Zk rfl (Za (Zi (Zb (Zd (Zc (Zj VT.fa75_1 rfl (Zc (Zu 0 VT.ty9 rfl rfl rfl (Zc (Zj VT.fa75_1 rfl (Zc (Zu 1 VT.ty9 rfl rfl rfl (Zc (V_streq rfl rfl (Zc (Zk rfl (Za (Zi (Zf1 ?_))))))))))))))))))))
 refine Zg1 rfl (.tmp rfl) ?_
 exact ⟨_, Dd (Zt2 _), congrArg V.bool (Bool.eq_iff_iff.2 (by simp)), rfl⟩
theorem absent1_c (p : Pat) (n : Int) (g : Nat) : VKeep Tryz.prog 80 [patX p, .ptr g 0] [.cells g 3 [.int n]] (.bool (decide (p.n = n))) := by
 refine VCalls_drops ?_
 refine V_start (nt := 8) Tryz.func80 rfl rfl rfl ?_
 refine Zb (Zd ?_)
 refine Zc (Zc2 rfl rfl (λ g2 => ?_))
 refine Zc (Zk rfl (Za (Zi (Zb (Zd (Zc (Zj VT.fa75_2 rfl (Zc (Zu 0 VT.ty3 rfl rfl rfl (Zc (Zu 1 VT.ty3 rfl rfl rfl (Zc (Zj1 rfl rfl rfl (Zc (Zk rfl (Za (Zi (Zf1 ?_))))))))))))))))))
 refine Zg1 rfl (.tmp rfl) ?_
 exact ⟨_, Dd (Zt2 _), rfl, rfl⟩
theorem absent2_c (p : Pat) (c : ConSig) (g : Nat) : VKeep Tryz.prog 81 [patX p, .ptr g 0] [.cells g 95 [.str c.name, .sl 4 none c.args]] (.bool (decide (p.name = c.name))) := by
 refine VCalls_drops ?_
 refine V_start (nt := 9) Tryz.func81 rfl rfl rfl ?_
 refine Zb (Zd ?_)
 refine Zc (Zc2 rfl rfl (λ g2 => ?_))
 refine Zc (Zk rfl (Za (Zi (Zb (Zd (Zc (Zj VT.fa75_1 rfl (Zc (Zu 0 VT.ty9 rfl rfl rfl (Zc (Zj VT.fa95_0 rfl (Zc (Zu 1 VT.ty9 rfl rfl rfl (Zc (V_streq rfl rfl (Zc (Zk rfl (Za (Zi (Zf1 ?_))))))))))))))))))))
 refine Zg1 rfl (.tmp rfl) ?_
 exact ⟨_, Dd (Zt2 _), congrArg V.bool (Bool.eq_iff_iff.2 (by simp)), rfl⟩
theorem patIdxK_c {l : List Pat} {tok : Option Tok} {p : Pat -> Bool} {c : FuncId} {caps : List V} {o : Own} (hen : Enters Tryz.prog c) (hp : ∀ x ∈ l, VKeep Tryz.prog c (patX x :: caps) [o] (.bool (p x))) : VKeep Tryz.prog 29 [.sl 4 tok (l.map patV), .clo (.func c) caps] [o] (.int (idxOf p l)) := by
 refine V_start (nt := 19) Tryz.func29 rfl rfl rfl ?_
 refine Zb (Zd (Zc (Zk rfl (Za (Zi (Zb (Zb (Zd (Zc (Zl rfl ?_))))))))))
 refine Zc (Zd2 (n := l.length) Tryz.underlying24 rfl (by simp) (λ hl7 => ?_))
 refine Zc (Zl rfl (Za (Zi (Zs ?_))))
 refine Zi2 (ι := Nat) (λ k => l.length - k) (λ k => [(0, some (.sl 4 tok (l.map patV))), (1, some (.clo (.func c) caps)), (7, some (.int l.length)), (8, some (.int k))]) (λ k => [o]) (λ k => k <= l.length /\ (l.take k).any p = false) 0 ⟨Yi _, rfl⟩ ⟨rfl, rfl, rfl, rfl, trivial⟩ (Zt2 _) ?_
 rintro k hA
 change k <= l.length /\ (l.take k).any p = false at hA
 obtain ⟨hk, hany⟩ := hA
 refine Zb (Zd (Zc (Zj1 rfl rfl rfl (Za (Zi (Zb ?_))))))
 refine Zn1 rfl (λ h9 => ?_) (λ h9 => ?_)
 .
  obtain ⟨x, hr⟩ := get_of_lt l k h9
  refine Zi1 (Zi (Zb (Zs (Zb (Zd (Zc (Zl rfl (Zc (Zk rfl (Za (Zi (Zb (Zd (Zc (Zl rfl (Zc (Zl rfl (Zc (Zl rfl ?_)))))))))))))))))))
  refine Zc (Zz (el := patX x) VT.sl24 rfl rfl (by omega) (get_patS hr) (λ a14 => ?_))
  refine Zc (Za2 VT.ty75 rfl rfl ?_)
  refine Zc (V_callCloK 0 [.tmp 15] rfl rfl rfl hen rfl (hp x (Ya hr)) ?_)
  refine Za (Zi ?_)
  refine Zr1 rfl (λ h16 => ?_) (λ h16 => ?_)
  .
   refine Zb (Zd (Zc (Zl rfl (Zc (Zk rfl (Za (Zi (Zf1 ?_))))))))
   refine Za1 (Zd1 (Zd1 (Za1 (Zd1 (Zg1 rfl (.tmp rfl) ?_)))))
   rw [idxOf_at p hr hany h16]
   exact ⟨rfl, rfl⟩
  refine Zi1 (Zb1 (Zi (Zd ?_)))
  refine Zc (Zh2 rfl rfl (by omega) ?_)
  refine Zc (Zl rfl (Za (Zi ?_)))
  exact ⟨k + 1, (by (try simp only []); omega), ⟨by omega, any_snoc hr hany h16⟩, ⟨rfl, rfl, rfl, rfl, trivial⟩, (Dk (Zt2 _))⟩
 refine Zt (Ze1 (Ze1 (Zc1 (Zi (Zb (Zd (Zc (Zk rfl (Za (Zi (Zf1 ?_)))))))))))
 refine Zg1 rfl (.tmp rfl) ?_
 have hke : k = l.length := by omega
 subst hke
 rw [Yc] at hany
 rw [idxOf_none p hany]
 exact ⟨rfl, rfl⟩
theorem patAnyK_c {l : List Pat} {tok : Option Tok} {p : Pat -> Bool} {c : FuncId} {caps : List V} {o : Own} (hen : Enters Tryz.prog c) (hp : ∀ x ∈ l, VKeep Tryz.prog c (patX x :: caps) [o] (.bool (p x))) : VKeep Tryz.prog 78 [.sl 4 tok (l.map patV), .clo (.func c) caps] [o] (.bool (l.any p)) := by
 refine V_start (nt := 9) Tryz.func78 rfl rfl rfl ?_
 refine Zb (Zd (Zc (Zk rfl (Za (Zi (Zb (Zd (Zc (Zl rfl (Zc (Zl rfl ?_)))))))))))
 refine Zc (V_callK 0 [.tmp 5, .tmp 6] rfl rfl VT.en29 rfl (patIdxK_c hen hp) ?_)
 refine Zc (Zj1 rfl rfl rfl (Zc (Zk rfl (Za (Zi (Zf1 ?_))))))
 refine Zg1 rfl (.tmp rfl) ?_
 rw [idxOf_ge]
 exact ⟨rfl, rfl⟩
theorem patIdxR_c (l : List Pat) (rest : List V) (g cap : Nat) (hc : l.length <= 1000000) : VKeep Tryz.prog 29 [.raw (.slice (some ⟨g, 0, none⟩) l.length cap), .clo (.func 40) []] [.cells g 75 ((l.map patV).flatMap V.leaves ++ rest)] (.int (idxOf free l)) := by
 refine V_start (nt := 19) Tryz.func29 rfl rfl rfl ?_
 refine Zb (Zd (Zc (Zk rfl (Za (Zi (Zb (Zb (Zd (Zc (Zl rfl ?_))))))))))
 refine Zc (V_len_raw Tryz.underlying24 rfl ?_)
 refine Zc (Zl rfl (Za (Zi (Zs ?_))))
 refine Zi2 (ι := Nat) (λ k => l.length - k) (λ k => [(0, some (.raw (.slice (some ⟨g, 0, none⟩) l.length cap))), (1, some (.clo (.func 40) [])), (7, some (.int l.length)), (8, some (.int k))]) (λ k => [.cells g 75 ((l.map patV).flatMap V.leaves ++ rest)]) (λ k => k <= l.length /\ (l.take k).any free = false) 0 ⟨Yi _, rfl⟩ ⟨rfl, rfl, rfl, rfl, trivial⟩ (Zt2 _) ?_
 rintro k hA
 change k <= l.length /\ (l.take k).any free = false at hA
 obtain ⟨hk, hany⟩ := hA
 refine Zb (Zd (Zc (Zj1 rfl rfl rfl (Za (Zi (Zb ?_))))))
 refine Zn1 rfl (λ h9 => ?_) (λ h9 => ?_)
 .
  obtain ⟨x, hr⟩ := get_of_lt l k h9
  refine Zi1 (Zi (Zb (Zs (Zb (Zd (Zc (Zl rfl (Zc (Zk rfl (Za (Zi (Zb (Zd (Zc (Zl rfl (Zc (Zl rfl (Zc (Zl rfl ?_)))))))))))))))))))
  refine Zc (Zr2 VT.sl24 rfl rfl (by omega) (by omega) ?_)
  refine Zc (Ze3 0 k VT.ty75 rfl (by simp) rfl rfl (pats_fit l) (get_patS hr) ?_)
  refine Zc (V_callCloP [.tmp 15] rfl rfl rfl VT.en40 (free_c x) ?_)
  refine Za (Zi ?_)
  refine Zr1 rfl (λ h16 => ?_) (λ h16 => ?_)
  .
   refine Zb (Zd (Zc (Zl rfl (Zc (Zk rfl (Za (Zi (Zf1 ?_))))))))
   refine Za1 (Zd1 (Zd1 (Za1 (Zd1 (Zg1 rfl (.tmp rfl) ?_)))))
   rw [idxOf_at free hr hany h16]
   exact ⟨rfl, rfl⟩
  refine Zi1 (Zb1 (Zi (Zd ?_)))
  refine Zc (Zh2 rfl rfl (by omega) ?_)
  refine Zc (Zl rfl (Za (Zi ?_)))
  exact ⟨k + 1, (by (try simp only []); omega), ⟨by omega, any_snoc hr hany h16⟩, ⟨rfl, rfl, rfl, rfl, trivial⟩, (Dk (Zt2 _))⟩
 refine Zt (Ze1 (Ze1 (Zc1 (Zi (Zb (Zd (Zc (Zk rfl (Za (Zi (Zf1 ?_)))))))))))
 refine Zg1 rfl (.tmp rfl) ?_
 have hke : k = l.length := by omega
 subst hke
 rw [Yc] at hany
 rw [idxOf_none free hany]
 exact ⟨rfl, rfl⟩
theorem delete_c (l : List Pat) (rest : List V) (g cap : Nat) (hc : l.length <= 1000000) (hcap : l.length <= cap) : VCalls Tryz.prog 76 [.raw (.slice (some ⟨g, 0, none⟩) l.length cap), .clo (.func 40) []] [.cells g 75 ((l.map patV).flatMap V.leaves ++ rest)] λ r S' => ∃ rest', r = .raw (.slice (some ⟨g, 0, none⟩) (l.filter nf).length cap) /\ S' = [.cells g 75 (((l.filter nf).map patV).flatMap V.leaves ++ rest')] := by
 refine VCalls_drops ?_
 refine V_start (nt := 42) Tryz.func76 rfl rfl rfl ?_
 refine Zb (Zd (Zc (Zk rfl (Za (Zi (Zb (Zd (Zc (Zl rfl (Zc (Zl rfl ?_)))))))))))
 refine Zc (V_callK 0 [.tmp 8, .tmp 9] rfl rfl VT.en29 rfl (patIdxR_c l rest g cap hc) ?_)
 have hidx := idxOf_range free l
 refine Zc (Zk rfl (Za (Zi (Zb (Zb (Zd (Zc (Zl rfl (Zc (Zj1 rfl rfl rfl (Za (Zi ?_))))))))))))
 refine Zl1 rfl (λ h12 => ?_) (λ h12 => ?_)
 .
  have hno : l.any free = false := by rcases hidx with ⟨_, h⟩ | ⟨k, x, h1, _⟩; exact h; omega
  refine Zb (Zd (Zc (Zl rfl (Zc (Zk rfl (Za (Zi (Zf1 ?_))))))))
  refine Zd1 (Zg1 rfl (.tmp rfl) ?_)
  exact ⟨_, Zt2 _, rest, by rw [filter_all hno], by rw [filter_all hno]⟩
 obtain ⟨i0, x0, hi0, hx0, hf0, ha0⟩ : ∃ k x, idxOf free l = (k : Nat) /\ l[k]? = some x /\ free x = true /\ (l.take k).any free = false := by rcases hidx with ⟨h, _⟩ | h; exact absurd h h12; exact h
 have hi0l := (List.getElem?_eq_some_iff.1 hx0).1
 refine Zi1 (Zi (Zb (Zb (Zd (Zc (Zl rfl ?_))))))
 refine Zc (Zh2 rfl rfl (by omega) ?_)
 refine Zc (Zk rfl (Za (Zi (Zs ?_))))
 refine Zi2 (ι := Nat × Nat × List Pat) (λ (i, j, cur) => l.length - j) (λ (i, j, cur) => [(0, some (.raw (.slice (some ⟨g, 0, none⟩) l.length cap))), (1, some (.clo (.func 40) [])), (5, some (.int i)), (6, some (.int j))]) (λ (i, j, cur) => [.cells g 75 ((cur.map patV).flatMap V.leaves ++ rest)]) (λ (i, j, cur) => DelInv l i j cur) (i0, i0 + 1, l) (DelInv.init hx0 hf0 ha0) ⟨rfl, rfl, (by rw [<- hi0]; rfl), (by show some (V.int (idxOf free l + 1)) = _; rw [hi0]; rfl), trivial⟩ (Dk (Zt2 _)) ?_
 rintro ⟨i, j, cur⟩ hA
 change DelInv l i j cur at hA
 have hij := hA.le
 have hjl := hA.le2
 have hcl := hA.len
 have hfl := flat_len (pats_fit cur)
 refine Zb (Zb (Zd (Zc (Zl rfl (Zc (Zl rfl ?_))))))
 refine Zc (V_len_raw Tryz.underlying24 rfl ?_)
 refine Zc (Zj1 rfl rfl rfl (Za (Zi ?_)))
 refine Zn1 rfl (λ h19 => ?_) (λ h19 => ?_)
 .
  obtain ⟨v, hr⟩ := get_of_lt l j h19
  have hg := hA.get hr
  refine Zi1 (Zi (Zb (Zs (Zb (Zd (Zc (Zl rfl (Zc (Zl rfl ?_)))))))))
  refine Zc (Zr2 VT.sl24 rfl rfl (by omega) (by omega) ?_)
  refine Zc (Ze3 0 j VT.ty75 rfl (by simp) rfl rfl (pats_fit cur) (get_patS hg) ?_)
  refine Zc (Zb2 VT.zr75 _ rfl rfl (λ g7 => ?_))
  refine Zc (Zx 0 VT.ty75 rfl rfl rfl rfl rfl (Za (Zi (Zb (Zd (Zc (Zl rfl (Zc (Zv 0 VT.ty75 rfl rfl rfl ?_)))))))))
  refine Zc (V_callCloP [.tmp 27] rfl rfl rfl VT.en40 (free_c v) ?_)
  refine Zc (Zl2 rfl (Za (Zi ?_)))
  refine Zo1 rfl (λ h29 => ?_) (λ h29 => ?_)
  .
   refine Zb (Zd (Zc (Zl rfl (Zc (Zl rfl (Zc (Zv 0 VT.ty75 rfl rfl rfl ?_)))))))
   refine Zc (Zr2 VT.sl24 rfl rfl (by omega) (by omega) ?_)
   refine Zc (Zg3 1 i VT.ty75 rfl (by simp) rfl rfl rfl rfl (pats_fit cur) (by simp; omega) ?_)
   refine Za (Zi (Zd (Zc (Zl rfl ?_))))
   refine Zc (Zh2 rfl rfl (by omega) ?_)
   refine Zc (Zk rfl (Za (Zb1 (Zi (Zd (Zc (Zl rfl ?_)))))))
   refine Zc (Zh2 rfl rfl (by omega) ?_)
   refine Zc (Zk rfl (Za (Zi ?_)))
   exact ⟨(i + 1, j + 1, cur.set i v), (by (try simp only []); omega), (by first | exact hA.keep hr h29 | exact hA.skip hr h29), ⟨rfl, rfl, rfl, rfl, trivial⟩, (Dd (Drops.keepE (by first | rfl | (rw [List.map_set, patV_eq]; rfl)) (Zt2 _)))⟩
  refine Zi1 (Zb1 (Zi (Zd (Zc (Zl rfl ?_)))))
  refine Zc (Zh2 rfl rfl (by omega) ?_)
  refine Zc (Zk rfl (Za (Zi ?_)))
  exact ⟨(i, j + 1, cur), (by (try simp only []); omega), (by first | exact hA.keep hr h29 | exact hA.skip hr h29), ⟨rfl, rfl, rfl, rfl, trivial⟩, (Dd (Drops.keepE (by first | rfl | (rw [List.map_set, patV_eq]; rfl)) (Zt2 _)))⟩
 obtain ⟨hfin, hil⟩ := hA.fin (by omega)
 refine Zt (Ze1 (Ze1 (Zc1 (Zi (Zb (Zd (Zc (Zl rfl (Zc (Zl rfl ?_))))))))))
 refine Zc (V_slice_rawFrom VT.sl24 rfl rfl (by omega) (by omega) (by omega) (by omega) ?_)
 refine Zc (V_clear_row 0 VT.sl24 (by decide) rfl rfl (by rw [Yd, hfl, Yh, Int.toNat_natCast]; omega) (λ r11 rest11 => ?_))
 refine Za (Zi (Zb (Zd (Zc (Zl rfl (Zc (Zl rfl ?_)))))))
 refine Zc (V_slice_rawTo VT.sl24 rfl rfl (by omega) (by omega) ?_)
 refine Zc (Zk rfl (Za (Zi (Zf1 ?_))))
 refine Zg1 rfl (.tmp rfl) ?_
 refine ⟨_, Zt2 _, rest11, by rw [<- hil]; simp, ?_⟩
 rw [<- hfin]
 simp only [List.set_cons_zero]
 rw [Nat.zero_add, Int.toNat_natCast, flat_take (pats_fit cur) (by simp; omega), List.map_take]
end Go.Proofs.YtpkbgamoboojaaaGreat.W4
end
