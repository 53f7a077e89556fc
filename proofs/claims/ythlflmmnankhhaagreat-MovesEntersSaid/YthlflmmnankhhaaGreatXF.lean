import Derived.Test.YthlflmmnankhhaaGreatXA
set_option maxRecDepth 100000
set_option maxHeartbeats 32000000
open Go.VL.Drops renaming keep → Dk, drop → Dd
set_option linter.all false
open List renaming append_nil → Ya, replicate → Yb, mem_of_getElem? → Yc, length_map → Yd, drop_length → Ye, length_set → Yf, length_append → Yg, getElem?_map → Yh, getElem?_eq_some_iff → Yi, append_assoc → Yj, nodup_cons → Yk, mem_cons_self → Yl, map_append → Ym, map_set → Yn, length_take → Yo, length_replicate → Yp, nodup_nil → Yq, take_of_length_le → Yr, flatMap_cons → Ys, mem_map → Yt, mem_cons_of_mem → Yu, length_singleton → Yv, replicate_succ → Yw, foldl_cons → Yx, set_append_right → Yy, map_replicate → Yz, mem_singleton → Yaa, getElem?_set_ne → Yab
open Nat renaming le_refl → Yac, zero_le → Yad, ble_eq_true_of_le → Yae, sub_self → Yaf
open Int renaming toNat_natCast → Yag, le_refl → Yah
section
namespace Go.Proofs.YthlflmmnankhhaaGreat.X81
open Go.VL Go.SM Go.Proofs.YthlflmmnankhhaaGreat XS X1 X2 X3 X4 X5 X6 X7 X8 X9 X10 X12 X13 X20 X25 X26
theorem skI_get {f : SFunc} {k : Nat} {b : SBlock} (h : f.blocks[k]? = some b) : (skL 0 f.blocks).take (k + 1) = (skL 0 f.blocks).take k ++ [skB k b] := take_snoc (skF_get h)
theorem skT_0 {b : SBlock} (h : b.term.kind = 0) : skT b = ⟨4, 0, 3, [], []⟩ := if_pos h
theorem skT_1 {b : SBlock} (h : ¬ b.term.kind = 0) : skT b = ⟨b.term.kind, 0, b.term.n, b.term.cases, b.term.to⟩ := if_neg h
theorem skB_T {k : Nat} {b : SBlock} (h : (skT b).kind = 2 \/ (skT b).kind = 3) : skB k b = ⟨[], [⟨k, 0, 0, []⟩], ⟨(skT b).kind, k, (skT b).n, (skT b).cases, (skT b).to⟩⟩ := if_pos h
theorem skB_F {k : Nat} {b : SBlock} (h2 : ¬ (skT b).kind = 2) (h3 : ¬ (skT b).kind = 3) : skB k b = ⟨[], [], skT b⟩ := if_neg (λ h => h.elim h2 h3)
theorem skeleton_c (f : SFunc) (h128 : f.blocks.length <= 1000) : VPure Tryz.prog 33 [funcV f] (funcV (skF f)) := by
 have hsl : (skL 0 f.blocks).length = f.blocks.length := skL_len ..
 refine V_start (nt := 60) Tryz.func33 rfl rfl rfl ?_
 refine Zb<|Zd<|Zc<|Zc2 rfl rfl<|λ g1 => (Zc<|Zb2 VT.zr31 _ rfl rfl<|λ g2 => (Za<|Zi<|Zb<|Zd<|Zc<|Zf2 [0] [.const (.int .i64 (-1))] VT.st31 rfl rfl rfl rfl<|Zc<|Zb2 VT.zr31 _ rfl rfl<|λ g3 => (Zc<|Zx 0 VT.ty31 rfl rfl rfl rfl rfl<|Za<|Zi<|VW_cells 0 (ls' := [.int (-1), .sl 7 (some .nil) []]) rfl ⟨V.le.refl _, rfl, V.le.nilTok 7, rfl, trivial⟩<|VW_nilBuf 40 7<|Zb<|Zb<|Zd<|Zc<|Zj VT.fa31_1 rfl<|Zc<|Zu 3 VT.ty29 rfl rfl rfl<|Zc<|Zd2 (n := f.blocks.length) Tryz.underlying29 rfl (by simp)<|λ hl11 => (Zc<|Zl rfl<|Za<|Zi<|Zs<|Zi2 (ι := Nat × Tok) (λ (k, tok) => f.blocks.length - k) (λ (k, tok) => [(2, some (.ptr g2 0)), (3, some (.ptr g3 0)), (10, some (blocksX f.blocks)), (11, some (.int f.blocks.length)), (12, some (.int k))]) (λ (k, tok) => [.buf tok 40 7 k, .cells g3 31 [.int (-1), .sl 7 (some tok) (((skL 0 f.blocks).take k).map blockV)], .cells g2 31 VT.zs31]) (λ (k, tok) => k <= f.blocks.length) (0, .nil) (Yad _) ⟨rfl, rfl, rfl, rfl, rfl, trivial⟩ (Drops.buf (by simp)<|Dk<|Dk<|Dd<|Zt2 _) ?_))))
 rintro ⟨k, tok⟩ hk
 change k <= f.blocks.length at hk
 refine Zb<|Zd<|Zc<|Zj1 rfl rfl rfl<|Za<|Zi<|Zb<|Zn1 rfl (λ h13 => ?_)<|λ h13 => ?_
 .
  obtain ⟨b, hb⟩ := get_of_lt f.blocks k h13
  refine Zi1<|Zi<|Zb<|Zs<|Zb<|Zd<|Zc<|Zl rfl<|Zc<|Zz (el := blockV b) VT.sl29 rfl rfl (by omega) (get_mapS _ hb)<|λ a15 => (Zc<|Za2 VT.ty40 rfl rfl<|Zc<|Zb2 VT.zr40 _ rfl rfl<|λ g5 => (Zc<|Zk rfl<|Zc<|Zx 0 VT.ty40 rfl rfl rfl rfl rfl<|Za<|Zi<|Zb<|Zd<|Zc<|Zj VT.fa40_2 rfl<|Zc<|Zj VT.fa38_0 rfl<|Zc<|Zu 0 VT.ty3 rfl rfl rfl<|Zc<|Zj VT.fa40_2 rfl<|Zc<|Zj VT.fa38_2 rfl<|Zc<|Zu 0 VT.ty3 rfl rfl rfl<|Zc<|Zj VT.fa40_2 rfl<|Zc<|Zj VT.fa38_3 rfl<|Zc<|Zu 0 VT.ty32 rfl rfl rfl<|Zc<|Zj VT.fa40_2 rfl<|Zc<|Zj VT.fa38_4 rfl<|Zc<|Zu 0 VT.ty36 rfl rfl rfl<|Zc<|Zf2 [0, 2, 3, 4] [.tmp 19, .tmp 22, .tmp 25, .tmp 28] VT.st38 rfl rfl rfl rfl<|Zc<|Zb2 VT.zr38 _ rfl rfl<|λ g6 => (Zc<|Zx 0 VT.ty38 rfl rfl rfl rfl rfl<|Za<|Zi<|VW_cutF [(2, some (.ptr g2 0)), (3, some (.ptr g3 0)), (10, some (blocksX f.blocks)), (11, some (.int f.blocks.length)), (12, some (.int k)), (4, some (.int k)), (6, some (.ptr g6 0))] [.cells g6 38 (termV (skT b)).leaves, .buf tok 40 7 k, .cells g3 31 [.int (-1), .sl 7 (some tok) (((skL 0 f.blocks).take k).map blockV)], .cells g2 31 VT.zs31] ?_ ?_)))
  .
   refine Zb<|Zd<|Zc<|Zj VT.fa40_2 rfl<|Zc<|Zj VT.fa38_0 rfl<|Zc<|Zu 1 VT.ty3 rfl rfl rfl<|Zc<|Zj1 rfl rfl rfl<|Za<|Zi<|Zl1 rfl (λ h33 => ?_)<|λ h33 => ?_
   .
    refine Zd<|Zc<|Zu2 (Zf2 [0, 2] [.const (.int .i64 (4)), .const (.int .i64 (3))] VT.st38 rfl rfl rfl rfl ⟨rfl, rfl⟩) ((by rw [skT_0 h33]; exact V.le.agg ⟨V.le.refl _, rfl, V.le.refl _, rfl, V.le.refl _, rfl, V.le.nil 1, rfl, V.le.nil 2, rfl, trivial⟩ : V.le _ (termV<|skT b)))<|Zc<|Zx 0 VT.ty38 rfl rfl rfl rfl rfl<|Za<|Zi ?_
    exact ⟨⟨rfl, rfl, rfl, rfl, rfl, rfl, rfl, trivial⟩, (Drops.keepE (congrArg (Own.cells g6 38) (by first | rfl | (rw [skT_1 h33]; rfl))) (Dd (Drops.buf (by simp) (Dk (Dk (Zt2 _))))))⟩
   refine Zi1<|Zi ?_
   exact ⟨⟨rfl, rfl, rfl, rfl, rfl, rfl, rfl, trivial⟩, (Drops.keepE (congrArg (Own.cells g6 38) (by first | rfl | (rw [skT_1 h33]; rfl))) (Dd (Drops.buf (by simp) (Dk (Dk (Zt2 _))))))⟩
  refine Zb<|Zd<|Zc<|Zv 0 VT.ty38 rfl rfl rfl<|Zc<|Zu2 (Zf2 [2] [.tmp 35] VT.st40 rfl rfl rfl rfl ⟨rfl, rfl⟩) ((by exact V.le.agg ⟨V.le.nil 1, rfl, V.le.nil 4, rfl, V.le.refl _, rfl, V.le.refl _, rfl, V.le.refl _, rfl, V.le.refl _, rfl, V.le.refl _, rfl, trivial⟩ : V.le _ (blockV ⟨[], [], skT b⟩)))<|Zc<|Zb2 VT.zr40 _ rfl rfl<|λ g7 => (Zc<|Zx 0 VT.ty40 rfl rfl rfl rfl rfl<|Za<|Zi<|VW_cutF [(2, some (.ptr g2 0)), (3, some (.ptr g3 0)), (10, some (blocksX f.blocks)), (11, some (.int f.blocks.length)), (12, some (.int k)), (7, some (.ptr g7 0))] [.cells g7 40 (blockV (skB k b)).leaves, .buf tok 40 7 k, .cells g3 31 [.int (-1), .sl 7 (some tok) (((skL 0 f.blocks).take k).map blockV)], .cells g2 31 VT.zs31] ?_ ?_)
  .
   refine Zb<|Zd<|Zc<|Zj VT.fa38_0 rfl<|Zc<|Zu 1 VT.ty3 rfl rfl rfl<|Zc<|Zj1 rfl rfl rfl<|Zc<|Zl rfl<|Zj2 (q := 40) rfl (λ hq40 => ?_)<|λ hq40 => ?_
   .
    have hsk := skB_T (k := k) (b := b) (.inl (by simpa using hq40))
    refine Zk0 hq40<|Zk0 hq40<|Zk0 hq40<|Zc<|Zs1 rfl hq40 rfl<|Za<|Zi<|Zp1 rfl rfl<|Zb<|Zd<|Zc<|Zl rfl<|Zc<|Zu2 (Zf2 [0, 1] [.tmp 45, .const (.int .i64 (0))] VT.st42 rfl rfl rfl rfl ⟨rfl, rfl⟩) ((by exact V.le.agg ⟨V.le.refl _, rfl, V.le.refl _, rfl, V.le.refl _, rfl, V.le.nil 1, rfl, trivial⟩ : V.le _ (insV ⟨(k : Int), 0, 0, []⟩)))<|Zc<|Zk3 [.tmp 46] VT.sl35 rfl rfl rfl rfl rfl<|Zc<|Zj VT.fa40_1 rfl<|Zc<|Zy 0 VT.ty35 rfl rfl rfl rfl rfl<|Za<|Zi<|Zd<|Zc<|Zl rfl<|Zc<|Zj VT.fa40_2 rfl<|Zc<|Zj VT.fa38_1 rfl<|Zc<|Zy 0 VT.ty3 rfl rfl rfl rfl rfl<|Za<|Zi ?_
    exact ⟨⟨rfl, rfl, rfl, rfl, rfl, rfl, trivial⟩, (Drops.keepE (congrArg (Own.cells g7 40) (by rw [hsk]; rfl)) (Dd (Drops.buf (by simp) (Dk (Dk (Zt2 _))))))⟩
   have hx40 : ¬ (skT b).kind = 2 := by simpa using hq40
   refine Zc (Zj VT.fa38_0 rfl ?_)<|Zy0 hq40
   refine Zc (Zu 1 VT.ty3 rfl rfl rfl ?_)<|Zy0 hq40
   refine Zc (Zj1 rfl rfl rfl ?_)<|Zy0 hq40
   refine Zc<|Zt1 rfl hq40 rfl<|Za<|Zi<|Zl1 rfl (λ h44 => ?_)<|λ h44 => ?_
   .
    have hsk := skB_T (k := k) (b := b) (.inr h44)
    refine Zb<|Zd<|Zc<|Zl rfl<|Zc<|Zu2 (Zf2 [0, 1] [.tmp 45, .const (.int .i64 (0))] VT.st42 rfl rfl rfl rfl ⟨rfl, rfl⟩) ((by exact V.le.agg ⟨V.le.refl _, rfl, V.le.refl _, rfl, V.le.refl _, rfl, V.le.nil 1, rfl, trivial⟩ : V.le _ (insV ⟨(k : Int), 0, 0, []⟩)))<|Zc<|Zk3 [.tmp 46] VT.sl35 rfl rfl rfl rfl rfl<|Zc<|Zj VT.fa40_1 rfl<|Zc<|Zy 0 VT.ty35 rfl rfl rfl rfl rfl<|Za<|Zi<|Zd<|Zc<|Zl rfl<|Zc<|Zj VT.fa40_2 rfl<|Zc<|Zj VT.fa38_1 rfl<|Zc<|Zy 0 VT.ty3 rfl rfl rfl rfl rfl<|Za<|Zi ?_
    exact ⟨⟨rfl, rfl, rfl, rfl, rfl, rfl, trivial⟩, (Drops.keepE (congrArg (Own.cells g7 40) (by rw [hsk]; rfl)) (Dd (Drops.buf (by simp) (Dk (Dk (Zt2 _))))))⟩
   have hsk := skB_F (k := k) hx40 h44
   refine Zi1<|Zi ?_
   exact ⟨⟨rfl, rfl, rfl, rfl, rfl, rfl, trivial⟩, (Drops.keepE (congrArg (Own.cells g7 40) (by rw [hsk]; rfl)) (Dd (Drops.buf (by simp) (Dk (Dk (Zt2 _))))))⟩
  refine Zd<|Zc<|Zj VT.fa31_1 rfl<|Zc<|Zu 2 VT.ty29 rfl rfl rfl<|Zc<|Zv 0 VT.ty40 rfl rfl rfl<|Zc<|Zk3 [.tmp 54] VT.sl29 rfl rfl rfl rfl rfl<|Zc<|Zi3 1 _ VT.sl29 rfl rfl rfl (by simp; omega) (by simp; omega)<|λ t56 => (Zc<|Zj VT.fa31_1 rfl<|Zc<|Zy 2 VT.ty29 rfl rfl rfl rfl rfl<|Za<|Zb1<|Zi<|Zd<|Zc<|Zh2 rfl rfl (by omega)<|Zc<|Zl rfl<|Za<|Zi ?_)
  exact ⟨(k + 1, t56), (by (try simp only []); omega), (by omega), ⟨rfl, rfl, rfl, rfl, rfl, trivial⟩, (Dd (Drops.buf (by simp; omega) (Drops.keepE (congrArg (λ l => Own.cells g3 31 [.int (-1), .sl 7 (some t56) (l)]) (by rw [skI_get hb, Ym]; rfl)) (Dk (Zt2 _)))))⟩
 have hke : k = f.blocks.length := by omega
 subst hke
 refine Zt<|Ze1<|Ze1<|Zc1<|Zi<|VW_cells 1 (ls' := [.int (-1), blocksX (skF f).blocks]) rfl ⟨V.le.refl _, rfl, (by rw [show (skL 0 f.blocks).take f.blocks.length = (skF f).blocks from Yr (by rw [skL_len]; exact Yac _)]; exact V.le.strip), rfl, trivial⟩<|Zb<|Zd<|Zc<|Zv 1 VT.ty31 rfl rfl rfl<|Zc<|Zx 2 VT.ty31 rfl rfl rfl rfl rfl<|Za<|Zi<|Zf1<|Zg1 rfl (.agg (i := 2) VT.ty31 rfl rfl rfl) ?_
 rfl
end Go.Proofs.YthlflmmnankhhaaGreat.X81
end
section
namespace Go.Proofs.YthlflmmnankhhaaGreat.X82
open Go.VL Go.SM Go.Proofs.YthlflmmnankhhaaGreat XS X1 X2 X3 X4 X5 X6 X7 X8 X9 X10 X12 X13 X20 X25 X26 X81
abbrev boolsB (l : List Bool) : V := .sl 1 none (l.map V.bool)
theorem flatB (l : List Bool) : (l.map V.bool).flatMap V.leaves = l.map V.bool := by
 induction l with
 | nil => rfl
 | cons a l ih => rw [List.map_cons, Ys, ih]; rfl
theorem flat_yB (l : List Bool) : ∀ y ∈ l.map V.bool, y.flat = true := λ y hy => by
 obtain ⟨n, _, rfl⟩ := Yt.1 hy
 rfl
theorem fitsB (l : List Bool) : ∀ x ∈ l.map V.bool, x.fits 1 = true /\ ((∃ ls, x = .agg ls) \/ x.leaf = true) := λ x hx => by
 obtain ⟨n, _, rfl⟩ := Yt.1 hx
 exact ⟨rfl, .inr rfl⟩
theorem getB {l : List Bool} {k : Nat} {b : Bool} (h : l[k]? = some b) : (l.map V.bool)[k]? = some (V.bool b) := by rw [Yh, h]; rfl
theorem setBs (l : List Bool) (k : Nat) (b : Bool) (rest : List V) : (l.map V.bool).set k (V.bool b) ++ rest = (l.set k b).map V.bool ++ rest := by rw [Yn]
theorem repB (n : Nat) : (Yb n (V.raw (.bool false))).flatMap V.leaves = Yb n (V.bool false) := by
 induction n with
 | zero => rfl
 | succ n ih => rw [Yw, Ys, ih]; rfl
structure VarsOk (many : Nat) (b : SBlock) : Prop where
 arg : 0 <= b.term.arg /\ b.term.arg < many
 to : ∀ i ∈ b.ins, 0 <= i.to /\ i.to < many
 args : ∀ i ∈ b.ins, ∀ a ∈ i.args, 0 <= a /\ a < many
theorem rev_step {l : List SIns} {m : Nat} {i : SIns} (h : l[m]? = some i) (s : List Bool) : (l.take (m + 1)).reverse.foldl befI s = (l.take m).reverse.foldl befI (befI s i) := by
 rw [take_snoc h, List.reverse_append, List.reverse_singleton, List.singleton_append, Yx]
def orP (s t : List Bool) (j : Nat) : List Bool := (orB s t).take j ++ s.drop j
theorem orP_0 {s t : List Bool} : orP s t 0 = s := by simp [orP]
theorem orP_len {s t : List Bool} (h : s.length = t.length) {j : Nat} (hj : j <= s.length) : (orP s t j).length = s.length := by
 unfold orP
 rw [Yg, Yo, List.length_drop, orB_len h]
 omega
theorem orP_end {s t : List Bool} (h : s.length = t.length) : orP s t s.length = orB s t := by
 unfold orP
 rw [Ye, Ya, Yr (by rw [orB_len h]; exact Yac _)]
theorem orP_get {s t : List Bool} {j : Nat} {x : Bool} (h : s.length = t.length) (hx : s[j]? = some x) : (orP s t j)[j]? = some x := by
 have hj := (Yi.1 hx).1
 unfold orP
 rw [List.getElem?_append_right (by rw [Yo, orB_len h]; omega), Yo, orB_len h, Nat.min_eq_left (by omega), Yaf, List.getElem?_drop]
 exact hx
theorem orP_set {s t : List Bool} {j : Nat} {x y : Bool} (h : s.length = t.length) (hx : s[j]? = some x) (hy : t[j]? = some y) : (orP s t j).set j (x || y) = orP s t (j + 1) := by
 have hj := (Yi.1 hx).1
 unfold orP
 rw [Yy _ _ (by rw [Yo, orB_len h]; omega), Yo, orB_len h, Nat.min_eq_left (by omega), Yaf, drop_cons hx, List.set_cons_zero, take_snoc (orB_get hx hy), Yj]
 rfl
theorem fitsN (Nd : Nds) : ∀ x ∈ Nd.map boolsB, x.fits 1 = true /\ ((∃ ls, x = .agg ls) \/ x.leaf = true) := λ x hx => by
 obtain ⟨n, _, rfl⟩ := Yt.1 hx
 exact ⟨rfl, .inr rfl⟩
theorem flatN (Nd : Nds) : (Nd.map boolsB).flatMap V.leaves = Nd.map boolsB := by
 induction Nd with
 | nil => rfl
 | cons a l ih => rw [List.map_cons, Ys, ih]; rfl
theorem getN {Nd : Nds} {k : Nat} {s : List Bool} (h : Nd[k]? = some s) : (Nd.map boolsB)[k]? = some (boolsB s) := by rw [Yh, h]; rfl
theorem ndAt_get {Nd : Nds} {k : Nat} {s : List Bool} (h : Nd[k]? = some s) : ndAt Nd k = s := by
 unfold ndAt
 rw [h]
 rfl
theorem nilN (n : Nat) : (Yb n (V.raw (.slice none 0 0))).flatMap V.leaves = Yb n V.nilSl := by
 induction n with
 | zero => rfl
 | succ n ih => rw [Yw, Ys, ih]; rfl
theorem zeroB (n : Nat) : V.sl 1 none (Yb n (V.bool false)) = boolsB (Yb n false) := by
 unfold boolsB
 rw [Yz]
def fillN (many k n : Nat) : List V := Yb k (boolsB (Yb many false)) ++ Yb (n - k) V.nilSl
theorem fillN_0 (many n : Nat) : fillN many 0 n = Yb n V.nilSl := by simp [fillN]
theorem fillN_len {many k n : Nat} (h : k <= n) : (fillN many k n).length = n := by
 unfold fillN
 rw [Yg, Yp, Yp]
 omega
theorem fillN_set {many k n : Nat} (h : k < n) : (fillN many k n).set k (boolsB (Yb many false)) = fillN many (k + 1) n := by
 unfold fillN
 rw [Yy _ _ (by rw [Yp]; exact Yac _), Yp, Yaf, show n - k = (n - (k + 1)) + 1 by omega, Yw, List.set_cons_zero, List.replicate_succ', Yj]
 rfl
theorem fillN_end (many n : Nat) : fillN many n n = ((Yb n (Yb many false)).map boolsB) := by
 unfold fillN
 rw [Yaf, Yz]
 simp
theorem setN {Nd : Nds} {k : Nat} {s : List Bool} : (Nd.map boolsB).set k (boolsB s) = (Nd.set k s).map boolsB := by rw [Yn]
def PassP (G : List SBlock) (many : Nat) (order : List Nat) (n : Nat) (Nd Nd2 : Nds) (ag : Bool) : Prop := if ag = true then offN Nd2 < offN Nd else Nd2 = Nd /\ ∀ k ∈ order.drop n, ∀ b, G[k]? = some b -> ndAt Nd k = needK Nd many b
theorem pass_start {G : List SBlock} {many : Nat} {order : List Nat} {Nd : Nds} : PassP G many order order.length Nd Nd false := by
 unfold PassP
 rw [if_neg (by decide), Ye]
 exact ⟨rfl, λ k hk => by cases hk⟩
theorem pass_T {G : List SBlock} {many m : Nat} {order : List Nat} {Nd Nd2 N3 : Nds} {ag : Bool} (hP : PassP G many order (m + 1) Nd Nd2 ag) (hoff : offN N3 < offN Nd2) : PassP G many order m Nd N3 true := by
 unfold PassP at hP ⊢
 rw [if_pos rfl]
 split at hP
 .omega
 .rw [hP.1] at hoff; exact hoff
theorem pass_F {G : List SBlock} {many m k : Nat} {order : List Nat} {Nd Nd2 : Nds} {ag : Bool} {b : SBlock} (hP : PassP G many order (m + 1) Nd Nd2 ag) (hk : order[m]? = some k) (hb : G[k]? = some b) (heq : needK Nd2 many b = ndAt Nd2 k) : PassP G many order m Nd Nd2 ag := by
 unfold PassP at hP ⊢
 split
 .rename_i h9
  rw [if_pos h9] at hP
  exact hP
 .rename_i h9
  rw [if_neg h9] at hP
  obtain ⟨p1, p2⟩ := hP
  refine ⟨p1, λ k' hk' b' hb' => ?_⟩
  rw [drop_cons hk] at hk'
  rcases List.mem_cons.1 hk' with e9 | hk'
  .subst e9
   rw [hb] at hb'
   injection hb' with hb'
   subst hb'
   rw [<- p1]
   exact heq.symm
  .exact p2 k' hk' b' hb'
theorem pass_end {G : List SBlock} {many : Nat} {order : List Nat} {Nd Nd2 : Nds} {ag : Bool} (hP : PassP G many order 0 Nd Nd2 ag) : ag = false -> ∀ k ∈ order, ∀ b, G[k]? = some b -> ndAt Nd2 k = needK Nd2 many b := λ h => by
 subst h
 unfold PassP at hP
 rw [if_neg (by decide)] at hP
 rw [hP.1]
 exact hP.2
theorem pass_dec {G : List SBlock} {many n : Nat} {order : List Nat} {Nd Nd2 : Nds} {ag : Bool} (hP : PassP G many order n Nd Nd2 ag) : 2 * offN Nd2 + (if ag = true then 1 else 0) < 2 * offN Nd + (if true = true then 1 else 0) := by
 unfold PassP at hP
 rw [if_pos rfl]
 cases ag with
 | true => rw [if_pos rfl] at hP ⊢; omega
 | false => rw [if_neg (by decide)] at hP ⊢; rw [hP.1]; omega
structure GraphOk (G : List SBlock) (many : Nat) (order : List Nat) : Prop where
 edges : ∀ b ∈ G, ∀ e ∈ b.term.to, 0 <= e.block /\ e.block.toNat < G.length
 vars : ∀ b ∈ G, VarsOk many b
 lt : ∀ k ∈ order, k < G.length
 many : 1 <= many /\ many <= 1000000
 len : G.length <= 1000
 olen : order.length <= 1000
theorem boolBEq_c (a b : List Bool) (ta tb : Option Tok) : VPure Tryz.prog 58 [.sl 1 ta (a.map V.bool), .sl 1 tb (b.map V.bool)] (.bool (decide (a = b))) := by
 refine V_start (nt := 26) Tryz.func58 rfl rfl rfl ?_
 refine Zb<|Zd<|Zc<|Zk rfl<|Za<|Zi<|Zb<|Zb<|Zd<|Zc<|Zl rfl<|Zc<|Zd2 (n := a.length) Tryz.underlying103 rfl (by simp)<|λ hl7 => (Zc<|Zl rfl<|Zc<|Zd2 (n := b.length) Tryz.underlying103 rfl (by simp)<|λ hl9 => (Zc<|Zj1 rfl rfl rfl<|Za<|Zi<|Zm1 rfl (λ h10 => ?_)<|λ h10 => ?_))
 .
  refine Zb<|Zd<|Zc<|Zk rfl<|Za<|Zi<|Zf1<|Zd1<|Zg1 rfl (.tmp rfl) ?_
  rw [decide_eq_false (λ h => h10 (by rw [h]))]
 refine Zi1<|Zi<|Zb<|Zb<|Zd<|Zc<|Zl rfl<|Zc<|Zd2 (n := a.length) Tryz.underlying103 rfl (by simp)<|λ hl12 => (Zc<|Zl rfl<|Za<|Zi<|Zs<|Zi2 (ι := Nat) (λ k => a.length - k) (λ k => [(0, some (.sl 1 ta (a.map V.bool))), (1, some (.sl 1 tb (b.map V.bool))), (11, some (.sl 1 ta (a.map V.bool))), (12, some (.int a.length)), (13, some (.int k))]) (λ k => []) (λ k => k <= a.length /\ a.take k = b.take k) 0 ⟨Yad _, rfl⟩ ⟨rfl, rfl, rfl, rfl, rfl, trivial⟩ (Drops.nil _) ?_)
 rintro k hA
 change k <= a.length /\ a.take k = b.take k at hA
 obtain ⟨hk, hq⟩ := hA
 refine Zb<|Zd<|Zc<|Zj1 rfl rfl rfl<|Za<|Zi<|Zb<|Zn1 rfl (λ h14 => ?_)<|λ h14 => ?_
 .
  obtain ⟨x, hx⟩ := get_of_lt a k h14
  obtain ⟨y, hy⟩ := get_of_lt b k (by omega)
  refine Zi1<|Zi<|Zb<|Zs<|Zb<|Zd<|Zc<|Zl rfl<|Zc<|Zk rfl<|Za<|Zi<|Zb<|VW_drawR (G := Unit) [([], [0], []), ([], [5], []), ([1, 0], [16, 17], []), ([2, 1, 0], [18], []), ([], [1], []), ([], [5], []), ([5, 4], [20, 21], []), ([6, 5, 4], [22], []), (dn 8, [19, 23], [])] [] (constSt _) [24] [16, 17, 18, 19, 20, 21, 22, 23, 24] rfl VT.mix<|ZA (λ γ => Zf<|λ _ h0 => Ze<|Zn rfl<|Zl h0 z0)<|ZA (λ γ => Zf<|λ _ h5 => Ze<|Zn rfl<|Zl h5 z0)<|Zp (Zb3 _) (Zq<|λ γ => Zw 0 1 rfl<|λ _ h16 => Zw 1 0 rfl<|λ _ h17 => Ze<|Zn rfl<|Zz (el := V.bool x) VT.sl103 h16 h17 (by omega) (getB hx)<|λ a18 => ⟨⟨_, rfl⟩, rfl⟩)<|ZA (λ γ => Zw 2 0 rfl<|λ _ h18 => Ze<|Zc3 h18<|λ a_18 e18 => Zn rfl<|Zz1 VT.ty4 e18 rfl z0)<|ZA (λ γ => Zf<|λ _ h1 => Ze<|Zn rfl<|Zl h1 z0)<|ZA (λ γ => Zf<|λ _ h5 => Ze<|Zn rfl<|Zl h5 z0)<|Zp (Zb3 _) (Zq<|λ γ => Zw 4 1 rfl<|λ _ h20 => Zw 5 0 rfl<|λ _ h21 => Ze<|Zn rfl<|Zz (el := V.bool y) VT.sl103 h20 h21 (by omega) (getB hy)<|λ a22 => ⟨⟨_, rfl⟩, rfl⟩)<|ZA (λ γ => Zw 6 0 rfl<|λ _ h22 => Ze<|Zc3 h22<|λ a_22 e22 => Zn rfl<|Zz1 VT.ty4 e22 rfl z0)<|ZA (λ γ => Zw 3 4 rfl<|λ _ h19 => Zw 7 0 rfl<|λ _ h23 => Ze<|Zn rfl<|V_boolne Tryz.underlying4 h19 h23 z0)<|DrawP_nil<|λ γ => Zw 8 0 rfl<|λ r24 h24 => Ze ?_
  have e24 : r24 = some _ := h24
  subst e24
  clear h24
  refine Zi<|Zr1 rfl (λ h24 => ?_)<|λ h24 => ?_
  .
   have h24 : x ≠ y := by simpa using h24
   refine Zb<|Zd<|Zc<|Zk rfl<|Za<|Zi<|Zf1<|Za1<|Zd1<|Zd1<|Za1<|Zd1<|Zg1 rfl (.tmp rfl) ?_
   rw [decide_eq_false (λ h => h24 (by have e := hx; rw [h, hy] at e; injection e with e; exact e.symm))]
  have h24 : x = y := by simpa using h24
  refine Zi1<|Zb1<|Zi<|Zd<|Zc<|Zh2 rfl rfl (by omega)<|Zc<|Zl rfl<|Za<|Zi ?_
  exact ⟨k + 1, (by (try simp only []); omega), ⟨by omega, by rw [take_snoc hx, take_snoc hy, hq, h24]⟩, ⟨rfl, rfl, rfl, rfl, rfl, trivial⟩, (Drops.nil _)⟩
 have hke : k = a.length := by omega
 have hkb : a.length = b.length := by omega
 rw [hke, List.take_length, hkb, List.take_length] at hq
 refine Zt<|Ze1<|Ze1<|Zc1<|Zi<|Zb<|Zd<|Zc<|Zk rfl<|Za<|Zi<|Zf1<|Zg1 rfl (.tmp rfl) ?_
 rw [decide_eq_true hq]
theorem boolBCloneRow_c (l : List Bool) (hne : l ≠ []) (hl : l.length <= 1000000) : VCalls Tryz.prog 90 [.sl 1 none (l.map V.bool)] [] λ r S' => ∃ g cap rest, l.length <= cap /\ cap <= maxLen /\ r = .raw (.slice (some ⟨g, 0, none⟩) l.length cap) /\ S' = [.cells g 4 ((l.map V.bool).flatMap V.leaves ++ rest)] := by
 refine VCalls_drops<|V_start (nt := 8) Tryz.func90 rfl rfl rfl ?_
 refine Zb<|Zd<|Zc<|Zk rfl<|Za<|Zi<|Zb<|Zb<|Zd<|Zc<|Zl rfl<|Zc<|V_eqNil Tryz.underlying103 rfl<|λ b4 hb4 => (Za<|Zi<|Zr1 rfl (λ h4 => ?_)<|λ h4 => ?_)
 . exact absurd (hb4 h4) (by simpa using hne)
 refine Zi1<|Zi<|Zb<|Zd<|Zc<|V_litRow [] VT.sl103 rfl rfl rfl rfl rfl<|λ g5 => (Zc<|Zl rfl<|Zc<|V_appendRow VT.sl103 (by decide) rfl rfl (by have := List.length_pos_iff.2 hne; simpa using this) (by simp; omega) (flat_yB l)<|λ g7 cap7 rest7 hc7 hm7 => (Zc<|Zk rfl<|Za<|Zi<|Zf1<|Zg1 rfl (.tmp rfl) ?_))
 exact ⟨_, Dk (Dd (Zt2 _)), g7, cap7, rest7, by simpa using hc7, hm7, by simp, rfl⟩
theorem before_c {many : Nat} {b : SBlock} (hv : VarsOk many b) (hm : 1 <= many /\ many <= 1000000) (s : List Bool) (hs : s.length = many) : VPure Tryz.prog 57 [blockV b, boolsB s] (boolsB (befF b s)) := by
 obtain ⟨hm1, hm2⟩ := hm
 obtain ⟨hva, hvt, hvr⟩ := hv
 refine V_start (nt := 58) Tryz.func57 rfl rfl rfl ?_
 refine Zb<|Zd<|Zc<|Zc2 rfl rfl<|λ g2 => (Zc<|Zk rfl<|Za<|Zi<|Zb<|Zd<|Zc<|Zl rfl<|Zc<|Zm3 [.tmp 9] [] _ rfl rfl VT.en90 (.refl _) (boolBCloneRow_c s (λ e => by rw [e] at hs; simp at hs; omega) (by omega)) ?_)
 rintro r Sa ⟨g, cap, rest, hcc, hcm, rfl, rfl⟩
 rw [flatB]
 refine Zc<|Zk rfl<|Za<|Zi<|VW_cutF [(2, some (.ptr g2 0)), (5, some (.raw (.slice (some ⟨g, 0, none⟩) s.length cap)))] [.cells g 4 ((befT b.term s).map V.bool ++ rest), .cells g2 40 (blockV b).leaves] ?_ ?_
 .
  refine Zb<|Zd<|Zc<|Zj VT.fa40_2 rfl<|Zc<|Zj VT.fa38_0 rfl<|Zc<|Zu 1 VT.ty3 rfl rfl rfl<|Zc<|Zj1 rfl rfl rfl<|Zc<|Zl rfl<|Zj2 (q := 15) rfl (λ hq15 => ?_)<|λ hq15 => ?_
  .
   have hk1 : b.term.kind ≠ 1 := by simpa using hq15
   refine Zc (Zj VT.fa40_2 rfl ?_)<|Zy1 hq15
   refine Zc (Zj VT.fa38_0 rfl ?_)<|Zy1 hq15
   refine Zc (Zu 1 VT.ty3 rfl rfl rfl ?_)<|Zy1 hq15
   refine Zc (Zj1 rfl rfl rfl ?_)<|Zy1 hq15
   refine Zc<|Zs1 rfl hq15 rfl<|Za<|Zi<|Zm1 rfl (λ h20 => ?_)<|λ h20 => ?_
   .
    have ht1 : befT b.term s = s.set b.term.arg.toNat true := if_pos ⟨hk1, h20⟩
    refine Zd<|Zc<|Zl rfl<|Zc<|Zj VT.fa40_2 rfl<|Zc<|Zj VT.fa38_1 rfl<|Zc<|Zu 1 VT.ty3 rfl rfl rfl<|Zc<|Zr2 VT.sl103 rfl rfl (by omega) (by omega)<|Zc<|Zh3 0 b.term.arg.toNat VT.ty4 rfl (by simp) rfl rfl rfl rfl (by rw [Yd]; omega)<|Za<|Zi ?_
    exact ⟨⟨rfl, rfl, trivial⟩, (Drops.keepE (congrArg (Own.cells g 4) (by rw [ht1]; first | done | exact setBs _ _ _ _)) (Dk (Zt2 _)))⟩
   have ht1 : befT b.term s = s := if_neg (λ h => h.2 h20)
   refine Zi1<|Zi ?_
   exact ⟨⟨rfl, rfl, trivial⟩, (Drops.keepE (congrArg (Own.cells g 4) (by rw [ht1]; first | done | exact setBs _ _ _ _)) (Dk (Zt2 _)))⟩
  have hk1 : b.term.kind = 1 := by simpa using hq15
  have ht1 : befT b.term s = s := if_neg (λ h => h.1 hk1)
  refine Zk1 hq15<|Zk1 hq15<|Zk1 hq15<|Zk1 hq15<|Zc<|Zt1 rfl hq15 rfl<|Za<|Zi<|Zq1 rfl rfl<|Zi1<|Zi ?_
  exact ⟨⟨rfl, rfl, trivial⟩, (Drops.keepE (congrArg (Own.cells g 4) (by rw [ht1]; first | done | exact setBs _ _ _ _)) (Dk (Zt2 _)))⟩
 have hbl := befT_len b.term s
 refine Zb<|Zb<|Zd<|Zc<|Zj VT.fa40_1 rfl<|Zc<|Zu 1 VT.ty35 rfl rfl rfl<|Zc<|Zd2 (n := b.ins.length) Tryz.underlying35 rfl (by simp)<|λ hl28 => (Zc<|Zk2 rfl rfl (by omega)<|Zc<|Zk rfl<|Za<|Zi<|Zs<|Zi2 (ι := Nat × List Bool) (λ (n, now) => n) (λ (n, now) => [(2, some (.ptr g2 0)), (5, some (.raw (.slice (some ⟨g, 0, none⟩) s.length cap))), (6, some (.int ((n : Int) - 1)))]) (λ (n, now) => [.cells g 4 (now.map V.bool ++ rest), .cells g2 40 (blockV b).leaves]) (λ (n, now) => n <= b.ins.length /\ now.length = s.length /\ (b.ins.take n).reverse.foldl befI now = befF b s) (b.ins.length, befT b.term s) ⟨Yac _, hbl, by rw [Yr (Yac _)]; rfl⟩ ⟨rfl, rfl, rfl, trivial⟩ (Dk<|Dk<|Zt2 _) ?_)
 rintro ⟨n, now⟩ hA
 change n <= b.ins.length /\ now.length = s.length /\ (b.ins.take n).reverse.foldl befI now = befF b s at hA
 obtain ⟨hn, hnl, hq⟩ := hA
 refine Zb<|Zb<|Zd<|Zc<|Zl rfl<|Zc<|Zj1 rfl rfl rfl<|Za<|Zi<|Zn1 rfl (λ h31 => ?_)<|λ h31 => ?_
 .
  obtain ⟨m, rfl⟩ : ∃ m, n = m + 1 := ⟨n - 1, by omega⟩
  obtain ⟨i, hi⟩ := get_of_lt b.ins m (by omega)
  have him := Yc hi
  obtain ⟨ht1, ht2⟩ := hvt i him
  have hia := hvr i him
  rw [rev_step hi] at hq
  refine Zi1<|Zi<|Zb<|Zs<|Zb<|Zd<|Zc<|Zl rfl<|Zc<|Zj VT.fa40_1 rfl<|Zc<|Zu 1 VT.ty35 rfl rfl rfl<|Zc<|Zl rfl<|Zc<|Zz (el := insV i) VT.sl35 rfl rfl (by omega) (get_mapS _ (by rw [show (((m + 1 : Nat) : Int) - 1).toNat = m by omega]; exact hi))<|λ a38 => (Zc<|Zw1 VT.fa42_0 rfl rfl<|Zc<|Zz1 VT.ty3 rfl rfl<|Zc<|Zr2 VT.sl103 rfl rfl (by omega) (by omega)<|Zc<|Zh3 0 i.to.toNat VT.ty4 rfl (by simp) rfl rfl rfl rfl (by rw [Yd]; omega)<|Za<|Zi<|Zb<|Zd<|Zc<|Zj VT.fa40_1 rfl<|Zc<|Zu 1 VT.ty35 rfl rfl rfl<|Zc<|Zl rfl<|Zc<|Zz (el := insV i) VT.sl35 rfl rfl (by omega) (get_mapS _ (by rw [show (((m + 1 : Nat) : Int) - 1).toNat = m by omega]; exact hi))<|λ a45 => (Zc<|Zw1 VT.fa42_3 rfl rfl<|Zc<|Zz1 VT.ty32 rfl rfl<|Zc<|Zd2 (n := i.args.length) Tryz.underlying32 rfl (by simp)<|λ hl48 => (Zc<|Zl rfl<|Za<|Zi<|Zs<|Zi2 (ι := Nat × List Bool) (λ (j, now2) => i.args.length - j) (λ (j, now2) => [(2, some (.ptr g2 0)), (5, some (.raw (.slice (some ⟨g, 0, none⟩) s.length cap))), (6, some (.int (((m + 1 : Nat) : Int) - 1))), (47, some (intsX i.args)), (48, some (.int i.args.length)), (49, some (.int j))]) (λ (j, now2) => [.cells g 4 (now2.map V.bool ++ rest), .cells g2 40 (blockV b).leaves]) (λ (j, now2) => j <= i.args.length /\ now2.length = s.length /\ befA now2 (i.args.drop j) = befI now i) (0, now.set i.to.toNat false) ⟨Yad _, by rw [Yf]; exact hnl, rfl⟩ ⟨rfl, rfl, rfl, rfl, rfl, rfl, trivial⟩ (Drops.keepE (congrArg (Own.cells g 4)<|setBs _ _ _ _)<|Dk<|Zt2 _) ?_)))
  rintro ⟨j, now2⟩ hB
  change j <= i.args.length /\ now2.length = s.length /\ befA now2 (i.args.drop j) = befI now i at hB
  obtain ⟨hj, hnl2, hq2⟩ := hB
  refine Zb<|Zd<|Zc<|Zj1 rfl rfl rfl<|Za<|Zi<|Zb<|Zn1 rfl (λ h50 => ?_)<|λ h50 => ?_
  .
   obtain ⟨a, ha⟩ := get_of_lt i.args j h50
   obtain ⟨ha1, ha2⟩ := hia a (Yc ha)
   rw [drop_cons ha] at hq2
   change befA (now2.set a.toNat true) (i.args.drop (j + 1)) = _ at hq2
   refine Zi1<|Zi<|Zb<|Zs<|Zb<|Zd<|Zc<|Zz (el := V.int a) VT.sl32 rfl rfl (by omega) (get_int ha)<|λ a51 => (Zc<|Zz1 VT.ty3 rfl rfl<|Zc<|Zk rfl<|Za<|Zi<|Zd<|Zc<|Zl rfl<|Zc<|Zl rfl<|Zc<|Zr2 VT.sl103 rfl rfl (by omega) (by omega)<|Zc<|Zh3 0 a.toNat VT.ty4 rfl (by simp) rfl rfl rfl rfl (by rw [Yd]; omega)<|Za<|Zb1<|Zi<|Zd<|Zc<|Zh2 rfl rfl (by omega)<|Zc<|Zl rfl<|Za<|Zi ?_)
   exact ⟨(j + 1, now2.set a.toNat true), (by (try simp only []); omega), ⟨by omega, by rw [Yf]; exact hnl2, hq2⟩, ⟨rfl, rfl, rfl, rfl, rfl, rfl, trivial⟩, (Drops.keepE (congrArg (Own.cells g 4) (setBs _ _ _ _)) (Dk (Zt2 _)))⟩
  have hje : j = i.args.length := by omega
  subst hje
  rw [Ye] at hq2
  change now2 = _ at hq2
  rw [<- hq2] at hq
  refine Zt<|Ze1<|Ze1<|Zc1<|Zb1<|Zi<|Zd<|Zc<|Zl rfl<|Zc<|Zk2 rfl rfl (by omega)<|Zc<|Zk rfl<|Za<|Zi ?_
  exact ⟨(m, now2), (by (try simp only []); omega), ⟨by omega, hnl2, hq⟩, ⟨rfl, rfl, (congrArg (λ n : Int => some (V.int n)) (by omega)), trivial⟩, (Dk (Dk (Zt2 _)))⟩
 have hn0 : n = 0 := by omega
 subst hn0
 change now = _ at hq
 refine Zt<|Ze1<|Ze1<|Zc1<|Zi<|VW_freeze 0 (q := 5) (rest := rest) (now.map V.bool) rfl rfl (by rw [flatB]) (by simp [hnl]) hcc hcm (fitsB _)<|Zb<|Zd<|Zc<|Zl rfl<|Zc<|Zk rfl<|Za<|Zi<|Zf1<|Zg1 rfl (.tmp rfl) ?_
 rw [<- hq]
theorem needed_c {G : List SBlock} {many : Nat} {order : List Nat} (hg : GraphOk G many order) (name : Int) (inn : V) (hin : inn.leaf = true) : VCalls Tryz.prog 35 [.agg [.int name, blocksX G, intsX (order.map λ k : Nat => (k : Int)), inn], .int many] [] λ r S' => ∃ Nd, NeedOk G order many Nd /\ r = .sl 1 none (Nd.map boolsB) /\ S' = [] := by
 refine VCalls_drops ?_
 obtain ⟨hE, hV, hO, ⟨hm1, hm2⟩, hGl, hol⟩ := hg
 have hE2 : ∀ b ∈ G, ∀ e ∈ b.term.to, e.block.toNat < G.length := λ b hb e he => (hE b hb e he).2
 refine V_start (nt := 104) Tryz.func35 rfl rfl rfl ?_
 refine Zb<|Zd<|Zc<|Zc2 rfl (by show [V.int name, blocksX G, intsX (order.map λ k : Nat => (k : Int)), inn].all V.leaf = true; simp only [List.all_cons, hin]; rfl)<|λ g2 => (Zc<|Zk rfl<|Za<|Zi<|Zb<|Zd<|Zc<|Zj VT.fa71_0 rfl<|Zc<|Zj VT.fa31_1 rfl<|Zc<|Zu 0 VT.ty29 rfl rfl rfl<|Zc<|Zd2 (n := G.length) Tryz.underlying29 rfl (by simp)<|λ hl19 => (Zc<|V_makeRow (.raw<|.slice none 0 0) (λ m => rfl) rfl VT.sl75 rfl rfl (by omega) (by omega)<|λ g20 => (Zc<|Zk rfl<|Za<|Zi ?_)))
 rw [nilN, Yag]
 refine Zb<|Zb<|Zd<|Zc<|Zl rfl<|Zc<|V_len_raw Tryz.underlying75 rfl<|Zc<|Zl rfl<|Za<|Zi<|Zs<|Zi2 (ι := Nat) (λ k => G.length - k) (λ k => [(1, some (.int many)), (2, some (.ptr g2 0)), (5, some (.raw (.slice (some ⟨g20, 0, none⟩) G.length G.length))), (22, some (.int G.length)), (23, some (.int k))]) (λ k => [.cells g20 103 (fillN many k G.length), .cells g2 71 [.int name, blocksX G, intsX (order.map λ k : Nat => (k : Int)), inn]]) (λ k => k <= G.length) 0 (Yad _) ⟨rfl, rfl, rfl, rfl, rfl, trivial⟩ (Drops.keepE (congrArg (Own.cells g20 103) (fillN_0 _ _).symm)<|Dk<|Zt2 _) ?_
 rintro k hk
 change k <= G.length at hk
 refine Zb<|Zd<|Zc<|Zj1 rfl rfl rfl<|Za<|Zi<|Zb<|Zn1 rfl (λ h24 => ?_)<|λ h24 => ?_
 .
  refine Zi1<|Zi<|Zb<|Zs<|Zb<|Zd<|Zc<|Zl rfl<|Zc<|Zk rfl<|Za<|Zi<|Zd<|Zc<|Zl rfl<|Zc<|Zl rfl<|Zc<|Zl rfl<|Zc<|Zu2 (V_makeImm (.raw<|.bool false) (λ m => rfl) rfl VT.sl103 rfl rfl (by omega) (by omega) ⟨rfl, rfl⟩) ((V.le.of_eq (zeroB many) : V.le _ (boolsB<|Yb many false)))<|Zc<|Zr2 VT.sl75 rfl rfl (by omega) (by omega)<|Zc<|Zh3 0 k VT.ty103 rfl (by simp) rfl rfl rfl (Ya _).symm (by rw [fillN_len (by omega)]; omega)<|Za<|Zb1<|Zi<|Zd<|Zc<|Zh2 rfl rfl (by omega)<|Zc<|Zl rfl<|Za<|Zi ?_
  exact ⟨k + 1, (by (try simp only []); omega), (by omega), ⟨rfl, rfl, rfl, rfl, rfl, trivial⟩, (Drops.keepE (congrArg (Own.cells g20 103) (by rw [Ya, <- fillN_set (many := many) (show k < G.length by omega)])) (Dk (Zt2 _)))⟩
 have hke : k = G.length := by omega
 subst hke
 rw [fillN_end]
 refine Zt<|Ze1<|Ze1<|Zc1<|Zi<|Zb<|Zb<|Zd<|Zc<|Zk rfl<|Za<|Zi<|Zs<|Zi2 (ι := Bool × Nds) (λ (ag, Nd) => 2 * offN Nd + (if ag = true then 1 else 0)) (λ (ag, Nd) => [(1, some (.int many)), (2, some (.ptr g2 0)), (5, some (.raw (.slice (some ⟨g20, 0, none⟩) G.length G.length))), (7, some (.bool ag))]) (λ (ag, Nd) => [.cells g20 103 ((Nd.map boolsB)), .cells g2 71 [.int name, blocksX G, intsX (order.map λ k : Nat => (k : Int)), inn]]) (λ (ag, Nd) => NInv G many Nd /\ (ag = false -> ∀ k ∈ order, ∀ b, G[k]? = some b -> ndAt Nd k = needK Nd many b)) (true, Yb G.length (Yb many false)) ⟨ninv_start hE2, λ h => by cases h⟩ ⟨rfl, rfl, rfl, rfl, trivial⟩ (Dk<|Dk<|Zt2 _) ?_
 rintro ⟨ag, Nd⟩ hA
 change NInv G many Nd /\ (ag = false -> ∀ k ∈ order, ∀ b, G[k]? = some b -> ndAt Nd k = needK Nd many b) at hA
 obtain ⟨hI, hfin⟩ := hA
 have hNl := hI.len
 refine Zb<|Zb<|Zd<|Zc<|Zl rfl<|Za<|Zi<|Zr1 rfl (λ h32 => ?_)<|λ h32 => ?_
 .
  subst h32
  refine Zi1<|Zi<|Zs<|Zb<|Zd<|Zc<|Zk rfl<|Za<|Zi<|Zb<|Zd<|Zc<|Zj VT.fa71_1 rfl<|Zc<|Zu 1 VT.ty32 rfl rfl rfl<|Zc<|Zd2 (n := order.length) Tryz.underlying32 rfl (by simp)<|λ hl35 => (Zc<|Zk2 rfl rfl (by omega)<|Zc<|Zk rfl<|Za<|Zi<|Zs<|Zi2 (ι := Nat × Bool × Nds) (λ (n, ag2, Nd2) => n) (λ (n, ag2, Nd2) => [(1, some (.int many)), (2, some (.ptr g2 0)), (5, some (.raw (.slice (some ⟨g20, 0, none⟩) G.length G.length))), (7, some (.bool ag2)), (8, some (.int ((n : Int) - 1)))]) (λ (n, ag2, Nd2) => [.cells g20 103 ((Nd2.map boolsB)), .cells g2 71 [.int name, blocksX G, intsX (order.map λ k : Nat => (k : Int)), inn]]) (λ (n, ag2, Nd2) => n <= order.length /\ NInv G many Nd2 /\ PassP G many order n Nd Nd2 ag2) (order.length, false, Nd) ⟨Yac _, hI, pass_start⟩ ⟨rfl, rfl, rfl, rfl, rfl, trivial⟩ (Dk<|Dk<|Zt2 _) ?_)
  rintro ⟨n, ag2, Nd2⟩ hB
  obtain ⟨hn, hI2, hP⟩ := hB
  have hN2 := hI2.len
  refine Zb<|Zb<|Zd<|Zc<|Zl rfl<|Zc<|Zj1 rfl rfl rfl<|Za<|Zi<|Zn1 rfl (λ h38 => ?_)<|λ h38 => ?_
  .
   obtain ⟨m, rfl⟩ : ∃ m, n = m + 1 := ⟨n - 1, by omega⟩
   obtain ⟨k, hk⟩ := get_of_lt order m (by omega)
   have hkm := Yc hk
   have hkl := hO k hkm
   obtain ⟨b, hb⟩ := get_of_lt G k (by omega)
   have hbm := Yc hb
   obtain ⟨nk, hnk⟩ := get_of_lt Nd2 k (by omega)
   have hnl := needK_len hI2.row (b := b) (λ e he => by rw [hN2]; exact hE2 b hbm e he)
   refine Zi1<|Zi<|Zb<|Zs<|Zb<|Zd<|Zc<|Zj VT.fa71_1 rfl<|Zc<|Zu 1 VT.ty32 rfl rfl rfl<|Zc<|Zl rfl<|Zc<|Zz (el := V.int (k : Int)) VT.sl32 rfl rfl (by omega) (get_int (by rw [show (((m + 1 : Nat) : Int) - 1).toNat = m by omega, Yh, hk]; rfl))<|λ a44 => (Zc<|Zz1 VT.ty3 rfl rfl<|Zc<|Zk rfl<|Za<|Zi<|Zb<|Zd<|Zc<|Zl rfl<|Zc<|V_makeRow (.raw<|.bool false) (λ m => rfl) rfl VT.sl103 rfl rfl (by omega) (by omega)<|λ g47 => (Zc<|Zk rfl<|Za<|Zi ?_))
   rw [repB, Yag]
   refine Zb<|Zb<|Zd<|Zc<|Zj VT.fa71_0 rfl<|Zc<|Zj VT.fa31_1 rfl<|Zc<|Zu 2 VT.ty29 rfl rfl rfl<|Zc<|Zl rfl<|Zc<|Zz (el := blockV b) VT.sl29 rfl rfl (by omega) (get_mapS _ hb)<|λ a52 => (Zc<|Zs2 VT.fa40_2 rfl<|Zc<|Zw1 VT.fa38_4 rfl rfl<|Zc<|Zz1 VT.ty36 rfl rfl<|Zc<|Zd2 (n := b.term.to.length) Tryz.underlying36 rfl (by simp)<|λ hl56 => (Zc<|Zl rfl<|Za<|Zi<|Zs<|Zi2 (ι := Nat × List Bool) (λ (i, s) => b.term.to.length - i) (λ (i, s) => [(1, some (.int many)), (2, some (.ptr g2 0)), (5, some (.raw (.slice (some ⟨g20, 0, none⟩) G.length G.length))), (7, some (.bool ag2)), (8, some (.int (((m + 1 : Nat) : Int) - 1))), (9, some (.int k)), (10, some (.raw (.slice (some ⟨g47, 0, none⟩) many many))), (55, some (edgesX b.term.to)), (56, some (.int b.term.to.length)), (57, some (.int i))]) (λ (i, s) => [.cells g47 4 (s.map V.bool), .cells g20 103 ((Nd2.map boolsB)), .cells g2 71 [.int name, blocksX G, intsX (order.map λ k : Nat => (k : Int)), inn]]) (λ (i, s) => i <= b.term.to.length /\ s.length = many /\ orE Nd2 s (b.term.to.drop i) = behF Nd2 many b) (0, Yb many false) ⟨Yad _, Yp, rfl⟩ ⟨rfl, rfl, rfl, rfl, rfl, rfl, rfl, rfl, rfl, rfl, trivial⟩ (Drops.keepE (congrArg (Own.cells g47 4) (by rw [Yz]))<|Dk<|Dk<|Zt2 _) ?_))
   rintro ⟨i, s⟩ hC
   change i <= b.term.to.length /\ s.length = many /\ orE Nd2 s (b.term.to.drop i) = behF Nd2 many b at hC
   obtain ⟨hi, hsl, hq⟩ := hC
   refine Zb<|Zd<|Zc<|Zj1 rfl rfl rfl<|Za<|Zi<|Zb<|Zn1 rfl (λ h58 => ?_)<|λ h58 => ?_
   .
    obtain ⟨e, he⟩ := get_of_lt b.term.to i h58
    obtain ⟨he0, he1⟩ := hE b hbm e (Yc he)
    obtain ⟨t, ht⟩ := get_of_lt Nd2 e.block.toNat (by omega)
    have htl := hI2.row t (Yc ht)
    rw [drop_cons he] at hq
    change orE Nd2 (orB s (ndAt Nd2 e.block.toNat)) (b.term.to.drop (i + 1)) = _ at hq
    rw [ndAt_get ht] at hq
    refine Zi1<|Zi<|Zb<|Zs<|Zb<|Zd<|Zc<|Zz (el := edgeV e) VT.sl36 rfl rfl (by omega) (get_mapS _ he)<|λ a59 => (Zc<|Za2 VT.ty64 rfl rfl<|Zc<|Zb2 VT.zr64 _ rfl rfl<|λ g12 => (Zc<|Zx 0 VT.ty64 rfl rfl rfl rfl rfl<|Za<|Zi<|Zb<|Zd<|Zc<|Zl rfl<|Zc<|Zj VT.fa64_0 rfl<|Zc<|Zu 0 VT.ty3 rfl rfl rfl<|Zc<|Zr2 VT.sl75 rfl rfl (by omega) (by omega)<|Zc<|Zf3 2 e.block.toNat VT.ty103 rfl (by simp) rfl (Ya _).symm (getN ht)<|Zc<|Zd2 (n := t.length) Tryz.underlying103 rfl (by simp)<|λ hl66 => (Zc<|Zl rfl<|Za<|Zi<|Zs<|Zi2 (ι := Nat) (λ j => t.length - j) (λ j => [(1, some (.int many)), (2, some (.ptr g2 0)), (5, some (.raw (.slice (some ⟨g20, 0, none⟩) G.length G.length))), (7, some (.bool ag2)), (8, some (.int (((m + 1 : Nat) : Int) - 1))), (9, some (.int k)), (10, some (.raw (.slice (some ⟨g47, 0, none⟩) many many))), (55, some (edgesX b.term.to)), (56, some (.int b.term.to.length)), (57, some (.int i)), (65, some (boolsB t)), (66, some (.int t.length)), (67, some (.int j))]) (λ j => [.cells g47 4 ((orP s t j).map V.bool), .cells g20 103 ((Nd2.map boolsB)), .cells g2 71 [.int name, blocksX G, intsX (order.map λ k : Nat => (k : Int)), inn]]) (λ j => j <= t.length) 0 (Yad _) ⟨rfl, rfl, rfl, rfl, rfl, rfl, rfl, rfl, rfl, rfl, rfl, rfl, rfl, trivial⟩ (Dd<|Drops.keepE (congrArg (Own.cells g47 4) (by rw [orP_0]))<|Dk<|Dk<|Zt2 _) ?_)))
    rintro j hj
    change j <= t.length at hj
    refine Zb<|Zd<|Zc<|Zj1 rfl rfl rfl<|Za<|Zi<|Zb<|Zn1 rfl (λ h68 => ?_)<|λ h68 => ?_
    .
     obtain ⟨y, hy⟩ := get_of_lt t j h68
     obtain ⟨x, hx⟩ := get_of_lt s j (by omega)
     have hox := orP_get (t := t) (by omega) hx
     have hol2 := orP_len (t := t) (show s.length = t.length by omega) (show j <= s.length by omega)
     have hos := orP_set (by omega) hx hy
     refine Zi1<|Zi<|Zb<|Zs<|Zb<|Zd<|Zc<|Zl rfl<|Zc<|Zz (el := V.bool y) VT.sl103 rfl rfl (by omega) (getB hy)<|λ a70 => (Zc<|Zz1 VT.ty4 rfl rfl<|Zc<|Zk rfl<|Zc<|Zk rfl<|Za<|Zi<|Zd<|Zc<|Zl rfl<|Zc<|Zl rfl<|Zc<|Zl rfl<|Zc<|Zl rfl<|Zc<|Zr2 VT.sl103 rfl rfl (by omega) (by omega)<|Zc<|Zf3 0 j VT.ty4 rfl (by simp) rfl (Ya _).symm (getB hox)<|Zc<|Zl rfl<|Zj2 (q := 78) rfl (λ hq78 => ?_)<|λ hq78 => ?_)
     .
      have hst : (orP s t j).set j true = orP s t (j + 1) := by rw [<- hos, hq78]; rfl
      refine Zk0 hq78<|Zc<|Zs1 rfl hq78 rfl<|Zc<|Zr2 VT.sl103 rfl rfl (by omega) (by omega)<|Zc<|Zh3 0 j VT.ty4 rfl (by simp) rfl rfl rfl (Ya _).symm (by rw [Yd]; omega)<|Za<|Zb1<|Zi<|Zd<|Zc<|Zh2 rfl rfl (by omega)<|Zc<|Zl rfl<|Za<|Zi ?_
      exact ⟨j + 1, (by (try simp only []); omega), (by omega), ⟨rfl, rfl, rfl, rfl, rfl, rfl, rfl, rfl, rfl, rfl, rfl, rfl, rfl, trivial⟩, (Drops.keepE (congrArg (Own.cells g47 4) (by rw [Ya, <- Yn, hst])) (Dk (Dk (Zt2 _))))⟩
     have hst : (orP s t j).set j y = orP s t (j + 1) := by rw [<- hos, hq78]; rfl
     refine Zc (Zl rfl ?_)<|Zy0 hq78
     refine Zc<|Zt1 rfl hq78 rfl<|Zc<|Zr2 VT.sl103 rfl rfl (by omega) (by omega)<|Zc<|Zh3 0 j VT.ty4 rfl (by simp) rfl rfl rfl (Ya _).symm (by rw [Yd]; omega)<|Za<|Zb1<|Zi<|Zd<|Zc<|Zh2 rfl rfl (by omega)<|Zc<|Zl rfl<|Za<|Zi ?_
     exact ⟨j + 1, (by (try simp only []); omega), (by omega), ⟨rfl, rfl, rfl, rfl, rfl, rfl, rfl, rfl, rfl, rfl, rfl, rfl, rfl, trivial⟩, (Drops.keepE (congrArg (Own.cells g47 4) (by rw [Ya, <- Yn, hst])) (Dk (Dk (Zt2 _))))⟩
    have hje : j = t.length := by omega
    have hoe := orP_end (show s.length = t.length by omega)
    have hje2 : j = s.length := by omega
    subst hje2
    rw [hoe]
    refine Zt<|Ze1<|Ze1<|Zc1<|Zb1<|Zi<|Zd<|Zc<|Zh2 rfl rfl (by omega)<|Zc<|Zl rfl<|Za<|Zi ?_
    exact ⟨(i + 1, orB s t), (by (try simp only []); omega), ⟨by omega, by rw [orB_len (by omega)]; exact hsl, hq⟩, ⟨rfl, rfl, rfl, rfl, rfl, rfl, rfl, rfl, rfl, rfl, trivial⟩, (Dk (Dk (Dk (Zt2 _))))⟩
   have hie : i = b.term.to.length := by omega
   subst hie
   rw [Ye] at hq
   change s = _ at hq
   refine Zt<|Ze1<|Ze1<|Zc1<|Zi<|VW_freeze 0 (q := 10) (rest := []) (s.map V.bool) rfl rfl (by rw [flatB, Ya]) (by simp [hsl]) (Yac _) (by simp only [maxLen]; omega) (fitsB _)<|Zb<|Zd<|Zc<|Zj VT.fa71_0 rfl<|Zc<|Zj VT.fa31_1 rfl<|Zc<|Zu 1 VT.ty29 rfl rfl rfl<|Zc<|Zl rfl<|Zc<|Zz (el := blockV b) VT.sl29 rfl rfl (by omega) (get_mapS _ hb)<|λ a88 => (Zc<|Za2 VT.ty40 rfl rfl<|Zc<|Zl rfl<|Zc<|Zu2 (Zx1 [.tmp 89, .tmp 90] rfl rfl VT.en57 (before_c (hV b hbm) ⟨hm1, hm2⟩ s hsl) ⟨rfl, rfl⟩) ((V.le.of_eq (by rw [hq]; rfl) : V.le _ (boolsB<|needK Nd2 many b)))<|Zc<|Zk rfl<|Za<|Zi<|Zb<|Zd<|Zc<|Zl rfl<|Zc<|Zl rfl<|Zc<|Zl rfl<|Zc<|Zr2 VT.sl75 rfl rfl (by omega) (by omega)<|Zc<|Zf3 0 k VT.ty103 rfl (by simp) rfl (Ya _).symm (getN hnk)<|Zc<|Zx1 [.tmp 92, .tmp 96] rfl rfl VT.en58 (boolBEq_c (needK Nd2 many b) nk none none)<|Zc<|Zl2 rfl<|Za<|Zi<|Zo1 rfl (λ h98 => ?_)<|λ h98 => ?_)
   .
    have hne : needK Nd2 many b ≠ ndAt Nd2 k := by rw [ndAt_get hnk]; exact of_decide_eq_false h98
    obtain ⟨hI3, hoff⟩ := ninv_set hE2 hI2 hb hne
    have hP3 := pass_T hP hoff
    refine Zd<|Zc<|Zl rfl<|Zc<|Zl rfl<|Zc<|Zl rfl<|Zc<|Zr2 VT.sl75 rfl rfl (by omega) (by omega)<|Zc<|Zh3 0 k VT.ty103 rfl (by simp) rfl rfl rfl (Ya _).symm (by rw [Yd]; omega)<|Zc<|Zk rfl<|Za<|Zb1<|Zi<|Zd<|Zc<|Zl rfl<|Zc<|Zk2 rfl rfl (by omega)<|Zc<|Zk rfl<|Za<|Zi ?_
    exact ⟨(m, true, Nd2.set k (needK Nd2 many b)), (by (try simp only []); omega), ⟨by omega, hI3, hP3⟩, ⟨rfl, rfl, rfl, rfl, (congrArg (λ n : Int => some (V.int n)) (by omega)), trivial⟩, (Drops.keepE (by first | rfl | exact congrArg (Own.cells g20 103) (by rw [Ya, setN])) (Dk (Zt2 _)))⟩
   have heq : needK Nd2 many b = ndAt Nd2 k := by rw [ndAt_get hnk]; exact of_decide_eq_true h98
   have hI3 := hI2
   have hP3 := pass_F hP hk hb heq
   refine Zi1<|Zb1<|Zi<|Zd<|Zc<|Zl rfl<|Zc<|Zk2 rfl rfl (by omega)<|Zc<|Zk rfl<|Za<|Zi ?_
   exact ⟨(m, ag2, Nd2), (by (try simp only []); omega), ⟨by omega, hI3, hP3⟩, ⟨rfl, rfl, rfl, rfl, (congrArg (λ n : Int => some (V.int n)) (by omega)), trivial⟩, (Drops.keepE (by first | rfl | exact congrArg (Own.cells g20 103) (by rw [Ya, setN])) (Dk (Zt2 _)))⟩
  have hn0 : n = 0 := by omega
  subst hn0
  have hfin2 := pass_end hP
  refine Zt<|Ze1<|Ze1<|Zc1<|Zb1<|Zi ?_
  exact ⟨(ag2, Nd2), (pass_dec hP), ⟨hI2, λ h => hfin2 h⟩, ⟨rfl, rfl, rfl, rfl, trivial⟩, (Dk (Dk (Zt2 _)))⟩
 have hfin := hfin h32
 refine Zt<|Ze1<|Ze1<|Zc1<|Zi<|VW_freeze 0 (q := 5) (rest := []) (Nd.map boolsB) rfl rfl (by rw [flatN, Ya]) (by rw [Yd]; exact hNl) (Yac _) (by simp only [maxLen]; omega) (fitsN _)<|Zb<|Zd<|Zc<|Zl rfl<|Zc<|Zk rfl<|Za<|Zi<|Zf1<|Zg1 rfl (.tmp rfl) ?_
 exact ⟨[], Drops.nil _, Nd, ⟨hNl, hI.row, λ k hk b hb => by have h9 := hfin k hk b hb; have hkl := hO k hk; obtain ⟨s, hs⟩ := get_of_lt Nd k (by omega); rw [ndAt_get hs] at h9; rw [hs, h9]⟩, rfl, rfl⟩
end Go.Proofs.YthlflmmnankhhaaGreat.X82
end
section
namespace Go.Proofs.YthlflmmnankhhaaGreat.X83
open Go.VL Go.SM Go.Proofs.YthlflmmnankhhaaGreat XS X1 X2 X3 X4 X5 X6 X7 X8 X9 X10 X12 X13 X20 X25 X26 X81 X82
theorem nodup_sub_len : ∀ {a b : List Nat}, a.Nodup -> (∀ x ∈ a, x ∈ b) -> a.length <= b.length
 | [], b, _, _ => Yad _
 | x :: a, b, hn, hs => by
  obtain ⟨h1, h2⟩ := Yk.1 hn
  have hx := hs x (Yl ..)
  have h3 := List.length_erase_of_mem hx
  have h4 : a.length <= (b.erase x).length := nodup_sub_len h2 λ y hy => (List.mem_erase_of_ne (λ e : y = x => h1 (e ▸ hy))).2 (hs y (Yu _ hy))
  have h5 := List.length_pos_of_mem hx
  rw [List.length_cons]
  omega
structure Wc where
 name : Int
 G : List SBlock
 order : List Nat
 inn : List (List Int)
 Nd : Nds
 gw : Nat
 go : Nat
 ge : Nat
abbrev Ents := List (Int × V)
abbrev Mps := List (Option (Nat × Ents))
abbrev wLs (w : Wc) (nx : Int) : List V := [.int w.name, blocksX w.G, intsX (w.order.map λ k : Nat => (k : Int)), rowsX w.inn, .sl 1 none (w.Nd.map boolsB), .int nx, .int w.name, .raw (.slice (some ⟨w.go, 0, none⟩) w.G.length w.G.length), .raw (.slice (some ⟨w.ge, 0, none⟩) w.G.length w.G.length)]
abbrev wC (w : Wc) (nx : Int) : Own := .cells w.gw 79 (wLs w nx)
def rowG (out : List V) : List V := out.flatMap V.leaves
abbrev oC (w : Wc) (out : List V) : Own := .cells w.go 40 (rowG out)
def mLeaf : Option (Nat × Ents) -> V
 | none => .raw (.map none)
 | some x => .raw (.map (some x.1))
def mOwn : Option (Nat × Ents) -> Store
 | none => []
 | some x => [.map x.1 (kmap kint x.2)]
abbrev eC (w : Wc) (ms : Mps) : Own := .cells w.ge 106 (ms.map mLeaf)
def mY (ms : Mps) : Store := ms.flatMap mOwn
def EnvR (l : Ents) (e : Env) : Prop := ∀ v, kget l v = (e v).map V.int
theorem kget_kput {l : Ents} {k x : Int} {v : V} : kget (kput l k v) x = if k = x then some v else kget l x := by
 induction l with
 | nil =>
  show (if k = x then some v else kget [] x) = _
  rfl
 | cons p l ih =>
  obtain ⟨a, u⟩ := p
  rw [kput]
  by_cases h : a = k
  .subst h
   rw [if_pos rfl, kget, kget]
   by_cases hx : a = x
   .rw [if_pos hx, if_pos hx]
   .rw [if_neg hx, if_neg hx, if_neg hx]
  .rw [if_neg h, kget, kget, ih]
   by_cases hx : a = x
   .rw [if_pos hx, if_neg (by omega), if_pos hx]
   .rw [if_neg hx, if_neg hx]
theorem envR_nil : EnvR [] λ _ => none := λ v => rfl
theorem envR_put {l : Ents} {e : Env} (h : EnvR l e) (v x : Int) : EnvR (kput l v (.int x)) (updE e v x) := λ y => by
 rw [kget_kput]
 unfold updE
 by_cases hy : v = y
 .rw [if_pos hy, if_pos hy.symm]; rfl
 .rw [if_neg hy, if_neg (λ q => hy q.symm)]; exact h y
def KN (l : Ents) : Prop := (l.map (·.1)).Nodup
theorem kput_keys {l : Ents} {k : Int} {v : V} : ∀ {x : Int}, x ∈ (kput l k v).map (·.1) -> x = k \/ x ∈ l.map (·.1) := by
 induction l with
 | nil => intro x hx; exact .inl (by simpa [kput] using hx)
 | cons p l ih =>
  obtain ⟨a, u⟩ := p
  intro x hx
  rw [kput] at hx
  split at hx
  .exact .inr hx
  .rcases List.mem_cons.1 hx with rfl | hx
   .exact .inr (Yl ..)
   .exact (ih hx).imp id (Yu _)
theorem kn_put {l : Ents} {k : Int} {v : V} (h : KN l) : KN (kput l k v) := by
 induction l with
 | nil => exact Yk.2 ⟨by simp, Yq⟩
 | cons p l ih =>
  obtain ⟨a, u⟩ := p
  obtain ⟨h1, h2⟩ := Yk.1 h
  rw [kput]
  split
  .exact h
  .rename_i hk
   refine Yk.2 ⟨λ hm => ?_, ih h2⟩
   rcases kput_keys hm with e | hm
   .exact hk e
   .exact h1 hm
theorem kn_get : ∀ {l : Ents} {q : Nat} {v : Int} {x : V}, KN l -> l[q]? = some (v, x) -> kget l v = some x
 | [], q, v, x, _, h => by simp at h
 | (a, u) :: l, 0, v, x, _, h => by
  have h : (a, u) = (v, x) := by simpa using h
  injection h with h1 h2
  subst h1 h2
  rw [kget, if_pos rfl]
 | (a, u) :: l, q + 1, v, x, hn, h => by
  obtain ⟨h1, h2⟩ := Yk.1 hn
  have h : l[q]? = some (v, x) := by simpa using h
  rw [kget, if_neg (λ e => h1 (by rw [show a = v from e]; exact Yt.2 ⟨_, Yc h, rfl⟩))]
  exact kn_get h2 h
theorem kget_at : ∀ {l : Ents} {v : Int} {x : V}, kget l v = some x -> ∃ q : Nat, l[q]? = some (v, x)
 | [], v, x, h => by cases h
 | (a, u) :: l, v, x, h => by
  rw [kget] at h
  split at h
  .rename_i e
   injection h with h
   subst e h
   exact ⟨0, rfl⟩
  .obtain ⟨q, hq⟩ := kget_at h
   exact ⟨q + 1, by simpa using hq⟩
theorem kmap_get {l : Ents} {q : Nat} {kv : Value} {x : V} (h : (kmap kint l)[q]? = some (kv, x)) : ∃ v, kv = kint v /\ l[q]? = some (v, x) := by
 unfold kmap at h
 rw [Yh] at h
 obtain ⟨⟨v, y⟩, h1, h2⟩ := Option.map_eq_some_iff.1 h
 injection h2 with h2 h3
 subst h3
 exact ⟨v, h2.symm, h1⟩
structure RInv (l0 : Ents) (bs : List Nat) (seen : Array Nat) (le : Ents) : Prop where
 nd : seen.toList.Nodup
 sub : ∀ b ∈ seen.toList, b ∈ bs
 has : ∀ (q : Nat) (v : Int) (x : V) (b : Nat), l0[q]? = some (v, x) -> bs[q]? = some b -> b ∈ seen.toList -> kget le v = some x
 only : ∀ (v : Int) (x : V), kget le v = some x -> ∃ q : Nat, l0[q]? = some (v, x)
 kn : KN le
theorem rinv_start (l0 : Ents) (bs : List Nat) : RInv l0 bs #[] [] := ⟨Yq, (λ b hb => by cases hb), (λ q v x b _ _ h => by cases h), (λ v x h => by cases h), Yq⟩
theorem rinv_lt {l0 le : Ents} {bs : List Nat} {seen : Array Nat} {b : Nat} (h : RInv l0 bs seen le) (hb : b ∈ bs) (hs : b ∉ seen.toList) : seen.size < bs.length := by
 have h1 := nodup_sub_len (Yk.2 ⟨hs, h.nd⟩) (b := bs) λ x hx => by
  rcases List.mem_cons.1 hx with rfl | hx
  .exact hb
  .exact h.sub x hx
 rw [List.length_cons] at h1
 have : seen.toList.length = seen.size := Array.length_toList
 omega
theorem rinv_step {l0 le : Ents} {bs : List Nat} {seen : Array Nat} {q b : Nat} {v : Int} {x : V} (h : RInv l0 bs seen le) (hk : KN l0) (hn : bs.Nodup) (hq : l0[q]? = some (v, x)) (hb : bs[q]? = some b) (hs : b ∉ seen.toList) : RInv l0 bs (seen.push b) (kput le v x) := by
 refine ⟨?_, λ y hy => ?_, λ q' v' x' b' hq' hb' hm => ?_, λ v' x' hv' => ?_, kn_put h.kn⟩
 .rw [Array.toList_push]
  exact List.nodup_append.2 ⟨h.nd, by simp, λ a ha c hc e => by rw [Yaa.1 hc] at e; exact hs (e ▸ ha)⟩
 .rw [Array.toList_push] at hy
  rcases List.mem_append.1 hy with hy | hy
  .exact h.sub y hy
  .rw [Yaa.1 hy]; exact Yc hb
 .rw [kget_kput]
  rw [Array.toList_push] at hm
  by_cases hv : v = v'
  .subst hv
   rw [if_pos rfl]
   have h1 := kn_get hk hq
   have h2 := kn_get hk hq'
   rw [h1] at h2
   exact h2
  .rw [if_neg hv]
   rcases List.mem_append.1 hm with hm | hm
   .exact h.has q' v' x' b' hq' hb' hm
   .rw [Yaa] at hm
    subst hm
    have := (List.getElem?_inj (Yi.1 hb).1 hn).1 (hb.trans hb'.symm)
    subst this
    rw [hq] at hq'
    injection hq' with hq'
    injection hq' with e1 e2
    exact absurd e1 hv
 .rw [kget_kput] at hv'
  by_cases hv : v = v'
  .subst hv
   rw [if_pos rfl] at hv'
   injection hv' with hv'
   subst hv'
   exact ⟨q, hq⟩
  .rw [if_neg hv] at hv'
   exact h.only v' x' hv'
theorem rinv_end {l0 le : Ents} {bs : List Nat} {seen : Array Nat} {e : Env} (h : RInv l0 bs seen le) (hk : KN l0) (hl : bs.length = l0.length) (hall : ∀ b ∈ bs, b ∈ seen.toList) (he : EnvR l0 e) : EnvR le e := λ v => by
 rw [<- he v]
 cases h1 : kget l0 v with
 | some x =>
  obtain ⟨q, hq⟩ := kget_at h1
  have hql := (Yi.1 hq).1
  obtain ⟨b, hb⟩ := get_of_lt bs q (by omega)
  exact h.has q v x b hq hb (hall b (Yc hb))
 | none =>
  cases h2 : kget le v with
  | none => rfl
  | some x =>
   obtain ⟨q, hq⟩ := h.only v x h2
   rw [kn_get hk hq] at h1
   cases h1
theorem kget_put {l : Ents} {v : Int} {x : V} : kget (kput l v x) v = some x := by rw [kget_kput, if_pos rfl]
theorem envR_get {l : Ents} {e : Env} (h : EnvR l e) (v : Int) : (kget l v).getD (.int 0) = .int ((e v).getD 0) := by
 rw [h v]
 cases e v <;> rfl
theorem envR_is {l : Ents} {e : Env} (h : EnvR l e) (v : Int) : (kget l v).isSome = (e v).isSome := by
 rw [h v]
 cases e v <;> rfl
def L7 (out : List V) : Prop := ∀ x ∈ out, x.leaves.length = 7
theorem rowG_len {out : List V} (h : L7 out) : (rowG out).length = out.length * 7 := flat_len h
theorem rowG_get {out : List V} (h : L7 out) {k j : Nat} {ls : List V} {v : V} (hk : out[k]? = some (.agg ls)) (hj : ls[j]? = some v) : (rowG out)[k * 7 + j]? = some v := by
 have hl := h _ (Yc hk)
 have hl : ls.length = 7 := hl
 have hjl := (Yi.1 hj).1
 have h1 := flat_drop (rest := []) h hk
 have h2 : (((out.flatMap V.leaves ++ []).drop (k * 7)).take 7)[j]? = some v := by rw [h1]; exact hj
 rw [List.getElem?_take_of_lt (by omega), List.getElem?_drop, Ya] at h2
 exact h2
theorem rowG_set : ∀ {out : List V} {k j : Nat} {ls : List V} {v : V}, L7 out -> out[k]? = some (.agg ls) -> j < 7 -> (rowG out).set (k * 7 + j) v = rowG (out.set k (.agg (ls.set j v)))
 | [], k, j, ls, v, _, hk, _ => by simp at hk
 | x :: out, 0, j, ls, v, h, hk, hj => by
  have hk : x = .agg ls := by simpa using hk
  subst hk
  have hl : ls.length = 7 := h _ (Yl ..)
  show (ls ++ rowG out).set (0 * 7 + j) v = ls.set j v ++ rowG out
  rw [Nat.zero_mul, Nat.zero_add, List.set_append_left _ _ (by omega)]
 | x :: out, k + 1, j, ls, v, h, hk, hj => by
  have hl : x.leaves.length = 7 := h _ (Yl ..)
  have ih := rowG_set (out := out) (k := k) (j := j) (v := v) (λ y hy => h y (Yu _ hy)) (by simpa using hk) hj
  show (x.leaves ++ rowG out).set ((k + 1) * 7 + j) v = x.leaves ++ rowG (out.set k (.agg (ls.set j v)))
  rw [Yy _ _ (by omega), hl, show (k + 1) * 7 + j - 7 = k * 7 + j by omega, ih]
theorem L7_set {out : List V} (h : L7 out) (k : Nat) {ls : List V} (hl : ls.length = 7) : L7 (out.set k (.agg ls)) := λ x hx => by
 rcases List.mem_or_eq_of_mem_set hx with hx | rfl
 .exact h x hx
 .exact hl
theorem out_set {out : List V} {k : Nat} {x : V} (h : k < out.length) : (out.set k x)[k]? = some x := List.getElem?_set_self h
theorem set_set {out : List V} {k : Nat} {x y : V} : (out.set k x).set k y = out.set k y := List.set_set ..
abbrev zB : V := .agg VT.zs40
abbrev bX (p i : V) : V := .agg [p, i, .int 0, .int 0, .int 0, V.nilSl, V.nilSl]
abbrev begT (ti : Tok) (s : BSt) : V := bX (intsX s.params) (.sl 4 (some ti) (s.ins.map insV))
theorem ndX_at {Nd : Nds} {k : Nat} (hk : k < Nd.length) : (Nd.map boolsB)[k]? = some (boolsB (ndAt Nd k)) := by
 obtain ⟨s, hs⟩ := get_of_lt Nd k (by omega)
 rw [Yh, hs, ndAt_get hs]
 rfl
theorem inn_at {inn : List (List Int)} {k : Nat} (hk : k < inn.length) : inn[k]? = some (innAt inn k) := by
 obtain ⟨s, hs⟩ := get_of_lt inn k (by omega)
 unfold innAt
 rw [hs]
 rfl
theorem blk_at {G : List SBlock} {k : Nat} (hk : k < G.length) : G[k]? = some (blkAt G k) := by
 obtain ⟨s, hs⟩ := get_of_lt G k (by omega)
 unfold blkAt
 rw [hs]
 rfl
def AllB (G : List SBlock) (ms : Mps) (out : List V) : Prop := out.length = G.length /\ ms.length = G.length /\ L7 out
theorem p_step {s : BSt} {v : Int} : ((stP s v).params.map V.int) = s.params.map V.int ++ [V.int s.nx] := by
 show ((s.params ++ [s.nx]).map V.int) = _
 rw [Ym]
 rfl
theorem p_len {s : BSt} {v : Int} : (s.params.map V.int ++ [V.int s.nx]).length = (stP s v).params.length := by
 rw [<- p_step (v := v), Yd]
theorem i_step {s : BSt} {v : Int} {is : Bool} (h : (is && !(s.env v).isSome) = true) : stI s v is = ⟨updE s.env v s.nx, s.nx + 1, s.params, s.ins ++ [⟨s.nx, 0, 0, []⟩]⟩ := if_pos h
theorem i_keep {s : BSt} {v : Int} {is : Bool} (h : (is && !(s.env v).isSome) = false) : stI s v is = s := if_neg (by rw [h]; decide)
theorem ins_map {s : BSt} : (s.ins ++ [(⟨s.nx, 0, 0, []⟩ : SIns)]).map insV = s.ins.map insV ++ [insV ⟨s.nx, 0, 0, []⟩] := by
 rw [Ym]
 rfl
def begOf (w : Wc) (ends : Nat -> Env) (k : Nat) (nx : Int) : BSt := beginF w.G w.inn w.Nd ends k nx
structure WOk (w : Wc) (many : Nat) : Prop where
 len : 1 <= w.G.length /\ w.G.length <= 1000
 inn : w.inn.length = w.G.length
 nd : w.Nd.length = w.G.length
 row : RowsB many w.Nd
 many : many <= 10000
 par : ∀ b ∈ w.G, b.params.length <= 10000
 ins : ∀ b ∈ w.G, b.ins.length <= 10000 /\ ∀ i ∈ b.ins, i.args.length <= 10000
theorem mY_pull : ∀ {ms : Mps} {p : Nat} {x : Nat × Ents}, ms[p]? = some (some x) -> (mY ms).Perm (.map x.1 (kmap kint x.2) :: mY (ms.set p none))
 | [], p, x, h => by simp at h
 | m :: ms, 0, x, h => by
  have h : m = some x := by simpa using h
  subst h
  exact .refl _
 | m :: ms, p + 1, x, h => by
  have ih := mY_pull (ms := ms) (p := p) (x := x) (by simpa using h)
  show (mOwn m ++ mY ms).Perm (_ :: (mOwn m ++ mY (ms.set p none)))
  exact (ih.append_left (mOwn m)).trans List.perm_middle
theorem wfresh_c (w : Wc) (nx : Int) (hn : 0 <= nx /\ nx <= 1000000000) : VCalls Tryz.prog 60 [.ptr w.gw 0] [wC w nx] λ r S' => r = .int nx /\ S' = [wC w (nx + 1)] := by
 refine VCalls_drops ?_
 obtain ⟨hn0, hn1⟩ := hn
 refine V_start (nt := 15) Tryz.func60 rfl rfl rfl ?_
 refine Zb<|Zd<|Zc<|Zk rfl<|Za<|Zi<|Zb<|Zd<|Zc<|Zl rfl<|Zc<|Zv1 rfl<|Zc<|Zj VT.fa79_2 rfl<|Zc<|Zu 0 VT.ty3 rfl rfl rfl<|Zc<|Zh2 rfl rfl (by omega)<|Zc<|Zv1 rfl<|Zc<|Zj VT.fa79_2 rfl<|Zc<|Zy 0 VT.ty3 rfl rfl rfl rfl rfl<|Za<|Zi<|Zb<|Zd<|Zc<|Zl rfl<|Zc<|Zv1 rfl<|Zc<|Zj VT.fa79_2 rfl<|Zc<|Zu 0 VT.ty3 rfl rfl rfl<|Zc<|Zk2 rfl rfl (by omega)<|Zc<|Zk rfl<|Za<|Zi<|Zf1<|Zg1 rfl (.tmp rfl) ?_
 exact ⟨_, Zt2 _, congrArg V.int (by omega), rfl⟩
theorem begin_c {w : Wc} {many : Nat} (hw : WOk w many) {k : Nat} (hk : k < w.G.length) {nx : Int} (hn : 0 <= nx /\ nx <= 100000000) {out : List V} {ms : Mps} (ha : AllB w.G ms out) (hz : out[k]? = some zB) (ends : Nat -> Env) (hp : k ≠ 0 -> (innAt w.inn k).length = 1 -> ∃ (p : Nat) (x : Nat × Ents), innAt w.inn k = [(p : Int)] /\ ms[p]? = some (some x) /\ EnvR x.2 (ends p) /\ KN x.2) : VCalls Tryz.prog 59 [.ptr w.gw 0, .int k] (wC w nx :: oC w out :: eC w ms :: mY ms) λ r S' => ∃ g l ti, S' = .buf ti 42 4 (begOf w ends k nx).ins.length :: .map g (kmap kint l) :: wC w (begOf w ends k nx).nx :: oC w (out.set k (begT ti (begOf w ends k nx))) :: eC w ms :: mY ms /\ EnvR l (begOf w ends k nx).env /\ KN l /\ r = .raw (.map (some g)) := by
 refine VCalls_drops ?_
 obtain ⟨hn0, hn1⟩ := hn
 obtain ⟨ha1, ha2, h7⟩ := ha
 obtain ⟨⟨hl0, hl1⟩, hil, hndl, hrow, hmany, hpar, _⟩ := hw
 have hkout : k < out.length := by omega
 have hndk : (ndAt w.Nd k).length = many := rows_at hrow (by omega)
 refine V_start (nt := 186) Tryz.func59 rfl rfl rfl ?_
 refine Zb<|Zd<|Zc<|Zk rfl<|Za<|Zi<|Zb<|Zd<|Zc<|V_makeMap (kv := kint)<|λ g16 => (Zc<|Zk rfl<|Za<|Zi<|Zb<|Zs<|Zb<|Zd<|Zc<|Zl rfl<|Zc<|Zj1 rfl rfl rfl<|Zc<|Zk rfl<|Za<|Zi<|Zl1 rfl (λ h58 => ?_)<|λ h58 => ?_)
 .
  have hk0 : k = 0 := by omega
  subst hk0
  have hb0 := hpar _ (Yc (blk_at hk))
  refine Zb<|Zb<|Zd<|Zc<|Zl rfl<|Zc<|Zv1 rfl<|Zc<|Zj VT.fa79_0 rfl<|Zc<|Zj VT.fa71_0 rfl<|Zc<|Zj VT.fa31_1 rfl<|Zc<|Zu 1 VT.ty29 rfl rfl rfl<|Zc<|Zz (el := blockV (blkAt w.G 0)) VT.sl29 rfl rfl (by omega) (get_mapS _<|blk_at hk)<|λ a67 => (Zc<|Zw1 VT.fa40_0 rfl rfl<|Zc<|Zz1 VT.ty32 rfl rfl<|Zc<|Zd2 (n := (blkAt w.G 0).params.length) Tryz.underlying32 rfl (by simp)<|λ hl70 => (Zc<|Zl rfl<|Za<|Zi<|VW_cellAt 2 (0 * 7 + 0) (v' := .sl 1 (some .nil) []) rfl (rowG_get h7 hz rfl) (V.le.nilTok 1) rfl<|VW_cellAt 2 (0 * 7 + 1) (v' := .sl 4 (some .nil) []) rfl (by rw [Yab (by omega)]; exact rowG_get h7 hz rfl) (V.le.nilTok 4) rfl<|VW_nilBuf 3 1<|VW_nilBuf 42 4<|VW_perm (S' := .buf .nil 42 4 0 :: .buf .nil 3 1 0 :: .map g16 (kmap kint []) :: wC w nx :: oC w (out.set 0<|bX (.sl 1 (some .nil) [])<|.sl 4 (some .nil) []) :: eC w ms :: (mY ms)) (.of_eq (by show (_ :: _ :: _ :: _ :: Own.cells w.go 40 (((rowG out).set (0 * 7 + 0) _).set (0 * 7 + 1) _) :: _ :: _) = _; rw [rowG_set h7 hz (by decide), rowG_set (L7_set h7 0 rfl) (out_set (by omega)) (by decide), set_set]; rfl))<|Zs<|Zi2 (ι := Nat × BSt × Ents × Tok) (λ (j, s, l, tp) => (blkAt w.G 0).params.length - j) (λ (j, s, l, tp) => [(0, some (.ptr w.gw 0)), (1, some (.int ((0 : Nat) : Int))), (5, some (.raw (.map (some g16)))), (69, some (intsX (blkAt w.G 0).params)), (70, some (.int (blkAt w.G 0).params.length)), (71, some (.int j))]) (λ (j, s, l, tp) => .buf .nil 42 4 0 :: .buf tp 3 1 s.params.length :: .map g16 (kmap kint l) :: wC w s.nx :: oC w (out.set 0<|bX (.sl 1 (some tp)<|s.params.map V.int)<|.sl 4 (some .nil) []) :: eC w ms :: mY ms) (λ (j, s, l, tp) => j <= (blkAt w.G 0).params.length /\ EnvR l s.env /\ ((blkAt w.G 0).params.drop j).foldl stP s = (blkAt w.G 0).params.foldl stP (emptyS nx) /\ nx <= s.nx /\ s.nx <= nx + j /\ s.params.length = j /\ s.ins = [] /\ KN l) (0, emptyS nx, [], .nil) ⟨Yad _, envR_nil, rfl, Yah _, by show nx <= nx + 0; omega, rfl, rfl, Yq⟩ ⟨rfl, rfl, rfl, rfl, rfl, rfl, trivial⟩ (Dk<|Dk<|Dk<|Dk<|Dk<|Dk<|Zt2 _) ?_))
  rintro ⟨j, s, l, tp⟩ hA
  change j <= (blkAt w.G 0).params.length /\ EnvR l s.env /\ ((blkAt w.G 0).params.drop j).foldl stP s = (blkAt w.G 0).params.foldl stP (emptyS nx) /\ nx <= s.nx /\ s.nx <= nx + j /\ s.params.length = j /\ s.ins = [] /\ KN l at hA
  obtain ⟨hj, hE, hq, hx0, hx1, hpl, hsi, hkn⟩ := hA
  refine Zb<|Zd<|Zc<|Zj1 rfl rfl rfl<|Za<|Zi<|Zb<|Zn1 rfl (λ h72 => ?_)<|λ h72 => ?_
  .
   obtain ⟨v, hv⟩ := get_of_lt (blkAt w.G 0).params j h72
   rw [drop_cons hv, Yx] at hq
   refine Zi1<|Zi<|Zb<|Zs<|Zb<|Zd<|Zc<|Zz (el := V.int v) VT.sl32 rfl rfl (by omega) (get_int hv)<|λ a73 => (Zc<|Zz1 VT.ty3 rfl rfl<|Zc<|Zk rfl<|Za<|Zi<|Zb<|Zd<|Zc<|Zl rfl<|Zc<|Zl rfl<|Zc<|Zl rfl<|Zc<|Zm3 [.tmp 77] [_] _ rfl rfl VT.en60 (Zv2 (i := 3) rfl) (wfresh_c w s.nx ⟨by omega, by omega⟩) ?_)
   rintro r Sa ⟨rfl, rfl⟩
   refine Zc<|V_mapUpdate 3 Tryz.underlying106 (key_int Tryz.underlying3) rfl rfl rfl rfl<|Za<|Zi<|VW_drawR (G := Tok) [([], [0], []), ([0], [79], []), ([1, 0], [80], []), ([2, 1, 0], [81], []), (dn 4, [82], []), ([], [0], []), ([5], [84], []), ([6, 5], [85], []), ([7, 6, 5], [86], []), ([8, 7, 6, 5], [87], []), ([9, 8, 7, 6, 5], [88], []), ([10, 9, 8, 7, 6, 5], [89], []), ([11, 10, 9, 8, 7, 6, 5], [90], []), ([], [5], []), ([], [7], []), ([14, 13], [92, 93], []), ([15, 14, 13], [94], []), ([16, 15, 14, 13, 12, 11, 10, 9, 8, 7, 6, 5], [91, 95], [0]), (dn 18, [83], []), (dn 19, [97], []), (dn 20, [98, 96], [])] [17, 20] (twoSt _ (λ x => wC w (s.nx + 1) :: .buf .nil 42 4 0 :: .buf x 3 1 (s.params.map V.int ++ [V.int s.nx]).length :: .map g16 (kmap kint<|kput l v<|.int s.nx) :: oC w (out.set 0<|bX (.sl 1 (some tp)<|s.params.map V.int)<|.sl 4 (some .nil) []) :: eC w ms :: (mY ms)) (λ x _ => wC w (s.nx + 1) :: .buf .nil 42 4 0 :: .buf x 3 1 (s.params.map V.int ++ [V.int s.nx]).length :: .map g16 (kmap kint<|kput l v<|.int s.nx) :: .cells w.go 40 ((rowG<|out.set 0<|bX (.sl 1 (some tp)<|s.params.map V.int)<|.sl 4 (some .nil) []).set (0 * 7 + 0)<|.sl 1 (some x) (s.params.map V.int ++ [V.int s.nx])) :: eC w ms :: (mY ms))) [] [79, 80, 81, 82, 83, 84, 85, 86, 87, 88, 89, 90, 91, 92, 93, 94, 95, 96, 97, 98] rfl VT.mix<|Zp (Zm _) (Zm2 rfl<|λ _ => (λ γ => Zf<|λ _ h0 => Ze<|Zn rfl<|Zl h0 z0))<|Zp (Zm _) (Zm2 rfl<|λ _ => (λ γ => Zw 0 0 rfl<|λ _ h79 => Ze<|Zn rfl<|Zv1 h79 z0))<|Zp (Zm _) (Zm2 rfl<|λ _ => (λ γ => Zw 1 0 rfl<|λ _ h80 => Ze<|Zn rfl<|Zj VT.fa79_3 h80 z0))<|Zp (Zm _) (Zm2 rfl<|λ _ => (λ γ => Zw 2 0 rfl<|λ _ h81 => Ze<|Zn rfl<|Zj VT.fa31_1 h81 z0))<|Zp (Zm _) (Zo rfl rfl ⟨(λ γ => Zw 3 0 rfl (λ _ h82 => Ze (Zn rfl (Zu 0 VT.ty29 h82 rfl rfl z0)))), (λ γ => Zw 3 0 rfl (λ _ h82 => Ze (Zn rfl (Zu 0 VT.ty29 h82 rfl rfl z0)))), trivial⟩)<|Zp (Zm _) (Zo rfl rfl ⟨(λ γ => Zf (λ _ h0 => Ze (Zn rfl (Zl h0 z0)))), trivial⟩)<|Zp (Zm _) (Zo rfl rfl ⟨(λ γ => Zw 5 0 rfl (λ _ h84 => Ze (Zn rfl (Zv1 h84 z0)))), trivial⟩)<|Zp (Zm _) (Zo rfl rfl ⟨(λ γ => Zw 6 0 rfl (λ _ h85 => Ze (Zn rfl (Zj VT.fa79_3 h85 z0)))), trivial⟩)<|Zp (Zm _) (Zo rfl rfl ⟨(λ γ => Zw 7 0 rfl (λ _ h86 => Ze (Zn rfl (Zj VT.fa31_1 h86 z0)))), trivial⟩)<|Zp (Zm _) (Zo rfl rfl ⟨(λ γ => Zw 8 0 rfl (λ _ h87 => Ze (Zn rfl (Zu 0 VT.ty29 h87 rfl rfl z0)))), trivial⟩)<|Zp (Zm _) (Zo rfl rfl ⟨(λ γ => Zw 9 0 rfl (λ _ h88 => Ze (Zn rfl (Zu2 (Zr2 VT.sl29 h88 rfl (by omega) (by omega) z0) ((V.le.of_eq (congrArg (V.ptr w.go) (by omega)) : V.le _ (.ptr w.go (0 * 7)))) z0)))), trivial⟩)<|Zp (Zm _) (Zo rfl rfl ⟨(λ γ => Zw 10 0 rfl (λ _ h89 => Ze (Zn rfl (Zj VT.fa40_0 h89 z0)))), trivial⟩)<|Zp (Zm _) (Zo rfl rfl ⟨(λ γ => Zw 11 0 rfl (λ _ h90 => Ze (Zn rfl (Zu 4 VT.ty32 h90 rfl (rowG_get (L7_set h7 0 rfl) (out_set hkout) rfl) z0)))), trivial⟩)<|Zp (Zm _) (Zo rfl rfl ⟨(λ γ => Zf (λ _ h5 => Ze (Zn rfl (Zl h5 z0)))), trivial⟩)<|Zp (Zm _) (Zo rfl rfl ⟨(λ γ => Zf (λ _ h7 => Ze (Zn rfl (Zl h7 z0)))), trivial⟩)<|Zp (Zm _) (Zo rfl rfl ⟨(λ γ => Zw 13 1 rfl (λ _ h92 => Zw 14 0 rfl (λ _ h93 => Ze (Zn rfl (V_lookup1 3 Tryz.underlying106 (key_int Tryz.underlying3) VT.zr3 h92 h93 rfl (kget_put) z0))))), trivial⟩)<|Zp (Zm _) (Zo rfl rfl ⟨(λ γ => Zw 15 0 rfl (λ _ h94 => Ze (Zn rfl (Zk3 [.tmp 94] VT.sl32 rfl rfl rfl (Zp2 h94 Zq2) rfl z0)))), trivial⟩)<|Zp (Zw2<|λ x => (.sl 1 (some x) (s.params.map V.int ++ [V.int s.nx]))) (Zo2 0 rfl<|λ γ => Zw 12 4 rfl<|λ _ h91 => Zw 16 0 rfl<|λ _ h95 => Ze<|Zn rfl<|Zi3 2 _ VT.sl32 h91 h95 rfl (by simp) (by simp; omega)<|λ t96 => ⟨t96, ⟨t96, rfl, rfl⟩, rfl⟩)<|Zp (Zm _) (Zo rfl rfl ⟨(λ γ => Zw 4 13 rfl (λ _ h83 => Ze (Zn rfl (Zu2 (Zr2 VT.sl29 h83 rfl (by omega) (by omega) z0) ((V.le.of_eq (congrArg (V.ptr w.go) (by omega)) : V.le _ (.ptr w.go (0 * 7)))) z0)))), trivial⟩)<|Zp (Zm _) (Zo rfl rfl ⟨(λ γ => Zw 18 0 rfl (λ _ h97 => Ze (Zn rfl (Zj VT.fa40_0 h97 z0)))), trivial⟩)<|Zp Za3 (Zo2 1 rfl<|λ γ => Zw 19 0 rfl<|λ _ h98 => Zw 17 2 rfl<|λ _ h96 => Ze<|Zx2 h96<|λ e96 => Zn rfl<|Zy 4 VT.ty32 h98 e96 rfl rfl (Yae (by rw [rowG_len (L7_set h7 0 rfl), Yf]; omega)) ⟨default, trivial, rfl⟩)<|DrawP_nil<|λ γ => Ze<|Zb1<|Zi<|VW_perm (S' := wC w (s.nx + 1) :: .buf .nil 42 4 0 :: .buf (γ 0) 3 1 (stP s v).params.length :: .map g16 (kmap kint<|kput l v<|.int s.nx) :: oC w (out.set 0<|bX (.sl 1 (some<|γ 0)<|(stP s v).params.map V.int)<|.sl 4 (some .nil) []) :: eC w ms :: (mY ms)) (.of_eq (by show (_ :: _ :: _ :: _ :: Own.cells w.go 40 ((rowG<|out.set 0<|bX (.sl 1 (some tp)<|s.params.map V.int)<|.sl 4 (some .nil) []).set (0 * 7 + 0) _) :: _ :: _) = _; rw [rowG_set (L7_set h7 0 rfl) (out_set hkout) (by decide), set_set, p_len (v := v), <- p_step (v := v)]; rfl))<|Zd<|Zc<|Zh2 rfl rfl (by omega)<|Zc<|Zl rfl<|Za<|Zi ?_
   exact ⟨(j + 1, stP s v, kput l v (.int s.nx), (γ 0)), (by (try simp only []); omega), ⟨by omega, envR_put hE v s.nx, hq, by show nx <= s.nx + 1; omega, by show s.nx + 1 <= nx + ((j + 1 : Nat) : Int); omega, by show (s.params ++ [s.nx]).length = _; rw [Yg, hpl]; rfl, hsi, kn_put hkn⟩, ⟨rfl, rfl, rfl, rfl, rfl, rfl, trivial⟩, (Drops.pick 1 rfl rfl (Drops.pick 1 rfl rfl (Drops.pick 1 rfl rfl (Drops.pick 0 rfl rfl (Drops.pick 0 rfl rfl (Drops.pick 0 rfl rfl (Zt2 _)))))))⟩
  have hje : j = (blkAt w.G 0).params.length := by omega
  subst hje
  rw [Ye] at hq
  change s = _ at hq
  refine Zt<|Ze1<|Ze1<|Zc1<|Zi<|Zb<|Zd<|Zc<|Zl rfl<|Zc<|Zv1 rfl<|Zc<|Zj VT.fa79_1 rfl<|Zc<|Zu 3 VT.ty75 rfl rfl rfl<|Zc<|Zz (el := boolsB (ndAt w.Nd 0)) VT.sl75 rfl rfl (by omega) (ndX_at (by omega))<|λ a104 => (Zc<|Zz1 VT.ty103 rfl rfl<|Zc<|Zd2 (n := (ndAt w.Nd 0).length) Tryz.underlying103 rfl (by simp)<|λ hl106 => (Zc<|Zl rfl<|Za<|Zi<|Zs<|Zi2 (ι := Nat × BSt × Ents × Tok) (λ (j, s1, l, ti) => (ndAt w.Nd 0).length - j) (λ (j, s1, l, ti) => [(0, some (.ptr w.gw 0)), (1, some (.int ((0 : Nat) : Int))), (5, some (.raw (.map (some g16)))), (105, some (boolsB (ndAt w.Nd 0))), (106, some (.int (ndAt w.Nd 0).length)), (107, some (.int j))]) (λ (j, s1, l, ti) => .buf ti 42 4 s1.ins.length :: .buf tp 3 1 s.params.length :: .map g16 (kmap kint l) :: wC w s1.nx :: oC w (out.set 0<|bX (.sl 1 (some tp)<|s.params.map V.int)<|.sl 4 (some ti)<|s1.ins.map insV) :: eC w ms :: mY ms) (λ (j, s1, l, ti) => j <= (ndAt w.Nd 0).length /\ EnvR l s1.env /\ foldZ stI j ((ndAt w.Nd 0).drop j) s1 = foldZ stI 0 (ndAt w.Nd 0) s /\ s.nx <= s1.nx /\ s1.nx <= s.nx + j /\ s1.params = s.params /\ s1.ins.length <= j /\ KN l) (0, s, l, .nil) ⟨Yad _, hE, rfl, Yah _, by show s.nx <= s.nx + 0; omega, rfl, by rw [hsi]; exact Yac _, hkn⟩ ⟨rfl, rfl, rfl, rfl, rfl, rfl, trivial⟩ (Drops.keepE (by rw [hsi]; rfl)<|Drops.keepE rfl<|Dk<|Dk<|Drops.keepE (by rw [hsi]; rfl)<|Dk<|Zt2 _) ?_))
  rintro ⟨j, s1, l, ti⟩ hB
  change j <= (ndAt w.Nd 0).length /\ EnvR l s1.env /\ foldZ stI j ((ndAt w.Nd 0).drop j) s1 = foldZ stI 0 (ndAt w.Nd 0) s /\ s.nx <= s1.nx /\ s1.nx <= s.nx + j /\ s1.params = s.params /\ s1.ins.length <= j /\ KN l at hB
  obtain ⟨hj, hE, hq2, hy0, hy1, hsp, hil2, hkn⟩ := hB
  refine Zb<|Zd<|Zc<|Zj1 rfl rfl rfl<|Za<|Zi<|Zb<|Zn1 rfl (λ h108 => ?_)<|λ h108 => ?_
  .
   obtain ⟨is, his⟩ := get_of_lt (ndAt w.Nd 0) j h108
   rw [drop_cons his, foldZ] at hq2
   refine Zi1<|Zi<|Zb<|Zs<|Zb<|Zd<|Zc<|Zl rfl<|Zc<|Zz (el := V.bool is) VT.sl103 rfl rfl (by omega) (getB his)<|λ a110 => (Zc<|Zz1 VT.ty4 rfl rfl<|Zc<|Zk rfl<|Zc<|Zk rfl<|Za<|Zi<|Zb<|Zd<|Zc<|Zl rfl<|Zc<|Zl rfl<|Zc<|V_lookupDOk 2 (.raw<|.int .i64 0) (λ m => rfl) Tryz.underlying106 (key_int Tryz.underlying3) VT.zr3 rfl rfl rfl<|Zc<|Zl rfl<|Zc<|Zu2 (Zg2 rfl rfl ⟨rfl, rfl⟩) ((V.le.of_eq (envR_get hE (j : Int)) : V.le _ (.int<|(s1.env (j : Int)).getD 0)))<|Zc<|Zu2 (Zg2 rfl rfl ⟨rfl, rfl⟩) ((V.le.of_eq (congrArg V.bool<|envR_is hE (j : Int)) : V.le _ (.bool (s1.env (j : Int)).isSome)))<|Zc<|Zk rfl<|Zc<|Zk rfl<|Za<|Zi<|Zb<|Zd<|Zc<|Zl rfl<|Zc<|Zl rfl<|Zj2 (q := 119) rfl (λ hq119 => ?_)<|λ hq119 => ?_)
   .
    refine Zc (Zl rfl ?_)<|Zy1 hq119
    refine Zc (Zl2 rfl ?_)<|Zy1 hq119
    refine Zc<|Zs1 rfl hq119 rfl<|Za<|Zi<|Zo1 rfl (λ h122 => ?_)<|λ h122 => ?_
    .
     have hk2 := i_step (s := s1) (v := (j : Int)) (is := is) (by rw [hq119, h122]; rfl)
     rw [hk2] at hq2
     have hB9 := And.intro (show j + 1 <= (ndAt w.Nd 0).length by omega) (And.intro (envR_put hE (j : Int) s1.nx) (And.intro hq2 (And.intro (show s.nx <= s1.nx + 1 by omega) (And.intro (show s1.nx + 1 <= s.nx + ((j + 1 : Nat) : Int) by omega) (And.intro hsp (And.intro (show (s1.ins ++ [(⟨s1.nx, 0, 0, []⟩ : SIns)]).length <= j + 1 by rw [Yg, Yv]; omega) (kn_put hkn : KN (kput l (j : Int) (.int s1.nx)))))))))
     refine Zb<|Zd<|Zc<|Zl rfl<|Zc<|Zl rfl<|Zc<|Zl rfl<|Zc<|Zm3 [.tmp 125] [_] _ rfl rfl VT.en60 (Zv2 (i := 3) rfl) (wfresh_c w s1.nx ⟨by omega, by omega⟩) ?_
     rintro r Sa ⟨rfl, rfl⟩
     refine Zc<|V_mapUpdate 3 Tryz.underlying106 (key_int Tryz.underlying3) rfl rfl rfl rfl<|Za<|Zi<|VW_drawR (G := Tok) [([], [0], []), ([0], [127], []), ([1, 0], [128], []), ([2, 1, 0], [129], []), (dn 4, [130], []), ([], [0], []), ([5], [132], []), ([6, 5], [133], []), ([7, 6, 5], [134], []), ([8, 7, 6, 5], [135], []), ([9, 8, 7, 6, 5], [136], []), ([10, 9, 8, 7, 6, 5], [137], []), ([11, 10, 9, 8, 7, 6, 5], [138], []), ([], [5], []), ([], [8], []), ([14, 13], [140, 141], []), ([15, 14, 13], [142], []), ([16, 15, 14, 13], [143], []), ([17, 16, 15, 14, 13, 12, 11, 10, 9, 8, 7, 6, 5], [139, 144], [0]), (dn 19, [131], []), (dn 20, [146], []), (dn 21, [147, 145], [])] [18, 21] (twoSt _ (λ x => wC w (s1.nx + 1) :: .buf x 42 4 (s1.ins.map insV ++ [insV ⟨s1.nx, 0, 0, []⟩]).length :: .buf tp 3 1 s.params.length :: .map g16 (kmap kint<|kput l (j : Int)<|.int s1.nx) :: oC w (out.set 0<|bX (.sl 1 (some tp)<|s.params.map V.int)<|.sl 4 (some ti)<|s1.ins.map insV) :: eC w ms :: (mY ms)) (λ x _ => wC w (s1.nx + 1) :: .buf x 42 4 (s1.ins.map insV ++ [insV ⟨s1.nx, 0, 0, []⟩]).length :: .buf tp 3 1 s.params.length :: .map g16 (kmap kint<|kput l (j : Int)<|.int s1.nx) :: .cells w.go 40 ((rowG<|out.set 0<|bX (.sl 1 (some tp)<|s.params.map V.int)<|.sl 4 (some ti)<|s1.ins.map insV).set (0 * 7 + 1)<|.sl 4 (some x) (s1.ins.map insV ++ [insV ⟨s1.nx, 0, 0, []⟩])) :: eC w ms :: (mY ms))) [] [127, 128, 129, 130, 131, 132, 133, 134, 135, 136, 137, 138, 139, 140, 141, 142, 143, 144, 145, 146, 147] rfl VT.mix<|Zp (Zm _) (Zm2 rfl<|λ _ => (λ γ => Zf<|λ _ h0 => Ze<|Zn rfl<|Zl h0 z0))<|Zp (Zm _) (Zm2 rfl<|λ _ => (λ γ => Zw 0 0 rfl<|λ _ h127 => Ze<|Zn rfl<|Zv1 h127 z0))<|Zp (Zm _) (Zm2 rfl<|λ _ => (λ γ => Zw 1 0 rfl<|λ _ h128 => Ze<|Zn rfl<|Zj VT.fa79_3 h128 z0))<|Zp (Zm _) (Zm2 rfl<|λ _ => (λ γ => Zw 2 0 rfl<|λ _ h129 => Ze<|Zn rfl<|Zj VT.fa31_1 h129 z0))<|Zp (Zm _) (Zo rfl rfl ⟨(λ γ => Zw 3 0 rfl (λ _ h130 => Ze (Zn rfl (Zu 0 VT.ty29 h130 rfl rfl z0)))), (λ γ => Zw 3 0 rfl (λ _ h130 => Ze (Zn rfl (Zu 0 VT.ty29 h130 rfl rfl z0)))), trivial⟩)<|Zp (Zm _) (Zo rfl rfl ⟨(λ γ => Zf (λ _ h0 => Ze (Zn rfl (Zl h0 z0)))), trivial⟩)<|Zp (Zm _) (Zo rfl rfl ⟨(λ γ => Zw 5 0 rfl (λ _ h132 => Ze (Zn rfl (Zv1 h132 z0)))), trivial⟩)<|Zp (Zm _) (Zo rfl rfl ⟨(λ γ => Zw 6 0 rfl (λ _ h133 => Ze (Zn rfl (Zj VT.fa79_3 h133 z0)))), trivial⟩)<|Zp (Zm _) (Zo rfl rfl ⟨(λ γ => Zw 7 0 rfl (λ _ h134 => Ze (Zn rfl (Zj VT.fa31_1 h134 z0)))), trivial⟩)<|Zp (Zm _) (Zo rfl rfl ⟨(λ γ => Zw 8 0 rfl (λ _ h135 => Ze (Zn rfl (Zu 0 VT.ty29 h135 rfl rfl z0)))), trivial⟩)<|Zp (Zm _) (Zo rfl rfl ⟨(λ γ => Zw 9 0 rfl (λ _ h136 => Ze (Zn rfl (Zu2 (Zr2 VT.sl29 h136 rfl (by omega) (by omega) z0) ((V.le.of_eq (congrArg (V.ptr w.go) (by omega)) : V.le _ (.ptr w.go (0 * 7)))) z0)))), trivial⟩)<|Zp (Zm _) (Zo rfl rfl ⟨(λ γ => Zw 10 0 rfl (λ _ h137 => Ze (Zn rfl (Zj VT.fa40_1 h137 z0)))), trivial⟩)<|Zp (Zm _) (Zo rfl rfl ⟨(λ γ => Zw 11 0 rfl (λ _ h138 => Ze (Zn rfl (Zu 4 VT.ty35 h138 rfl (rowG_get (L7_set h7 0 rfl) (out_set hkout) rfl) z0)))), trivial⟩)<|Zp (Zm _) (Zo rfl rfl ⟨(λ γ => Zf (λ _ h5 => Ze (Zn rfl (Zl h5 z0)))), trivial⟩)<|Zp (Zm _) (Zo rfl rfl ⟨(λ γ => Zf (λ _ h8 => Ze (Zn rfl (Zl h8 z0)))), trivial⟩)<|Zp (Zm _) (Zo rfl rfl ⟨(λ γ => Zw 13 1 rfl (λ _ h140 => Zw 14 0 rfl (λ _ h141 => Ze (Zn rfl (V_lookup1 3 Tryz.underlying106 (key_int Tryz.underlying3) VT.zr3 h140 h141 rfl (kget_put) z0))))), trivial⟩)<|Zp (Zm _) (Zo rfl rfl ⟨(λ γ => Zw 15 0 rfl (λ _ h142 => Ze (Zn rfl (Zu2 (Zf2 [0, 1] [.tmp 142, .const (.int .i64 (0))] VT.st42 rfl rfl (Zp2 h142 (Zp2 rfl Zq2)) rfl z0) ((by exact V.le.agg ⟨V.le.refl _, rfl, V.le.refl _, rfl, V.le.refl _, rfl, V.le.nil 1, rfl, trivial⟩ : V.le _ (insV ⟨s1.nx, 0, 0, []⟩))) z0)))), trivial⟩)<|Zp (Zm _) (Zo rfl rfl ⟨(λ γ => Zw 16 0 rfl (λ _ h143 => Ze (Zn rfl (Zk3 [.tmp 143] VT.sl35 rfl rfl rfl (Zp2 h143 Zq2) rfl z0)))), trivial⟩)<|Zp (Zw2<|λ x => (.sl 4 (some x) (s1.ins.map insV ++ [insV ⟨s1.nx, 0, 0, []⟩]))) (Zo2 0 rfl<|λ γ => Zw 12 5 rfl<|λ _ h139 => Zw 17 0 rfl<|λ _ h144 => Ze<|Zn rfl<|Zi3 1 _ VT.sl35 h139 h144 rfl (by simp) (by simp; omega)<|λ t145 => ⟨t145, ⟨t145, rfl, rfl⟩, rfl⟩)<|Zp (Zm _) (Zo rfl rfl ⟨(λ γ => Zw 4 14 rfl (λ _ h131 => Ze (Zn rfl (Zu2 (Zr2 VT.sl29 h131 rfl (by omega) (by omega) z0) ((V.le.of_eq (congrArg (V.ptr w.go) (by omega)) : V.le _ (.ptr w.go (0 * 7)))) z0)))), trivial⟩)<|Zp (Zm _) (Zo rfl rfl ⟨(λ γ => Zw 19 0 rfl (λ _ h146 => Ze (Zn rfl (Zj VT.fa40_1 h146 z0)))), trivial⟩)<|Zp Za3 (Zo2 1 rfl<|λ γ => Zw 20 0 rfl<|λ _ h147 => Zw 18 2 rfl<|λ _ h145 => Ze<|Zx2 h145<|λ e145 => Zn rfl<|Zy 4 VT.ty35 h147 e145 rfl rfl (Yae (by rw [rowG_len (L7_set h7 0 rfl), Yf]; omega)) ⟨default, trivial, rfl⟩)<|DrawP_nil<|λ γ => Ze<|Zb1<|Zi<|VW_perm (S' := wC w (s1.nx + 1) :: .buf (γ 0) 42 4 (s1.ins ++ [(⟨s1.nx, 0, 0, []⟩ : SIns)]).length :: .buf tp 3 1 s.params.length :: .map g16 (kmap kint<|kput l (j : Int)<|.int s1.nx) :: oC w (out.set 0<|bX (.sl 1 (some tp)<|s.params.map V.int)<|.sl 4 (some<|γ 0)<|(s1.ins ++ [(⟨s1.nx, 0, 0, []⟩ : SIns)]).map insV) :: eC w ms :: (mY ms)) (.of_eq (by show (_ :: _ :: _ :: _ :: Own.cells w.go 40 ((rowG<|out.set 0<|bX (.sl 1 (some tp)<|s.params.map V.int)<|.sl 4 (some ti)<|s1.ins.map insV).set (0 * 7 + 1) _) :: _ :: _) = _; rw [rowG_set (L7_set h7 0 rfl) (out_set hkout) (by decide), set_set, <- ins_map, Yd]; rfl))<|Zd<|Zc<|Zh2 rfl rfl (by omega)<|Zc<|Zl rfl<|Za<|Zi ?_
     exact ⟨(j + 1, (⟨updE s1.env (j : Int) s1.nx, s1.nx + 1, s1.params, s1.ins ++ [⟨s1.nx, 0, 0, []⟩]⟩ : BSt), kput l (j : Int) (.int s1.nx), (γ 0)), (by (try simp only []); omega), hB9, ⟨rfl, rfl, rfl, rfl, rfl, rfl, trivial⟩, (Drops.pick 1 rfl rfl (Drops.pick 1 rfl rfl (Drops.pick 1 rfl rfl (Drops.pick 0 rfl rfl (Drops.pick 0 rfl rfl (Drops.pick 0 rfl rfl (Zt2 _)))))))⟩
    have hk2 := i_keep (s := s1) (v := (j : Int)) (is := is) (by rw [hq119, h122]; rfl)
    rw [hk2] at hq2
    have hB9 := And.intro (show j + 1 <= (ndAt w.Nd 0).length by omega) (And.intro hE (And.intro hq2 (And.intro hy0 (And.intro (show s1.nx <= s.nx + ((j + 1 : Nat) : Int) by omega) (And.intro hsp (And.intro (show s1.ins.length <= j + 1 by omega) hkn))))))
    refine Zi1<|Zb1<|Zi<|Zd<|Zc<|Zh2 rfl rfl (by omega)<|Zc<|Zl rfl<|Za<|Zi ?_
    exact ⟨(j + 1, s1, l, ti), (by (try simp only []); omega), hB9, ⟨rfl, rfl, rfl, rfl, rfl, rfl, trivial⟩, (Dk (Dk (Dk (Dk (Dk (Dk (Zt2 _)))))))⟩
   have hk2 := i_keep (s := s1) (v := (j : Int)) (is := is) (by rw [hq119]; rfl)
   rw [hk2] at hq2
   have hB9 := And.intro (show j + 1 <= (ndAt w.Nd 0).length by omega) (And.intro hE (And.intro hq2 (And.intro hy0 (And.intro (show s1.nx <= s.nx + ((j + 1 : Nat) : Int) by omega) (And.intro hsp (And.intro (show s1.ins.length <= j + 1 by omega) hkn))))))
   refine Zk1 hq119<|Zk1 hq119<|Zc<|Zt1 rfl hq119 rfl<|Za<|Zi<|Zq1 rfl rfl<|Zi1<|Zb1<|Zi<|Zd<|Zc<|Zh2 rfl rfl (by omega)<|Zc<|Zl rfl<|Za<|Zi ?_
   exact ⟨(j + 1, s1, l, ti), (by (try simp only []); omega), hB9, ⟨rfl, rfl, rfl, rfl, rfl, rfl, trivial⟩, (Dk (Dk (Dk (Dk (Dk (Dk (Zt2 _)))))))⟩
  have hje : j = (ndAt w.Nd 0).length := by omega
  subst hje
  rw [Ye, foldZ] at hq2
  have hB0 : begOf w ends 0 nx = s1 := by show beginF _ _ _ _ 0 _ = _; unfold beginF; rw [if_pos rfl, beg0, <- hq]; exact hq2.symm
  have hfin : EnvR l (begOf w ends 0 nx).env /\ KN l := by rw [hB0]; exact ⟨hE, hkn⟩
  refine VW_cellAt 4 (0 * 7 + 0) (v' := intsX s.params) rfl (rowG_get (L7_set h7 0 rfl) (out_set hkout) rfl) V.le.strip rfl<|VW_drops (S' := .buf ti 42 4 (begOf w ends 0 nx).ins.length :: .map g16 (kmap kint l) :: wC w (begOf w ends 0 nx).nx :: oC w (out.set 0<|begT ti<|begOf w ends 0 nx) :: eC w ms :: (mY ms)) (.trans (.keep<|.drop<|.refl _)<|.of_perm<|.of_eq (by show (_ :: _ :: _ :: Own.cells w.go 40 ((rowG<|out.set 0<|bX (.sl 1 (some tp)<|s.params.map V.int)<|.sl 4 (some ti)<|s1.ins.map insV).set (0 * 7 + 0) _) :: _ :: _) = _; rw [rowG_set (L7_set h7 0 rfl) (out_set hkout) (by decide), set_set, hB0, begT, hsp]; rfl))<|Zt<|Ze1<|Ze1<|Zc1<|Zb1<|Zi<|Zb<|Zd<|Zc<|Zl rfl<|Zc<|Zk rfl<|Za<|Zi<|Zf1<|Zg1 rfl (.tmp rfl) ?_
  exact ⟨_, Zt2 _, g16, _, _, rfl, hfin.1, hfin.2, rfl⟩
 have hk0 : k ≠ 0 := by omega
 refine Zb<|Zd<|Zc<|Zl rfl<|Zc<|Zv1 rfl<|Zc<|Zj VT.fa79_0 rfl<|Zc<|Zj VT.fa71_2 rfl<|Zc<|Zu 1 VT.ty69 rfl rfl rfl<|Zc<|Zl rfl<|Zc<|Zz (el := intsX (innAt w.inn k)) VT.sl69 rfl rfl (by omega) (get_mapS intsX (by rw [Yag]; exact inn_at (by omega)))<|λ a156 => (Zc<|Zz1 VT.ty32 rfl rfl<|Zc<|Zd2 (n := (innAt w.inn k).length) Tryz.underlying32 rfl (by simp)<|λ hl158 => (Zc<|Zj1 rfl rfl rfl<|Zc<|Zk rfl<|Za<|Zi<|Zl1 rfl (λ h149 => ?_)<|λ h149 => ?_))
 .
  obtain ⟨p, x, hpk, hmp, hEx, hKx⟩ := hp hk0 (by omega)
  have hpl := (Yi.1 hmp).1
  have hB0 : begOf w ends k nx = ⟨ends p, nx, [], []⟩ := by show beginF _ _ _ _ k _ = _; unfold beginF; rw [if_neg hk0, if_pos (by omega), hpk]; rfl
  refine VW_perm (S' := .map x.1 (kmap kint x.2) :: .map g16 (kmap kint []) :: wC w nx :: oC w out :: eC w ms :: (mY<|ms.set p none)) (pullL [_, _, _, _]<|mY_pull hmp)<|Zb<|VW_drawR (G := (Nat × List Nat × Nat)) [([], [0], []), ([0], [160], []), ([1, 0], [161], []), ([2, 1, 0], [162], []), ([], [0], []), ([4], [164], []), ([5, 4], [165], []), ([6, 5, 4], [166], []), ([7, 6, 5, 4], [167], []), ([], [1], []), ([9, 8, 7, 6, 5, 4], [168, 169], []), ([10, 9, 8, 7, 6, 5, 4], [170], []), ([11, 10, 9, 8, 7, 6, 5, 4], [171], []), ([12, 11, 10, 9, 8, 7, 6, 5, 4], [172], []), (dn 14, [163, 173], []), (dn 15, [174], []), (dn 16, [175], [0])] [16] (oneSt _ (λ y => oIter y.1 x.1 y.2.2 #[] y.2.2 :: oMap x.1 (kmap kint x.2) y.2.1 y.2.2 :: .map g16 (kmap kint []) :: wC w nx :: oC w out :: eC w ms :: (mY<|ms.set p none))) [176] [160, 161, 162, 163, 164, 165, 166, 167, 168, 169, 170, 171, 172, 173, 174, 175, 176] rfl VT.mix<|Zp (Zm _) (Zo rfl rfl ⟨(λ γ => Zf (λ _ h0 => Ze (Zn rfl (Zl h0 z0)))), trivial⟩)<|Zp (Zm _) (Zo rfl rfl ⟨(λ γ => Zw 0 0 rfl (λ _ h160 => Ze (Zn rfl (Zv1 h160 z0)))), trivial⟩)<|Zp (Zm _) (Zo rfl rfl ⟨(λ γ => Zw 1 0 rfl (λ _ h161 => Ze (Zn rfl (Zj VT.fa79_4 h161 z0)))), trivial⟩)<|Zp (Zm _) (Zo rfl rfl ⟨(λ γ => Zw 2 0 rfl (λ _ h162 => Ze (Zn rfl (Zu 2 VT.ty77 h162 rfl rfl z0)))), trivial⟩)<|Zp (Zm _) (Zo rfl rfl ⟨(λ γ => Zf (λ _ h0 => Ze (Zn rfl (Zl h0 z0)))), trivial⟩)<|Zp (Zm _) (Zo rfl rfl ⟨(λ γ => Zw 4 0 rfl (λ _ h164 => Ze (Zn rfl (Zv1 h164 z0)))), trivial⟩)<|Zp (Zm _) (Zo rfl rfl ⟨(λ γ => Zw 5 0 rfl (λ _ h165 => Ze (Zn rfl (Zj VT.fa79_0 h165 z0)))), trivial⟩)<|Zp (Zm _) (Zo rfl rfl ⟨(λ γ => Zw 6 0 rfl (λ _ h166 => Ze (Zn rfl (Zj VT.fa71_2 h166 z0)))), trivial⟩)<|Zp (Zm _) (Zo rfl rfl ⟨(λ γ => Zw 7 0 rfl (λ _ h167 => Ze (Zn rfl (Zu 2 VT.ty69 h167 rfl rfl z0)))), trivial⟩)<|Zp (Zm _) (Zo rfl rfl ⟨(λ γ => Zf (λ _ h1 => Ze (Zn rfl (Zl h1 z0)))), trivial⟩)<|Zp (Zb3 _) (Zo rfl rfl ⟨(λ γ => Zw 8 1 rfl (λ _ h168 => Zw 9 0 rfl (λ _ h169 => Ze (Zn rfl (Zz (el := intsX (innAt w.inn k)) VT.sl69 h168 h169 (by omega) (get_mapS intsX (by rw [Yag]; exact inn_at (by omega))) (λ a170 => ⟨⟨_, rfl⟩, rfl⟩)))))), trivial⟩)<|Zp (Zm _) (Zo rfl rfl ⟨(λ γ => Zw 10 0 rfl (λ _ h170 => Ze (Zc3 h170 (λ a_170 e170 => Zn rfl (Zz1 VT.ty32 e170 rfl z0))))), trivial⟩)<|Zp (Zb3 _) (Zo rfl rfl ⟨(λ γ => Zw 11 0 rfl (λ _ h171 => Ze (Zn rfl (Zz (el := V.int (p : Int)) VT.sl32 h171 rfl (by omega) (by rw [hpk]; rfl) (λ a172 => ⟨⟨_, rfl⟩, rfl⟩))))), trivial⟩)<|Zp (Zm _) (Zo rfl rfl ⟨(λ γ => Zw 12 0 rfl (λ _ h172 => Ze (Zc3 h172 (λ a_172 e172 => Zn rfl (Zz1 VT.ty3 e172 rfl z0))))), trivial⟩)<|Zp (Zm _) (Zo rfl rfl ⟨(λ γ => Zw 3 10 rfl (λ _ h163 => Zw 13 0 rfl (λ _ h173 => Ze (Zn rfl (Zr2 VT.sl77 h163 h173 (by omega) (by omega) z0))))), trivial⟩)<|Zp (Zm _) (Zo rfl rfl ⟨(λ γ => Zw 14 0 rfl (λ _ h174 => Ze (Zn rfl (Zf3 4 p VT.ty106 h174 (by simp) rfl (Ya _).symm (by rw [Yh, hmp]; rfl) z0)))), trivial⟩)<|Zp (Zw2<|λ y => .ptr y.1 0) (Zn2 rfl<|λ γ => Zw 15 0 rfl<|λ _ h175 => Ze<|Zn rfl<|V_range 0 Tryz.underlying106 h175 rfl<|λ r176 bs176 ck176 => ⟨(r176, bs176, ck176), ⟨_, rfl, rfl⟩, rfl⟩)<|DrawP_nil<|λ γ => Zw 16 0 rfl<|λ r176 h176 => Ze ?_
  have e176 : r176 = some _ := Zd3 h176
  subst e176
  clear h176
  refine Zi<|VW_stamps 1 rfl<|λ hbl hbn hbb => (Zs<|Zi2 (ι := Array Nat × Nat × Ents) (λ (seen, last, le) => (γ 0).2.1.length - seen.size) (λ (seen, last, le) => [(0, some (.ptr w.gw 0)), (1, some (.int k)), (5, some (.raw (.map (some g16)))), (176, some (.ptr (γ 0).1 0))]) (λ (seen, last, le) => oIter (γ 0).1 x.1 (γ 0).2.2 seen last :: oMap x.1 (kmap kint x.2) (γ 0).2.1 (γ 0).2.2 :: .map g16 (kmap kint le) :: wC w nx :: oC w out :: eC w ms :: mY (ms.set p none)) (λ (seen, last, le) => (γ 0).2.2 <= last /\ RInv x.2 (γ 0).2.1 seen le) (#[], (γ 0).2.2, []) ⟨Yac _, rinv_start _ _⟩ ⟨rfl, rfl, rfl, rfl, trivial⟩ (Dk<|Dk<|Dk<|Dk<|Dk<|Dk<|Zt2 _) ?_)
  rintro ⟨seen, last, le⟩ hC
  change (γ 0).2.2 <= last /\ RInv x.2 (γ 0).2.1 seen le at hC
  obtain ⟨hcl, hR⟩ := hC
  refine Zb<|Zd<|Zc<|V_nextB 1 0 rfl rfl rfl rfl hbb hcl<|λ fl rr seen2 last2 hnx => (Zc<|Zg2 rfl rfl<|Za<|Zi<|Zb<|Zr1 rfl (λ h178 => ?_)<|λ h178 => ?_)
  .
   obtain ⟨q, kv, x0, b, hq0, hbq, hbs, rfl, rfl⟩ := hnx.elim (λ h9 => absurd (h9.1.symm.trans h178) (by decide)) (λ h9 => h9.2)
   obtain ⟨v0, rfl, hv0⟩ := kmap_get hq0
   refine Zi1<|Zi<|Zs<|Zb<|Zd<|Zc<|V_entry 1 0 q rfl rfl rfl hq0 hbq<|Zc<|Zg2 rfl rfl<|Zc<|Zg2 rfl rfl<|Zc<|Zk rfl<|Zc<|Zk rfl<|Za<|Zi<|Zd<|Zc<|Zl rfl<|Zc<|Zl rfl<|Zc<|Zl rfl<|Zc<|V_mapUpdate 2 Tryz.underlying106 (key_int Tryz.underlying3) rfl rfl rfl rfl<|Za<|Zb1<|Zi ?_
   exact ⟨(seen.push b, (γ 0).2.2, kput le v0 x0), (by show (γ 0).2.1.length - (seen.push b).size < (γ 0).2.1.length - seen.size; have h9 := rinv_lt hR (Yc hbq) hbs; rw [Array.size_push]; omega), ⟨Yac _, rinv_step hR hKx hbn hv0 hbq hbs⟩, ⟨rfl, rfl, rfl, rfl, trivial⟩, (Dk (Dk (Dk (Dk (Dk (Dk (Zt2 _)))))))⟩
  obtain ⟨hall, rfl, rfl⟩ := hnx.elim (λ h9 => h9.2) (λ h9 => absurd (h9.1.symm.trans h178) (by decide))
  have hbl2 : (γ 0).2.1.length = x.2.length := by rw [hbl]; exact Yd ..
  have hEl := rinv_end hR hKx hbl2 hall hEx
  obtain ⟨l, hle⟩ : ∃ l, l = le := ⟨le, rfl⟩
  have hfin : EnvR l (begOf w ends k nx).env /\ KN l := by rw [hB0, hle]; exact ⟨hEl, hR.kn⟩
  refine VW_unmap 1 rfl<|VW_cellAt 4 (k * 7 + 0) (v' := intsX []) rfl (rowG_get h7 hz rfl) (V.le.nil 1) rfl<|VW_cellAt 4 (k * 7 + 1) (v' := .sl 4 (some .nil) []) rfl (by rw [Yab (by omega)]; exact rowG_get h7 hz rfl) (V.le.nilTok 4) rfl<|VW_nilBuf 42 4<|VW_drops (S' := .buf .nil 42 4 (begOf w ends k nx).ins.length :: .map g16 (kmap kint l) :: wC w (begOf w ends k nx).nx :: oC w (out.set k<|begT .nil<|begOf w ends k nx) :: eC w ms :: (mY ms)) (.trans (.keep<|.drop<|.refl _)<|.of_perm ?_) ?_
  . rw [hB0, hle]; refine .trans (.of_eq (by show (_ :: _ :: _ :: _ :: Own.cells w.go 40 (((rowG out).set (k * 7 + 0) _).set (k * 7 + 1) _) :: _ :: _) = _; rw [rowG_set h7 hz (by decide), rowG_set (L7_set h7 k rfl) (out_set hkout) (by decide), set_set]; rfl)) ((List.Perm.swap _ _ _).trans (pullL [_, _, _, _, _] (mY_pull hmp)).symm)
  refine Zt<|Ze1<|Ze1<|Zc1<|Zb1<|Zi<|Zb<|Zd<|Zc<|Zl rfl<|Zc<|Zk rfl<|Za<|Zi<|Zf1<|Zg1 rfl (.tmp rfl) ?_
  exact ⟨_, Zt2 _, g16, _, _, rfl, hfin.1, hfin.2, rfl⟩
 have hl1 : ¬ (innAt w.inn k).length = 1 := by omega
 refine Zb<|Zd<|Zc<|Zl rfl<|Zc<|Zv1 rfl<|Zc<|Zj VT.fa79_1 rfl<|Zc<|Zu 1 VT.ty75 rfl rfl rfl<|Zc<|Zl rfl<|Zc<|Zz (el := boolsB (ndAt w.Nd k)) VT.sl75 rfl rfl (by omega) (by rw [Yag]; exact ndX_at (by omega))<|λ a22 => (Zc<|Zz1 VT.ty103 rfl rfl<|Zc<|Zd2 (n := (ndAt w.Nd k).length) Tryz.underlying103 rfl (by simp)<|λ hl24 => (Zc<|Zl rfl<|Za<|Zi<|VW_cellAt 2 (k * 7 + 0) (v' := .sl 1 (some .nil) []) rfl (rowG_get h7 hz rfl) (V.le.nilTok 1) rfl<|VW_nilBuf 3 1<|VW_perm (S' := .buf .nil 3 1 0 :: .map g16 (kmap kint []) :: wC w nx :: oC w (out.set k<|bX (.sl 1 (some .nil) []) V.nilSl) :: eC w ms :: (mY ms)) (.of_eq (by show (_ :: _ :: _ :: Own.cells w.go 40 ((rowG out).set (k * 7 + 0) _) :: _ :: _) = _; rw [rowG_set h7 hz (by decide)]; rfl))<|Zs<|Zi2 (ι := Nat × BSt × Ents × Tok) (λ (j, s, l, tp) => (ndAt w.Nd k).length - j) (λ (j, s, l, tp) => [(0, some (.ptr w.gw 0)), (1, some (.int k)), (5, some (.raw (.map (some g16)))), (23, some (boolsB (ndAt w.Nd k))), (24, some (.int (ndAt w.Nd k).length)), (25, some (.int j))]) (λ (j, s, l, tp) => .buf tp 3 1 s.params.length :: .map g16 (kmap kint l) :: wC w s.nx :: oC w (out.set k<|bX (.sl 1 (some tp)<|s.params.map V.int) V.nilSl) :: eC w ms :: mY ms) (λ (j, s, l, tp) => j <= (ndAt w.Nd k).length /\ EnvR l s.env /\ foldZ stQ j ((ndAt w.Nd k).drop j) s = foldZ stQ 0 (ndAt w.Nd k) (emptyS nx) /\ nx <= s.nx /\ s.nx <= nx + j /\ s.params.length <= j /\ s.ins = [] /\ KN l) (0, emptyS nx, [], .nil) ⟨Yad _, envR_nil, rfl, Yah _, by show nx <= nx + 0; omega, Yac _, rfl, Yq⟩ ⟨rfl, rfl, rfl, rfl, rfl, rfl, trivial⟩ (Dk<|Dk<|Dk<|Dk<|Dk<|Zt2 _) ?_))
 rintro ⟨j, s, l, tp⟩ hA
 change j <= (ndAt w.Nd k).length /\ EnvR l s.env /\ foldZ stQ j ((ndAt w.Nd k).drop j) s = foldZ stQ 0 (ndAt w.Nd k) (emptyS nx) /\ nx <= s.nx /\ s.nx <= nx + j /\ s.params.length <= j /\ s.ins = [] /\ KN l at hA
 obtain ⟨hj, hE, hq, hx0, hx1, hpl, hsi, hkn⟩ := hA
 refine Zb<|Zd<|Zc<|Zj1 rfl rfl rfl<|Za<|Zi<|Zb<|Zn1 rfl (λ h26 => ?_)<|λ h26 => ?_
 .
  obtain ⟨is, his⟩ := get_of_lt (ndAt w.Nd k) j h26
  rw [drop_cons his, foldZ] at hq
  refine Zi1<|Zi<|Zb<|Zs<|Zb<|Zd<|Zc<|Zl rfl<|Zc<|Zz (el := V.bool is) VT.sl103 rfl rfl (by omega) (getB his)<|λ a28 => (Zc<|Zz1 VT.ty4 rfl rfl<|Zc<|Zk rfl<|Zc<|Zk rfl<|Za<|Zi<|Zb<|Zd<|Zc<|Zl rfl<|Za<|Zi<|Zr1 rfl (λ h30 => ?_)<|λ h30 => ?_)
  .
   subst h30
   change foldZ stQ (j + 1) _ (stP s (j : Int)) = _ at hq
   have hB9 := And.intro (show j + 1 <= (ndAt w.Nd k).length by omega) (And.intro (envR_put hE (j : Int) s.nx) (And.intro hq (And.intro (show nx <= s.nx + 1 by omega) (And.intro (show s.nx + 1 <= nx + ((j + 1 : Nat) : Int) by omega) (And.intro (show (s.params ++ [s.nx]).length <= j + 1 by rw [Yg, Yv]; omega) (And.intro hsi (kn_put hkn : KN (kput l (j : Int) (.int s.nx)))))))))
   refine Zb<|Zd<|Zc<|Zl rfl<|Zc<|Zl rfl<|Zc<|Zl rfl<|Zc<|Zm3 [.tmp 33] [_] _ rfl rfl VT.en60 (Zv2 (i := 2) rfl) (wfresh_c w s.nx ⟨by omega, by omega⟩) ?_
   rintro r Sa ⟨rfl, rfl⟩
   refine Zc<|V_mapUpdate 2 Tryz.underlying106 (key_int Tryz.underlying3) rfl rfl rfl rfl<|Za<|Zi<|VW_drawR (G := Tok) [([], [0], []), ([0], [35], []), ([1, 0], [36], []), ([2, 1, 0], [37], []), (dn 4, [38], []), ([], [1], []), ([], [0], []), ([6], [41], []), ([7, 6], [42], []), ([8, 7, 6], [43], []), ([9, 8, 7, 6], [44], []), ([], [1], []), ([11, 10, 9, 8, 7, 6], [45, 46], []), ([12, 11, 10, 9, 8, 7, 6], [47], []), ([13, 12, 11, 10, 9, 8, 7, 6], [48], []), ([], [5], []), ([], [14], []), ([16, 15], [50, 51], []), ([17, 16, 15], [52], []), ([18, 17, 16, 15, 14, 13, 12, 11, 10, 9, 8, 7, 6], [49, 53], [0]), (dn 20, [39, 40], []), (dn 21, [55], []), (dn 22, [56, 54], [])] [19, 22] (twoSt _ (λ x => wC w (s.nx + 1) :: .buf x 3 1 (s.params.map V.int ++ [V.int s.nx]).length :: .map g16 (kmap kint<|kput l (j : Int)<|.int s.nx) :: oC w (out.set k<|bX (.sl 1 (some tp)<|s.params.map V.int) V.nilSl) :: eC w ms :: (mY ms)) (λ x _ => wC w (s.nx + 1) :: .buf x 3 1 (s.params.map V.int ++ [V.int s.nx]).length :: .map g16 (kmap kint<|kput l (j : Int)<|.int s.nx) :: .cells w.go 40 ((rowG<|out.set k<|bX (.sl 1 (some tp)<|s.params.map V.int) V.nilSl).set (k * 7 + 0)<|.sl 1 (some x) (s.params.map V.int ++ [V.int s.nx])) :: eC w ms :: (mY ms))) [] [35, 36, 37, 38, 39, 40, 41, 42, 43, 44, 45, 46, 47, 48, 49, 50, 51, 52, 53, 54, 55, 56] rfl VT.mix<|Zp (Zm _) (Zm2 rfl<|λ _ => (λ γ => Zf<|λ _ h0 => Ze<|Zn rfl<|Zl h0 z0))<|Zp (Zm _) (Zm2 rfl<|λ _ => (λ γ => Zw 0 0 rfl<|λ _ h35 => Ze<|Zn rfl<|Zv1 h35 z0))<|Zp (Zm _) (Zm2 rfl<|λ _ => (λ γ => Zw 1 0 rfl<|λ _ h36 => Ze<|Zn rfl<|Zj VT.fa79_3 h36 z0))<|Zp (Zm _) (Zm2 rfl<|λ _ => (λ γ => Zw 2 0 rfl<|λ _ h37 => Ze<|Zn rfl<|Zj VT.fa31_1 h37 z0))<|Zp (Zm _) (Zo rfl rfl ⟨(λ γ => Zw 3 0 rfl (λ _ h38 => Ze (Zn rfl (Zu 0 VT.ty29 h38 rfl rfl z0)))), (λ γ => Zw 3 0 rfl (λ _ h38 => Ze (Zn rfl (Zu 0 VT.ty29 h38 rfl rfl z0)))), trivial⟩)<|Zp (Zm _) (Zm2 rfl<|λ _ => (λ γ => Zf<|λ _ h1 => Ze<|Zn rfl<|Zl h1 z0))<|Zp (Zm _) (Zo rfl rfl ⟨(λ γ => Zf (λ _ h0 => Ze (Zn rfl (Zl h0 z0)))), trivial⟩)<|Zp (Zm _) (Zo rfl rfl ⟨(λ γ => Zw 6 0 rfl (λ _ h41 => Ze (Zn rfl (Zv1 h41 z0)))), trivial⟩)<|Zp (Zm _) (Zo rfl rfl ⟨(λ γ => Zw 7 0 rfl (λ _ h42 => Ze (Zn rfl (Zj VT.fa79_3 h42 z0)))), trivial⟩)<|Zp (Zm _) (Zo rfl rfl ⟨(λ γ => Zw 8 0 rfl (λ _ h43 => Ze (Zn rfl (Zj VT.fa31_1 h43 z0)))), trivial⟩)<|Zp (Zm _) (Zo rfl rfl ⟨(λ γ => Zw 9 0 rfl (λ _ h44 => Ze (Zn rfl (Zu 0 VT.ty29 h44 rfl rfl z0)))), trivial⟩)<|Zp (Zm _) (Zo rfl rfl ⟨(λ γ => Zf (λ _ h1 => Ze (Zn rfl (Zl h1 z0)))), trivial⟩)<|Zp (Zm _) (Zo rfl rfl ⟨(λ γ => Zw 10 1 rfl (λ _ h45 => Zw 11 0 rfl (λ _ h46 => Ze (Zn rfl (Zu2 (Zr2 VT.sl29 h45 h46 (by omega) (by omega) z0) ((V.le.of_eq (congrArg (V.ptr w.go) (by omega)) : V.le _ (.ptr w.go (k * 7)))) z0))))), trivial⟩)<|Zp (Zm _) (Zo rfl rfl ⟨(λ γ => Zw 12 0 rfl (λ _ h47 => Ze (Zn rfl (Zj VT.fa40_0 h47 z0)))), trivial⟩)<|Zp (Zm _) (Zo rfl rfl ⟨(λ γ => Zw 13 0 rfl (λ _ h48 => Ze (Zn rfl (Zu 3 VT.ty32 h48 rfl (rowG_get (L7_set h7 k rfl) (out_set hkout) rfl) z0)))), trivial⟩)<|Zp (Zm _) (Zo rfl rfl ⟨(λ γ => Zf (λ _ h5 => Ze (Zn rfl (Zl h5 z0)))), trivial⟩)<|Zp (Zm _) (Zo rfl rfl ⟨(λ γ => Zf (λ _ h14 => Ze (Zn rfl (Zl h14 z0)))), trivial⟩)<|Zp (Zm _) (Zo rfl rfl ⟨(λ γ => Zw 15 1 rfl (λ _ h50 => Zw 16 0 rfl (λ _ h51 => Ze (Zn rfl (V_lookup1 2 Tryz.underlying106 (key_int Tryz.underlying3) VT.zr3 h50 h51 rfl (kget_put) z0))))), trivial⟩)<|Zp (Zm _) (Zo rfl rfl ⟨(λ γ => Zw 17 0 rfl (λ _ h52 => Ze (Zn rfl (Zk3 [.tmp 52] VT.sl32 rfl rfl rfl (Zp2 h52 Zq2) rfl z0)))), trivial⟩)<|Zp (Zw2<|λ x => (.sl 1 (some x) (s.params.map V.int ++ [V.int s.nx]))) (Zo2 0 rfl<|λ γ => Zw 14 4 rfl<|λ _ h49 => Zw 18 0 rfl<|λ _ h53 => Ze<|Zn rfl<|Zi3 1 _ VT.sl32 h49 h53 rfl (by simp) (by simp; omega)<|λ t54 => ⟨t54, ⟨t54, rfl, rfl⟩, rfl⟩)<|Zp (Zm _) (Zo rfl rfl ⟨(λ γ => Zw 4 15 rfl (λ _ h39 => Zw 5 14 rfl (λ _ h40 => Ze (Zn rfl (Zu2 (Zr2 VT.sl29 h39 h40 (by omega) (by omega) z0) ((V.le.of_eq (congrArg (V.ptr w.go) (by omega)) : V.le _ (.ptr w.go (k * 7)))) z0))))), trivial⟩)<|Zp (Zm _) (Zo rfl rfl ⟨(λ γ => Zw 20 0 rfl (λ _ h55 => Ze (Zn rfl (Zj VT.fa40_0 h55 z0)))), trivial⟩)<|Zp Za3 (Zo2 1 rfl<|λ γ => Zw 21 0 rfl<|λ _ h56 => Zw 19 2 rfl<|λ _ h54 => Ze<|Zx2 h54<|λ e54 => Zn rfl<|Zy 3 VT.ty32 h56 e54 rfl rfl (Yae (by rw [rowG_len (L7_set h7 k rfl), Yf]; omega)) ⟨default, trivial, rfl⟩)<|DrawP_nil<|λ γ => Ze<|Zb1<|Zi<|VW_perm (S' := wC w (s.nx + 1) :: .buf (γ 0) 3 1 (stP s (j : Int)).params.length :: .map g16 (kmap kint<|kput l (j : Int)<|.int s.nx) :: oC w (out.set k<|bX (.sl 1 (some<|γ 0)<|(stP s (j : Int)).params.map V.int) V.nilSl) :: eC w ms :: (mY ms)) (.of_eq (by show (_ :: _ :: _ :: Own.cells w.go 40 ((rowG<|out.set k<|bX (.sl 1 (some tp)<|s.params.map V.int) V.nilSl).set (k * 7 + 0) _) :: _ :: _) = _; rw [rowG_set (L7_set h7 k rfl) (out_set hkout) (by decide), set_set, p_len (v := (j : Int)), <- p_step (v := (j : Int))]; rfl))<|Zd<|Zc<|Zh2 rfl rfl (by omega)<|Zc<|Zl rfl<|Za<|Zi ?_
   exact ⟨(j + 1, stP s (j : Int), kput l (j : Int) (.int s.nx), (γ 0)), (by (try simp only []); omega), hB9, ⟨rfl, rfl, rfl, rfl, rfl, rfl, trivial⟩, (Drops.pick 1 rfl rfl (Drops.pick 1 rfl rfl (Drops.pick 0 rfl rfl (Drops.pick 0 rfl rfl (Drops.pick 0 rfl rfl (Zt2 _))))))⟩
  subst h30
  change foldZ stQ (j + 1) _ s = _ at hq
  have hB9 := And.intro (show j + 1 <= (ndAt w.Nd k).length by omega) (And.intro hE (And.intro hq (And.intro hx0 (And.intro (show s.nx <= nx + ((j + 1 : Nat) : Int) by omega) (And.intro (show s.params.length <= j + 1 by omega) (And.intro hsi hkn))))))
  refine Zi1<|Zb1<|Zi<|Zd<|Zc<|Zh2 rfl rfl (by omega)<|Zc<|Zl rfl<|Za<|Zi ?_
  exact ⟨(j + 1, s, l, tp), (by (try simp only []); omega), hB9, ⟨rfl, rfl, rfl, rfl, rfl, rfl, trivial⟩, (Dk (Dk (Dk (Dk (Dk (Zt2 _))))))⟩
 have hje : j = (ndAt w.Nd k).length := by omega
 subst hje
 rw [Ye, foldZ] at hq
 have hB0 : begOf w ends k nx = s := by show beginF _ _ _ _ k _ = _; unfold beginF; rw [if_neg hk0, if_neg hl1, begQ, <- hq]
 have hfin : EnvR l (begOf w ends k nx).env /\ KN l := by rw [hB0]; exact ⟨hE, hkn⟩
 refine VW_cellAt 3 (k * 7 + 0) (v' := intsX s.params) rfl (rowG_get (L7_set h7 k rfl) (out_set hkout) rfl) V.le.strip rfl<|VW_cellAt 3 (k * 7 + 1) (v' := .sl 4 (some .nil) []) rfl (by rw [Yab (by omega)]; exact rowG_get (L7_set h7 k rfl) (out_set hkout) rfl) (V.le.nilTok 4) rfl<|VW_nilBuf 42 4<|VW_drops (S' := .buf .nil 42 4 (begOf w ends k nx).ins.length :: .map g16 (kmap kint l) :: wC w (begOf w ends k nx).nx :: oC w (out.set k<|begT .nil<|begOf w ends k nx) :: eC w ms :: (mY ms)) (.trans (.keep<|.drop<|.refl _)<|.of_perm<|.of_eq (by show (_ :: _ :: _ :: Own.cells w.go 40 (((rowG<|out.set k<|bX (.sl 1 (some tp)<|s.params.map V.int) V.nilSl).set (k * 7 + 0) _).set (k * 7 + 1) _) :: _ :: _) = _; rw [rowG_set (L7_set h7 k rfl) (out_set hkout) (by decide), rowG_set (L7_set (L7_set h7 k rfl) k rfl) (out_set (by rw [Yf]; exact hkout)) (by decide), set_set, set_set, hB0, begT, hsi]; rfl))<|Zt<|Ze1<|Ze1<|Zc1<|Zb1<|Zi<|Zb<|Zd<|Zc<|Zl rfl<|Zc<|Zk rfl<|Za<|Zi<|Zf1<|Zg1 rfl (.tmp rfl) ?_
 exact ⟨_, Zt2 _, g16, _, _, rfl, hfin.1, hfin.2, rfl⟩
end Go.Proofs.YthlflmmnankhhaaGreat.X83
end
section
namespace Go.Proofs.YthlflmmnankhhaaGreat.X84
open Go.VL Go.SM Go.Proofs.YthlflmmnankhhaaGreat XS X1 X2 X3 X4 X5 X6 X7 X8 X9 X10 X12 X13 X20 X25 X26 X81 X82 X83
def midV (b : SBlock) : V := .agg [intsX b.params, inssX b.ins, .int b.term.kind, .int b.term.arg, .int b.term.n, intsX b.term.cases, V.nilSl]
def bodyOf (w : Wc) (ends : Nat -> Env) (k : Nat) (nx : Int) : BSt := bodyF2 w.G w.inn w.Nd ends k nx
def blkOf (w : Wc) (ends : Nat -> Env) (k : Nat) (nx : Int) : SBlock := midB (blkAt w.G k).term (bodyOf w ends k nx)
theorem mY_push : ∀ {ms : Mps} {k : Nat} {x : Nat × Ents}, ms[k]? = some none -> (Own.map x.1 (kmap kint x.2) :: mY ms).Perm (mY (ms.set k (some x)))
 | [], k, x, h => by simp at h
 | m :: ms, 0, x, h => by
  have h : m = none := by simpa using h
  subst h
  exact .refl _
 | m :: ms, k + 1, x, h => by
  have ih := mY_push (ms := ms) (k := k) (x := x) (by simpa using h)
  show (_ :: (mOwn m ++ mY ms)).Perm (mOwn m ++ mY (ms.set k (some x)))
  exact List.perm_middle.symm.trans (ih.append_left (mOwn m))
theorem ms_set {ms : Mps} {k : Nat} {x : Nat × Ents} : (ms.map mLeaf).set k (.raw (.map (some x.1))) = (ms.set k (some x)).map mLeaf := by
 rw [Yn]
 rfl
theorem rowG_put {out : List V} {k : Nat} {ls l5 : List V} (h : L7 out) (hk : out[k]? = some (.agg ls)) (h5 : l5.length = 5) : (rowG out).take (k * 7 + 2) ++ l5 ++ (rowG out).drop (k * 7 + 2 + 5) = rowG (out.set k (.agg (ls.take 2 ++ l5))) := by
 induction out generalizing k with
 | nil => simp at hk
 | cons x out ih =>
  cases k with
  | zero =>
   have hk : x = .agg ls := by simpa using hk
   subst hk
   have hl : ls.length = 7 := h _ (Yl ..)
   show (ls ++ rowG out).take (0 * 7 + 2) ++ l5 ++ (ls ++ rowG out).drop (0 * 7 + 2 + 5) = (ls.take 2 ++ l5) ++ rowG out
   rw [Nat.zero_mul, Nat.zero_add, List.take_append_of_le_length (by omega), List.drop_append_of_le_length (by omega), List.drop_of_length_le (by omega), List.nil_append]
  | succ k =>
   have hl : x.leaves.length = 7 := h _ (Yl ..)
   have hih := ih (λ y hy => h y (Yu _ hy)) (k := k) (by simpa using hk)
   show (x.leaves ++ rowG out).take ((k + 1) * 7 + 2) ++ l5 ++ (x.leaves ++ rowG out).drop ((k + 1) * 7 + 2 + 5) = x.leaves ++ rowG (out.set k (.agg (ls.take 2 ++ l5)))
   rw [<- hih, List.take_append, List.drop_append, hl, show (k + 1) * 7 + 2 - 7 = k * 7 + 2 by omega, show (k + 1) * 7 + 2 + 5 - 7 = k * 7 + 2 + 5 by omega, Yr (by omega), List.drop_of_length_le (by omega), List.nil_append, Yj, Yj, Yj]
theorem args_snoc {e : Env} {l : List Int} {m : Nat} {a : Int} {av : List Int} (ha : l[m]? = some a) (h : av ++ argsE e (l.drop m) = argsE e l) : (av ++ [(e a).getD 0]) ++ argsE e (l.drop (m + 1)) = argsE e l := by
 rw [<- h, drop_cons ha, Yj]
 rfl
theorem stB_copy {s : BSt} {i : SIns} {av : List Int} {a : Int} (h : i.op = 100) (ha : av = argsE s.env i.args) (h0 : av[0]? = some a) : stB s i = { s with env := updE s.env i.to a } := by
 unfold stB
 rw [if_pos h, <- ha, h0]
 rfl
theorem stB_ins {s : BSt} {i : SIns} {av : List Int} (h : ¬ i.op = 100) (ha : av = argsE s.env i.args) : stB s i = ⟨updE s.env i.to s.nx, s.nx + 1, s.params, s.ins ++ [⟨s.nx, i.op, i.n, av⟩]⟩ := by
 unfold stB
 rw [if_neg h, <- ha]
theorem mid_eq {t : STerm} {s : BSt} {P : List Int} (hp : s.params = P) : midV (midB t s) = .agg [intsX P, inssX s.ins, .int t.kind, .int (midT t s.env).arg, .int t.n, intsX t.cases, V.nilSl] := by
 rw [<- hp]
 rfl
theorem insW_map {s : BSt} {i : SIns} : (s.ins ++ [i]).map insV = s.ins.map insV ++ [insV i] := by
 rw [Ym]
 rfl
theorem block_c {w : Wc} {many : Nat} (hw : WOk w many) {k : Nat} (hk : k < w.G.length) (hcp : ∀ i ∈ (blkAt w.G k).ins, i.op = 100 -> i.args.length = 1) (hcs : (blkAt w.G k).term.cases.length <= 1000000) {nx : Int} (hn : 0 <= nx /\ nx <= 100000000) {out : List V} {ms : Mps} (ha : AllB w.G ms out) (hz : out[k]? = some zB) (hm0 : ms[k]? = some none) (ends : Nat -> Env) (hb0 : (begOf w ends k nx).nx <= nx + 20000 /\ nx <= (begOf w ends k nx).nx /\ (begOf w ends k nx).ins.length <= 20000) (hp : k ≠ 0 -> (innAt w.inn k).length = 1 -> ∃ (p : Nat) (x : Nat × Ents), innAt w.inn k = [(p : Int)] /\ ms[p]? = some (some x) /\ EnvR x.2 (ends p) /\ KN x.2) : VCalls Tryz.prog 36 [.ptr w.gw 0, .int k] (wC w nx :: oC w out :: eC w ms :: mY ms) λ r S' => ∃ g l, S' = wC w (bodyOf w ends k nx).nx :: oC w (out.set k (midV (blkOf w ends k nx))) :: eC w (ms.set k (some (g, l))) :: mY (ms.set k (some (g, l))) /\ EnvR l (bodyOf w ends k nx).env /\ KN l := by
 refine VCalls_drops ?_
 have hbeg := begin_c hw hk hn ha hz ends hp
 obtain ⟨hn0, hn1⟩ := hn
 obtain ⟨ha1, ha2, h7⟩ := ha
 obtain ⟨⟨hl0, hl1⟩, hil, hndl, hrow, hmany, hpar, hins⟩ := hw
 have hkout : k < out.length := by omega
 obtain ⟨hb1, hb2, hb3⟩ := hb0
 obtain ⟨hgi, hga⟩ := hins _ (Yc (blk_at hk))
 refine V_start (nt := 130) Tryz.func36 rfl rfl rfl ?_
 refine Zb<|Zd<|Zc<|Zl rfl<|Zc<|Zl rfl<|Zc<|V_callG [.tmp 12, .tmp 13] (wC w nx :: oC w out :: eC w ms :: mY ms) [] rfl rfl VT.en59 (.of_eq (Ya _).symm) (hbeg) ?_
 rintro r Sa ⟨g, l0, ti0, rfl, hE0, hK0, rfl⟩
 refine ⟨_, Drops.of_perm (.of_eq (Ya _)), ?_⟩
 refine Zc<|Zk rfl<|Za<|Zi<|Zb<|Zd<|Zc<|Zl rfl<|Zc<|Zv1 rfl<|Zc<|Zj VT.fa79_0 rfl<|Zc<|Zj VT.fa71_0 rfl<|Zc<|Zj VT.fa31_1 rfl<|Zc<|Zu 2 VT.ty29 rfl rfl rfl<|Zc<|Zl rfl<|Zc<|Zz (el := blockV (blkAt w.G k)) VT.sl29 rfl rfl (by omega) (get_mapS _<|blk_at hk)<|λ a22 => (Zc<|Za2 VT.ty40 rfl rfl<|Zc<|Zb2 VT.zr40 _ rfl rfl<|λ g5 => (Zc<|Zx 0 VT.ty40 rfl rfl rfl rfl rfl<|Za<|Zi<|Zb<|Zb<|Zd<|Zc<|Zj VT.fa40_1 rfl<|Zc<|Zu 0 VT.ty35 rfl rfl rfl<|Zc<|Zd2 (n := (blkAt w.G k).ins.length) Tryz.underlying35 rfl (by simp)<|λ hl26 => (Zc<|Zl rfl<|Za<|Zi<|Zs<|Zi2 (ι := Nat × BSt × Ents × Tok) (λ (n, s, l, ti) => (blkAt w.G k).ins.length - n) (λ (n, s, l, ti) => [(0, some (.ptr w.gw 0)), (1, some (.int k)), (4, some (.raw (.map (some g)))), (5, some (.ptr g5 0)), (25, some (inssX (blkAt w.G k).ins)), (26, some (.int (blkAt w.G k).ins.length)), (27, some (.int n))]) (λ (n, s, l, ti) => .cells g5 40 (blockV<|blkAt w.G k).leaves :: .buf ti 42 4 s.ins.length :: .map g (kmap kint l) :: wC w s.nx :: oC w (out.set k<|bX (intsX (begOf w ends k nx).params)<|.sl 4 (some ti)<|s.ins.map insV) :: eC w ms :: mY ms) (λ (n, s, l, ti) => n <= (blkAt w.G k).ins.length /\ EnvR l s.env /\ KN l /\ ((blkAt w.G k).ins.drop n).foldl stB s = (blkAt w.G k).ins.foldl stB (begOf w ends k nx) /\ (begOf w ends k nx).nx <= s.nx /\ s.nx <= (begOf w ends k nx).nx + n /\ s.params = (begOf w ends k nx).params /\ s.ins.length <= (begOf w ends k nx).ins.length + n) (0, (begOf w ends k nx), l0, ti0) ⟨Yad _, hE0, hK0, rfl, Yah _, by show (begOf w ends k nx).nx <= (begOf w ends k nx).nx + 0; omega, rfl, by omega⟩ ⟨rfl, rfl, rfl, rfl, rfl, rfl, rfl, trivial⟩ (Dk<|Dk<|Dk<|Dk<|Dk<|Dk<|Zt2 _) ?_)))
 rintro ⟨n, s, l, ti⟩ hA
 change n <= (blkAt w.G k).ins.length /\ EnvR l s.env /\ KN l /\ ((blkAt w.G k).ins.drop n).foldl stB s = (blkAt w.G k).ins.foldl stB (begOf w ends k nx) /\ (begOf w ends k nx).nx <= s.nx /\ s.nx <= (begOf w ends k nx).nx + n /\ s.params = (begOf w ends k nx).params /\ s.ins.length <= (begOf w ends k nx).ins.length + n at hA
 obtain ⟨hn, hE, hkn, hq, hx0, hx1, hsp, hsl⟩ := hA
 refine Zb<|Zd<|Zc<|Zj1 rfl rfl rfl<|Za<|Zi<|Zb<|Zn1 rfl (λ h28 => ?_)<|λ h28 => ?_
 .
  obtain ⟨i, hi⟩ := get_of_lt (blkAt w.G k).ins n h28
  have him := Yc hi
  rw [drop_cons hi, Yx] at hq
  have hal := hga i him
  refine Zi1<|Zi<|Zb<|Zs<|Zb<|Zd<|Zc<|Zz (el := insV i) VT.sl35 rfl rfl (by omega) (get_mapS _ hi)<|λ a29 => (Zc<|Za2 VT.ty42 rfl rfl<|Zc<|Zb2 VT.zr42 _ rfl rfl<|λ g7 => (Zc<|Zx 0 VT.ty42 rfl rfl rfl rfl rfl<|Za<|Zi<|Zb<|Zd<|Zc<|V_assign_nil 3 1<|Za<|Zi<|Zb<|Zb<|Zd<|Zc<|Zj VT.fa42_3 rfl<|Zc<|Zu 1 VT.ty32 rfl rfl rfl<|Zc<|Zd2 (n := i.args.length) Tryz.underlying32 rfl (by simp)<|λ hl33 => (Zc<|Zl rfl<|Za<|Zi<|Zs<|Zi2 (ι := Nat × Tok × List Int) (λ (m, tk, av) => i.args.length - m) (λ (m, tk, av) => [(0, some (.ptr w.gw 0)), (1, some (.int k)), (4, some (.raw (.map (some g)))), (5, some (.ptr g5 0)), (25, some (inssX (blkAt w.G k).ins)), (26, some (.int (blkAt w.G k).ins.length)), (27, some (.int n)), (7, some (.ptr g7 0)), (8, some (.sl 1 (some tk) (av.map V.int))), (32, some (intsX i.args)), (33, some (.int i.args.length)), (34, some (.int m))]) (λ (m, tk, av) => .buf tk 3 1 av.length :: .cells g7 42 (insV i).leaves :: .cells g5 40 (blockV<|blkAt w.G k).leaves :: .buf ti 42 4 s.ins.length :: .map g (kmap kint l) :: wC w s.nx :: oC w (out.set k<|bX (intsX (begOf w ends k nx).params)<|.sl 4 (some ti)<|s.ins.map insV) :: eC w ms :: mY ms) (λ (m, tk, av) => m <= i.args.length /\ av ++ argsE s.env (i.args.drop m) = argsE s.env i.args /\ av.length <= m) (0, .nil, []) ⟨Yad _, rfl, Yac _⟩ ⟨rfl, rfl, rfl, rfl, rfl, rfl, rfl, rfl, rfl, rfl, rfl, rfl, trivial⟩ (Drops.buf (by simp)<|Dk<|Dk<|Dk<|Dk<|Dk<|Dk<|Dk<|Zt2 _) ?_)))
  rintro ⟨m, tk, av⟩ hC
  change m <= i.args.length /\ av ++ argsE s.env (i.args.drop m) = argsE s.env i.args /\ av.length <= m at hC
  obtain ⟨hm, has, hasl⟩ := hC
  refine Zb<|Zd<|Zc<|Zj1 rfl rfl rfl<|Za<|Zi<|Zb<|Zn1 rfl (λ h35 => ?_)<|λ h35 => ?_
  .
   obtain ⟨a, ha⟩ := get_of_lt i.args m h35
   refine Zi1<|Zi<|Zb<|Zs<|Zb<|Zd<|Zc<|Zz (el := V.int a) VT.sl32 rfl rfl (by omega) (get_int ha)<|λ a36 => (Zc<|Zz1 VT.ty3 rfl rfl<|Zc<|Zk rfl<|Za<|Zi<|Zd<|Zc<|Zl rfl<|Zc<|Zl rfl<|Zc<|Zl rfl<|Zc<|Zu2 (V_lookupD 4 (.raw<|.int .i64 0) (λ m => rfl) Tryz.underlying106 (key_int Tryz.underlying3) VT.zr3 rfl rfl rfl ⟨rfl, rfl⟩) ((V.le.of_eq (envR_get hE a) : V.le _ (.int<|(s.env a).getD 0)))<|Zc<|Zk3 [.tmp 41] VT.sl32 rfl rfl rfl rfl rfl<|Zc<|Zi3 0 _ VT.sl32 rfl rfl rfl (by simp) (by simp; omega)<|λ t43 => (Zc<|Zk rfl<|Za<|Zb1<|Zi<|Zd<|Zc<|Zh2 rfl rfl (by omega)<|Zc<|Zl rfl<|Za<|Zi ?_))
   exact ⟨(m + 1, t43, av ++ [(s.env a).getD 0]), (by (try simp only []); omega), ⟨by omega, args_snoc ha has, by rw [Yg, Yv]; omega⟩, ⟨rfl, rfl, rfl, rfl, rfl, rfl, rfl, rfl, (by rw [Ym]; rfl), rfl, rfl, rfl, trivial⟩, (Drops.buf (by simp) (Dk (Dk (Drops.keepE rfl (Dk (Dk (Dk (Dk (Zt2 _)))))))))⟩
  have hme : m = i.args.length := by omega
  subst hme
  rw [Ye] at has
  have has2 : av = argsE s.env i.args := by rw [<- has]; exact (Ya _).symm
  have hasn : av.length = i.args.length := by rw [has2]; exact Yd ..
  refine Zt<|Ze1<|Ze1<|Zc1<|Zi<|Zb<|Zb<|Zd<|Zc<|Zj VT.fa42_1 rfl<|Zc<|Zu 1 VT.ty3 rfl rfl rfl<|Zc<|Zj1 rfl rfl rfl<|Za<|Zi<|Zl1 rfl (λ h47 => ?_)<|λ h47 => ?_
  .
   have hc1 := hcp i him h47
   obtain ⟨a0, ha0⟩ := get_of_lt av 0 (by omega)
   have hst := stB_copy h47 has2 ha0
   rw [hst] at hq
   have hB9 := And.intro (show n + 1 <= (blkAt w.G k).ins.length by omega) (And.intro (envR_put hE i.to a0) (And.intro (kn_put hkn : KN (kput l i.to (.int a0))) (And.intro hq (And.intro (show (begOf w ends k nx).nx <= s.nx by omega) (And.intro (show s.nx <= (begOf w ends k nx).nx + ((n + 1 : Nat) : Int) by omega) (And.intro hsp (show s.ins.length <= (begOf w ends k nx).ins.length + (n + 1) by omega)))))))
   refine Zb<|VW_drawR (G := Unit) [([], [4], []), ([], [7], []), ([1], [49], []), ([], [8], []), ([3], [51], []), ([4, 3], [52], []), (dn 6, [48, 50, 53], [])] [6] (setSt _ 4<|λ _ => .map g<|kmap kint<|kput l i.to<|.int a0) [] [48, 49, 50, 51, 52, 53] rfl VT.mix<|Zp (Zm _) (Zo rfl rfl ⟨(λ γ => Zf (λ _ h4 => Ze (Zn rfl (Zl h4 z0)))), trivial⟩)<|Zp (Zm _) (Zo rfl rfl ⟨(λ γ => Zf (λ _ h7 => Ze (Zn rfl (Zj VT.fa42_0 h7 z0)))), trivial⟩)<|Zp (Zm _) (Zo rfl rfl ⟨(λ γ => Zw 1 0 rfl (λ _ h49 => Ze (Zn rfl (Zu 1 VT.ty3 h49 rfl rfl z0)))), trivial⟩)<|Zp (Zm _) (Zo rfl rfl ⟨(λ γ => Zf (λ _ h8 => Ze (Zn rfl (Zl h8 z0)))), trivial⟩)<|Zp (Zb3 _) (Zo rfl rfl ⟨(λ γ => Zw 3 0 rfl (λ _ h51 => Ze (Zn rfl (Zz (el := V.int a0) VT.sl32 h51 rfl (by omega) (get_int ha0) (λ a52 => ⟨⟨_, rfl⟩, rfl⟩))))), trivial⟩)<|Zp (Zm _) (Zo rfl rfl ⟨(λ γ => Zw 4 0 rfl (λ _ h52 => Ze (Zc3 h52 (λ a_52 e52 => Zn rfl (Zz1 VT.ty3 e52 rfl z0))))), trivial⟩)<|Zp Za3 (Zn2 rfl<|λ γ => Zw 0 5 rfl<|λ _ h48 => Zw 2 3 rfl<|λ _ h50 => Zw 5 0 rfl<|λ _ h53 => Ze<|Zn rfl<|V_mapUpdate 4 Tryz.underlying106 (key_int Tryz.underlying3) h48 h50 h53 rfl ⟨default, trivial, rfl⟩)<|DrawP_nil<|λ γ => Ze<|Zi<|Zt<|Ze1<|Zc1<|Zi<|Zd<|Zc<|Zh2 rfl rfl (by omega)<|Zc<|Zl rfl<|Za<|Zi ?_
   exact ⟨(n + 1, ({ s with env := updE s.env i.to a0 } : BSt), kput l i.to (.int a0), ti), (by (try simp only []); omega), hB9, ⟨rfl, rfl, rfl, rfl, rfl, rfl, rfl, trivial⟩, (Dd (Dd (Dk (Dk (Dk (Dk (Dk (Dk (Zt2 _)))))))))⟩
  have hst := stB_ins h47 has2
  rw [hst] at hq
  have hB9 := And.intro (show n + 1 <= (blkAt w.G k).ins.length by omega) (And.intro (envR_put hE i.to s.nx) (And.intro (kn_put hkn : KN (kput l i.to (.int s.nx))) (And.intro hq (And.intro (show (begOf w ends k nx).nx <= s.nx + 1 by omega) (And.intro (show s.nx + 1 <= (begOf w ends k nx).nx + ((n + 1 : Nat) : Int) by omega) (And.intro hsp (show (s.ins ++ [(⟨s.nx, i.op, i.n, av⟩ : SIns)]).length <= (begOf w ends k nx).ins.length + (n + 1) by rw [Yg, Yv]; omega)))))))
  refine Zi1<|Zi<|Zb<|VW_drawR (G := Unit) [([], [4], []), ([], [7], []), ([1], [55], []), ([], [0], []), ([3], [57], []), (dn 5, [54, 56, 58], [])] [4, 5] (twoSt _ (λ _ => wC w (s.nx + 1) :: .buf tk 3 1 av.length :: .cells g7 42 (insV i).leaves :: .cells g5 40 (blockV<|blkAt w.G k).leaves :: .buf ti 42 4 s.ins.length :: .map g (kmap kint l) :: oC w (out.set k<|bX (intsX (begOf w ends k nx).params)<|.sl 4 (some ti)<|s.ins.map insV) :: eC w ms :: (mY ms)) (λ _ _ => wC w (s.nx + 1) :: .buf tk 3 1 av.length :: .cells g7 42 (insV i).leaves :: .cells g5 40 (blockV<|blkAt w.G k).leaves :: .buf ti 42 4 s.ins.length :: .map g (kmap kint<|kput l i.to<|.int s.nx) :: oC w (out.set k<|bX (intsX (begOf w ends k nx).params)<|.sl 4 (some ti)<|s.ins.map insV) :: eC w ms :: (mY ms))) [] [54, 55, 56, 57, 58] rfl VT.mix<|Zp (Zm _) (Zm2 rfl<|λ _ => (λ γ => Zf<|λ _ h4 => Ze<|Zn rfl<|Zl h4 z0))<|Zp (Zm _) (Zm2 rfl<|λ _ => (λ γ => Zf<|λ _ h7 => Ze<|Zn rfl<|Zj VT.fa42_0 h7 z0))<|Zp (Zm _) (Zo rfl rfl ⟨(λ γ => Zw 1 0 rfl (λ _ h55 => Ze (Zn rfl (Zu 1 VT.ty3 h55 rfl rfl z0)))), (λ γ => Zw 1 0 rfl (λ _ h55 => Ze (Zn rfl (Zu 2 VT.ty3 h55 rfl rfl z0)))), trivial⟩)<|Zp (Zm _) (Zo rfl rfl ⟨(λ γ => Zf (λ _ h0 => Ze (Zn rfl (Zl h0 z0)))), trivial⟩)<|Zp (Zm<|.int s.nx) (Zo2 0 rfl<|λ γ => Zw 3 0 rfl<|λ _ h57 => Ze<|Zn rfl<|Zm3 [.tmp 57] [_] _ rfl (Zp2 h57 Zq2) VT.en60 (Zv2 (i := 5) rfl) (wfresh_c w s.nx ⟨by omega, by omega⟩) (λ r Sa h => by obtain ⟨h1, h2⟩ := h; subst h1 h2; exact ⟨(), rfl, rfl⟩))<|Zp Za3 (Zo2 1 rfl<|λ γ => Zw 0 4 rfl<|λ _ h54 => Zw 2 2 rfl<|λ _ h56 => Zw 4 0 rfl<|λ _ h58 => Ze<|Zn rfl<|V_mapUpdate 5 Tryz.underlying106 (key_int Tryz.underlying3) h54 h56 h58 rfl ⟨(), trivial, rfl⟩)<|DrawP_nil<|λ γ => Ze<|Zi<|VW_drawR (G := Tok) [([], [0], []), ([0], [59], []), ([1, 0], [60], []), ([2, 1, 0], [61], []), (dn 4, [62], []), ([], [1], []), ([], [0], []), ([6], [65], []), ([7, 6], [66], []), ([8, 7, 6], [67], []), ([9, 8, 7, 6], [68], []), ([], [1], []), ([11, 10, 9, 8, 7, 6], [69, 70], []), ([12, 11, 10, 9, 8, 7, 6], [71], []), ([13, 12, 11, 10, 9, 8, 7, 6], [72], []), ([], [4], []), ([], [7], []), ([16], [75], []), ([17, 16, 15], [74, 76], []), ([], [7], []), ([19], [78], []), ([], [7], []), ([21], [80], []), ([], [8], []), ([23, 22, 21, 20, 19, 18, 17, 16, 15], [77, 79, 81, 82], []), ([24, 23, 22, 21, 20, 19, 18, 17, 16, 15], [83], []), ([25, 24, 23, 22, 21, 20, 19, 18, 17, 16, 15, 14, 13, 12, 11, 10, 9, 8, 7, 6], [73, 84], [0]), (dn 27, [63, 64], []), (dn 28, [86], []), (dn 29, [87, 85], [])] [26, 29] (twoSt _ (λ x => wC w (s.nx + 1) :: .buf tk 3 1 av.length :: .cells g7 42 (insV i).leaves :: .cells g5 40 (blockV<|blkAt w.G k).leaves :: .buf x 42 4 (s.ins.map insV ++ [insV (⟨s.nx, i.op, i.n, av⟩ : SIns)]).length :: .map g (kmap kint<|kput l i.to<|.int s.nx) :: oC w (out.set k<|bX (intsX (begOf w ends k nx).params)<|.sl 4 (some ti)<|s.ins.map insV) :: eC w ms :: (mY ms)) (λ x _ => wC w (s.nx + 1) :: .buf tk 3 1 av.length :: .cells g7 42 (insV i).leaves :: .cells g5 40 (blockV<|blkAt w.G k).leaves :: .buf x 42 4 (s.ins.map insV ++ [insV (⟨s.nx, i.op, i.n, av⟩ : SIns)]).length :: .map g (kmap kint<|kput l i.to<|.int s.nx) :: .cells w.go 40 ((rowG<|out.set k<|bX (intsX (begOf w ends k nx).params)<|.sl 4 (some ti)<|s.ins.map insV).set (k * 7 + 1)<|.sl 4 (some x) (s.ins.map insV ++ [insV (⟨s.nx, i.op, i.n, av⟩ : SIns)])) :: eC w ms :: (mY ms))) [] [59, 60, 61, 62, 63, 64, 65, 66, 67, 68, 69, 70, 71, 72, 73, 74, 75, 76, 77, 78, 79, 80, 81, 82, 83, 84, 85, 86, 87] rfl VT.mix<|Zp (Zm _) (Zm2 rfl<|λ _ => (λ γ => Zf<|λ _ h0 => Ze<|Zn rfl<|Zl h0 z0))<|Zp (Zm _) (Zm2 rfl<|λ _ => (λ γ => Zw 0 0 rfl<|λ _ h59 => Ze<|Zn rfl<|Zv1 h59 z0))<|Zp (Zm _) (Zm2 rfl<|λ _ => (λ γ => Zw 1 0 rfl<|λ _ h60 => Ze<|Zn rfl<|Zj VT.fa79_3 h60 z0))<|Zp (Zm _) (Zm2 rfl<|λ _ => (λ γ => Zw 2 0 rfl<|λ _ h61 => Ze<|Zn rfl<|Zj VT.fa31_1 h61 z0))<|Zp (Zm _) (Zo rfl rfl ⟨(λ γ => Zw 3 0 rfl (λ _ h62 => Ze (Zn rfl (Zu 0 VT.ty29 h62 rfl rfl z0)))), (λ γ => Zw 3 0 rfl (λ _ h62 => Ze (Zn rfl (Zu 0 VT.ty29 h62 rfl rfl z0)))), trivial⟩)<|Zp (Zm _) (Zm2 rfl<|λ _ => (λ γ => Zf<|λ _ h1 => Ze<|Zn rfl<|Zl h1 z0))<|Zp (Zm _) (Zo rfl rfl ⟨(λ γ => Zf (λ _ h0 => Ze (Zn rfl (Zl h0 z0)))), trivial⟩)<|Zp (Zm _) (Zo rfl rfl ⟨(λ γ => Zw 6 0 rfl (λ _ h65 => Ze (Zn rfl (Zv1 h65 z0)))), trivial⟩)<|Zp (Zm _) (Zo rfl rfl ⟨(λ γ => Zw 7 0 rfl (λ _ h66 => Ze (Zn rfl (Zj VT.fa79_3 h66 z0)))), trivial⟩)<|Zp (Zm _) (Zo rfl rfl ⟨(λ γ => Zw 8 0 rfl (λ _ h67 => Ze (Zn rfl (Zj VT.fa31_1 h67 z0)))), trivial⟩)<|Zp (Zm _) (Zo rfl rfl ⟨(λ γ => Zw 9 0 rfl (λ _ h68 => Ze (Zn rfl (Zu 0 VT.ty29 h68 rfl rfl z0)))), trivial⟩)<|Zp (Zm _) (Zo rfl rfl ⟨(λ γ => Zf (λ _ h1 => Ze (Zn rfl (Zl h1 z0)))), trivial⟩)<|Zp (Zm _) (Zo rfl rfl ⟨(λ γ => Zw 10 1 rfl (λ _ h69 => Zw 11 0 rfl (λ _ h70 => Ze (Zn rfl (Zu2 (Zr2 VT.sl29 h69 h70 (by omega) (by omega) z0) ((V.le.of_eq (congrArg (V.ptr w.go) (by omega)) : V.le _ (.ptr w.go (k * 7)))) z0))))), trivial⟩)<|Zp (Zm _) (Zo rfl rfl ⟨(λ γ => Zw 12 0 rfl (λ _ h71 => Ze (Zn rfl (Zj VT.fa40_1 h71 z0)))), trivial⟩)<|Zp (Zm _) (Zo rfl rfl ⟨(λ γ => Zw 13 0 rfl (λ _ h72 => Ze (Zn rfl (Zu 6 VT.ty35 h72 rfl (rowG_get (L7_set h7 k rfl) (out_set hkout) rfl) z0)))), trivial⟩)<|Zp (Zm _) (Zo rfl rfl ⟨(λ γ => Zf (λ _ h4 => Ze (Zn rfl (Zl h4 z0)))), trivial⟩)<|Zp (Zm _) (Zo rfl rfl ⟨(λ γ => Zf (λ _ h7 => Ze (Zn rfl (Zj VT.fa42_0 h7 z0)))), trivial⟩)<|Zp (Zm _) (Zo rfl rfl ⟨(λ γ => Zw 16 0 rfl (λ _ h75 => Ze (Zn rfl (Zu 2 VT.ty3 h75 rfl rfl z0)))), trivial⟩)<|Zp (Zm _) (Zo rfl rfl ⟨(λ γ => Zw 15 2 rfl (λ _ h74 => Zw 17 0 rfl (λ _ h76 => Ze (Zn rfl (V_lookup1 5 Tryz.underlying106 (key_int Tryz.underlying3) VT.zr3 h74 h76 rfl (kget_put) z0))))), trivial⟩)<|Zp (Zm _) (Zo rfl rfl ⟨(λ γ => Zf (λ _ h7 => Ze (Zn rfl (Zj VT.fa42_1 h7 z0)))), trivial⟩)<|Zp (Zm _) (Zo rfl rfl ⟨(λ γ => Zw 19 0 rfl (λ _ h78 => Ze (Zn rfl (Zu 2 VT.ty3 h78 rfl rfl z0)))), trivial⟩) ?_
  refine Zp (Zm _) (Zo rfl rfl ⟨(λ γ => Zf (λ _ h7 => Ze (Zn rfl (Zj VT.fa42_2 h7 z0)))), trivial⟩)<|Zp (Zm _) (Zo rfl rfl ⟨(λ γ => Zw 21 0 rfl (λ _ h80 => Ze (Zn rfl (Zu 2 VT.ty3 h80 rfl rfl z0)))), trivial⟩)<|Zp (Zm _) (Zo rfl rfl ⟨(λ γ => Zf (λ _ h8 => Ze (Zn rfl (Zl h8 z0)))), trivial⟩)<|Zp (Zm _) (Zo rfl rfl ⟨(λ γ => Zw 18 5 rfl (λ _ h77 => Zw 20 3 rfl (λ _ h79 => Zw 22 1 rfl (λ _ h81 => Zw 23 0 rfl (λ _ h82 => Ze (Zn rfl (Zu2 (Zf2 [0, 1, 2, 3] [.tmp 77, .tmp 79, .tmp 81, .tmp 82] VT.st42 rfl rfl (Zp2 h77 (Zp2 h79 (Zp2 h81 (Zp2 h82 Zq2)))) rfl z0) ((by exact V.le.agg ⟨V.le.refl _, rfl, V.le.refl _, rfl, V.le.refl _, rfl, V.le.strip, rfl, trivial⟩ : V.le _ (insV (⟨s.nx, i.op, i.n, av⟩ : SIns)))) z0))))))), trivial⟩)<|Zp (Zm _) (Zo rfl rfl ⟨(λ γ => Zw 24 0 rfl (λ _ h83 => Ze (Zn rfl (Zk3 [.tmp 83] VT.sl35 rfl rfl rfl (Zp2 h83 Zq2) rfl z0)))), trivial⟩)<|Zp (Zw2<|λ x => (.sl 4 (some x) (s.ins.map insV ++ [insV (⟨s.nx, i.op, i.n, av⟩ : SIns)]))) (Zo2 0 rfl<|λ γ => Zw 14 11 rfl<|λ _ h73 => Zw 25 0 rfl<|λ _ h84 => Ze<|Zn rfl<|Zi3 4 _ VT.sl35 h73 h84 rfl (by simp) (by simp; omega)<|λ t85 => ⟨t85, ⟨t85, rfl, rfl⟩, rfl⟩)<|Zp (Zm _) (Zo rfl rfl ⟨(λ γ => Zw 4 22 rfl (λ _ h63 => Zw 5 21 rfl (λ _ h64 => Ze (Zn rfl (Zu2 (Zr2 VT.sl29 h63 h64 (by omega) (by omega) z0) ((V.le.of_eq (congrArg (V.ptr w.go) (by omega)) : V.le _ (.ptr w.go (k * 7)))) z0))))), trivial⟩)<|Zp (Zm _) (Zo rfl rfl ⟨(λ γ => Zw 27 0 rfl (λ _ h86 => Ze (Zn rfl (Zj VT.fa40_1 h86 z0)))), trivial⟩)<|Zp Za3 (Zo2 1 rfl<|λ γ => Zw 28 0 rfl<|λ _ h87 => Zw 26 2 rfl<|λ _ h85 => Ze<|Zx2 h85<|λ e85 => Zn rfl<|Zy 6 VT.ty35 h87 e85 rfl rfl (Yae (by rw [rowG_len (L7_set h7 k rfl), Yf]; omega)) ⟨default, trivial, rfl⟩)<|DrawP_nil<|λ γ => Ze<|Zb1<|Zi<|VW_perm (S' := wC w (s.nx + 1) :: .buf tk 3 1 av.length :: .cells g7 42 (insV i).leaves :: .cells g5 40 (blockV<|blkAt w.G k).leaves :: .buf (γ 0) 42 4 (s.ins ++ [(⟨s.nx, i.op, i.n, av⟩ : SIns)]).length :: .map g (kmap kint<|kput l i.to<|.int s.nx) :: oC w (out.set k<|bX (intsX (begOf w ends k nx).params)<|.sl 4 (some<|γ 0)<|(s.ins ++ [(⟨s.nx, i.op, i.n, av⟩ : SIns)]).map insV) :: eC w ms :: (mY ms)) (.of_eq (by show (_ :: _ :: _ :: _ :: _ :: _ :: Own.cells w.go 40 ((rowG<|out.set k<|bX (intsX (begOf w ends k nx).params)<|.sl 4 (some ti)<|s.ins.map insV).set (k * 7 + 1) _) :: _ :: _) = _; rw [rowG_set (L7_set h7 k rfl) (out_set hkout) (by decide), set_set, <- insW_map, Yd]; rfl))<|Zd<|Zc<|Zh2 rfl rfl (by omega)<|Zc<|Zl rfl<|Za<|Zi ?_
  exact ⟨(n + 1, (⟨updE s.env i.to s.nx, s.nx + 1, s.params, s.ins ++ [(⟨s.nx, i.op, i.n, av⟩ : SIns)]⟩ : BSt), kput l i.to (.int s.nx), (γ 0)), (by (try simp only []); omega), hB9, ⟨rfl, rfl, rfl, rfl, rfl, rfl, rfl, trivial⟩, (Drops.pick 3 rfl rfl (Drops.pick 3 rfl rfl (Drops.pick 3 rfl rfl (Drops.pick 0 rfl rfl (Drops.pick 2 rfl rfl (Drops.pick 2 rfl rfl (Dd (Dd (Zt2 _)))))))))⟩
 have hne : n = (blkAt w.G k).ins.length := by omega
 subst hne
 rw [Ye] at hq
 change s = _ at hq
 have hbd : bodyOf w ends k nx = s := hq.symm
 refine Zt<|Ze1<|Ze1<|Zc1<|Zi<|Zb<|VW_drawR (G := Nat) [([], [5], []), ([0], [89], []), ([1, 0], [90], []), ([], [5], []), ([3], [92], []), ([4, 3], [93], []), ([], [5], []), ([6], [95], []), ([7, 6], [96], []), ([8, 7, 6], [97], []), (dn 10, [91, 94, 98], []), ([], [], [0]), (dn 12, [11, 99], [])] [11, 12] (twoSt _ (λ x => .cells x 38 VT.zs38 :: .cells g5 40 (blockV<|blkAt w.G k).leaves :: .buf ti 42 4 s.ins.length :: .map g (kmap kint l) :: wC w s.nx :: oC w (out.set k<|bX (intsX (begOf w ends k nx).params)<|.sl 4 (some ti)<|s.ins.map insV) :: eC w ms :: (mY ms)) (λ x _ => .cells x 38 [.int (blkAt w.G k).term.kind, (.int 0), .int (blkAt w.G k).term.n, intsX (blkAt w.G k).term.cases, V.nilSl] :: .cells g5 40 (blockV<|blkAt w.G k).leaves :: .buf ti 42 4 s.ins.length :: .map g (kmap kint l) :: wC w s.nx :: oC w (out.set k<|bX (intsX (begOf w ends k nx).params)<|.sl 4 (some ti)<|s.ins.map insV) :: eC w ms :: (mY ms))) [11] [11, 89, 90, 91, 92, 93, 94, 95, 96, 97, 98, 99] rfl VT.mix<|Zp (Zm _) (Zm2 rfl<|λ _ => (λ γ => Zf<|λ _ h5 => Ze<|Zn rfl<|Zj VT.fa40_2 h5 z0))<|Zp (Zm _) (Zm2 rfl<|λ _ => (λ γ => Zw 0 0 rfl<|λ _ h89 => Ze<|Zn rfl<|Zj VT.fa38_0 h89 z0))<|Zp (Zm _) (Zo rfl rfl ⟨(λ γ => Zw 1 0 rfl (λ _ h90 => Ze (Zn rfl (Zu 0 VT.ty3 h90 rfl rfl z0)))), (λ γ => Zw 1 0 rfl (λ _ h90 => Ze (Zn rfl (Zu 1 VT.ty3 h90 rfl rfl z0)))), trivial⟩)<|Zp (Zm _) (Zm2 rfl<|λ _ => (λ γ => Zf<|λ _ h5 => Ze<|Zn rfl<|Zj VT.fa40_2 h5 z0))<|Zp (Zm _) (Zm2 rfl<|λ _ => (λ γ => Zw 3 0 rfl<|λ _ h92 => Ze<|Zn rfl<|Zj VT.fa38_2 h92 z0))<|Zp (Zm _) (Zo rfl rfl ⟨(λ γ => Zw 4 0 rfl (λ _ h93 => Ze (Zn rfl (Zu 0 VT.ty3 h93 rfl rfl z0)))), (λ γ => Zw 4 0 rfl (λ _ h93 => Ze (Zn rfl (Zu 1 VT.ty3 h93 rfl rfl z0)))), trivial⟩)<|Zp (Zm _) (Zm2 rfl<|λ _ => (λ γ => Zf<|λ _ h5 => Ze<|Zn rfl<|Zj VT.fa40_2 h5 z0))<|Zp (Zm _) (Zm2 rfl<|λ _ => (λ γ => Zw 6 0 rfl<|λ _ h95 => Ze<|Zn rfl<|Zj VT.fa38_3 h95 z0))<|Zp (Zm _) (Zo rfl rfl ⟨(λ γ => Zw 7 0 rfl (λ _ h96 => Ze (Zn rfl (Zu 0 VT.ty32 h96 rfl rfl z0)))), (λ γ => Zw 7 0 rfl (λ _ h96 => Ze (Zn rfl (Zu 1 VT.ty32 h96 rfl rfl z0)))), trivial⟩)<|Zp (Zm _) (Zm2 rfl<|λ _ => (λ γ => Zw 8 0 rfl<|λ _ h97 => Ze<|Zn rfl<|Zx1 [.tmp 97] rfl (Zp2 h97 Zq2) VT.en61 (intsClone_c (blkAt w.G k).term.cases hcs) z0))<|Zp (Zm _) (Zm2 rfl<|λ _ => (λ γ => Zw 2 7 rfl<|λ _ h91 => Zw 5 4 rfl<|λ _ h94 => Zw 9 0 rfl<|λ _ h98 => Ze<|Zn rfl<|Zf2 [0, 2, 3] [.tmp 91, .tmp 94, .tmp 98] VT.st38 rfl rfl (Zp2 h91<|Zp2 h94<|Zp2 h98 Zq2) rfl z0))<|Zp (Zw2<|λ g => .ptr g 0) (Zo2 0 rfl<|λ γ => Ze<|Zn rfl<|Zb2 VT.zr38 _ rfl rfl<|λ g11 => ⟨g11, ⟨g11, rfl, rfl⟩, rfl⟩)<|Zp Za3 (Zo2 1 rfl<|λ γ => Zw 11 0 rfl<|λ _ h11 => Zw 10 1 rfl<|λ _ h99 => Ze<|Zx2 h11<|λ e11 => Zn rfl<|Zx 0 VT.ty38 e11 h99 rfl rfl rfl ⟨default, trivial, rfl⟩)<|DrawP_nil<|λ γ => Zw 11 1 rfl<|λ r11 h11 => Ze ?_
 have e11 : r11 = some _ := Zd3 h11
 subst e11
 clear h11
 refine Zi<|VW_cutF [(0, some (.ptr w.gw 0)), (1, some (.int k)), (4, some (.raw (.map (some g)))), (11, some (.ptr (γ 0) 0))] (.cells (γ 0) 38 [.int (blkAt w.G k).term.kind, (.int (midT (blkAt w.G k).term s.env).arg), .int (blkAt w.G k).term.n, intsX (blkAt w.G k).term.cases, V.nilSl] :: .cells g5 40 (blockV<|blkAt w.G k).leaves :: .buf ti 42 4 s.ins.length :: .map g (kmap kint l) :: wC w s.nx :: oC w (out.set k<|bX (intsX (begOf w ends k nx).params)<|.sl 4 (some ti)<|s.ins.map insV) :: eC w ms :: mY ms) ?_ ?_
 .
  refine Zb<|Zd<|Zc<|Zj VT.fa38_0 rfl<|Zc<|Zu 0 VT.ty3 rfl rfl rfl<|Zc<|Zj1 rfl rfl rfl<|Zc<|Zl rfl<|Zj2 (q := 103) rfl (λ hq103 => ?_)<|λ hq103 => ?_
  .
   have hk1 : (blkAt w.G k).term.kind ≠ 1 := by simpa using hq103
   refine Zc (Zj VT.fa38_0 rfl ?_)<|Zy1 hq103
   refine Zc (Zu 0 VT.ty3 rfl rfl rfl ?_)<|Zy1 hq103
   refine Zc (Zj1 rfl rfl rfl ?_)<|Zy1 hq103
   refine Zc<|Zs1 rfl hq103 rfl<|Za<|Zi<|Zm1 rfl (λ h107 => ?_)<|λ h107 => ?_
   .
    have hma : (midT (blkAt w.G k).term s.env).arg = (s.env (blkAt w.G k).term.arg).getD 0 := if_pos ⟨hk1, h107⟩
    refine Zd<|Zc<|Zl rfl<|Zc<|Zj VT.fa40_2 rfl<|Zc<|Zj VT.fa38_1 rfl<|Zc<|Zu 1 VT.ty3 rfl rfl rfl<|Zc<|Zu2 (V_lookupD 3 (.raw<|.int .i64 0) (λ m => rfl) Tryz.underlying106 (key_int Tryz.underlying3) VT.zr3 rfl rfl rfl ⟨rfl, rfl⟩) ((V.le.of_eq (envR_get hE (blkAt w.G k).term.arg) : V.le _ (.int<|(s.env (blkAt w.G k).term.arg).getD 0)))<|Zc<|Zj VT.fa38_1 rfl<|Zc<|Zy 0 VT.ty3 rfl rfl rfl rfl rfl<|Za<|Zi ?_
    exact ⟨⟨rfl, rfl, rfl, rfl, trivial⟩, (Drops.keepE (congrArg (Own.cells (γ 0) 38) (by rw [hma]; first | done | rfl)) (Dk (Drops.keepE rfl (Dk (Dk (Dk (Dk (Zt2 _))))))))⟩
   have hma : (midT (blkAt w.G k).term s.env).arg = 0 := if_neg (λ h => h.2 h107)
   refine Zi1<|Zi ?_
   exact ⟨⟨rfl, rfl, rfl, rfl, trivial⟩, (Drops.keepE (congrArg (Own.cells (γ 0) 38) (by rw [hma]; first | done | rfl)) (Dk (Drops.keepE rfl (Dk (Dk (Dk (Dk (Zt2 _))))))))⟩
  have hk1 : (blkAt w.G k).term.kind = 1 := by simpa using hq103
  have hma : (midT (blkAt w.G k).term s.env).arg = 0 := if_neg (λ h => h.1 hk1)
  refine Zk1 hq103<|Zk1 hq103<|Zk1 hq103<|Zc<|Zt1 rfl hq103 rfl<|Za<|Zi<|Zq1 rfl rfl<|Zi1<|Zi ?_
  exact ⟨⟨rfl, rfl, rfl, rfl, trivial⟩, (Drops.keepE (congrArg (Own.cells (γ 0) 38) (by rw [hma]; first | done | rfl)) (Dk (Drops.keepE rfl (Dk (Dk (Dk (Dk (Zt2 _))))))))⟩
 generalize γ 0 = g11
 refine Zb<|VW_drawR (G := Unit) [([], [0], []), ([0], [114], []), ([1, 0], [115], []), ([2, 1, 0], [116], []), (dn 4, [117], []), ([], [1], []), ([], [11], []), (dn 7, [118, 119], []), (dn 8, [121], []), (dn 9, [122, 120], [])] [9] (setSt _ 5<|λ _ => .cells w.go 40 ((rowG<|out.set k<|bX (intsX (begOf w ends k nx).params)<|.sl 4 (some ti)<|s.ins.map insV).take (k * 7 + 2) ++ [.int (blkAt w.G k).term.kind, (.int (midT (blkAt w.G k).term s.env).arg), .int (blkAt w.G k).term.n, intsX (blkAt w.G k).term.cases, V.nilSl] ++ (rowG<|out.set k<|bX (intsX (begOf w ends k nx).params)<|.sl 4 (some ti)<|s.ins.map insV).drop (k * 7 + 2 + 5))) [] [114, 115, 116, 117, 118, 119, 120, 121, 122] rfl VT.mix<|Zp (Zm _) (Zo rfl rfl ⟨(λ γ => Zf (λ _ h0 => Ze (Zn rfl (Zl h0 z0)))), trivial⟩)<|Zp (Zm _) (Zo rfl rfl ⟨(λ γ => Zw 0 0 rfl (λ _ h114 => Ze (Zn rfl (Zv1 h114 z0)))), trivial⟩)<|Zp (Zm _) (Zo rfl rfl ⟨(λ γ => Zw 1 0 rfl (λ _ h115 => Ze (Zn rfl (Zj VT.fa79_3 h115 z0)))), trivial⟩)<|Zp (Zm _) (Zo rfl rfl ⟨(λ γ => Zw 2 0 rfl (λ _ h116 => Ze (Zn rfl (Zj VT.fa31_1 h116 z0)))), trivial⟩)<|Zp (Zm _) (Zo rfl rfl ⟨(λ γ => Zw 3 0 rfl (λ _ h117 => Ze (Zn rfl (Zu 4 VT.ty29 h117 rfl rfl z0)))), trivial⟩)<|Zp (Zm _) (Zo rfl rfl ⟨(λ γ => Zf (λ _ h1 => Ze (Zn rfl (Zl h1 z0)))), trivial⟩)<|Zp (Zm _) (Zo rfl rfl ⟨(λ γ => Zf (λ _ h11 => Ze (Zn rfl (Zv 0 VT.ty38 h11 rfl rfl z0)))), trivial⟩)<|Zp (Zm _) (Zo rfl rfl ⟨(λ γ => Zw 4 2 rfl (λ _ h118 => Zw 5 1 rfl (λ _ h119 => Ze (Zn rfl (Zu2 (Zr2 VT.sl29 h118 h119 (by omega) (by omega) z0) ((V.le.of_eq (congrArg (V.ptr w.go) (by omega)) : V.le _ (.ptr w.go (k * 7)))) z0))))), trivial⟩)<|Zp (Zm _) (Zo rfl rfl ⟨(λ γ => Zw 7 0 rfl (λ _ h121 => Ze (Zn rfl (Zj VT.fa40_2 h121 z0)))), trivial⟩)<|Zp Za3 (Zn2 rfl<|λ γ => Zw 8 0 rfl<|λ _ h122 => Zw 6 2 rfl<|λ _ h120 => Ze<|Zn rfl<|Zx 5 VT.ty38 h122 h120 rfl rfl (Yae (by rw [rowG_len (L7_set h7 k rfl), Yf]; omega)) ⟨default, trivial, rfl⟩)<|DrawP_nil<|λ γ => Ze<|Zi<|VW_perm (S' := .cells g11 38 [.int (blkAt w.G k).term.kind, (.int (midT (blkAt w.G k).term s.env).arg), .int (blkAt w.G k).term.n, intsX (blkAt w.G k).term.cases, V.nilSl] :: .cells g5 40 (blockV<|blkAt w.G k).leaves :: .buf ti 42 4 s.ins.length :: .map g (kmap kint l) :: wC w s.nx :: oC w (out.set k<|.agg [intsX (begOf w ends k nx).params, (.sl 4 (some ti) (s.ins.map insV)), .int (blkAt w.G k).term.kind, .int (midT (blkAt w.G k).term s.env).arg, .int (blkAt w.G k).term.n, intsX (blkAt w.G k).term.cases, V.nilSl]) :: eC w ms :: (mY ms)) (.of_eq (by show (_ :: _ :: _ :: _ :: _ :: Own.cells w.go 40 ((rowG<|out.set k<|bX (intsX (begOf w ends k nx).params)<|.sl 4 (some ti)<|s.ins.map insV).take (k * 7 + 2) ++ _ ++ _) :: _ :: _) = _; rw [rowG_put (L7_set h7 k rfl) (out_set hkout) rfl, set_set]; rfl))<|VW_cellAt 5 (k * 7 + 1) (v' := inssX s.ins) rfl (rowG_get (L7_set h7 k rfl) (out_set hkout) rfl) V.le.strip rfl<|VW_perm (S' := .cells g11 38 [.int (blkAt w.G k).term.kind, (.int (midT (blkAt w.G k).term s.env).arg), .int (blkAt w.G k).term.n, intsX (blkAt w.G k).term.cases, V.nilSl] :: .cells g5 40 (blockV<|blkAt w.G k).leaves :: .buf ti 42 4 s.ins.length :: .map g (kmap kint l) :: wC w s.nx :: oC w (out.set k<|.agg [intsX (begOf w ends k nx).params, (inssX s.ins), .int (blkAt w.G k).term.kind, .int (midT (blkAt w.G k).term s.env).arg, .int (blkAt w.G k).term.n, intsX (blkAt w.G k).term.cases, V.nilSl]) :: eC w ms :: (mY ms)) (.of_eq (by show (_ :: _ :: _ :: _ :: _ :: Own.cells w.go 40 ((rowG<|out.set k<|.agg [intsX (begOf w ends k nx).params, (.sl 4 (some ti) (s.ins.map insV)), .int (blkAt w.G k).term.kind, .int (midT (blkAt w.G k).term s.env).arg, .int (blkAt w.G k).term.n, intsX (blkAt w.G k).term.cases, V.nilSl]).set (k * 7 + 1) _) :: _ :: _) = _; rw [rowG_set (L7_set h7 k rfl) (out_set hkout) (by decide), set_set]; rfl))<|Zd<|Zc<|Zl rfl<|Zc<|Zv1 rfl<|Zc<|Zj VT.fa79_4 rfl<|Zc<|Zu 4 VT.ty77 rfl rfl rfl<|Zc<|Zl rfl<|Zc<|Zl rfl<|Zc<|Zr2 VT.sl77 rfl rfl (by omega) (by omega)<|Zc<|Zh3 6 k VT.ty106 rfl (by simp) rfl rfl rfl (Ya _).symm (by rw [Yd]; omega)<|Za<|Zn3 rfl ?_
 have hfin : midV (blkOf w ends k nx) = .agg [intsX (begOf w ends k nx).params, (inssX s.ins), .int (blkAt w.G k).term.kind, .int (midT (blkAt w.G k).term s.env).arg, .int (blkAt w.G k).term.n, intsX (blkAt w.G k).term.cases, V.nilSl] := by unfold blkOf; rw [hbd]; exact mid_eq hsp
 have hp9 : (Own.map g (kmap kint l) :: ([wC w s.nx, oC w (out.set k (.agg [intsX (begOf w ends k nx).params, (inssX s.ins), .int (blkAt w.G k).term.kind, .int (midT (blkAt w.G k).term s.env).arg, .int (blkAt w.G k).term.n, intsX (blkAt w.G k).term.cases, V.nilSl])), Own.cells w.ge 106 ((ms.map mLeaf).set k (.raw (.map (some g))) ++ [])] ++ mY ms)).Perm ([wC w (bodyOf w ends k nx).nx, oC w (out.set k (midV (blkOf w ends k nx))), eC w (ms.set k (some (g, l)))] ++ mY (ms.set k (some (g, l)))) := by
  rw [Ya, ms_set (x := (g, l)), hfin, hbd]
  exact List.perm_middle.symm.trans ((mY_push (x := (g, l)) hm0).append_left _)
 exact ⟨_, .drop (.drop (.drop (.of_perm hp9))), g, l, rfl, by rw [hbd]; exact hE, hkn⟩
end Go.Proofs.YthlflmmnankhhaaGreat.X84
end
