import Derived.Test.YtmmmgamhffbkbaaVT
import Derived.Test.YtmmmgamhffbkbaaS2
import Derived.Test.YtmmmgamhffbkbaaVP
import Derived.Test.YtmmmgamhffbkbaaDZ
import Derived.Test.YtmmmgamhffbkbaaX1
import Derived.Test.YtmmmgamhffbkbaaX2
import Derived.Test.YtmmmgamhffbkbaaX3
import Derived.Test.YtmmmgamhffbkbaaX4
import Derived.Test.YtmmmgamhffbkbaaX5
import Derived.Test.YtmmmgamhffbkbaaX6
import Derived.Test.YtmmmgamhffbkbaaX7
import Derived.Test.YtmmmgamhffbkbaaX8
import Derived.Test.YtmmmgamhffbkbaaX9
import Derived.Test.YtmmmgamhffbkbaaX10
import Derived.Test.YtmmmgamhffbkbaaXW
import Derived.Test.YtmmmgamhffbkbaaX25
import Derived.Test.YtmmmgamhffbkbaaX26
set_option linter.unusedVariables false
set_option linter.unusedSimpArgs false
namespace Go.Proofs.Ytmmmgamhffbkbaa.X42
open Go.VL Go.SM Go.Proofs.Ytmmmgamhffbkbaa Go.Proofs.Ytmmmgamhffbkbaa.X1 Go.Proofs.Ytmmmgamhffbkbaa.X2 Go.Proofs.Ytmmmgamhffbkbaa.X3 Go.Proofs.Ytmmmgamhffbkbaa.X4 Go.Proofs.Ytmmmgamhffbkbaa.X5 Go.Proofs.Ytmmmgamhffbkbaa.X6 Go.Proofs.Ytmmmgamhffbkbaa.X7 Go.Proofs.Ytmmmgamhffbkbaa.X8 Go.Proofs.Ytmmmgamhffbkbaa.X9 Go.Proofs.Ytmmmgamhffbkbaa.X10 Go.Proofs.Ytmmmgamhffbkbaa.XW Go.Proofs.Ytmmmgamhffbkbaa.X25 Go.Proofs.Ytmmmgamhffbkbaa.X26
def All2 {α β : Type} (R : α → β → Prop) (l : List α) (m : List β) : Prop := m.length = l.length ∧ ∀ (k : Nat) (x : α) (y : β), l[k]? = some x → m[k]? = some y → R x y
theorem all2_nil {α β : Type} (R : α → β → Prop) : All2 R [] [] := ⟨rfl, fun k x y h => by simp at h⟩
theorem all2_snoc {α β : Type} {R : α → β → Prop} {l : List α} {m : List β} {k : Nat} {x : α} {y : β} (h : All2 R (l.take k) m) (hx : l[k]? = some x) (hr : R x y) : All2 R (l.take (k + 1)) (m ++ [y]) := by
  obtain ⟨h1, h2⟩ := h
  rw [take_snoc hx]
  refine ⟨by rw [List.length_append, List.length_append, h1]; rfl, fun j a b ha hb => ?_⟩
  by_cases hj : j < m.length
  · rw [List.getElem?_append_left hj] at hb
    rw [List.getElem?_append_left (by rw [← h1]; exact hj)] at ha
    exact h2 j a b ha hb
  · rw [List.getElem?_append_right (by omega)] at hb
    rw [List.getElem?_append_right (by rw [← h1]; omega), ← h1] at ha
    have hj0 : j - m.length = 0 := by
      have := (List.getElem?_eq_some_iff.1 hb).1
      simp at this
      omega
    rw [hj0] at ha hb
    have ha : x = a := by simpa using ha
    have hb : y = b := by simpa using hb
    subst ha hb
    exact hr
theorem all2_zip {α β γ : Type} {R : α → β → Prop} {l : List α} {m : List β} {k : Nat} {x : α} (f : α → β → γ) (y : β) (h : All2 R (l.take k) m) (hx : l[k]? = some x) : List.zipWith f (l.take k) m ++ [f x y] = List.zipWith f (l.take (k + 1)) (m ++ [y]) := by
  rw [take_snoc hx, List.zipWith_append h.1.symm]
  rfl
theorem all2_len {α β γ : Type} {R : α → β → Prop} {l : List α} {m : List β} (f : α → β → γ) (h : All2 R l m) : (List.zipWith f l m).length = l.length := by
  rw [List.length_zipWith, h.1, Nat.min_self]
theorem zip_len {α β : Type} {f : α → β → V} {sz : Nat} (hf : ∀ x y, (f x y).leaves.length = sz) : ∀ (l : List α) (m : List β), ∀ v ∈ List.zipWith f l m, v.leaves.length = sz
  | [], _, v, hv => by cases hv
  | _ :: _, [], v, hv => by cases hv
  | x :: l, y :: m, v, hv => by
    rcases List.mem_cons.1 hv with rfl | hv
    · exact hf x y
    · exact zip_len hf l m v hv
def RowIs (l : List Int) (o : Option XRow) : Prop := xl o = l.map V.int ∧ xOk 1 o
theorem ints_1 (l : List Int) : ∀ v ∈ l.map V.int, v.leaves.length = 1 := fun v hv => by
  obtain ⟨n, _, rfl⟩ := List.mem_map.1 hv
  rfl
theorem ints_flat (l : List Int) : ∀ v ∈ l.map V.int, v.flat = true := fun v hv => by
  obtain ⟨n, _, rfl⟩ := List.mem_map.1 hv
  rfl
noncomputable def nrmI (l : List Int) (o : Option XRow) : Option XRow := nrmX 1 (l.map V.int) o
theorem nrmI_eq {l : List Int} {o : Option XRow} (h1 : xl o = l.map V.int) (h2 : xOk 1 o) : nrmI l o = o := nrmX_eq h1 h2
theorem nrmI_ok {l : List Int} (h : l.length ≤ 10000) (o : Option XRow) : RowIs l (nrmI l o) := nrmX_ok (ints_1 l) (by rw [List.length_map]; simp only [maxLen]; omega) o
structure WB where
  b : SBlock
  p : Option XRow
  ar : List (Option XRow)
  i : Option XRow
  es : List (Option XRow)
  o : Option XRow
def iwV (i : SIns) (a : Option XRow) : V := .agg [.int i.to, .int i.op, .int i.n, rL 1 a]
def ewV (e : SEdge) (a : Option XRow) : V := .agg [.int e.block, rL 1 a]
def wbV (s : WB) : V := .agg [rL 1 s.p, xLeaf s.i, .int s.b.term.kind, .int s.b.term.arg, .int s.b.term.n, intsX s.b.term.cases, xLeaf s.o]
abbrev rOwns (l : List (Option XRow)) : Store := l.map (rOwn 3 1)
abbrev wTail (s : WB) : Store := xOwn 46 s.i ++ (rOwns s.ar ++ (xOwn 48 s.o ++ rOwns s.es))
def wbOwn (s : WB) : Store := rOwn 3 1 s.p :: wTail s
abbrev wOwn (B : List WB) : Store := B.flatMap wbOwn
abbrev InsRows : List SIns → List (Option XRow) → Prop := All2 fun i a => RowIs i.args a
abbrev EdgeRows : List SEdge → List (Option XRow) → Prop := All2 fun e a => RowIs e.args a
structure WOk (s : WB) : Prop where
  p : RowIs s.b.params s.p
  a : InsRows s.b.ins s.ar
  i : xl s.i = List.zipWith iwV s.b.ins s.ar
  ik : xOk 4 s.i
  e : EdgeRows s.b.term.to s.es
  o : xl s.o = List.zipWith ewV s.b.term.to s.es
  ok : xOk 2 s.o
theorem iw_4 (i : SIns) (a : Option XRow) : (iwV i a).leaves.length = 4 := by cases a <;> rfl
theorem ew_2 (e : SEdge) (a : Option XRow) : (ewV e a).leaves.length = 2 := by cases a <;> rfl
theorem wb_7 (s : WB) : (wbV s).leaves.length = 7 := by
  obtain ⟨b, p, ar, i, es, o⟩ := s
  cases p <;> cases i <;> cases o <;> rfl
theorem wbs_7 (B : List WB) : ∀ x ∈ B.map wbV, x.leaves.length = 7 := fun x hx => by
  obtain ⟨s, _, rfl⟩ := List.mem_map.1 hx
  exact wb_7 s
theorem iw_flat (i : SIns) (a : Option XRow) : ∀ y ∈ [iwV i a], y.flat = true := fun y hy => by
  rw [List.mem_singleton.1 hy]
  cases a <;> rfl
theorem ew_flat (e : SEdge) (a : Option XRow) : ∀ y ∈ [ewV e a], y.flat = true := fun y hy => by
  rw [List.mem_singleton.1 hy]
  cases a <;> rfl
theorem wb_flat (s : WB) : ∀ y ∈ [wbV s], y.flat = true := fun y hy => by
  rw [List.mem_singleton.1 hy]
  obtain ⟨b, p, ar, i, es, o⟩ := s
  cases p <;> cases i <;> cases o <;> rfl
theorem iw_fit (i : SIns) (a : Option XRow) : ([iwV i a] : List V).all (V.fits 4) = true := by cases a <;> rfl
theorem ew_fit (e : SEdge) (a : Option XRow) : ([ewV e a] : List V).all (V.fits 2) = true := by cases a <;> rfl
theorem wb_fit (s : WB) : ([wbV s] : List V).all (V.fits 7) = true := by
  obtain ⟨b, p, ar, i, es, o⟩ := s
  cases p <;> cases i <;> cases o <;> rfl
theorem drops_in {r x : Own} {L C D Y : Store} : Drops (r :: x :: (L ++ (C ++ (D ++ Y)))) (L ++ (C ++ ((D ++ [r]) ++ Y))) := by
  refine Drops.trans (T := x :: (L ++ (C ++ ((D ++ [r]) ++ Y)))) (.of_perm ?_) (.drop (.refl _))
  have h1 : (r :: (D ++ Y)).Perm ((D ++ [r]) ++ Y) := by
    rw [List.append_assoc]
    exact List.perm_middle.symm
  have h2 : (r :: x :: (L ++ (C ++ (D ++ Y)))).Perm (x :: (L ++ (C ++ (r :: (D ++ Y))))) := by
    refine (List.Perm.swap _ _ _).trans (.cons _ ?_)
    have e : L ++ (C ++ (r :: (D ++ Y))) = (L ++ C) ++ (r :: (D ++ Y)) := by simp
    have e2 : L ++ (C ++ (D ++ Y)) = (L ++ C) ++ (D ++ Y) := by simp
    rw [e, e2]
    exact List.perm_middle.symm
  exact h2.trans (.cons _ ((h1.append_left C).append_left L))
theorem perm_w {A B C D Z : Store} : (A ++ (B ++ (C ++ (D ++ Z)))).Perm ((C ++ (D ++ (A ++ B))) ++ Z) := by
  have h := (List.perm_append_comm (l₁ := A ++ B) (l₂ := C ++ D)).append_right Z
  simpa only [List.append_assoc] using h
theorem wown_snoc {x6 x5 : Own} {L C : Store} {B : List WB} {s : WB} : Drops (x6 :: rOwn 3 1 s.p :: x5 :: (L ++ (C ++ (wTail s ++ wOwn B)))) (L ++ (C ++ wOwn (B ++ [s]))) := by
  refine Drops.trans (.drop (T := rOwn 3 1 s.p :: x5 :: (L ++ (C ++ (wTail s ++ wOwn B)))) (.refl _)) (Drops.trans (T := x5 :: (L ++ (C ++ wOwn (B ++ [s])))) (.of_perm ?_) (.drop (.refl _)))
  have e : wOwn (B ++ [s]) = wOwn B ++ wbOwn s := by
    unfold wOwn
    rw [List.flatMap_append, List.flatMap_singleton]
  rw [e]
  refine (List.Perm.swap _ _ _).trans (.cons _ ?_)
  have e2 : L ++ (C ++ (wTail s ++ wOwn B)) = (L ++ C) ++ (wTail s ++ wOwn B) := by simp
  have e3 : L ++ (C ++ (wOwn B ++ wbOwn s)) = (L ++ C) ++ (wOwn B ++ wbOwn s) := by simp
  rw [e2, e3]
  refine (List.perm_middle.symm).trans ((List.Perm.trans ?_ List.perm_append_comm).append_left (L ++ C))
  exact .refl _
theorem wok_snoc {B : List WB} {s : WB} (h : ∀ x ∈ B, WOk x) (hs : WOk s) : ∀ x ∈ B ++ [s], WOk x := fun x hx => by
  rcases List.mem_append.1 hx with hx | hx
  · exact h x hx
  · rw [List.mem_singleton.1 hx]; exact hs
theorem wbs_snoc {bs : List SBlock} {B : List WB} {k : Nat} {s : WB} (h : B.map (·.b) = bs.take k) (hb : bs[k]? = some s.b) : (B ++ [s]).map (·.b) = bs.take (k + 1) := by
  rw [List.map_append, take_snoc hb, h]
  rfl
theorem fill_b (p : Option XRow) (b : SBlock) : vfill [(0, 1), (1, 1), (2, 5)] VT.zs44 ([0, 2].zip [rL 1 p, termV b.term]) = some [rL 1 p, V.nilSl, .int b.term.kind, .int b.term.arg, .int b.term.n, intsX b.term.cases, edgesX b.term.to] := by cases p <;> rfl
theorem fill_e (p : Option XRow) (e : SEdge) : vfill [(0, 1), (1, 1)] VT.zs48 ([0, 1].zip [.int e.block, rL 1 p]) = some [.int e.block, rL 1 p] := by cases p <;> rfl
structure FB where
  f : SFunc
  o : XRow
  L : List WB
def fbOwn (s : FB) : Store := xOwn 44 (some s.o) ++ wOwn s.L
def fbV (s : FB) : V := .agg [.int s.f.name, xLeaf (some s.o)]
structure FOk (f : SFunc) (s : FB) : Prop where
  fn : s.f = f
  bs : s.L.map (·.b) = f.blocks
  ok : ∀ x ∈ s.L, WOk x
  xs : s.o.xs = s.L.map wbV
  xk : xOk 7 (some s.o)
open Go.VL renaming VOps_nil → Za, VW_seq → Zb, VW_region → Zd, Needs_nil → Ze, Then_n → Zi, V_fieldAddr → Zj, V_move → Zl, eqRes → Zm, vopT → Zn, goodS → Zo, VW_block → Zs, VW_exit → Zt, V_load → Zu, V_load_agg → Zv, V_store_agg → Zx, V_store → Zy, V_indexAddr → Zz, InBlock_n → Zb1, InBlock_hit → Zc1, Then_e → Ze1, VW_ret → Zf1, VRet_one → Zg1, VW_skip → Zi1, V_bin → Zj1, VW_condP → Zn1, V_load_ep_agg → Za2, V_alloc → Zb2, V_box → Zc2, V_lenN → Zd2, V_build → Zf2, V_add → Zh2, VW_loopF → Zi2, goodA → Zm2, goodU → Zo2, evs_cons → Zp2, evs_nil → Zq2, Drops.refl → Zt2, oneRes → Zw2, oneE → Zx2, anyRes → Za3, oneY → Zd3, V_appendN → Zi3, V_lit → Zk3
set_option maxRecDepth 100000 in
set_option maxHeartbeats 16000000 in
theorem CopyFuncW_c {f : SFunc} (hc : CpOk f) (hne : 0 < f.blocks.length) : VCalls Try.prog 18 [funcV f] [] fun r S' => ∃ s : FB, FOk f s ∧ r = fbV s ∧ S' = fbOwn s := by
 refine VCalls_drops ?_
 have hmany := hc.many
 refine V_start (nt := 87) Try.func18 rfl rfl rfl ?_
 refine Zb (Zd ?_)
 refine Zc (Zc2 rfl rfl (fun g1 => ?_))
 refine Zc (Zb2 VT.zr37 _ rfl rfl (fun g2 => ?_))
 refine Za (Zi (Zb (Zd (Zc (Zj VT.fa37_0 rfl (Zc (Zu 1 VT.ty3 rfl rfl rfl ?_)))))))
 refine Zc (Zf2 [0] [.tmp 12] VT.st37 rfl rfl rfl rfl ?_)
 refine Zc (Zb2 VT.zr37 _ rfl rfl (fun g3 => ?_))
 refine Zc (Zx 0 VT.ty37 rfl rfl rfl rfl rfl (Za (Zi (Zb (Zb (Zd (Zc (Zj VT.fa37_1 rfl (Zc (Zu 2 VT.ty35 rfl rfl rfl ?_))))))))))
 refine Zc (Zd2 (n := f.blocks.length) Try.underlying35 rfl (by simp) (fun hl16 => ?_))
 refine Zc (Zl rfl (Za (Zi (Zs ?_))))
 refine Zi2 (ι := Nat × Option XRow × List WB) (fun (k, out, B) => f.blocks.length - k) (fun (k, out, B) => [(1, some (.ptr g1 0)), (2, some (.ptr g2 0)), (3, some (.ptr g3 0)), (15, some (blocksX f.blocks)), (16, some (.int f.blocks.length)), (17, some (.int k))]) (fun (k, out, B) => .cells g3 37 [.int f.name, xLeaf out] :: .cells g2 37 VT.zs37 :: .cells g1 37 [.int f.name, blocksX f.blocks] :: (xOwn 44 out ++ wOwn B)) (fun (k, out, B) => k ≤ f.blocks.length ∧ B.map (·.b) = f.blocks.take k ∧ (∀ s ∈ B, WOk s) ∧ xl out = B.map wbV ∧ xOk 7 out) (0, none, []) ⟨Nat.zero_le _, rfl, (fun s hs => by cases hs), rfl, trivial⟩ ⟨rfl, rfl, rfl, rfl, rfl, rfl, trivial⟩ (Zt2 _) ?_
 rintro ⟨k, out, B⟩ hA
 change k ≤ f.blocks.length ∧ B.map (·.b) = f.blocks.take k ∧ (∀ s ∈ B, WOk s) ∧ xl out = B.map wbV ∧ xOk 7 out at hA
 obtain ⟨hk, hR, hLo, hxu, huo⟩ := hA
 refine Zb (Zd (Zc (Zj1 rfl rfl rfl (Za (Zi (Zb ?_))))))
 refine Zn1 rfl (fun h18 => ?_) (fun h18 => ?_)
 ·
  obtain ⟨b, hb⟩ := get_of_lt f.blocks k h18
  obtain ⟨c1, c2, c3, c4, c5, c6⟩ := hc.block b (List.mem_of_getElem? hb)
  have hkl : B.length = k := by have h9 := congrArg List.length hR; rw [List.length_map, List.length_take] at h9; omega
  refine Zi1 (Zi (Zb (Zs (Zb (Zd ?_)))))
  refine Zc (Zz (el := blockV b) VT.sl35 rfl rfl (by omega) (get_mapS _ hb) (fun a19 => ?_))
  refine Zc (Za2 VT.ty44 rfl rfl ?_)
  refine Zc (Zb2 VT.zr44 _ rfl rfl (fun g5 => ?_))
  refine Zc (Zx 0 VT.ty44 rfl rfl rfl rfl rfl (Za (Zi (Zb ?_))))
  refine VW_drawA (G := (Nat × Option XRow)) [([], [], []), ([], [5], []), ([1], [22], []), ([2, 1, 0], [21, 23], [0]), ([], [5], []), ([4], [25], []), (dn 6, [24, 26], [0]), ([], [], [1]), (dn 8, [6, 27], [])] [3, 7, 8] 2 (fun p x => match p with | 0 => rOwn 3 1 (nrmI b.params x.2) | _ => .cells x.1 44 VT.zs44) (fun l => match l with | [x, y] => rOwn 3 1 (nrmI b.params x.2) :: .cells y.1 44 [rL 1 (nrmI b.params x.2), V.nilSl, .int b.term.kind, .int b.term.arg, .int b.term.n, intsX b.term.cases, edgesX b.term.to] :: .cells g5 44 [intsX b.params, inssX b.ins, .int b.term.kind, .int b.term.arg, .int b.term.n, intsX b.term.cases, edgesX b.term.to] :: .cells g3 37 [.int f.name, xLeaf out] :: .cells g2 37 VT.zs37 :: .cells g1 37 [.int f.name, blocksX f.blocks] :: (xOwn 44 out ++ wOwn B) | _ => []) [6] [6, 21, 22, 23, 24, 25, 26, 27] VT.mix ?_
  refine ZpM (Zm _) (goodSM (l := [[], [1]]) (by kernel_rfl) (by kernel_rfl) ⟨(fun γ => Ze (Zn rfl (V_lit0 [] VT.sl26 rfl rfl rfl Zq2 rfl rfl ⟨rfl, rfl⟩))), (fun γ => Ze (Zn rfl (V_lit0 [] VT.sl26 rfl rfl rfl Zq2 rfl rfl ⟨rfl, rfl⟩))), trivial⟩) ?_
  refine ZpM (Zm _) (goodAM (by kernel_rfl) (fun _ => (fun γ => Zf (fun _ h5 => Ze (Zn rfl (Zj VT.fa44_0 h5 ⟨rfl, rfl⟩)))))) ?_
  refine ZpM (Zm _) (goodSM (l := [[], [1]]) (by kernel_rfl) (by kernel_rfl) ⟨(fun γ => Zw 1 0 rfl (fun _ h22 => Ze (Zn rfl (Zu 0 VT.ty26 h22 rfl rfl ⟨rfl, rfl⟩)))), (fun γ => Zw 1 0 rfl (fun _ h22 => Ze (Zn rfl (Zu 1 VT.ty26 h22 rfl rfl ⟨rfl, rfl⟩)))), trivial⟩) ?_
  refine ZpM (Zw2 (fun x => rL 1 (nrmI b.params x.2))) (goodAdd (q := 0) (by kernel_rfl) (by kernel_rfl) (by kernel_rfl) (fun _ => (fun γ => Zw 0 2 rfl (fun _ h21 => Zw 2 0 rfl (fun _ h23 => Ze (Zn rfl (V_append0R VT.sl26 (by decide) h21 h23 (by rw [List.length_map]; omega) (ints_flat _) (fun o24 e24_1 e24_2 => ⟨(0, o24), ⟨_, rfl, (by show some (rL 1 o24) = some (rL 1 (nrmI b.params o24)); rw [nrmI_eq e24_1 e24_2])⟩, (by show _ = (rOwn 3 1 (nrmI b.params ((0, o24) : Nat × Option XRow).2) :: _ : Store); rw [show nrmI b.params ((0, o24) : Nat × Option XRow).2 = o24 from nrmI_eq e24_1 e24_2])⟩)))))))) ?_
  refine ZpM (Zm _) (goodAM (by kernel_rfl) (fun _ => (fun γ => Zf (fun _ h5 => Ze (Zn rfl (Zj VT.fa44_2 h5 ⟨rfl, rfl⟩)))))) ?_
  refine ZpM (Zm _) (goodSM (l := [[], [0], [1], [0, 1]]) (by kernel_rfl) (by kernel_rfl) ⟨(fun γ => Zw 4 0 rfl (fun _ h25 => Ze (Zn rfl (Zv 0 VT.ty42 h25 rfl rfl ⟨rfl, rfl⟩)))), (fun γ => Zw 4 0 rfl (fun _ h25 => Ze (Zn rfl (Zv 1 VT.ty42 h25 rfl rfl ⟨rfl, rfl⟩)))), (fun γ => Zw 4 0 rfl (fun _ h25 => Ze (Zn rfl (Zv 1 VT.ty42 h25 rfl rfl ⟨rfl, rfl⟩)))), (fun γ => Zw 4 0 rfl (fun _ h25 => Ze (Zn rfl (Zv 2 VT.ty42 h25 rfl rfl ⟨rfl, rfl⟩)))), trivial⟩) ?_
  refine ZpM (Zw2 (fun x => .agg [rL 1 (nrmI b.params x.2), V.nilSl, .int b.term.kind, .int b.term.arg, .int b.term.n, intsX b.term.cases, edgesX b.term.to])) (goodAM (by kernel_rfl) (fun _ => (fun γ => Zw 3 2 rfl (fun _ h24 => Zw 5 0 rfl (fun _ h26 => Ze (Zx2 h24 (fun e24 => Zn rfl (Zf2 [0, 2] [.tmp 24, .tmp 26] VT.st44 rfl rfl (Zp2 e24 (Zp2 h26 Zq2)) (fill_b _ b) ⟨⟨_, rfl, rfl⟩, rfl⟩)))))))) ?_
  refine ZpM (Zw2 (fun x => .ptr x.1 0)) (goodAdd (q := 1) (by kernel_rfl) (by kernel_rfl) (by kernel_rfl) (fun _ => (fun γ => Ze (Zn rfl (Zb2 VT.zr44 _ rfl rfl (fun g6 => ⟨(g6, none), ⟨_, rfl, rfl⟩, rfl⟩)))))) ?_
  refine ZpM Za3 (goodFin (by kernel_rfl) (by kernel_rfl) (by kernel_rfl) (fun γ => Zw 7 0 rfl (fun _ h6 => Zw 6 1 rfl (fun _ h27 => Ze (Zx2 h6 (fun e6 => Zx2 h27 (fun e27 => Zn rfl (Zx 1 VT.ty44 e6 e27 rfl rfl rfl ⟨default, trivial, rfl⟩)))))))) ?_
  refine DrawM_nil (fun δ => Zw 7 1 rfl (fun r6 h6 => Ze ?_))
  have e6 : r6 = some _ := Zd3 h6
  subst e6
  clear h6
  refine Zi ?_
  refine VW_perm (.swap _ _ _) ?_
  have hP : RowIs b.params (nrmI b.params (δ 0).2) := nrmI_ok c1 _
  generalize (nrmI b.params (δ 0).2) = P at hP ⊢
  generalize (δ 1).1 = g6
  refine Zb (Zb (Zd (Zc (Zj VT.fa44_1 rfl (Zc (Zu 2 VT.ty39 rfl rfl rfl ?_))))))
  refine Zc (Zd2 (n := b.ins.length) Try.underlying39 rfl (by simp) (fun hl30 => ?_))
  refine Zc (Zl rfl (Za (Zi (Zs ?_))))
  refine Zi2 (ι := Nat × Option XRow × List (Option XRow)) (fun (j, I, ar) => b.ins.length - j) (fun (j, I, ar) => [(1, some (.ptr g1 0)), (2, some (.ptr g2 0)), (3, some (.ptr g3 0)), (15, some (blocksX f.blocks)), (16, some (.int f.blocks.length)), (17, some (.int k)), (5, some (.ptr g5 0)), (6, some (.ptr g6 0)), (29, some (inssX b.ins)), (30, some (.int b.ins.length)), (31, some (.int j))]) (fun (j, I, ar) => .cells g6 44 [rL 1 P, xLeaf I, .int b.term.kind, .int b.term.arg, .int b.term.n, intsX b.term.cases, edgesX b.term.to] :: rOwn 3 1 P :: .cells g5 44 [intsX b.params, inssX b.ins, .int b.term.kind, .int b.term.arg, .int b.term.n, intsX b.term.cases, edgesX b.term.to] :: .cells g3 37 [.int f.name, xLeaf out] :: .cells g2 37 VT.zs37 :: .cells g1 37 [.int f.name, blocksX f.blocks] :: (xOwn 46 I ++ (rOwns ar ++ (xOwn 44 out ++ wOwn B)))) (fun (j, I, ar) => j ≤ b.ins.length ∧ InsRows (b.ins.take j) ar ∧ xl I = List.zipWith iwV (b.ins.take j) ar ∧ xOk 4 I) (0, none, []) ⟨Nat.zero_le _, all2_nil _, rfl, trivial⟩ ⟨rfl, rfl, rfl, rfl, rfl, rfl, rfl, rfl, rfl, rfl, rfl, trivial⟩ (Zt2 _) ?_
  rintro ⟨j, I, ar⟩ hB
  change j ≤ b.ins.length ∧ InsRows (b.ins.take j) ar ∧ xl I = List.zipWith iwV (b.ins.take j) ar ∧ xOk 4 I at hB
  obtain ⟨hj, hIr, hIx, hIk⟩ := hB
  refine Zb (Zd (Zc (Zj1 rfl rfl rfl (Za (Zi (Zb ?_))))))
  refine Zn1 rfl (fun h32 => ?_) (fun h32 => ?_)
  ·
   obtain ⟨i, hi⟩ := get_of_lt b.ins j h32
   have hia := c5 i (List.mem_of_getElem? hi)
   have hIl : (xl I).length = j := by rw [hIx, all2_len iwV hIr, List.length_take]; omega
   refine Zi1 (Zi (Zb (Zs (Zb (Zd ?_)))))
   refine Zc (Zz (el := insV i) VT.sl39 rfl rfl (by omega) (get_mapS _ hi) (fun a33 => ?_))
   refine Zc (Za2 VT.ty46 rfl rfl ?_)
   refine Zc (Zb2 VT.zr46 _ rfl rfl (fun g8 => ?_))
   refine Zc (Zx 0 VT.ty46 rfl rfl rfl rfl rfl (Za (Zi (Zb (Zd ?_)))))
   refine Zc (V_lit0 [] VT.sl26 rfl rfl rfl rfl rfl rfl ?_)
   refine Zc (Zj VT.fa46_3 rfl (Zc (Zu 0 VT.ty26 rfl rfl rfl ?_)))
   refine Zc (V_append0R VT.sl26 (by decide) rfl rfl (by rw [List.length_map]; omega) (ints_flat _) (fun o38 e38_1 e38_2 => ?_))
   refine Zc (Zj VT.fa46_3 rfl ?_)
   refine Zc (Zy 1 VT.ty26 rfl rfl (rL_leaf _ _) rfl rfl ?_)
   refine Za (Zi (Zd (Zc (Zj VT.fa44_1 rfl (Zc (Zu 2 VT.ty39 rfl rfl rfl (Zc (Zv 1 VT.ty46 rfl rfl rfl ?_))))))))
   refine Zc (Zk3 [.tmp 42] VT.sl39 rfl rfl rfl rfl (iw_fit i o38) ?_)
   refine Zc (V_appendOT (o := I) ([rOwn 3 1 o38, .cells g8 46 [.int i.to, .int i.op, .int i.n, rL 1 o38], .cells g6 44 [rL 1 P, xLeaf I, .int b.term.kind, .int b.term.arg, .int b.term.n, intsX b.term.cases, edgesX b.term.to], rOwn 3 1 P, .cells g5 44 [intsX b.params, inssX b.ins, .int b.term.kind, .int b.term.arg, .int b.term.n, intsX b.term.cases, edgesX b.term.to], .cells g3 37 [.int f.name, xLeaf out], .cells g2 37 VT.zs37, .cells g1 37 [.int f.name, blocksX f.blocks]] ++ (rOwns ar ++ (xOwn 44 out ++ wOwn B))) (fun o' => rOwn 3 1 o38 :: .cells g8 46 [.int i.to, .int i.op, .int i.n, rL 1 o38] :: .cells g6 44 [rL 1 P, xLeaf I, .int b.term.kind, .int b.term.arg, .int b.term.n, intsX b.term.cases, edgesX b.term.to] :: rOwn 3 1 P :: .cells g5 44 [intsX b.params, inssX b.ins, .int b.term.kind, .int b.term.arg, .int b.term.n, intsX b.term.cases, edgesX b.term.to] :: .cells g3 37 [.int f.name, xLeaf out] :: .cells g2 37 VT.zs37 :: .cells g1 37 [.int f.name, blocksX f.blocks] :: (xOwn 46 o' ++ (rOwns ar ++ (xOwn 44 out ++ wOwn B)))) VT.sl39 (by decide) rfl rfl (pullC [rOwn 3 1 o38, .cells g8 46 [.int i.to, .int i.op, .int i.n, rL 1 o38], .cells g6 44 [rL 1 P, xLeaf I, .int b.term.kind, .int b.term.arg, .int b.term.n, intsX b.term.cases, edgesX b.term.to], rOwn 3 1 P, .cells g5 44 [intsX b.params, inssX b.ins, .int b.term.kind, .int b.term.arg, .int b.term.n, intsX b.term.cases, edgesX b.term.to], .cells g3 37 [.int f.name, xLeaf out], .cells g2 37 VT.zs37, .cells g1 37 [.int f.name, blocksX f.blocks]]) (fun o' => (pullC [rOwn 3 1 o38, .cells g8 46 [.int i.to, .int i.op, .int i.n, rL 1 o38], .cells g6 44 [rL 1 P, xLeaf I, .int b.term.kind, .int b.term.arg, .int b.term.n, intsX b.term.cases, edgesX b.term.to], rOwn 3 1 P, .cells g5 44 [intsX b.params, inssX b.ins, .int b.term.kind, .int b.term.arg, .int b.term.n, intsX b.term.cases, edgesX b.term.to], .cells g3 37 [.int f.name, xLeaf out], .cells g2 37 VT.zs37, .cells g1 37 [.int f.name, blocksX f.blocks]]).symm) hIk (fun x hx => zip_len iw_4 _ _ x (by rw [← hIx]; exact hx)) (fun _ => List.cons_ne_nil _ _) (by rw [hIl, List.length_singleton]; omega) (iw_flat i o38) (fun o44 e44_1 e44_2 e44_3 => ?_))
   refine Zc (Zj VT.fa44_1 rfl ?_)
   refine Zc (Zy 2 VT.ty39 rfl rfl (xLeaf_leaf _) rfl rfl ?_)
   refine Za (Zb1 (Zi ?_))
   refine VW_drops (S' := .cells g6 44 [rL 1 P, xLeaf o44, .int b.term.kind, .int b.term.arg, .int b.term.n, intsX b.term.cases, edgesX b.term.to] :: rOwn 3 1 P :: .cells g5 44 [intsX b.params, inssX b.ins, .int b.term.kind, .int b.term.arg, .int b.term.n, intsX b.term.cases, edgesX b.term.to] :: .cells g3 37 [.int f.name, xLeaf out] :: .cells g2 37 VT.zs37 :: .cells g1 37 [.int f.name, blocksX f.blocks] :: (xOwn 46 o44 ++ (rOwns (ar ++ [o38]) ++ (xOwn 44 out ++ wOwn B)))) ?_ ?_
   · rw [show rOwns (ar ++ [o38]) = rOwns ar ++ [rOwn 3 1 o38] from List.map_append]; exact drops_in (L := [_, _, _, _, _, _]) (C := xOwn 46 o44) (D := rOwns ar)
   refine Zd ?_
   refine Zc (Zh2 rfl rfl (by omega) ?_)
   refine Zc (Zl rfl (Za (Zi ?_)))
   exact ⟨(j + 1, o44, ar ++ [o38]), (by (try simp only []); omega), ⟨by omega, all2_snoc hIr hi ⟨e38_1, e38_2⟩, e44_1.trans (by rw [hIx]; exact all2_zip iwV o38 hIr hi), e44_2⟩, ⟨rfl, rfl, rfl, rfl, rfl, rfl, rfl, rfl, rfl, rfl, rfl, trivial⟩, (Drops.keep (Drops.keep (Drops.keep (Drops.keep (Drops.keep (Drops.keep (Zt2 _)))))))⟩
  ·
   have hje : j = b.ins.length := by omega
   subst hje
   rw [List.take_length] at hIr hIx
   refine Zt (Ze1 (Ze1 (Zc1 (Zi (Zb (Zd ?_))))))
   refine Zc (V_lit0 [] VT.sl26 rfl rfl rfl rfl rfl rfl ?_)
   refine Zc (Zj VT.fa44_2 rfl (Zc (Zj VT.fa42_3 rfl (Zc (Zu 2 VT.ty26 rfl rfl rfl ?_)))))
   refine Zc (V_append0D VT.sl26 rfl rfl (by rw [List.length_map]; omega) ?_)
   refine Zc (Zj VT.fa44_2 rfl (Zc (Zj VT.fa42_3 rfl (Zc (Zy 0 VT.ty26 rfl rfl rfl rfl rfl (Za (Zi (Zb (Zd (Zc (Zj VT.fa44_2 rfl (Zc (Zj VT.fa42_4 rfl (Zc (Zy 0 VT.ty40 rfl rfl rfl rfl rfl (Za (Zi (Zb (Zb (Zd (Zc (Zj VT.fa44_2 rfl (Zc (Zj VT.fa42_4 rfl ?_))))))))))))))))))))))))
   refine Zc (Zu 2 VT.ty40 rfl rfl rfl ?_)
   refine Zc (Zd2 (n := b.term.to.length) Try.underlying40 rfl (by simp) (fun hl59 => ?_))
   refine Zc (Zl rfl (Za (Zi (Zs ?_))))
   refine Zi2 (ι := Nat × Option XRow × List (Option XRow)) (fun (j, o, es) => b.term.to.length - j) (fun (j, o, es) => [(1, some (.ptr g1 0)), (2, some (.ptr g2 0)), (3, some (.ptr g3 0)), (15, some (blocksX f.blocks)), (16, some (.int f.blocks.length)), (17, some (.int k)), (5, some (.ptr g5 0)), (6, some (.ptr g6 0)), (58, some (edgesX b.term.to)), (59, some (.int b.term.to.length)), (60, some (.int j))]) (fun (j, o, es) => .cells g6 44 [rL 1 P, xLeaf I, .int b.term.kind, .int b.term.arg, .int b.term.n, intsX b.term.cases, xLeaf o] :: rOwn 3 1 P :: .cells g5 44 [intsX b.params, inssX b.ins, .int b.term.kind, .int b.term.arg, .int b.term.n, intsX b.term.cases, edgesX b.term.to] :: .cells g3 37 [.int f.name, xLeaf out] :: .cells g2 37 VT.zs37 :: .cells g1 37 [.int f.name, blocksX f.blocks] :: (xOwn 48 o ++ (rOwns es ++ (xOwn 46 I ++ (rOwns ar ++ (xOwn 44 out ++ wOwn B)))))) (fun (j, o, es) => j ≤ b.term.to.length ∧ EdgeRows (b.term.to.take j) es ∧ xl o = List.zipWith ewV (b.term.to.take j) es ∧ xOk 2 o) (0, none, []) ⟨Nat.zero_le _, all2_nil _, rfl, trivial⟩ ⟨rfl, rfl, rfl, rfl, rfl, rfl, rfl, rfl, rfl, rfl, rfl, trivial⟩ (Zt2 _) ?_
   rintro ⟨j, o, es⟩ hB
   change j ≤ b.term.to.length ∧ EdgeRows (b.term.to.take j) es ∧ xl o = List.zipWith ewV (b.term.to.take j) es ∧ xOk 2 o at hB
   obtain ⟨hj, hEr, hxo, hoo⟩ := hB
   refine Zb (Zd (Zc (Zj1 rfl rfl rfl (Za (Zi (Zb ?_))))))
   refine Zn1 rfl (fun h61 => ?_) (fun h61 => ?_)
   ·
    obtain ⟨e, he⟩ := get_of_lt b.term.to j h61
    have hea := c6 e (List.mem_of_getElem? he)
    have hxl : (xl o).length = j := by rw [hxo, all2_len ewV hEr, List.length_take]; omega
    refine Zi1 (Zi (Zb (Zs (Zb (Zd ?_)))))
    refine Zc (Zz (el := edgeV e) VT.sl40 rfl rfl (by omega) (get_mapS _ he) (fun a62 => ?_))
    refine Zc (Za2 VT.ty48 rfl rfl ?_)
    refine Zc (Zb2 VT.zr48 _ rfl rfl (fun g10 => ?_))
    refine Zc (Zx 0 VT.ty48 rfl rfl rfl rfl rfl (Za (Zi ?_)))
    refine VW_drawR (G := (Option XRow × Option XRow)) [([], [6], []), ([0], [64], []), ([1, 0], [65], []), ([], [10], []), ([3], [67], []), ([], [], []), ([], [10], []), ([6], [70], []), ([7, 6, 5], [69, 71], [0]), ([8, 7, 6, 5, 4, 3], [68, 72], [0]), ([9, 8, 7, 6, 5, 4, 3], [73], [0]), (dn 11, [66, 74], [1]), (dn 12, [6], []), (dn 13, [76], []), (dn 14, [77, 75], [])] [8, 11, 14] (fourSt (.cells g10 48 [.int e.block, intsX e.args] :: .cells g6 44 [rL 1 P, xLeaf I, .int b.term.kind, .int b.term.arg, .int b.term.n, intsX b.term.cases, xLeaf o] :: rOwn 3 1 P :: .cells g5 44 [intsX b.params, inssX b.ins, .int b.term.kind, .int b.term.arg, .int b.term.n, intsX b.term.cases, edgesX b.term.to] :: .cells g3 37 [.int f.name, xLeaf out] :: .cells g2 37 VT.zs37 :: .cells g1 37 [.int f.name, blocksX f.blocks] :: (xOwn 48 o ++ (rOwns es ++ (xOwn 46 I ++ (rOwns ar ++ (xOwn 44 out ++ wOwn B)))))) (fun x => rOwn 3 1 (nrmI e.args x.1) :: .cells g10 48 [.int e.block, intsX e.args] :: .cells g6 44 [rL 1 P, xLeaf I, .int b.term.kind, .int b.term.arg, .int b.term.n, intsX b.term.cases, xLeaf o] :: rOwn 3 1 P :: .cells g5 44 [intsX b.params, inssX b.ins, .int b.term.kind, .int b.term.arg, .int b.term.n, intsX b.term.cases, edgesX b.term.to] :: .cells g3 37 [.int f.name, xLeaf out] :: .cells g2 37 VT.zs37 :: .cells g1 37 [.int f.name, blocksX f.blocks] :: (xOwn 48 o ++ (rOwns es ++ (xOwn 46 I ++ (rOwns ar ++ (xOwn 44 out ++ wOwn B)))))) (fun x y => rOwn 3 1 (nrmI e.args y.1) :: .cells g10 48 [.int e.block, intsX e.args] :: .cells g6 44 [rL 1 P, xLeaf I, .int b.term.kind, .int b.term.arg, .int b.term.n, intsX b.term.cases, xLeaf o] :: rOwn 3 1 P :: .cells g5 44 [intsX b.params, inssX b.ins, .int b.term.kind, .int b.term.arg, .int b.term.n, intsX b.term.cases, edgesX b.term.to] :: .cells g3 37 [.int f.name, xLeaf out] :: .cells g2 37 VT.zs37 :: .cells g1 37 [.int f.name, blocksX f.blocks] :: (xOwn 48 (nrmX 2 (List.zipWith ewV (b.term.to.take j) es ++ [ewV e (nrmI e.args y.1)]) y.2) ++ (rOwns es ++ (xOwn 46 I ++ (rOwns ar ++ (xOwn 44 out ++ wOwn B)))))) (fun x y _ => rOwn 3 1 (nrmI e.args y.1) :: .cells g10 48 [.int e.block, intsX e.args] :: .cells g6 44 [rL 1 P, xLeaf I, .int b.term.kind, .int b.term.arg, .int b.term.n, intsX b.term.cases, xLeaf (nrmX 2 (List.zipWith ewV (b.term.to.take j) es ++ [ewV e (nrmI e.args y.1)]) y.2)] :: rOwn 3 1 P :: .cells g5 44 [intsX b.params, inssX b.ins, .int b.term.kind, .int b.term.arg, .int b.term.n, intsX b.term.cases, edgesX b.term.to] :: .cells g3 37 [.int f.name, xLeaf out] :: .cells g2 37 VT.zs37 :: .cells g1 37 [.int f.name, blocksX f.blocks] :: (xOwn 48 (nrmX 2 (List.zipWith ewV (b.term.to.take j) es ++ [ewV e (nrmI e.args y.1)]) y.2) ++ (rOwns es ++ (xOwn 46 I ++ (rOwns ar ++ (xOwn 44 out ++ wOwn B))))))) [] [64, 65, 66, 67, 68, 69, 70, 71, 72, 73, 74, 75, 76, 77] rfl VT.mix ?_
    refine Zp (Zm _) (Zm2 rfl (fun _ => (fun γ => Zf (fun _ h6 => Ze (Zn rfl (Zj VT.fa44_2 h6 ⟨rfl, rfl⟩)))))) ?_
    refine Zp (Zm _) (Zm2 rfl (fun _ => (fun γ => Zw 0 0 rfl (fun _ h64 => Ze (Zn rfl (Zj VT.fa42_4 h64 ⟨rfl, rfl⟩)))))) ?_
    refine Zp (Zm _) (Zo rfl rfl ⟨(fun γ => Zw 1 0 rfl (fun _ h65 => Ze (Zn rfl (Zu 1 VT.ty40 h65 rfl rfl ⟨rfl, rfl⟩)))), (fun γ => Zw 1 0 rfl (fun _ h65 => Ze (Zn rfl (Zu 2 VT.ty40 h65 rfl rfl ⟨rfl, rfl⟩)))), trivial⟩) ?_
    refine Zp (Zm _) (Zm2 rfl (fun _ => (fun γ => Zf (fun _ h10 => Ze (Zn rfl (Zj VT.fa48_0 h10 ⟨rfl, rfl⟩)))))) ?_
    refine Zp (Zm _) (Zo rfl rfl ⟨(fun γ => Zw 3 0 rfl (fun _ h67 => Ze (Zn rfl (Zu 0 VT.ty3 h67 rfl rfl ⟨rfl, rfl⟩)))), (fun γ => Zw 3 0 rfl (fun _ h67 => Ze (Zn rfl (Zu 1 VT.ty3 h67 rfl rfl ⟨rfl, rfl⟩)))), trivial⟩) ?_
    refine Zp (Zm _) (Zo rfl rfl ⟨(fun γ => Ze (Zn rfl (V_lit0 [] VT.sl26 rfl rfl rfl Zq2 rfl rfl ⟨rfl, rfl⟩))), trivial⟩) ?_
    refine Zp (Zm _) (Zo rfl rfl ⟨(fun γ => Zf (fun _ h10 => Ze (Zn rfl (Zj VT.fa48_1 h10 ⟨rfl, rfl⟩)))), trivial⟩) ?_
    refine Zp (Zm _) (Zo rfl rfl ⟨(fun γ => Zw 6 0 rfl (fun _ h70 => Ze (Zn rfl (Zu 0 VT.ty26 h70 rfl rfl ⟨rfl, rfl⟩)))), trivial⟩) ?_
    refine Zp (Zw2 (fun x => rL 1 (nrmI e.args x.1))) (Zo2 0 rfl (fun γ => Zw 5 2 rfl (fun _ h69 => Zw 7 0 rfl (fun _ h71 => Ze (Zn rfl (V_append0R VT.sl26 (by decide) h69 h71 (by rw [List.length_map]; omega) (ints_flat _) (fun o72 e72_1 e72_2 => ⟨(o72, none), ⟨_, rfl, (by show some (rL 1 o72) = some (rL 1 (nrmI e.args o72)); rw [nrmI_eq e72_1 e72_2])⟩, (by show _ = (rOwn 3 1 (nrmI e.args ((o72, none) : Option XRow × Option XRow).1) :: Own.cells g10 48 [.int e.block, intsX e.args] :: Own.cells g6 44 [rL 1 P, xLeaf I, .int b.term.kind, .int b.term.arg, .int b.term.n, intsX b.term.cases, xLeaf o] :: rOwn 3 1 P :: Own.cells g5 44 [intsX b.params, inssX b.ins, .int b.term.kind, .int b.term.arg, .int b.term.n, intsX b.term.cases, edgesX b.term.to] :: Own.cells g3 37 [.int f.name, xLeaf out] :: Own.cells g2 37 VT.zs37 :: Own.cells g1 37 [.int f.name, blocksX f.blocks] :: (xOwn 48 o ++ (rOwns es ++ (xOwn 46 I ++ (rOwns ar ++ (xOwn 44 out ++ wOwn B))))) : Store); rw [show nrmI e.args ((o72, none) : Option XRow × Option XRow).1 = o72 from nrmI_eq e72_1 e72_2]; rfl)⟩))))))) ?_
    refine Zp (Zw2 (fun x => ewV e (nrmI e.args x.1))) (Zo rfl rfl ⟨(fun γ => Zw 4 4 rfl (fun _ h68 => Zw 8 0 rfl (fun _ h72 => Ze (Zx2 h72 (fun e72 => Zn rfl (Zf2 [0, 1] [.tmp 68, .tmp 72] VT.st48 rfl rfl (Zp2 h68 (Zp2 e72 Zq2)) (fill_e _ e) ⟨⟨_, rfl, rfl⟩, rfl⟩)))))), trivial⟩) ?_
    refine Zp (Zw2 (fun x => .sl 2 none [ewV e (nrmI e.args x.1)])) (Zo rfl rfl ⟨(fun γ => Zw 9 0 rfl (fun _ h73 => Ze (Zx2 h73 (fun e73 => Zn rfl (Zk3 [.tmp 73] VT.sl40 rfl rfl rfl (Zp2 e73 Zq2) (ew_fit e (nrmI e.args (γ 0).1)) ⟨⟨_, rfl, rfl⟩, rfl⟩))))), trivial⟩) ?_
    refine Zp (Zw2 (fun y => xLeaf (nrmX 2 (List.zipWith ewV (b.term.to.take j) es ++ [ewV e (nrmI e.args y.1)]) y.2))) (Zo2 1 rfl (fun γ => Zw 2 8 rfl (fun _ h66 => Zw 10 0 rfl (fun _ h74 => Ze (Zx2 h74 (fun e74 => Zn rfl (V_appendOT (o := o) ([rOwn 3 1 (nrmI e.args (γ 0).1), .cells g10 48 [.int e.block, intsX e.args], .cells g6 44 [rL 1 P, xLeaf I, .int b.term.kind, .int b.term.arg, .int b.term.n, intsX b.term.cases, xLeaf o], rOwn 3 1 P, .cells g5 44 [intsX b.params, inssX b.ins, .int b.term.kind, .int b.term.arg, .int b.term.n, intsX b.term.cases, edgesX b.term.to], .cells g3 37 [.int f.name, xLeaf out], .cells g2 37 VT.zs37, .cells g1 37 [.int f.name, blocksX f.blocks]] ++ (rOwns es ++ (xOwn 46 I ++ (rOwns ar ++ (xOwn 44 out ++ wOwn B))))) (fun o' => rOwn 3 1 (nrmI e.args (γ 0).1) :: .cells g10 48 [.int e.block, intsX e.args] :: .cells g6 44 [rL 1 P, xLeaf I, .int b.term.kind, .int b.term.arg, .int b.term.n, intsX b.term.cases, xLeaf o] :: rOwn 3 1 P :: .cells g5 44 [intsX b.params, inssX b.ins, .int b.term.kind, .int b.term.arg, .int b.term.n, intsX b.term.cases, edgesX b.term.to] :: .cells g3 37 [.int f.name, xLeaf out] :: .cells g2 37 VT.zs37 :: .cells g1 37 [.int f.name, blocksX f.blocks] :: (xOwn 48 o' ++ (rOwns es ++ (xOwn 46 I ++ (rOwns ar ++ (xOwn 44 out ++ wOwn B)))))) VT.sl40 (by decide) h66 e74 (pullC [rOwn 3 1 (nrmI e.args (γ 0).1), .cells g10 48 [.int e.block, intsX e.args], .cells g6 44 [rL 1 P, xLeaf I, .int b.term.kind, .int b.term.arg, .int b.term.n, intsX b.term.cases, xLeaf o], rOwn 3 1 P, .cells g5 44 [intsX b.params, inssX b.ins, .int b.term.kind, .int b.term.arg, .int b.term.n, intsX b.term.cases, edgesX b.term.to], .cells g3 37 [.int f.name, xLeaf out], .cells g2 37 VT.zs37, .cells g1 37 [.int f.name, blocksX f.blocks]]) (fun o' => (pullC [rOwn 3 1 (nrmI e.args (γ 0).1), .cells g10 48 [.int e.block, intsX e.args], .cells g6 44 [rL 1 P, xLeaf I, .int b.term.kind, .int b.term.arg, .int b.term.n, intsX b.term.cases, xLeaf o], rOwn 3 1 P, .cells g5 44 [intsX b.params, inssX b.ins, .int b.term.kind, .int b.term.arg, .int b.term.n, intsX b.term.cases, edgesX b.term.to], .cells g3 37 [.int f.name, xLeaf out], .cells g2 37 VT.zs37, .cells g1 37 [.int f.name, blocksX f.blocks]]).symm) hoo (fun x hx => zip_len ew_2 _ _ x (by rw [← hxo]; exact hx)) (fun _ => List.cons_ne_nil _ _) (by rw [hxl, List.length_singleton]; omega) (ew_flat e (nrmI e.args (γ 0).1)) (fun o75 e75_1 e75_2 e75_3 => ⟨((γ 0).1, o75), ⟨_, rfl, (by show some (xLeaf o75) = some (xLeaf (nrmX 2 (List.zipWith ewV (b.term.to.take j) es ++ [ewV e (nrmI e.args (γ 0).1)]) o75)); rw [nrmX_eq (e75_1.trans (congrArg (· ++ [_]) hxo)) e75_2])⟩, (by show _ = (rOwn 3 1 (nrmI e.args (γ 0).1) :: Own.cells g10 48 [.int e.block, intsX e.args] :: Own.cells g6 44 [rL 1 P, xLeaf I, .int b.term.kind, .int b.term.arg, .int b.term.n, intsX b.term.cases, xLeaf o] :: rOwn 3 1 P :: Own.cells g5 44 [intsX b.params, inssX b.ins, .int b.term.kind, .int b.term.arg, .int b.term.n, intsX b.term.cases, edgesX b.term.to] :: Own.cells g3 37 [.int f.name, xLeaf out] :: Own.cells g2 37 VT.zs37 :: Own.cells g1 37 [.int f.name, blocksX f.blocks] :: (xOwn 48 (nrmX 2 (List.zipWith ewV (b.term.to.take j) es ++ [ewV e (nrmI e.args (γ 0).1)]) o75) ++ (rOwns es ++ (xOwn 46 I ++ (rOwns ar ++ (xOwn 44 out ++ wOwn B))))) : Store); rw [show nrmX 2 (List.zipWith ewV (b.term.to.take j) es ++ [ewV e (nrmI e.args (γ 0).1)]) o75 = o75 from nrmX_eq (e75_1.trans (congrArg (· ++ [_]) hxo)) e75_2])⟩)))))))) ?_
    refine Zp (Zm _) (Zo rfl rfl ⟨(fun γ => Zf (fun _ h6 => Ze (Zn rfl (Zj VT.fa44_2 h6 ⟨rfl, rfl⟩)))), trivial⟩) ?_
    refine Zp (Zm _) (Zo rfl rfl ⟨(fun γ => Zw 12 0 rfl (fun _ h76 => Ze (Zn rfl (Zj VT.fa42_4 h76 ⟨rfl, rfl⟩)))), trivial⟩) ?_
    refine Zp Za3 (Zo2 2 rfl (fun γ => Zw 13 0 rfl (fun _ h77 => Zw 11 2 rfl (fun _ h75 => Ze (Zx2 h75 (fun e75 => Zn rfl (Zy 2 VT.ty40 h77 e75 (xLeaf_leaf _) rfl rfl ⟨default, trivial, rfl⟩))))))) ?_
    refine DrawP_nil (fun γ => Ze ?_)
    refine Zb1 (Zi ?_)
    have hR2 : RowIs e.args (nrmI e.args (γ 1).1) := nrmI_ok hea _
    have hO2 : xl (nrmX 2 (List.zipWith ewV (b.term.to.take j) es ++ [ewV e (nrmI e.args (γ 1).1)]) (γ 1).2) = (List.zipWith ewV (b.term.to.take j) es ++ [ewV e (nrmI e.args (γ 1).1)]) ∧ xOk 2 (nrmX 2 (List.zipWith ewV (b.term.to.take j) es ++ [ewV e (nrmI e.args (γ 1).1)]) (γ 1).2) := nrmX_ok (fun v hv => by rcases List.mem_append.1 hv with h | h; exact zip_len ew_2 _ _ v h; rw [List.mem_singleton.1 h]; exact ew_2 _ _) (by rw [List.length_append, all2_len ewV hEr, List.length_take, List.length_singleton]; simp only [maxLen]; omega) _
    refine VW_drops (S' := .cells g6 44 [rL 1 P, xLeaf I, .int b.term.kind, .int b.term.arg, .int b.term.n, intsX b.term.cases, xLeaf (nrmX 2 (List.zipWith ewV (b.term.to.take j) es ++ [ewV e (nrmI e.args (γ 1).1)]) (γ 1).2)] :: rOwn 3 1 P :: .cells g5 44 [intsX b.params, inssX b.ins, .int b.term.kind, .int b.term.arg, .int b.term.n, intsX b.term.cases, edgesX b.term.to] :: .cells g3 37 [.int f.name, xLeaf out] :: .cells g2 37 VT.zs37 :: .cells g1 37 [.int f.name, blocksX f.blocks] :: (xOwn 48 (nrmX 2 (List.zipWith ewV (b.term.to.take j) es ++ [ewV e (nrmI e.args (γ 1).1)]) (γ 1).2) ++ (rOwns (es ++ [(nrmI e.args (γ 1).1)]) ++ (xOwn 46 I ++ (rOwns ar ++ (xOwn 44 out ++ wOwn B)))))) ?_ ?_
    · rw [show rOwns (es ++ [(nrmI e.args (γ 1).1)]) = rOwns es ++ [rOwn 3 1 (nrmI e.args (γ 1).1)] from List.map_append]; exact drops_in (L := [_, _, _, _, _, _]) (C := xOwn 48 (nrmX 2 (List.zipWith ewV (b.term.to.take j) es ++ [ewV e (nrmI e.args (γ 1).1)]) (γ 1).2)) (D := rOwns es)
    generalize (nrmX 2 (List.zipWith ewV (b.term.to.take j) es ++ [ewV e (nrmI e.args (γ 1).1)]) (γ 1).2) = o2 at hO2 ⊢
    generalize (nrmI e.args (γ 1).1) = r2 at hR2 hO2 ⊢
    refine Zd ?_
    refine Zc (Zh2 rfl rfl (by omega) ?_)
    refine Zc (Zl rfl (Za (Zi ?_)))
    exact ⟨(j + 1, o2, es ++ [r2]), (by (try simp only []); omega), ⟨by omega, all2_snoc hEr he hR2, hO2.1.trans (all2_zip ewV r2 hEr he), hO2.2⟩, ⟨rfl, rfl, rfl, rfl, rfl, rfl, rfl, rfl, rfl, rfl, rfl, trivial⟩, (Drops.keep (Drops.keep (Drops.keep (Drops.keep (Drops.keep (Drops.keep (Zt2 _)))))))⟩
   ·
    have hje : j = b.term.to.length := by omega
    subst hje
    rw [List.take_length] at hEr hxo
    have hW : WOk ⟨b, P, ar, I, es, o⟩ := ⟨hP, hIr, hIx, hIk, hEr, hxo, hoo⟩
    refine Zt (Ze1 (Ze1 (Zc1 (Zi ?_))))
    refine VW_perm (S' := .cells g6 44 [rL 1 P, xLeaf I, .int b.term.kind, .int b.term.arg, .int b.term.n, intsX b.term.cases, xLeaf o] :: rOwn 3 1 P :: .cells g5 44 [intsX b.params, inssX b.ins, .int b.term.kind, .int b.term.arg, .int b.term.n, intsX b.term.cases, edgesX b.term.to] :: .cells g3 37 [.int f.name, xLeaf out] :: .cells g2 37 VT.zs37 :: .cells g1 37 [.int f.name, blocksX f.blocks] :: ((wTail (⟨b, P, ar, I, es, o⟩ : WB)) ++ (xOwn 44 out ++ wOwn B))) (perm_w.append_left [_, _, _, _, _, _]) ?_
    refine Zd (Zc (Zj VT.fa37_1 rfl (Zc (Zu 3 VT.ty35 rfl rfl rfl (Zc (Zv 0 VT.ty44 rfl rfl rfl ?_))))))
    refine Zc (Zk3 [.tmp 81] VT.sl35 rfl rfl rfl rfl (wb_fit ⟨b, P, ar, I, es, o⟩) ?_)
    refine Zc (V_appendOT (o := out) ([.cells g6 44 [rL 1 P, xLeaf I, .int b.term.kind, .int b.term.arg, .int b.term.n, intsX b.term.cases, xLeaf o], rOwn 3 1 P, .cells g5 44 [intsX b.params, inssX b.ins, .int b.term.kind, .int b.term.arg, .int b.term.n, intsX b.term.cases, edgesX b.term.to], .cells g3 37 [.int f.name, xLeaf out], .cells g2 37 VT.zs37, .cells g1 37 [.int f.name, blocksX f.blocks]] ++ ((wTail (⟨b, P, ar, I, es, o⟩ : WB)) ++ wOwn B)) (fun o' => .cells g6 44 [rL 1 P, xLeaf I, .int b.term.kind, .int b.term.arg, .int b.term.n, intsX b.term.cases, xLeaf o] :: rOwn 3 1 P :: .cells g5 44 [intsX b.params, inssX b.ins, .int b.term.kind, .int b.term.arg, .int b.term.n, intsX b.term.cases, edgesX b.term.to] :: .cells g3 37 [.int f.name, xLeaf out] :: .cells g2 37 VT.zs37 :: .cells g1 37 [.int f.name, blocksX f.blocks] :: (xOwn 44 o' ++ ((wTail (⟨b, P, ar, I, es, o⟩ : WB)) ++ wOwn B))) VT.sl35 (by decide) rfl rfl (pullC ([.cells g6 44 [rL 1 P, xLeaf I, .int b.term.kind, .int b.term.arg, .int b.term.n, intsX b.term.cases, xLeaf o], rOwn 3 1 P, .cells g5 44 [intsX b.params, inssX b.ins, .int b.term.kind, .int b.term.arg, .int b.term.n, intsX b.term.cases, edgesX b.term.to], .cells g3 37 [.int f.name, xLeaf out], .cells g2 37 VT.zs37, .cells g1 37 [.int f.name, blocksX f.blocks]] ++ (wTail (⟨b, P, ar, I, es, o⟩ : WB)))) (fun o' => (pullC [.cells g6 44 [rL 1 P, xLeaf I, .int b.term.kind, .int b.term.arg, .int b.term.n, intsX b.term.cases, xLeaf o], rOwn 3 1 P, .cells g5 44 [intsX b.params, inssX b.ins, .int b.term.kind, .int b.term.arg, .int b.term.n, intsX b.term.cases, edgesX b.term.to], .cells g3 37 [.int f.name, xLeaf out], .cells g2 37 VT.zs37, .cells g1 37 [.int f.name, blocksX f.blocks]]).symm) huo (fun x hx => wbs_7 B x (by rw [← hxu]; exact hx)) (fun _ => List.cons_ne_nil _ _) (by rw [hxu, List.length_map, hkl, List.length_singleton]; omega) (wb_flat ⟨b, P, ar, I, es, o⟩) (fun o83 e83_1 e83_2 e83_3 => ?_))
    refine Zc (Zj VT.fa37_1 rfl ?_)
    refine Zc (Zy 3 VT.ty35 rfl rfl (xLeaf_leaf _) rfl rfl ?_)
    refine Za (Zb1 (Zi ?_))
    refine VW_drops (S' := .cells g3 37 [.int f.name, xLeaf o83] :: .cells g2 37 VT.zs37 :: .cells g1 37 [.int f.name, blocksX f.blocks] :: (xOwn 44 o83 ++ wOwn (B ++ [⟨b, P, ar, I, es, o⟩]))) (by exact wown_snoc (L := [_, _, _]) (C := xOwn 44 o83) (B := B) (s := ⟨b, P, ar, I, es, o⟩)) ?_
    refine Zd ?_
    refine Zc (Zh2 rfl rfl (by omega) ?_)
    refine Zc (Zl rfl (Za (Zi ?_)))
    exact ⟨(k + 1, o83, B ++ [⟨b, P, ar, I, es, o⟩]), (by (try simp only []); omega), ⟨by omega, wbs_snoc hR hb, wok_snoc hLo hW, e83_1.trans (by rw [hxu, List.map_append]; rfl), e83_2⟩, ⟨rfl, rfl, rfl, rfl, rfl, rfl, trivial⟩, (Drops.keep (Drops.keep (Drops.keep (Zt2 _))))⟩
 ·
  have hke : k = f.blocks.length := by omega
  subst hke
  rw [List.take_length] at hR
  have hkl : B.length = f.blocks.length := by rw [← hR]; exact (List.length_map _).symm
  refine Zt (Ze1 (Ze1 (Zc1 (Zi ?_))))
  obtain ⟨r, rfl⟩ : ∃ r, out = some r := by cases out with
   | none =>
    have h9 := congrArg List.length hxu
    rw [List.length_map] at h9
    change 0 = _ at h9
    omega
   | some r => exact ⟨r, rfl⟩
  refine Zb (Zd (Zc (Zv 0 VT.ty37 rfl rfl rfl (Zc (Zx 1 VT.ty37 rfl rfl rfl rfl rfl (Za (Zi (Zf1 ?_))))))))
  refine Zg1 rfl (.agg (i := 1) VT.ty37 rfl rfl rfl) ?_
  exact ⟨_, .drop (.drop (.drop (.refl _))), ⟨f, r, B⟩, ⟨rfl, hR, hLo, hxu, huo⟩, rfl, rfl⟩
theorem all2_map {α β : Type} {R : α → β → Prop} (g : α → β) {l : List α} (h : ∀ x ∈ l, R x (g x)) : All2 R l (l.map g) := ⟨List.length_map .., fun k x y hx hy => by
  rw [List.getElem?_map, hx] at hy
  injection hy with hy
  subst hy
  exact h x (List.mem_of_getElem? hx)⟩
def dfR (l : List Int) : Option XRow := some ⟨0, l.length, l.map V.int, []⟩
theorem dfR_is {l : List Int} (h : l.length ≤ 10000) : RowIs l (dfR l) := ⟨rfl, by show (l.map V.int).length ≤ l.length; rw [List.length_map]; exact Nat.le_refl _, by show l.length ≤ maxLen; simp only [maxLen]; omega, by show ((l.map V.int).flatMap V.leaves ++ []).length = l.length * 1; rw [List.append_nil, flat_len (ints_1 l), List.length_map]⟩
def dfB (b : SBlock) : WB := ⟨b, dfR b.params, b.ins.map fun i => dfR i.args, some ⟨0, b.ins.length, List.zipWith iwV b.ins (b.ins.map fun i => dfR i.args), []⟩, b.term.to.map fun e => dfR e.args, some ⟨0, b.term.to.length, List.zipWith ewV b.term.to (b.term.to.map fun e => dfR e.args), []⟩⟩
theorem dfB_ok {b : SBlock} (h1 : b.params.length ≤ 10000) (h2 : b.ins.length ≤ 10000) (h3 : b.term.to.length ≤ 10000) (h4 : ∀ i ∈ b.ins, i.args.length ≤ 10000) (h5 : ∀ e ∈ b.term.to, e.args.length ≤ 10000) : WOk (dfB b) := by
  have a1 : InsRows b.ins (b.ins.map fun i => dfR i.args) := all2_map _ fun i hi => dfR_is (h4 i hi)
  have a2 : EdgeRows b.term.to (b.term.to.map fun e => dfR e.args) := all2_map _ fun e he => dfR_is (h5 e he)
  refine ⟨dfR_is h1, a1, rfl, ⟨?_, ?_, ?_⟩, a2, rfl, ⟨?_, ?_, ?_⟩⟩
  · show (List.zipWith iwV b.ins _).length ≤ b.ins.length
    rw [all2_len iwV a1]; exact Nat.le_refl _
  · show b.ins.length ≤ maxLen
    simp only [maxLen]; omega
  · show ((List.zipWith iwV b.ins _).flatMap V.leaves ++ []).length = b.ins.length * 4
    rw [List.append_nil, flat_len (zip_len iw_4 _ _), all2_len iwV a1]
  · show (List.zipWith ewV b.term.to _).length ≤ b.term.to.length
    rw [all2_len ewV a2]; exact Nat.le_refl _
  · show b.term.to.length ≤ maxLen
    simp only [maxLen]; omega
  · show ((List.zipWith ewV b.term.to _).flatMap V.leaves ++ []).length = b.term.to.length * 2
    rw [List.append_nil, flat_len (zip_len ew_2 _ _), all2_len ewV a2]
def dfF (f : SFunc) : FB := ⟨f, ⟨0, f.blocks.length, (f.blocks.map dfB).map wbV, []⟩, f.blocks.map dfB⟩
theorem dfF_ok {f : SFunc} (hc : CpOk f) : FOk f (dfF f) := by
  have hm := hc.many
  refine ⟨rfl, ?_, fun x hx => ?_, rfl, ?_, ?_, ?_⟩
  · show (f.blocks.map dfB).map (·.b) = f.blocks
    rw [List.map_map]
    exact List.map_id _
  · obtain ⟨b, hb, rfl⟩ := List.mem_map.1 hx
    obtain ⟨c1, c2, c3, c4, c5, c6⟩ := hc.block b hb
    exact dfB_ok c1 c2 c4 c5 c6
  · show ((f.blocks.map dfB).map wbV).length ≤ f.blocks.length
    rw [List.length_map, List.length_map]; exact Nat.le_refl _
  · show f.blocks.length ≤ maxLen
    simp only [maxLen]; omega
  · show (((f.blocks.map dfB).map wbV).flatMap V.leaves ++ []).length = f.blocks.length * 7
    rw [List.append_nil, flat_len (wbs_7 _), List.length_map, List.length_map]
instance : Inhabited XRow := ⟨⟨0, 0, [], []⟩⟩
instance : Inhabited FB := ⟨⟨default, default, []⟩⟩
open Classical in
noncomputable def nrmF (f : SFunc) (s : FB) : FB := if FOk f s then s else dfF f
theorem nrmF_eq {f : SFunc} {s : FB} (h : FOk f s) : nrmF f s = s := if_pos h
theorem nrmF_ok {f : SFunc} (hc : CpOk f) (s : FB) : FOk f (nrmF f s) := by
  unfold nrmF
  split
  · assumption
  · exact dfF_ok hc
abbrev fOwn (Fs : List FB) : Store := Fs.flatMap fbOwn
theorem fown_snoc (Fs : List FB) (s : FB) : fOwn (Fs ++ [s]) = fOwn Fs ++ fbOwn s := by
  unfold fOwn
  rw [List.flatMap_append, List.flatMap_singleton]
theorem fbl_len {fs : List SFunc} {Fs : List FB} (h : All2 FOk fs Fs) : (Fs.map fbV).length = fs.length := by
  rw [List.length_map]
  exact h.1
set_option maxRecDepth 100000 in
set_option maxHeartbeats 16000000 in
theorem CopyUnitW_c {u : SUnit} (hc : ∀ f ∈ u.fns, CpOk f ∧ 0 < f.blocks.length) (hl : u.fns.length ≤ 256) : VCalls Try.prog 8 [unitV u] [] fun r S' => ∃ Fs, All2 FOk u.fns Fs ∧ r = .agg [.sl 2 none (Fs.map fbV), .int u.main] ∧ S' = fOwn Fs := by
 refine VCalls_drops ?_
 refine V_start (nt := 25) Try.func8 rfl rfl rfl ?_
 refine Zb (Zd ?_)
 refine Zc (Zc2 rfl rfl (fun g1 => ?_))
 refine Zc (Zb2 VT.zr24 _ rfl rfl (fun g2 => ?_))
 refine Za (Zi (Zb (Zd (Zc (Zj VT.fa24_1 rfl (Zc (Zu 1 VT.ty3 rfl rfl rfl ?_)))))))
 refine Zc (Zf2 [1] [.tmp 7] VT.st24 rfl rfl rfl rfl ?_)
 refine Zc (Zb2 VT.zr24 _ rfl rfl (fun g3 => ?_))
 refine Zc (Zx 0 VT.ty24 rfl rfl rfl rfl rfl (Za (Zi ?_)))
 refine VW_cells 0 (ls' := [.sl 2 (some .nil) [], .int u.main]) rfl ⟨V.le.nilTok 2, rfl, V.le.refl _, rfl, trivial⟩ ?_
 refine VW_nilBuf 37 2 ?_
 refine Zb (Zb (Zd (Zc (Zj VT.fa24_0 rfl (Zc (Zu 3 VT.ty22 rfl rfl rfl ?_))))))
 refine Zc (Zd2 (n := u.fns.length) Try.underlying22 rfl (by simp) (fun hl11 => ?_))
 refine Zc (Zl rfl (Za (Zi (Zs ?_))))
 refine Zi2 (ι := Nat × Tok × List FB) (fun (k, tok, Fs) => u.fns.length - k) (fun (k, tok, Fs) => [(1, some (.ptr g1 0)), (2, some (.ptr g2 0)), (3, some (.ptr g3 0)), (10, some (funcsX u.fns)), (11, some (.int u.fns.length)), (12, some (.int k))]) (fun (k, tok, Fs) => .buf tok 37 2 k :: .cells g3 24 [.sl 2 (some tok) (Fs.map fbV), .int u.main] :: .cells g2 24 VT.zs24 :: .cells g1 24 [funcsX u.fns, .int u.main] :: fOwn Fs) (fun (k, tok, Fs) => k ≤ u.fns.length ∧ All2 FOk (u.fns.take k) Fs) (0, .nil, []) ⟨Nat.zero_le _, all2_nil _⟩ ⟨rfl, rfl, rfl, rfl, rfl, rfl, trivial⟩ (Zt2 _) ?_
 rintro ⟨k, tok, Fs⟩ hA
 change k ≤ u.fns.length ∧ All2 FOk (u.fns.take k) Fs at hA
 obtain ⟨hk, hR⟩ := hA
 refine Zb (Zd (Zc (Zj1 rfl rfl rfl (Za (Zi (Zb ?_))))))
 refine Zn1 rfl (fun h13 => ?_) (fun h13 => ?_)
 ·
  obtain ⟨f, hf⟩ := get_of_lt u.fns k h13
  have hcf := hc f (List.mem_of_getElem? hf)
  have hkl : (Fs.map fbV).length = k := by rw [fbl_len hR, List.length_take]; omega
  refine Zi1 (Zi (Zb (Zs (Zb (Zd ?_)))))
  refine Zc (Zz (el := funcV f) VT.sl22 rfl rfl (by omega) (get_mapS _ hf) (fun a14 => ?_))
  refine Zc (Za2 VT.ty37 rfl rfl ?_)
  refine Zc (Zb2 VT.zr37 _ rfl rfl (fun g5 => ?_))
  refine Zc (Zx 0 VT.ty37 rfl rfl rfl rfl rfl (Za (Zi ?_)))
  refine VW_drawR (G := (FB × Tok)) [([], [3], []), ([0], [16], []), ([], [5], []), ([2], [18], [0]), ([3, 2], [19], [0]), (dn 5, [17, 20], [1]), (dn 6, [3], []), (dn 7, [22, 21], [])] [3, 5, 7] (fourSt (.cells g5 37 [.int f.name, blocksX f.blocks] :: .buf tok 37 2 k :: .cells g3 24 [.sl 2 (some tok) (Fs.map fbV), .int u.main] :: .cells g2 24 VT.zs24 :: .cells g1 24 [funcsX u.fns, .int u.main] :: (fOwn Fs)) (fun x => .cells g5 37 [.int f.name, blocksX f.blocks] :: .buf tok 37 2 k :: .cells g3 24 [.sl 2 (some tok) (Fs.map fbV), .int u.main] :: .cells g2 24 VT.zs24 :: .cells g1 24 [funcsX u.fns, .int u.main] :: (fOwn Fs ++ fbOwn (nrmF f x.1))) (fun x y => .cells g5 37 [.int f.name, blocksX f.blocks] :: .buf y.2 37 2 (Fs.map fbV ++ [fbV (nrmF f y.1)]).length :: .cells g3 24 [.sl 2 (some tok) (Fs.map fbV), .int u.main] :: .cells g2 24 VT.zs24 :: .cells g1 24 [funcsX u.fns, .int u.main] :: (fOwn Fs ++ fbOwn (nrmF f y.1))) (fun x y _ => .cells g5 37 [.int f.name, blocksX f.blocks] :: .buf y.2 37 2 (Fs.map fbV ++ [fbV (nrmF f y.1)]).length :: .cells g3 24 [.sl 2 (some y.2) (Fs.map fbV ++ [fbV (nrmF f y.1)]), .int u.main] :: .cells g2 24 VT.zs24 :: .cells g1 24 [funcsX u.fns, .int u.main] :: (fOwn Fs ++ fbOwn (nrmF f y.1)))) [] [16, 17, 18, 19, 20, 21, 22] rfl VT.mix ?_
  refine Zp (Zm _) (Zm2 rfl (fun _ => (fun γ => Zf (fun _ h3 => Ze (Zn rfl (Zj VT.fa24_0 h3 ⟨rfl, rfl⟩)))))) ?_
  refine Zp (Zm _) (Zo rfl rfl ⟨(fun γ => Zw 0 0 rfl (fun _ h16 => Ze (Zn rfl (Zu 2 VT.ty22 h16 rfl rfl ⟨rfl, rfl⟩)))), (fun γ => Zw 0 0 rfl (fun _ h16 => Ze (Zn rfl (Zu 2 VT.ty22 h16 rfl rfl ⟨rfl, rfl⟩)))), trivial⟩) ?_
  refine Zp (Zm _) (Zo rfl rfl ⟨(fun γ => Zf (fun _ h5 => Ze (Zn rfl (Zv 0 VT.ty37 h5 rfl rfl ⟨rfl, rfl⟩)))), trivial⟩) ?_
  refine Zp (Zw2 (fun x => fbV (nrmF f x.1))) (Zo2 0 rfl (fun γ => Zw 2 0 rfl (fun _ h18 => Ze (Zn rfl (V_callG [.tmp 18] [] _ rfl (Zp2 h18 Zq2) VT.en18 (.refl _) (CopyFuncW_c hcf.1 hcf.2) (fun r Sa ⟨o, hr, e1, e2⟩ => ⟨_, Drops.of_perm List.perm_append_comm, (o, Tok.nil), ⟨_, rfl, (by rw [e1]; show some (fbV o) = some (fbV (nrmF f o)); rw [nrmF_eq hr])⟩, (by rw [e2]; show _ = (Own.cells g5 37 [.int f.name, blocksX f.blocks] :: Own.buf tok 37 2 k :: Own.cells g3 24 [.sl 2 (some tok) (Fs.map fbV), .int u.main] :: Own.cells g2 24 VT.zs24 :: Own.cells g1 24 [funcsX u.fns, .int u.main] :: (fOwn Fs ++ fbOwn (nrmF f (o, Tok.nil).1)) : Store); rw [nrmF_eq hr]; rfl)⟩)))))) ?_
  refine Zp (Zw2 (fun x => .sl 2 none [fbV (nrmF f x.1)])) (Zo rfl rfl ⟨(fun γ => Zw 3 0 rfl (fun _ h19 => Ze (Zx2 h19 (fun e19 => Zn rfl (Zk3 [.tmp 19] VT.sl22 rfl rfl rfl (Zp2 e19 Zq2) rfl ⟨⟨_, rfl, rfl⟩, rfl⟩))))), trivial⟩) ?_
  refine Zp (Zw2 (fun y => .sl 2 (some y.2) (Fs.map fbV ++ [fbV (nrmF f y.1)]))) (Zo2 1 rfl (fun γ => Zw 1 3 rfl (fun _ h17 => Zw 4 0 rfl (fun _ h20 => Ze (Zx2 h20 (fun e20 => Zn rfl (Zi3 1 _ VT.sl22 h17 e20 rfl hkl.symm (by rw [hkl, List.length_singleton]; omega) (fun t21 => ⟨((γ 0).1, t21), ⟨_, rfl, rfl⟩, rfl⟩)))))))) ?_
  refine Zp (Zm _) (Zo rfl rfl ⟨(fun γ => Zf (fun _ h3 => Ze (Zn rfl (Zj VT.fa24_0 h3 ⟨rfl, rfl⟩)))), trivial⟩) ?_
  refine Zp Za3 (Zo2 2 rfl (fun γ => Zw 6 0 rfl (fun _ h22 => Zw 5 1 rfl (fun _ h21 => Ze (Zx2 h21 (fun e21 => Zn rfl (Zy 2 VT.ty22 h22 e21 rfl rfl rfl ⟨(default, Tok.nil), trivial, rfl⟩))))))) ?_
  refine DrawP_nil (fun γ => Ze ?_)
  refine Zb1 (Zi ?_)
  have hn := nrmF_ok hcf.1 (γ 1).1
  refine VW_drops (S' := .buf (γ 1).2 37 2 (k + 1) :: .cells g3 24 [.sl 2 (some (γ 1).2) ((Fs ++ [(nrmF f (γ 1).1)]).map fbV), .int u.main] :: .cells g2 24 VT.zs24 :: .cells g1 24 [funcsX u.fns, .int u.main] :: (fOwn (Fs ++ [(nrmF f (γ 1).1)]))) (.drop ?_) ?_
  · rw [fown_snoc, List.map_append]; exact Drops.buf (by rw [List.length_append, hkl]; rfl) (.refl _)
  refine Zd ?_
  refine Zc (Zh2 rfl rfl (by omega) ?_)
  refine Zc (Zl rfl (Za (Zi ?_)))
  exact ⟨(k + 1, (γ 1).2, Fs ++ [(nrmF f (γ 1).1)]), (by (try simp only []); omega), ⟨by omega, all2_snoc hR hf hn⟩, ⟨rfl, rfl, rfl, rfl, rfl, rfl, trivial⟩, (Drops.buf (by simp) (Drops.keep (Drops.keep (Drops.keep (Zt2 _)))))⟩
 ·
  have hke : k = u.fns.length := by omega
  subst hke
  rw [List.take_length] at hR
  have hst : V.le (.sl 2 (some tok) (Fs.map fbV)) (.sl 2 none (Fs.map fbV)) := V.le.strip
  refine Zt (Ze1 (Ze1 (Zc1 (Zi ?_))))
  refine VW_cells 1 (ls' := [.sl 2 none (Fs.map fbV), .int u.main]) rfl ⟨hst, rfl, V.le.refl _, rfl, trivial⟩ ?_
  refine Zb (Zd (Zc (Zv 1 VT.ty24 rfl rfl rfl (Zc (Zx 2 VT.ty24 rfl rfl rfl rfl rfl (Za (Zi (Zf1 ?_))))))))
  refine Zg1 rfl (.agg (i := 2) VT.ty24 rfl rfl rfl) ?_
  exact ⟨_, .drop (.drop (.drop (.drop (.refl _)))), Fs, hR, rfl, rfl⟩
end Go.Proofs.Ytmmmgamhffbkbaa.X42
