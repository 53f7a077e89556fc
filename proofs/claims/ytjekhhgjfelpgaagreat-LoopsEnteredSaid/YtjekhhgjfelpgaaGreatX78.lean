import Derived.Test.YtjekhhgjfelpgaaGreatX36
import Derived.Test.YtjekhhgjfelpgaaGreatX77
set_option linter.all false
open List renaming getElem?_eq_some_iff → Ya, getElem?_map → Yb, length_set → Yc, length_map → Yd, mem_of_getElem? → Ye, map_append → Yf, append_assoc → Yg, length_append → Yh, getElem?_zip_eq_some → Yi
namespace Go.Proofs.YtjekhhgjfelpgaaGreat.X78
open Go.VL Go.SM Go.Proofs.YtjekhhgjfelpgaaGreat XS X1 X2 X3 X4 X5 X6 X7 X8 X9 X10 X12 X13 X14 X20 X22 X23 X25 X26 X36 X77
theorem Find_0 {f : SFunc} (h0 : funcF f = 0) : VCalls Tryz.prog 10 [funcV f] [] fun r S' => S' = [] ∧ ∃ L3, LInv (findF f) L3 ∧ r = .tup [.sl 3 none (L3.map lpV), .int 0] := (Find_c f).mono fun r S' ⟨h1, h2⟩ => ⟨h1, h2.elim (fun h => h.2) fun h => absurd h0 h.1⟩
theorem Find_e {f : SFunc} (h0 : funcF f ≠ 0) : VPure Tryz.prog 10 [funcV f] (.tup [.sl 3 none [], .int (funcF f)]) := (Find_c f).mono fun r S' ⟨h1, h2⟩ => h2.elim (fun h => absurd h.1 h0) fun h => h.2
theorem some_of {α : Type} {o : Option α} (h : o ≠ none) : ∃ r, o = some r := by
  cases o with
  | none => exact absurd rfl h
  | some r => exact ⟨r, rfl⟩
theorem cat_7 {bs : List SBlock} {rows : List (Option XRow)} {Z : List SBlock} {xs : List V} (h : xs = cpL bs rows ++ Z.map blockV) : ∀ x ∈ xs, x.leaves.length = 7 := fun x hx => by
  rw [h] at hx
  rcases List.mem_append.1 hx with hx | hx
  · exact cpL_7 rfl x hx
  · obtain ⟨y, _, rfl⟩ := List.mem_map.1 hx
    rfl
theorem cat_get {bs : List SBlock} {rows : List (Option XRow)} {Z : List SBlock} {xs : List V} {k : Nat} {b : SBlock} {o o2 : Option XRow} (h : xs = cpL bs rows ++ Z.map blockV) (hb : bs[k]? = some b) (ho : rows[k]? = some o) (hl : xLeaf o2 = xLeaf o) : xs[k]? = some (cpV b o2) := by
  have h1 := cpL_get hb ho
  rw [h, List.getElem?_append_left (Ya.1 h1).1, h1, cp_leaf hl]
theorem blk_leaf {xs : List V} {k : Nat} {b : SBlock} {o : Option XRow} (rest : List V) (h7 : ∀ x ∈ xs, x.leaves.length = 7) (h : xs[k]? = some (cpV b o)) : (xs.flatMap V.leaves ++ rest)[k * 7 + 2 + 4]? = some (xLeaf o) := by
  have h1 := flat_drop (rest := rest) h7 h
  have h2 : (((xs.flatMap V.leaves ++ rest).drop (k * 7)).take 7)[6]? = some (xLeaf o) := by rw [h1]; rfl
  rw [List.getElem?_take_of_lt (by omega), List.getElem?_drop] at h2
  exact h2
structure TInv (rows rows2 : List (Option XRow)) (T : List (List SEdge)) : Prop where
  len : rows2.length = rows.length
  tl : T.length = rows.length
  row : ∀ (v : Nat) (o o2 : Option XRow) (t : List SEdge), rows[v]? = some o → rows2[v]? = some o2 → T[v]? = some t → xLeaf o2 = xLeaf o ∧ xOk 2 o2 ∧ xl o2 = t.map edgeV
theorem tos_nil {f : SFunc} {v : Nat} : (tosF f [])[v]? = f.blocks[v]?.map fun b => b.term.to := by
  rw [tosF_get]
  cases f.blocks[v]? with
  | none => rfl
  | some b => exact congrArg some (List.map_id _)
theorem tinv_start {f : SFunc} {rows : List (Option XRow)} (h : RowsOk f.blocks rows) : TInv rows rows (tosF f []) := ⟨rfl, by rw [tosF_len, h.len], fun v o o2 t ho h2 ht => by
  rw [ho] at h2
  injection h2 with h2
  subst h2
  rw [tos_nil] at ht
  obtain ⟨b, hb, rfl⟩ := Option.map_eq_some_iff.1 ht
  obtain ⟨h3, h4⟩ := h.row v b o hb ho
  exact ⟨rfl, h4, h3⟩⟩
theorem tinv_step {rows rows2 : List (Option XRow)} {T : List (List SEdge)} {v m : Nat} {o2 : Option XRow} {t : List SEdge} {e : SEdge} (h : TInv rows rows2 T) (h2 : rows2[v]? = some o2) (ht : T[v]? = some t) : TInv rows (rows2.set v (setE o2 (t.set m e))) (T.set v (t.set m e)) := by
  refine ⟨by rw [Yc]; exact h.len, by rw [Yc]; exact h.tl, fun w o p s ho hp hs => ?_⟩
  rw [List.getElem?_set] at hp hs
  split at hp
  · rename_i e9
    subst e9
    rw [if_pos rfl] at hs
    split at hp
    · split at hs
      · injection hp with hp
        injection hs with hs
        subst hp hs
        obtain ⟨a1, a2, a3⟩ := h.row v o o2 t ho h2 ht
        have hl2 : (xl o2).length = (t.set m e).length := by rw [a3, Yd, Yc]
        exact ⟨(xLeaf_set hl2).trans a1, xOk_set a3 (by rw [Yc]) a2, xl_set hl2⟩
      · cases hs
    · cases hp
  · rename_i e9
    rw [if_neg e9] at hs
    exact h.row w o p s ho hp hs
theorem rows_self {rows : List (Option XRow)} {v : Nat} {o : Option XRow} {t : List SEdge} (h : rows[v]? = some o) (hx : xl o = t.map edgeV) : rows.set v (setE o t) = rows := by
  rw [setE_self hx]
  apply List.ext_getElem?
  intro i
  rw [List.getElem?_set]
  split
  · rename_i e
    subst e
    rw [if_pos (Ya.1 h).1, h]
  · rfl
theorem ecell_set {t : List SEdge} {m : Nat} {e : SEdge} (h : t[m]? = some e) (N : Int) (rest : List V) : (ecells t ++ rest).set (m * 2 + 0) (.int N) = ecells (t.set m ⟨N, e.args⟩) ++ rest := by
  have hl := (Ya.1 h).1
  rw [Nat.add_zero, List.set_append_left _ _ (by rw [ecells_len]; omega), ecells_set h]
theorem eown_pull {rows : List (Option XRow)} {v : Nat} {q : XRow} {t : List SEdge} (hv : v < rows.length) (h : rows[v]? = some (some q)) (hx : xl (some q) = t.map edgeV) : (eOwn rows).Perm (.cells q.g 79 (ecells t ++ q.rest) :: eOwn (rows.set v none)) := by
  have h1 := eown_some hv q t
  rwa [rows_self h hx] at h1
def pairsG (f : SFunc) (rows2 : List (Option XRow)) : List (SBlock × Option XRow) := (redL (preL f) f.blocks.length 0 f.blocks).zip rows2
theorem pairsG_ok {f : SFunc} {rows rows2 : List (Option XRow)} (hr : rows.length = f.blocks.length) (h : TInv rows rows2 (tosF f (preL f))) : ∀ x ∈ pairsG f rows2, xl x.2 = x.1.term.to.map edgeV ∧ xOk 2 x.2 := fun x hx => by
  obtain ⟨v, hv⟩ := List.getElem?_of_mem hx
  unfold pairsG at hv
  obtain ⟨c, o2⟩ := x
  obtain ⟨h1, h2⟩ := Yi.1 hv
  have hvl := (Ya.1 h1).1
  rw [redL_len] at hvl
  obtain ⟨o, ho⟩ := get_of_lt rows v (by omega)
  obtain ⟨a1, a2, a3⟩ := h.row v o o2 c.term.to ho h2 (by unfold tosF; rw [Yb, h1]; rfl)
  exact ⟨a3, a2⟩
theorem pairsG_cp {f : SFunc} {rows rows2 : List (Option XRow)} (hr : rows.length = f.blocks.length) (h : TInv rows rows2 (tosF f (preL f))) : (pairsG f rows2).map (fun x => cpV x.1 x.2) = cpL f.blocks rows := by
  unfold pairsG cpL
  apply List.ext_getElem?
  intro v
  rw [Yb, List.getElem?_zipWith]
  by_cases hv : v < f.blocks.length
  · obtain ⟨b, hb⟩ := get_of_lt f.blocks v (by omega)
    obtain ⟨o, ho⟩ := get_of_lt rows v (by omega)
    obtain ⟨o2, h2⟩ := get_of_lt rows2 v (by rw [h.len]; omega)
    have hg : (redL (preL f) f.blocks.length 0 f.blocks)[v]? = some (redB (preL f) f.blocks.length v b) := by rw [redL_get, hb, Nat.zero_add]; rfl
    obtain ⟨a1, _, _⟩ := h.row v o o2 _ ho h2 (by unfold tosF; rw [Yb, hg]; rfl)
    rw [hb, ho, (Yi (z := (redB (preL f) f.blocks.length v b, o2))).2 ⟨hg, h2⟩]
    show some (cpV (redB (preL f) f.blocks.length v b) o2) = some (cpV b o)
    rw [cp_leaf a1]
    rfl
  · have e1 : ((redL (preL f) f.blocks.length 0 f.blocks).zip rows2)[v]? = none := List.getElem?_eq_none (by rw [List.length_zip, redL_len]; omega)
    have e2 : f.blocks[v]? = none := List.getElem?_eq_none (by omega)
    rw [e1, e2]
    rfl
theorem pairsG_rows {f : SFunc} {rows2 : List (Option XRow)} (h : rows2.length = f.blocks.length) : (pairsG f rows2).map (·.2) = rows2 := List.map_snd_zip (by rw [redL_len]; omega)
theorem pairsG_blocks {f : SFunc} {rows2 : List (Option XRow)} (h : rows2.length = f.blocks.length) : (pairsG f rows2).map (fun x => blockV x.1) = (redL (preL f) f.blocks.length 0 f.blocks).map blockV := by
  have : (pairsG f rows2).map (·.1) = redL (preL f) f.blocks.length 0 f.blocks := List.map_fst_zip (by rw [redL_len]; omega)
  rw [← this, List.map_map]
  rfl
theorem pre_flat {f : SFunc} (rest : List V) : [] ++ (((redL (preL f) f.blocks.length 0 f.blocks).map blockV).flatMap V.leaves ++ (((newBs f.blocks (freshF f.blocks) (preL f)).map blockV).flatMap V.leaves ++ rest)) = ((preF f).blocks.map blockV).flatMap V.leaves ++ rest := by
  unfold preF preG
  dsimp only
  rw [List.nil_append, Yf, List.flatMap_append, Yg]
def preX (f : SFunc) : V := if funcF f ≠ 0 then .tup [.agg VT.zs34, .int (funcF f)] else if 128 < ((preF f).blocks.length : Int) ∨ 4096 < frAt f.blocks (freshF f.blocks) (preL f) then .tup [.agg VT.zs34, .int 2] else .tup [funcV (preF f), .int 0]
theorem nb_flat (b : SBlock) : ∀ y ∈ [blockV b], y.flat = true := fun y hy => by
  rw [List.mem_singleton.1 hy]
  rfl
theorem skip_T {f : SFunc} {x : SM.Loop} {p : Nat × Nat} (h : outF f x = [p]) (hl : (toAt f.blocks p.1).length = 1) : skipB f x = true := by
  unfold skipB
  rw [h]
  exact decide_eq_true hl
theorem skip_is {f : SFunc} {x : SM.Loop} (h : skipB f x = true) : ∃ p, outF f x = [p] ∧ (toAt f.blocks p.1).length = 1 := by
  unfold skipB at h
  split at h
  · rename_i p e
    exact ⟨p, e, of_decide_eq_true h⟩
  · cases h
theorem find_at {f : SFunc} {L3 : List (Int × List Int × Int)} (hI : LInv (findF f) L3) {i : Nat} {y : Int × List Int × Int} (h : L3[i]? = some y) : (findF f)[i]? = some (y.1, y.2.1) := by
  rw [← hI.1, Yb, h]
  rfl
theorem fold_row {f : SFunc} {L : List SM.Loop} {x : SM.Loop} {N : Int} {j v m : Nat} (hp : (outF f x)[j]? = some (v, m)) : ∃ (b : SBlock) (t : List SEdge) (e : SEdge), f.blocks[v]? = some b ∧ (((outF f x).take j).foldl (stT N) (tosF f L))[v]? = some t ∧ t[m]? = some e := by
  obtain ⟨b, e, hb, he, _⟩ := outF_mem.1 (Ye hp)
  obtain ⟨t', g1, g2, g3⟩ := (stT_fold (N := N) ((outF f x).take j) (tosF f L)).2 v (b.term.to.map (redE L f.blocks.length v)) (by rw [tosF_get, hb]; rfl)
  exact ⟨b, t', _, hb, g1, g3 m _ (by rw [Yb, he]; rfl)⟩
set_option maxRecDepth 100000 in
set_option maxHeartbeats 32000000 in
theorem Preheaders_c (f : SFunc) : VPure Tryz.prog 9 [funcV f] (preX f) := by
 have hr := preX.eq_def f
 refine V_start (nt := 120) Tryz.func9 rfl rfl rfl ?_
 refine Zb (Zd ?_)
 refine Zc (Zc2 rfl rfl (fun g1 => ?_))
 refine Zc (Zb2 VT.zr34 _ rfl rfl (fun g2 => ?_))
 refine Zc (Zk rfl (Za (Zi (Zb (Zd (Zc (Zv 1 VT.ty34 rfl rfl rfl ?_)))))))
 by_cases h0 : funcF f = 0
 ·
  rw [if_neg (fun h => h h0)] at hr
  have hok := func_ok h0
  have h128 := hok.len
  have hfl := find_len f
  obtain ⟨hf0, hf1, _⟩ := fresh_ok hok
  have hcp := (cp_ok h0).block
  refine Zc (Zm3 [.tmp 15] [] _ rfl rfl VT.en10 (.refl _) (Find_0 h0) ?_)
  rintro _ _ ⟨rfl, L3, hI, rfl⟩
  refine Zc (Zl rfl (Zc (Zg2 rfl rfl (Zc (Zg2 rfl rfl (Zc (Zk rfl (Zc (Zk rfl (Za (Zi (Zb (Zb (Zd (Zc (Zl rfl (Zc (Zj1 rfl rfl rfl (Za (Zi ?_))))))))))))))))))))
  refine Zm1 rfl (fun h20 => ?_) (fun h20 => ?_)
  · exact absurd rfl h20
  ·
   refine Zi1 (Zi (Zb (Zd (Zc (Zv 1 VT.ty34 rfl rfl rfl ?_)))))
   refine Zc (V_callB [.tmp 23] [_, _] _ rfl rfl VT.en25 (.refl _) (CopyX_c (cp_ok h0)) ?_)
   rintro r0 Sa ⟨rows, out, hR, hxu, huo, rfl, rfl⟩
   refine Zc (Zb2 VT.zr34 _ rfl rfl (fun g6 => ?_))
   refine Zc (Zx 0 VT.ty34 rfl rfl rfl rfl rfl (Za (Zi ?_)))
   have hRl := hR.len
   obtain ⟨r, rfl⟩ : ∃ r, out = some r := by cases out with
   | none =>
    have h9 := congrArg List.length hxu
    rw [cpL_len hR] at h9
    have h8 := hok.pos
    change 0 = _ at h9
    omega
   | some r => exact ⟨r, rfl⟩
   have hxu : r.xs = cpL f.blocks rows := hxu
   refine VW_perm (S' := .cells r.g 50 (r.xs.flatMap V.leaves ++ r.rest) :: .cells g6 34 [.int f.name, xLeaf (some r)] :: .cells g2 34 VT.zs34 :: .cells g1 34 [.int f.name, blocksX f.blocks] :: (eOwn rows)) (List.perm_middle (l₁ := [_, _, _])) ?_
   refine Zb (Zd (Zc (Zv 3 VT.ty34 rfl rfl rfl ?_)))
   refine Zc (Zx1 [.tmp 25] rfl rfl VT.en26 (Fresh_c h0) ?_)
   refine Zc (Zk rfl (Za (Zi ?_)))
   have hLl := linv_len hI
   refine Zb (Zb (Zd (Zc (Zl rfl ?_))))
   refine Zc (Zd2 (n := L3.length) Tryz.underlying35 rfl (by simp) (fun hl28 => ?_))
   refine Zc (Zl rfl (Za (Zi (Zs ?_))))
   refine Zi2 (ι := Nat × List (Option XRow) × XRow) (fun (i, rows2, r) => L3.length - i) (fun (i, rows2, r) => [(1, some (.ptr g1 0)), (2, some (.ptr g2 0)), (6, some (.ptr g6 0)), (27, some (.sl 3 none (L3.map lpV))), (28, some (.int L3.length)), (29, some (.int i)), (7, some (.int (frAt f.blocks (freshF f.blocks) (preI f i))))]) (fun (i, rows2, r) => .cells r.g 50 (r.xs.flatMap V.leaves ++ r.rest) :: .cells g6 34 [.int f.name, xLeaf (some r)] :: .cells g2 34 VT.zs34 :: .cells g1 34 [.int f.name, blocksX f.blocks] :: (eOwn rows2)) (fun (i, rows2, r) => i ≤ L3.length ∧ TInv rows rows2 (tosF f (preI f i)) ∧ r.xs = cpL f.blocks rows ++ (newBs f.blocks (freshF f.blocks) (preI f i)).map blockV ∧ xOk 7 (some r)) (0, rows, r) ⟨Nat.zero_le _, tinv_start hR, by rw [hxu]; exact (List.append_nil _).symm, huo⟩ ⟨rfl, rfl, rfl, rfl, rfl, rfl, rfl, trivial⟩ (Drops.keep (Drops.keep (Drops.keep (Drops.keep (Zt2 _))))) ?_
   rintro ⟨i, rows2, r⟩ hA
   change i ≤ L3.length ∧ TInv rows rows2 (tosF f (preI f i)) ∧ r.xs = cpL f.blocks rows ++ (newBs f.blocks (freshF f.blocks) (preI f i)).map blockV ∧ xOk 7 (some r) at hA
   obtain ⟨hi, hT, hrx, hro⟩ := hA
   have hrl : r.xs.length = f.blocks.length + (preI f i).length := by rw [hrx, Yh, cpL_len hR, Yd, newBs_len]
   have hpl := preI_len (f := f) (i := i)
   have hfr0 := frAt_le f.blocks (preI f i) (freshF f.blocks)
   have hfr1 := frAt_small (fun b hb => (hcp b hb).1) (preI f i) (freshF f.blocks)
   refine Zb (Zd (Zc (Zj1 rfl rfl rfl (Za (Zi (Zb ?_))))))
   refine Zn1 rfl (fun h30 => ?_) (fun h30 => ?_)
   ·
    obtain ⟨⟨yh, yb, yp⟩, hy⟩ := get_of_lt L3 i h30
    have hx := find_at hI hy
    obtain ⟨h, hyh, _, hh1, hh2, _, _⟩ := lo_head hok (L := findF f) ⟨fun _ hx => hx, by rw [find_heads]; exact heads_nodup f⟩ hx
    dsimp only at hyh hx
    subst hyh
    obtain ⟨b2, hb2⟩ := get_of_lt f.blocks h (by omega)
    have hb2l := (hcp b2 (Ye hb2)).1
    have hpn : parN f.blocks ((h : Int), yb) = b2.params.length := parN_get (x := ((h : Int), yb)) (by show f.blocks[(h : Int).toNat]? = _; rw [Int.toNat_natCast]; exact hb2)
    refine Zi1 (Zi (Zb (Zs (Zb (Zd ?_)))))
    cases hsk : skipB f ((h : Int), yb)
    ·
     refine Zc (Zz (el := lpV ((h : Int), yb, yp)) VT.sl35 rfl rfl (by omega) (get_mapS lpV hy) (fun a31 => ?_))
     refine Zc (Za2 VT.ty43 rfl rfl ?_)
     refine Zc (Zb2 VT.zr43 _ rfl rfl (fun g9 => ?_))
     refine Zc (Zx 0 VT.ty43 rfl rfl rfl rfl rfl (Za (Zi (Zb (Zd (Zc (Zv 4 VT.ty34 rfl rfl rfl (Zc (Zv 0 VT.ty43 rfl rfl rfl ?_)))))))))
     refine Zc (Zx1 [.tmp 33, .tmp 34] rfl rfl VT.en27 (outer_c h0 ((h : Int), yb, yp)) ?_)
     refine Zc (Zk rfl (Za (Zi ?_)))
     refine VW_cutF [(1, some (.ptr g1 0)), (2, some (.ptr g2 0)), (6, some (.ptr g6 0)), (27, some (.sl 3 none (L3.map lpV))), (28, some (.int L3.length)), (29, some (.int i)), (7, some (.int (frAt f.blocks (freshF f.blocks) (preI f i)))), (9, some (.ptr g9 0)), (10, some (outsX (outF f ((h : Int), yb))))] (.cells g9 43 [.int (h : Int), intsX yb, .int yp] :: .cells r.g 50 (r.xs.flatMap V.leaves ++ r.rest) :: .cells g6 34 [.int f.name, xLeaf (some r)] :: .cells g2 34 VT.zs34 :: .cells g1 34 [.int f.name, blocksX f.blocks] :: (eOwn rows2)) ?_ ?_
     ·
      refine Zb ?_
      rcases Bool.eq_false_or_eq_true ((((outF f ((h : Int), yb)).length : Int) == 1)) with hq39 | hq39
      ·
       obtain ⟨⟨pv, pm⟩, hp⟩ : ∃ p, (outF f ((h : Int), yb)) = [p] := List.length_eq_one_iff.1 (by have := eq_of_beq hq39; omega)
       have hps0 : (outF f ((h : Int), yb))[0]? = some (pv, pm) := by rw [hp]; rfl
       obtain ⟨b0, e0, hb0, he0, _⟩ := outF_mem.1 (Ye hps0)
       have hta := toAt_get hb0
       refine VW_drawR (G := Unit) [([], [10], []), ([0], [36], []), ([1, 0], [37], []), ([2, 1, 0], [38], []), (dn 4, [1, 39], []), (dn 5, [40, 39], []), (dn 4, [10, 39], []), ([6, 3, 2, 1, 0], [42, 39], []), ([7, 6, 3, 2, 1, 0], [43, 39], []), ([8, 7, 6, 3, 2, 1, 0], [44, 39], []), (dn 10, [41, 45, 39], []), (dn 11, [46, 39], []), (dn 12, [47, 39], []), (dn 13, [48, 39], []), (dn 14, [49, 39], []), (dn 15, [50, 39], []), (dn 16, [39, 51], [])] [] (constSt _) [52] [36, 37, 38, 39, 40, 41, 42, 43, 44, 45, 46, 47, 48, 49, 50, 51, 52] rfl VT.mix ?_
       refine ZA (fun γ => Zf (fun _ h10 => Ze (Zn rfl (Zl h10 z0)))) ?_
       refine ZA (fun γ => Zw 0 0 rfl (fun _ h36 => Ze (Zn rfl (Zd2 (n := (outF f ((h : Int), yb)).length) Tryz.underlying74 h36 (by simp) (fun hl37 => z0))))) ?_
       refine ZA (fun γ => Zw 1 0 rfl (fun _ h37 => Ze (Zn rfl (Zj1 h37 rfl rfl z0)))) ?_
       refine ZA (fun γ => Zw 2 0 rfl (fun _ h38 => Ze (Zn rfl (Zl h38 z0)))) ?_
       refine ZA (fun γ => Zf (fun _ h1 => Zw 3 0 rfl (fun _ h39 => Ze (Zn (Zg rfl rfl h39 hq39) (Zj VT.fa34_1 h1 z0))))) ?_
       refine ZA (fun γ => Zw 4 0 rfl (fun _ h40 => Zw 3 1 rfl (fun _ h39 => Ze (Zn (Zg rfl rfl h39 hq39) (Zu 4 VT.ty32 h40 rfl rfl z0))))) ?_
       refine ZA (fun γ => Zf (fun _ h10 => Zw 3 2 rfl (fun _ h39 => Ze (Zn (Zg rfl rfl h39 hq39) (Zl h10 z0))))) ?_
       refine Zp (Zb3 _) (Zq (fun γ => Zw 6 0 rfl (fun _ h42 => Zw 3 3 rfl (fun _ h39 => Ze (Zn (Zg rfl rfl h39 hq39) (Zz (el := outV (pv, pm)) VT.sl74 h42 rfl (by omega) (get_out hps0) (fun a43 => ⟨⟨_, rfl⟩, rfl⟩))))))) ?_
       refine Zp (Zb3 _) (Zq (fun γ => Zw 7 0 rfl (fun _ h43 => Zw 3 4 rfl (fun _ h39 => Ze (Zc3 h43 (fun a_43 e43 => Zn (Zg rfl rfl h39 hq39) (V_indexAddr_arr_ep Tryz.underlying76 VT.se76 e43 rfl (by omega) (by omega) rfl ⟨⟨_, rfl⟩, rfl⟩))))))) ?_
       refine ZA (fun γ => Zw 8 0 rfl (fun _ h44 => Zw 3 5 rfl (fun _ h39 => Ze (Zc3 h44 (fun a_44 e44 => Zn (Zg rfl rfl h39 hq39) (Zz1 VT.ty3 e44 rfl z0)))))) ?_
       refine Zp (Zb3 _) (Zq (fun γ => Zw 5 4 rfl (fun _ h41 => Zw 9 0 rfl (fun _ h45 => Zw 3 6 rfl (fun _ h39 => Ze (Zn (Zg rfl rfl h39 hq39) (Zz (el := blockV b0) VT.sl32 h41 h45 (by omega) (get_mapS _ hb0) (fun a46 => ⟨⟨_, rfl⟩, rfl⟩)))))))) ?_
       refine Zp (Zb3 _) (Zq (fun γ => Zw 10 0 rfl (fun _ h46 => Zw 3 7 rfl (fun _ h39 => Ze (Zc3 h46 (fun a_46 e46 => Zn (Zg rfl rfl h39 hq39) (Zs2 VT.fa50_2 e46 ⟨⟨_, rfl⟩, rfl⟩))))))) ?_
       refine Zp (Zb3 _) (Zq (fun γ => Zw 11 0 rfl (fun _ h47 => Zw 3 8 rfl (fun _ h39 => Ze (Zc3 h47 (fun a_47 e47 => Zn (Zg rfl rfl h39 hq39) (Zw1 VT.fa47_4 e47 rfl ⟨⟨_, rfl⟩, rfl⟩))))))) ?_
       refine ZA (fun γ => Zw 12 0 rfl (fun _ h48 => Zw 3 9 rfl (fun _ h39 => Ze (Zc3 h48 (fun a_48 e48 => Zn (Zg rfl rfl h39 hq39) (Zz1 VT.ty45 e48 rfl z0)))))) ?_
       refine ZA (fun γ => Zw 13 0 rfl (fun _ h49 => Zw 3 10 rfl (fun _ h39 => Ze (Zn (Zg rfl rfl h39 hq39) (Zd2 (n := b0.term.to.length) Tryz.underlying45 h49 (by simp) (fun hl50 => z0)))))) ?_
       refine ZA (fun γ => Zw 14 0 rfl (fun _ h50 => Zw 3 11 rfl (fun _ h39 => Ze (Zn (Zg rfl rfl h39 hq39) (Zj1 h50 rfl rfl z0))))) ?_
       refine ZA (fun γ => Zw 3 12 rfl (fun _ h39 => Zw 15 0 rfl (fun _ h51 => Ze (Zn rfl (Zs1 h39 hq39 h51 z0))))) ?_
       refine DrawP_nil (fun γ => Zw 16 0 rfl (fun r52 h52 => Ze ?_))
       have e52 : r52 = some _ := h52
       subst e52
       clear h52
       refine Zi ?_
       refine Zl1 rfl (fun h52 => ?_) (fun h52 => ?_)
       · exact absurd (skip_T hp (by rw [hta]; omega)) (by rw [hsk]; decide)
       ·
        refine Zi1 (Zi ?_)
        exact ⟨⟨rfl, rfl, rfl, rfl, rfl, rfl, rfl, rfl, rfl, trivial⟩, (Drops.keep (Drops.keep (Drops.keep (Drops.keep (Drops.keep (Zt2 _))))))⟩
      ·
       refine VW_drawR (G := Unit) [([], [10], []), ([0], [36], []), ([1, 0], [37], []), ([2, 1, 0], [38], []), (dn 4, [1, 39], []), (dn 5, [40, 39], []), (dn 4, [10, 39], []), ([6, 3, 2, 1, 0], [42, 39], []), ([7, 6, 3, 2, 1, 0], [43, 39], []), ([8, 7, 6, 3, 2, 1, 0], [44, 39], []), (dn 10, [41, 45, 39], []), (dn 11, [46, 39], []), (dn 12, [47, 39], []), (dn 13, [48, 39], []), (dn 14, [49, 39], []), (dn 15, [50, 39], []), (dn 16, [39, 51], [])] [] (constSt _) [52] [36, 37, 38, 39, 40, 41, 42, 43, 44, 45, 46, 47, 48, 49, 50, 51, 52] rfl VT.mix ?_
       refine ZA (fun γ => Zf (fun _ h10 => Ze (Zn rfl (Zl h10 z0)))) ?_
       refine ZA (fun γ => Zw 0 0 rfl (fun _ h36 => Ze (Zn rfl (Zd2 (n := (outF f ((h : Int), yb)).length) Tryz.underlying74 h36 (by simp) (fun hl37 => z0))))) ?_
       refine ZA (fun γ => Zw 1 0 rfl (fun _ h37 => Ze (Zn rfl (Zj1 h37 rfl rfl z0)))) ?_
       refine ZA (fun γ => Zw 2 0 rfl (fun _ h38 => Ze (Zn rfl (Zl h38 z0)))) ?_
       refine ZA (fun γ => Zf (fun _ h1 => Zw 3 0 rfl (fun _ h39 => Ze (Zy2 (Zr rfl rfl h39 hq39) z0)))) ?_
       refine ZA (fun γ => Zw 4 0 rfl (fun _ h40 => Zw 3 1 rfl (fun _ h39 => Ze (Zy2 (Zr rfl rfl h39 hq39) z0)))) ?_
       refine ZA (fun γ => Zf (fun _ h10 => Zw 3 2 rfl (fun _ h39 => Ze (Zy2 (Zr rfl rfl h39 hq39) z0)))) ?_
       refine ZA (fun γ => Zw 6 0 rfl (fun _ h42 => Zw 3 3 rfl (fun _ h39 => Ze (Zy2 (Zr rfl rfl h39 hq39) z0)))) ?_
       refine ZA (fun γ => Zw 7 0 rfl (fun _ h43 => Zw 3 4 rfl (fun _ h39 => Ze (Zy2 (Zr rfl rfl h39 hq39) z0)))) ?_
       refine ZA (fun γ => Zw 8 0 rfl (fun _ h44 => Zw 3 5 rfl (fun _ h39 => Ze (Zy2 (Zr rfl rfl h39 hq39) z0)))) ?_
       refine ZA (fun γ => Zw 5 4 rfl (fun _ h41 => Zw 9 0 rfl (fun _ h45 => Zw 3 6 rfl (fun _ h39 => Ze (Zy2 (Zr rfl rfl h39 hq39) z0))))) ?_
       refine ZA (fun γ => Zw 10 0 rfl (fun _ h46 => Zw 3 7 rfl (fun _ h39 => Ze (Zy2 (Zr rfl rfl h39 hq39) z0)))) ?_
       refine ZA (fun γ => Zw 11 0 rfl (fun _ h47 => Zw 3 8 rfl (fun _ h39 => Ze (Zy2 (Zr rfl rfl h39 hq39) z0)))) ?_
       refine ZA (fun γ => Zw 12 0 rfl (fun _ h48 => Zw 3 9 rfl (fun _ h39 => Ze (Zy2 (Zr rfl rfl h39 hq39) z0)))) ?_
       refine ZA (fun γ => Zw 13 0 rfl (fun _ h49 => Zw 3 10 rfl (fun _ h39 => Ze (Zy2 (Zr rfl rfl h39 hq39) z0)))) ?_
       refine ZA (fun γ => Zw 14 0 rfl (fun _ h50 => Zw 3 11 rfl (fun _ h39 => Ze (Zy2 (Zr rfl rfl h39 hq39) z0)))) ?_
       refine ZA (fun γ => Zw 3 12 rfl (fun _ h39 => Zw 15 0 rfl (fun _ h51 => Ze (Zn rfl (Zt1 h39 hq39 rfl z0))))) ?_
       refine DrawP_nil (fun γ => Zw 16 0 rfl (fun r52 h52 => Ze ?_))
       have e52 : r52 = some _ := h52
       subst e52
       clear h52
       refine Zi ?_
       refine Zq1 rfl rfl ?_
       refine Zi1 (Zi ?_)
       exact ⟨⟨rfl, rfl, rfl, rfl, rfl, rfl, rfl, rfl, rfl, trivial⟩, (Drops.keep (Drops.keep (Drops.keep (Drops.keep (Drops.keep (Zt2 _))))))⟩
     ·
      refine Zb (Zd ?_)
      refine Zc (Zb2 VT.zr50 _ rfl rfl (fun g11 => ?_))
      refine Za (Zi (Zb (Zb (Zd (Zc (Zj VT.fa34_1 rfl (Zc (Zu 5 VT.ty32 rfl rfl rfl (Zc (Zj VT.fa43_0 rfl (Zc (Zu 1 VT.ty3 rfl rfl rfl ?_))))))))))))
      refine Zc (Zz (el := blockV b2) VT.sl32 rfl rfl (by omega) (get_mapS _ hb2) (fun a57 => ?_))
      refine Zc (Zw1 VT.fa50_0 rfl rfl (Zc (Zz1 VT.ty41 rfl rfl ?_)))
      refine Zc (Zd2 (n := b2.params.length) Tryz.underlying41 rfl (by simp) (fun hl60 => ?_))
      refine Zc (Zl rfl (Za (Zi (Zs ?_))))
      refine Zi2 (ι := Nat × Option XRow) (fun (j, o) => b2.params.length - j) (fun (j, o) => [(1, some (.ptr g1 0)), (2, some (.ptr g2 0)), (6, some (.ptr g6 0)), (27, some (.sl 3 none (L3.map lpV))), (28, some (.int L3.length)), (29, some (.int i)), (7, some (.int ((frAt f.blocks (freshF f.blocks) (preI f i)) + (j : Nat)))), (9, some (.ptr g9 0)), (10, some (outsX (outF f ((h : Int), yb)))), (11, some (.ptr g11 0)), (60, some (.int b2.params.length)), (61, some (.int j))]) (fun (j, o) => .cells g11 50 [xLeaf o, V.nilSl, .int 0, .int 0, .int 0, V.nilSl, V.nilSl] :: .cells g9 43 [.int (h : Int), intsX yb, .int yp] :: .cells r.g 50 (r.xs.flatMap V.leaves ++ r.rest) :: .cells g6 34 [.int f.name, xLeaf (some r)] :: .cells g2 34 VT.zs34 :: .cells g1 34 [.int f.name, blocksX f.blocks] :: (xOwn 3 o ++ eOwn rows2)) (fun (j, o) => j ≤ b2.params.length ∧ xl o = (newP (frAt f.blocks (freshF f.blocks) (preI f i)) j).map V.int ∧ xOk 1 o) (0, none) ⟨Nat.zero_le _, rfl, trivial⟩ ⟨rfl, rfl, rfl, rfl, rfl, rfl, (congrArg (fun n : Int => some (V.int n)) (Int.add_zero _).symm), rfl, rfl, rfl, rfl, rfl, trivial⟩ (Drops.keep (Drops.keep (Drops.keep (Drops.keep (Drops.keep (Drops.keep (Zt2 _))))))) ?_
      rintro ⟨j, o⟩ hB
      change j ≤ b2.params.length ∧ xl o = (newP (frAt f.blocks (freshF f.blocks) (preI f i)) j).map V.int ∧ xOk 1 o at hB
      obtain ⟨hj, hxo, hoo⟩ := hB
      have hxol : (xl o).length = j := by rw [hxo, Yd, newP_len]
      refine Zb (Zd (Zc (Zj1 rfl rfl rfl (Za (Zi (Zb ?_))))))
      refine Zn1 rfl (fun h62 => ?_) (fun h62 => ?_)
      ·
       refine Zi1 (Zi (Zb (Zs (Zb (Zd (Zc (Zj VT.fa50_0 rfl (Zc (Zu 0 VT.ty41 rfl rfl rfl (Zc (Zl rfl ?_)))))))))))
       refine Zc (Zk3 [.tmp 65] VT.sl41 rfl rfl rfl rfl rfl ?_)
       refine Zc (V_appendOT (o := o) ([.cells g11 50 [xLeaf o, V.nilSl, .int 0, .int 0, .int 0, V.nilSl, V.nilSl], .cells g9 43 [.int (h : Int), intsX yb, .int yp], .cells r.g 50 (r.xs.flatMap V.leaves ++ r.rest), .cells g6 34 [.int f.name, xLeaf (some r)], .cells g2 34 VT.zs34, .cells g1 34 [.int f.name, blocksX f.blocks]] ++ eOwn rows2) (fun o' => .cells g11 50 [xLeaf o, V.nilSl, .int 0, .int 0, .int 0, V.nilSl, V.nilSl] :: .cells g9 43 [.int (h : Int), intsX yb, .int yp] :: .cells r.g 50 (r.xs.flatMap V.leaves ++ r.rest) :: .cells g6 34 [.int f.name, xLeaf (some r)] :: .cells g2 34 VT.zs34 :: .cells g1 34 [.int f.name, blocksX f.blocks] :: (xOwn 3 o' ++ eOwn rows2)) VT.sl41 (by decide) rfl rfl (pullC [.cells g11 50 [xLeaf o, V.nilSl, .int 0, .int 0, .int 0, V.nilSl, V.nilSl], .cells g9 43 [.int (h : Int), intsX yb, .int yp], .cells r.g 50 (r.xs.flatMap V.leaves ++ r.rest), .cells g6 34 [.int f.name, xLeaf (some r)], .cells g2 34 VT.zs34, .cells g1 34 [.int f.name, blocksX f.blocks]]) (fun o' => (pullC [.cells g11 50 [xLeaf o, V.nilSl, .int 0, .int 0, .int 0, V.nilSl, V.nilSl], .cells g9 43 [.int (h : Int), intsX yb, .int yp], .cells r.g 50 (r.xs.flatMap V.leaves ++ r.rest), .cells g6 34 [.int f.name, xLeaf (some r)], .cells g2 34 VT.zs34, .cells g1 34 [.int f.name, blocksX f.blocks]]).symm) hoo (ints_1 hxo) (fun _ => List.cons_ne_nil _ _) (by rw [hxol, List.length_singleton]; omega) (flat_1 rfl) (fun o67 e67_1 e67_2 e67_3 => ?_))
       refine Zc (Zj VT.fa50_0 rfl ?_)
       refine Zc (Zy 0 VT.ty41 rfl rfl (xLeaf_leaf _) rfl rfl ?_)
       refine Za (Zi (Zd (Zc (Zl rfl ?_))))
       refine Zc (Zh2 rfl rfl (by omega) ?_)
       refine Zc (Zk rfl (Za (Zb1 (Zi (Zd ?_)))))
       refine Zc (Zh2 rfl rfl (by omega) ?_)
       refine Zc (Zl rfl (Za (Zi ?_)))
       exact ⟨(j + 1, o67), (by (try simp only []); omega), ⟨by omega, by rw [e67_1, hxo, newP_succ, Yf]; rfl, e67_2⟩, ⟨rfl, rfl, rfl, rfl, rfl, rfl, (congrArg (fun n : Int => some (V.int n)) (by omega)), rfl, rfl, rfl, rfl, rfl, trivial⟩, (Drops.keep (Drops.keep (Drops.keep (Drops.keep (Drops.keep (Drops.keep (Zt2 _)))))))⟩
      ·
       have hje : j = b2.params.length := by omega
       subst hje
       refine Zt (Ze1 (Ze1 (Zc1 (Zi ?_))))
       refine VW_freezeX 0 0 (o := o) (R := [.cells g11 50 [xLeaf o, V.nilSl, .int 0, .int 0, .int 0, V.nilSl, V.nilSl], .cells g9 43 [.int (h : Int), intsX yb, .int yp], .cells r.g 50 (r.xs.flatMap V.leaves ++ r.rest), .cells g6 34 [.int f.name, xLeaf (some r)], .cells g2 34 VT.zs34, .cells g1 34 [.int f.name, blocksX f.blocks]] ++ eOwn rows2) (sz := 1) (pullC [.cells g11 50 [xLeaf o, V.nilSl, .int 0, .int 0, .int 0, V.nilSl, V.nilSl], .cells g9 43 [.int (h : Int), intsX yb, .int yp], .cells r.g 50 (r.xs.flatMap V.leaves ++ r.rest), .cells g6 34 [.int f.name, xLeaf (some r)], .cells g2 34 VT.zs34, .cells g1 34 [.int f.name, blocksX f.blocks]]) rfl rfl hoo (by rw [hxo]; exact fits_ints _) ?_
       refine VW_perm (S' := .cells g11 50 [intsX (newP (frAt f.blocks (freshF f.blocks) (preI f i)) b2.params.length), V.nilSl, .int 0, .int 0, .int 0, V.nilSl, V.nilSl] :: .cells g9 43 [.int (h : Int), intsX yb, .int yp] :: .cells r.g 50 (r.xs.flatMap V.leaves ++ r.rest) :: .cells g6 34 [.int f.name, xLeaf (some r)] :: .cells g2 34 VT.zs34 :: .cells g1 34 [.int f.name, blocksX f.blocks] :: (eOwn rows2)) (.of_eq (by rw [hxo]; rfl)) ?_
       refine Zb ?_
       refine VW_drawR (G := Unit) [([], [9], []), ([0], [72], []), ([], [11], []), ([2], [74], []), ([3, 2], [75], []), (dn 5, [73, 76], []), (dn 6, [77], []), (dn 7, [78], []), (dn 8, [11], []), (dn 9, [80, 79], [])] [9] (setSt _ 0 (fun _ => .cells g11 50 [intsX (newP (frAt f.blocks (freshF f.blocks) (preI f i)) b2.params.length), V.nilSl, .int 1, .int 0, .int 0, V.nilSl, .sl 2 none [edgeV ⟨(h : Int), (newP (frAt f.blocks (freshF f.blocks) (preI f i)) b2.params.length)⟩]])) [] [72, 73, 74, 75, 76, 77, 78, 79, 80] rfl VT.mix ?_
       refine Zp (Zm _) (Zo rfl rfl ⟨(fun γ => Zf (fun _ h9 => Ze (Zn rfl (Zj VT.fa43_0 h9 z0)))), trivial⟩) ?_
       refine Zp (Zm _) (Zo rfl rfl ⟨(fun γ => Zw 0 0 rfl (fun _ h72 => Ze (Zn rfl (Zu 1 VT.ty3 h72 rfl rfl z0)))), trivial⟩) ?_
       refine Zp (Zm _) (Zo rfl rfl ⟨(fun γ => Zf (fun _ h11 => Ze (Zn rfl (Zj VT.fa50_0 h11 z0)))), trivial⟩) ?_
       refine Zp (Zm _) (Zo rfl rfl ⟨(fun γ => Zw 2 0 rfl (fun _ h74 => Ze (Zn rfl (Zu 0 VT.ty41 h74 rfl rfl z0)))), trivial⟩) ?_
       refine Zp (Zm _) (Zo rfl rfl ⟨(fun γ => Zw 3 0 rfl (fun _ h75 => Ze (Zn rfl (Zx1 [.tmp 75] rfl (Zp2 h75 Zq2) VT.en28 (intsClone_c (newP (frAt f.blocks (freshF f.blocks) (preI f i)) b2.params.length) (by rw [newP_len]; omega)) z0)))), trivial⟩) ?_
       refine Zp (Zm _) (Zo rfl rfl ⟨(fun γ => Zw 1 3 rfl (fun _ h73 => Zw 4 0 rfl (fun _ h76 => Ze (Zn rfl (Zf2 [0, 1] [.tmp 73, .tmp 76] VT.st79 rfl rfl (Zp2 h73 (Zp2 h76 Zq2)) rfl z0))))), trivial⟩) ?_
       refine Zp (Zm _) (Zo rfl rfl ⟨(fun γ => Zw 5 0 rfl (fun _ h77 => Ze (Zn rfl (Zk3 [.tmp 77] VT.sl45 rfl rfl rfl (Zp2 h77 Zq2) rfl z0)))), trivial⟩) ?_
       refine Zp (Zm _) (Zo rfl rfl ⟨(fun γ => Zw 6 0 rfl (fun _ h78 => Ze (Zn rfl (Zf2 [0, 4] [.const (.int .i64 (1)), .tmp 78] VT.st47 rfl rfl (Zp2 rfl (Zp2 h78 Zq2)) rfl z0)))), trivial⟩) ?_
       refine Zp (Zm _) (Zo rfl rfl ⟨(fun γ => Zf (fun _ h11 => Ze (Zn rfl (Zj VT.fa50_2 h11 z0)))), trivial⟩) ?_
       refine Zp Za3 (Zn2 rfl (fun γ => Zw 8 0 rfl (fun _ h80 => Zw 7 1 rfl (fun _ h79 => Ze (Zn rfl (Zx 0 VT.ty47 h80 h79 rfl rfl rfl ⟨default, trivial, rfl⟩)))))) ?_
       refine DrawP_nil (fun γ => Ze ?_)
       refine Zi (Zb (Zb (Zd (Zc (Zl rfl ?_)))))
       refine Zc (Zd2 (n := (outF f ((h : Int), yb)).length) Tryz.underlying74 rfl (by simp) (fun hl82 => ?_))
       refine Zc (Zl rfl (Za (Zi (Zs ?_))))
       refine Zi2 (ι := Nat × List (Option XRow)) (fun (j, rows3) => (outF f ((h : Int), yb)).length - j) (fun (j, rows3) => [(1, some (.ptr g1 0)), (2, some (.ptr g2 0)), (6, some (.ptr g6 0)), (27, some (.sl 3 none (L3.map lpV))), (28, some (.int L3.length)), (29, some (.int i)), (7, some (.int ((frAt f.blocks (freshF f.blocks) (preI f i)) + (b2.params.length : Nat)))), (11, some (.ptr g11 0)), (81, some (outsX (outF f ((h : Int), yb)))), (82, some (.int (outF f ((h : Int), yb)).length)), (83, some (.int j))]) (fun (j, rows3) => .cells g11 50 [intsX (newP (frAt f.blocks (freshF f.blocks) (preI f i)) b2.params.length), V.nilSl, .int 1, .int 0, .int 0, V.nilSl, .sl 2 none [edgeV ⟨(h : Int), (newP (frAt f.blocks (freshF f.blocks) (preI f i)) b2.params.length)⟩]] :: .cells r.g 50 (r.xs.flatMap V.leaves ++ r.rest) :: .cells g6 34 [.int f.name, xLeaf (some r)] :: .cells g2 34 VT.zs34 :: .cells g1 34 [.int f.name, blocksX f.blocks] :: (eOwn rows3)) (fun (j, rows3) => j ≤ (outF f ((h : Int), yb)).length ∧ TInv rows rows3 (((outF f ((h : Int), yb)).take j).foldl (stT ((f.blocks.length + (preI f i).length : Nat) : Int)) (tosF f (preI f i)))) (0, rows2) ⟨Nat.zero_le _, hT⟩ ⟨rfl, rfl, rfl, rfl, rfl, rfl, rfl, rfl, rfl, rfl, rfl, trivial⟩ (Drops.keep (Drops.drop (Drops.keep (Drops.keep (Drops.keep (Drops.keep (Zt2 _))))))) ?_
       rintro ⟨j, rows3⟩ hC
       change j ≤ (outF f ((h : Int), yb)).length ∧ TInv rows rows3 (((outF f ((h : Int), yb)).take j).foldl (stT ((f.blocks.length + (preI f i).length : Nat) : Int)) (tosF f (preI f i))) at hC
       obtain ⟨hj, hT3⟩ := hC
       refine Zb (Zd (Zc (Zj1 rfl rfl rfl (Za (Zi (Zb ?_))))))
       refine Zn1 rfl (fun h84 => ?_) (fun h84 => ?_)
       ·
        obtain ⟨⟨v, m⟩, hp3⟩ := get_of_lt (outF f ((h : Int), yb)) j h84
        obtain ⟨b, t, e, hb, ht3, he3⟩ := fold_row (L := preI f i) (N := ((f.blocks.length + (preI f i).length : Nat) : Int)) hp3
        have hvl := (Ya.1 hb).1
        have h3l := hT3.len
        obtain ⟨o, hro3⟩ := get_of_lt rows v (by omega)
        obtain ⟨o3, h3⟩ := get_of_lt rows3 v (by omega)
        obtain ⟨hlf, hok3, hx3⟩ := hT3.row v o o3 t hro3 h3 ht3
        obtain ⟨q, rfl, hql⟩ := row_some hx3 he3
        have hvr := (Ya.1 h3).1
        have hml := (Ya.1 he3).1
        refine Zi1 (Zi (Zb (Zs (Zb (Zd ?_)))))
        refine Zc (Zz (el := outV (v, m)) VT.sl74 rfl rfl (by omega) (get_out hp3) (fun a85 => ?_))
        refine Zc (Za2 VT.ty76 rfl rfl ?_)
        refine Zc (Zb2 VT.zr76 _ rfl rfl (fun g13 => ?_))
        refine Zc (Zx 0 VT.ty76 rfl rfl rfl rfl rfl (Za (Zi ?_)))
        refine VW_perm (S' := .cells q.g 79 (ecells t ++ q.rest) :: .cells g13 76 [.int (v : Int), .int (m : Int)] :: .cells g11 50 [intsX (newP (frAt f.blocks (freshF f.blocks) (preI f i)) b2.params.length), V.nilSl, .int 1, .int 0, .int 0, V.nilSl, .sl 2 none [edgeV ⟨(h : Int), (newP (frAt f.blocks (freshF f.blocks) (preI f i)) b2.params.length)⟩]] :: .cells r.g 50 (r.xs.flatMap V.leaves ++ r.rest) :: .cells g6 34 [.int f.name, xLeaf (some r)] :: .cells g2 34 VT.zs34 :: .cells g1 34 [.int f.name, blocksX f.blocks] :: (eOwn (rows3.set v none))) (pullL [.cells g13 76 [.int (v : Int), .int (m : Int)], .cells g11 50 [intsX (newP (frAt f.blocks (freshF f.blocks) (preI f i)) b2.params.length), V.nilSl, .int 1, .int 0, .int 0, V.nilSl, .sl 2 none [edgeV ⟨(h : Int), (newP (frAt f.blocks (freshF f.blocks) (preI f i)) b2.params.length)⟩]], .cells r.g 50 (r.xs.flatMap V.leaves ++ r.rest), .cells g6 34 [.int f.name, xLeaf (some r)], .cells g2 34 VT.zs34, .cells g1 34 [.int f.name, blocksX f.blocks]] (eown_pull hvr h3 hx3)) ?_
        refine VW_drawR (G := Unit) [([], [6], []), ([0], [87], []), ([], [13], []), ([2], [89], []), (dn 4, [88, 90], []), (dn 5, [91], []), (dn 6, [92], []), (dn 7, [93], []), ([], [13], []), ([8], [95], []), ([], [6], []), ([10], [97], []), ([11, 10], [98], []), (dn 13, [94, 96], []), (dn 14, [100], []), (dn 15, [101, 99], [])] [15] (setSt _ 0 (fun _ => .cells q.g 79 ((ecells t ++ q.rest).set (m * 2 + 0) (.int ((f.blocks.length + (preI f i).length : Nat) : Int))))) [] [87, 88, 89, 90, 91, 92, 93, 94, 95, 96, 97, 98, 99, 100, 101] rfl VT.mix ?_
        refine Zp (Zm _) (Zo rfl rfl ⟨(fun γ => Zf (fun _ h6 => Ze (Zn rfl (Zj VT.fa34_1 h6 z0)))), trivial⟩) ?_
        refine Zp (Zm _) (Zo rfl rfl ⟨(fun γ => Zw 0 0 rfl (fun _ h87 => Ze (Zn rfl (Zu 4 VT.ty32 h87 rfl rfl z0)))), trivial⟩) ?_
        refine Zp (Zm _) (Zo rfl rfl ⟨(fun γ => Zf (fun _ h13 => Ze (Zn rfl (V_indexAddr_arr Tryz.underlying76 VT.se76 h13 rfl (by omega) (by omega) z0)))), trivial⟩) ?_
        refine Zp (Zm _) (Zo rfl rfl ⟨(fun γ => Zw 2 0 rfl (fun _ h89 => Ze (Zn rfl (Zu 1 VT.ty3 h89 rfl rfl z0)))), trivial⟩) ?_
        refine Zp (Zm _) (Zo rfl rfl ⟨(fun γ => Zw 1 2 rfl (fun _ h88 => Zw 3 0 rfl (fun _ h90 => Ze (Zn rfl (Zu2 (Zr2 VT.sl32 h88 h90 (by omega) (by omega) z0) ((V.le.of_eq (congrArg (V.ptr r.g) (by omega)) : V.le _ (.ptr r.g (v * 7)))) z0))))), trivial⟩) ?_
        refine Zp (Zm _) (Zo rfl rfl ⟨(fun γ => Zw 4 0 rfl (fun _ h91 => Ze (Zn rfl (Zj VT.fa50_2 h91 z0)))), trivial⟩) ?_
        refine Zp (Zm _) (Zo rfl rfl ⟨(fun γ => Zw 5 0 rfl (fun _ h92 => Ze (Zn rfl (Zj VT.fa47_4 h92 z0)))), trivial⟩) ?_
        refine Zp (Zm _) (Zo rfl rfl ⟨(fun γ => Zw 6 0 rfl (fun _ h93 => Ze (Zn rfl (Zu 3 VT.ty45 h93 rfl (blk_leaf _ (cat_7 hrx) (cat_get hrx hb hro3 hlf)) z0)))), trivial⟩) ?_
        refine Zp (Zm _) (Zo rfl rfl ⟨(fun γ => Zf (fun _ h13 => Ze (Zn rfl (V_indexAddr_arr Tryz.underlying76 VT.se76 h13 rfl (by omega) (by omega) z0)))), trivial⟩) ?_
        refine Zp (Zm _) (Zo rfl rfl ⟨(fun γ => Zw 8 0 rfl (fun _ h95 => Ze (Zn rfl (Zu 1 VT.ty3 h95 rfl rfl z0)))), trivial⟩) ?_
        refine Zp (Zm _) (Zo rfl rfl ⟨(fun γ => Zf (fun _ h6 => Ze (Zn rfl (Zj VT.fa34_1 h6 z0)))), trivial⟩) ?_
        refine Zp (Zm _) (Zo rfl rfl ⟨(fun γ => Zw 10 0 rfl (fun _ h97 => Ze (Zn rfl (Zu 4 VT.ty32 h97 rfl rfl z0)))), trivial⟩) ?_
        refine Zp (Zm _) (Zo rfl rfl ⟨(fun γ => Zw 11 0 rfl (fun _ h98 => Ze (Zn rfl (Zu2 (V_len_raw Tryz.underlying32 h98 z0) ((V.le.of_eq (congrArg V.int (by rw [hrl])) : V.le _ (.int ((f.blocks.length + (preI f i).length : Nat) : Int)))) z0)))), trivial⟩) ?_
        refine Zp (Zm _) (Zo rfl rfl ⟨(fun γ => Zw 7 5 rfl (fun _ h94 => Zw 9 3 rfl (fun _ h96 => Ze (Zn rfl (Zu2 (Zr2 VT.sl45 h94 h96 (by omega) (by omega) z0) ((V.le.of_eq (congrArg (V.ptr q.g) (by omega)) : V.le _ (.ptr q.g (m * 2)))) z0))))), trivial⟩) ?_
        refine Zp (Zm _) (Zo rfl rfl ⟨(fun γ => Zw 13 0 rfl (fun _ h100 => Ze (Zn rfl (Zj VT.fa79_0 h100 z0)))), trivial⟩) ?_
        refine Zp Za3 (Zn2 rfl (fun γ => Zw 14 0 rfl (fun _ h101 => Zw 12 2 rfl (fun _ h99 => Ze (Zn rfl (Zy 0 VT.ty3 h101 h99 rfl rfl (Nat.ble_eq_true_of_le (by rw [Yh, ecells_len]; omega)) ⟨default, trivial, rfl⟩)))))) ?_
        refine DrawP_nil (fun γ => Ze ?_)
        refine Zb1 (Zi ?_)
        refine VW_perm (S' := .cells g13 76 [.int (v : Int), .int (m : Int)] :: .cells g11 50 [intsX (newP (frAt f.blocks (freshF f.blocks) (preI f i)) b2.params.length), V.nilSl, .int 1, .int 0, .int 0, V.nilSl, .sl 2 none [edgeV ⟨(h : Int), (newP (frAt f.blocks (freshF f.blocks) (preI f i)) b2.params.length)⟩]] :: .cells r.g 50 (r.xs.flatMap V.leaves ++ r.rest) :: .cells g6 34 [.int f.name, xLeaf (some r)] :: .cells g2 34 VT.zs34 :: .cells g1 34 [.int f.name, blocksX f.blocks] :: (eOwn (rows3.set v (setE (some q) (t.set m ⟨((f.blocks.length + (preI f i).length : Nat) : Int), e.args⟩))))) (by rw [ecell_set he3]; exact (pullL [.cells g13 76 [.int (v : Int), .int (m : Int)], .cells g11 50 [intsX (newP (frAt f.blocks (freshF f.blocks) (preI f i)) b2.params.length), V.nilSl, .int 1, .int 0, .int 0, V.nilSl, .sl 2 none [edgeV ⟨(h : Int), (newP (frAt f.blocks (freshF f.blocks) (preI f i)) b2.params.length)⟩]], .cells r.g 50 (r.xs.flatMap V.leaves ++ r.rest), .cells g6 34 [.int f.name, xLeaf (some r)], .cells g2 34 VT.zs34, .cells g1 34 [.int f.name, blocksX f.blocks]] (eown_some hvr q (t.set m ⟨((f.blocks.length + (preI f i).length : Nat) : Int), e.args⟩))).symm) ?_
        refine Zd ?_
        refine Zc (Zh2 rfl rfl (by omega) ?_)
        refine Zc (Zl rfl (Za (Zi ?_)))
        exact ⟨(j + 1, rows3.set v (setE (some q) (t.set m ⟨((f.blocks.length + (preI f i).length : Nat) : Int), e.args⟩))), (by (try simp only []); omega), ⟨by omega, by rw [take_snoc hp3, List.foldl_append]; show TInv rows _ (stT ((f.blocks.length + (preI f i).length : Nat) : Int) (((outF f ((h : Int), yb)).take j).foldl (stT ((f.blocks.length + (preI f i).length : Nat) : Int)) (tosF f (preI f i))) (v, m)); rw [stT_get ht3, setB_get he3]; exact tinv_step hT3 h3 ht3⟩, ⟨rfl, rfl, rfl, rfl, rfl, rfl, rfl, rfl, rfl, rfl, rfl, trivial⟩, (Drops.drop (Drops.keep (Drops.keep (Drops.keep (Drops.keep (Drops.keep (Zt2 _)))))))⟩
       ·
        have hje : j = (outF f ((h : Int), yb)).length := by omega
        subst hje
        rw [List.take_length, tos_step (preI_fresh hx)] at hT3
        refine Zt (Ze1 (Ze1 (Zc1 (Zi (Zd (Zc (Zj VT.fa34_1 rfl (Zc (Zu 2 VT.ty32 rfl rfl rfl ?_)))))))))
        refine Zc (Zu2 (Zv 0 VT.ty50 rfl rfl rfl ⟨rfl, rfl⟩) ((by exact V.le.agg ⟨V.le.refl _, rfl, V.le.nil 4, rfl, V.le.refl _, rfl, V.le.refl _, rfl, V.le.refl _, rfl, V.le.nil 1, rfl, V.le.refl _, rfl, trivial⟩ : V.le _ (blockV (preB (frAt f.blocks (freshF f.blocks) (preI f i)) b2.params.length (h : Int))))) ?_)
        refine Zc (Zk3 [.tmp 105] VT.sl32 rfl rfl rfl rfl rfl ?_)
        refine Zc (V_appendOT (o := (some r)) (_) (fun o' => xOwn 50 o' ++ _) VT.sl32 (by decide) rfl rfl (List.perm_middle (l₁ := [_])) (fun _ => .refl _) hro (cat_7 hrx) (fun h => by cases h) (by show (r.xs.length + _) * _ ≤ _; rw [hrl, List.length_singleton]; omega) (nb_flat (preB (frAt f.blocks (freshF f.blocks) (preI f i)) b2.params.length (h : Int))) (fun o107 e107_1 e107_2 e107_3 => ?_))
        obtain ⟨s3, rfl⟩ := some_of e107_3
        refine Zc (Zj VT.fa34_1 rfl ?_)
        refine Zc (Zy 2 VT.ty32 rfl rfl (xLeaf_leaf _) rfl rfl ?_)
        refine Za (Zb1 (Zi ?_))
        have hrs3 : s3.xs = cpL f.blocks rows ++ (newBs f.blocks (freshF f.blocks) (preI f (i + 1))).map blockV := by have h9 : s3.xs = r.xs ++ [blockV (preB (frAt f.blocks (freshF f.blocks) (preI f i)) b2.params.length (h : Int))] := e107_1; rw [h9, hrx, preI_new hx hsk, newBs_snoc, Yf, Yg, hpn]; rfl
        have hA9 := And.intro (show i + 1 ≤ L3.length by omega) (And.intro (by rw [preI_new hx hsk]; exact hT3 : TInv rows rows3 (tosF f (preI f (i + 1)))) (And.intro hrs3 e107_2))
        have hf7 : (frAt f.blocks (freshF f.blocks) (preI f i)) + (b2.params.length : Nat) = frAt f.blocks (freshF f.blocks) (preI f (i + 1)) := by rw [preI_new hx hsk, frAt_snoc, hpn]
        refine Zd ?_
        refine Zc (Zh2 rfl rfl (by omega) ?_)
        refine Zc (Zl rfl (Za (Zi ?_)))
        exact ⟨(i + 1, rows3, s3), (by (try simp only []); omega), hA9, ⟨rfl, rfl, rfl, rfl, rfl, rfl, (congrArg (fun n : Int => some (V.int n)) hf7), trivial⟩, (Drops.keep (Drops.drop (Drops.keep (Drops.keep (Drops.keep (Zt2 _))))))⟩
    ·
     obtain ⟨⟨pv, pm⟩, hp, hta1⟩ := skip_is hsk
     have hps0 : (outF f ((h : Int), yb))[0]? = some (pv, pm) := by rw [hp]; rfl
     obtain ⟨b0, e0, hb0, he0, _⟩ := outF_mem.1 (Ye hps0)
     have hta := toAt_get hb0
     have hq39 : (((outF f ((h : Int), yb)).length : Int) == 1) = true := by rw [hp]; rfl
     refine Zc (Zz (el := lpV ((h : Int), yb, yp)) VT.sl35 rfl rfl (by omega) (get_mapS lpV hy) (fun a31 => ?_))
     refine Zc (Za2 VT.ty43 rfl rfl ?_)
     refine Zc (Zb2 VT.zr43 _ rfl rfl (fun g9 => ?_))
     refine Zc (Zx 0 VT.ty43 rfl rfl rfl rfl rfl (Za (Zi (Zb (Zd (Zc (Zv 4 VT.ty34 rfl rfl rfl (Zc (Zv 0 VT.ty43 rfl rfl rfl ?_)))))))))
     refine Zc (Zx1 [.tmp 33, .tmp 34] rfl rfl VT.en27 (outer_c h0 ((h : Int), yb, yp)) ?_)
     refine Zc (Zk rfl (Za (Zi (Zb (Zb ?_)))))
     refine VW_drawR (G := Unit) [([], [10], []), ([0], [36], []), ([1, 0], [37], []), ([2, 1, 0], [38], []), (dn 4, [1, 39], []), (dn 5, [40, 39], []), (dn 4, [10, 39], []), ([6, 3, 2, 1, 0], [42, 39], []), ([7, 6, 3, 2, 1, 0], [43, 39], []), ([8, 7, 6, 3, 2, 1, 0], [44, 39], []), (dn 10, [41, 45, 39], []), (dn 11, [46, 39], []), (dn 12, [47, 39], []), (dn 13, [48, 39], []), (dn 14, [49, 39], []), (dn 15, [50, 39], []), (dn 16, [39, 51], [])] [] (constSt _) [52] [36, 37, 38, 39, 40, 41, 42, 43, 44, 45, 46, 47, 48, 49, 50, 51, 52] rfl VT.mix ?_
     refine ZA (fun γ => Zf (fun _ h10 => Ze (Zn rfl (Zl h10 z0)))) ?_
     refine ZA (fun γ => Zw 0 0 rfl (fun _ h36 => Ze (Zn rfl (Zd2 (n := (outF f ((h : Int), yb)).length) Tryz.underlying74 h36 (by simp) (fun hl37 => z0))))) ?_
     refine ZA (fun γ => Zw 1 0 rfl (fun _ h37 => Ze (Zn rfl (Zj1 h37 rfl rfl z0)))) ?_
     refine ZA (fun γ => Zw 2 0 rfl (fun _ h38 => Ze (Zn rfl (Zl h38 z0)))) ?_
     refine ZA (fun γ => Zf (fun _ h1 => Zw 3 0 rfl (fun _ h39 => Ze (Zn (Zg rfl rfl h39 hq39) (Zj VT.fa34_1 h1 z0))))) ?_
     refine ZA (fun γ => Zw 4 0 rfl (fun _ h40 => Zw 3 1 rfl (fun _ h39 => Ze (Zn (Zg rfl rfl h39 hq39) (Zu 4 VT.ty32 h40 rfl rfl z0))))) ?_
     refine ZA (fun γ => Zf (fun _ h10 => Zw 3 2 rfl (fun _ h39 => Ze (Zn (Zg rfl rfl h39 hq39) (Zl h10 z0))))) ?_
     refine Zp (Zb3 _) (Zq (fun γ => Zw 6 0 rfl (fun _ h42 => Zw 3 3 rfl (fun _ h39 => Ze (Zn (Zg rfl rfl h39 hq39) (Zz (el := outV (pv, pm)) VT.sl74 h42 rfl (by omega) (get_out hps0) (fun a43 => ⟨⟨_, rfl⟩, rfl⟩))))))) ?_
     refine Zp (Zb3 _) (Zq (fun γ => Zw 7 0 rfl (fun _ h43 => Zw 3 4 rfl (fun _ h39 => Ze (Zc3 h43 (fun a_43 e43 => Zn (Zg rfl rfl h39 hq39) (V_indexAddr_arr_ep Tryz.underlying76 VT.se76 e43 rfl (by omega) (by omega) rfl ⟨⟨_, rfl⟩, rfl⟩))))))) ?_
     refine ZA (fun γ => Zw 8 0 rfl (fun _ h44 => Zw 3 5 rfl (fun _ h39 => Ze (Zc3 h44 (fun a_44 e44 => Zn (Zg rfl rfl h39 hq39) (Zz1 VT.ty3 e44 rfl z0)))))) ?_
     refine Zp (Zb3 _) (Zq (fun γ => Zw 5 4 rfl (fun _ h41 => Zw 9 0 rfl (fun _ h45 => Zw 3 6 rfl (fun _ h39 => Ze (Zn (Zg rfl rfl h39 hq39) (Zz (el := blockV b0) VT.sl32 h41 h45 (by omega) (get_mapS _ hb0) (fun a46 => ⟨⟨_, rfl⟩, rfl⟩)))))))) ?_
     refine Zp (Zb3 _) (Zq (fun γ => Zw 10 0 rfl (fun _ h46 => Zw 3 7 rfl (fun _ h39 => Ze (Zc3 h46 (fun a_46 e46 => Zn (Zg rfl rfl h39 hq39) (Zs2 VT.fa50_2 e46 ⟨⟨_, rfl⟩, rfl⟩))))))) ?_
     refine Zp (Zb3 _) (Zq (fun γ => Zw 11 0 rfl (fun _ h47 => Zw 3 8 rfl (fun _ h39 => Ze (Zc3 h47 (fun a_47 e47 => Zn (Zg rfl rfl h39 hq39) (Zw1 VT.fa47_4 e47 rfl ⟨⟨_, rfl⟩, rfl⟩))))))) ?_
     refine ZA (fun γ => Zw 12 0 rfl (fun _ h48 => Zw 3 9 rfl (fun _ h39 => Ze (Zc3 h48 (fun a_48 e48 => Zn (Zg rfl rfl h39 hq39) (Zz1 VT.ty45 e48 rfl z0)))))) ?_
     refine ZA (fun γ => Zw 13 0 rfl (fun _ h49 => Zw 3 10 rfl (fun _ h39 => Ze (Zn (Zg rfl rfl h39 hq39) (Zd2 (n := b0.term.to.length) Tryz.underlying45 h49 (by simp) (fun hl50 => z0)))))) ?_
     refine ZA (fun γ => Zw 14 0 rfl (fun _ h50 => Zw 3 11 rfl (fun _ h39 => Ze (Zn (Zg rfl rfl h39 hq39) (Zj1 h50 rfl rfl z0))))) ?_
     refine ZA (fun γ => Zw 3 12 rfl (fun _ h39 => Zw 15 0 rfl (fun _ h51 => Ze (Zn rfl (Zs1 h39 hq39 h51 z0))))) ?_
     refine DrawP_nil (fun γ => Zw 16 0 rfl (fun r52 h52 => Ze ?_))
     have e52 : r52 = some _ := h52
     subst e52
     clear h52
     refine Zi ?_
     refine Zl1 rfl (fun h52 => ?_) (fun h52 => ?_)
     ·
      have hA9 := And.intro (show i + 1 ≤ L3.length by omega) (And.intro (by rw [preI_skip hx hsk]; exact hT : TInv rows rows2 (tosF f (preI f (i + 1)))) (And.intro (by rw [preI_skip hx hsk]; exact hrx : r.xs = cpL f.blocks rows ++ (newBs f.blocks (freshF f.blocks) (preI f (i + 1))).map blockV) hro))
      have hf7 : (frAt f.blocks (freshF f.blocks) (preI f i)) = frAt f.blocks (freshF f.blocks) (preI f (i + 1)) := by rw [preI_skip hx hsk]
      refine Zt (Ze1 (Zc1 (Zi (Zd ?_))))
      refine Zc (Zh2 rfl rfl (by omega) ?_)
      refine Zc (Zl rfl (Za (Zi ?_)))
      exact ⟨(i + 1, rows2, r), (by (try simp only []); omega), hA9, ⟨rfl, rfl, rfl, rfl, rfl, rfl, (congrArg (fun n : Int => some (V.int n)) hf7), trivial⟩, (Drops.drop (Drops.keep (Drops.keep (Drops.keep (Drops.keep (Zt2 _))))))⟩
     · exact absurd (by rw [hta] at hta1; omega) h52
   ·
    have hie : i = (findF f).length := by omega
    subst hie
    rw [preI_end] at hT hrx hrl hfr0 hfr1
    have hpre : r.xs.length = (preF f).blocks.length := by rw [hrl]; unfold preF preG; rw [Yh, redL_len, newBs_len]
    refine Zt (Ze1 (Ze1 (Zc1 (Zi (Zb (Zb (Zd (Zc (Zj VT.fa34_1 rfl (Zc (Zu 1 VT.ty32 rfl rfl rfl ?_)))))))))))
    refine Zc (V_len_raw Tryz.underlying32 rfl ?_)
    refine Zc (Zj1 rfl rfl rfl (Zc (Zl rfl ?_)))
    refine Zj2 (q := 114) rfl (fun hq114 => ?_) (fun hq114 => ?_)
    ·
     have hr2 : preX f = .tup [.agg VT.zs34, .int 2] := by rw [hr, if_pos (.inl (by have := of_decide_eq_true hq114; omega))]
     refine Zk0 hq114 ?_
     refine Zk0 hq114 ?_
     refine Zc (Zs1 rfl hq114 rfl ?_)
     refine Za (Zi ?_)
     refine Zp1 rfl rfl ?_
     refine Zb (Zd ?_)
     refine Zc (Zf2 [] [] VT.st34 rfl rfl rfl rfl ?_)
     refine Zc (Zx 2 VT.ty34 rfl rfl rfl rfl rfl (Zc (Zk rfl (Za (Zi (Zf1 ?_))))))
     refine Zd1 (Zh1 rfl rfl (.cons (.agg (i := 2) VT.ty34 rfl rfl rfl) (.cons (.tmp rfl) (.nil))) ?_)
     rw [hr2]
     rfl
    ·
     have hq0 := of_decide_eq_false hq114
     refine Zc (Zl rfl ?_) (Zy0 hq114)
     refine Zc (Zj1 rfl rfl rfl ?_) (Zy0 hq114)
     refine Zc (Zt1 rfl hq114 rfl ?_)
     refine Za (Zi ?_)
     refine Zn1 rfl (fun h117 => ?_) (fun h117 => ?_)
     ·
      rw [preI_end] at h117
      have hr2 : preX f = .tup [.agg VT.zs34, .int 2] := by rw [hr, if_pos (.inr (by omega))]
      refine Zb (Zd ?_)
      refine Zc (Zf2 [] [] VT.st34 rfl rfl rfl rfl ?_)
      refine Zc (Zx 2 VT.ty34 rfl rfl rfl rfl rfl (Zc (Zk rfl (Za (Zi (Zf1 ?_))))))
      refine Zd1 (Zh1 rfl rfl (.cons (.agg (i := 2) VT.ty34 rfl rfl rfl) (.cons (.tmp rfl) (.nil))) ?_)
      rw [hr2]
      rfl
     ·
      rw [preI_end] at h117
      have hr2 : preX f = .tup [funcV (preF f), .int 0] := by rw [hr, if_neg (by omega)]
      refine Zi1 (Zi ?_)
      obtain ⟨c1, c2, c3⟩ := hro
      have hIl := hT.len
      have hP2 := pairsG_rows (f := f) (hIl.trans hRl)
      have hcell : r.xs.flatMap V.leaves ++ r.rest = [] ++ (((pairsG f rows2).map fun x => cpV x.1 x.2).flatMap V.leaves ++ (((newBs f.blocks (freshF f.blocks) (preL f)).map blockV).flatMap V.leaves ++ r.rest)) := by rw [hrx, ← pairsG_cp hRl hT, List.flatMap_append, Yg]; rfl
      refine VW_drops (S' := .cells r.g 50 ([] ++ (((pairsG f rows2).map fun x => cpV x.1 x.2).flatMap V.leaves ++ (((newBs f.blocks (freshF f.blocks) (preL f)).map blockV).flatMap V.leaves ++ r.rest))) :: (eOwn ((pairsG f rows2).map (·.2)) ++ [.cells g6 34 [.int f.name, xLeaf (some r)], .cells g2 34 VT.zs34])) (Drops.trans (.keep (.keep (.keep (.drop (.refl _))))) (.of_perm ?_)) ?_
      · rw [hcell, hP2]; exact .cons _ (List.perm_append_comm (l₁ := [_, _]))
      refine freeze_blocks r.g _ (pairsG f rows2) [] [.cells g6 34 [.int f.name, xLeaf (some r)], .cells g2 34 VT.zs34] (pairsG_ok hRl hT) ?_
      rw [pairsG_blocks (hIl.trans hRl)]
      refine VW_freezeC 0 0 1 (sz := 7) (rest := r.rest) ((preF f).blocks.map blockV) rfl rfl rfl (pre_flat _) (by rw [Yd]; exact hpre.symm) c1 c2 (fits_bs _) ?_
      show VW Tryz.prog _ _ _ _ [.cells g6 34 [.int f.name, blocksX (preF f).blocks], .cells g2 34 VT.zs34]
      refine Zb (Zd (Zc (Zv 0 VT.ty34 rfl rfl rfl (Zc (Zx 1 VT.ty34 rfl rfl rfl rfl rfl (Zc (Zk rfl (Za (Zi (Zf1 ?_))))))))))
      refine Zh1 rfl rfl (.cons (.agg (i := 1) VT.ty34 rfl rfl rfl) (.cons (.tmp rfl) (.nil))) ?_
      rw [hr2]
      rfl
 ·
  rw [if_pos h0] at hr
  refine Zc (Zx1 [.tmp 15] rfl rfl VT.en10 (Find_e h0) ?_)
  refine Zc (Zl rfl (Zc (Zg2 rfl rfl (Zc (Zg2 rfl rfl (Zc (Zk rfl (Zc (Zk rfl (Za (Zi (Zb (Zb (Zd (Zc (Zl rfl (Zc (Zj1 rfl rfl rfl (Za (Zi ?_))))))))))))))))))))
  refine Zm1 rfl (fun h20 => ?_) (fun h20 => ?_)
  ·
   refine Zb (Zd ?_)
   refine Zc (Zf2 [] [] VT.st34 rfl rfl rfl rfl ?_)
   refine Zc (Zl rfl (Zc (Zx 0 VT.ty34 rfl rfl rfl rfl rfl (Zc (Zk rfl (Za (Zi (Zf1 ?_))))))))
   refine Zd1 (Zh1 rfl rfl (.cons (.agg (i := 0) VT.ty34 rfl rfl rfl) (.cons (.tmp rfl) (.nil))) ?_)
   rw [hr]
   rfl
  · exact absurd h20 h0
end Go.Proofs.YtjekhhgjfelpgaaGreat.X78
