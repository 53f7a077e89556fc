import Derived.Test.YtjekhhgjfelpgaaGreatV4
set_option linter.all false
open List renaming length_take → Ya, all_eq_true → Yb
namespace Go.VL
section
variable {P : Program} {nt : Nat} {F : Fr} {S : Store} {K : Option V → Store → Prop}
variable {d : Option Tmp} {ty : TypeId} {pos : String} {af : Array Edge} {gd : Option (Nat × Bool)}
theorem callFunc_run {f : FuncId} (hen : Enters P f) (args : Array Value) (w : World) : (callFunc f args).run P w = .ok (.enter f args) w := by
  obtain ⟨fn, h1, h2, h3⟩ := hen.fn
  have h2' : ¬ fn.name = "runtime.NumGoroutine" := by intro h; simp [h] at h2
  have h3' : ¬ fn.body = none := by intro h; simp [h] at h3
  simp [callFunc, h1, h2', h3']
theorem calls_op {o : Oper} {f : FuncId} {vs : List V} {Sa Sb : Store} {R : V → Store → Prop} (hen : Enters P f) (hp : S.Perm (Sa ++ Sb)) (hc : VCalls P f vs Sa R) (hk : ∀ r Sa', R r Sa' → K (some r) (Sa' ++ Sb))
  (hrun : ∀ m w ac, FRel m nt F ac → ∃ us, RepL m vs us ∧ (execOp ac.eval o).run P w = .ok (.enter f us.toArray) w) : VOp P nt o F S K := by
 intro m w ac KK QQ hf hw hK
 obtain ⟨us, hus, hr⟩ := hrun m w ac hf
 have hw' := hw.perm hp
 unfold Oper.wp
 rw [hr]
 simp only [Oper.upon]
 refine (hc m w us hus hw'.left).mono fun e w' h => ?_
 obtain ⟨r, S', m', u, hR, rfl, hu, st⟩ := h
 exact hK _ _ m' w' u (hk r S' hR) hu ((Step.frame hw' st).permL hp)
theorem V_call {f : FuncId} {args : Array Operand} {ats : Array TypeId} (xs : List Operand) {vs : List V} (Sa Sb : Store) {R : V → Store → Prop} (ha : args.toList = xs) (hv : evs F xs = some vs) (hen : Enters P f) (hp : S.Perm (Sa ++ Sb)) (hc : VCalls P f vs Sa R)
  (hk : ∀ r Sa', R r Sa' → K (some r) (Sa' ++ Sb)) : VOp P nt ⟨d, .call ⟨.value (.func f), args, ats⟩, ty, pos, af, gd⟩ F S K := by
 refine calls_op hen hp hc hk fun m w ac hf => ⟨xs.map ac.eval, evs_rep hf hv, ?_⟩
 have he : ac.eval (.func f) = .func (.func f) #[] #[] := rfl
 simp only [execOp, resolve, he, Deferred.ofValue, Sem.run_bind, Sem.run_pure, Result.andThen_ok, invoke, callFunc_run hen]
 congr 2
 apply Array.ext'
 simp [ha]
theorem V_callClo {f : FuncId} {q : Tmp} {args : Array Operand} {ats : Array TypeId} (xs : List Operand) {vs caps : List V} (Sa Sb : Store) {R : V → Store → Prop} (hq : F.get q = some (.clo (.func f) caps)) (ha : args.toList = xs) (hv : evs F xs = some vs) (hen : Enters P f) (hp : S.Perm (Sa ++ Sb)) (hc : VCalls P f (vs ++ caps) Sa R)
  (hk : ∀ r Sa', R r Sa' → K (some r) (Sa' ++ Sb)) : VOp P nt ⟨d, .call ⟨.value (.tmp q), args, ats⟩, ty, pos, af, gd⟩ F S K := by
 refine calls_op hen hp hc hk fun m w ac hf => ?_
 obtain ⟨us, he, hu⟩ := hf.ev (x := .tmp q) hq
 refine ⟨xs.map ac.eval ++ us.toList, (evs_rep hf hv).append hu, ?_⟩
 simp only [execOp, resolve, he, Deferred.ofValue, Sem.run_bind, Sem.run_pure, Result.andThen_ok, invoke, callFunc_run hen]
 congr 2
 apply Array.ext'
 simp [ha]
theorem V_makeFunc {f : FuncId} {caps : Array Operand} (xs : List Operand) {vs : List V} (ha : caps.toList = xs) (hv : evs F xs = some vs) (hk : K (some (.clo (.func f) vs)) S) : VOp P nt ⟨d, .makeFunc (.func f) #[] caps, ty, pos, af, gd⟩ F S K := by
 refine VOp_pure _ (fun m w ac hf hw => ?_) hk
 refine ⟨.func (.func f) #[] (caps.map ac.eval), ?_, caps.map ac.eval, rfl, ?_⟩
 ·simp [execOp, Instr.makeFunc]
 ·rw [Array.toList_map, ha]
  exact evs_rep hf hv
structure StructTy (P : Program) (t : TypeId) (places : List (Nat × Nat)) (zs : List V) : Prop where
 all : ∃ fs i z, P.underlying t = some (.struct fs) ∧ P.info? t = some i ∧ i.zero = some z ∧ fs.toList.mapM (fun f => (P.info? f.type).map fun i => (f.offset, i.size)) = some places ∧ z.cells.toList.map V.raw = zs
 leaf : zs.all V.leaf = true
def vfill (places : List (Nat × Nat)) : List V → List (Nat × V) → Option (List V)
 | ls, [] => some ls
 | ls, (i, v) :: rest => match places[i]? with
  | some (off, sz) => bif v.fits sz && Nat.ble (off + sz) ls.length then vfill places (ls.take off ++ v.leaves ++ ls.drop (off + sz)) rest else none
  | none => none
theorem vfill_rep {m : Mem} {places : List (Nat × Nat)} : ∀ {parts : List (Nat × V)} {us : List (Nat × Value)} {ls ls' : List V} {cells : Array Value},
  us.map (·.1) = parts.map (·.1) → RepL m (parts.map (·.2)) (us.map (·.2)) → RepL m ls cells.toList → ls.all V.leaf = true → vfill places ls parts = some ls' →
  ∃ cells', Instr.fill (places[·]?) cells us = some cells' ∧ RepL m ls' cells'.toList ∧ ls'.all V.leaf = true
 | [], us, ls, ls', cells, h1, h2, h3, h4, h5 => by
  have : us = [] := by cases us <;> simp_all
  subst this
  injection h5 with h5
  subst h5
  exact ⟨cells, rfl, h3, h4⟩
 | (i, v) :: parts, us, ls, ls', cells, h1, h2, h3, h4, h5 => by
  cases us with
  | nil => simp at h1
  | cons q us =>
   obtain ⟨j, u⟩ := q
   simp only [List.map_cons, List.cons.injEq] at h1
   obtain ⟨rfl, h1⟩ := h1
   obtain ⟨u0, us0, he, hr, h2⟩ := h2
   simp only [List.map_cons, List.cons.injEq] at he
   obtain ⟨rfl, he⟩ := he
   subst he
   simp only [vfill] at h5
   cases hp : places[j]? with
   | none => rw [hp] at h5; cases h5
   | some os =>
    obtain ⟨off, sz⟩ := os
    rw [hp] at h5
    dsimp only at h5
    cases hc : (v.fits sz && Nat.ble (off + sz) ls.length) with
    | false => rw [hc] at h5; cases h5
    | true =>
     rw [hc, cond_true] at h5
     simp only [Bool.and_eq_true] at hc
     obtain ⟨hfit, hble⟩ := hc
     have hle := Nat.le_of_ble_eq_true hble
     obtain ⟨hus, huo⟩ := fits_rep hr hfit
     have hff := hfit
     simp only [V.fits, Bool.and_eq_true] at hff
     obtain ⟨hrc, _⟩ := hr.cells hff.1
     have hcl := h3.length
     have hcs : cells.size = ls.length := by simpa using hcl
     have hul : u.cells.toList.length = sz := by rw [Array.length_toList]; exact hus
     have hfold := foldl_set_at u.cells.toList (cells.toList.take off) (cells.toList.drop (off + sz)) off (by rw [Ya]; omega) ((cells.toList.drop off).take sz) (by rw [Ya, List.length_drop, hul]; omega)
     have hsplit : cells.toList.take off ++ (cells.toList.drop off).take sz ++ cells.toList.drop (off + sz) = cells.toList := by
      rw [List.append_assoc, ← List.drop_drop, List.take_append_drop, List.take_append_drop]
     rw [hsplit] at hfold
     have hfold' : Array.foldl (fun cs (x : Value × Nat) => match x with | (c, j) => cs.setIfInBounds (off + j) c) cells u.cells.zipIdx = (cells.toList.take off ++ u.cells.toList ++ cells.toList.drop (off + sz)).toArray := by
      have : u.cells.toList.toArray = u.cells := by simp
      rw [this] at hfold
      simpa using hfold
     have hall : (ls.take off ++ v.leaves ++ ls.drop (off + sz)).all V.leaf = true := by
      rw [Yb] at h4 ⊢
      intro y hy
      rcases List.mem_append.1 hy with hy | hy
      ·rcases List.mem_append.1 hy with hy | hy
       ·exact h4 y (List.mem_of_mem_take hy)
       ·exact Yb.1 hff.1 y hy
      ·exact h4 y (List.mem_of_mem_drop hy)
     obtain ⟨cells', g1, g2, g3⟩ := vfill_rep (cells := (cells.toList.take off ++ u.cells.toList ++ cells.toList.drop (off + sz)).toArray) h1 h2
      (by simpa using ((h3.take off).append hrc).append (h3.drop (off + sz))) hall h5
     refine ⟨cells', ?_, g2, g3⟩
     simp only [Instr.fill, hp]
     rw [if_neg (by simp [hus]; omega), hfold']
     exact g1
theorem V_build {t : TypeId} {places : List (Nat × Nat)} {zs : List V} {parts : Array (Nat × Operand)} (is : List Nat) (xs : List Operand) {vs ls : List V} (ht : StructTy P t places zs) (hp : parts.toList = is.zip xs) (hl : Nat.beq is.length xs.length = true) (hv : evs F xs = some vs) (hfill : vfill places zs (is.zip vs) = some ls)
  (hk : K (some (.agg ls)) S) : VOp P nt ⟨d, .build t parts, ty, pos, af, gd⟩ F S K := by
 refine VOp_pure _ (fun m w ac hf hw => ?_) hk
 obtain ⟨fs, i, z, h1, h2, h3, h4, h5⟩ := ht.all
 have hl := Nat.eq_of_beq_eq_true hl
 have hrep := evs_rep hf hv
 have hvl : vs.length = xs.length := by have := hrep.length; rw [List.length_map] at this; omega
 have hraw : ∀ (us : List Value), RepL m (us.map V.raw) us := fun us => by
  induction us with
  | nil => rfl
  | cons u us ih => exact ⟨u, us, rfl, rfl, ih⟩
 have hus : (parts.map fun (x : Nat × Operand) => (x.1, ac.eval x.2)).toList = is.zip (xs.map ac.eval) := by
  rw [Array.toList_map, hp, List.zip_map_right]
  rfl
 obtain ⟨cells', g1, g2, g3⟩ := vfill_rep (us := is.zip (xs.map ac.eval)) (cells := z.cells) (parts := is.zip vs) (by rw [List.map_fst_zip (by simp; omega), List.map_fst_zip (by omega)])
  (by rw [List.map_snd_zip (by omega), List.map_snd_zip (by simp; omega)]; exact hrep) (by rw [← h5]; exact hraw _) ht.leaf hfill
 refine ⟨.agg cells', ?_, g3, cells', rfl, g2⟩
 have hb : P.built t (parts.map fun (x : Nat × Operand) => (x.1, ac.eval x.2)).toList = some cells' := by
  unfold Program.built
  simp only [h2, h1, h3, h4]
  rw [hus]
  have : (fun (i : Nat) => places.toArray[i]?) = (fun (i : Nat) => places[i]?) := by funext i; simp
  rw [this]
  exact g1
 simp only [execOp, Sem.run_bind, run_build w t _ cells' hb, Result.andThen_ok]
 rfl
inductive ResOk (P : Program) (F : Fr) (S : Store) : ResultVar → V → Prop where
 | tmp {t : Tmp} {v : V} (h : F.get t = some v) : ResOk P F S (.tmp t) v
 | strip {t : Tmp} {sz : Nat} {tok : Option Tok} {xs : List V} (h : F.get t = some (.sl sz tok xs)) : ResOk P F S (.tmp t) (.sl sz none xs)
 | agg {a : Tmp} {t sz i g o : Nat} {T : TypeId} {ls : List V} (ht : AggTy P t sz) (h : F.get a = some (.ptr g o)) (hS : S[i]? = some (.cells g T ls)) (hl : Nat.ble (o + sz) ls.length = true) : ResOk P F S (.cell a t) (.agg ((ls.drop o).take sz))
 | leaf {a : Tmp} {t i g o : Nat} {T : TypeId} {ls : List V} {v : V} (ht : LeafTy P t) (h : F.get a = some (.ptr g o)) (hS : S[i]? = some (.cells g T ls)) (hv : ls[o]? = some v) : ResOk P F S (.cell a t) v
theorem ResOk.run {x : ResultVar} {v : V} (h : ResOk P F S x v) {m : Mem} {w : World} {a : Act} (hf : FRel m nt F a) (hw : WRel m S w) :
  ∃ u, (match x with | .tmp t => pure (a.tmps.getD t undef) | .cell p t => do loadVar t (← asAddr (a.tmps.getD p undef)) : Sem Value).run P w = .ok u w ∧ Rep m v u := by
 cases h with
 | tmp h => exact ⟨_, rfl, hf.get _ _ h⟩
 | strip h =>
  obtain ⟨A, cap, h1, h2, h3, _, h4⟩ := hf.get _ _ h
  exact ⟨_, rfl, A, cap, h1, h2, h3, trivial, h4⟩
 | @agg p t sz i g o T ls ht h hS hl =>
  have hl := Nat.le_of_ble_eq_true hl
  have hp : a.tmps.getD p undef = .pointer (some ⟨g, o, none⟩) := hf.get _ _ h
  obtain ⟨hall, ⟨cs, hh, hr⟩, _⟩ := own_cells hw hS
  have hcl := hr.length
  obtain ⟨dd, h1, h2⟩ := ht.desc
  have hll : ((cs.toList.drop o).take sz).length = sz := by simp only [Ya, List.length_drop, hcl]; omega
  refine ⟨.agg ((cs.toList.drop o).take sz).toArray, ?_, ?_, _, rfl, (hr.drop o).take sz⟩
  ·simp only [hp, asAddr, Sem.run_bind, Sem.run_pure, Result.andThen_ok]
   refine run_loadVar_mid w g o t _ dd (fun j v hv => ?_) h1 h2 (by rw [hll]; exact ht.size)
   rw [List.getElem?_take] at hv
   split at hv
   ·rw [List.getElem?_drop] at hv
    exact cell_at hh hv
   ·cases hv
  ·rw [Yb] at hall ⊢
   exact fun x hx => hall x (List.mem_of_mem_drop (List.mem_of_mem_take hx))
 | @leaf p t i g o T ls v ht h hS hv =>
  have hp : a.tmps.getD p undef = .pointer (some ⟨g, o, none⟩) := hf.get _ _ h
  obtain ⟨hall, ⟨cs, hh, hr⟩, _⟩ := own_cells hw hS
  obtain ⟨u, hu, hru⟩ := hr.get hv
  exact ⟨u, by simp [hp, asAddr, ht.run_loadVar, cell_at hh hu], hru⟩
inductive ResOks (P : Program) (F : Fr) (S : Store) : List ResultVar → List V → Prop where
 | nil : ResOks P F S [] []
 | cons {x : ResultVar} {v : V} {xs : List ResultVar} {vs : List V} (h : ResOk P F S x v) (t : ResOks P F S xs vs) : ResOks P F S (x :: xs) (v :: vs)
theorem ResOks.run {xs : List ResultVar} {vs : List V} (h : ResOks P F S xs vs) {m : Mem} {w : World} {a : Act} (hf : FRel m nt F a) (hw : WRel m S w) (f : ResultVar → Sem Value) (f1 : ∀ t, f (.tmp t) = pure (a.tmps.getD t undef)) (f2 : ∀ p t, f (.cell p t) = (do loadVar t (← asAddr (a.tmps.getD p undef)))) :
  ∃ us, (xs.mapM f).run P w = .ok us w ∧ RepL m vs us := by
 induction h with
 | nil => exact ⟨[], by simp, rfl⟩
 | @cons x v xs vs h t ih =>
  obtain ⟨u, hu, hru⟩ := h.run hf hw
  obtain ⟨us, hus, hrus⟩ := ih
  refine ⟨u :: us, ?_, u, us, rfl, hru, hrus⟩
  have hx : (f x).run P w = .ok u w := by
   cases x with
   | tmp t => rw [f1]; exact hu
   | cell p t => rw [f2]; exact hu
  rw [List.mapM_cons]
  simp only [Sem.run_bind, hx, hus, Result.andThen_ok, Sem.run_pure]
def resF (tmps : Array Value) : ResultVar → Sem Value
 | .tmp t => pure (tmps.getD t undef)
 | .cell p t => do loadVar t (← asAddr (tmps.getD p undef))
theorem results_eq (fn : Func) (tmps : Array Value) : results fn tmps = (do let vs ← fn.results.mapM (resF tmps); pure (if h : vs.size = 1 then vs[0] else .tuple vs)) := by
 unfold results
 congr 1
theorem ResOks.length {xs : List ResultVar} {vs : List V} (h : ResOks P F S xs vs) : xs.length = vs.length := by
 induction h with
 | nil => rfl
 | cons _ _ ih => simp [ih]
theorem VRes_one {fn : Func} {x : ResultVar} {v : V} (hr : fn.results.toList = [x]) (h : ResOk P F S x v) : VRes P nt fn F S v := by
 intro m w a hf hw
 have h' : ResOks P F S [x] [v] := .cons h .nil
 rw [results_eq, Array.mapM_eq_mapM_toList, hr]
 simp only [Sem.run_bind, Sem.run_map]
 obtain ⟨us, hus, u, us', rfl, hru, rfl⟩ := h'.run hf hw (resF a.tmps) (fun _ => rfl) (fun _ _ => rfl)
 exact ⟨u, by rw [hus]; simp, hru⟩
theorem VRes_many {fn : Func} {xs : List ResultVar} {vs : List V} (hr : fn.results.toList = xs) (hn : Nat.beq xs.length 1 = false) (h : ResOks P F S xs vs) : VRes P nt fn F S (.tup vs) := by
 intro m w a hf hw
 rw [results_eq, Array.mapM_eq_mapM_toList, hr]
 simp only [Sem.run_bind, Sem.run_map]
 obtain ⟨us, hus, hrus⟩ := h.run hf hw (resF a.tmps) (fun _ => rfl) (fun _ _ => rfl)
 have hlen : us.length ≠ 1 := by
  have h1 := hrus.length
  have h2 := h.length
  intro h3
  have : xs.length = 1 := by omega
  rw [this] at hn
  cases hn
 exact ⟨.tuple us.toArray, by rw [hus]; simp [hlen], us.toArray, rfl, by simpa using hrus⟩
end
end Go.VL
namespace Go.VL
theorem info_zero {P : Program} {t : TypeId} {z : Value} (h : (P.info? t).map (·.zero) = some (some z)) : ∃ i, P.info? t = some i ∧ i.zero = some z := by
 cases hq : P.info? t with
 | none => simp [hq] at h
 | some i => exact ⟨i, rfl, by simpa [hq] using h⟩
theorem info_all {P : Program} {e sz bytes : Nat} {z : Value} (h : (P.info? e).map (fun i => (i.size, i.bytes, i.zero)) = some (sz, bytes, some z)) : ∃ i, P.info? e = some i ∧ i.size = sz ∧ i.bytes = bytes ∧ i.zero = some z := by
 cases hq : P.info? e with
 | none => simp [hq] at h
 | some i => simp [hq] at h; exact ⟨i, rfl, h.1, h.2.1, h.2.2⟩
end Go.VL
namespace Go.VL
def Drops (S T : Store) : Prop := ∃ R, S.Perm (R ++ T)
theorem Drops.refl (S : Store) : Drops S S := ⟨[], .refl _⟩
theorem Drops.of_perm {S T : Store} (h : S.Perm T) : Drops S T := ⟨[], h⟩
theorem Drops.drop {e : Own} {S T : Store} (h : Drops S T) : Drops (e :: S) T := by
 obtain ⟨R, h⟩ := h
 exact ⟨e :: R, h.cons e⟩
theorem Drops.keep {e : Own} {S T : Store} (h : Drops S T) : Drops (e :: S) (e :: T) := by
 obtain ⟨R, h⟩ := h
 exact ⟨R, (h.cons e).trans List.perm_middle.symm⟩
theorem Drops.buf {t : Tok} {T sz n n' : Nat} {S U : Store} (h : n = n') (k : Drops S U) : Drops (.buf t T sz n :: S) (.buf t T sz n' :: U) := by
 subst h
 exact k.keep
theorem Drops.nil (S : Store) : Drops S [] := ⟨S, by simp⟩
theorem Drops.swap {e f : Own} {S T : Store} (h : Drops (f :: e :: S) T) : Drops (e :: f :: S) T := by
 obtain ⟨R, h⟩ := h
 exact ⟨R, (List.Perm.swap _ _ _).trans h⟩
theorem Drops.step {m : Mem} {S T : Store} {w : World} (h : Drops S T) (hw : WRel m S w) : Step m S w m T w := by
 obtain ⟨R, h⟩ := h
 exact (Step.dropAll (hw.perm h)).permL h
section
variable {P : Program} {nt : Nat} {F : Fr} {S : Store} {Q : Exit → Fr → Store → Prop} {K : Option V → Store → Prop}
theorem VW_sub {c : Code} {F' : Fr} {S' : Store} (hs : Fr.sub F' F) (hd : Drops S S') (h : VW P nt c Q F' S') : VW P nt c Q F S :=
 fun m w a QQ hf hw hK => h m w a QQ (hf.sub hs) (hd.step hw).rel fun e F2 S2 m2 w2 a2 k hf2 st => hK e F2 S2 m2 w2 a2 k hf2 ((hd.step hw).trans st)
theorem Then_n {next : Fr → Store → Prop} (h : next F S) : Then next Q .normal F S := h
theorem Then_e {next : Fr → Store → Prop} {id : Nat} (h : Q (.exit id) F S) : Then next Q (.exit id) F S := h
theorem Then_r {next : Fr → Store → Prop} (h : Q .ret F S) : Then next Q .ret F S := h
theorem InBlock_n {id : Nat} (h : Q .normal F S) : InBlock id Q .normal F S := h
theorem InBlock_r {id : Nat} (h : Q .ret F S) : InBlock id Q .ret F S := h
theorem InBlock_hit {id : Nat} (h : Q .normal F S) : InBlock id Q (.exit id) F S := by
 simp only [InBlock, Nat.beq_refl, cond_true]
 exact h
theorem VW_cut {x y : Code} (A : Fr → Store → Prop) (h1 : VW P nt x (Then A Q) F S) (h2 : ∀ F S, A F S → VW P nt y Q F S) : VW P nt (.seq x y) Q F S :=
 VW_seq (h1.mono fun e F S k => by cases e <;> first | exact h2 F S k | exact k)
theorem VW_loopF {ι : Type} {c : Code} (mu : ι → Nat) (Fi : ι → Fr) (Si : ι → Store) (A : ι → Prop) (i0 : ι) (h0 : A i0) (hF : Fr.sub (Fi i0) F) (hS : Drops S (Si i0))
  (round : ∀ i, A i → VW P nt c (Then (fun F' S' => ∃ j, mu j < mu i ∧ A j ∧ Fr.sub (Fi j) F' ∧ Drops S' (Si j)) Q) (Fi i) (Si i)) : VW P nt (.loop c) Q F S := by
 refine VW_loop (fun n F S => ∃ i, mu i = n ∧ A i ∧ Fr.sub (Fi i) F ∧ Drops S (Si i)) (mu i0) ⟨i0, rfl, h0, hF, hS⟩ ?_
 rintro n F S ⟨i, rfl, hA, hs, hd⟩
 refine VW_sub hs hd ((round i hA).mono fun e F S k => ?_)
 cases e with
 | normal =>
  obtain ⟨j, h1, h2, h3, h4⟩ := k
  exact ⟨mu j, h1, j, rfl, h2, h3, h4⟩
 | _ => exact k
def VPure (P : Program) (f : FuncId) (args : List V) (r : V) : Prop := VCalls P f args [] fun r' _ => r' = r
variable {d : Option Tmp} {ty : TypeId} {pos : String} {af : Array Edge} {gd : Option (Nat × Bool)}
theorem VCalls.forget {f : FuncId} {args : List V} {S : Store} {R : V → Store → Prop} (h : VCalls P f args S fun r _ => R r []) : VCalls P f args S fun r S' => R r S' ∧ S' = [] :=
 fun m w us ha hw => (h m w us ha hw).mono fun e w' ⟨r, S', m', u, k, he, hr, st⟩ => ⟨r, [], m', u, ⟨k, rfl⟩, he, hr, st.trans ((Drops.nil S').step st.rel)⟩
theorem V_callP {f : FuncId} {args : Array Operand} {ats : Array TypeId} (xs : List Operand) {vs : List V} {r : V} (ha : args.toList = xs) (hv : evs F xs = some vs) (hen : Enters P f) (hc : VPure P f vs r) (hk : K (some r) S) :
  VOp P nt ⟨d, .call ⟨.value (.func f), args, ats⟩, ty, pos, af, gd⟩ F S K :=
 V_call xs [] S ha hv hen (.refl _) (VCalls.forget (R := fun r' _ => r' = r) hc) fun r' Sa' h => by obtain ⟨rfl, rfl⟩ := h; exact hk
theorem V_callCloP {f : FuncId} {q : Tmp} {args : Array Operand} {ats : Array TypeId} (xs : List Operand) {vs caps : List V} {r : V} (hq : F.get q = some (.clo (.func f) caps)) (ha : args.toList = xs) (hv : evs F xs = some vs) (hen : Enters P f) (hc : VPure P f (vs ++ caps) r) (hk : K (some r) S) :
  VOp P nt ⟨d, .call ⟨.value (.tmp q), args, ats⟩, ty, pos, af, gd⟩ F S K :=
 V_callClo xs [] S hq ha hv hen (.refl _) (VCalls.forget (R := fun r' _ => r' = r) hc) fun r' Sa' h => by obtain ⟨rfl, rfl⟩ := h; exact hk
theorem V_start {f : FuncId} {fn : Func} {c : Code} {args : List V} {R : V → Store → Prop} (hf : P.funcs[f]? = some fn) (hb : fn.body = some c) (hnt : fn.ntmps = nt)
  (hn : Nat.ble args.length nt = true) (h : VW P nt c (VRet P nt fn R) (argFr 0 args) S) : VCalls P f args S R := by
 subst hnt
 exact VCalls_of hf hb hn h
theorem VRet_one {fn : Func} {R : V → Store → Prop} {x : ResultVar} {v : V} (hr : fn.results.toList = [x]) (h : ResOk P F S x v) (hR : R v S) : VRet P nt fn R .ret F S := ⟨v, VRes_one hr h, hR⟩
theorem VRet_many {fn : Func} {R : V → Store → Prop} {xs : List ResultVar} {vs : List V} (hr : fn.results.toList = xs) (hn : Nat.beq xs.length 1 = false) (h : ResOks P F S xs vs) (hR : R (.tup vs) S) : VRet P nt fn R .ret F S := ⟨_, VRes_many hr hn h, hR⟩
theorem VW_condP {c : Operand} {x y : Code} {p : Prop} [Decidable p] (hc : F.ev c = some (.bool (decide p))) (ht : p → VW P nt x Q F S) (he : ¬ p → VW P nt y Q F S) : VW P nt (.cond c x y) Q F S :=
 VW_cond hc (fun h => ht (of_decide_eq_true h)) (fun h => he (of_decide_eq_false h))
theorem VW_condEq {α : Type} [BEq α] [LawfulBEq α] {c : Operand} {x y : Code} {a b : α} (hc : F.ev c = some (.bool (a == b))) (ht : a = b → VW P nt x Q F S) (he : a ≠ b → VW P nt y Q F S) : VW P nt (.cond c x y) Q F S :=
 VW_cond hc (fun h => ht (eq_of_beq h)) (fun h => he (fun e => by subst e; simp at h))
theorem VW_condNe {α : Type} [BEq α] [LawfulBEq α] {c : Operand} {x y : Code} {a b : α} (hc : F.ev c = some (.bool (a != b))) (ht : a ≠ b → VW P nt x Q F S) (he : a = b → VW P nt y Q F S) : VW P nt (.cond c x y) Q F S :=
 VW_cond hc (fun h => ht (fun e => by subst e; simp at h)) (fun h => he (by simpa using h))
theorem VW_condN {c : Operand} {x y : Code} {b : Bool} (hc : F.ev c = some (.bool (!b))) (ht : b = false → VW P nt x Q F S) (he : b = true → VW P nt y Q F S) : VW P nt (.cond c x y) Q F S :=
 VW_cond hc (fun h => ht (by simpa using h)) (fun h => he (by simpa using h))
theorem VW_condT {c : Operand} {x y : Code} {b : Bool} (hc : F.ev c = some (.bool b)) (h : b = true) (ht : VW P nt x Q F S) : VW P nt (.cond c x y) Q F S :=
 VW_cond hc (fun _ => ht) (fun h' => by rw [h] at h'; cases h')
theorem VW_condF {c : Operand} {x y : Code} {b : Bool} (hc : F.ev c = some (.bool b)) (h : b = false) (he : VW P nt y Q F S) : VW P nt (.cond c x y) Q F S :=
 VW_cond hc (fun h' => by rw [h] at h'; cases h') (fun _ => he)
variable {ops l : List Oper} {Q' : Fr → Store → Prop} {o : Oper}
theorem VOps_split {q : Tmp} {b : Bool} (hq : F.get q = some (.bool b)) (ht : b = true → VOps P nt ops l F S Q') (he : b = false → VOps P nt ops l F S Q') : VOps P nt ops l F S Q' := by
 cases b
 ·exact he rfl
 ·exact ht rfl
theorem want_eq {j : Nat} {want b : Bool} {q : Tmp} (hg : o.guard = some (j, want)) (hd : (ops[j]?).bind (·.dst) = some q) (hF : F.get q = some (.bool b)) : wantOf ops F o = some (b == want) := by
 unfold wantOf
 rw [hg]
 dsimp only
 rw [hd]
 dsimp only
 rw [hF]
theorem want_of {j : Nat} {want b : Bool} {q : Tmp} (hg : o.guard = some (j, want)) (hd : (ops[j]?).bind (·.dst) = some q) (hF : F.get q = some (.bool b)) (h : b = want) : wantOf ops F o = some true := by
 rw [want_eq hg hd hF, h]
 simp
theorem skip_of {j : Nat} {want b : Bool} {q : Tmp} (hg : o.guard = some (j, want)) (hd : (ops[j]?).bind (·.dst) = some q) (hF : F.get q = some (.bool b)) (h : b = !want) : wantOf ops F o = some false := by
 rw [want_eq hg hd hF, h]
 cases want <;> rfl
theorem V_pickT {c x y : Operand} {b : Bool} {v : V} (hc : F.ev c = some (.bool b)) (h : b = true) (hv : F.ev x = some v) (hk : K (some v) S) : VOp P nt ⟨d, .pick c x y, ty, pos, af, gd⟩ F S K := by
 subst h
 exact V_pick hc hv hk
theorem V_pickF {c x y : Operand} {b : Bool} {v : V} (hc : F.ev c = some (.bool b)) (h : b = false) (hv : F.ev y = some v) (hk : K (some v) S) : VOp P nt ⟨d, .pick c x y, ty, pos, af, gd⟩ F S K := by
 subst h
 exact V_pick hc hv hk
end
end Go.VL
