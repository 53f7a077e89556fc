import Derived.Test.YtjekhhgjfelpgaaGreatVC
set_option linter.all false
namespace Go.VL
section
variable {P : Program} {nt : Nat} {F : Fr} {S : Store} {K : Option V → Store → Prop} {d : Option Tmp} {ty : TypeId} {pos : String} {af : Array Edge} {gd : Option (Nat × Bool)}
structure Two (P : Program) (t : TypeId) (f1 f2 : Field) : Prop where
  und : P.underlying t = some (.struct #[f1, f2])
  n1 : (f1.name != "_") = true
  n2 : (f2.name != "_") = true
  o1 : f1.offset = 0
  o2 : f2.offset = 1
  t1 : P.underlying f1.type = some (.int .i64)
  t2 : P.underlying f2.type = some (.int .i64)
  held : P.stoodInHeld t = false
theorem run_eq_two {t : TypeId} {f1 f2 : Field} (h : Two P t f1 f2) (w : World) (a b c d : Int) :
    (Op.equal t (.agg #[.int .i64 a, .int .i64 b]) (.agg #[.int .i64 c, .int .i64 d])).run P w = .ok (a == c && b == d) w := by
  have hag1 : ∀ w, (isAgg f1.type).run P w = .ok false w := fun w => by simp [isAgg, run_underlying h.t1]
  have hag2 : ∀ w, (isAgg f2.type).run P w = .ok false w := fun w => by simp [isAgg, run_underlying h.t2]
  have hi1 : ∀ (w : World) (x y : Int), (Op.equalIn 9999 f1.type (.int .i64 x) (.int .i64 y)).run P w = .ok (x == y) w := fun w x y => by
    rw [show (9999 : Nat) = 9998 + 1 from rfl, Op.equalIn]
    simp [run_underlying h.t1]
  have hi2 : ∀ (w : World) (x y : Int), (Op.equalIn 9999 f2.type (.int .i64 x) (.int .i64 y)).run P w = .ok (x == y) w := fun w x y => by
    rw [show (9999 : Nat) = 9998 + 1 from rfl, Op.equalIn]
    simp [run_underlying h.t2]
  have e1 : f1.name ≠ "_" := by simpa using h.n1
  have e2 : f2.name ≠ "_" := by simpa using h.n2
  unfold Op.equal
  rw [show Op.maxDepth = 9999 + 1 from rfl, Op.equalIn]
  simp only [Sem.run_bind, run_underlying h.und, Result.andThen_ok]
  by_cases h1 : a = c <;> by_cases h2 : b = d <;> simp [h1, h2, hi1, hi2, hag1, hag2, e1, e2, h.o1, h.o2, part, h.held, Sem.run_bind]
theorem V_eqTwo {t t2 : TypeId} {f1 f2 : Field} {x y : Operand} {a b c d' : Int} (h : Two P t f1 f2) (hg : P.eqGuardType P.depth t = false)
  (hx : F.ev x = some (.agg [.int a, .int b])) (hy : F.ev y = some (.agg [.int c, .int d'])) (hk : K (some (.bool (((a, b) == (c, d'))))) S) :
  VOp P nt ⟨d, .binOp .eql t x y t2, ty, pos, af, gd⟩ F S K := by
 have he : (a == c && b == d') = ((a, b) == (c, d')) := rfl
 rw [← he] at hk
 refine VOp_pure (some (.bool (a == c && b == d'))) (fun m w ac hf hw => ?_) hk
 have two : ∀ {p q : Int} {u : Value}, Rep m (.agg [.int p, .int q]) u → u = .agg #[.int .i64 p, .int .i64 q] := by
  rintro p q u ⟨_, cs, rfl, u1, us1, e1, r1, u2, us2, e2, r2, e3⟩
  have e3' : us2 = [] := e3
  have r1' : u1 = .int .i64 p := r1
  have r2' : u2 = .int .i64 q := r2
  subst e3' r1' r2'
  rw [e2] at e1
  congr 1
  exact Array.ext' e1
 have ha := two (hf.ev hx)
 have hb := two (hf.ev hy)
 refine ⟨.bool (a == c && b == d'), ?_, rfl⟩
 simp only [execOp, ha, hb, Sem.run_bind, eqGuard]
 simp only [binOp, Sem.run_bind, run_eq_two h, Result.andThen_ok]
 simp [hg]
theorem V_indexAddr_arr_ep {t e n : Nat} {x ix : Operand} {a : Addr} {ls : List V} {v : V} {k : Int} (ht : P.underlying t = some (.array n e)) (hsz : (P.info? e).map (·.size) = some 1) (hx : F.ev x = some (.ep a (.agg ls))) (hi : F.ev ix = some (.int k)) (h0 : 0 ≤ k) (h1 : k < n) (hv : ls[k.toNat]? = some v)
  (hk : K (some (.ep ⟨a.block, a.off + k.toNat, none⟩ v)) S) : VOp P nt ⟨d, .indexAddr t x ix, ty, pos, af, gd⟩ F S K := by
 refine VOp_pure _ (fun m w ac hf hw => ?_) hk
 obtain ⟨ha, hs, u, ⟨hl, cs, rfl, hr⟩, hat⟩ := hf.ev hx
 have hb : ac.eval ix = .int .i64 k := hf.ev hi
 obtain ⟨u, hu, hru⟩ := hr.get hv
 obtain ⟨b, o, sp⟩ := a
 dsimp only at hs
 subst hs
 refine ⟨.pointer (some ⟨b, o + k.toNat, none⟩), ?_, rfl, rfl, u, hru, fun j u' hu' => ?_⟩
 ·simp only [execOp, ha, hb, Instr.indexAt, asIntOf, Sem.run_bind, Sem.run_pure, Result.andThen_ok, run_underlying ht, Instr.sureAddr, run_sizeOf' hsz]
  simp [h0, h1, run_sizeOf' hsz, addr_add]
 ·have h1c : u.oneCell' = true := hru.oneCell (by rw [List.all_eq_true] at hl; exact hl v (List.mem_of_getElem? hv))
  rw [cells_oneCell h1c] at hu'
  have : j = 0 := by
   have := (List.getElem?_eq_some_iff.1 hu').1
   simp at this
   exact this
  subst this
  simp at hu'
  subst hu'
  exact hat k.toNat u hu
end
end Go.VL
