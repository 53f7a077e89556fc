import Derived.Test.YtimmnbdajflgmaaVF
set_option linter.unusedVariables false
namespace Go.VL
section
variable {P : Program} {nt : Nat} {F : Fr} {S : Store} {K : Option V → Store → Prop}
variable {d : Option Tmp} {ty : TypeId} {pos : String} {af : Array Edge} {gd : Option (Nat × Bool)}
theorem ne_nil_run (w : World) (t e : TypeId) (a : Option Addr) (n c : Nat) (h : P.underlying t = some (.slice e)) :
    (binOp .neq t (.slice a n c) (.slice none 0 0)).run P w = .ok (.bool (!a.isNone)) w := by
  simp only [binOp]
  simp [Op.equal, Op.maxDepth, Lib.run_equalIn_slice_nil w 9999 t e a n c 0 0 h]
theorem V_neNilF {t t2 e : Nat} {x : Operand} (ht : P.underlying t = some (.slice e)) (hx : F.ev x = some V.nilSl) (hk : K (some (.bool false)) S) :
    VOp P nt ⟨d, .binOp .neq t x (.const (.slice none 0 0)) t2, ty, pos, af, gd⟩ F S K := by
  refine VOp_pure _ (fun m w ac hf hw => ?_) hk
  have ha : ac.eval x = .slice none 0 0 := hf.ev hx
  refine ⟨.bool false, ?_, rfl⟩
  have hg : (eqGuard .neq t x (.const (.slice none 0 0)) (.slice none 0 0) (.slice none 0 0)).run P w = .ok () w := rfl
  simp only [execOp, ha, BigFrame.eval_const, Sem.run_bind, hg, Result.andThen_ok, ne_nil_run w t e _ _ _ ht]
  rfl
theorem V_neNilT {t t2 e sz : Nat} {tok : Option Tok} {x : Operand} {xs : List V} (ht : P.underlying t = some (.slice e)) (hx : F.ev x = some (.sl sz tok xs)) (hne : xs ≠ []) (hk : K (some (.bool true)) S) :
    VOp P nt ⟨d, .binOp .neq t x (.const (.slice none 0 0)) t2, ty, pos, af, gd⟩ F S K := by
  refine VOp_pure _ (fun m w ac hf hw => ?_) hk
  obtain ⟨A, cap, ha, hc, hm, _, hels⟩ := hf.ev hx
  rcases hels with h | ⟨b, off, rfl, _⟩
  · exact absurd h hne
  refine ⟨.bool true, ?_, rfl⟩
  have hg : (eqGuard .neq t x (.const (.slice none 0 0)) (.slice (some ⟨b, off, none⟩) xs.length cap) (.slice none 0 0)).run P w = .ok () w := rfl
  simp only [execOp, ha, BigFrame.eval_const, Sem.run_bind, hg, Result.andThen_ok, ne_nil_run w t e _ _ _ ht]
  rfl
theorem eq_fn_run (w : World) (d : Nat) {t : TypeId} {a b c} (h : P.underlying t = some (.func a b c)) (v : Value) (hv : v = .nilFunc ∨ ∃ f ts us, v = .func f ts us) :
    (Op.equalIn (d + 1) t v .nilFunc).run P w = .ok (match v with | .nilFunc => true | _ => false) w := by
  rcases hv with rfl | ⟨f, ts, us, rfl⟩ <;> simp [Op.equalIn, run_underlying h]
theorem ne_fn_run (w : World) {t : TypeId} {a b c} (h : P.underlying t = some (.func a b c)) (v : Value) (hv : v = .nilFunc ∨ ∃ f ts us, v = .func f ts us) :
    (binOp .neq t v .nilFunc).run P w = .ok (.bool (match v with | .nilFunc => false | _ => true)) w := by
  simp only [binOp]
  have h9 := eq_fn_run w 9999 h v hv
  rcases hv with rfl | ⟨f, ts, us, rfl⟩ <;> simp [Op.equal, Op.maxDepth, h9]
theorem V_fnNeF {t t2 : Nat} {a b c} {x : Operand} (ht : P.underlying t = some (.func a b c)) (hx : F.ev x = some (.raw .nilFunc)) (hk : K (some (.bool false)) S) :
    VOp P nt ⟨d, .binOp .neq t x (.const .nilFunc) t2, ty, pos, af, gd⟩ F S K := by
  refine VOp_pure _ (fun m w ac hf hw => ?_) hk
  have ha : ac.eval x = .nilFunc := hf.ev hx
  refine ⟨.bool false, ?_, rfl⟩
  have hg : (eqGuard .neq t x (.const .nilFunc) .nilFunc .nilFunc).run P w = .ok () w := rfl
  simp only [execOp, ha, BigFrame.eval_const, Sem.run_bind, hg, Result.andThen_ok, ne_fn_run w ht .nilFunc (.inl rfl)]
  rfl
end
section
variable {P : Program} {nt : Nat} {G : Type} {ops : List Oper} {F0 : Fr} {ps : List DP} {un : List Nat} {S0 : Store}
def modSt (cs : List (Nat × Own × (G → Own))) (base : Store) : List Nat → (Nat → G) → Store := fun dl γ => cs.map (fun c => bif has dl c.1 then c.2.2 (γ c.1) else c.2.1) ++ base
theorem modSt_eq (cs : List (Nat × Own × (G → Own))) (base : Store) (N : Nat) (d : Nat → Bool) (γ γ' : Nat → G) (h : ∀ p, d p = true → γ p = γ' p) : modSt cs base ((List.range N).filter d) γ = modSt cs base ((List.range N).filter d) γ' := by
  unfold modSt
  congr 1
  refine List.map_congr_left fun c _ => ?_
  cases hc : has ((List.range N).filter d) c.1 with
  | false => rfl
  | true => rw [h c.1 (List.mem_filter.1 (has_iff.1 hc)).2]
variable {i : Nat} {o : Oper} {acc : List (DRes G)} {R : DRes G} {St : List Nat → (Nat → G) → Store}
theorem goodMod {q : Nat} {l : List (List Nat)} (hu : isUn un i 0 = some q) (hs : stagesM ps un i = l) (h : AllL l fun dl => ∀ γ : Nat → G, Needs ops F0 ps acc γ (dpAt ps i).1 (dpAt ps i).2.1 fun F => VOpG ops P nt o F (St dl γ) fun r S' => ∃ x, R ((dpAt ps i).2.2.map (upd γ q x)) r ∧ S' = St (insM un.length q dl) (upd γ q x)) :
    OpGoodM ops F0 ps un St P nt i o acc R := by
  unfold OpGoodM
  rw [hu]
  subst hs
  have key : ∀ {l : List (List Nat)} {p p' : List Nat → Prop}, (∀ dl, p dl → p' dl) → AllL l p → AllL l p' := fun {l p p'} hp => by
    induction l with
    | nil => exact id
    | cons j t ih => exact fun h => ⟨hp _ h.1, ih h.2⟩
  refine key (fun dl hd γ => (hd γ).mono fun F hv => hv.mono fun r S' ⟨x, hx, e⟩ => ⟨x, hx, ?_⟩) h
  rw [e]
  exact Drops.refl _
theorem VW_drawMod [Inhabited G] {id : Nat} {Q : Exit → Fr → Store → Prop} (ps : List DP) (un : List Nat) (cs : List (Nat × Own × (G → Own))) (base : Store) (outs ws : List Nat) (hS0 : modSt cs base [] (fun _ => default) = S0) (hmix : P.follows .mixedOrders = true)
    (h : DrawM ops F0 ps un (modSt cs base) P nt 0 ops ([] : List (DRes G)).reverse fun acc => ∀ γ : Nat → G, Needs ops F0 ps acc γ (List.range ops.length).reverse outs fun F => Q .normal (F ++ (ws.map (fun s => (s, none)) ++ F0)) (modSt cs base (List.range un.length) γ))
    (h1 : drawOk ops ps un nt ws = true := by kernel_rfl) (h2 : unOkM ops ps un = true := by kernel_rfl) : VW P nt (.region id ops.toArray true) Q F0 S0 := VW_drawM ps un (modSt cs base) outs ws hS0 (modSt_eq cs base un.length) hmix h1 h2 h
end
end Go.VL
