import Derived.Test.YtjekhhgjfelpgaaGreatV2
import Derived.Deep.AppendSrc
import Derived.Laws.MakeOwn
import Derived.Lib.SliceRun
set_option linter.all false
open List renaming length_take → Ya, length_append → Yb, length_drop → Yc, getElem?_eq_some_iff → Yd, getElem?_append_left → Ye, getElem?_append_right → Yf, eq_nil_of_length_eq_zero → Yg
open Nat renaming succ_mul → Yh
namespace Go.VL
def RepF (m : Mem) (sz : Nat) : List V → List Value → Prop
 | [], cs => cs = []
 | x :: xs, cs => ∃ u cs', cs = u.cells.toList ++ cs' ∧ Rep m x u ∧ u.cells.size = sz ∧ (∀ c ∈ u.cells.toList, c.oneCell' = true) ∧ RepF m sz xs cs'
theorem RepF.length {m : Mem} {sz : Nat} : ∀ {xs : List V} {cs : List Value}, RepF m sz xs cs → cs.length = xs.length * sz
 | [], cs, h => by rw [show cs = [] from h]; simp
 | x :: xs, cs, ⟨u, cs', e, _, hl, _, k⟩ => by
  subst e
  rw [Yb, RepF.length k, List.length_cons, Yh, Array.length_toList, hl, Nat.add_comm]
theorem RepF.one {m : Mem} {sz : Nat} : ∀ {xs : List V} {cs : List Value}, RepF m sz xs cs → ∀ c ∈ cs, c.oneCell' = true
 | [], cs, h, c, hc => by rw [show cs = [] from h] at hc; cases hc
 | x :: xs, cs, ⟨u, cs', e, _, hl, ho, k⟩, c, hc => by
  subst e
  rcases List.mem_append.1 hc with hc | hc
  ·exact ho c hc
  ·exact RepF.one k c hc
theorem RepF.mono {m m' : Mem} (h : Sub m m') {sz : Nat} : ∀ {xs : List V} {cs : List Value}, RepF m sz xs cs → RepF m' sz xs cs
 | [], cs, k => k
 | x :: xs, cs, ⟨u, cs', e, r, hl, ho, k⟩ => ⟨u, cs', e, Rep.mono h _ _ r, hl, ho, RepF.mono h k⟩
theorem RepF.append {m : Mem} {sz : Nat} : ∀ {xs ys : List V} {cs ds : List Value}, RepF m sz xs cs → RepF m sz ys ds → RepF m sz (xs ++ ys) (cs ++ ds)
 | [], ys, cs, ds, h, k => by rw [show cs = [] from h]; exact k
 | x :: xs, ys, cs, ds, ⟨u, cs', e, r, hl, ho, h⟩, k => ⟨u, cs' ++ ds, by simp [e], r, hl, ho, RepF.append h k⟩
theorem At.left {m : Mem} {b off : Nat} {cs ds : List Value} (h : At m b off (cs ++ ds)) : At m b off cs := fun j u hu => by
 have hj := (Yd.1 hu).1
 exact h j u (by rw [Ye hj]; exact hu)
theorem At.right {m : Mem} {b off : Nat} {cs ds : List Value} (h : At m b off (cs ++ ds)) : At m b (off + cs.length) ds := fun j u hu => by
 have := h (cs.length + j) u (by rw [Yf (Nat.le_add_right _ _), Nat.add_sub_cancel_left]; exact hu)
 rwa [← Nat.add_assoc] at this
theorem At.append {m : Mem} {b off : Nat} {cs ds : List Value} (h : At m b off cs) (k : At m b (off + cs.length) ds) : At m b off (cs ++ ds) := fun j u hu => by
 rcases Nat.lt_or_ge j cs.length with hj | hj
 ·rw [Ye hj] at hu
  exact h j u hu
 ·rw [Yf hj] at hu
  have := k _ u hu
  rwa [Nat.add_assoc, Nat.add_sub_cancel' hj] at this
theorem RepEls.flat {m : Mem} {sz b : Nat} : ∀ {off : Nat} {xs : List V}, RepEls m sz b off xs → ∃ cs, RepF m sz xs cs ∧ At m b off cs
 | off, [], _ => ⟨[], rfl, fun j u hu => by simp at hu⟩
 | off, x :: xs, ⟨⟨u, r, hl, ho, hat⟩, k⟩ => by
  obtain ⟨cs', h1, h2⟩ := RepEls.flat k
  exact ⟨u.cells.toList ++ cs', ⟨u, cs', rfl, r, hl, ho, h1⟩, hat.append (by rw [Array.length_toList, hl]; exact h2)⟩
theorem RepF.els {m : Mem} {sz b : Nat} : ∀ {off : Nat} {xs : List V} {cs : List Value}, RepF m sz xs cs → At m b off cs → RepEls m sz b off xs
 | off, [], cs, _, _ => trivial
 | off, x :: xs, cs, ⟨u, cs', e, r, hl, ho, k⟩, hat => by
  subst e
  refine ⟨⟨u, r, hl, ho, hat.left⟩, RepF.els k ?_⟩
  have := hat.right
  rwa [Array.length_toList, hl] at this
theorem RepF.flatOf {m : Mem} : ∀ {xs : List V} {cs : List Value} {sz : Nat}, RepF m sz xs cs → (∀ x ∈ xs, x.flat = true) → RepL m (xs.flatMap V.leaves) cs
 | [], cs, sz, h, _ => h
 | x :: xs, cs, sz, ⟨u, cs', e, r, hl, ho, k⟩, hf => by
  subst e
  exact (r.cells (hf x (List.mem_cons_self ..))).1.append (RepF.flatOf k fun y hy => hf y (List.mem_cons_of_mem _ hy))
theorem RepEls.get {m : Mem} {sz b : Nat} : ∀ {off : Nat} {xs : List V}, RepEls m sz b off xs → ∀ {i : Nat} {x : V}, xs[i]? = some x →
  ∃ u, Rep m x u ∧ u.cells.size = sz ∧ (∀ c ∈ u.cells.toList, c.oneCell' = true) ∧ At m b (off + i * sz) u.cells.toList
 | off, [], _, i, x, h => by simp at h
 | off, y :: xs, ⟨h, k⟩, 0, x, e => by
  simp at e
  subst e
  simpa using h
 | off, y :: xs, ⟨h, k⟩, i + 1, x, e => by
  simp at e
  have := RepEls.get k e
  rwa [show off + sz + i * sz = off + (i + 1) * sz by rw [Yh]; omega] at this
theorem RepEls.drop {m : Mem} {sz b : Nat} : ∀ (k : Nat) {off : Nat} {xs : List V}, RepEls m sz b off xs → RepEls m sz b (off + k * sz) (xs.drop k)
 | 0, off, xs, h => by simpa using h
 | k + 1, off, [], h => trivial
 | k + 1, off, x :: xs, ⟨h, r⟩ => by
  have := RepEls.drop k r
  rw [List.drop_succ_cons]
  rwa [show off + sz + k * sz = off + (k + 1) * sz by rw [Yh]; omega] at this
theorem RepEls.take {m : Mem} {sz b : Nat} : ∀ (k : Nat) {off : Nat} {xs : List V}, RepEls m sz b off xs → RepEls m sz b off (xs.take k)
 | 0, off, xs, h => by simp [RepEls]
 | k + 1, off, [], h => by simp [RepEls]
 | k + 1, off, x :: xs, ⟨h, r⟩ => by rw [List.take_succ_cons]; exact ⟨h, RepEls.take k r⟩
section
variable {P : Program} {nt : Nat} {F : Fr} {S : Store} {K : Option V → Store → Prop}
variable {d : Option Tmp} {ty : TypeId} {pos : String} {af : Array Edge} {gd : Option (Nat × Bool)}
theorem V_len {t e sz : Nat} {tok : Option Tok} {x : Operand} {xs : List V} (ht : P.underlying t = some (.slice e)) (hx : F.ev x = some (.sl sz tok xs)) (hk : xs.length ≤ 9223372036854775807 → K (some (.int xs.length)) S) :
  VOp P nt ⟨d, .call ⟨.builtin .len, #[x], #[t]⟩, ty, pos, af, gd⟩ F S K := by
 intro m w ac KK QQ hf hw hK
 obtain ⟨A, cap, ha, hc, hm, _⟩ := hf.ev hx
 have hrun : (execOp ac.eval ⟨d, .call ⟨.builtin .len, #[x], #[t]⟩, ty, pos, af, gd⟩).run P w = .ok (.value (.int .i64 xs.length)) w := by
  simp [BigFrame.execOp_builtin, BigFrame.builtin_len, Builtin.len_, ha, run_underlying ht w, goInt]
 unfold Oper.wp
 rw [hrun]
 exact hK _ S m w _ (hk (by simp only [maxLen] at hm; omega)) rfl (Step.refl hw)
theorem V_lenN {t e sz n : Nat} {tok : Option Tok} {x : Operand} {xs : List V} (ht : P.underlying t = some (.slice e)) (hx : F.ev x = some (.sl sz tok xs)) (hn : xs.length = n) (hk : n ≤ 9223372036854775807 → K (some (.int n)) S) :
  VOp P nt ⟨d, .call ⟨.builtin .len, #[x], #[t]⟩, ty, pos, af, gd⟩ F S K := by
 subst hn
 exact V_len ht hx hk
theorem V_len_raw {t e len cap : Nat} {A : Option Addr} {x : Operand} (ht : P.underlying t = some (.slice e)) (hx : F.ev x = some (.raw (.slice A len cap))) (hk : K (some (.int len)) S) :
  VOp P nt ⟨d, .call ⟨.builtin .len, #[x], #[t]⟩, ty, pos, af, gd⟩ F S K := by
 refine VOp_pure _ (fun m w ac hf hw => ?_) hk
 have ha : ac.eval x = .slice A len cap := hf.ev hx
 exact ⟨.int .i64 len, by simp [BigFrame.execOp_builtin, BigFrame.builtin_len, Builtin.len_, ha, run_underlying ht w, goInt], rfl⟩
theorem V_max2 {x y : Operand} {ts : Array TypeId} {a b : Int} (hx : F.ev x = some (.int a)) (hy : F.ev y = some (.int b)) (hk : K (some (.int (if b > a then b else a))) S) :
  VOp P nt ⟨d, .call ⟨.builtin .max, #[x, y], ts⟩, ty, pos, af, gd⟩ F S K := by
 refine VOp_pure _ (fun m w ac hf hw => ?_) hk
 have ha : ac.eval x = .int .i64 a := hf.ev hx
 have hb : ac.eval y = .int .i64 b := hf.ev hy
 exact ⟨_, by simp [BigFrame.execOp_builtin, BigFrame.builtin_max, Builtin.max_, Builtin.max2, ha, hb], rfl⟩
theorem V_indexAddr {t e sz bytes : Nat} {z : Value} {tok : Option Tok} {x ix : Operand} {xs : List V} {n : Int} {el : V} (ht : SliceTy P t e sz bytes z) (hx : F.ev x = some (.sl sz tok xs)) (hi : F.ev ix = some (.int n)) (h0 : 0 ≤ n) (he : xs[n.toNat]? = some el)
  (hk : ∀ a, K (some (.ep a el)) S) : VOp P nt ⟨d, .indexAddr t x ix, ty, pos, af, gd⟩ F S K := by
 intro m w ac KK QQ hf hw hK
 obtain ⟨A, cap, ha, hc, hm, _, hels⟩ := hf.ev hx
 have hn : ac.eval ix = .int .i64 n := hf.ev hi
 have hlt : n.toNat < xs.length := (Yd.1 he).1
 rcases hels with rfl | ⟨b, off, rfl, hels⟩
 ·simp at hlt
 obtain ⟨u, hr, hsz, ho, hat⟩ := hels.get he
 obtain ⟨i, h1, h2, h3, h4⟩ := ht.info
 have hrun : (execOp ac.eval ⟨d, .indexAddr t x ix, ty, pos, af, gd⟩).run P w = .ok (.value (.pointer (some ⟨b, off + n.toNat * sz, none⟩))) w := by
  have hcond : 0 ≤ n ∧ n < (xs.length : Int) := ⟨h0, by omega⟩
  simp [execOp, ha, hn, Instr.indexAt, asIntOf, run_underlying ht.und w, hcond, sizeOf, typeInfo, h1, h2, addr_add]
 unfold Oper.wp
 rw [hrun]
 exact hK _ S m w _ (hk ⟨b, off + n.toNat * sz, none⟩) ⟨rfl, rfl, u, hr, hat⟩ (Step.refl hw)
theorem V_indexAddr_row {t e sz bytes : Nat} {z : Value} {x ix : Operand} {g o len cap : Nat} {n : Int} (ht : SliceTy P t e sz bytes z) (hx : F.ev x = some (.raw (.slice (some ⟨g, o, none⟩) len cap))) (hi : F.ev ix = some (.int n)) (h0 : 0 ≤ n) (hl : n < len)
  (hk : K (some (.ptr g (o + n.toNat * sz))) S) : VOp P nt ⟨d, .indexAddr t x ix, ty, pos, af, gd⟩ F S K := by
 refine VOp_pure _ (fun m w ac hf hw => ?_) hk
 have ha : ac.eval x = .slice (some ⟨g, o, none⟩) len cap := hf.ev hx
 have hn : ac.eval ix = .int .i64 n := hf.ev hi
 obtain ⟨i, h1, h2, h3, h4⟩ := ht.info
 refine ⟨.pointer (some ⟨g, o + n.toNat * sz, none⟩), ?_, rfl⟩
 have hcond : 0 ≤ n ∧ n < (len : Int) := ⟨h0, hl⟩
 simp [execOp, ha, hn, Instr.indexAt, asIntOf, run_underlying ht.und w, hcond, sizeOf, typeInfo, h1, h2, addr_add]
theorem V_eqNil {t t2 e sz : Nat} {tok : Option Tok} {x : Operand} {xs : List V} (ht : P.underlying t = some (.slice e)) (hx : F.ev x = some (.sl sz tok xs)) (hk : ∀ b : Bool, (b = true → xs = []) → K (some (.bool b)) S) :
  VOp P nt ⟨d, .binOp .eql t x (.const (.slice none 0 0)) t2, ty, pos, af, gd⟩ F S K := by
 intro m w ac KK QQ hf hw hK
 obtain ⟨A, cap, ha, hc, hm, _, hels⟩ := hf.ev hx
 have hrun : (execOp ac.eval ⟨d, .binOp .eql t x (.const (.slice none 0 0)) t2, ty, pos, af, gd⟩).run P w = .ok (.value (.bool A.isNone)) w := by
  have hg : (eqGuard .eql t x (.const (.slice none 0 0)) (.slice A xs.length cap) (.slice none 0 0)).run P w = .ok () w := rfl
  simp only [execOp, ha, BigFrame.eval_const, Sem.run_bind, hg, Result.andThen_ok, Lib.run_eql_slice_nil w t e A xs.length cap 0 0 ht]
  rfl
 unfold Oper.wp
 rw [hrun]
 refine hK _ S m w _ (hk A.isNone fun hA => ?_) rfl (Step.refl hw)
 rcases hels with h | ⟨b, off, rfl, _⟩
 ·exact h
 ·simp at hA
def bound (F : Fr) (dflt : Int) : Option Operand → Option Int
 | none => some dflt
 | some o => match F.ev o with
  | some (.raw (.int .i64 n)) => some n
  | _ => none
theorem bound_some {dflt n : Int} {x : Operand} (h : bound F dflt (some x) = some n) : F.ev x = some (.int n) := by
 simp only [bound] at h
 split at h
 ·rename_i q hq
  injection h with h
  rw [hq, h]
 ·cases h
theorem bound_of {dflt n : Int} {x : Operand} (h : F.ev x = some (.int n)) : bound F dflt (some x) = some n := by
 simp only [bound, h]
theorem bounds_run {m : Mem} {ac : Act} {w : World} {l h : Int} {lo hi : Option Operand} {len cap : Nat} (hf : FRel m nt F ac) (hl : bound F 0 lo = some l) (hh : bound F len hi = some h) (h0 : 0 ≤ l) (h1 : l ≤ h) (h2 : h ≤ cap) :
  (Instr.sliceBounds true len cap (lo.map ac.eval) (hi.map ac.eval) none).run P w = .ok (l.toNat, h.toNat, cap) w := by
 have key : ∀ (x : Operand) (n : Int) (y : Nat) (code : BoundsCode), F.ev x = some (.int n) → 0 ≤ n → n ≤ y → (Instr.sliceBound (ac.eval x) y code).run P w = .ok n.toNat w := by
  intro x n y code hx hn0 hn1
  have he : ac.eval x = .int .i64 n := hf.ev hx
  simp [he, Instr.sliceBound, asIntOf, hn0, hn1]
 have hlh : l ≤ (h.toNat : Int) := by omega
 cases hi with
 | none =>
  injection hh with hh
  have hh' : len = h.toNat := by omega
  cases lo with
  | none =>
   injection hl with hl
   simp [Instr.sliceBounds, ← hl, hh']
  | some x => simp [Instr.sliceBounds, hh', key x l _ .sliceB (bound_some hl) h0 hlh]
 | some y =>
  cases lo with
  | none =>
   injection hl with hl
   simp [Instr.sliceBounds, ← hl, key y h cap .sliceAcap (bound_some hh) (by omega) h2]
  | some x => simp [Instr.sliceBounds, key y h cap .sliceAcap (bound_some hh) (by omega) h2, key x l _ .sliceB (bound_some hl) h0 hlh]
theorem V_slice {t e sz bytes : Nat} {z : Value} {tok : Option Tok} {x : Operand} {lo hi : Option Operand} {xs : List V} {l h : Int} (ht : SliceTy P t e sz bytes z) (hx : F.ev x = some (.sl sz tok xs))
  (hl : bound F 0 lo = some l) (hh : bound F xs.length hi = some h) (h0 : 0 ≤ l) (h1 : l ≤ h) (h2 : h ≤ xs.length) (hk : K (some (.sl sz none ((xs.take h.toNat).drop l.toNat))) S) :
  VOp P nt ⟨d, .slice t x lo hi none, ty, pos, af, gd⟩ F S K := by
 refine VOp_pure _ (fun m w ac hf hw => ?_) hk
 obtain ⟨A, cap, ha, hc, hm, _, hels⟩ := hf.ev hx
 obtain ⟨i, i1, i2, i3, i4⟩ := ht.info
 refine ⟨.slice (if cap = l.toNat then A else A.map (·.add (l.toNat * sz))) (h.toNat - l.toNat) (cap - l.toNat), ?_, (if cap = l.toNat then A else A.map (·.add (l.toNat * sz))), cap - l.toNat, ?_, ?_, Nat.le_trans (Nat.sub_le _ _) hm, trivial, ?_⟩
 ·simp only [execOp, ha, Instr.sliceAt, Sem.run_bind, run_underlying ht.und w, Result.andThen_ok, Instr.slice, Option.map_none, bounds_run hf hl hh h0 h1 (show h ≤ (cap : Int) by omega)]
  simp [sizeOf, typeInfo, i1, i2]
 ·congr 1
  simp only [Yc, Ya]
  omega
 ·simp only [Yc, Ya]
  omega
 ·rcases hels with rfl | ⟨b, off, rfl, hels⟩
  ·left; simp
  ·by_cases hlt : l.toNat < h.toNat
   ·right
    refine ⟨b, off + l.toNat * sz, ?_, (hels.take h.toNat).drop l.toNat⟩
    rw [if_neg (by omega), Option.map_some, addr_add]
   ·left
    apply List.drop_eq_nil_of_le
    rw [Ya]
    omega
def litCells : List Value → List Value
 | [] => []
 | u :: us => u.cells.toList ++ litCells us
theorem foldl_set_at (cs : List Value) (pre post : List Value) : ∀ (off : Nat), pre.length = off → ∀ (mid : List Value), mid.length = cs.length →
  ((cs.toArray.zipIdx).foldl (fun (a : Array Value) (x : Value × Nat) => a.setIfInBounds (off + x.2) x.1) (pre ++ mid ++ post).toArray) = (pre ++ cs ++ post).toArray := by
 intro off hoff mid hmid
 have key : ∀ (l : List Value) (k : Nat) (p m : List Value), p.length = off + k → m.length = l.length →
   (l.zipIdx k).foldl (fun (a : Array Value) (x : Value × Nat) => a.setIfInBounds (off + x.2) x.1) (p ++ m ++ post).toArray = (p ++ l ++ post).toArray := by
  intro l
  induction l with
  | nil =>
   intro k p m hp hm
   have : m = [] := Yg (by simpa using hm)
   subst this
   rfl
  | cons c l ih =>
   intro k p m hp hm
   cases m with
   | nil => simp at hm
   | cons m0 m =>
    rw [List.zipIdx_cons, List.foldl_cons]
    have hset : ((p ++ (m0 :: m) ++ post).toArray.setIfInBounds (off + k) c) = ((p ++ [c]) ++ m ++ post).toArray := by
     apply Array.ext'
     simp only [Array.toList_setIfInBounds, List.append_assoc, List.cons_append]
     rw [List.set_append_right _ _ (by omega), hp, Nat.sub_self]
     simp
    rw [hset, ih (k + 1) (p ++ [c]) m (by simp; omega) (by simpa using hm)]
    simp
 have := key cs 0 pre mid (by omega) hmid
 rw [← this, ← Array.foldl_toList]
 congr 1
 simp
theorem fill_lit {sz : Nat} : ∀ (us : List Value) (k : Nat) (pre mid : List Value), (∀ u ∈ us, u.cells.size = sz) → pre.length = k * sz → mid.length = us.length * sz →
  Instr.fill (fun i => some (i * sz, sz)) (pre ++ mid).toArray ((us.zipIdx k).map fun x => (x.2, x.1)) = some (pre ++ litCells us).toArray
 | [], k, pre, mid, _, _, hm => by
  have : mid = [] := Yg (by simpa using hm)
  subst this
  simp [Instr.fill, litCells]
 | u :: us, k, pre, mid, hu, hp, hm => by
  have hus := hu u (List.mem_cons_self ..)
  have hul : u.cells.toList.length = sz := by rw [Array.length_toList]; exact hus
  have hm' : mid.length = sz + us.length * sz := by rw [hm, List.length_cons, Yh, Nat.add_comm]
  rw [List.zipIdx_cons, List.map_cons]
  simp only [Instr.fill]
  rw [if_neg (by
   simp only [hus, ne_eq, not_true_eq_false, decide_false, Bool.false_or, decide_eq_true_eq, List.size_toArray, Yb, hp, hm']
   simp)]
  have hsplit : pre ++ mid = pre ++ mid.take sz ++ mid.drop sz := by rw [List.append_assoc, List.take_append_drop]
  have hf := foldl_set_at u.cells.toList pre (mid.drop sz) (k * sz) hp (mid.take sz) (by rw [Ya, hm', hul]; omega)
  rw [← hsplit] at hf
  have hf' : Array.foldl (fun (cs : Array Value) (x : Value × Nat) => cs.setIfInBounds (k * sz + x.2) x.1) (pre ++ mid).toArray u.cells.zipIdx = (pre ++ u.cells.toList ++ mid.drop sz).toArray := by
   simpa using hf
  have hgoal : Array.foldl (fun cs (x : Value × Nat) => match x with | (c, j) => cs.setIfInBounds (k * sz + j) c) (pre ++ mid).toArray u.cells.zipIdx = (pre ++ u.cells.toList ++ mid.drop sz).toArray := hf'
  rw [hgoal, fill_lit us (k + 1) (pre ++ u.cells.toList) (mid.drop sz) (fun v hv => hu v (List.mem_cons_of_mem _ hv)) (by rw [Yb, hp, hul, Yh]) (by rw [Yc, hm']; omega)]
  simp [litCells]
end
end Go.VL
