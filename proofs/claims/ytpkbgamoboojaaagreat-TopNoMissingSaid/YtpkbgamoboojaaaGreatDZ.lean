import Derived.Test.YtpkbgamoboojaaaGreatVY2
set_option linter.all false
open List renaming mem_cons_self → Ya, mem_filterMap → Yb, getElem?_eq_some_iff → Yc, mem_map → Yd, mem_cons_of_mem → Ye, length_cons → Yf, mem_of_getElem? → Yg, mem_cons → Yh, all_eq_true → Yi, cons_append → Yj, any_eq_false → Yk, drop_drop → Yl, length_append → Ym, range → Yn, getElem?_map → Yo, getElem?_range → Yp, mem_filter → Yq, filter_append → Yr, flatMap_cons → Ys, length_filterMap_le → Yt, exists_cons_of_ne_nil → Yu
open Nat renaming le_refl → Yv, zero_le → Yw, not_lt_zero → Yx
open Int renaming le_refl → Yy
section
namespace Go.PM
open Go.VL
abbrev Str := List UInt8
structure ConSig where
 name : Str
 args : List V
structure DataSig where
 name : Str
 params : Int
 cons : List ConSig
inductive Pat where
 | mk (kind : Int) (name : Str) (n : Int) (args : List Pat)
instance : Inhabited Pat := ⟨.mk 0 [] 0 []⟩
def Pat.kind : Pat -> Int | .mk k _ _ _ => k
def Pat.name : Pat -> Str | .mk _ s _ _ => s
def Pat.n : Pat -> Int | .mk _ _ n _ => n
def Pat.args : Pat -> List Pat | .mk _ _ _ l => l
mutual
def patV : Pat -> V
 | .mk k s n as => .agg [.int k, .str s, .int n, .sl 4 none (patVL as)]
def patVL : List Pat -> List V
 | [] => []
 | p :: ps => patV p :: patVL ps
end
theorem patVL_map (l : List Pat) : patVL l = l.map patV := by
 induction l with
 | nil => rfl
 | cons p l ih => rw [patVL, ih]; rfl
abbrev patsX (l : List Pat) : V := .sl 4 none (l.map patV)
abbrev patX (p : Pat) : V := .agg [.int p.kind, .str p.name, .int p.n, patsX p.args]
theorem patV_eq (p : Pat) : patV p = patX p := by
 obtain ⟨k, s, n, as⟩ := p
 rw [patV, patVL_map]
 rfl
abbrev rowsX (rows : List (List Pat)) : V := .sl 1 none (rows.map patsX)
def conV (c : ConSig) : V := .agg [.str c.name, .sl 4 none c.args]
def dataV (d : DataSig) : V := .agg [.str d.name, .int d.params, .sl 2 none (d.cons.map conV)]
abbrev datasX (l : List DataSig) : V := .sl 3 none (l.map dataV)
theorem get_patS {l : List Pat} {k : Nat} {x : Pat} (h : l[k]? = some x) : (l.map patV)[k]? = some (patX x) := by rw [get_mapS patV h, patV_eq]
theorem natbeq (n : Nat) : ((n : Int) == 0) = (n == 0) := by
 cases n <;> simp <;> omega
def free (p : Pat) : Bool := p.kind == 0 || p.kind == 1
def first (rows : List (List Pat)) : List Pat := rows.filterMap λ r => match r with
 | p :: _ => if free p then none else some p
 | [] => none
def rest (rows : List (List Pat)) : List (List Pat) := rows.filterMap λ r => match r with
 | p :: t => if free p then some t else none
 | [] => none
def sizeLoop (rc : List Pat -> Int -> Bool × Int) : List Pat -> Int -> Bool × Int
 | [], m => (true, m)
 | p :: t, m => if m + 1 > 400 then (false, m + 1) else bif (rc p.args (m + 1)).1 then sizeLoop rc t (rc p.args (m + 1)).2 else (false, (rc p.args (m + 1)).2)
def sizeF : Nat -> List Pat -> Int -> Bool × Int
 | 0, l, m => (l.length == 0, m)
 | n + 1, l, m => sizeLoop (sizeF n) l m
theorem sizeLoop_le {rc : List Pat -> Int -> Bool × Int} (h : ∀ l m, 0 <= m -> m <= 400 -> m <= (rc l m).2 /\ ((rc l m).1 = true -> (rc l m).2 <= 400)) : ∀ (l : List Pat) (m : Int), 0 <= m -> m <= 400 -> m <= (sizeLoop rc l m).2 /\ ((sizeLoop rc l m).1 = true -> (sizeLoop rc l m).2 <= 400)
 | [], m, _, h4 => ⟨Yy _, λ _ => h4⟩
 | p :: t, m, h0, h4 => by
  simp only [sizeLoop]
  by_cases hm : m + 1 > 400
  .rw [if_pos hm]
   exact ⟨by dsimp only; omega, λ h => by cases h⟩
  rw [if_neg hm]
  have h1 := h p.args (m + 1) (by omega) (by omega)
  cases hb : (rc p.args (m + 1)).1 with
  | false => exact ⟨by simp only [cond_false]; omega, λ h => by cases h⟩
  | true =>
   have h2 := sizeLoop_le h t (rc p.args (m + 1)).2 (by omega) (h1.2 hb)
   exact ⟨by simp only [cond_true]; omega, λ h => h2.2 h⟩
theorem sizeF_le : ∀ (n : Nat) (l : List Pat) (m : Int), 0 <= m -> m <= 400 -> m <= (sizeF n l m).2 /\ ((sizeF n l m).1 = true -> (sizeF n l m).2 <= 400)
 | 0, l, m, _, h => ⟨Yy _, λ _ => h⟩
 | n + 1, l, m, h0, h4 => sizeLoop_le (sizeF_le n) l m h0 h4
def small (datas : List DataSig) (rows : List (List Pat)) : Bool := smallRows rows 0 && decide (rows.length <= 64) && !datas.any λ d => decide ((d.cons.length : Int) > 256)
 where
 smallRows : List (List Pat) -> Int -> Bool
  | [], _ => true
  | r :: t, m => if r.length > 16 then false else bif (sizeF 20 r m).1 then smallRows t (sizeF 20 r m).2 else false
abbrev Tab := List (Str × Nat × Nat × Nat)
def tget : Tab -> Str -> Option (Nat × Nat × Nat)
 | [], _ => none
 | (a, v) :: t, k => if a = k then some v else tget t k
def ctV (c : Nat × Nat × Nat) : V := .agg [.int c.1, .int c.2.1, .int c.2.2]
def tabV (t : Tab) : List (Str × V) := t.map λ p => (p.1, ctV p.2)
theorem kget_tab : ∀ (t : Tab) (s : Str), kget (tabV t) s = (tget t s).map ctV
 | [], s => rfl
 | (a, v) :: t, s => by
  have ih := kget_tab t s
  simp only [tabV, List.map_cons, kget, tget] at ih ⊢
  by_cases h : a = s
  .simp [h]
  simp [h, ih]
theorem kput_tab : ∀ (t : Tab) (s : Str) (v : Nat × Nat × Nat), tget t s = none -> kput (tabV t) s (ctV v) = tabV (t ++ [(s, v)])
 | [], s, v, _ => rfl
 | (a, u) :: t, s, v, h => by
  simp only [tget] at h
  by_cases ha : a = s
  .simp [ha] at h
  simp only [ha, if_false] at h
  have ih := kput_tab t s v h
  simp only [tabV, List.map_cons, kput, ha, if_false, Yj] at ih ⊢
  rw [ih]
def addCons (k : Nat) : Nat -> List ConSig -> Tab -> Option Tab
 | _, [], t => some t
 | n, c :: cs, t => match tget t c.name with
  | some _ => none
  | none => addCons k (n + 1) cs (t ++ [(c.name, k, n, c.args.length)])
def buildF : Nat -> List DataSig -> Tab -> Option Tab
 | _, [], t => some t
 | k, d :: ds, t => match addCons k 0 d.cons t with
  | none => none
  | some t' => buildF (k + 1) ds t'
end Go.PM
namespace Go.PM
open Go.VL
def anyP : Pat := .mk 0 [] 0 []
abbrev anysL (n : Nat) : List Pat := List.replicate n anyP
mutual
def patF (t : Tab) : Pat -> Int
 | .mk k s n as => if k = 0 \/ k = 1 then 0 else if k = 2 then (if n < -1073741824 \/ n > 1073741823 then 4 else 0) else if k = 3 then
   (match tget t s with | none => 6 | some c => if as.length ≠ c.2.2 then 3 else patsF t as) else 3
def patsF (t : Tab) : List Pat -> Int
 | [] => 0
 | p :: ps => if patF t p ≠ 0 then patF t p else patsF t ps
end
def kindF (t : Tab) (p : Pat) : Int := if p.kind = 2 then -1 else if p.kind = 3 then (match tget t p.name with | some c => c.1 | none => 0) else -2
theorem mem_size {p q : Pat} (h : q ∈ p.args) : SizeOf.sizeOf q < SizeOf.sizeOf p := by
 obtain ⟨k, s, n, as⟩ := p
 have := List.sizeOf_lt_of_mem h
 simp only [Pat.args] at this
 simp only [Pat.mk.sizeOf_spec]
 omega
def narrow (name : Str) (n : Nat) (rows : List (List Pat)) : List (List Pat) := rows.filterMap λ r => match r with
 | p :: t => if free p then some (anysL n ++ t) else if p.name = name then some (p.args ++ t) else none
 | [] => none
def countGE (l : List Pat) (n : Int) : Nat := l.countP λ p => decide (n <= p.n)
theorem countGE_mono (l : List Pat) (n : Int) : countGE l (n + 1) <= countGE l n :=
 List.countP_mono_left λ p _ h => by simp at h ⊢; omega
theorem countGE_lt {l : List Pat} {n : Int} (h : (l.any λ p => decide (p.n = n)) = true) : countGE l (n + 1) < countGE l n := by
 induction l with
 | nil => simp at h
 | cons p l ih =>
  have hm := countGE_mono l n
  unfold countGE at hm ih ⊢
  rw [List.countP_cons, List.countP_cons]
  by_cases hp : p.n = n
  .rw [if_neg (by simp; omega), if_pos (by simp; omega)]
   omega
  have h2 : (l.any λ p => decide (p.n = n)) = true := by simpa [hp] using h
  have := ih h2
  by_cases h3 : n + 1 <= p.n
  .rw [if_pos (by simpa using h3), if_pos (by simp; omega)]
   omega
  rw [if_neg (by simpa using h3)]
  omega
def fresh (l : List Pat) (n : Int) : Int := if h : (l.any λ p => decide (p.n = n)) = true then fresh l (n + 1) else n
 termination_by countGE l n
 decreasing_by exact countGE_lt h
theorem fresh_yes {l : List Pat} {n : Int} (h : (l.any λ p => decide (p.n = n)) = true) : fresh l n = fresh l (n + 1) := by rw [fresh, dif_pos h]
theorem fresh_no {l : List Pat} {n : Int} (h : (l.any λ p => decide (p.n = n)) = false) : fresh l n = n := by rw [fresh, dif_neg (by simp [h])]
def consAt (t : Tab) (ds : List DataSig) (s : Str) : List ConSig := match tget t s with
 | some c => (match ds[c.1]? with | some d => d.cons | none => [])
 | none => []
def lacks (l : List Pat) (c : ConSig) : Bool := !l.any λ p => decide (p.name = c.name)
def absentF (t : Tab) (ds : List DataSig) : List Pat -> Option Pat
 | [] => some anyP
 | p :: l => if p.kind = 2 then some (.mk 2 [] (fresh (p :: l) 0) []) else ((consAt t ds p.name).find? (lacks (p :: l))).map λ c => .mk 3 c.name 0 (anysL c.args.length)
def missLoop (rc : List (List Pat) -> Nat -> List Pat × Bool) (rows : List (List Pat)) (c : Nat) : List ConSig -> List Pat × Bool
 | [] => ([], false)
 | k :: ks => bif (rc (narrow k.name k.args.length rows) (k.args.length + c)).2
  then (.mk 3 k.name 0 ((rc (narrow k.name k.args.length rows) (k.args.length + c)).1.take k.args.length) :: (rc (narrow k.name k.args.length rows) (k.args.length + c)).1.drop k.args.length, true)
  else missLoop rc rows c ks
def missF (t : Tab) (ds : List DataSig) : Nat -> List (List Pat) -> Nat -> List Pat × Bool
 | 0, _, _ => ([], false)
 | f + 1, rows, 0 => ([], decide ((rows.length : Int) = 0))
 | f + 1, rows, c + 1 => match absentF t ds (first rows) with
  | some p => (p :: (missF t ds f (rest rows) c).1, (missF t ds f (rest rows) c).2)
  | none => missLoop (missF t ds f) rows c (consAt t ds ((first rows).headD anyP).name)
def leftF (n : Int) (rows : List (List Pat)) : List (List Pat) := rows.filterMap λ r => match r with
 | p :: t => if free p || decide (p.n = n) then some t else none
 | [] => none
end Go.PM
namespace Go.PM
open Go.VL
def nf (p : Pat) : Bool := !free p
theorem pats_fit (l : List Pat) : ∀ y ∈ l.map patV, y.leaves.length = 4 := λ y hy => by
 obtain ⟨p, _, rfl⟩ := Yd.1 hy
 rw [patV_eq]
 rfl
structure DelInv (l : List Pat) (i j : Nat) (cur : List Pat) : Prop where
 le : i < j
 le2 : j <= l.length
 len : cur.length = l.length
 done : cur.take i = (l.take j).filter nf
 left : cur.drop j = l.drop j
theorem filter_all {l : List Pat} (h : l.any free = false) : l.filter nf = l := by
 rw [List.filter_eq_self]
 intro a ha
 have := Yk.1 h a ha
 simp [nf, this]
theorem DelInv.init {l : List Pat} {k : Nat} {x : Pat} (h1 : l[k]? = some x) (h2 : free x = true) (h3 : (l.take k).any free = false) : DelInv l k (k + 1) l := by
 have hk := (Yc.1 h1).1
 refine ⟨by omega, by omega, rfl, ?_, rfl⟩
 rw [take_snoc h1, Yr, filter_all h3]
 simp [nf, h2]
theorem DelInv.get {l cur : List Pat} {i j : Nat} {v : Pat} (h : DelInv l i j cur) (hv : l[j]? = some v) : cur[j]? = some v := by
 have h1 : (cur.drop j)[0]? = (l.drop j)[0]? := by rw [h.left]
 rw [List.getElem?_drop, List.getElem?_drop, Nat.add_zero] at h1
 rw [h1, hv]
theorem DelInv.keep {l cur : List Pat} {i j : Nat} {v : Pat} (h : DelInv l i j cur) (hv : l[j]? = some v) (hf : free v = false) : DelInv l (i + 1) (j + 1) (cur.set i v) := by
 have hj := (Yc.1 hv).1
 have hi := h.le
 have hl := h.len
 refine ⟨by omega, by omega, by rw [List.length_set]; exact h.len, ?_, ?_⟩
 .rw [take_snoc hv, Yr, <- h.done, List.take_succ_eq_append_getElem (by rw [List.length_set]; omega), List.take_set_of_le (Yv _)]
  simp [nf, hf]
 rw [List.drop_set_of_lt (by omega)]
 have := congrArg (List.drop 1) h.left
 rw [Yl, Yl] at this
 exact this
theorem DelInv.skip {l cur : List Pat} {i j : Nat} {v : Pat} (h : DelInv l i j cur) (hv : l[j]? = some v) (hf : free v = true) : DelInv l i (j + 1) cur := by
 have hj := (Yc.1 hv).1
 have hi := h.le
 refine ⟨by omega, by omega, h.len, ?_, ?_⟩
 .rw [take_snoc hv, Yr, <- h.done]
  simp [nf, hf]
 have := congrArg (List.drop 1) h.left
 rw [Yl, Yl] at this
 exact this
theorem DelInv.fin {l cur : List Pat} {i j : Nat} (h : DelInv l i j cur) (hj : l.length <= j) : cur.take i = l.filter nf /\ i = (l.filter nf).length := by
 have h1 := h.done
 rw [List.take_of_length_le hj] at h1
 refine ⟨h1, ?_⟩
 rw [<- h1, List.length_take]
 have := h.le; have := h.le2; have := h.len
 omega
theorem flat_take {sz : Nat} : ∀ {xs : List V} {k : Nat} {rest : List V}, (∀ x ∈ xs, x.leaves.length = sz) -> k <= xs.length -> (xs.flatMap V.leaves ++ rest).take (k * sz) = (xs.take k).flatMap V.leaves
 | [], k, rest, _, h => by
  have : k = 0 := by simpa using h
  subst this
  simp
 | x :: xs, 0, rest, _, _ => by simp
 | x :: xs, k + 1, rest, hl, h => by
  have hx := hl x (Ya ..)
  have ih := flat_take (rest := rest) (k := k) (λ y hy => hl y (Ye _ hy)) (by simpa using h)
  rw [Ys, List.append_assoc, Nat.succ_mul, Nat.add_comm (k * sz) sz, List.take_succ_cons, Ys, <- ih]
  rw [<- hx, List.take_length_add_append]
theorem flat_len {sz : Nat} : ∀ {xs : List V}, (∀ x ∈ xs, x.leaves.length = sz) -> (xs.flatMap V.leaves).length = xs.length * sz
 | [], _ => by simp
 | x :: xs, hl => by
  have ih := flat_len (xs := xs) λ y hy => hl y (Ye _ hy)
  rw [Ys, Ym, ih, hl x (Ya ..), Yf, Nat.succ_mul, Nat.add_comm]
def belowF (m : List Pat) (name : Str) (n : Nat) : List Pat := m.filterMap λ q => if q.name = name then some (q.args.getD n anyP) else none
def agreeArgs (rc : List Pat -> Bool) (m : List Pat) (name : Str) : Nat -> Nat -> Bool
 | _, 0 => true
 | n, k + 1 => rc (belowF m name n) && agreeArgs rc m name (n + 1) k
def agreeLoop (rc : List Pat -> Bool) (m : List Pat) : List Pat -> List Pat -> Bool
 | _, [] => true
 | seen, p :: ps => (seen.any (λ q => decide (q.name = p.name)) || decide (p.kind ≠ 3) || agreeArgs rc m p.name 0 p.args.length) && agreeLoop rc m (seen ++ [p]) ps
def sameKind (t : Tab) (m : List Pat) : Bool := m.all λ p => decide (kindF t p = kindF t (m.headD anyP))
def agreeF (t : Tab) : Nat -> List Pat -> Bool
 | 0, _ => true
 | f + 1, l => sameKind t (l.filter nf) && agreeLoop (agreeF t f) (l.filter nf) [] (l.filter nf)
end Go.PM
namespace Go.PM
open Go.VL
inductive Ty where
 | any
 | int
 | dat (d : Nat) (f : Str -> Nat -> Ty)
def wt (t : Tab) : Ty -> Pat -> Prop
 | .any, p => free p = true
 | .int, p => free p = true \/ p.kind = 2
 | .dat d f, p => free p = true \/ (p.kind = 3 /\ (∃ a, tget t p.name = some (d, a, p.args.length)) /\ p.args.length <= 400 /\ ∀ i q, p.args[i]? = some q -> wt t (f p.name i) q)
theorem wt_free {t : Tab} {p : Pat} (h : free p = true) : ∀ τ : Ty, wt t τ p
 | .any => h
 | .int => .inl h
 | .dat d f => .inl h
def rowT (t : Tab) : List Ty -> List Pat -> Prop
 | [], [] => True
 | τ :: τs, p :: r => wt t τ p /\ rowT t τs r
 | _, _ => False
theorem rowT.len {t : Tab} : ∀ {τs : List Ty} {r : List Pat}, rowT t τs r -> r.length = τs.length
 | [], [], _ => rfl
 | τ :: τs, p :: r, h => by simp [rowT.len h.2]
 | [], _ :: _, h => h.elim
 | _ :: _, [], h => h.elim
theorem rowT.append {t : Tab} : ∀ {τs σs : List Ty} {r s : List Pat}, rowT t τs r -> rowT t σs s -> rowT t (τs ++ σs) (r ++ s)
 | [], _, [], _, _, h => h
 | τ :: τs, _, p :: r, _, h, k => ⟨h.1, rowT.append h.2 k⟩
 | [], _, _ :: _, _, h, _ => h.elim
 | _ :: _, _, [], _, h, _ => h.elim
theorem rowT.of_get {t : Tab} : ∀ {τs : List Ty} {r : List Pat}, r.length = τs.length -> (∀ (i : Nat) τ p, τs[i]? = some τ -> r[i]? = some p -> wt t τ p) -> rowT t τs r
 | [], [], _, _ => trivial
 | τ :: τs, p :: r, h, k => ⟨k 0 τ p rfl rfl, rowT.of_get (by simpa using h) λ i τ p h1 h2 => k (i + 1) τ p (by simpa using h1) (by simpa using h2)⟩
 | [], _ :: _, h, _ => by simp at h
 | _ :: _, [], h, _ => by simp at h
theorem rowT.anys {t : Tab} (τs : List Ty) : rowT t τs (anysL τs.length) :=
 rowT.of_get (by simp) λ i τ p _ h2 => by
  have : p = anyP := by
   have := Yg h2
   exact List.eq_of_mem_replicate this
  subst this
  exact wt_free rfl τ
def argT (g : Nat -> Ty) (n : Nat) : List Ty := (Yn n).map g
theorem argT_len (g : Nat -> Ty) (n : Nat) : (argT g n).length = n := by simp [argT]
theorem rowT.args {t : Tab} {d : Nat} {f : Str -> Nat -> Ty} {p : Pat} (h : wt t (.dat d f) p) (hf : free p = false) : rowT t (argT (f p.name) p.args.length) p.args := by
 rcases h with h | ⟨_, _, _, h⟩
 .rw [h] at hf; cases hf
 refine rowT.of_get (by simp [argT]) λ i τ q h1 h2 => ?_
 have hi := (Yc.1 h2).1
 simp only [argT, Yo, Yp hi, Option.map_some, Option.some.injEq] at h1
 subst h1
 exact h i q h2
structure TabOk (t : Tab) (ds : List DataSig) : Prop where
 get : ∀ s c, tget t s = some c -> ∃ D, ds[c.1]? = some D
 put : ∀ (d : Nat) D k, ds[d]? = some D -> k ∈ D.cons -> ∃ a, tget t k.name = some (d, a, k.args.length)
 small : ∀ (d : Nat) D, ds[d]? = some D -> D.cons.length <= 1000 /\ ∀ k ∈ D.cons, k.args.length * 56 <= 140737488355328
def rowsT (t : Tab) (τs : List Ty) (rows : List (List Pat)) : Prop := ∀ r ∈ rows, rowT t τs r
theorem rowsT.rest {t : Tab} {τ : Ty} {τs : List Ty} {rows : List (List Pat)} (h : rowsT t (τ :: τs) rows) : rowsT t τs (rest rows) := λ r hr => by
 obtain ⟨x, hx, hxr⟩ := Yb.1 hr
 have := h x hx
 cases x with
 | nil => cases hxr
 | cons p tl =>
  simp only at hxr
  split at hxr
  .injection hxr with hxr; subst hxr; exact this.2
  cases hxr
theorem rowsT.left {t : Tab} {τ : Ty} {τs : List Ty} {rows : List (List Pat)} {n : Int} (h : rowsT t (τ :: τs) rows) : rowsT t τs (leftF n rows) := λ r hr => by
 obtain ⟨x, hx, hxr⟩ := Yb.1 hr
 have := h x hx
 cases x with
 | nil => cases hxr
 | cons p tl =>
  simp only at hxr
  split at hxr
  .injection hxr with hxr; subst hxr; exact this.2
  cases hxr
theorem rowsT.narrow {t : Tab} {d a : Nat} {f : Str -> Nat -> Ty} {τs : List Ty} {rows : List (List Pat)} {name : Str} {n : Nat} (h : rowsT t (.dat d f :: τs) rows) (hn : tget t name = some (d, a, n)) : rowsT t (argT (f name) n ++ τs) (narrow name n rows) := λ r hr => by
 obtain ⟨x, hx, hxr⟩ := Yb.1 hr
 have hT := h x hx
 cases x with
 | nil => cases hxr
 | cons p tl =>
  simp only at hxr
  by_cases hf : free p = true
  .rw [if_pos hf] at hxr
   injection hxr with hxr
   subst hxr
   refine rowT.append ?_ hT.2
   have := rowT.anys (t := t) (argT (f name) n)
   rwa [argT_len] at this
  rw [if_neg hf] at hxr
  have hf' : free p = false := by simpa using hf
  by_cases hname : p.name = name
  .rw [if_pos hname] at hxr
   injection hxr with hxr
   subst hxr
   refine rowT.append ?_ hT.2
   have h1 := rowT.args hT.1 hf'
   rcases hT.1 with h2 | ⟨_, ⟨a', h2⟩, _⟩
   .exact absurd h2 hf
   rw [hname, hn] at h2
   injection h2 with h2
   injection h2 with _ h2
   injection h2 with _ h2
   rw [h2, <- hname]
   exact h1
  rw [if_neg hname] at hxr
  cases hxr
mutual
def wP : Pat -> Nat
 | .mk k s n as => if k = 0 \/ k = 1 then 0 else 1 + wL as
def wL : List Pat -> Nat
 | [] => 0
 | p :: ps => wP p + wL ps
end
theorem wP_free {p : Pat} (h : free p = true) : wP p = 0 := by
 obtain ⟨k, s, n, as⟩ := p
 simp [free, Pat.kind] at h
 simp [wP, h]
theorem wP_con {p : Pat} (h : free p = false) : wP p = 1 + wL p.args := by
 obtain ⟨k, s, n, as⟩ := p
 simp [free, Pat.kind] at h
 simp [wP, h, Pat.args]
theorem wL_append : ∀ (a b : List Pat), wL (a ++ b) = wL a + wL b
 | [], b => by simp [wL]
 | p :: a, b => by simp [wL, wL_append a b, Nat.add_assoc]
theorem wL_anys : ∀ n, wL (anysL n) = 0
 | 0 => rfl
 | n + 1 => by
  have := wL_anys n
  simp only [anysL, List.replicate_succ, wL] at this ⊢
  rw [this, wP_free rfl]
def wR : List (List Pat) -> Nat
 | [] => 0
 | r :: rows => wL r + wR rows
theorem rest_t {p : Pat} {tl : List Pat} {rows : List (List Pat)} (h : free p = true) : rest ((p :: tl) :: rows) = tl :: rest rows := by simp [rest, h]
theorem rest_f {p : Pat} {tl : List Pat} {rows : List (List Pat)} (h : free p = false) : rest ((p :: tl) :: rows) = rest rows := by simp [rest, h]
theorem narrow_any {p : Pat} {tl : List Pat} {rows : List (List Pat)} {name : Str} {n : Nat} (h : free p = true) : narrow name n ((p :: tl) :: rows) = (anysL n ++ tl) :: narrow name n rows := by simp [narrow, h]
theorem narrow_hit {p : Pat} {tl : List Pat} {rows : List (List Pat)} {name : Str} {n : Nat} (h : free p = false) (k : p.name = name) : narrow name n ((p :: tl) :: rows) = (p.args ++ tl) :: narrow name n rows := by simp [narrow, h, k]
theorem narrow_off {p : Pat} {tl : List Pat} {rows : List (List Pat)} {name : Str} {n : Nat} (h : free p = false) (k : p.name ≠ name) : narrow name n ((p :: tl) :: rows) = narrow name n rows := by simp [narrow, h, k]
theorem rest_w : ∀ rows, wR (rest rows) <= wR rows
 | [] => Yv _
 | [] :: rows => by
  have := rest_w rows
  simpa [rest, wR, wL] using this
 | (p :: tl) :: rows => by
  have := rest_w rows
  cases hf : free p with
  | true => rw [rest_t hf]; simp only [wR, wL]; omega
  | false => rw [rest_f hf]; simp only [wR, wL]; omega
theorem narrow_w (name : Str) (n : Nat) : ∀ rows, wR (narrow name n rows) <= wR rows
 | [] => Yv _
 | [] :: rows => by
  have := narrow_w name n rows
  simpa [narrow, wR, wL] using this
 | (p :: tl) :: rows => by
  have := narrow_w name n rows
  cases hf : free p with
  | true => rw [narrow_any hf]; simp only [wR, wL, wL_append, wL_anys]; omega
  | false =>
   have := wP_con hf
   by_cases hn : p.name = name
   .rw [narrow_hit hf hn]; simp only [wR, wL, wL_append]; omega
   rw [narrow_off hf hn]; simp only [wR, wL]; omega
theorem narrow_w1 (name : Str) (n : Nat) {p : Pat} {tl : List Pat} (hf : free p = false) (hn : p.name = name) : ∀ rows, p :: tl ∈ rows -> wR (narrow name n rows) + 1 <= wR rows
 | [], h => by cases h
 | r :: rows, h => by
  rcases Yh.1 h with h | h
  .subst h
   have := narrow_w name n rows
   have := wP_con hf
   rw [narrow_hit hf hn]
   simp only [wR, wL, wL_append]
   omega
  have ih := narrow_w1 name n hf hn rows h
  have h2 := narrow_w name n [r]
  have h3 : wR (narrow name n (r :: rows)) = wR (narrow name n [r]) + wR (narrow name n rows) := by
   have key : ∀ a b, wR (a ++ b) = wR a + wR b := λ a b => by
    induction a with
    | nil => simp [wR]
    | cons x a ih => simp [wR, ih, Nat.add_assoc]
   rw [show r :: rows = [r] ++ rows from rfl, narrow, List.filterMap_append, key]
   rfl
  rw [h3]
  simp only [wR] at h2 ⊢
  omega
theorem first_mem {rows : List (List Pat)} {p : Pat} (h : p ∈ first rows) : ∃ tl, p :: tl ∈ rows /\ free p = false := by
 obtain ⟨x, hx, hxr⟩ := Yb.1 h
 cases x with
 | nil => cases hxr
 | cons q tl =>
  simp only at hxr
  split at hxr
  .cases hxr
  injection hxr with hxr
  subst hxr
  rename_i hf
  exact ⟨tl, hx, by simpa using hf⟩
structure Full (t : Tab) (ds : List DataSig) (τ : Ty) (rows : List (List Pat)) (d : Nat) (f : Str -> Nat -> Ty) (D : DataSig) : Prop where
 ty : τ = .dat d f
 data : ds[d]? = some D
 cons : consAt t ds ((first rows).headD anyP).name = D.cons
 all : ∀ k ∈ D.cons, ∃ q tl, q :: tl ∈ rows /\ free q = false /\ q.name = k.name /\ k.args.length <= 400 /\ ∃ a, tget t k.name = some (d, a, k.args.length)
theorem first_head {t : Tab} {ds : List DataSig} {τ : Ty} {τs : List Ty} {rows : List (List Pat)} (hok : TabOk t ds) (hT : rowsT t (τ :: τs) rows) {p : Pat} {l : List Pat} (hl : first rows = p :: l) (hk : p.kind ≠ 2) :
  ∃ d f a D, τ = .dat d f /\ p.kind = 3 /\ tget t p.name = some (d, a, p.args.length) /\ ds[d]? = some D := by
 obtain ⟨tl, hr, hf⟩ := first_mem (rows := rows) (p := p) (by rw [hl]; exact Ya ..)
 have hw := (hT _ hr).1
 cases τ with
 | any => rw [show wt t .any p = (free p = true) from rfl, hf] at hw; cases hw
 | int =>
  rcases hw with h | h
  .rw [hf] at h; cases h
  exact absurd h hk
 | dat d f =>
  rcases hw with h | ⟨h1, ⟨a, h2⟩, _⟩
  .rw [hf] at h; cases h
  obtain ⟨D, hD⟩ := hok.get _ _ h2
  exact ⟨d, f, a, D, rfl, h1, h2, hD⟩
theorem absent_none {t : Tab} {ds : List DataSig} {τ : Ty} {τs : List Ty} {rows : List (List Pat)} (hok : TabOk t ds) (hT : rowsT t (τ :: τs) rows) (h : absentF t ds (first rows) = none) : ∃ d f D, Full t ds τ rows d f D := by
 cases hl : first rows with
 | nil => rw [hl] at h; cases h
 | cons p l =>
  rw [hl] at h
  by_cases hk : p.kind = 2
  .rw [absentF, if_pos hk] at h; cases h
  rw [absentF, if_neg hk, Option.map_eq_none_iff] at h
  obtain ⟨d, f, a, D, rfl, h3, ht, hD⟩ := first_head hok hT hl hk
  have hc : consAt t ds p.name = D.cons := by simp only [consAt, ht, hD]
  rw [hc, List.find?_eq_none] at h
  refine ⟨d, f, D, rfl, hD, by rw [hl]; exact hc, λ k hkm => ?_⟩
  have h4 := h k hkm
  simp only [lacks, Bool.not_eq_true, Bool.not_eq_false', List.any_eq_true, decide_eq_true_eq] at h4
  obtain ⟨q, hq, hqn⟩ := h4
  obtain ⟨tl, hr, hf⟩ := first_mem (rows := rows) (p := q) (by rw [hl]; exact hq)
  obtain ⟨a', ha⟩ := hok.put d D k hD hkm
  refine ⟨q, tl, hr, hf, hqn, ?_, a', ha⟩
  rcases (hT _ hr).1 with h5 | ⟨_, ⟨a2, h5⟩, h6, _⟩
  .rw [hf] at h5; cases h5
  rw [hqn, ha] at h5
  injection h5 with h5
  injection h5 with _ h5
  injection h5 with _ h5
  omega
theorem missLoop_len {rc : List (List Pat) -> Nat -> List Pat × Bool} {rows : List (List Pat)} {c : Nat} (h : ∀ rows c, (rc rows c).1.length <= c /\ ((rc rows c).2 = true -> (rc rows c).1.length = c)) : ∀ ks, (missLoop rc rows c ks).1.length <= c + 1 /\ ((missLoop rc rows c ks).2 = true -> (missLoop rc rows c ks).1.length = c + 1)
 | [] => ⟨Yw _, λ h => by cases h⟩
 | k :: ks => by
  simp only [missLoop]
  cases hb : (rc (narrow k.name k.args.length rows) (k.args.length + c)).2 with
  | false => exact missLoop_len h ks
  | true =>
   have := (h (narrow k.name k.args.length rows) (k.args.length + c)).2 hb
   simp only [cond_true, Yf, List.length_drop]
   exact ⟨by omega, λ _ => by omega⟩
theorem missF_len (t : Tab) (ds : List DataSig) : ∀ f rows c, (missF t ds f rows c).1.length <= c /\ ((missF t ds f rows c).2 = true -> (missF t ds f rows c).1.length = c)
 | 0, rows, c => ⟨Yw _, λ h => by cases h⟩
 | f + 1, rows, 0 => ⟨Yv _, λ _ => rfl⟩
 | f + 1, rows, c + 1 => by
  rw [missF]
  cases absentF t ds (first rows) with
  | none => exact missLoop_len (missF_len t ds f) _
  | some p =>
   have := missF_len t ds f (rest rows) c
   exact ⟨by simp only [Yf]; omega, λ h => by simp only [Yf]; rw [this.2 h]⟩
end Go.PM
namespace Go.PM
open Go.VL
mutual
def cP : Pat -> Nat
 | .mk k s n as => 1 + cL as
def cL : List Pat -> Nat
 | [] => 0
 | p :: ps => cP p + cL ps
end
theorem cP_eq (p : Pat) : cP p = 1 + cL p.args := by cases p; rw [cP]; rfl
theorem cL_get : ∀ {l : List Pat} {n : Nat} {q : Pat}, l[n]? = some q -> cP q <= cL l
 | [], n, q, h => by simp at h
 | p :: l, 0, q, h => by simp at h; subst h; simp [cL]
 | p :: l, n + 1, q, h => by
  have := cL_get (l := l) (n := n) (q := q) (by simpa using h)
  simp only [cL]
  omega
theorem cL_filter (f : Pat -> Bool) : ∀ l, cL (l.filter f) <= cL l
 | [] => Yv _
 | p :: l => by
  have := cL_filter f l
  rw [List.filter_cons]
  split <;> simp only [cL] <;> omega
theorem below_snoc (l : List Pat) (q : Pat) (name : Str) (n : Nat) : belowF (l ++ [q]) name n = belowF l name n ++ (if q.name = name then [q.args.getD n anyP] else []) := by
 unfold belowF
 rw [List.filterMap_append]
 by_cases h : q.name = name <;> simp [h]
theorem below_len (m : List Pat) (name : Str) (n : Nat) : (belowF m name n).length <= m.length := Yt _ _
theorem below_c {name : Str} {n : Nat} : ∀ {m : List Pat}, (∀ q ∈ m, q.name = name -> n < q.args.length) -> cL (belowF m name n) + (belowF m name n).length <= cL m
 | [], _ => Yv _
 | q :: m, h => by
  have ih := below_c (m := m) λ q hq => h q (Ye _ hq)
  by_cases hn : q.name = name
  .have hlt := h q (Ya ..) hn
   have h1 : belowF (q :: m) name n = q.args.getD n anyP :: belowF m name n := by simp [belowF, hn]
   have h2 : q.args[n]? = some (q.args.getD n anyP) := by simp [hlt]
   have h3 := cL_get h2
   have h4 := cP_eq q
   rw [h1]
   simp only [cL, Yf]
   omega
  have h1 : belowF (q :: m) name n = belowF m name n := by simp [belowF, hn]
  rw [h1]
  simp only [cL]
  omega
theorem below_mem {name : Str} {n : Nat} {m : List Pat} {x : Pat} (h : x ∈ belowF m name n) : ∃ q ∈ m, q.name = name /\ x = q.args.getD n anyP := by
 obtain ⟨q, hq, hx⟩ := Yb.1 h
 split at hx
 .rename_i hn
  injection hx with hx
  exact ⟨q, hq, hn, hx.symm⟩
 cases hx
theorem patsF_all {t : Tab} : ∀ {l : List Pat}, patsF t l = 0 -> ∀ q ∈ l, patF t q = 0
 | [], _, q, h => by cases h
 | p :: l, h, q, hq => by
  rw [patsF] at h
  by_cases hp : patF t p = 0
  .rw [if_neg (by simpa using hp)] at h
   rcases Yh.1 hq with rfl | hq
   .exact hp
   exact patsF_all h q hq
  rw [if_pos hp] at h
  exact absurd h hp
theorem patF_con {t : Tab} {p : Pat} (h : patF t p = 0) (hf : free p = false) : p.kind = 2 \/ (p.kind = 3 /\ ∃ c, tget t p.name = some c /\ p.args.length = c.2.2 /\ ∀ q ∈ p.args, patF t q = 0) := by
 obtain ⟨k, s, n, as⟩ := p
 simp only [free, Pat.kind, Bool.or_eq_false_iff, beq_eq_false_iff_ne, ne_eq] at hf
 rw [patF, if_neg (by simp [hf])] at h
 by_cases h2 : k = 2
 .exact .inl h2
 rw [if_neg h2] at h
 by_cases h3 : k = 3
 .rw [if_pos h3] at h
  refine .inr ⟨h3, ?_⟩
  simp only [Pat.name, Pat.args]
  cases hc : tget t s with
  | none => rw [hc] at h; cases h
  | some c =>
   rw [hc] at h
   by_cases hl : as.length = c.2.2
   .refine ⟨c, rfl, hl, ?_⟩
    simp [hl] at h
    exact patsF_all h
   simp [hl] at h
 rw [if_neg h3] at h
 cases h
theorem all_snoc {α : Type} {p : α -> Bool} {l : List α} {k : Nat} {x : α} (h : l[k]? = some x) (ha : (l.take k).all p = true) (hp : p x = true) : (l.take (k + 1)).all p = true := by
 rw [take_snoc h, List.all_append, ha]
 simp [hp]
theorem sameKind_no {t : Tab} {m : List Pat} {k : Nat} {p : Pat} (h : m[k]? = some p) (hk : kindF t p ≠ kindF t (m.headD anyP)) : sameKind t m = false := by
 unfold sameKind
 rw [List.all_eq_false]
 exact ⟨p, Yg h, by simpa using hk⟩
theorem same_args {t : Tab} {m : List Pat} {p q : Pat} (hs : sameKind t m = true) (hok : ∀ p ∈ m, patF t p = 0) (hf : ∀ p ∈ m, free p = false) (hp : p ∈ m) (hq : q ∈ m) (hk : p.kind = 3) (hn : q.name = p.name) :
  q.kind = 3 /\ q.args.length = p.args.length /\ ∀ x ∈ q.args, patF t x = 0 := by
 unfold sameKind at hs
 rw [Yi] at hs
 have h1 := hs p hp
 have h2 := hs q hq
 simp only [decide_eq_true_eq] at h1 h2
 rcases patF_con (hok p hp) (hf p hp) with h3 | ⟨_, c, hc, hl, _⟩
 .rw [h3] at hk; cases hk
 rcases patF_con (hok q hq) (hf q hq) with h3 | ⟨h4, c', hc', hl', ha⟩
 .exfalso
  have e1 : kindF t p = c.1 := by simp [kindF, hk, hc]
  have e2 : kindF t q = -1 := by simp [kindF, h3]
  omega
 rw [hn, hc] at hc'
 injection hc' with hc'
 subst hc'
 exact ⟨h4, by omega, ha⟩
structure AgreePre (t : Tab) (n : Nat) (l : List Pat) : Prop where
 ne : l ≠ []
 len : l.length <= 1000
 ok : ∀ p ∈ l, patF t p = 0
 fuel : cL l < n
theorem nf_mem {l : List Pat} {p : Pat} (h : p ∈ l.filter nf) : p ∈ l /\ free p = false := by
 obtain ⟨h1, h2⟩ := Yq.1 h
 exact ⟨h1, by simpa [nf] using h2⟩
theorem AgreePre.below {t : Tab} {f n : Nat} {l m : List Pat} {p : Pat} (h : AgreePre t (f + 1) l) (hm : m = l.filter nf) (hs : sameKind t m = true) (hp : p ∈ m) (hk : p.kind = 3) (hn : n < p.args.length) : AgreePre t f (belowF m p.name n) := by
 have hok : ∀ p ∈ m, patF t p = 0 := λ p hp => h.ok p (nf_mem (hm ▸ hp)).1
 have hf : ∀ p ∈ m, free p = false := λ p hp => (nf_mem (hm ▸ hp)).2
 have hlen := below_len m p.name n
 have hml : m.length <= l.length := by rw [hm]; exact List.length_filter_le _ _
 have hpos : 0 < (belowF m p.name n).length := by
  have : p.args.getD n anyP ∈ belowF m p.name n := Yb.2 ⟨p, hp, by simp⟩
  exact List.length_pos_of_mem this
 have hc := below_c (name := p.name) (n := n) (m := m) λ q hq hqn => by
  have := (same_args hs hok hf hp hq hk hqn).2.1
  omega
 have hcm : cL m <= cL l := by rw [hm]; exact cL_filter nf l
 have := h.fuel
 have := h.len
 refine ⟨λ e => (by rw [e] at hpos; cases hpos), by omega, λ x hx => ?_, by omega⟩
 obtain ⟨q, hq, hqn, rfl⟩ := below_mem hx
 have h1 := same_args hs hok hf hp hq hk hqn
 refine h1.2.2 _ ?_
 have hl : n < q.args.length := by omega
 have : q.args[n]? = some (q.args.getD n anyP) := by simp [hl]
 exact Yg this
theorem pats_fits (l : List Pat) : ∀ y ∈ l.map patV, y.fits 4 = true /\ ((∃ ls, y = .agg ls) \/ y.leaf = true) := λ y hy => by
 obtain ⟨p, _, rfl⟩ := Yd.1 hy
 rw [patV_eq]
 exact ⟨rfl, .inl ⟨_, rfl⟩⟩
end Go.PM
namespace Go.PM
open Go.VL
def errRows (t : Tab) : List (List Pat) -> Int
 | [] => 0
 | r :: rs => if patsF t r ≠ 0 then patsF t r else errRows t rs
def colF (rows : List (List Pat)) (n : Nat) : List Pat := rows.map λ r => r.getD n anyP
def colsLoop (t : Tab) (rows : List (List Pat)) : Nat -> Nat -> Bool
 | _, 0 => true
 | n, k + 1 => agreeF t 401 (colF rows n) && colsLoop t rows (n + 1) k
def width (rows : List (List Pat)) : Nat := (rows.headD []).length
def sameLen (rows : List (List Pat)) (r : List Pat) : Bool := decide (r.length = width rows)
def checkT (t : Tab) (rows : List (List Pat)) : Int := if rows.all (sameLen rows) = false then 3 else if errRows t rows ≠ 0 then errRows t rows else if colsLoop t rows 0 (width rows) = false then 10 else 0
def checkF (ds : List DataSig) (rows : List (List Pat)) : Int := if small ds rows = false then 2 else match buildF 0 ds [] with
 | none => 7
 | some t => checkT t rows
def cR : List (List Pat) -> Nat
 | [] => 0
 | r :: rs => cL r + cR rs
theorem sizeLoop_cL {rc : List Pat -> Int -> Bool × Int} (h : ∀ l m, (rc l m).1 = true -> (rc l m).2 = m + cL l) : ∀ (l : List Pat) (m : Int), (sizeLoop rc l m).1 = true -> (sizeLoop rc l m).2 = m + cL l
 | [], m, _ => by simp [sizeLoop, cL]
 | p :: l, m, h1 => by
  simp only [sizeLoop] at h1 ⊢
  by_cases hm : m + 1 > 400
  .rw [if_pos hm] at h1; cases h1
  rw [if_neg hm] at h1 ⊢
  cases hb : (rc p.args (m + 1)).1 with
  | false => rw [hb] at h1; cases h1
  | true =>
   rw [hb, cond_true] at h1
   have h2 := h p.args (m + 1) hb
   have h3 := sizeLoop_cL h l _ h1
   have h4 := cP_eq p
   rw [cond_true, h3, h2]
   simp only [cL]
   omega
theorem sizeF_cL : ∀ (n : Nat) (l : List Pat) (m : Int), (sizeF n l m).1 = true -> (sizeF n l m).2 = m + cL l
 | 0, l, m, h => by
  have : l = [] := by simpa [sizeF] using h
  subst this
  simp [sizeF, cL]
 | n + 1, l, m, h => sizeLoop_cL (sizeF_cL n) l m h
theorem smallRows_cR : ∀ (rows : List (List Pat)) (m : Int), 0 <= m -> m <= 400 -> small.smallRows rows m = true -> m + cR rows <= 400 /\ ∀ r ∈ rows, r.length <= 16
 | [], m, _, h4, _ => ⟨by simpa [cR] using h4, λ r h => by cases h⟩
 | r :: rs, m, h0, h4, h => by
  simp only [small.smallRows] at h
  by_cases hl : r.length > 16
  .rw [if_pos hl] at h; cases h
  rw [if_neg hl] at h
  cases hb : (sizeF 20 r m).1 with
  | false => rw [hb] at h; cases h
  | true =>
   rw [hb, cond_true] at h
   have h1 := sizeF_cL 20 r m hb
   have h2 := sizeF_le 20 r m h0 h4
   have h3 := smallRows_cR rs _ (by omega) (h2.2 hb) h
   refine ⟨by simp only [cR]; omega, λ x hx => ?_⟩
   rcases Yh.1 hx with rfl | hx
   .omega
   exact h3.2 x hx
structure Small (ds : List DataSig) (rows : List (List Pat)) : Prop where
 nodes : cR rows <= 400
 cols : ∀ r ∈ rows, r.length <= 16
 rows : rows.length <= 64
 cons : ∀ d ∈ ds, d.cons.length <= 256
theorem small_of {ds : List DataSig} {rows : List (List Pat)} (h : small ds rows = true) : Small ds rows := by
 unfold small at h
 simp only [Bool.and_eq_true, decide_eq_true_eq, Bool.not_eq_true', Yk] at h
 obtain ⟨⟨h1, h2⟩, h3⟩ := h
 have h4 := smallRows_cR rows 0 (Yy _) (by omega) h1
 exact ⟨by omega, h4.2, h2, λ d hd => by have := h3 d hd; omega⟩
theorem col_c : ∀ (rows : List (List Pat)) (n : Nat), (∀ r ∈ rows, n < r.length) -> cL (colF rows n) <= cR rows
 | [], n, _ => Yv _
 | r :: rs, n, h => by
  have ih := col_c rs n λ r hr => h r (Ye _ hr)
  have hlt := h r (Ya ..)
  have h2 : r[n]? = some (r.getD n anyP) := by simp [hlt]
  have := cL_get h2
  simp only [colF, List.map_cons, cL, cR] at ih ⊢
  omega
theorem errRows_all {t : Tab} : ∀ {rows : List (List Pat)}, errRows t rows = 0 -> ∀ r ∈ rows, patsF t r = 0
 | [], _, r, h => by cases h
 | r :: rs, h, x, hx => by
  rw [errRows] at h
  by_cases hr : patsF t r = 0
  .rw [if_neg (by simpa using hr)] at h
   rcases Yh.1 hx with rfl | hx
   .exact hr
   exact errRows_all h x hx
  rw [if_pos hr] at h
  exact absurd h hr
theorem same_all {rows : List (List Pat)} (h : rows.all (sameLen rows) = true) : ∀ r ∈ rows, r.length = width rows := λ r hr => by
 have := Yi.1 h r hr
 simpa [sameLen] using this
theorem agreePre_col {ds : List DataSig} {t : Tab} {rows : List (List Pat)} {n : Nat} (hs : Small ds rows) (ha : rows.all (sameLen rows) = true) (he : errRows t rows = 0) (hr : rows ≠ []) (hn : n < width rows) : AgreePre t 401 (colF rows n) := by
 have hlen : ∀ r ∈ rows, n < r.length := λ r h => by rw [same_all ha r h]; exact hn
 have h1 := col_c rows n hlen
 have h2 := hs.nodes
 have h3 := hs.rows
 refine ⟨by simpa [colF] using hr, by simp only [colF, List.length_map]; omega, λ p hp => ?_, by omega⟩
 obtain ⟨r, hrm, rfl⟩ := Yd.1 hp
 have hlt := hlen r hrm
 have h4 : r[n]? = some (r.getD n anyP) := by simp [hlt]
 exact patsF_all (errRows_all he r hrm) _ (Yg h4)
theorem col_snoc (l : List (List Pat)) (r : List Pat) (n : Nat) : colF (l ++ [r]) n = colF l n ++ [r.getD n anyP] := by simp [colF]
end Go.PM
namespace Go.PM
open Go.VL
@[irreducible] def fuel0 : Nat := 400000
theorem fuel0_eq : fuel0 = 400000 := by unfold fuel0; rfl
def missBad (rows : List (List Pat)) (c : Int) : Prop := c < 0 \/ 16 < c \/ (rows ≠ [] /\ c ≠ width rows)
instance (rows : List (List Pat)) (c : Int) : Decidable (missBad rows c) := by unfold missBad; exact (inferInstanceAs (Decidable (_ \/ _ \/ (_ /\ _))))
def missOut (ds : List DataSig) (rows : List (List Pat)) (c : Int) : List Pat × Int :=
 if checkF ds rows = 0 then (if missBad rows c then ([], 1) else match buildF 0 ds [] with
  | none => ([], 0)
  | some t => (bif (missF t ds fuel0 rows c.toNat).2 then (missF t ds fuel0 rows c.toNat).1 else [], 0))
 else ([], checkF ds rows)
theorem missOut_err {ds : List DataSig} {rows : List (List Pat)} {c : Int} (h : checkF ds rows ≠ 0) : missOut ds rows c = ([], checkF ds rows) := by rw [missOut, if_neg h]
theorem missOut_bad {ds : List DataSig} {rows : List (List Pat)} {c : Int} (h : checkF ds rows = 0) (hb : missBad rows c) : missOut ds rows c = ([], 1) := by rw [missOut, if_pos h, if_pos hb]
theorem missOut_ok {ds : List DataSig} {rows : List (List Pat)} {c : Int} {t : Tab} (h : checkF ds rows = 0) (hb : ¬ missBad rows c) (ht : buildF 0 ds [] = some t) : missOut ds rows c = (bif (missF t ds fuel0 rows c.toNat).2 then (missF t ds fuel0 rows c.toNat).1 else [], 0) := by rw [missOut, if_pos h, if_neg hb, ht]
structure MissPre (t : Tab) (f : Nat) (rows : List (List Pat)) (τs : List Ty) : Prop where
 ty : rowsT t τs rows
 len : rows.length <= 1000
 fuel : τs.length + 401 * wR rows < f
def CheckTy (ds : List DataSig) : Prop := ∀ rows (c : Int) t, checkF ds rows = 0 -> buildF 0 ds [] = some t -> ¬ missBad rows c -> TabOk t ds /\ ∃ τs : List Ty, (τs.length : Int) = c /\ MissPre t fuel0 rows τs
end Go.PM
end
section
namespace Go.PM
open Go.VL
theorem tget_snoc : ∀ (t : Tab) (a : Str) (v : Nat × Nat × Nat) (s : Str), tget (t ++ [(a, v)]) s = match tget t s with | some c => some c | none => if a = s then some v else none
 | [], a, v, s => by simp [tget]
 | (b, u) :: t, a, v, s => by
  rw [Yj]
  simp only [tget]
  by_cases h : b = s
  .rw [if_pos h, if_pos h]
  rw [if_neg h, if_neg h, tget_snoc t a v s]
structure Adds (t0 t1 : Tab) (k : Nat) (cs : List ConSig) : Prop where
 mono : ∀ s c, tget t0 s = some c -> tget t1 s = some c
 put : ∀ kk ∈ cs, ∃ a, tget t1 kk.name = some (k, a, kk.args.length)
 get : ∀ s c, tget t1 s = some c -> tget t0 s = some c \/ (c.1 = k /\ ∃ kk ∈ cs, kk.name = s /\ kk.args.length = c.2.2)
theorem addCons_adds {k : Nat} : ∀ {cs : List ConSig} {n : Nat} {t0 t1 : Tab}, addCons k n cs t0 = some t1 -> Adds t0 t1 k cs
 | [], n, t0, t1, h => by
  injection h with h
  subst h
  exact ⟨λ _ _ h => h, λ kk h => (by cases h), λ _ _ h => .inl h⟩
 | c :: cs, n, t0, t1, h => by
  rw [addCons] at h
  cases hc : tget t0 c.name with
  | some x => rw [hc] at h; cases h
  | none =>
   rw [hc] at h
   have ih := addCons_adds h
   have hself : tget (t0 ++ [(c.name, k, n, c.args.length)]) c.name = some (k, n, c.args.length) := by rw [tget_snoc, hc]; simp
   refine ⟨λ s x hx => ih.mono s x (by rw [tget_snoc, hx]), λ kk hk => ?_, λ s x hx => ?_⟩
   .rcases Yh.1 hk with rfl | hk
    .exact ⟨n, ih.mono _ _ hself⟩
    exact ih.put kk hk
   rcases ih.get s x hx with h1 | ⟨h1, kk, h2, h3, h4⟩
   .rw [tget_snoc] at h1
    cases hs : tget t0 s with
    | some y => rw [hs] at h1; exact .inl h1
    | none =>
     rw [hs] at h1
     simp only at h1
     by_cases hn : c.name = s
     .rw [if_pos hn] at h1
      injection h1 with h1
      subst h1
      exact .inr ⟨rfl, c, Ya .., hn, rfl⟩
     rw [if_neg hn] at h1; cases h1
   exact .inr ⟨h1, kk, Ye _ h2, h3, h4⟩
structure Builds (t0 t1 : Tab) (k : Nat) (ds : List DataSig) : Prop where
 mono : ∀ s c, tget t0 s = some c -> tget t1 s = some c
 put : ∀ i D kk, ds[i]? = some D -> kk ∈ D.cons -> ∃ a, tget t1 kk.name = some (k + i, a, kk.args.length)
 get : ∀ s c, tget t1 s = some c -> tget t0 s = some c \/ ∃ i D, c.1 = k + i /\ ds[i]? = some D /\ ∃ kk ∈ D.cons, kk.name = s /\ kk.args.length = c.2.2
theorem buildF_builds : ∀ {ds : List DataSig} {k : Nat} {t0 t1 : Tab}, buildF k ds t0 = some t1 -> Builds t0 t1 k ds
 | [], k, t0, t1, h => by
  injection h with h
  subst h
  exact ⟨λ _ _ h => h, λ i D kk h => by simp at h, λ _ _ h => .inl h⟩
 | d :: ds, k, t0, t1, h => by
  rw [buildF] at h
  cases hc : addCons k 0 d.cons t0 with
  | none => rw [hc] at h; cases h
  | some t' =>
   rw [hc] at h
   have ih := buildF_builds h
   have ha := addCons_adds hc
   refine ⟨λ s x hx => ih.mono s x (ha.mono s x hx), λ i D kk hi hk => ?_, λ s x hx => ?_⟩
   .cases i with
    | zero =>
     simp at hi
     subst hi
     obtain ⟨a, h1⟩ := ha.put kk hk
     exact ⟨a, ih.mono _ _ h1⟩
    | succ i =>
     obtain ⟨a, h1⟩ := ih.put i D kk (by simpa using hi) hk
     exact ⟨a, by rw [h1, show k + 1 + i = k + (i + 1) by omega]⟩
   rcases ih.get s x hx with h1 | ⟨i, D, h1, h2, h3⟩
   .rcases ha.get s x h1 with h4 | ⟨h4, kk, h5, h6⟩
    .exact .inl h4
    exact .inr ⟨0, d, by omega, by simp, kk, h5, h6⟩
   exact .inr ⟨i + 1, D, by omega, by simpa using h2, h3⟩
structure TabLaw (t : Tab) (ds : List DataSig) : Prop where
 put : ∀ (d : Nat) D k, ds[d]? = some D -> k ∈ D.cons -> ∃ a, tget t k.name = some (d, a, k.args.length)
 get : ∀ s c, tget t s = some c -> ∃ D, ds[c.1]? = some D /\ ∃ k ∈ D.cons, k.name = s /\ k.args.length = c.2.2
theorem tabLaw_of {ds : List DataSig} {t : Tab} (h : buildF 0 ds [] = some t) : TabLaw t ds := by
 have hb := buildF_builds h
 refine ⟨λ d D k hd hk => ?_, λ s c hs => ?_⟩
 .obtain ⟨a, h1⟩ := hb.put d D k hd hk
  exact ⟨a, by rw [h1, Nat.zero_add]⟩
 rcases hb.get s c hs with h1 | ⟨i, D, h1, h2, h3⟩
 .cases h1
 exact ⟨D, by rw [h1, Nat.zero_add]; exact h2, h3⟩
def Sized (ds : List DataSig) : Prop := ∀ d ∈ ds, ∀ k ∈ d.cons, k.args.length * 56 <= 140737488355328
theorem tabOk_of {ds : List DataSig} {t : Tab} {rows : List (List Pat)} (h : buildF 0 ds [] = some t) (hs : Small ds rows) (hz : Sized ds) : TabOk t ds := by
 have hl := tabLaw_of h
 refine ⟨λ s c hc => ?_, hl.put, λ d D hD => ⟨?_, hz D (Yg hD)⟩⟩
 .obtain ⟨D, h1, _⟩ := hl.get s c hc
  exact ⟨D, h1⟩
 have := hs.cons D (Yg hD)
 omega
def Good (ds : List DataSig) : Ty -> Prop
 | .any => True
 | .int => True
 | .dat d f => (∃ D, ds[d]? = some D /\ D.cons ≠ []) /\ ∀ s i, Good ds (f s i)
theorem agreeArgs_all {rc : List Pat -> Bool} {m : List Pat} {name : Str} : ∀ (k n : Nat), agreeArgs rc m name n k = true -> ∀ i, n <= i -> i < n + k -> rc (belowF m name i) = true
 | 0, n, _, i, h1, h2 => by omega
 | k + 1, n, h, i, h1, h2 => by
  rw [agreeArgs, Bool.and_eq_true] at h
  rcases Nat.eq_or_lt_of_le h1 with rfl | h3
  .exact h.1
  exact agreeArgs_all k (n + 1) h.2 i h3 (by omega)
theorem agreeLoop_all {rc : List Pat -> Bool} {m : List Pat} (hargs : ∀ p ∈ m, ∀ q ∈ m, p.kind = 3 -> q.name = p.name -> q.kind = 3 /\ q.args.length = p.args.length) : ∀ (ps seen : List Pat), seen ++ ps = m -> agreeLoop rc m seen ps = true ->
  (∀ p ∈ seen, p.kind = 3 -> ∀ n, n < p.args.length -> rc (belowF m p.name n) = true) -> ∀ p ∈ m, p.kind = 3 -> ∀ n, n < p.args.length -> rc (belowF m p.name n) = true
 | [], seen, hm, _, hs => by
  rw [List.append_nil] at hm
  subst hm
  exact hs
 | p :: ps, seen, hm, h, hs => by
  rw [agreeLoop, Bool.and_eq_true] at h
  refine agreeLoop_all hargs ps (seen ++ [p]) (by rw [<- hm]; simp) h.2 λ q hq hk n hn => ?_
  rcases List.mem_append.1 hq with hq | hq
  .exact hs q hq hk n hn
  rw [List.mem_singleton] at hq
  subst hq
  have h1 := h.1
  simp only [Bool.or_eq_true, List.any_eq_true, decide_eq_true_eq] at h1
  rcases h1 with (⟨x, hx, hxn⟩ | h1) | h1
  .have hqm : q ∈ m := by rw [<- hm]; simp
   have hxm : x ∈ m := by rw [<- hm]; exact List.mem_append_left _ hx
   have h2 := hargs q hqm x hxm hk hxn
   have := hs x hx h2.1 n (by omega)
   rw [hxn] at this
   exact this
  .exact absurd hk h1
  exact agreeArgs_all _ 0 h1 n (Yw _) (by omega)
theorem len_le_cL : ∀ l : List Pat, l.length <= cL l
 | [] => Yv _
 | p :: l => by
  have := len_le_cL l
  have := cP_eq p
  simp only [Yf, cL]
  omega
theorem cP_mem {l : List Pat} {p : Pat} (h : p ∈ l) : cP p <= cL l := by
 obtain ⟨i, hi⟩ := List.getElem?_of_mem h
 exact cL_get hi
theorem agree_ty {t : Tab} {ds : List DataSig} (hl : TabLaw t ds) : ∀ (f : Nat), f <= 401 -> ∀ l, AgreePre t f l -> agreeF t f l = true -> ∃ τ, Good ds τ /\ ∀ p ∈ l, wt t τ p
 | 0, _, l, hp, _ => absurd hp.fuel (Yx _)
 | f + 1, hf, l, hp, h => by
  rw [agreeF, Bool.and_eq_true] at h
  obtain ⟨hs, ha⟩ := h
  have hok : ∀ p ∈ l.filter nf, patF t p = 0 := λ p hp' => hp.ok p (nf_mem hp').1
  have hnf : ∀ p ∈ l.filter nf, free p = false := λ p hp' => (nf_mem hp').2
  have hsplit : ∀ p ∈ l, free p = true \/ p ∈ l.filter nf := λ p hpl => by
   cases hfp : free p with
   | true => exact .inl rfl
   | false => exact .inr (Yq.2 ⟨hpl, by simp [nf, hfp]⟩)
  cases hm : l.filter nf with
  | nil =>
   refine ⟨.any, trivial, λ p hpl => ?_⟩
   rcases hsplit p hpl with h1 | h1
   .exact h1
   rw [hm] at h1; cases h1
  | cons p0 l0 =>
   have hp0 : p0 ∈ l.filter nf := by rw [hm]; exact Ya ..
   have hkind : ∀ p ∈ l.filter nf, kindF t p = kindF t p0 := λ p hpm => by
    have := Yi.1 hs p hpm
    rw [hm] at this
    simpa using this
   rcases patF_con (hok p0 hp0) (hnf p0 hp0) with h2 | ⟨h3, c, hc, _, _⟩
   .refine ⟨.int, trivial, λ p hpl => ?_⟩
    rcases hsplit p hpl with h1 | h1
    .exact .inl h1
    have e := hkind p h1
    rcases patF_con (hok p h1) (hnf p h1) with h5 | ⟨h5, c', hc', _, _⟩
    .exact .inr h5
    have e0 : kindF t p0 = -1 := by simp [kindF, h2]
    have e1 : kindF t p = c'.1 := by simp [kindF, h5, hc']
    omega
   have hk3 : ∀ p ∈ l.filter nf, p.kind = 3 /\ ∃ a, tget t p.name = some (c.1, a, p.args.length) := λ p hpm => by
    have e := hkind p hpm
    have e0 : kindF t p0 = c.1 := by simp [kindF, h3, hc]
    rcases patF_con (hok p hpm) (hnf p hpm) with h5 | ⟨h5, c', hc', hl', _⟩
    .have e1 : kindF t p = -1 := by simp [kindF, h5]
     omega
    have e1 : kindF t p = c'.1 := by simp [kindF, h5, hc']
    refine ⟨h5, c'.2.1, ?_⟩
    rw [hc', hl']
    have : c'.1 = c.1 := by omega
    rw [<- this]
   have hargs : ∀ p ∈ l.filter nf, ∀ q ∈ l.filter nf, p.kind = 3 -> q.name = p.name -> q.kind = 3 /\ q.args.length = p.args.length := λ p hpm q hqm hk hn => by
    have := same_args hs hok hnf hpm hqm hk hn
    exact ⟨this.1, this.2.1⟩
   have hall := agreeLoop_all hargs _ [] rfl ha λ p hp => by cases hp
   obtain ⟨D, hD, k, hk, _⟩ := hl.get _ _ hc
   have hex : ∀ p ∈ l.filter nf, ∀ i, i < p.args.length -> ∃ τ, Good ds τ /\ ∀ q ∈ belowF (l.filter nf) p.name i, wt t τ q := λ p hpm i hi =>
    agree_ty hl f (by omega) _ (hp.below rfl hs hpm (hk3 p hpm).1 hi) (hall p hpm (hk3 p hpm).1 i hi)
   let g : Str -> Nat -> Ty := λ s i => open Classical in if h : ∃ τ, Good ds τ /\ ∀ q ∈ belowF (l.filter nf) s i, wt t τ q then Classical.choose h else .any
   have hg1 : ∀ s i, Good ds (g s i) := λ s i => by
    by_cases h : ∃ τ, Good ds τ /\ ∀ q ∈ belowF (l.filter nf) s i, wt t τ q
    .have e : g s i = Classical.choose h := dif_pos h
     rw [e]
     exact (Classical.choose_spec h).1
    have e : g s i = .any := dif_neg h
    rw [e]
    trivial
   refine ⟨.dat c.1 g, ⟨⟨D, hD, λ e => by rw [e] at hk; cases hk⟩, hg1⟩, λ p hpl => ?_⟩
   rcases hsplit p hpl with h1 | h1
   .exact .inl h1
   obtain ⟨h5, a, h6⟩ := hk3 p h1
   have h7 : cP p <= cL l := cP_mem hpl
   have h8 := len_le_cL p.args
   have h9 := cP_eq p
   have h10 := hp.fuel
   refine .inr ⟨h5, ⟨a, h6⟩, by omega, λ i q hi => ?_⟩
   have hilt := (Yc.1 hi).1
   have hexi := hex p h1 i hilt
   have : g p.name i = Classical.choose hexi := dif_pos hexi
   rw [this]
   refine (Classical.choose_spec hexi).2 q (Yb.2 ⟨p, h1, ?_⟩)
   rw [if_pos rfl]
   simp [hi]
end Go.PM
namespace Go.PM
open Go.VL
theorem check_parts {ds : List DataSig} {rows : List (List Pat)} {t : Tab} (h : checkF ds rows = 0) (hb : buildF 0 ds [] = some t) : Small ds rows /\ rows.all (sameLen rows) = true /\ errRows t rows = 0 /\ colsLoop t rows 0 (width rows) = true := by
 unfold checkF at h
 cases hs : small ds rows with
 | false => rw [hs] at h; simp at h
 | true =>
  rw [hs, hb] at h
  simp only [Bool.true_eq_false, if_false] at h
  unfold checkT at h
  cases ha : rows.all (sameLen rows) with
  | false => rw [ha] at h; simp at h
  | true =>
   rw [ha] at h
   simp only [Bool.true_eq_false, if_false] at h
   by_cases he : errRows t rows = 0
   .rw [if_neg (by simpa using he)] at h
    cases hc : colsLoop t rows 0 (width rows) with
    | false => rw [hc] at h; simp at h
    | true => exact ⟨small_of hs, rfl, he, rfl⟩
   rw [if_pos he] at h
   exact absurd h he
theorem colsLoop_all {t : Tab} {rows : List (List Pat)} : ∀ (k n : Nat), colsLoop t rows n k = true -> ∀ i, n <= i -> i < n + k -> agreeF t 401 (colF rows i) = true
 | 0, n, _, i, h1, h2 => by omega
 | k + 1, n, h, i, h1, h2 => by
  rw [colsLoop, Bool.and_eq_true] at h
  rcases Nat.eq_or_lt_of_le h1 with rfl | h3
  .exact h.1
  exact colsLoop_all k (n + 1) h.2 i h3 (by omega)
mutual
theorem wP_le : ∀ p : Pat, wP p <= cP p
 | .mk k s n as => by
  have := wL_le as
  rw [wP, cP]
  split <;> omega
theorem wL_le : ∀ l : List Pat, wL l <= cL l
 | [] => Yv _
 | p :: l => by
  have := wP_le p
  have := wL_le l
  rw [wL, cL]
  omega
end
theorem wR_le : ∀ rows, wR rows <= cR rows
 | [] => Yv _
 | r :: rows => by
  have := wL_le r
  have := wR_le rows
  rw [wR, cR]
  omega
structure Typed (ds : List DataSig) (t : Tab) (rows : List (List Pat)) (τs : List Ty) : Prop where
 good : ∀ τ ∈ τs, Good ds τ
 pre : MissPre t fuel0 rows τs
theorem typed_of {ds : List DataSig} {rows : List (List Pat)} {t : Tab} {c : Int} (h : checkF ds rows = 0) (hb : buildF 0 ds [] = some t) (hnb : ¬ missBad rows c) : ∃ τs : List Ty, (τs.length : Int) = c /\ Typed ds t rows τs := by
 obtain ⟨hs, ha, he, hc⟩ := check_parts h hb
 have hl := tabLaw_of hb
 have h0 : 0 <= c := by
  rcases Decidable.em (c < 0) with h1 | h1
  .exact absurd (.inl h1) hnb
  omega
 have h16 : c <= 16 := by
  rcases Decidable.em (16 < c) with h1 | h1
  .exact absurd (.inr (.inl h1)) hnb
  omega
 have hw := wR_le rows
 have hn := hs.nodes
 have hr := hs.rows
 cases hrows : rows with
 | nil =>
  refine ⟨List.replicate c.toNat .any, by simp; omega, λ τ hτ => (by rw [List.eq_of_mem_replicate hτ]; trivial), ⟨λ r hr => (by cases hr), by simp, by rw [fuel0_eq]; simp [wR]; omega⟩⟩
 | cons r0 rs =>
  rw [<- hrows]
  have hne : rows ≠ [] := by rw [hrows]; simp
  have hwd : c = width rows := by
   rcases Decidable.em (c = width rows) with h1 | h1
   .exact h1
   exact absurd (.inr (.inr ⟨hne, h1⟩)) hnb
  have hex : ∀ n, ∃ τ, Good ds τ /\ (n < width rows -> ∀ p ∈ colF rows n, wt t τ p) := λ n => by
   by_cases hn : n < width rows
   .obtain ⟨τ, h1, h2⟩ := agree_ty hl 401 (Yv _) _ (agreePre_col hs ha he hne hn) (colsLoop_all _ _ hc n (Yw _) (by omega))
    exact ⟨τ, h1, λ _ => h2⟩
   exact ⟨.any, trivial, λ h => absurd h hn⟩
  refine ⟨(Yn (width rows)).map λ n => Classical.choose (hex n), by simp; omega, λ τ hτ => ?_, ⟨λ r hrm => ?_, by omega, by rw [fuel0_eq]; simp; omega⟩⟩
  .obtain ⟨n, _, rfl⟩ := Yd.1 hτ
   exact (Classical.choose_spec (hex n)).1
  refine rowT.of_get (by simp [same_all ha r hrm]) λ i τ p h1 h2 => ?_
  have hi : i < width rows := by have := (Yc.1 h2).1; rw [same_all ha r hrm] at this; exact this
  simp only [Yo, Yp hi, Option.map_some, Option.some.injEq] at h1
  subst h1
  refine (Classical.choose_spec (hex i)).2 hi p (Yd.2 ⟨r, hrm, ?_⟩)
  simp [h2]
theorem checkTy {ds : List DataSig} (hz : Sized ds) : CheckTy ds := λ rows c t h hb hnb => by
 obtain ⟨τs, h1, h2⟩ := typed_of h hb hnb
 exact ⟨tabOk_of hb (check_parts h hb).1 hz, τs, h1, h2.pre⟩
inductive Val where
 | int (n : Int)
 | con (name : Str) (args : List Val)
mutual
def matP : Pat -> Val -> Prop
 | .mk k s n as, v => (k = 0 \/ k = 1) \/ (k = 2 /\ v = .int n) \/ (k = 3 /\ ∃ vs, v = .con s vs /\ matL as vs)
def matL : List Pat -> List Val -> Prop
 | [], vs => vs = []
 | p :: ps, vs => ∃ v vs', vs = v :: vs' /\ matP p v /\ matL ps vs'
end
theorem matP_eq (p : Pat) (v : Val) : matP p v ↔ free p = true \/ (p.kind = 2 /\ v = .int p.n) \/ (p.kind = 3 /\ ∃ vs, v = .con p.name vs /\ matL p.args vs) := by
 obtain ⟨k, s, n, as⟩ := p
 rw [matP]
 simp [free, Pat.kind, Pat.name, Pat.n, Pat.args]
theorem matP_free {p : Pat} (h : free p = true) (v : Val) : matP p v := (matP_eq p v).2 (.inl h)
theorem matL_cons {p : Pat} {ps : List Pat} {v : Val} {vs : List Val} : matL (p :: ps) (v :: vs) ↔ matP p v /\ matL ps vs := by
 rw [matL]
 constructor
 .rintro ⟨v', vs', h, h1, h2⟩
  injection h with h3 h4
  subst h3
  subst h4
  exact ⟨h1, h2⟩
 rintro ⟨h1, h2⟩
 exact ⟨v, vs, rfl, h1, h2⟩
theorem matL_len : ∀ {ps : List Pat} {vs : List Val}, matL ps vs -> ps.length = vs.length
 | [], vs, h => by rw [matL] at h; rw [h]; rfl
 | p :: ps, vs, h => by
  rw [matL] at h
  obtain ⟨v, vs', rfl, _, h2⟩ := h
  simp [matL_len h2]
theorem matL_append : ∀ {a b : List Pat} {x y : List Val}, a.length = x.length -> (matL (a ++ b) (x ++ y) ↔ matL a x /\ matL b y)
 | [], b, [], y, _ => by simp [matL]
 | p :: a, b, v :: x, y, h => by
  rw [Yj, Yj, matL_cons, matL_cons, matL_append (by simpa using h), and_assoc]
 | [], b, _ :: _, y, h => by simp at h
 | _ :: _, b, [], y, h => by simp at h
theorem matL_anys : ∀ (x : List Val), matL (anysL x.length) x
 | [] => by simp [anysL, matL]
 | v :: x => by
  have := matL_anys x
  simp only [anysL, Yf, List.replicate_succ] at this ⊢
  exact matL_cons.2 ⟨matP_free rfl v, this⟩
def fits (ds : List DataSig) : Ty -> Val -> Prop
 | .any, _ => True
 | .int, _ => True
 | .dat d f, v => ∃ D k vs, ds[d]? = some D /\ k ∈ D.cons /\ v = .con k.name vs /\ vs.length = k.args.length /\ ∀ (i : Nat) x, vs[i]? = some x -> fits ds (f k.name i) x
def fitsL (ds : List DataSig) : List Ty -> List Val -> Prop
 | [], [] => True
 | τ :: τs, v :: vs => fits ds τ v /\ fitsL ds τs vs
 | _, _ => False
theorem fitsL.len {ds : List DataSig} : ∀ {τs : List Ty} {vs : List Val}, fitsL ds τs vs -> vs.length = τs.length
 | [], [], _ => rfl
 | τ :: τs, v :: vs, h => by simp [fitsL.len h.2]
 | [], _ :: _, h => h.elim
 | _ :: _, [], h => h.elim
theorem fitsL_append {ds : List DataSig} : ∀ {τs σs : List Ty} {x y : List Val}, τs.length = x.length -> (fitsL ds (τs ++ σs) (x ++ y) ↔ fitsL ds τs x /\ fitsL ds σs y)
 | [], σs, [], y, _ => by simp [fitsL]
 | τ :: τs, σs, v :: x, y, h => by
  simp only [Yj, fitsL, fitsL_append (ds := ds) (τs := τs) (σs := σs) (x := x) (y := y) (by simpa using h), and_assoc]
 | [], _, _ :: _, _, h => by simp at h
 | _ :: _, _, [], _, h => by simp at h
theorem fitsL_get {ds : List DataSig} : ∀ {τs : List Ty} {vs : List Val}, vs.length = τs.length -> (fitsL ds τs vs ↔ ∀ (i : Nat) τ v, τs[i]? = some τ -> vs[i]? = some v -> fits ds τ v)
 | [], [], _ => by simp [fitsL]
 | τ :: τs, v :: vs, h => by
  rw [fitsL, fitsL_get (by simpa using h)]
  constructor
  .rintro ⟨h1, h2⟩ i σ u hi hu
   cases i with
   | zero => simp at hi hu; subst hi; subst hu; exact h1
   | succ i => exact h2 i σ u (by simpa using hi) (by simpa using hu)
  intro k
  exact ⟨k 0 τ v rfl rfl, λ i σ u hi hu => k (i + 1) σ u (by simpa using hi) (by simpa using hu)⟩
 | [], _ :: _, h => by simp at h
 | _ :: _, [], h => by simp at h
theorem fitsL_args {ds : List DataSig} {g : Nat -> Ty} {n : Nat} {vs : List Val} (h : vs.length = n) : fitsL ds (argT g n) vs ↔ ∀ (i : Nat) x, vs[i]? = some x -> fits ds (g i) x := by
 rw [fitsL_get (by rw [argT_len, h])]
 constructor
 .intro k i x hx
  have hi : i < n := by have := (Yc.1 hx).1; omega
  exact k i (g i) x (by simp [argT, hi]) hx
 intro k i τ x hτ hx
 have hi : i < n := by have := (Yc.1 hx).1; omega
 simp only [argT, Yo, Yp hi, Option.map_some, Option.some.injEq] at hτ
 subst hτ
 exact k i x hx
theorem good_con {ds : List DataSig} {g : Nat -> Ty} (h : ∀ i, ∃ v, fits ds (g i) v) (n : Nat) : ∃ vs : List Val, vs.length = n /\ ∀ (i : Nat) x, vs[i]? = some x -> fits ds (g i) x := by
 refine ⟨(Yn n).map λ i => Classical.choose (h i), by simp, λ i x hx => ?_⟩
 have hi : i < n := by have := (Yc.1 hx).1; simpa using this
 simp only [Yo, Yp hi, Option.map_some, Option.some.injEq] at hx
 subst hx
 exact Classical.choose_spec (h i)
theorem good_inh {ds : List DataSig} : ∀ τ : Ty, Good ds τ -> ∃ v, fits ds τ v
 | .any, _ => ⟨.int 0, trivial⟩
 | .int, _ => ⟨.int 0, trivial⟩
 | .dat d f, ⟨⟨D, hD, hne⟩, hg⟩ => by
  obtain ⟨k, ks, hk⟩ := Yu hne
  obtain ⟨vs, h1, h2⟩ := good_con (g := f k.name) (λ i => good_inh (f k.name i) (hg k.name i)) k.args.length
  exact ⟨.con k.name vs, D, k, vs, hD, by rw [hk]; exact Ya .., rfl, h1, h2⟩
theorem fresh_spec (l : List Pat) : ∀ (n : Nat) (i : Int), countGE l i < n -> (l.any λ p => decide (p.n = fresh l i)) = false
 | 0, i, h => absurd h (Yx _)
 | n + 1, i, h => by
  cases ha : (l.any λ p => decide (p.n = i)) with
  | false => rw [fresh_no ha]; exact ha
  | true =>
   rw [fresh_yes ha]
   have := countGE_lt ha
   exact fresh_spec l n (i + 1) (by omega)
theorem absent_val {t : Tab} {ds : List DataSig} {τ : Ty} {τs : List Ty} {rows : List (List Pat)} {q : Pat} (hok : TabOk t ds) (hT : rowsT t (τ :: τs) rows) (hg : Good ds τ) (h : absentF t ds (first rows) = some q) : ∃ v, fits ds τ v /\ ∀ p ∈ first rows, ¬ matP p v := by
 cases hl : first rows with
 | nil =>
  obtain ⟨v, hv⟩ := good_inh τ hg
  exact ⟨v, hv, λ p hp => by cases hp⟩
 | cons p l =>
  have hfr : ∀ p' ∈ p :: l, free p' = false := λ p' hp' => by
   obtain ⟨tl, _, h2⟩ := first_mem (rows := rows) (p := p') (by rw [hl]; exact hp')
   exact h2
  rw [hl] at h
  by_cases hk : p.kind = 2
  .refine ⟨.int (fresh (p :: l) 0), ?_, λ p' hp' hm => ?_⟩
   .cases τ with
    | any => trivial
    | int => trivial
    | dat d f =>
     obtain ⟨tl, h1, h2⟩ := first_mem (rows := rows) (p := p) (by rw [hl]; exact Ya ..)
     rcases (hT _ h1).1 with h3 | ⟨h3, _⟩
     .rw [h2] at h3; cases h3
     rw [hk] at h3; cases h3
   have hs := fresh_spec (p :: l) _ 0 (Nat.lt_succ_self _)
   have h3 := Yk.1 hs p' hp'
   rcases (matP_eq _ _).1 hm with h4 | ⟨_, h4⟩ | ⟨_, vs, h4, _⟩
   .rw [hfr p' hp'] at h4; cases h4
   .injection h4 with h4
    simp [h4] at h3
   cases h4
  obtain ⟨d, f, a, D, rfl, h3, ht, hD⟩ := first_head hok hT hl hk
  rw [absentF, if_neg hk] at h
  have hc : consAt t ds p.name = D.cons := by simp only [consAt, ht, hD]
  rw [hc] at h
  cases hfd : D.cons.find? (lacks (p :: l)) with
  | none => rw [hfd] at h; cases h
  | some k =>
   have hkm := List.mem_of_find?_eq_some hfd
   have hkl := List.find?_some hfd
   obtain ⟨vs, h1, h2⟩ := good_con (g := f k.name) (λ i => good_inh (f k.name i) (hg.2 k.name i)) k.args.length
   refine ⟨.con k.name vs, ⟨D, k, vs, hD, hkm, rfl, h1, h2⟩, λ p' hp' hm => ?_⟩
   rcases (matP_eq _ _).1 hm with h4 | ⟨_, h4⟩ | ⟨_, vs', h4, _⟩
   .rw [hfr p' hp'] at h4; cases h4
   .cases h4
   injection h4 with h4 h5
   simp only [lacks, Bool.not_eq_true', Yk, decide_eq_true_eq] at hkl
   exact hkl p' hp' h4.symm
theorem missLoop_iff {rc : List (List Pat) -> Nat -> List Pat × Bool} {rows : List (List Pat)} {c : Nat} : ∀ ks, (missLoop rc rows c ks).2 = true ↔ ∃ k ∈ ks, (rc (narrow k.name k.args.length rows) (k.args.length + c)).2 = true
 | [] => by simp [missLoop]
 | k :: ks => by
  simp only [missLoop]
  cases hb : (rc (narrow k.name k.args.length rows) (k.args.length + c)).2 with
  | false => simp [missLoop_iff ks, hb]
  | true => simp [hb]
def Lacks (ds : List DataSig) (τs : List Ty) (rows : List (List Pat)) : Prop := ∃ vs, fitsL ds τs vs /\ ∀ r ∈ rows, ¬ matL r vs
theorem narrow_mat {t : Tab} {d a : Nat} {f : Str -> Nat -> Ty} {τs : List Ty} {rows : List (List Pat)} {name : Str} {n : Nat} (hT : rowsT t (.dat d f :: τs) rows) (hn : tget t name = some (d, a, n)) {x y : List Val} (hx : x.length = n) :
  (∀ r ∈ narrow name n rows, ¬ matL r (x ++ y)) ↔ ∀ r ∈ rows, ¬ matL r (.con name x :: y) := by
 constructor
 .intro h r hr hm
  have hTr := hT r hr
  cases r with
  | nil => rw [matL] at hm; cases hm
  | cons p tl =>
   obtain ⟨hp, htl⟩ := matL_cons.1 hm
   cases hf : free p with
   | true =>
    refine h (anysL n ++ tl) (Yb.2 ⟨_, hr, by simp [hf]⟩) ?_
    rw [matL_append (by simp [hx])]
    exact ⟨by rw [<- hx]; exact matL_anys x, htl⟩
   | false =>
    rcases (matP_eq _ _).1 hp with h4 | ⟨_, h4⟩ | ⟨_, vs, h4, h5⟩
    .rw [hf] at h4; cases h4
    .cases h4
    injection h4 with h6 h7
    subst h7
    refine h (p.args ++ tl) (Yb.2 ⟨_, hr, by simp [hf, h6]⟩) ?_
    rw [matL_append (matL_len h5)]
    exact ⟨h5, htl⟩
 intro h r hr hm
 obtain ⟨z, hz, hzr⟩ := Yb.1 hr
 have hTz := hT z hz
 cases z with
 | nil => cases hzr
 | cons p tl =>
  simp only at hzr
  cases hf : free p with
  | true =>
   rw [hf, if_pos rfl] at hzr
   injection hzr with hzr
   subst hzr
   rw [matL_append (by simp [hx])] at hm
   exact h _ hz (matL_cons.2 ⟨matP_free hf _, hm.2⟩)
  | false =>
   rw [hf] at hzr
   simp only [Bool.false_eq_true, if_false] at hzr
   by_cases hname : p.name = name
   .rw [if_pos hname] at hzr
    injection hzr with hzr
    subst hzr
    rcases hTz.1 with h2 | ⟨h3, ⟨a', h2⟩, _⟩
    .rw [hf] at h2; cases h2
    rw [hname, hn] at h2
    injection h2 with h2
    injection h2 with _ h2
    injection h2 with _ h2
    rw [matL_append (by omega)] at hm
    exact h _ hz (matL_cons.2 ⟨(matP_eq _ _).2 (.inr (.inr ⟨h3, x, by rw [hname], hm.1⟩)), hm.2⟩)
   rw [if_neg hname] at hzr
   cases hzr
theorem rest_mat {t : Tab} {τ : Ty} {τs : List Ty} {rows : List (List Pat)} (hT : rowsT t (τ :: τs) rows) {v : Val} {vs : List Val} :
  (∀ r ∈ rest rows, ¬ matL r vs) /\ (∀ p tl, p :: tl ∈ rows -> free p = false -> ¬ matP p v \/ ¬ matL tl vs) ↔ ∀ r ∈ rows, ¬ matL r (v :: vs) := by
 constructor
 .rintro ⟨h1, h2⟩ r hr hm
  cases r with
  | nil => rw [matL] at hm; cases hm
  | cons p tl =>
   obtain ⟨hp, htl⟩ := matL_cons.1 hm
   cases hf : free p with
   | true => exact h1 tl (Yb.2 ⟨_, hr, by simp [hf]⟩) htl
   | false => exact (h2 p tl hr hf).elim (λ h => h hp) (λ h => h htl)
 intro h
 refine ⟨λ r hr hm => ?_, λ p tl hr hf => ?_⟩
 .obtain ⟨z, hz, hzr⟩ := Yb.1 hr
  cases z with
  | nil => cases hzr
  | cons p tl =>
   simp only at hzr
   cases hf : free p with
   | true =>
    rw [hf, if_pos rfl] at hzr
    injection hzr with hzr
    subst hzr
    exact h _ hz (matL_cons.2 ⟨matP_free hf _, hm⟩)
   | false =>
    rw [hf] at hzr
    simp at hzr
 have := h _ hr
 rw [matL_cons] at this
 rcases Classical.em (matP p v) with h1 | h1
 .exact .inr λ h2 => this ⟨h1, h2⟩
 exact .inl h1
theorem miss_iff {t : Tab} {ds : List DataSig} (hok : TabOk t ds) : ∀ (f : Nat) (rows : List (List Pat)) (τs : List Ty), MissPre t f rows τs -> (∀ τ ∈ τs, Good ds τ) -> ((missF t ds f rows τs.length).2 = true ↔ Lacks ds τs rows)
 | 0, rows, τs, h, _ => absurd h.fuel (Yx _)
 | f + 1, rows, [], h, _ => by
  show decide ((rows.length : Int) = 0) = true ↔ _
  rw [decide_eq_true_eq]
  constructor
  .intro h0
   have : rows = [] := List.eq_nil_of_length_eq_zero (by omega)
   subst this
   exact ⟨[], trivial, λ r hr => by cases hr⟩
  rintro ⟨vs, hv, hr⟩
  cases vs with
  | cons v vs => exact hv.elim
  | nil =>
   cases rows with
   | nil => rfl
   | cons r rs =>
    have hT := h.ty r (Ya ..)
    cases r with
    | cons p tl => exact hT.elim
    | nil => exact absurd (by simp [matL]) (hr [] (Ya ..))
 | f + 1, rows, τ :: τs, h, hg => by
  obtain ⟨hT, hl, hf⟩ := h
  rw [Yf] at hf
  have hgτ := hg τ (Ya ..)
  have hgs : ∀ σ ∈ τs, Good ds σ := λ σ hσ => hg σ (Ye _ hσ)
  show (missF t ds (f + 1) rows (τs.length + 1)).2 = true ↔ _
  rw [missF]
  cases hab : absentF t ds (first rows) with
  | some q =>
   have hrw := rest_w rows
   have hrl : (rest rows).length <= rows.length := Yt _ _
   have ih := miss_iff hok f (rest rows) τs ⟨hT.rest, by omega, by omega⟩ hgs
   show (missF t ds f (rest rows) τs.length).2 = true ↔ _
   rw [ih]
   constructor
   .rintro ⟨vs, hv, hr⟩
    obtain ⟨v, hv1, hv2⟩ := absent_val hok hT hgτ hab
    refine ⟨v :: vs, ⟨hv1, hv⟩, (rest_mat hT).1 ⟨hr, λ p tl hp hfp => .inl (hv2 p (Yb.2 ⟨_, hp, by simp [hfp]⟩))⟩⟩
   rintro ⟨vs, hv, hr⟩
   cases vs with
   | nil => exact hv.elim
   | cons v vs => exact ⟨vs, hv.2, ((rest_mat hT).2 hr).1⟩
  | none =>
   obtain ⟨d, g, D, hF⟩ := absent_none hok hT hab
   obtain ⟨hτ, hD, hcons, hall⟩ := hF
   subst hτ
   show (missLoop (missF t ds f) rows τs.length (consAt t ds ((first rows).headD anyP).name)).2 = true ↔ _
   rw [hcons, missLoop_iff]
   have step : ∀ k ∈ D.cons, ((missF t ds f (narrow k.name k.args.length rows) (k.args.length + τs.length)).2 = true ↔ Lacks ds (argT (g k.name) k.args.length ++ τs) (narrow k.name k.args.length rows)) := λ k hk => by
    obtain ⟨q1, tl1, hq1, hqf, hqn, hea, a1, hta⟩ := hall k hk
    have hw1 := narrow_w1 k.name k.args.length hqf hqn rows hq1
    have hln : (narrow k.name k.args.length rows).length <= rows.length := Yt _ _
    have hal := argT_len (g k.name) k.args.length
    have ih := miss_iff hok f (narrow k.name k.args.length rows) (argT (g k.name) k.args.length ++ τs) ⟨hT.narrow hta, by omega, by rw [Ym, hal]; omega⟩ λ σ hσ => by
     rcases List.mem_append.1 hσ with hσ | hσ
     .obtain ⟨i, _, rfl⟩ := Yd.1 hσ
      exact hgτ.2 _ _
     exact hgs σ hσ
    rw [Ym, hal] at ih
    exact ih
   constructor
   .rintro ⟨k, hk, hm⟩
    obtain ⟨ws, hw, hr⟩ := (step k hk).1 hm
    obtain ⟨_, _, _, _, _, hea, a1, hta⟩ := hall k hk
    have hwl := hw.len
    rw [Ym, argT_len] at hwl
    have hsplit : ws = ws.take k.args.length ++ ws.drop k.args.length := (List.take_append_drop _ _).symm
    have htl : (ws.take k.args.length).length = k.args.length := by rw [List.length_take]; omega
    rw [hsplit] at hw hr
    rw [fitsL_append (by rw [argT_len, htl])] at hw
    rw [narrow_mat hT hta htl] at hr
    refine ⟨.con k.name (ws.take k.args.length) :: ws.drop k.args.length, ?_, hr⟩
    exact ⟨⟨D, k, _, hD, hk, rfl, htl, (fitsL_args htl).1 hw.1⟩, hw.2⟩
   rintro ⟨vs, hv, hr⟩
   cases vs with
   | nil => exact hv.elim
   | cons v vs =>
    obtain ⟨⟨D', k, as, hD', hk, rfl, hlen, hfit⟩, hv2⟩ := hv
    rw [hD] at hD'
    injection hD' with hD'
    subst hD'
    obtain ⟨_, _, _, _, _, hea, a1, hta⟩ := hall k hk
    refine ⟨k, hk, (step k hk).2 ⟨as ++ vs, ?_, ?_⟩⟩
    .rw [fitsL_append (by rw [argT_len, hlen])]
     exact ⟨(fitsL_args hlen).2 hfit, hv2⟩
    rw [narrow_mat hT hta hlen]
    exact hr
end Go.PM
namespace Go.PM
open Go.VL
end Go.PM
namespace Go.PM
open Go.VL
def turn (r : List Pat) : List Pat := (r.set 0 (r.getD (r.length - 1) anyP)).set (r.length - 1) (r.getD 0 anyP)
theorem check_build {ds : List DataSig} {rows : List (List Pat)} (h : checkF ds rows = 0) : ∃ t, buildF 0 ds [] = some t := by
 cases hb : buildF 0 ds [] with
 | some t => exact ⟨t, rfl⟩
 | none =>
  rw [checkF, hb] at h
  by_cases hs : small ds rows = false
  .rw [if_pos hs] at h; cases h
  rw [if_neg hs] at h; cases h
theorem row_len {ds : List DataSig} {rows : List (List Pat)} {c : Int} (h : checkF ds rows = 0) (hnb : ¬ missBad rows c) : ∀ r ∈ rows, (r.length : Int) = c := λ r hr => by
 obtain ⟨t, hb⟩ := check_build h
 rw [same_all (check_parts h hb).2.1 r hr]
 rcases Decidable.em (c = width rows) with h1 | h1
 .exact h1.symm
 exact absurd (.inr (.inr ⟨λ e => (by rw [e] at hr; cases hr), h1⟩)) hnb
end Go.PM
namespace Go.PM
open Go.VL
theorem rowT.get {t : Tab} : ∀ {τs : List Ty} {r : List Pat}, rowT t τs r -> ∀ (i : Nat) τ p, τs[i]? = some τ -> r[i]? = some p -> wt t τ p
 | [], [], _, i, τ, p, h, _ => by simp at h
 | τ :: τs, q :: r, h, i, σ, p, h1, h2 => by
  cases i with
  | zero => simp at h1 h2; subst h1; subst h2; exact h.1
  | succ i => exact rowT.get h.2 i σ p (by simpa using h1) (by simpa using h2)
 | [], _ :: _, h, _, _, _, _, _ => h.elim
 | _ :: _, [], h, _, _, _, _, _ => h.elim
def dL : Nat -> List Pat -> Bool
 | 0, l => l.length == 0
 | n + 1, l => l.all λ p => dL n p.args
theorem sizeLoop_iff {n : Nat} (h : ∀ (l : List Pat) (m : Int), 0 <= m -> m <= 400 -> ((sizeF n l m).1 = true ↔ dL n l = true /\ m + cL l <= 400)) : ∀ (l : List Pat) (m : Int), 0 <= m -> m <= 400 -> ((sizeLoop (sizeF n) l m).1 = true ↔ (l.all λ p => dL n p.args) = true /\ m + cL l <= 400)
 | [], m, h0, h4 => by simp [sizeLoop, cL, h4]
 | p :: l, m, h0, h4 => by
  have hc := cP_eq p
  simp only [sizeLoop, List.all_cons, cL]
  by_cases hm : m + 1 > 400
  .rw [if_pos hm]
   constructor
   .intro h; cases h
   rintro ⟨_, h⟩; omega
  rw [if_neg hm]
  have h1 := h p.args (m + 1) (by omega) (by omega)
  have h2 := sizeF_le n p.args (m + 1) (by omega) (by omega)
  cases hb : (sizeF n p.args (m + 1)).1 with
  | false =>
   rw [cond_false]
   constructor
   .intro h; cases h
   rintro ⟨h3, h5⟩
   rw [Bool.and_eq_true] at h3
   have := h1.2 ⟨h3.1, by omega⟩
   rw [hb] at this; cases this
  | true =>
   have h3 := h1.1 hb
   have h5 := sizeF_cL n p.args (m + 1) hb
   have ih := sizeLoop_iff h l (sizeF n p.args (m + 1)).2 (by omega) (h2.2 hb)
   rw [cond_true, ih, h5, Bool.and_eq_true]
   constructor
   .rintro ⟨h6, h7⟩; exact ⟨⟨h3.1, h6⟩, by omega⟩
   rintro ⟨⟨_, h6⟩, h7⟩; exact ⟨h6, by omega⟩
theorem sizeF_iff : ∀ (n : Nat) (l : List Pat) (m : Int), 0 <= m -> m <= 400 -> ((sizeF n l m).1 = true ↔ dL n l = true /\ m + cL l <= 400)
 | 0, l, m, h0, h4 => by
  cases l with
  | nil => simp [sizeF, dL, cL, h4]
  | cons p l => simp [sizeF, dL]
 | n + 1, l, m, h0, h4 => sizeLoop_iff (sizeF_iff n) l m h0 h4
theorem smallRows_iff : ∀ (rows : List (List Pat)) (m : Int), 0 <= m -> m <= 400 -> (small.smallRows rows m = true ↔ (∀ r ∈ rows, r.length <= 16 /\ dL 20 r = true) /\ m + cR rows <= 400)
 | [], m, h0, h4 => by simp [small.smallRows, cR, h4]
 | r :: rows, m, h0, h4 => by
  simp only [small.smallRows, cR]
  by_cases hl : r.length > 16
  .rw [if_pos hl]
   constructor
   .intro h; cases h
   rintro ⟨h, _⟩
   have := (h r (Ya ..)).1
   omega
  rw [if_neg hl]
  have h1 := sizeF_iff 20 r m h0 h4
  have h2 := sizeF_le 20 r m h0 h4
  cases hb : (sizeF 20 r m).1 with
  | false =>
   rw [cond_false]
   constructor
   .intro h; cases h
   rintro ⟨h3, h5⟩
   have := h1.2 ⟨(h3 r (Ya ..)).2, by omega⟩
   rw [hb] at this; cases this
  | true =>
   have h3 := h1.1 hb
   have h5 := sizeF_cL 20 r m hb
   have ih := smallRows_iff rows (sizeF 20 r m).2 (by omega) (h2.2 hb)
   rw [cond_true, ih, h5]
   constructor
   .rintro ⟨h6, h7⟩
    refine ⟨λ x hx => ?_, by omega⟩
    rcases Yh.1 hx with rfl | hx
    .exact ⟨by omega, h3.1⟩
    exact h6 x hx
   rintro ⟨h6, h7⟩; exact ⟨λ x hx => h6 x (Ye _ hx), by omega⟩
theorem small_iff {ds : List DataSig} {rows : List (List Pat)} : small ds rows = true ↔ ((∀ r ∈ rows, r.length <= 16 /\ dL 20 r = true) /\ cR rows <= 400) /\ rows.length <= 64 /\ (ds.any λ d => decide ((d.cons.length : Int) > 256)) = false := by
 unfold small
 rw [Bool.and_eq_true, Bool.and_eq_true, smallRows_iff rows 0 (Yy _) (by omega), decide_eq_true_eq, Bool.not_eq_true']
 constructor
 .rintro ⟨⟨⟨a, b⟩, c⟩, d⟩; exact ⟨⟨a, by omega⟩, c, d⟩
 rintro ⟨⟨a, b⟩, c, d⟩; exact ⟨⟨⟨a, by omega⟩, c⟩, d⟩
end Go.PM
namespace Go.PM
open Go.VL
theorem patsF_iff {t : Tab} : ∀ {l : List Pat}, patsF t l = 0 ↔ ∀ q ∈ l, patF t q = 0
 | [] => by simp [patsF]
 | p :: l => by
  have ih := patsF_iff (t := t) (l := l)
  rw [patsF]
  by_cases hp : patF t p = 0
  .rw [if_neg (by simpa using hp), ih]
   simp [hp]
  rw [if_pos hp]
  simp [hp]
theorem errRows_iff {t : Tab} : ∀ {rows : List (List Pat)}, errRows t rows = 0 ↔ ∀ r ∈ rows, patsF t r = 0
 | [] => by simp [errRows]
 | r :: rs => by
  have ih := errRows_iff (t := t) (rows := rs)
  rw [errRows]
  by_cases hr : patsF t r = 0
  .rw [if_neg (by simpa using hr), ih]
   simp [hr]
  rw [if_pos hr]
  simp [hr]
theorem colsLoop_of {t : Tab} {rows : List (List Pat)} : ∀ (k n : Nat), (∀ i, n <= i -> i < n + k -> agreeF t 401 (colF rows i) = true) -> colsLoop t rows n k = true
 | 0, n, _ => rfl
 | k + 1, n, h => by
  rw [colsLoop, h n (Yv _) (by omega), Bool.true_and]
  exact colsLoop_of k (n + 1) λ i h1 h2 => h i (by omega) (by omega)
theorem checkF_zero {ds : List DataSig} {rows : List (List Pat)} {t : Tab} (hs : small ds rows = true) (hb : buildF 0 ds [] = some t) (ha : rows.all (sameLen rows) = true) (he : errRows t rows = 0) (hc : colsLoop t rows 0 (width rows) = true) : checkF ds rows = 0 := by
 simp [checkF, hs, hb, checkT, ha, he, hc]
theorem small_true {ds : List DataSig} {rows : List (List Pat)} (h : checkF ds rows = 0) : small ds rows = true := by
 unfold checkF at h
 cases hs : small ds rows with
 | true => rfl
 | false => rw [hs] at h; simp at h
theorem missOut_lacks {ds : List DataSig} {rows : List (List Pat)} {c : Int} {t : Tab} {τs : List Ty} (hok : TabOk t ds) (h : checkF ds rows = 0) (hnb : ¬ missBad rows c) (hb : buildF 0 ds [] = some t) (hc : (τs.length : Int) = c) (hT : Typed ds t rows τs) (h1 : 1 <= c) :
  (missOut ds rows c).2 = 0 /\ (0 < (missOut ds rows c).1.length ↔ Lacks ds τs rows) := by
 rw [missOut_ok h hnb hb, show c.toNat = τs.length by omega]
 have h2 := miss_iff hok fuel0 rows τs hT.pre hT.good
 have h3 := missF_len t ds fuel0 rows τs.length
 refine ⟨rfl, ?_⟩
 cases hm : (missF t ds fuel0 rows τs.length).2 with
 | true =>
  rw [hm] at h2 h3
  have := h3.2 rfl
  simp only [cond_true]
  exact ⟨λ _ => h2.1 rfl, λ _ => by omega⟩
 | false =>
  rw [hm] at h2
  simp only [cond_false]
  constructor
  .intro h; simp at h
  intro h; cases h2.2 h
end Go.PM
namespace Go.PM
open Go.VL
structure UsePre (t : Tab) (f : Nat) (rows : List (List Pat)) (row : List Pat) (τs : List Ty) : Prop where
 ty : rowsT t τs rows
 rowTy : rowT t τs row
 len : rows.length <= 1000
 fuel : τs.length + 401 * (wR rows + wL row) < f
theorem con_ty {t : Tab} {τ : Ty} {p : Pat} (h : wt t τ p) (hk : p.kind = 3) : ∃ d f a, τ = .dat d f /\ tget t p.name = some (d, a, p.args.length) /\ p.args.length <= 400 /\ free p = false := by
 have hf : free p = false := by simp [free, hk]
 cases τ with
 | any => rw [show wt t .any p = (free p = true) from rfl, hf] at h; cases h
 | int =>
  rcases h with h | h
  .rw [hf] at h; cases h
  rw [hk] at h; cases h
 | dat d f =>
  rcases h with h | ⟨_, ⟨a, h1⟩, h2, _⟩
  .rw [hf] at h; cases h
  exact ⟨d, f, a, rfl, h1, h2, hf⟩
theorem int_ty {t : Tab} {τ : Ty} {p q : Pat} (h : wt t τ p) (hk : p.kind = 2) (hq : wt t τ q) (hf : free q = false) : q.kind = 2 := by
 have hfp : free p = false := by simp [free, hk]
 cases τ with
 | any => rw [show wt t .any p = (free p = true) from rfl, hfp] at h; cases h
 | int =>
  rcases hq with h | h
  .rw [hf] at h; cases h
  exact h
 | dat d f =>
  rcases h with h | ⟨h, _⟩
  .rw [hfp] at h; cases h
  rw [hk] at h; cases h
theorem agreeArgs_of {rc : List Pat -> Bool} {m : List Pat} {name : Str} : ∀ (k n : Nat), (∀ i, n <= i -> i < n + k -> rc (belowF m name i) = true) -> agreeArgs rc m name n k = true
 | 0, n, _ => rfl
 | k + 1, n, h => by
  rw [agreeArgs, h n (Yv _) (by omega), Bool.true_and]
  exact agreeArgs_of k (n + 1) λ i h1 h2 => h i (by omega) (by omega)
theorem agreeLoop_of {rc : List Pat -> Bool} {m : List Pat} : ∀ (ps seen : List Pat), (∀ p ∈ ps, p.kind = 3 -> ∀ n, n < p.args.length -> rc (belowF m p.name n) = true) -> agreeLoop rc m seen ps = true
 | [], seen, _ => rfl
 | p :: ps, seen, h => by
  rw [agreeLoop, agreeLoop_of ps (seen ++ [p]) λ q hq => h q (Ye _ hq), Bool.and_true]
  by_cases hk : p.kind = 3
  .rw [agreeArgs_of _ 0 λ i _ hi => h p (Ya ..) hk i (by omega), Bool.or_true]
  simp [hk]
theorem agree_sub {t : Tab} : ∀ (f : Nat) (l l' : List Pat), AgreePre t f l -> agreeF t f l = true -> (∀ x ∈ l', x ∈ l) -> agreeF t f l' = true
 | 0, l, l', h, _, _ => absurd h.fuel (Yx _)
 | f + 1, l, l', hp, h, hs => by
  rw [agreeF, Bool.and_eq_true] at h
  obtain ⟨hk, ha⟩ := h
  have hok : ∀ p ∈ l.filter nf, patF t p = 0 := λ p hp' => hp.ok p (nf_mem hp').1
  have hnf : ∀ p ∈ l.filter nf, free p = false := λ p hp' => (nf_mem hp').2
  have hm : ∀ x ∈ l'.filter nf, x ∈ l.filter nf := λ x hx => by
   obtain ⟨h1, h2⟩ := Yq.1 hx
   exact Yq.2 ⟨hs x h1, h2⟩
  have hkind : ∀ p ∈ l.filter nf, kindF t p = kindF t ((l.filter nf).headD anyP) := λ p hpm => by
   have := Yi.1 hk p hpm
   simpa using this
  have hargs : ∀ p ∈ l.filter nf, ∀ q ∈ l.filter nf, p.kind = 3 -> q.name = p.name -> q.kind = 3 /\ q.args.length = p.args.length := λ p hpm q hqm hk3 hn => by
   have := same_args hk hok hnf hpm hqm hk3 hn
   exact ⟨this.1, this.2.1⟩
  have hall := agreeLoop_all hargs _ [] rfl ha λ p hp => by cases hp
  rw [agreeF, Bool.and_eq_true]
  refine ⟨Yi.2 λ p hpm => ?_, agreeLoop_of _ _ λ p hpm hk3 n hn => ?_⟩
  .rw [decide_eq_true_eq, hkind p (hm p hpm)]
   cases hl : l'.filter nf with
   | nil => rw [hl] at hpm; cases hpm
   | cons q qs => exact (hkind q (hm q (by rw [hl]; exact Ya ..))).symm
  refine agree_sub f _ _ (hp.below rfl hk (hm p hpm) hk3 hn) (hall p (hm p hpm) hk3 n hn) λ x hx => ?_
  obtain ⟨q, hq, hqx⟩ := Yb.1 hx
  exact Yb.2 ⟨q, hm q hq, hqx⟩
theorem cR_sub : ∀ {a b : List (List Pat)}, a.Sublist b -> cR a <= cR b
 | _, _, .slnil => Yv _
 | _, _, .cons r h => by
  have := cR_sub h
  rw [cR]
  omega
 | _, _, @List.Sublist.cons_cons _ _ _ r h => by
  have := cR_sub h
  rw [cR, cR]
  omega
theorem wR_sub : ∀ {a b : List (List Pat)}, a.Sublist b -> wR a <= wR b
 | _, _, .slnil => Yv _
 | _, _, .cons r h => by
  have := wR_sub h
  rw [wR]
  omega
 | _, _, @List.Sublist.cons_cons _ _ _ r h => by
  have := wR_sub h
  rw [wR, wR]
  omega
theorem check_sub {ds : List DataSig} {rows less : List (List Pat)} {c : Int} (hs : less.Sublist rows) (h : checkF ds rows = 0) (hnb : ¬ missBad rows c) : checkF ds less = 0 /\ ¬ missBad less c := by
 obtain ⟨t, hb⟩ := check_build h
 obtain ⟨hsm, ha, he, hc⟩ := check_parts h hb
 have hlen := row_len h hnb
 have hmem : ∀ r ∈ less, r ∈ rows := λ r hr => hs.subset hr
 have hwl : less ≠ [] -> (width less : Int) = c /\ width less = width rows := λ hne => by
  cases hl : less with
  | nil => exact absurd hl hne
  | cons r rs =>
   have hr : r ∈ rows := hmem r (by rw [hl]; exact Ya ..)
   exact ⟨hlen r hr, same_all ha r hr⟩
 have hwc : ∀ r ∈ less, r.length = width less := λ r hr => by
  have h1 := hlen r (hmem r hr)
  have h2 := (hwl λ e => by rw [e] at hr; cases hr).1
  omega
 refine ⟨checkF_zero (t := t) ?_ hb ?_ ?_ ?_, ?_⟩
 .have h1 := small_iff.1 (small_true h)
  have h2 := cR_sub hs
  have h3 := hs.length_le
  exact small_iff.2 ⟨⟨λ r hr => h1.1.1 r (hmem r hr), by omega⟩, by omega, h1.2.2⟩
 .rw [Yi]
  intro r hr
  unfold sameLen
  rw [decide_eq_true_eq]
  exact hwc r hr
 .rw [errRows_iff]
  exact λ r hr => errRows_iff.1 he r (hmem r hr)
 .refine colsLoop_of _ _ λ i _ hi => ?_
  rw [Nat.zero_add] at hi
  have hne : less ≠ [] := λ e => by rw [e] at hi; cases hi
  have hner : rows ≠ [] := λ e => by
   rw [e] at hs
   exact hne (List.sublist_nil.1 hs)
  have hw := (hwl hne).2
  refine agree_sub 401 (colF rows i) (colF less i) (agreePre_col hsm ha he hner (by omega)) (colsLoop_all _ _ hc i (Yw _) (by omega)) λ x hx => ?_
  obtain ⟨r, hr, hrx⟩ := Yd.1 hx
  exact Yd.2 ⟨r, hmem r hr, hrx⟩
 rintro (h1 | h1 | ⟨h1, h3⟩)
 .exact hnb (.inl h1)
 .exact hnb (.inr (.inl h1))
 exact h3 (hwl h1).1.symm
theorem typed_sub {ds : List DataSig} {rows less : List (List Pat)} {t : Tab} {τs : List Ty} (hs : less.Sublist rows) (h : Typed ds t rows τs) : Typed ds t less τs := by
 refine ⟨h.good, ⟨λ r hr => h.pre.ty r (hs.subset hr), ?_, ?_⟩⟩
 .have := hs.length_le
  have := h.pre.len
  omega
 have := wR_sub hs
 have := h.pre.fuel
 omega
end Go.PM
namespace Go.PM
open Go.VL
theorem nbad_width {ds : List DataSig} {rows : List (List Pat)} (h : checkF ds rows = 0) (hne : rows ≠ []) : ¬ missBad rows (width rows) := by
 obtain ⟨t, hb⟩ := check_build h
 have hsm := (check_parts h hb).1
 obtain ⟨r, rs, rfl⟩ := Yu hne
 have : (width (r :: rs)) <= 16 := hsm.cols r (Ya ..)
 rintro (h1 | h1 | ⟨_, h1⟩)
 .omega
 .omega
 exact h1 rfl
end Go.PM
namespace Go.PM
open Go.VL
mutual
def plainP : Pat -> Pat
 | .mk k s n as => if k = 1 then .mk 0 [] 0 [] else .mk k s n (plainL as)
def plainL : List Pat -> List Pat
 | [] => []
 | p :: l => plainP p :: plainL l
end
theorem plainL_map : ∀ l : List Pat, plainL l = l.map plainP
 | [] => rfl
 | p :: l => by rw [plainL, plainL_map l]; rfl
theorem plain_len (l : List Pat) : (plainL l).length = l.length := by rw [plainL_map, List.length_map]
mutual
theorem cP_plain : ∀ p : Pat, cP (plainP p) <= cP p
 | .mk k s n as => by
  rw [plainP]
  have := cL_plain as
  by_cases h : k = 1
  .rw [if_pos h, cP, cP, cL]; omega
  rw [if_neg h, cP, cP]; omega
theorem cL_plain : ∀ l : List Pat, cL (plainL l) <= cL l
 | [] => Yv _
 | p :: l => by
  have := cP_plain p
  have := cL_plain l
  rw [plainL, cL, cL]
  omega
end
mutual
theorem patF_plain {t : Tab} : ∀ p : Pat, patF t p = 0 -> patF t (plainP p) = 0
 | .mk k s n as, h => by
  rw [plainP]
  by_cases h1 : k = 1
  .rw [if_pos h1, patF]; simp
  rw [if_neg h1]
  rw [patF] at h ⊢
  by_cases h0 : k = 0 \/ k = 1
  .rw [if_pos h0]
  rw [if_neg h0] at h ⊢
  by_cases h2 : k = 2
  .rw [if_pos h2] at h ⊢; exact h
  rw [if_neg h2] at h ⊢
  by_cases h3 : k = 3
  .rw [if_pos h3] at h ⊢
   cases hg : tget t s with
   | none => rw [hg] at h; exact h
   | some c =>
    rw [hg] at h
    simp only [plain_len] at h ⊢
    by_cases hl : as.length ≠ c.2.2
    .rw [if_pos hl] at h; exact absurd h (by decide)
    rw [if_neg hl] at h ⊢
    exact patsF_plain as h
  rw [if_neg h3] at h; exact absurd h (by decide)
theorem patsF_plain {t : Tab} : ∀ l : List Pat, patsF t l = 0 -> patsF t (plainL l) = 0
 | [], _ => rfl
 | p :: l, h => by
  rw [patsF] at h
  rw [plainL, patsF]
  by_cases hp : patF t p = 0
  .rw [if_neg (by simpa using hp)] at h
   rw [if_neg (by simpa using patF_plain p hp)]
   exact patsF_plain l h
  rw [if_pos hp] at h
  exact absurd h hp
end
mutual
def sameP : Pat -> Pat -> Bool
 | .mk k s n as, .mk k' s' n' as' => decide (k = k') && decide (s = s') && decide (n = n') && sameL as as'
def sameL : List Pat -> List Pat -> Bool
 | [], [] => true
 | p :: a, q :: b => sameP p q && sameL a b
 | _, _ => false
end
mutual
theorem sameP_refl : ∀ p, sameP p p = true
 | .mk k s n as => by rw [sameP, sameL_refl as]; simp
theorem sameL_refl : ∀ l, sameL l l = true
 | [] => by rw [sameL]
 | p :: l => by rw [sameL, sameP_refl p, sameL_refl l]; rfl
end
end Go.PM
end
section
namespace Go.PM
open Go.VL
theorem args_lt {l : List Pat} {p : Pat} {n : Nat} (hp : p ∈ l) (h : cL l < n + 1) : cL p.args < n := by
 have h1 := cP_mem hp
 have h2 := cP_eq p
 omega
end Go.PM
end
section
namespace Go.PM
open Go.VL
structure MNode where
 kind : Int
 row : Int
 path : List Int
 names : List Str
 words : List Int
 kids : List Int
def intsX (l : List Int) : V := .sl 1 none (l.map V.int)
def strsX (l : List Str) : V := .sl 1 none (l.map V.str)
abbrev nodeX (n : MNode) : V := .agg [.int n.kind, .int n.row, intsX n.path, strsX n.names, intsX n.words, intsX n.kids]
def nodesX (l : List MNode) : V := .sl 6 none (l.map nodeX)
abbrev MRow := Nat × List Pat
abbrev mrowX (r : MRow) : V := .agg [.int r.1, patsX r.2]
abbrev mrowsX (l : List MRow) : V := .sl 2 none (l.map mrowX)
abbrev pathsX (l : List (List Int)) : V := .sl 1 none (l.map intsX)
theorem get_str {l : List Str} {k : Nat} {x : Str} (h : l[k]? = some x) : (l.map V.str)[k]? = some (V.str x) := by simp [h]
def sameN (a b : MNode) : Bool := decide (a.kind = b.kind) && decide (a.row = b.row) && decide (a.path = b.path) && decide (a.names = b.names) && decide (a.words = b.words) && decide (a.kids = b.kids)
theorem sameN_iff {a b : MNode} : sameN a b = true ↔ a = b := by
 obtain ⟨a1, a2, a3, a4, a5, a6⟩ := a
 obtain ⟨b1, b2, b3, b4, b5, b6⟩ := b
 simp [sameN, and_assoc]
structure BSt where
 out : List MNode
 many : Nat
 full : Bool
def addF (s : BSt) (n : MNode) : BSt × Nat := if 0 <= idxOf (λ x => sameN x n) s.out then (s, (idxOf (λ x => sameN x n) s.out).toNat) else ({ s with out := s.out ++ [n] }, s.out.length)
def narrowM (at_ : Nat) (is : Pat -> Bool) (many : Nat) (rows : List MRow) : List MRow := rows.filterMap λ r =>
 let p := r.2.getD at_ anyP
 if free p || is p then some (r.1, r.2.take at_ ++ (r.2.drop (at_ + 1) ++ (if free p = false /\ p.kind = 3 then p.args else anysL many))) else none
def belowM (paths : List (List Int)) (at_ many : Nat) : List (List Int) := paths.take at_ ++ (paths.drop (at_ + 1) ++ (Yn many).map λ k : Nat => paths.getD at_ [] ++ [(k : Int)])
def failN : MNode := ⟨0, 0, [], [], [], []⟩
def rowN (k : Nat) : MNode := ⟨1, k, [], [], [], []⟩
def isCon (name : Str) (p : Pat) : Bool := decide (p.name = name)
def isInt (n : Int) (p : Pat) : Bool := decide (p.n = n)
def hasCon (rows : List MRow) (at_ : Nat) (name : Str) : Bool := rows.any λ r => !free (r.2.getD at_ anyP) && isCon name (r.2.getD at_ anyP)
section
variable (rc : BSt -> List MRow -> List (List Int) -> BSt × Nat)
def consL (rows : List MRow) (paths : List (List Int)) (at_ : Nat) : List ConSig -> BSt -> List Str -> List Int -> BSt × List Str × List Int
 | [], s, names, kids => (s, names, kids)
 | c :: cs, s, names, kids => if hasCon rows at_ c.name then
   consL rows paths at_ cs (rc s (narrowM at_ (isCon c.name) c.args.length rows) (belowM paths at_ c.args.length)).1 (names ++ [c.name]) (kids ++ [((rc s (narrowM at_ (isCon c.name) c.args.length rows) (belowM paths at_ c.args.length)).2 : Int)])
  else consL rows paths at_ cs s names kids
def wordsL (rows : List MRow) (paths : List (List Int)) (at_ : Nat) : List MRow -> BSt -> List Int -> List Int -> BSt × List Int × List Int
 | [], s, ws, kids => (s, ws, kids)
 | r :: rs, s, ws, kids => if free (r.2.getD at_ anyP) || ws.any (λ x => decide ((r.2.getD at_ anyP).n = x)) then wordsL rows paths at_ rs s ws kids
  else wordsL rows paths at_ rs (rc s (narrowM at_ (isInt (r.2.getD at_ anyP).n) 0 rows) (belowM paths at_ 0)).1 (ws ++ [(r.2.getD at_ anyP).n]) (kids ++ [((rc s (narrowM at_ (isInt (r.2.getD at_ anyP).n) 0 rows) (belowM paths at_ 0)).2 : Int)])
def otherF (s : BSt) (rows : List MRow) (paths : List (List Int)) (at_ : Nat) : BSt × Nat := rc s (narrowM at_ (λ _ => false) 0 rows) (belowM paths at_ 0)
def wordsF (s : BSt) (rows : List MRow) (paths : List (List Int)) (at_ : Nat) : BSt × Nat :=
 let w := wordsL rc rows paths at_ rows s [] []
 let o := otherF rc w.1 rows paths at_
 addF o.1 ⟨3, 0, paths.getD at_ [], [], w.2.1, w.2.2 ++ [(o.2 : Int)]⟩
def consF (cs : List ConSig) (s : BSt) (rows : List MRow) (paths : List (List Int)) (at_ : Nat) : BSt × Nat :=
 let w := consL rc rows paths at_ cs s [] []
 let o : BSt × Int := if w.2.1.length < cs.length then ((otherF rc w.1 rows paths at_).1, ((otherF rc w.1 rows paths at_).2 : Int)) else (w.1, -1)
 addF o.1 ⟨2, 0, paths.getD at_ [], w.2.1, [], w.2.2 ++ [o.2]⟩
end
def tick (s : BSt) : BSt := { s with many := s.many + 1, full := s.full || decide (4096 < s.many + 1) }
def headPats (rows : List MRow) : List Pat := (rows.headD (0, [])).2
def buildM (t : Tab) (ds : List DataSig) : Nat -> BSt -> List MRow -> List (List Int) -> BSt × Nat
 | 0, s, _, _ => (s, 0)
 | f + 1, s, rows, paths =>
  if rows.length = 0 \/ (tick s).full = true then addF (tick s) failN
  else if idxOf nf (headPats rows) < 0 then addF (tick s) (rowN (rows.headD (0, [])).1)
  else if ((headPats rows).getD (idxOf nf (headPats rows)).toNat anyP).kind = 2 then wordsF (buildM t ds f) (tick s) rows paths (idxOf nf (headPats rows)).toNat
  else consF (buildM t ds f) (consAt t ds ((headPats rows).getD (idxOf nf (headPats rows)).toNat anyP).name) (tick s) rows paths (idxOf nf (headPats rows)).toNat
abbrev bcell (gb gm : Nat) (tk : Tok) (s : BSt) : Own := .cells gb 61 [.raw (.map (some gm)), .sl 6 (some tk) (s.out.map nodeX), .int s.many, .bool s.full]
abbrev bbuf (tk : Tok) (s : BSt) : Own := .buf tk 70 6 s.out.length
def ConTab (t : Tab) (ds : List DataSig) (tab : List (Str × V)) : Prop := ∀ s c D, tget t s = some c -> ds[c.1]? = some D -> ∃ a, kget tab s = some (.ep a (dataV D))
end Go.PM
end
