import Derived.Test.YtpkbgamoboojaaaGreatVY2
set_option linter.all false
section
namespace Go.SM
open Go.VL
structure SIns where
 to : Int
 op : Int
 n : Int
 args : List Int
 deriving DecidableEq, Inhabited
structure SEdge where
 block : Int
 args : List Int
 deriving DecidableEq, Inhabited
structure STerm where
 kind : Int
 arg : Int
 n : Int
 cases : List Int
 to : List SEdge
 deriving DecidableEq, Inhabited
structure SBlock where
 params : List Int
 ins : List SIns
 term : STerm
 deriving DecidableEq, Inhabited
structure SFunc where
 name : Int
 blocks : List SBlock
 deriving DecidableEq, Inhabited
structure SUnit where
 fns : List SFunc
 main : Int
 deriving DecidableEq, Inhabited
def intsX (l : List Int) : V := .sl 1 none (l.map V.int)
def insV (i : SIns) : V := .agg [.int i.to, .int i.op, .int i.n, intsX i.args]
def edgeV (e : SEdge) : V := .agg [.int e.block, intsX e.args]
def inssX (l : List SIns) : V := .sl 4 none (l.map insV)
def edgesX (l : List SEdge) : V := .sl 2 none (l.map edgeV)
def termV (t : STerm) : V := .agg [.int t.kind, .int t.arg, .int t.n, intsX t.cases, edgesX t.to]
def blockV (b : SBlock) : V := .agg [intsX b.params, inssX b.ins, .int b.term.kind, .int b.term.arg, .int b.term.n, intsX b.term.cases, edgesX b.term.to]
def blocksX (l : List SBlock) : V := .sl 7 none (l.map blockV)
def funcV (f : SFunc) : V := .agg [.int f.name, blocksX f.blocks]
def funcsX (l : List SFunc) : V := .sl 2 none (l.map funcV)
def unitV (u : SUnit) : V := .agg [funcsX u.fns, .int u.main]
def wi (n lo hi : Int) : Bool := decide (lo <= n) && decide (n <= hi)
theorem wi_iff {n lo hi : Int} : wi n lo hi = true ↔ lo <= n /\ n <= hi := by simp [wi]
def isWordF (n : Int) : Bool := wi n (-1073741824) 1073741823
def op2 : List Int := [1, 2, 3, 4, 5, 6, 7, 16, 18, 19, 21, 23]
def op1 : List Int := [10, 11, 12, 15, 17, 24]
def opAny : List Int := [8, 9, 13, 14]
def operandsF (i : SIns) : Int × Bool :=
 if i.op = 0 then (0, true) else if elemJ i.op op2 then (2, true) else if i.op = 20 then (3, true) else if elemJ i.op op1 then (1, true)
 else if elemJ i.op opAny then (-1, true) else if i.op = 22 then (i.n, decide (i.n = 2) || decide (i.n = 4)) else (0, false)
def numberF (i : SIns) : Bool :=
 if i.op = 0 then isWordF i.n else if i.op = 8 then wi i.n 0 255 else if i.op = 11 then wi i.n 0 15 else if elemJ i.op [9, 13] then wi i.n 0 255
 else if i.op = 23 then decide (i.n = 1) || decide (i.n = 2) || decide (i.n = 3) else if i.op = 24 then wi i.n 0 3 else if i.op = 22 then true else decide (i.n = 0)
def formBad (i : SIns) : Bool := !(operandsF i).2 || decide (0 <= (operandsF i).1) && decide ((i.args.length : Int) ≠ (operandsF i).1) || decide (i.op = 14) && decide ((i.args.length : Int) = 0)
def formLarge (i : SIns) : Bool := (decide (i.op = 8) || decide (i.op = 9)) && decide (16 < (i.args.length : Int)) || (decide (i.op = 13) || decide (i.op = 14)) && decide (6 < (i.args.length : Int))
def formF (i : SIns) : Int := if formBad i then 3 else if formLarge i then 2 else if numberF i then 0 else 4
def shapeF (t : STerm) : Bool :=
 if t.kind = 0 then decide ((t.to.length : Int) = 0) && decide (t.n = 0) && decide ((t.cases.length : Int) = 0)
 else if t.kind = 1 then decide ((t.to.length : Int) = 1) && decide (t.arg = 0) && decide (t.n = 0) && decide ((t.cases.length : Int) = 0)
 else if t.kind = 2 then decide ((t.to.length : Int) = 2) && decide (t.n = 0) && decide ((t.cases.length : Int) = 0)
 else if t.kind = 3 then decide ((t.to.length : Int) = t.cases.length + 1) && decide (t.n = 0)
 else if t.kind = 4 then decide ((t.to.length : Int) = 0) && decide (t.arg = 0) && decide ((t.cases.length : Int) = 0)
 else false
def casesF : List Int -> List Int -> Int
 | _, [] => 0
 | pre, c :: cs => if isWordF c = false then 4 else if pre.any (λ x => decide (c = x)) then 7 else casesF (pre ++ [c]) cs
def paramsOf (bs : List SBlock) (k : Int) : List Int := ((bs[k.toNat]?).map (·.params)).getD []
def edgesF (bs : List SBlock) : List SEdge -> Int
 | [] => 0
 | e :: es => if wi e.block 1 (bs.length - 1) = false then 4 else if e.args.length ≠ (paramsOf bs e.block).length then 3 else edgesF bs es
def endF (bs : List SBlock) (t : STerm) : Int :=
 if shapeF t = false then 3 else if 256 < (t.cases.length : Int) then 2 else if t.kind = 4 /\ wi t.n 1 6 = false then 4
 else if casesF [] t.cases ≠ 0 then casesF [] t.cases else edgesF bs t.to
abbrev Defs := List (Int × Int × Int)
def dget : Defs -> Int -> Option (Int × Int)
 | [], _ => none
 | (k, p) :: l, x => if k = x then some p else dget l x
def defineF (v : Int) (p : Int × Int) (d : Defs) : Int × Defs :=
 if wi v 0 4095 = false then (4, d) else if (dget d v).isSome then (7, d) else (0, d ++ [(v, p)])
def paramsF (k : Int) : List Int -> Defs -> Int × Defs
 | [], d => (0, d)
 | p :: ps, d => if (defineF p (k, 0) d).1 ≠ 0 then defineF p (k, 0) d else paramsF k ps (defineF p (k, 0) d).2
def inssF (k : Int) : Int -> List SIns -> Defs -> Int × Defs
 | _, [], d => (0, d)
 | n, i :: is, d => if (defineF i.to (k, n + 1) d).1 ≠ 0 then defineF i.to (k, n + 1) d else if formF i ≠ 0 then (formF i, (defineF i.to (k, n + 1) d).2) else inssF k (n + 1) is (defineF i.to (k, n + 1) d).2
def blockF (bs : List SBlock) (k : Int) (b : SBlock) (d : Defs) : Int × Defs :=
 if (paramsF k b.params d).1 ≠ 0 then paramsF k b.params d
 else if (inssF k 0 b.ins (paramsF k b.params d).2).1 ≠ 0 then inssF k 0 b.ins (paramsF k b.params d).2
 else (endF bs b.term, (inssF k 0 b.ins (paramsF k b.params d).2).2)
def blocksF (bs : List SBlock) : Int -> List SBlock -> Defs -> Int × Defs
 | _, [], d => (0, d)
 | k, b :: l, d => if (blockF bs k b d).1 ≠ 0 then blockF bs k b d else blocksF bs (k + 1) l (blockF bs k b d).2
def placeV (p : Int × Int) : V := .agg [.int p.1, .int p.2]
def encD (d : Defs) : List (Int × V) := d.map λ e => (e.1, placeV e.2)
theorem kget_encD (v : Int) : ∀ d : Defs, kget (encD d) v = (dget d v).map placeV
 | [] => rfl
 | (k, p) :: d => by
  show (if k = v then some (placeV p) else kget (encD d) v) = _
  rw [kget_encD v d, dget]
  split <;> rfl
theorem kput_encD (v : Int) (p : Int × Int) : ∀ {d : Defs}, dget d v = none -> kput (encD d) v (placeV p) = encD (d ++ [(v, p)])
 | [], _ => rfl
 | (k, q) :: d, h => by
  rw [dget] at h
  split at h
  .cases h
  rename_i hk
  show (if k = v then _ else (k, placeV q) :: kput (encD d) v (placeV p)) = _
  rw [if_neg hk, kput_encD v p h]
  rfl
theorem kget_some (d : Defs) (v : Int) : (kget (encD d) v).isSome = (dget d v).isSome := by rw [kget_encD]; cases dget d v <;> rfl
theorem kget_or (d : Defs) (v : Int) : (kget (encD d) v).getD (.agg [.raw (.int .i64 0), .raw (.int .i64 0)]) = placeV ((dget d v).getD (0, 0)) := by rw [kget_encD]; cases dget d v <;> rfl
abbrev BSet := BitVec 64 × BitVec 64
def BSet.word (s : BSet) (k : Nat) : BitVec 64 := if k / 64 = 0 then s.1 else s.2
def BSet.has (s : BSet) (k : Nat) : Bool := (s.word k >>> (k % 64)) &&& 1#64 == 1#64
def BSet.with (s : BSet) (k : Nat) : BSet := if k / 64 = 0 then (s.1 ||| 1#64 <<< (k % 64), s.2) else (s.1, s.2 ||| 1#64 <<< (k % 64))
def setV (s : BSet) : V := .agg [.u64 s.1, .u64 s.2]
def noSet : BSet := (0#64, 0#64)
def setsX (l : List BSet) : V := .sl 2 none (l.map setV)
def BSet.both (s t : BSet) : BSet := (s.1 &&& t.1, s.2 &&& t.2)
def allSet : Nat -> BSet
 | 0 => noSet
 | n + 1 => (allSet n).with n
structure Dom where
 over : List BSet
 seen : BSet
 again : Bool
def Dom.at (d : Dom) (k : Nat) : BSet := d.over[k]?.getD noSet
def domEdge (k : Nat) (d : Dom) (e : SEdge) : Dom :=
 let t := e.block.toNat
 let next := ((d.at t).both (d.at k)).with t
 if next ≠ d.at t \/ d.seen.has t = false then ⟨d.over.set t next, d.seen.with t, true⟩ else d
def domBlock (d : Dom) (k : Nat) (b : SBlock) : Dom := if d.seen.has k then b.term.to.foldl (domEdge k) d else d
def domPass : Nat -> List SBlock -> Dom -> Dom
 | _, [], d => d
 | k, b :: l, d => domPass (k + 1) l (domBlock d k b)
def domStart (n : Nat) : Dom := ⟨(List.replicate n (allSet n)).set 0 (BSet.with noSet 0), BSet.with noSet 0, true⟩
def domIter (bs : List SBlock) : Nat -> Dom -> Dom
 | 0, d => d
 | n + 1, d => if d.again then domIter bs n (domPass 0 bs { d with again := false }) else d
def domFuel (n : Nat) : Nat := 129 * n + 2
def domF (bs : List SBlock) : Dom := domIter bs (domFuel bs.length) (domStart bs.length)
def fineF (d : Defs) (o : Dom) (k : Nat) (at_ : Int) (v : Int) : Bool :=
 match dget d v with
 | none => false
 | some p => decide (p.1 = k) && decide (p.2 <= at_) || decide (p.1 ≠ k) && (o.at k).has p.1.toNat || !o.seen.has k
def usedF (t : STerm) (use : Int -> Bool) : Bool :=
 if (t.kind ≠ 1 /\ t.kind ≠ 4) /\ use t.arg = false then false else t.to.all λ e => e.args.all use
def usesIns (d : Defs) (o : Dom) (k : Nat) : Int -> List SIns -> Bool
 | _, [] => true
 | n, i :: is => i.args.all (fineF d o k n) && usesIns d o k (n + 1) is
def usesF (d : Defs) (o : Dom) : Nat -> List SBlock -> Int
 | _, [] => 0
 | k, b :: l => if usesIns d o k 0 b.ins = false then 6 else if usedF b.term (fineF d o k b.ins.length) = false then 6 else usesF d o (k + 1) l
def countIns : Int -> List SBlock -> Int
 | n, [] => n
 | n, b :: l => countIns (IntKind.i64.wrap (n + b.ins.length)) l
def funcF (f : SFunc) : Int :=
 if f.blocks.length = 0 then 3
 else if 128 < (f.blocks.length : Int) \/ 1024 < countIns 0 f.blocks \/ 6 < ((paramsOf f.blocks 0).length : Int) then 2
 else if wi f.name (-1) 1048575 = false then 4
 else if (blocksF f.blocks 0 f.blocks []).1 ≠ 0 then (blocksF f.blocks 0 f.blocks []).1
 else usesF (blocksF f.blocks 0 f.blocks []).2 (domF f.blocks) 0 f.blocks
def entryOf (u : SUnit) (k : Int) : List Int := ((u.fns[k.toNat]?).map λ f => paramsOf f.blocks 0).getD []
def callF (u : SUnit) (i : SIns) : Int :=
 if i.op ≠ 13 /\ i.op ≠ 9 then 0 else if (u.fns.length : Int) <= i.n then 4
 else if i.op = 13 /\ (entryOf u i.n).length ≠ i.args.length \/ i.op = 9 /\ (entryOf u i.n).length = 0 then 3 else 0
def firstE {α : Type} (f : α -> Int) : List α -> Int
 | [] => 0
 | x :: l => if f x ≠ 0 then f x else firstE f l
def callsF (u : SUnit) : Int := firstE (λ f => firstE (λ b => firstE (callF u) b.ins) f.blocks) u.fns
def unitF (u : SUnit) : Int :=
 if u.fns.length = 0 then 3 else if 256 < (u.fns.length : Int) then 2 else if wi u.main 0 (u.fns.length - 1) = false then 4
 else if firstE funcF u.fns ≠ 0 then firstE funcF u.fns
 else if (entryOf u u.main).length > 0 then 3 else callsF u
def wrapF (n : Int) : Int := (n + 1073741824) % 2147483648 - 1073741824
def divF (a b : Int) : Int := if wrapF b = 0 then 0 else wrapF ((wrapF a).tdiv (wrapF b))
def modF (a b : Int) : Int := if wrapF b = 0 then 0 else (wrapF a).tmod (wrapF b)
inductive Val where
 | mk (kind n : Int) (list : List Val) (arr : Option Nat)
namespace Val
def kind : Val -> Int
 | .mk k _ _ _ => k
def n : Val -> Int
 | .mk _ n _ _ => n
def list : Val -> List Val
 | .mk _ _ l _ => l
def arr : Val -> Option Nat
 | .mk _ _ _ a => a
def word (n : Int) : Val := .mk 0 n [] none
def zero : Val := .mk 0 0 [] none
end Val
instance : Inhabited Val := ⟨Val.zero⟩
def arrV (ρ : Nat -> Nat) : Option Nat -> V
 | none => .raw (.pointer none)
 | some k => .ptr (ρ k) 0
mutual
def valV (ρ : Nat -> Nat) : Val -> V
 | .mk k n l a => .agg [.int k, .int n, .sl 4 none (valsV ρ l), arrV ρ a]
def valsV (ρ : Nat -> Nat) : List Val -> List V
 | [] => []
 | v :: l => valV ρ v :: valsV ρ l
end
theorem valsV_map (ρ : Nat -> Nat) : ∀ l, valsV ρ l = l.map (valV ρ)
 | [] => rfl
 | v :: l => by rw [valsV, valsV_map ρ l, List.map_cons]
def valsX (ρ : Nat -> Nat) (l : List Val) : V := .sl 4 none (l.map (valV ρ))
def valX (ρ : Nat -> Nat) (v : Val) : V := .agg [.int v.kind, .int v.n, valsX ρ v.list, arrV ρ v.arr]
theorem valV_eq (ρ : Nat -> Nat) (v : Val) : valV ρ v = valX ρ v := by
 cases v with
 | mk k n l a => rw [valV, valsV_map]; rfl
theorem get_valS {ρ : Nat -> Nat} {l : List Val} {k : Nat} {x : Val} (h : l[k]? = some x) : (l.map (valV ρ))[k]? = some (valX ρ x) := by rw [get_mapS (valV ρ) h, valV_eq]
theorem get_arg {l : List Val} {k : Nat} (h : k < l.length) {ρ : Nat -> Nat} : (l.map (valV ρ))[k]? = some (valX ρ (l[k]?.getD Val.zero)) := by
 rw [List.getElem?_eq_getElem h]
 exact get_valS (List.getElem?_eq_getElem h)
theorem le_val (ρ : Nat -> Nat) (k n : Int) : V.le (.agg [.int k, .int n, V.nilSl, .raw (.pointer none)]) (valX ρ (.mk k n [] none)) := V.le.agg ⟨V.le.refl _, rfl, V.le.refl _, rfl, V.le.nil 4, rfl, V.le.refl _, rfl, trivial⟩
def allK (k : Int) : List Val -> Bool
 | [] => true
 | v :: l => decide (v.kind = k) && allK k l
def truthF (b : Bool) : Val := if b then Val.word 1 else Val.word 0
def argAt (l : List Val) (k : Nat) : Val := l[k]?.getD Val.zero
def binaryF (op a b : Int) : Val × Int :=
 if op = 1 then (.word (wrapF (a + b)), 0) else if op = 2 then (.word (wrapF (a - b)), 0) else if op = 3 then (.word (wrapF (wrapF a * wrapF b)), 0)
 else if op = 6 then (truthF (decide (a < b)), 0) else if op = 7 then (truthF (decide (a = b)), 0) else if b = 0 then (.zero, 1)
 else if op = 4 then (.word (divF a b), 0) else (.word (modF a b), 0)
def objectF (i : SIns) (args : List Val) : Val × Int :=
 let o := argAt args 0
 if i.op = 11 then if (o.kind ≠ 1 /\ o.kind ≠ 2) \/ (o.list.length : Int) <= i.n then (.zero, 5) else (argAt o.list i.n.toNat, 0)
 else if o.kind ≠ 1 then (.zero, 5) else if i.op = 10 then (.word o.n, 0) else if i.op = 12 then (.word o.list.length, 0)
 else if (argAt args 1).kind ≠ 0 then (.zero, 5)
 else if (argAt args 1).n < 0 \/ (o.list.length : Int) <= (argAt args 1).n then (.zero, 2) else (argAt o.list (argAt args 1).n.toNat, 0)
def lanesF (op : Int) : List Val -> List Val -> List Val
 | a :: as, b :: bs => (binaryF op a.n b.n).1 :: lanesF op as bs
 | _, _ => []
def vectorF (i : SIns) (args : List Val) : Val × Int :=
 if i.op = 22 then if allK 0 args = false then (.zero, 5) else (.mk 4 0 args none, 0)
 else if i.op = 24 then if (argAt args 0).kind ≠ 4 \/ ((argAt args 0).list.length : Int) <= i.n then (.zero, 5) else (argAt (argAt args 0).list i.n.toNat, 0)
 else if allK 4 args = false \/ ((argAt args 0).list.length : Int) ≠ (argAt args 1).list.length then (.zero, 5)
 else (.mk 4 0 (lanesF i.n (argAt args 0).list (argAt args 1).list) none, 0)
abbrev Vals := List (Int × Val)
def vget : Vals -> Int -> Val
 | [], _ => Val.zero
 | (k, v) :: l, x => if k = x then v else vget l x
def vput : Vals -> Int -> Val -> Vals
 | [], x, v => [(x, v)]
 | (k, u) :: l, x, v => if k = x then (k, v) :: l else (k, u) :: vput l x v
def vputs : Vals -> List Int -> List Val -> Vals
 | m, p :: ps, v :: vs => vputs (vput m p v) ps vs
 | m, _, _ => m
structure MFrame where
 fn : Int
 block : Int
 at_ : Int
 to : Int
 vals : Vals
structure Mach where
 stack : List MFrame
 left : Int
 short : Bool
 over : Bool
 out : List Int
 fin : Int
 value : Int
 heap : List (List Val)
def payF (n : Int) (M : Mach) : Mach := if M.left < n then { M with short := true, over := true } else { M with left := M.left - n }
def stopF (e n : Int) (M : Mach) : Mach := { M with over := true, fin := e, value := n }
def entered (u : SUnit) (fn : Int) (args : List Val) (to : Int) : MFrame := ⟨fn, 0, 0, to, vputs [] (entryOf u fn) args⟩
def enterF (u : SUnit) (fn : Int) (args : List Val) (to : Int) (M : Mach) : Mach := { M with stack := entered u fn args to :: M.stack }
def takeF (m : Vals) (l : List Int) : List Val := l.map (vget m)
def allocF (size fill : Val) (M : Mach) : Mach × Val × Int :=
 if size.kind ≠ 0 then (M, .zero, 5) else if size.n < 0 \/ 1024 < size.n then (M, .zero, 6)
 else if (payF size.n M).short then (payF size.n M, .zero, 0)
 else ({ payF size.n M with heap := M.heap ++ [List.replicate size.n.toNat fill] }, .mk 3 0 [] (some M.heap.length), 0)
def arrOf (M : Mach) (v : Val) : List Val := ((v.arr).bind (M.heap[·]?)).getD []
def setArr (M : Mach) (v : Val) (l : List Val) : Mach :=
 match v.arr with
 | none => M
 | some k => { M with heap := M.heap.set k l }
def effectF (i : SIns) (args : List Val) (M : Mach) : Mach × Val × Int :=
 if i.op = 15 then
  if (argAt args 0).kind ≠ 0 then (M, .zero, 5) else if (M.out.length : Int) = 1000 then (M, .zero, 6) else ({ M with out := M.out ++ [(argAt args 0).n] }, .word 0, 0)
 else if i.op = 16 then allocF (argAt args 0) (argAt args 1) M
 else if i.op = 18 then
  if allK 0 args = false then (M, .zero, 5) else if (argAt args 0).n < 0 \/ (argAt args 1).n <= (argAt args 0).n then (M, .zero, 2) else (M, .word 0, 0)
 else if (argAt args 0).kind ≠ 3 \/ i.op ≠ 17 /\ (argAt args 1).kind ≠ 0 then (M, .zero, 5)
 else if i.op = 17 then (M, .word (arrOf M (argAt args 0)).length, 0)
 else if (argAt args 1).n < 0 \/ ((arrOf M (argAt args 0)).length : Int) <= (argAt args 1).n then (M, .zero, 2)
 else if i.op = 19 then (M, argAt (arrOf M (argAt args 0)) (argAt args 1).n.toNat, 0)
 else (setArr M (argAt args 0) ((arrOf M (argAt args 0)).set (argAt args 1).n.toNat (argAt args 2)), .word 0, 0)
def execF (i : SIns) (args : List Val) (M : Mach) : Mach × Val × Int :=
 if i.op = 0 then (M, .word i.n, 0)
 else if elemJ i.op [1, 2, 3, 4, 5, 6, 7] then
  if allK 0 args = false then (M, .zero, 5) else (M, binaryF i.op (argAt args 0).n (argAt args 1).n)
 else if i.op = 8 then (M, .mk 1 i.n args none, 0)
 else if i.op = 9 then (M, .mk 2 i.n args none, 0)
 else if elemJ i.op [10, 11, 12, 21] then (M, objectF i args)
 else if elemJ i.op [22, 23, 24] then (M, vectorF i args)
 else if i.op = 100 then (M, argAt args 0, 0)
 else effectF i args M
def blockAt (u : SUnit) (fn k : Int) : SBlock := ((u.fns[fn.toNat]?).bind λ f => f.blocks[k.toNat]?).getD default
def followF (u : SUnit) (f : MFrame) (e : SEdge) : MFrame :=
 { f with block := e.block, at_ := 0, vals := vputs f.vals (blockAt u f.fn e.block).params (takeF f.vals e.args) }
def choiceF (t : STerm) (n : Int) : Int :=
 if t.kind = 2 then if n ≠ 0 then 0 else 1 else if 0 <= idxOf (λ x => decide (n = x)) t.cases then idxOf (λ x => decide (n = x)) t.cases else t.cases.length
def leaveF (f : MFrame) (v : Val) (fs : List MFrame) (M : Mach) : Mach :=
 match fs with
 | g :: gs => { M with stack := { g with vals := vput g.vals f.to v } :: gs }
 | [] => stopF 0 (if v.kind = 0 \/ v.kind = 1 then v.n else 0) { M with stack := [] }
def edgeAt (t : STerm) (k : Nat) : SEdge := t.to[k]?.getD default
def termF (u : SUnit) (f : MFrame) (t : STerm) (fs : List MFrame) (M : Mach) : Mach :=
 if t.kind = 4 then stopF t.n 0 M
 else if t.kind = 1 then { M with stack := followF u f (edgeAt t 0) :: fs }
 else if t.kind = 0 then leaveF f (vget f.vals t.arg) fs M
 else if (vget f.vals t.arg).kind ≠ 0 then stopF 5 0 M
 else { M with stack := followF u f (edgeAt t (choiceF t (vget f.vals t.arg).n).toNat) :: fs }
def insF (u : SUnit) (f : MFrame) (i : SIns) (fs : List MFrame) (M : Mach) : Mach :=
 let args := takeF f.vals i.args
 if i.op = 13 then enterF u i.n args i.to M
 else if i.op = 14 then
  if (argAt args 0).kind = 2 /\ (entryOf u (argAt args 0).n).length = args.length then enterF u (argAt args 0).n args i.to M else stopF 5 0 M
 else
  let r := execF i args M
  let M1 := if r.2.2 ≠ 0 then stopF r.2.2 0 r.1 else r.1
  { M1 with stack := { f with vals := vput f.vals i.to r.2.1 } :: fs }
def stepF (u : SUnit) (M : Mach) : Mach :=
 match M.stack with
 | [] => M
 | f :: fs =>
  let b := blockAt u f.fn f.block
  if f.at_ = (b.ins.length : Int) then termF u f b.term fs M
  else
   let f' := { f with at_ := f.at_ + 1 }
   insF u f' (b.ins[f.at_.toNat]?.getD default) fs { M with stack := f' :: fs }
def goF (u : SUnit) : Nat -> Mach -> Mach
 | 0, M => M
 | n + 1, M => if M.over then M else if (payF 1 M).short then payF 1 M else goF u n (stepF u (payF 1 M))
def startF (u : SUnit) (fuel : Int) : Mach := enterF u u.main [] 0 ⟨[], fuel, false, false, [], 0, 0, []⟩
structure Out where
 out : List Int
 fin : Int
 value : Int
 deriving DecidableEq
def performF (u : SUnit) (fuel : Int) : Out × Int × Int :=
 let M := goF u (fuel.toNat + 1) (startF u fuel)
 if M.short then (⟨[], 0, 0⟩, 0, 13) else (⟨M.out, M.fin, M.value⟩, fuel - M.left, 0)
def runF (u : SUnit) (fuel : Int) : Out × Int × Int :=
 if unitF u ≠ 0 then (⟨[], 0, 0⟩, 0, unitF u) else if wi fuel 1 1000000 = false then (⟨[], 0, 0⟩, 0, 4) else performF u fuel
end Go.SM
end
