import Derived.Test.YtjekhhgjfelpgaaGreatS1
set_option linter.all false
namespace Go.SM
open Go.VL
def wrapF (n : Int) : Int := (n + 1073741824) % 2147483648 - 1073741824
def divF (a b : Int) : Int := if wrapF b = 0 then 0 else wrapF ((wrapF a).tdiv (wrapF b))
def modF (a b : Int) : Int := if wrapF b = 0 then 0 else (wrapF a).tmod (wrapF b)
inductive Val where
 | mk (kind n : Int) (list : List Val) (arr : Option Nat)
namespace Val
def kind : Val → Int
 | .mk k _ _ _ => k
def n : Val → Int
 | .mk _ n _ _ => n
def list : Val → List Val
 | .mk _ _ l _ => l
def arr : Val → Option Nat
 | .mk _ _ _ a => a
def word (n : Int) : Val := .mk 0 n [] none
def zero : Val := .mk 0 0 [] none
end Val
instance : Inhabited Val := ⟨Val.zero⟩
def arrV (ρ : Nat → Nat) : Option Nat → V
 | none => .raw (.pointer none)
 | some k => .ptr (ρ k) 0
mutual
def valV (ρ : Nat → Nat) : Val → V
 | .mk k n l a => .agg [.int k, .int n, .sl 4 none (valsV ρ l), arrV ρ a]
def valsV (ρ : Nat → Nat) : List Val → List V
 | [] => []
 | v :: l => valV ρ v :: valsV ρ l
end
theorem valsV_map (ρ : Nat → Nat) : ∀ l, valsV ρ l = l.map (valV ρ)
 | [] => rfl
 | v :: l => by rw [valsV, valsV_map ρ l, List.map_cons]
def valsX (ρ : Nat → Nat) (l : List Val) : V := .sl 4 none (l.map (valV ρ))
def valX (ρ : Nat → Nat) (v : Val) : V := .agg [.int v.kind, .int v.n, valsX ρ v.list, arrV ρ v.arr]
theorem valV_eq (ρ : Nat → Nat) (v : Val) : valV ρ v = valX ρ v := by
 cases v with
 | mk k n l a => rw [valV, valsV_map]; rfl
theorem get_valS {ρ : Nat → Nat} {l : List Val} {k : Nat} {x : Val} (h : l[k]? = some x) : (l.map (valV ρ))[k]? = some (valX ρ x) := by rw [get_mapS (valV ρ) h, valV_eq]
theorem get_arg {l : List Val} {k : Nat} (h : k < l.length) {ρ : Nat → Nat} : (l.map (valV ρ))[k]? = some (valX ρ (l[k]?.getD Val.zero)) := by
 rw [List.getElem?_eq_getElem h]
 exact get_valS (List.getElem?_eq_getElem h)
theorem le_val (ρ : Nat → Nat) (k n : Int) : V.le (.agg [.int k, .int n, V.nilSl, .raw (.pointer none)]) (valX ρ (.mk k n [] none)) := V.le.agg ⟨V.le.refl _, rfl, V.le.refl _, rfl, V.le.nil 4, rfl, V.le.refl _, rfl, trivial⟩
def allK (k : Int) : List Val → Bool
 | [] => true
 | v :: l => decide (v.kind = k) && allK k l
def truthF (b : Bool) : Val := if b then Val.word 1 else Val.word 0
def argAt (l : List Val) (k : Nat) : Val := l[k]?.getD Val.zero
def binaryF (op a b : Int) : Val × Int :=
 if op = 1 then (.word (wrapF (a + b)), 0) else if op = 2 then (.word (wrapF (a - b)), 0) else if op = 3 then (.word (wrapF (wrapF a * wrapF b)), 0)
 else if op = 6 then (truthF (decide (a < b)), 0) else if op = 7 then (truthF (decide (a = b)), 0) else if b = 0 then (.zero, 1)
 else if op = 4 then (.word (divF a b), 0) else (.word (modF a b), 0)
def objectF (i : SIns) (args : List Val) : Val × Int :=
 let o := argAt args 0
 if i.op = 11 then if (o.kind ≠ 1 ∧ o.kind ≠ 2) ∨ (o.list.length : Int) ≤ i.n then (.zero, 5) else (argAt o.list i.n.toNat, 0)
 else if o.kind ≠ 1 then (.zero, 5) else if i.op = 10 then (.word o.n, 0) else if i.op = 12 then (.word o.list.length, 0)
 else if (argAt args 1).kind ≠ 0 then (.zero, 5)
 else if (argAt args 1).n < 0 ∨ (o.list.length : Int) ≤ (argAt args 1).n then (.zero, 2) else (argAt o.list (argAt args 1).n.toNat, 0)
def lanesF (op : Int) : List Val → List Val → List Val
 | a :: as, b :: bs => (binaryF op a.n b.n).1 :: lanesF op as bs
 | _, _ => []
def vectorF (i : SIns) (args : List Val) : Val × Int :=
 if i.op = 22 then if allK 0 args = false then (.zero, 5) else (.mk 4 0 args none, 0)
 else if i.op = 24 then if (argAt args 0).kind ≠ 4 ∨ ((argAt args 0).list.length : Int) ≤ i.n then (.zero, 5) else (argAt (argAt args 0).list i.n.toNat, 0)
 else if allK 4 args = false ∨ ((argAt args 0).list.length : Int) ≠ (argAt args 1).list.length then (.zero, 5)
 else (.mk 4 0 (lanesF i.n (argAt args 0).list (argAt args 1).list) none, 0)
abbrev Vals := List (Int × Val)
def vget : Vals → Int → Val
 | [], _ => Val.zero
 | (k, v) :: l, x => if k = x then v else vget l x
def vput : Vals → Int → Val → Vals
 | [], x, v => [(x, v)]
 | (k, u) :: l, x, v => if k = x then (k, v) :: l else (k, u) :: vput l x v
def vputs : Vals → List Int → List Val → Vals
 | m, p :: ps, v :: vs => vputs (vput m p v) ps vs
 | m, _, _ => m
structure MFrame where
 fn : Int
 block : Int
 at_ : Int
 to : Int
 vals : Vals
structure Mach where
 stack : List MFrame
 left : Int
 short : Bool
 over : Bool
 out : List Int
 fin : Int
 value : Int
 heap : List (List Val)
def payF (n : Int) (M : Mach) : Mach := if M.left < n then { M with short := true, over := true } else { M with left := M.left - n }
def stopF (e n : Int) (M : Mach) : Mach := { M with over := true, fin := e, value := n }
def entered (u : SUnit) (fn : Int) (args : List Val) (to : Int) : MFrame := ⟨fn, 0, 0, to, vputs [] (entryOf u fn) args⟩
def enterF (u : SUnit) (fn : Int) (args : List Val) (to : Int) (M : Mach) : Mach := { M with stack := entered u fn args to :: M.stack }
def takeF (m : Vals) (l : List Int) : List Val := l.map (vget m)
def allocF (size fill : Val) (M : Mach) : Mach × Val × Int :=
 if size.kind ≠ 0 then (M, .zero, 5) else if size.n < 0 ∨ 1024 < size.n then (M, .zero, 6)
 else if (payF size.n M).short then (payF size.n M, .zero, 0)
 else ({ payF size.n M with heap := M.heap ++ [List.replicate size.n.toNat fill] }, .mk 3 0 [] (some M.heap.length), 0)
def arrOf (M : Mach) (v : Val) : List Val := ((v.arr).bind (M.heap[·]?)).getD []
def setArr (M : Mach) (v : Val) (l : List Val) : Mach :=
 match v.arr with
 | none => M
 | some k => { M with heap := M.heap.set k l }
def effectF (i : SIns) (args : List Val) (M : Mach) : Mach × Val × Int :=
 if i.op = 15 then
  if (argAt args 0).kind ≠ 0 then (M, .zero, 5) else if (M.out.length : Int) = 1000 then (M, .zero, 6) else ({ M with out := M.out ++ [(argAt args 0).n] }, .word 0, 0)
 else if i.op = 16 then allocF (argAt args 0) (argAt args 1) M
 else if i.op = 18 then
  if allK 0 args = false then (M, .zero, 5) else if (argAt args 0).n < 0 ∨ (argAt args 1).n ≤ (argAt args 0).n then (M, .zero, 2) else (M, .word 0, 0)
 else if (argAt args 0).kind ≠ 3 ∨ i.op ≠ 17 ∧ (argAt args 1).kind ≠ 0 then (M, .zero, 5)
 else if i.op = 17 then (M, .word (arrOf M (argAt args 0)).length, 0)
 else if (argAt args 1).n < 0 ∨ ((arrOf M (argAt args 0)).length : Int) ≤ (argAt args 1).n then (M, .zero, 2)
 else if i.op = 19 then (M, argAt (arrOf M (argAt args 0)) (argAt args 1).n.toNat, 0)
 else (setArr M (argAt args 0) ((arrOf M (argAt args 0)).set (argAt args 1).n.toNat (argAt args 2)), .word 0, 0)
def execF (i : SIns) (args : List Val) (M : Mach) : Mach × Val × Int :=
 if i.op = 0 then (M, .word i.n, 0)
 else if elemJ i.op [1, 2, 3, 4, 5, 6, 7] then
  if allK 0 args = false then (M, .zero, 5) else (M, binaryF i.op (argAt args 0).n (argAt args 1).n)
 else if i.op = 8 then (M, .mk 1 i.n args none, 0)
 else if i.op = 9 then (M, .mk 2 i.n args none, 0)
 else if elemJ i.op [10, 11, 12, 21] then (M, objectF i args)
 else if elemJ i.op [22, 23, 24] then (M, vectorF i args)
 else if i.op = 100 then (M, argAt args 0, 0)
 else effectF i args M
def blockAt (u : SUnit) (fn k : Int) : SBlock := ((u.fns[fn.toNat]?).bind fun f => f.blocks[k.toNat]?).getD default
def followF (u : SUnit) (f : MFrame) (e : SEdge) : MFrame :=
 { f with block := e.block, at_ := 0, vals := vputs f.vals (blockAt u f.fn e.block).params (takeF f.vals e.args) }
def choiceF (t : STerm) (n : Int) : Int :=
 if t.kind = 2 then if n ≠ 0 then 0 else 1 else if 0 ≤ idxOf (fun x => decide (n = x)) t.cases then idxOf (fun x => decide (n = x)) t.cases else t.cases.length
def leaveF (f : MFrame) (v : Val) (fs : List MFrame) (M : Mach) : Mach :=
 match fs with
 | g :: gs => { M with stack := { g with vals := vput g.vals f.to v } :: gs }
 | [] => stopF 0 (if v.kind = 0 ∨ v.kind = 1 then v.n else 0) { M with stack := [] }
def edgeAt (t : STerm) (k : Nat) : SEdge := t.to[k]?.getD default
def termF (u : SUnit) (f : MFrame) (t : STerm) (fs : List MFrame) (M : Mach) : Mach :=
 if t.kind = 4 then stopF t.n 0 M
 else if t.kind = 1 then { M with stack := followF u f (edgeAt t 0) :: fs }
 else if t.kind = 0 then leaveF f (vget f.vals t.arg) fs M
 else if (vget f.vals t.arg).kind ≠ 0 then stopF 5 0 M
 else { M with stack := followF u f (edgeAt t (choiceF t (vget f.vals t.arg).n).toNat) :: fs }
def insF (u : SUnit) (f : MFrame) (i : SIns) (fs : List MFrame) (M : Mach) : Mach :=
 let args := takeF f.vals i.args
 if i.op = 13 then enterF u i.n args i.to M
 else if i.op = 14 then
  if (argAt args 0).kind = 2 ∧ (entryOf u (argAt args 0).n).length = args.length then enterF u (argAt args 0).n args i.to M else stopF 5 0 M
 else
  let r := execF i args M
  let M1 := if r.2.2 ≠ 0 then stopF r.2.2 0 r.1 else r.1
  { M1 with stack := { f with vals := vput f.vals i.to r.2.1 } :: fs }
def stepF (u : SUnit) (M : Mach) : Mach :=
 match M.stack with
 | [] => M
 | f :: fs =>
  let b := blockAt u f.fn f.block
  if f.at_ = (b.ins.length : Int) then termF u f b.term fs M
  else
   let f' := { f with at_ := f.at_ + 1 }
   insF u f' (b.ins[f.at_.toNat]?.getD default) fs { M with stack := f' :: fs }
def goF (u : SUnit) : Nat → Mach → Mach
 | 0, M => M
 | n + 1, M => if M.over then M else if (payF 1 M).short then payF 1 M else goF u n (stepF u (payF 1 M))
def startF (u : SUnit) (fuel : Int) : Mach := enterF u u.main [] 0 ⟨[], fuel, false, false, [], 0, 0, []⟩
structure Out where
 out : List Int
 fin : Int
 value : Int
 deriving DecidableEq
def performF (u : SUnit) (fuel : Int) : Out × Int × Int :=
 let M := goF u (fuel.toNat + 1) (startF u fuel)
 if M.short then (⟨[], 0, 0⟩, 0, 13) else (⟨M.out, M.fin, M.value⟩, fuel - M.left, 0)
def runF (u : SUnit) (fuel : Int) : Out × Int × Int :=
 if unitF u ≠ 0 then (⟨[], 0, 0⟩, 0, unitF u) else if wi fuel 1 1000000 = false then (⟨[], 0, 0⟩, 0, 4) else performF u fuel
def countU : SUnit :=
 ⟨[⟨-1, [⟨[], [⟨0, 0, 0, []⟩], ⟨1, 0, 0, [], [⟨1, [0]⟩]⟩⟩,
  ⟨[1], [⟨2, 0, 3, []⟩, ⟨3, 6, 0, [1, 2]⟩], ⟨2, 3, 0, [], [⟨2, []⟩, ⟨3, []⟩]⟩⟩,
  ⟨[], [⟨4, 15, 0, [1]⟩, ⟨5, 0, 1, []⟩, ⟨6, 1, 0, [1, 5]⟩], ⟨1, 0, 0, [], [⟨1, [6]⟩]⟩⟩,
  ⟨[], [], ⟨0, 1, 0, [], []⟩⟩]⟩], 0⟩
theorem works_count : runF countU 27 = (⟨[0, 1, 2], 0, 3⟩, 27, 0) := by decide +kernel
end Go.SM
