/- Matching: nodes of a tree, the builder, what it computes. -/
import Derived.Test.YtmjeaagpcmfnpaaVD8
import Derived.Test.YtmjeaagpcmfnpaaVB
set_option linter.unusedVariables false
namespace Go.PM
open Go.VL
structure MNode where
  kind : Int
  row : Int
  path : List Int
  names : List Str
  words : List Int
  kids : List Int
def intsX (l : List Int) : V := .sl 1 none (l.map V.int)
def strsX (l : List Str) : V := .sl 1 none (l.map V.str)
abbrev nodeX (n : MNode) : V := .agg [.int n.kind, .int n.row, intsX n.path, strsX n.names, intsX n.words, intsX n.kids]
def nodesX (l : List MNode) : V := .sl 6 none (l.map nodeX)
/-- A row with its index. -/
abbrev MRow := Nat × List Pat
abbrev mrowX (r : MRow) : V := .agg [.int r.1, patsX r.2]
abbrev mrowsX (l : List MRow) : V := .sl 2 none (l.map mrowX)
abbrev pathsX (l : List (List Int)) : V := .sl 1 none (l.map intsX)
theorem get_int {l : List Int} {k : Nat} {x : Int} (h : l[k]? = some x) : (l.map V.int)[k]? = some (V.int x) := by simp [h]
theorem get_str {l : List Str} {k : Nat} {x : Str} (h : l[k]? = some x) : (l.map V.str)[k]? = some (V.str x) := by simp [h]
def sameN (a b : MNode) : Bool := decide (a.kind = b.kind) && decide (a.row = b.row) && decide (a.path = b.path) && decide (a.names = b.names) && decide (a.words = b.words) && decide (a.kids = b.kids)
theorem sameN_iff {a b : MNode} : sameN a b = true ↔ a = b := by
  obtain ⟨a1, a2, a3, a4, a5, a6⟩ := a
  obtain ⟨b1, b2, b3, b4, b5, b6⟩ := b
  simp [sameN, and_assoc]
/-- What the builder holds. -/
structure BSt where
  out : List MNode
  many : Nat
  full : Bool
def addF (s : BSt) (n : MNode) : BSt × Nat := if 0 ≤ idxOf (fun x => sameN x n) s.out then (s, (idxOf (fun x => sameN x n) s.out).toNat) else ({ s with out := s.out ++ [n] }, s.out.length)
def narrowM (at_ : Nat) (is : Pat → Bool) (many : Nat) (rows : List MRow) : List MRow := rows.filterMap fun r =>
  let p := r.2.getD at_ anyP
  if free p || is p then some (r.1, r.2.take at_ ++ (r.2.drop (at_ + 1) ++ (if free p = false ∧ p.kind = 3 then p.args else anysL many))) else none
def belowM (paths : List (List Int)) (at_ many : Nat) : List (List Int) := paths.take at_ ++ (paths.drop (at_ + 1) ++ (List.range many).map fun k : Nat => paths.getD at_ [] ++ [(k : Int)])
def failN : MNode := ⟨0, 0, [], [], [], []⟩
def rowN (k : Nat) : MNode := ⟨1, k, [], [], [], []⟩
def isCon (name : Str) (p : Pat) : Bool := decide (p.name = name)
def isInt (n : Int) (p : Pat) : Bool := decide (p.n = n)
/-- Some row has this constructor at the column. -/
def hasCon (rows : List MRow) (at_ : Nat) (name : Str) : Bool := rows.any fun r => !free (r.2.getD at_ anyP) && isCon name (r.2.getD at_ anyP)
section
variable (rc : BSt → List MRow → List (List Int) → BSt × Nat)
def consL (rows : List MRow) (paths : List (List Int)) (at_ : Nat) : List ConSig → BSt → List Str → List Int → BSt × List Str × List Int
  | [], s, names, kids => (s, names, kids)
  | c :: cs, s, names, kids => if hasCon rows at_ c.name then
      consL rows paths at_ cs (rc s (narrowM at_ (isCon c.name) c.args.length rows) (belowM paths at_ c.args.length)).1 (names ++ [c.name]) (kids ++ [((rc s (narrowM at_ (isCon c.name) c.args.length rows) (belowM paths at_ c.args.length)).2 : Int)])
    else consL rows paths at_ cs s names kids
def wordsL (rows : List MRow) (paths : List (List Int)) (at_ : Nat) : List MRow → BSt → List Int → List Int → BSt × List Int × List Int
  | [], s, ws, kids => (s, ws, kids)
  | r :: rs, s, ws, kids => if free (r.2.getD at_ anyP) || ws.any (fun x => decide ((r.2.getD at_ anyP).n = x)) then wordsL rows paths at_ rs s ws kids
    else wordsL rows paths at_ rs (rc s (narrowM at_ (isInt (r.2.getD at_ anyP).n) 0 rows) (belowM paths at_ 0)).1 (ws ++ [(r.2.getD at_ anyP).n]) (kids ++ [((rc s (narrowM at_ (isInt (r.2.getD at_ anyP).n) 0 rows) (belowM paths at_ 0)).2 : Int)])
def otherF (s : BSt) (rows : List MRow) (paths : List (List Int)) (at_ : Nat) : BSt × Nat := rc s (narrowM at_ (fun _ => false) 0 rows) (belowM paths at_ 0)
def wordsF (s : BSt) (rows : List MRow) (paths : List (List Int)) (at_ : Nat) : BSt × Nat :=
  let w := wordsL rc rows paths at_ rows s [] []
  let o := otherF rc w.1 rows paths at_
  addF o.1 ⟨3, 0, paths.getD at_ [], [], w.2.1, w.2.2 ++ [(o.2 : Int)]⟩
def consF (cs : List ConSig) (s : BSt) (rows : List MRow) (paths : List (List Int)) (at_ : Nat) : BSt × Nat :=
  let w := consL rc rows paths at_ cs s [] []
  let o : BSt × Int := if w.2.1.length < cs.length then ((otherF rc w.1 rows paths at_).1, ((otherF rc w.1 rows paths at_).2 : Int)) else (w.1, -1)
  addF o.1 ⟨2, 0, paths.getD at_ [], w.2.1, [], w.2.2 ++ [o.2]⟩
end
/-- The builder's state behind the count. -/
def tick (s : BSt) : BSt := { s with many := s.many + 1, full := s.full || decide (4096 < s.many + 1) }
def headPats (rows : List MRow) : List Pat := (rows.headD (0, [])).2
def buildM (t : Tab) (ds : List DataSig) : Nat → BSt → List MRow → List (List Int) → BSt × Nat
  | 0, s, _, _ => (s, 0)
  | f + 1, s, rows, paths =>
    if rows.length = 0 ∨ (tick s).full = true then addF (tick s) failN
    else if idxOf nf (headPats rows) < 0 then addF (tick s) (rowN (rows.headD (0, [])).1)
    else if ((headPats rows).getD (idxOf nf (headPats rows)).toNat anyP).kind = 2 then wordsF (buildM t ds f) (tick s) rows paths (idxOf nf (headPats rows)).toNat
    else consF (buildM t ds f) (consAt t ds ((headPats rows).getD (idxOf nf (headPats rows)).toNat anyP).name) (tick s) rows paths (idxOf nf (headPats rows)).toNat
/-! ### In the store -/
abbrev bcell (gb gm : Nat) (tk : Tok) (s : BSt) : Own := .cells gb 76 [.raw (.map (some gm)), .sl 6 (some tk) (s.out.map nodeX), .int s.many, .bool s.full]
abbrev bbuf (tk : Tok) (s : BSt) : Own := .buf tk 49 6 s.out.length
/-- The builder's table: each constructor leads to its data type. -/
def ConTab (t : Tab) (ds : List DataSig) (tab : List (Str × V)) : Prop := ∀ s c D, tget t s = some c → ds[c.1]? = some D → ∃ a, kget tab s = some (.ep a (dataV D))
end Go.PM
