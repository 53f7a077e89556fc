/-
  No cell of these rows narrows 'for every input' (looked for: loops, veiled, ifaces, maps, wideKeys, modest, calm, conditions, laid).
  DERIVED. THE GIVEN ROWS OF THIS SEAT. 3 by the template 'for every input the law returns true; each argument reads behind the call as it read before'; 0 by the template 'total and deterministic' (their statements: YtnklonhioneeoaaTotals.lean).
  GIVEN WITH THE SEED: the statements are not yours to turn. If you find one false, say at which input.
  Laid BY PROGRAM, IN A SANDBOX (cutbox-rows.mjs): the forced cells as the released guide's own fill.sh prints them over the translation 4adeb5c2be86a768… (all of the seat's roots in one cut). By AI agents, Wed Nov 11 2026. No macro, syntax, notation, axiom, sorry.
-/
import Derived.Test.YtnklonhioneeoaaChecked
import GoSem.Claim
import GoSem.ClaimJoined
import GoSem.ClaimMapViews
import Derived.JoinedTies
import Derived.KernelRfl
namespace Go.Proofs.Ytnklonhioneeoaa
/- THE CELL 'sum', in the pinned program and in every row, IS THE sha256 OF THE DUMP (.gsa) THAT YtnklonhioneeoaaProg.lean LOADS. Nothing in Lean hashes anything: it is a label: what it is worth is what the hold of that sum in a sandbox is worth. -/
noncomputable def Try.pinned : Pinned := { name := "ytnklonhioneeoaa", sum := "4adeb5c2be86a76815275fbc7dba56db2de3629b19180cd352a5d7d67663b8a1", checked := Try.checked }
namespace Rows
def none {H : Type} : Left H := { results := [], args := [] }

/-- 'provenancekeep3.LoopsNest': WHATEVER THE INPUT: true; the input reads as it did. -/
def loopsNestSpec : ChangeSpec := { name := "loopsNest", fn := fun _ => fun
  | [d] => { results := [.lit (.bool true)], args := [d] }
  | _ => none }
def loopsNestRow : OpenClaim := { program := "ytnklonhioneeoaa", sum := "4adeb5c2be86a76815275fbc7dba56db2de3629b19180cd352a5d7d67663b8a1", func := "provenance/provenancekeep3.LoopsNest", spec := "loopsNest", unfollowed := true, recurses := true, apart := false }
def LoopsNestSaid : Prop := loopsNestRow.holds Try.pinned (OpenSpec.ofChange loopsNestSpec)

/-- ITS FALSE NEIGHBOUR: 'it returns false'. Refute it at one input. -/
def loopsNestWrong : ChangeSpec := { name := "loopsNest", fn := fun _ => fun
  | [d] => { results := [.lit (.bool false)], args := [d] }
  | _ => none }
def LoopsNestWrongFalsely : Prop := loopsNestRow.holds Try.pinned (OpenSpec.ofChange loopsNestWrong)

/-- 'provenancekeep3.LoopsDepths': WHATEVER THE INPUT: true; the input reads as it did. -/
def loopsDepthsSpec : ChangeSpec := { name := "loopsDepths", fn := fun _ => fun
  | [d] => { results := [.lit (.bool true)], args := [d] }
  | _ => none }
def loopsDepthsRow : OpenClaim := { program := "ytnklonhioneeoaa", sum := "4adeb5c2be86a76815275fbc7dba56db2de3629b19180cd352a5d7d67663b8a1", func := "provenance/provenancekeep3.LoopsDepths", spec := "loopsDepths", unfollowed := true, recurses := true, apart := false }
def LoopsDepthsSaid : Prop := loopsDepthsRow.holds Try.pinned (OpenSpec.ofChange loopsDepthsSpec)

/-- ITS FALSE NEIGHBOUR: 'it returns false'. Refute it at one input. -/
def loopsDepthsWrong : ChangeSpec := { name := "loopsDepths", fn := fun _ => fun
  | [d] => { results := [.lit (.bool false)], args := [d] }
  | _ => none }
def LoopsDepthsWrongFalsely : Prop := loopsDepthsRow.holds Try.pinned (OpenSpec.ofChange loopsDepthsWrong)

/-- 'provenancekeep3.LoopsHeads': WHATEVER THE INPUT: true; the input reads as it did. -/
def loopsHeadsSpec : ChangeSpec := { name := "loopsHeads", fn := fun _ => fun
  | [d] => { results := [.lit (.bool true)], args := [d] }
  | _ => none }
def loopsHeadsRow : OpenClaim := { program := "ytnklonhioneeoaa", sum := "4adeb5c2be86a76815275fbc7dba56db2de3629b19180cd352a5d7d67663b8a1", func := "provenance/provenancekeep3.LoopsHeads", spec := "loopsHeads", unfollowed := true, recurses := true, apart := false }
def LoopsHeadsSaid : Prop := loopsHeadsRow.holds Try.pinned (OpenSpec.ofChange loopsHeadsSpec)

/-- ITS FALSE NEIGHBOUR: 'it returns false'. Refute it at one input. -/
def loopsHeadsWrong : ChangeSpec := { name := "loopsHeads", fn := fun _ => fun
  | [d] => { results := [.lit (.bool false)], args := [d] }
  | _ => none }
def LoopsHeadsWrongFalsely : Prop := loopsHeadsRow.holds Try.pinned (OpenSpec.ofChange loopsHeadsWrong)

/- THE SECOND FORM. 'bulk': how many values and letters a reading holds, each counted each time it is reached (what is shared counts as often as it is met; a slice's spare places count too). A statement '..UptoSaid' is the law's where the arguments, and the package variables that the reading takes, are together of bulk at most 1048576: NARROWER than '..Said'. Prove '..Said' where nothing that the law and all that it calls make is longer than what came in: it says more and counts as full. Else prove '..UptoSaid'. A law counts once. -/
mutual
def uptoBulk {H : Type} : DataW H → Nat
  | .lit (.string bytes) => bytes.length + 1
  | .lit _ => 1
  | .nil => 1
  | .ptr d => uptoBulk d + 1
  | .slice elems spare => uptoBulkAll elems + uptoBulkAll spare + 1
  | .agg parts => uptoBulkAll parts + 1
  | .iface _ d => uptoBulk d + 1
  | .map entries => uptoBulkEntries entries + 1
  | .held _ => 1
def uptoBulkAll {H : Type} : List (DataW H) → Nat
  | [] => 0
  | d :: r => uptoBulk d + uptoBulkAll r
def uptoBulkEntries {H : Type} : List (Lit × DataW H) → Nat
  | [] => 0
  | x :: r => uptoBulkEntry x + uptoBulkEntries r
def uptoBulkEntry {H : Type} : Lit × DataW H → Nat
  | (.string bytes, d) => bytes.length + uptoBulk d + 1
  | (_, d) => uptoBulk d + 1
 end
def uptoSmall : (H : Type) → List (DataW H) → Bool := fun _ ds => decide (uptoBulkAll ds ≤ 1048576)
def OpenSpec.upto (s : _root_.Go.ChangeSpec) : _root_.Go.OpenSpec := { _root_.Go.OpenSpec.ofChange s with cond := some uptoSmall }

/-- 'provenancekeep3.LoopsNest', WHERE WHAT IT READS IS OF BULK AT MOST 1048576: true; the input reads as it did. -/
def loopsNestUptoRow : OpenClaim := { program := "ytnklonhioneeoaa", sum := "4adeb5c2be86a76815275fbc7dba56db2de3629b19180cd352a5d7d67663b8a1", func := "provenance/provenancekeep3.LoopsNest", spec := "loopsNest", unfollowed := true, recurses := true, apart := false, narrowed := true }
def LoopsNestUptoSaid : Prop := loopsNestUptoRow.holds Try.pinned (OpenSpec.upto loopsNestSpec)

/-- 'provenancekeep3.LoopsDepths', WHERE WHAT IT READS IS OF BULK AT MOST 1048576: true; the input reads as it did. -/
def loopsDepthsUptoRow : OpenClaim := { program := "ytnklonhioneeoaa", sum := "4adeb5c2be86a76815275fbc7dba56db2de3629b19180cd352a5d7d67663b8a1", func := "provenance/provenancekeep3.LoopsDepths", spec := "loopsDepths", unfollowed := true, recurses := true, apart := false, narrowed := true }
def LoopsDepthsUptoSaid : Prop := loopsDepthsUptoRow.holds Try.pinned (OpenSpec.upto loopsDepthsSpec)

/-- 'provenancekeep3.LoopsHeads', WHERE WHAT IT READS IS OF BULK AT MOST 1048576: true; the input reads as it did. -/
def loopsHeadsUptoRow : OpenClaim := { program := "ytnklonhioneeoaa", sum := "4adeb5c2be86a76815275fbc7dba56db2de3629b19180cd352a5d7d67663b8a1", func := "provenance/provenancekeep3.LoopsHeads", spec := "loopsHeads", unfollowed := true, recurses := true, apart := false, narrowed := true }
def LoopsHeadsUptoSaid : Prop := loopsHeadsUptoRow.holds Try.pinned (OpenSpec.upto loopsHeadsSpec)

end Rows
end Go.Proofs.Ytnklonhioneeoaa
