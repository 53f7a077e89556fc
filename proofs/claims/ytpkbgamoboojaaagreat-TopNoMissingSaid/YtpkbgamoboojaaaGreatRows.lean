/-
  NARROWER THAN 'FOR EVERY INPUT', by the rows' own cells (each row's printed sentence says how): TopMatch: loops · TopNoMissing: loops.
  DERIVED. THE GIVEN ROWS OF THIS SEAT. 2 by the template 'for every input the law returns true; each argument reads behind the call as it read before'; 0 by the template 'total and deterministic' (their statements: YtpkbgamoboojaaaGreatTotals.lean).
  GIVEN WITH THE SEED: the statements are not yours to turn. If you find one false, say at which input.
  Laid BY PROGRAM, IN A SANDBOX (cutbox-rows.mjs): the forced cells as the released guide's own fill.sh prints them over the translation a1266deb6d7ecec4… (all of the seat's roots in one cut). By AI agents, Wed Nov 11 2026. No macro, syntax, notation, axiom, sorry.
-/
import Derived.Test.YtpkbgamoboojaaaGreatChecked
import GoSem.Claim
import GoSem.ClaimJoined
import GoSem.ClaimMapViews
import Derived.JoinedTies
import Derived.KernelRfl
namespace Go.Proofs.YtpkbgamoboojaaaGreat
/- THE CELL 'sum', in the pinned program and in every row, IS THE sha256 OF THE DUMP (.gsa) THAT YtpkbgamoboojaaaGreatProg.lean LOADS. Nothing in Lean hashes anything: it is a label: what it is worth is what the hold of that sum in a sandbox is worth. -/
noncomputable def Tryz.pinned : Pinned := { name := "ytpkbgamoboojaaagreat", sum := "a1266deb6d7ecec4dc5bd9359dbc3edb97c31b7a2f8b81120279914e0f4a0acb", checked := Tryz.checked }
namespace Rows
def none {H : Type} : Left H := { results := [], args := [] }

/-- 'provenancetop.TopMatch': WHATEVER THE INPUT: true; the input reads as it did. -/
def topMatchSpec : ChangeSpec := { name := "topMatch", fn := fun _ => fun
  | [d1, d2, d3] => { results := [.lit (.bool true)], args := [d1, d2, d3] }
  | _ => none }
def topMatchRow : OpenClaim := { program := "ytpkbgamoboojaaagreat", sum := "a1266deb6d7ecec4dc5bd9359dbc3edb97c31b7a2f8b81120279914e0f4a0acb", func := "provenance/provenancetop.TopMatch", spec := "topMatch", unfollowed := true, recurses := true, loops := true, apart := false }
def TopMatchSaid : Prop := topMatchRow.holds Tryz.pinned (OpenSpec.ofChange topMatchSpec)

/-- ITS FALSE NEIGHBOUR: 'it returns false'. Refute it at one input. -/
def topMatchWrong : ChangeSpec := { name := "topMatch", fn := fun _ => fun
  | [d1, d2, d3] => { results := [.lit (.bool false)], args := [d1, d2, d3] }
  | _ => none }
def TopMatchWrongFalsely : Prop := topMatchRow.holds Tryz.pinned (OpenSpec.ofChange topMatchWrong)

/-- 'provenancetop.TopNoMissing': WHATEVER THE INPUT: true; the input reads as it did. -/
def topNoMissingSpec : ChangeSpec := { name := "topNoMissing", fn := fun _ => fun
  | [d1, d2, d3] => { results := [.lit (.bool true)], args := [d1, d2, d3] }
  | _ => none }
def topNoMissingRow : OpenClaim := { program := "ytpkbgamoboojaaagreat", sum := "a1266deb6d7ecec4dc5bd9359dbc3edb97c31b7a2f8b81120279914e0f4a0acb", func := "provenance/provenancetop.TopNoMissing", spec := "topNoMissing", unfollowed := true, recurses := true, loops := true, apart := false }
def TopNoMissingSaid : Prop := topNoMissingRow.holds Tryz.pinned (OpenSpec.ofChange topNoMissingSpec)

/-- ITS FALSE NEIGHBOUR: 'it returns false'. Refute it at one input. -/
def topNoMissingWrong : ChangeSpec := { name := "topNoMissing", fn := fun _ => fun
  | [d1, d2, d3] => { results := [.lit (.bool false)], args := [d1, d2, d3] }
  | _ => none }
def TopNoMissingWrongFalsely : Prop := topNoMissingRow.holds Tryz.pinned (OpenSpec.ofChange topNoMissingWrong)

/- THE SECOND FORM. 'bulk': how many values and letters a reading holds, each counted each time it is reached (what is shared counts as often as it is met; a slice's spare places count too). A statement '..UptoSaid' is the law's where the arguments, and the package variables that the reading takes, are together of bulk at most 1048576: NARROWER than '..Said'. Prove '..Said' where nothing that the law and all that it calls make is longer than what came in: it says more and counts as full. Else prove '..UptoSaid'. A law counts once. -/
mutual
def uptoBulk {H : Type} : DataW H → Nat
  | .lit (.string bytes) => bytes.length + 1
  | .lit _ => 1
  | .nil => 1
  | .ptr d => uptoBulk d + 1
  | .slice elems spare => uptoBulkAll elems + uptoBulkAll spare + 1
  | .agg parts => uptoBulkAll parts + 1
  | .iface _ d => uptoBulk d + 1
  | .map entries => uptoBulkEntries entries + 1
  | .held _ => 1
def uptoBulkAll {H : Type} : List (DataW H) → Nat
  | [] => 0
  | d :: r => uptoBulk d + uptoBulkAll r
def uptoBulkEntries {H : Type} : List (Lit × DataW H) → Nat
  | [] => 0
  | x :: r => uptoBulkEntry x + uptoBulkEntries r
def uptoBulkEntry {H : Type} : Lit × DataW H → Nat
  | (.string bytes, d) => bytes.length + uptoBulk d + 1
  | (_, d) => uptoBulk d + 1
 end
def uptoSmall : (H : Type) → List (DataW H) → Bool := fun _ ds => decide (uptoBulkAll ds ≤ 1048576)
def OpenSpec.upto (s : _root_.Go.ChangeSpec) : _root_.Go.OpenSpec := { _root_.Go.OpenSpec.ofChange s with cond := some uptoSmall }

/-- 'provenancetop.TopMatch', WHERE WHAT IT READS IS OF BULK AT MOST 1048576: true; the input reads as it did. -/
def topMatchUptoRow : OpenClaim := { program := "ytpkbgamoboojaaagreat", sum := "a1266deb6d7ecec4dc5bd9359dbc3edb97c31b7a2f8b81120279914e0f4a0acb", func := "provenance/provenancetop.TopMatch", spec := "topMatch", unfollowed := true, recurses := true, loops := true, apart := false, narrowed := true }
def TopMatchUptoSaid : Prop := topMatchUptoRow.holds Tryz.pinned (OpenSpec.upto topMatchSpec)

/-- 'provenancetop.TopNoMissing', WHERE WHAT IT READS IS OF BULK AT MOST 1048576: true; the input reads as it did. -/
def topNoMissingUptoRow : OpenClaim := { program := "ytpkbgamoboojaaagreat", sum := "a1266deb6d7ecec4dc5bd9359dbc3edb97c31b7a2f8b81120279914e0f4a0acb", func := "provenance/provenancetop.TopNoMissing", spec := "topNoMissing", unfollowed := true, recurses := true, loops := true, apart := false, narrowed := true }
def TopNoMissingUptoSaid : Prop := topNoMissingUptoRow.holds Tryz.pinned (OpenSpec.upto topNoMissingSpec)

end Rows
end Go.Proofs.YtpkbgamoboojaaaGreat
