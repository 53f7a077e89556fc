import Derived.Test.YtnklonhioneeoaaS8
import Derived.Test.YtnklonhioneeoaaS3
import Derived.Test.YtnklonhioneeoaaC2
set_option linter.unusedVariables false
set_option linter.unusedSimpArgs false
namespace Go.SM
open Go.VL
structure DomFix (bs : List SBlock) (d : Dom) : Prop where
  ok : DomOk bs.length d
  seen0 : d.seen.has 0 = true
  at0 : d.at 0 = BSet.with noSet 0
  fix : ∀ (k : Nat) (b : SBlock), bs[k]? = some b → d.seen.has k = true → ∀ e ∈ b.term.to, domEdge k d e = d
inductive Way (bs : List SBlock) : List Nat → Nat → Prop where
  | start : Way bs [] 0
  | step {l : List Nat} {p k : Nat} : Way bs l p → Edge bs p k → Way bs (p :: l) k
end Go.SM
