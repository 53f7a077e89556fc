import Derived.Test.YtaldllbomhgciaaVK
import Derived.Test.YtaldllbomhgciaaVJ
import Derived.Test.YtaldllbomhgciaaVT
import Derived.Shelf.Slices.In.SortNone
set_option linter.unusedVariables false
namespace Go.Proofs.Ytaldllbomhgciaa.XS
open Go.VL Go.Proofs.Ytaldllbomhgciaa
end Go.Proofs.Ytaldllbomhgciaa.XS
