import Derived.Test.YtimmnbdajflgmaaVJ
import Derived.Test.YtimmnbdajflgmaaVT
import Derived.Shelf.Slices.In.SortNone
set_option linter.unusedVariables false
namespace Go.Proofs.Ytimmnbdajflgmaa.XS
open Go.VL Go.Proofs.Ytimmnbdajflgmaa
end Go.Proofs.Ytimmnbdajflgmaa.XS
