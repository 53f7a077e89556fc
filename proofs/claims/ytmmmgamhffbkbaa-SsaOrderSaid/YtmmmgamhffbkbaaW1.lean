import Derived.Test.YtmmmgamhffbkbaaS2
set_option linter.unusedVariables false
namespace Go.SM
open Go.VL
def withinF (n m : Int) : Int := if n.tmod m < 0 then n.tmod m + m else n.tmod m
end Go.SM
