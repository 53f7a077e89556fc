import Derived.Test.YtaldllbomhgciaaS2
set_option linter.unusedVariables false
namespace Go.SM
open Go.VL
end Go.SM
