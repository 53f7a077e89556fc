import Derived.Test.YtaldllbomhgciaaDZ
set_option linter.unusedVariables false
set_option linter.unusedSimpArgs false
namespace Go.SM
open Go.VL
end Go.SM
