import Derived.Test.YtmmmgamhffbkbaaVC
set_option linter.unusedVariables false
namespace Go.VL
section
variable {P : Program} {nt : Nat} {F : Fr} {S : Store} {Q : Exit → Fr → Store → Prop}
end
end Go.VL
