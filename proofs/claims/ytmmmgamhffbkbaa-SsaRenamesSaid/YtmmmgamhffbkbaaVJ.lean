import Derived.Test.YtmmmgamhffbkbaaVI
import Derived.Sort.OwnSortedInts
import Derived.Shelf.Sort.Plain
set_option linter.unusedVariables false
namespace Go.VL
open Go.Sort
section
variable {P : Program}
end
end Go.VL
