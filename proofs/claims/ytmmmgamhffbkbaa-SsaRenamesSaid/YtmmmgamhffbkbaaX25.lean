import Derived.Test.YtmmmgamhffbkbaaVT
import Derived.Test.YtmmmgamhffbkbaaS2
import Derived.Test.YtmmmgamhffbkbaaVM
import Derived.Test.YtmmmgamhffbkbaaDZ
import Derived.Test.YtmmmgamhffbkbaaX1
import Derived.Test.YtmmmgamhffbkbaaX2
import Derived.Test.YtmmmgamhffbkbaaX3
import Derived.Test.YtmmmgamhffbkbaaX4
import Derived.Test.YtmmmgamhffbkbaaX5
import Derived.Test.YtmmmgamhffbkbaaX6
import Derived.Test.YtmmmgamhffbkbaaX7
import Derived.Test.YtmmmgamhffbkbaaX8
import Derived.Test.YtmmmgamhffbkbaaX9
import Derived.Test.YtmmmgamhffbkbaaX10
import Derived.Test.YtmmmgamhffbkbaaXW
set_option linter.unusedVariables false
set_option linter.unusedSimpArgs false
namespace Go.Proofs.Ytmmmgamhffbkbaa.X25
open Go.VL Go.SM Go.Proofs.Ytmmmgamhffbkbaa Go.Proofs.Ytmmmgamhffbkbaa.X1 Go.Proofs.Ytmmmgamhffbkbaa.X2 Go.Proofs.Ytmmmgamhffbkbaa.X3 Go.Proofs.Ytmmmgamhffbkbaa.X4 Go.Proofs.Ytmmmgamhffbkbaa.X5 Go.Proofs.Ytmmmgamhffbkbaa.X6 Go.Proofs.Ytmmmgamhffbkbaa.X7 Go.Proofs.Ytmmmgamhffbkbaa.X8 Go.Proofs.Ytmmmgamhffbkbaa.X9 Go.Proofs.Ytmmmgamhffbkbaa.X10 Go.Proofs.Ytmmmgamhffbkbaa.XW
structure RowsOk (bs : List SBlock) (rows : List (Option XRow)) : Prop where
  len : rows.length = bs.length
  row : ∀ (k : Nat) (b : SBlock) (o : Option XRow), bs[k]? = some b → rows[k]? = some o → xl o = b.term.to.map edgeV ∧ xOk 2 o
theorem xLeaf_leaf (o : Option XRow) : (xLeaf o).leaf = true := by cases o <;> rfl
theorem edges_2 {xs : List V} {l : List SEdge} (h : xs = l.map edgeV) : ∀ v ∈ xs, v.leaves.length = 2 := fun v hv => by
  rw [h] at hv
  obtain ⟨n, _, rfl⟩ := List.mem_map.1 hv
  rfl
structure CpOk (f : SFunc) : Prop where
  many : f.blocks.length ≤ 1000
  block : ∀ b ∈ f.blocks, b.params.length ≤ 10000 ∧ b.ins.length ≤ 10000 ∧ b.term.cases.length ≤ 10000 ∧ b.term.to.length ≤ 10000 ∧ (∀ i ∈ b.ins, i.args.length ≤ 10000) ∧ ∀ e ∈ b.term.to, e.args.length ≤ 10000
end Go.Proofs.Ytmmmgamhffbkbaa.X25
