import Derived.Test.YtmmmgamhffbkbaaVT
import Derived.Test.YtmmmgamhffbkbaaS2
import Derived.Test.YtmmmgamhffbkbaaVO
import Derived.Test.YtmmmgamhffbkbaaDZ
import Derived.Test.YtmmmgamhffbkbaaX1
import Derived.Test.YtmmmgamhffbkbaaX2
import Derived.Test.YtmmmgamhffbkbaaX3
import Derived.Test.YtmmmgamhffbkbaaX4
import Derived.Test.YtmmmgamhffbkbaaX5
import Derived.Test.YtmmmgamhffbkbaaX6
import Derived.Test.YtmmmgamhffbkbaaX7
import Derived.Test.YtmmmgamhffbkbaaX8
import Derived.Test.YtmmmgamhffbkbaaX9
import Derived.Test.YtmmmgamhffbkbaaX10
import Derived.Test.YtmmmgamhffbkbaaXW
import Derived.Test.YtmmmgamhffbkbaaX25
import Derived.Test.YtmmmgamhffbkbaaX26
set_option linter.unusedVariables false
set_option linter.unusedSimpArgs false
namespace Go.Proofs.Ytmmmgamhffbkbaa.X34
open Go.VL Go.SM Go.Proofs.Ytmmmgamhffbkbaa Go.Proofs.Ytmmmgamhffbkbaa.X1 Go.Proofs.Ytmmmgamhffbkbaa.X2 Go.Proofs.Ytmmmgamhffbkbaa.X3 Go.Proofs.Ytmmmgamhffbkbaa.X4 Go.Proofs.Ytmmmgamhffbkbaa.X5 Go.Proofs.Ytmmmgamhffbkbaa.X6 Go.Proofs.Ytmmmgamhffbkbaa.X7 Go.Proofs.Ytmmmgamhffbkbaa.X8 Go.Proofs.Ytmmmgamhffbkbaa.X9 Go.Proofs.Ytmmmgamhffbkbaa.X10 Go.Proofs.Ytmmmgamhffbkbaa.XW Go.Proofs.Ytmmmgamhffbkbaa.X25 Go.Proofs.Ytmmmgamhffbkbaa.X26
open Go.VL renaming VOps_nil → Za, VW_seq → Zb, VW_region → Zd, Needs_nil → Ze, Then_n → Zi, V_fieldAddr → Zj, V_move → Zl, eqRes → Zm, vopT → Zn, goodS → Zo, VW_block → Zs, VW_exit → Zt, V_load → Zu, V_load_agg → Zv, V_store_agg → Zx, V_store → Zy, V_indexAddr → Zz, InBlock_n → Zb1, InBlock_hit → Zc1, Then_e → Ze1, VW_ret → Zf1, VRet_one → Zg1, VW_skip → Zi1, V_bin → Zj1, VW_condP → Zn1, V_load_ep_agg → Za2, V_alloc → Zb2, V_box → Zc2, V_lenN → Zd2, V_build → Zf2, V_add → Zh2, VW_loopF → Zi2, goodA → Zm2, goodU → Zo2, evs_cons → Zp2, evs_nil → Zq2, Drops.refl → Zt2, oneRes → Zw2, oneE → Zx2, anyRes → Za3, oneY → Zd3, V_appendN → Zi3, V_lit → Zk3
open Classical in
noncomputable def nrmR (bs : List SBlock) (rows : List (Option XRow)) : List (Option XRow) := if RowsOk bs rows then rows else bs.map fun b => some ⟨0, b.term.to.length, b.term.to.map edgeV, []⟩
theorem blocks_7 (bs : List SBlock) : ∀ x ∈ bs.map blockV, x.leaves.length = 7 := fun x hx => by
  obtain ⟨b, _, rfl⟩ := List.mem_map.1 hx
  rfl
instance : Inhabited XRow := ⟨⟨0, 0, [], []⟩⟩
def BRow (f : SFunc) (o : XRow) : Prop := o.xs = f.blocks.map blockV ∧ xOk 7 (some o)
def cxV (f : SFunc) (o : XRow) : V := .agg [.int f.name, xLeaf (some o)]
def cxL (fs : List SFunc) (Os : List XRow) : List V := List.zipWith cxV fs Os
abbrev bOwn (Os : List XRow) : Store := Os.flatMap fun o => xOwn 44 (some o)
def BRows (fs : List SFunc) (Os : List XRow) : Prop := Os.length = fs.length ∧ ∀ (k : Nat) (f : SFunc) (o : XRow), fs[k]? = some f → Os[k]? = some o → BRow f o
open Classical in
noncomputable def nrmB (f : SFunc) (o : XRow) : XRow := if BRow f o then o else ⟨0, f.blocks.length, f.blocks.map blockV, []⟩
end Go.Proofs.Ytmmmgamhffbkbaa.X34
