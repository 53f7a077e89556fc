import Derived.Test.YtimmnbdajflgmaaVT
import Derived.Test.YtimmnbdajflgmaaS2
import Derived.Test.YtimmnbdajflgmaaDZ
import Derived.Test.YtimmnbdajflgmaaX1
import Derived.Test.YtimmnbdajflgmaaX2
import Derived.Test.YtimmnbdajflgmaaX3
import Derived.Test.YtimmnbdajflgmaaX4
import Derived.Test.YtimmnbdajflgmaaX5
import Derived.Test.YtimmnbdajflgmaaX6
import Derived.Test.YtimmnbdajflgmaaX7
import Derived.Test.YtimmnbdajflgmaaX8
import Derived.Test.YtimmnbdajflgmaaX9
import Derived.Test.YtimmnbdajflgmaaX10
set_option linter.unusedVariables false
set_option linter.unusedSimpArgs false
namespace Go.Proofs.Ytimmnbdajflgmaa.X12
open Go.VL Go.SM Go.Proofs.Ytimmnbdajflgmaa Go.Proofs.Ytimmnbdajflgmaa.X1 Go.Proofs.Ytimmnbdajflgmaa.X2 Go.Proofs.Ytimmnbdajflgmaa.X3 Go.Proofs.Ytimmnbdajflgmaa.X4 Go.Proofs.Ytimmnbdajflgmaa.X5 Go.Proofs.Ytimmnbdajflgmaa.X6 Go.Proofs.Ytimmnbdajflgmaa.X7 Go.Proofs.Ytimmnbdajflgmaa.X8 Go.Proofs.Ytimmnbdajflgmaa.X9 Go.Proofs.Ytimmnbdajflgmaa.X10
open Go.VL renaming VOps_nil → Za, VW_seq → Zb, VW_region → Zd, Needs_nil → Ze, Then_n → Zi, V_fieldAddr → Zj, V_assign → Zk, V_move → Zl, eqRes → Zm, vopT → Zn, goodS → Zo, VW_block → Zs, VW_exit → Zt, V_load → Zu, V_load_agg → Zv, V_store_agg → Zx, V_indexAddr → Zz, InBlock_n → Zb1, InBlock_hit → Zc1, Then_r → Zd1, Then_e → Ze1, VW_ret → Zf1, VRet_many → Zh1, VW_skip → Zi1, V_bin → Zj1, VW_condNe → Zm1, VW_condP → Zn1, V_callP → Zx1, V_load_ep_agg → Za2, V_alloc → Zb2, V_box → Zc2, V_lenN → Zd2, V_add → Zh2, VW_loopF → Zi2, goodA → Zm2, goodU → Zo2, evs_cons → Zp2, evs_nil → Zq2, V_indexAddr_row → Zr2, Drops.refl → Zt2, VOp_as → Zu2, oneRes → Zw2, oneE → Zx2, anyRes → Za3, V_load_elem1 → Zf3, V_store_elem1 → Zh3, V_appendN → Zi3, V_lit → Zk3
end Go.Proofs.Ytimmnbdajflgmaa.X12
