import Derived.Test.YtaldllbomhgciaaVT
import Derived.Test.YtaldllbomhgciaaS2
import Derived.Test.YtaldllbomhgciaaVF
import Derived.Test.YtaldllbomhgciaaDZ
import Derived.Test.YtaldllbomhgciaaX1
import Derived.Test.YtaldllbomhgciaaX2
import Derived.Test.YtaldllbomhgciaaX3
import Derived.Test.YtaldllbomhgciaaX4
import Derived.Test.YtaldllbomhgciaaX5
import Derived.Test.YtaldllbomhgciaaX6
import Derived.Test.YtaldllbomhgciaaX7
import Derived.Test.YtaldllbomhgciaaX8
import Derived.Test.YtaldllbomhgciaaX9
import Derived.Test.YtaldllbomhgciaaX10
import Derived.Test.YtaldllbomhgciaaX12
import Derived.Test.YtaldllbomhgciaaX13
set_option linter.unusedVariables false
set_option linter.unusedSimpArgs false
namespace Go.Proofs.Ytaldllbomhgciaa.X14
open Go.VL Go.SM Go.Proofs.Ytaldllbomhgciaa Go.Proofs.Ytaldllbomhgciaa.X1 Go.Proofs.Ytaldllbomhgciaa.X2 Go.Proofs.Ytaldllbomhgciaa.X3 Go.Proofs.Ytaldllbomhgciaa.X4 Go.Proofs.Ytaldllbomhgciaa.X5 Go.Proofs.Ytaldllbomhgciaa.X6 Go.Proofs.Ytaldllbomhgciaa.X7 Go.Proofs.Ytaldllbomhgciaa.X8 Go.Proofs.Ytaldllbomhgciaa.X9 Go.Proofs.Ytaldllbomhgciaa.X10 Go.Proofs.Ytaldllbomhgciaa.X12 Go.Proofs.Ytaldllbomhgciaa.X13
open Go.VL renaming VOps_nil → Za, VW_seq → Zb, VW_region → Zd, Needs_nil → Ze, VOps_skipU → Zh, Then_n → Zi, V_fieldAddr → Zj, V_assign → Zk, V_move → Zl, eqRes → Zm, vopT → Zn, goodS → Zo, good0 → Zq, VW_block → Zs, VW_exit → Zt, V_load → Zu, V_load_agg → Zv, V_store_agg → Zx, V_store → Zy, V_indexAddr → Zz, InBlock_n → Zb1, InBlock_hit → Zc1, Then_r → Zd1, Then_e → Ze1, VW_ret → Zf1, VRet_one → Zg1, VRet_many → Zh1, VW_skip → Zi1, V_bin → Zj1, VW_condNe → Zm1, VW_condP → Zn1, VW_condT → Zp1, VW_condF → Zq1, VW_cond → Zr1, V_pickT → Zs1, V_pickF → Zt1, V_callP → Zx1, V_load_ep → Zz1, V_alloc → Zb2, V_box → Zc2, V_lenN → Zd2, V_build → Zf2, V_extract → Zg2, V_add → Zh2, VW_loopF → Zi2, VOps_split → Zj2, goodA → Zm2, goodU → Zo2, evs_cons → Zp2, evs_nil → Zq2, V_indexAddr_row → Zr2, Drops.refl → Zt2, VOp_as → Zu2, oneRes → Zw2, oneE → Zx2, anyRes → Za3, epRes → Zb3, epE → Zc3, oneY → Zd3, V_callKs → Zl3
end Go.Proofs.Ytaldllbomhgciaa.X14
