import Derived.Test.YtaldllbomhgciaaVT
import Derived.Test.YtaldllbomhgciaaS2
import Derived.Test.YtaldllbomhgciaaXS
import Derived.Test.YtaldllbomhgciaaDZ
import Derived.Test.YtaldllbomhgciaaX1
import Derived.Test.YtaldllbomhgciaaX2
import Derived.Test.YtaldllbomhgciaaX3
import Derived.Test.YtaldllbomhgciaaX4
import Derived.Test.YtaldllbomhgciaaX5
import Derived.Test.YtaldllbomhgciaaX6
import Derived.Test.YtaldllbomhgciaaX7
import Derived.Test.YtaldllbomhgciaaX8
import Derived.Test.YtaldllbomhgciaaX9
import Derived.Test.YtaldllbomhgciaaX10
import Derived.Test.YtaldllbomhgciaaX12
import Derived.Test.YtaldllbomhgciaaX13
import Derived.Test.YtaldllbomhgciaaX14
set_option linter.unusedVariables false
set_option linter.unusedSimpArgs false
namespace Go.Proofs.Ytaldllbomhgciaa.X20
open Go.VL Go.SM Go.Proofs.Ytaldllbomhgciaa Go.Proofs.Ytaldllbomhgciaa.XS Go.Proofs.Ytaldllbomhgciaa.X1 Go.Proofs.Ytaldllbomhgciaa.X2 Go.Proofs.Ytaldllbomhgciaa.X3 Go.Proofs.Ytaldllbomhgciaa.X4 Go.Proofs.Ytaldllbomhgciaa.X5 Go.Proofs.Ytaldllbomhgciaa.X6 Go.Proofs.Ytaldllbomhgciaa.X7 Go.Proofs.Ytaldllbomhgciaa.X8 Go.Proofs.Ytaldllbomhgciaa.X9 Go.Proofs.Ytaldllbomhgciaa.X10 Go.Proofs.Ytaldllbomhgciaa.X12 Go.Proofs.Ytaldllbomhgciaa.X13 Go.Proofs.Ytaldllbomhgciaa.X14
open Go.VL renaming VOps_nil → Za, VW_seq → Zb, VW_region → Zd, Then_n → Zi, V_assign → Zk, V_move → Zl, V_load → Zu, V_load_agg → Zv, VW_ret → Zf1, VRet_many → Zh1, VW_skip → Zi1, V_bin → Zj1, VW_condNe → Zm1, V_callP → Zx1, V_alloc → Zb2, V_box → Zc2, V_extract → Zg2, Drops.refl → Zt2, VOp_as → Zu2, perm_erase → Zv2, V_call → Zm3
end Go.Proofs.Ytaldllbomhgciaa.X20
