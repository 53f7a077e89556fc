import Derived.Test.YtmmmgamhffbkbaaVT
import Derived.Test.YtmmmgamhffbkbaaS2
import Derived.Test.YtmmmgamhffbkbaaDZ
set_option linter.unusedVariables false
set_option linter.unusedSimpArgs false
namespace Go.Proofs.Ytmmmgamhffbkbaa.XW
open Go.VL Go.SM Go.Proofs.Ytmmmgamhffbkbaa 
open Go.VL renaming VOps_nil → Za, VW_seq → Zb, VW_region → Zd, Then_n → Zi, V_assign → Zk, V_move → Zl, VW_ret → Zf1, VRet_one → Zg1, VW_skip → Zi1, V_bin → Zj1, VW_condP → Zn1, V_add → Zh2
set_option maxRecDepth 100000 in
theorem within_c (n m : Int) (hm : m ≠ 0) (hb : 0 < m ∧ m ≤ 1000000) : VPure Try.prog 10 [.int n, .int m] (.int (withinF n m)) := by
 have h1 := Int.lt_tmod_of_pos n hb.1
 refine V_start (nt := 14) Try.func10 rfl rfl rfl ?_
 refine Zb (Zd (Zc (Zk rfl (Za (Zi (Zb (Zb (Zd (Zc (Zl rfl (Zc (Zl rfl ?_))))))))))))
 refine Zc (V_rem rfl rfl hm ?_)
 refine Zc (Zk rfl (Za (Zi (Zb (Zd (Zc (Zl rfl (Zc (Zj1 rfl rfl rfl (Za (Zi ?_)))))))))))
 refine Zn1 rfl (fun h9 => ?_) (fun h9 => ?_)
 ·
  have hw : withinF n m = n.tmod m + m := by rw [withinF, if_pos h9]
  refine Zd (Zc (Zl rfl (Zc (Zl rfl ?_))))
  refine Zc (Zh2 rfl rfl (by omega) ?_)
  refine Zc (Zk rfl (Za (Zi (Zb (Zd (Zc (Zl rfl (Zc (Zk rfl (Za (Zi (Zf1 ?_))))))))))))
  refine Zg1 rfl (.tmp rfl) ?_
  rw [hw]
 ·
  have hw : withinF n m = n.tmod m := by rw [withinF, if_neg h9]
  refine Zi1 (Zi (Zb (Zd (Zc (Zl rfl (Zc (Zk rfl (Za (Zi (Zf1 ?_))))))))))
  refine Zg1 rfl (.tmp rfl) ?_
  rw [hw]
end Go.Proofs.Ytmmmgamhffbkbaa.XW
