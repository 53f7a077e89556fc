/- Walks, printed by walk.py. -/
import Derived.Test.YtmjeaagpcmfnpaaVT
import Derived.Test.YtmjeaagpcmfnpaaVDA
import Derived.Test.YtmjeaagpcmfnpaaVB
import Derived.Test.YtmjeaagpcmfnpaaVPA
import Derived.Test.YtmjeaagpcmfnpaaW1
import Derived.Test.YtmjeaagpcmfnpaaW2
import Derived.Test.YtmjeaagpcmfnpaaW3
import Derived.Test.YtmjeaagpcmfnpaaW4
import Derived.Test.YtmjeaagpcmfnpaaW5
import Derived.Test.YtmjeaagpcmfnpaaW6
import Derived.Test.YtmjeaagpcmfnpaaW8
import Derived.Test.YtmjeaagpcmfnpaaW9
set_option linter.unusedVariables false
set_option linter.unusedSimpArgs false
namespace Go.Proofs.Ytmjeaagpcmfnpaa.W10
open Go.VL Go.PM Go.Proofs.Ytmjeaagpcmfnpaa Go.Proofs.Ytmjeaagpcmfnpaa.W1 Go.Proofs.Ytmjeaagpcmfnpaa.W2 Go.Proofs.Ytmjeaagpcmfnpaa.W3 Go.Proofs.Ytmjeaagpcmfnpaa.W4 Go.Proofs.Ytmjeaagpcmfnpaa.W5 Go.Proofs.Ytmjeaagpcmfnpaa.W6 Go.Proofs.Ytmjeaagpcmfnpaa.W8 Go.Proofs.Ytmjeaagpcmfnpaa.W9

def zT : V := .agg VT.zs152
theorem con_le (s : Str) (t : Tok) (l : List V) : V.le (.agg [.str s, .sl 4 (some t) l]) (.agg [.str s, .sl 4 none l]) := V.le.agg ⟨V.le.refl _, rfl, V.le.strip, rfl, trivial⟩
theorem con_le0 (s : Str) : V.le (.agg [.str s, V.nilSl]) (.agg [.str s, .sl 4 none []]) := V.le.agg ⟨V.le.refl _, rfl, V.le.nil 4, rfl, trivial⟩
theorem one_row (p : Pat) : V.sl 1 none [.sl 4 none [patX p]] = rowsX [[p]] := by simp [rowsX, patsX, patV_eq]

set_option maxRecDepth 100000 in
theorem Check_c (ds : List DataSig) (rows : List (List Pat)) : VPure Try.prog 24 [datasX ds, rowsX rows] (.int (checkF ds rows)) := by
  refine V_start (nt := 14) Try.func24 rfl rfl rfl ?_
  refine VW_seq ?_
  refine VW_region ?_
  refine VOps_cons rfl rfl (V_assign rfl ?_)
  refine VOps_nil ?_
  refine Then_n ?_
  refine VW_seq ?_
  refine VW_region ?_
  refine VOps_cons rfl rfl (V_move rfl ?_)
  refine VOps_cons rfl rfl (V_move rfl ?_)
  rcases Decidable.em (checkF ds rows = 0) with he | he
  · skip
    refine VOps_cons rfl rfl (V_call [.tmp 8, .tmp 9] [] _ rfl rfl VT.en27 (.refl _) (check_ok he) ?_)
    rintro r Sa ⟨g, t, hb, rfl, rfl⟩
    refine VOps_cons rfl rfl (V_move rfl ?_)
    refine VOps_cons rfl rfl (V_extract rfl rfl ?_)
    refine VOps_cons rfl rfl (V_extract rfl rfl ?_)
    refine VOps_cons rfl rfl (V_alloc VT.zr65 _ rfl rfl (fun g5 => ?_))
    refine VOps_cons rfl rfl (V_store_agg 0 VT.ty65 rfl rfl rfl rfl rfl ?_)
    refine VOps_cons rfl rfl (V_assign rfl ?_)
    refine VOps_nil ?_
    refine Then_n ?_
    refine VW_seq ?_
    refine VW_region ?_
    refine VOps_cons rfl rfl (V_move rfl ?_)
    refine VOps_cons rfl rfl (V_assign rfl ?_)
    refine VOps_nil ?_
    refine Then_n ?_
    refine VW_ret ?_
    refine VRet_one rfl (.tmp rfl) ?_
    rw [he]
  · skip
    refine VOps_cons rfl rfl (V_callP [.tmp 8, .tmp 9] rfl rfl VT.en27 (check_bad he) ?_)
    refine VOps_cons rfl rfl (V_move rfl ?_)
    refine VOps_cons rfl rfl (V_extract rfl rfl ?_)
    refine VOps_cons rfl rfl (V_extract rfl rfl ?_)
    refine VOps_cons rfl rfl (V_alloc VT.zr65 _ rfl rfl (fun g5 => ?_))
    refine VOps_cons rfl rfl (V_store_agg 0 VT.ty65 rfl rfl rfl rfl rfl ?_)
    refine VOps_cons rfl rfl (V_assign rfl ?_)
    refine VOps_nil ?_
    refine Then_n ?_
    refine VW_seq ?_
    refine VW_region ?_
    refine VOps_cons rfl rfl (V_move rfl ?_)
    refine VOps_cons rfl rfl (V_assign rfl ?_)
    refine VOps_nil ?_
    refine Then_n ?_
    refine VW_ret ?_
    refine VRet_one rfl (.tmp rfl) ?_
    rfl


set_option maxRecDepth 100000 in
set_option maxHeartbeats 1000000 in
theorem work_c : VPure Try.prog 11 [] (.bool true) := by
  refine V_start (nt := 50) Try.func11 rfl rfl rfl ?_
  refine VW_seq ?_
  refine VW_region ?_
  refine VOps_cons rfl rfl (V_assign rfl ?_)
  refine VOps_nil ?_
  refine Then_n ?_
  refine VW_seq ?_
  refine VW_region ?_
  refine VOps_cons rfl rfl (VOp_as (V_build [0] [.const _] VT.st59 rfl rfl rfl rfl ⟨rfl, rfl⟩) (con_le0 sNil) ?_)
  refine VOps_cons rfl rfl (V_make (.agg VT.zs152) (fun m => ⟨rfl, _, rfl, by simp [Go.VL.RepL, VT.zs152, Rep]⟩) rfl VT.sl57 rfl rfl (by omega) (by omega) (fun t6 => ?_))
  refine VOps_cons rfl rfl (VOp_as (V_build [0, 1] [.const _, .tmp 6] VT.st59 rfl rfl rfl rfl ⟨rfl, rfl⟩) (con_le sCons t6 [zT, zT]) ?_)
  refine VOps_cons rfl rfl (V_lit [.tmp 5, .tmp 7] VT.sl60 rfl rfl rfl rfl rfl ?_)
  refine VOps_cons rfl rfl (V_build [0, 2] [.const _, .tmp 8] VT.st62 rfl rfl rfl rfl ?_)
  refine VOps_cons rfl rfl (V_lit [.tmp 9] VT.sl22 rfl rfl rfl rfl rfl ?_)
  refine VOps_cons rfl rfl (V_assign rfl ?_)
  refine VOps_nil ?_
  refine Then_n ?_
  refine VW_seq ?_
  refine VW_region ?_
  refine VOps_cons rfl rfl (VOp_as (V_build [0, 1] [.const (.int .i64 (3)), .const _] VT.st30 rfl rfl rfl rfl ⟨rfl, rfl⟩) (pat_le 3 0 sNil) ?_)
  refine VOps_cons rfl rfl (V_lit [.tmp 11] VT.sl25 rfl rfl rfl rfl rfl ?_)
  refine VOps_cons rfl rfl (VOp_as (V_lit [.tmp 12] VT.sl23 rfl rfl rfl rfl rfl ⟨rfl, rfl⟩) (V.le.of_eq (one_row nilP)) ?_)
  refine VOps_cons rfl rfl (V_assign rfl ?_)
  refine VOps_nil ?_
  refine Then_n ?_
  refine VW_seq ?_
  refine VW_region ?_
  refine VOps_cons rfl rfl (V_move rfl ?_)
  refine VOps_cons rfl rfl (V_move rfl ?_)
  refine VOps_cons rfl rfl (V_callP [.tmp 15, .tmp 16, .const (.int .i64 (1))] rfl rfl VT.en12 ((by have h := Missing_c (workDs zT) (checkTy (work_sized zT)) [[nilP]] 1; rw [work_out] at h; exact h : VPure Try.prog 12 [datasX (workDs zT), rowsX [[nilP]], .int 1] (outV ([.mk 3 sCons 0 [anyP, anyP]], 0)))) ?_)
  refine VOps_cons rfl rfl (V_move rfl ?_)
  refine VOps_cons rfl rfl (V_extract rfl rfl ?_)
  refine VOps_cons rfl rfl (V_extract rfl rfl ?_)
  refine VOps_cons rfl rfl (V_assign rfl ?_)
  refine VOps_cons rfl rfl (V_assign rfl ?_)
  refine VOps_nil ?_
  refine Then_n ?_
  refine VW_seq ?_
  refine VW_region ?_
  refine VOps_cons rfl rfl (V_move rfl ?_)
  refine VOps_cons rfl rfl (V_bin rfl rfl rfl ?_)
  refine VOps_cons rfl rfl (V_move rfl ?_)
  refine VOps_split (q := 22) rfl (fun hq22 => ?_) (fun hq22 => ?_)
  · skip
    refine VOps_cons (want_of rfl rfl rfl hq22) rfl (V_move rfl ?_)
    refine VOps_cons (want_of rfl rfl rfl hq22) rfl (V_len Try.underlying25 rfl (fun hl24 => ?_))
    refine VOps_cons (want_of rfl rfl rfl hq22) rfl (V_bin rfl rfl rfl ?_)
    refine VOps_cons rfl rfl (V_pickT rfl hq22 rfl ?_)
    refine VOps_cons rfl rfl (V_move rfl ?_)
    refine VOps_split (q := 27) rfl (fun hq27 => ?_) (fun hq27 => ?_)
    · skip
      refine VOps_cons (want_of rfl rfl rfl hq27) rfl (V_move rfl ?_)
      refine VOps_cons (want_of rfl rfl rfl hq27) rfl (V_indexAddr (el := patX (.mk 3 sCons 0 [anyP, anyP])) VT.sl25 rfl rfl (by omega) (get_patS rfl) (fun a29 => ?_))
      refine VOps_cons (want_of rfl rfl rfl hq27) rfl (V_fieldAddr_ep VT.fa30_1 rfl rfl ?_)
      refine VOps_cons (want_of rfl rfl rfl hq27) rfl (V_load_ep VT.ty9 rfl rfl ?_)
      refine VOps_cons (want_of rfl rfl rfl hq27) rfl (V_streq rfl rfl ?_)
      refine VOps_cons rfl rfl (V_pickT rfl hq27 rfl ?_)
      refine VOps_cons rfl rfl (V_move rfl ?_)
      refine VOps_split (q := 34) rfl (fun hq34 => ?_) (fun hq34 => ?_)
      · skip
        refine VOps_cons (want_of rfl rfl rfl hq34) rfl (V_move rfl ?_)
        refine VOps_cons (want_of rfl rfl rfl hq34) rfl (V_indexAddr (el := patX (.mk 3 sCons 0 [anyP, anyP])) VT.sl25 rfl rfl (by omega) (get_patS rfl) (fun a36 => ?_))
        refine VOps_cons (want_of rfl rfl rfl hq34) rfl (V_fieldAddr_ep VT.fa30_3 rfl rfl ?_)
        refine VOps_cons (want_of rfl rfl rfl hq34) rfl (V_load_ep VT.ty25 rfl rfl ?_)
        refine VOps_cons (want_of rfl rfl rfl hq34) rfl (V_len Try.underlying25 rfl (fun hl39 => ?_))
        refine VOps_cons (want_of rfl rfl rfl hq34) rfl (V_bin rfl rfl rfl ?_)
        refine VOps_cons rfl rfl (V_pickT rfl hq34 rfl ?_)
        refine VOps_cons rfl rfl (V_move rfl ?_)
        refine VOps_split (q := 42) rfl (fun hq42 => ?_) (fun hq42 => ?_)
        · skip
          refine VOps_cons (want_of rfl rfl rfl hq42) rfl (V_move rfl ?_)
          refine VOps_cons (want_of rfl rfl rfl hq42) rfl (VOp_as (V_build [0] [.const (.int .i64 (9))] VT.st30 rfl rfl rfl rfl ⟨rfl, rfl⟩) (pat_le 9 0 []) ?_)
          refine VOps_cons (want_of rfl rfl rfl hq42) rfl (V_lit [.tmp 44] VT.sl25 rfl rfl rfl rfl rfl ?_)
          refine VOps_cons (want_of rfl rfl rfl hq42) rfl (VOp_as (V_lit [.tmp 45] VT.sl23 rfl rfl rfl rfl rfl ⟨rfl, rfl⟩) (V.le.of_eq (one_row nineP)) ?_)
          refine VOps_cons (want_of rfl rfl rfl hq42) rfl (V_callP [.tmp 43, .tmp 46] rfl rfl VT.en24 ((by have h := Check_c (workDs zT) [[nineP]]; rw [work_nine] at h; exact h : VPure Try.prog 24 [datasX (workDs zT), rowsX [[nineP]]] (.int 3))) ?_)
          refine VOps_cons (want_of rfl rfl rfl hq42) rfl (V_bin rfl rfl rfl ?_)
          refine VOps_cons rfl rfl (V_pickT rfl hq42 rfl ?_)
          refine VOps_cons rfl rfl (V_assign rfl ?_)
          refine VOps_nil ?_
          refine Then_n ?_
          refine VW_ret ?_
          refine VRet_one rfl (.tmp rfl) ?_
          rfl
        · exact absurd hq42 (by decide)
      · exact absurd hq34 (by decide)
    · exact absurd hq27 (by decide)
  · exact absurd hq22 (by decide)


end Go.Proofs.Ytmjeaagpcmfnpaa.W10
