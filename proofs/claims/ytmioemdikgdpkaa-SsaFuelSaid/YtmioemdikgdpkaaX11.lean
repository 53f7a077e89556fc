/- Walks, printed by walk.py. -/
import Derived.Test.YtmioemdikgdpkaaVT
import Derived.Test.YtmioemdikgdpkaaS2
import Derived.Test.YtmioemdikgdpkaaS8
import Derived.Test.YtmioemdikgdpkaaX1
import Derived.Test.YtmioemdikgdpkaaX2
import Derived.Test.YtmioemdikgdpkaaX3
import Derived.Test.YtmioemdikgdpkaaX4
import Derived.Test.YtmioemdikgdpkaaX5
import Derived.Test.YtmioemdikgdpkaaX6
import Derived.Test.YtmioemdikgdpkaaX7
import Derived.Test.YtmioemdikgdpkaaX8
import Derived.Test.YtmioemdikgdpkaaX9
import Derived.Test.YtmioemdikgdpkaaX10
set_option linter.unusedVariables false
set_option linter.unusedSimpArgs false
namespace Go.Proofs.Ytmioemdikgdpkaa.X11
open Go.VL Go.SM Go.Proofs.Ytmioemdikgdpkaa Go.Proofs.Ytmioemdikgdpkaa.X1 Go.Proofs.Ytmioemdikgdpkaa.X2 Go.Proofs.Ytmioemdikgdpkaa.X3 Go.Proofs.Ytmioemdikgdpkaa.X4 Go.Proofs.Ytmioemdikgdpkaa.X5 Go.Proofs.Ytmioemdikgdpkaa.X6 Go.Proofs.Ytmioemdikgdpkaa.X7 Go.Proofs.Ytmioemdikgdpkaa.X8 Go.Proofs.Ytmioemdikgdpkaa.X9 Go.Proofs.Ytmioemdikgdpkaa.X10

theorem bF {p : Bool} (h : (!p) = true) (hp : p = true) : False := by subst hp; cases h

set_option maxRecDepth 100000 in
set_option maxHeartbeats 2000000 in
theorem ssaEnds_c (u : SUnit) : VPure Try.prog 7 [unitV u] (.bool true) := by
 obtain ⟨hl1, hl2⟩ := ends_law u 3000
 refine V_start (nt := 51) Try.func7 rfl rfl rfl ?_
 refine VW_seq ?_
 refine VW_region ?_
 refine VOps_cons rfl rfl (V_box rfl rfl (fun g1 => ?_))
 refine VOps_cons rfl rfl (V_assign rfl ?_)
 refine VOps_nil ?_
 refine Then_n ?_
 refine VW_seq ?_
 refine VW_seq ?_
 refine VW_region ?_
 refine VOps_cons rfl rfl (V_callP [] rfl rfl VT.en18 (works_c) ?_)
 refine VOps_cons rfl rfl (V_not rfl ?_)
 refine VOps_nil ?_
 refine Then_n ?_
 refine VW_condN rfl (fun h7 => ?_) (fun h7 => ?_)
 · exact absurd h7 (by decide)
 ·
  refine VW_skip ?_
  refine Then_n ?_
  refine VW_seq ?_
  refine VW_region ?_
  refine VOps_cons rfl rfl (V_load_agg 0 VT.ty40 rfl rfl rfl ?_)
  refine VOps_cons rfl rfl (V_callP [.tmp 9, .const (.int .i64 (3000))] rfl rfl VT.en19 (Run_c u 3000) ?_)
  refine VOps_cons rfl rfl (V_move rfl ?_)
  refine VOps_cons rfl rfl (V_extract rfl rfl ?_)
  refine VOps_cons rfl rfl (V_extract rfl rfl ?_)
  refine VOps_cons rfl rfl (V_extract rfl rfl ?_)
  refine VOps_cons rfl rfl (V_alloc VT.zr42 _ rfl rfl (fun g3 => ?_))
  refine VOps_cons rfl rfl (V_store_agg 0 VT.ty42 rfl rfl rfl rfl rfl ?_)
  refine VOps_cons rfl rfl (V_assign rfl ?_)
  refine VOps_cons rfl rfl (V_assign rfl ?_)
  refine VOps_nil ?_
  refine Then_n ?_
  refine VW_seq ?_
  refine VW_seq ?_
  refine VW_region ?_
  refine VOps_cons rfl rfl (V_move rfl ?_)
  refine VOps_cons rfl rfl (V_bin rfl rfl rfl ?_)
  refine VOps_nil ?_
  refine Then_n ?_
  refine VW_condNe rfl (fun h15 => ?_) (fun h15 => ?_)
  ·
   obtain ⟨hx1, hx2⟩ := hl1 h15
   refine VW_seq ?_
   refine VW_region ?_
   refine VOps_cons rfl rfl (V_move rfl ?_)
   refine VOps_cons rfl rfl (V_bin rfl rfl rfl ?_)
   refine VOps_cons rfl rfl (V_move rfl ?_)
   refine VOps_split (q := 18) rfl (fun hq18 => ?_) (fun hq18 => ?_)
   ·
    refine VOps_cons (want_of rfl rfl rfl hq18) rfl (V_load_agg 0 VT.ty42 rfl rfl rfl ?_)
    refine VOps_cons (want_of rfl rfl rfl hq18) rfl (VOp_as (V_build [] [] VT.st42 rfl rfl rfl rfl ⟨rfl, rfl⟩) (le_res0) ?_)
    refine VOps_cons (want_of rfl rfl rfl hq18) rfl (V_callP [.tmp 19, .tmp 20] rfl rfl VT.en20 (SameResult_c (runF u 3000).1 ⟨[], 0, 0⟩) ?_)
    refine VOps_cons rfl rfl (V_pickT rfl hq18 rfl ?_)
    refine VOps_cons rfl rfl (V_assign rfl ?_)
    refine VOps_nil ?_
    refine Then_n ?_
    refine VW_ret ?_
    refine Then_r (VRet_one rfl (.tmp rfl) ?_)
    exact congrArg V.bool (sameOut_iff.2 hx2)
   · exact absurd (beqF hq18) (fun h => h hx1)
  ·
   obtain ⟨hy1, hy2, hy3, hy4, hy5⟩ := hl2 h15
   refine VW_skip ?_
   refine Then_n ?_
   refine VW_seq ?_
   refine VW_region ?_
   refine VOps_cons rfl rfl (V_fieldAddr VT.fa42_0 rfl ?_)
   refine VOps_cons rfl rfl (V_load 0 VT.ty23 rfl rfl rfl ?_)
   refine VOps_cons rfl rfl (V_lenN (n := (runF u 3000).1.out.length) Try.underlying23 rfl (by simp) (fun hl25 => ?_))
   refine VOps_cons rfl rfl (V_bin rfl rfl rfl ?_)
   refine VOps_cons rfl rfl (V_move rfl ?_)
   refine VOps_split (q := 27) rfl (fun hq27 => ?_) (fun hq27 => ?_)
   ·
    refine VOps_cons (want_of rfl rfl rfl hq27) rfl (V_fieldAddr VT.fa42_1 rfl ?_)
    refine VOps_cons (want_of rfl rfl rfl hq27) rfl (V_load 0 VT.ty3 rfl rfl rfl ?_)
    refine VOps_cons (want_of rfl rfl rfl hq27) rfl (V_bin rfl rfl rfl ?_)
    refine VOps_cons rfl rfl (V_pickT rfl hq27 rfl ?_)
    refine VOps_cons rfl rfl (V_move rfl ?_)
    refine VOps_split (q := 32) rfl (fun hq32 => ?_) (fun hq32 => ?_)
    ·
     refine VOps_cons (want_of rfl rfl rfl hq32) rfl (V_fieldAddr VT.fa42_1 rfl ?_)
     refine VOps_cons (want_of rfl rfl rfl hq32) rfl (V_load 0 VT.ty3 rfl rfl rfl ?_)
     refine VOps_cons (want_of rfl rfl rfl hq32) rfl (V_bin rfl rfl rfl ?_)
     refine VOps_cons rfl rfl (V_pickT rfl hq32 rfl ?_)
     refine VOps_cons rfl rfl (V_move rfl ?_)
     refine VOps_split (q := 37) rfl (fun hq37 => ?_) (fun hq37 => ?_)
     ·
      refine VOps_cons (want_of rfl rfl rfl hq37) rfl (V_fieldAddr VT.fa42_1 rfl ?_)
      refine VOps_cons (want_of rfl rfl rfl hq37) rfl (V_load 0 VT.ty3 rfl rfl rfl ?_)
      refine VOps_cons (want_of rfl rfl rfl hq37) rfl (V_bin rfl rfl rfl ?_)
      refine VOps_cons (want_of rfl rfl rfl hq37) rfl (V_move rfl ?_)
      refine VOps_split (q := 41) rfl (fun hq41 => ?_) (fun hq41 => ?_)
      ·
       refine VOps_skipU (.inl (skip_of rfl rfl rfl hq41)) rfl ?_
       refine VOps_skipU (.inl (skip_of rfl rfl rfl hq41)) rfl ?_
       refine VOps_skipU (.inl (skip_of rfl rfl rfl hq41)) rfl ?_
       refine VOps_cons (want_of rfl rfl rfl hq37) rfl (V_pickT rfl hq41 rfl ?_)
       refine VOps_cons rfl rfl (V_pickT rfl hq37 rfl ?_)
       refine VOps_cons rfl rfl (V_move rfl ?_)
       refine VOps_cons (want_of rfl rfl rfl rfl) rfl (V_move rfl ?_)
       refine VOps_cons (want_of rfl rfl rfl rfl) rfl (V_bin rfl rfl rfl ?_)
       refine VOps_cons rfl rfl (V_pickT rfl rfl rfl ?_)
       refine VOps_cons rfl rfl (V_assign rfl ?_)
       refine VOps_nil ?_
       refine Then_n ?_
       refine VW_ret ?_
       refine VRet_one rfl (.tmp rfl) ?_
       refine congrArg V.bool ?_
       simp; omega
      ·
       refine VOps_cons (want_of rfl rfl rfl hq41) rfl (V_fieldAddr VT.fa42_2 rfl ?_)
       refine VOps_cons (want_of rfl rfl rfl hq41) rfl (V_load 0 VT.ty3 rfl rfl rfl ?_)
       refine VOps_cons (want_of rfl rfl rfl hq41) rfl (V_bin rfl rfl rfl ?_)
       refine VOps_cons (want_of rfl rfl rfl hq37) rfl (V_pickF rfl hq41 rfl ?_)
       refine VOps_cons rfl rfl (V_pickT rfl hq37 rfl ?_)
       refine VOps_cons rfl rfl (V_move rfl ?_)
       refine VOps_split (q := 47) rfl (fun hq47 => ?_) (fun hq47 => ?_)
       ·
        refine VOps_cons (want_of rfl rfl rfl hq47) rfl (V_move rfl ?_)
        refine VOps_cons (want_of rfl rfl rfl hq47) rfl (V_bin rfl rfl rfl ?_)
        refine VOps_cons rfl rfl (V_pickT rfl hq47 rfl ?_)
        refine VOps_cons rfl rfl (V_assign rfl ?_)
        refine VOps_nil ?_
        refine Then_n ?_
        refine VW_ret ?_
        refine VRet_one rfl (.tmp rfl) ?_
        refine congrArg V.bool ?_
        simp; omega
       · exact absurd (hy4.resolve_left (beqF hq41)) (beqF hq47)
     · exact absurd (by omega : (runF u 3000).1.fin ≤ 6) (decF hq37)
    · exact absurd (by omega : (runF u 3000).1.fin ≥ 0) (decF hq32)
   · exact absurd (by omega : ((runF u 3000).1.out.length : Int) ≤ 1000) (decF hq27)


set_option maxRecDepth 100000 in
set_option maxHeartbeats 2000000 in
theorem ssaFuel_c (u : SUnit) : VPure Try.prog 4 [unitV u] (.bool true) := by
 obtain ⟨hl1, hl2⟩ := ends_law u 2000
 refine V_start (nt := 56) Try.func4 rfl rfl rfl ?_
 refine VW_seq ?_
 refine VW_region ?_
 refine VOps_cons rfl rfl (V_box rfl rfl (fun g1 => ?_))
 refine VOps_cons rfl rfl (V_assign rfl ?_)
 refine VOps_nil ?_
 refine Then_n ?_
 refine VW_seq ?_
 refine VW_seq ?_
 refine VW_region ?_
 refine VOps_cons rfl rfl (V_callP [] rfl rfl VT.en18 (works_c) ?_)
 refine VOps_cons rfl rfl (V_not rfl ?_)
 refine VOps_nil ?_
 refine Then_n ?_
 refine VW_condN rfl (fun h13 => ?_) (fun h13 => ?_)
 · exact absurd h13 (by decide)
 ·
  refine VW_skip ?_
  refine Then_n ?_
  refine VW_seq ?_
  refine VW_region ?_
  refine VOps_cons rfl rfl (V_load_agg 0 VT.ty40 rfl rfl rfl ?_)
  refine VOps_cons rfl rfl (V_callP [.tmp 15, .const (.int .i64 (2000))] rfl rfl VT.en19 (Run_c u 2000) ?_)
  refine VOps_cons rfl rfl (V_move rfl ?_)
  refine VOps_cons rfl rfl (V_extract rfl rfl ?_)
  refine VOps_cons rfl rfl (V_extract rfl rfl ?_)
  refine VOps_cons rfl rfl (V_extract rfl rfl ?_)
  refine VOps_cons rfl rfl (V_alloc VT.zr42 _ rfl rfl (fun g3 => ?_))
  refine VOps_cons rfl rfl (V_store_agg 0 VT.ty42 rfl rfl rfl rfl rfl ?_)
  refine VOps_cons rfl rfl (V_assign rfl ?_)
  refine VOps_cons rfl rfl (V_assign rfl ?_)
  refine VOps_nil ?_
  refine Then_n ?_
  refine VW_seq ?_
  refine VW_seq ?_
  refine VW_region ?_
  refine VOps_cons rfl rfl (V_move rfl ?_)
  refine VOps_cons rfl rfl (V_bin rfl rfl rfl ?_)
  refine VOps_nil ?_
  refine Then_n ?_
  refine VW_condNe rfl (fun h21 => ?_) (fun h21 => ?_)
  ·
   obtain ⟨hx1, hx2⟩ := hl1 h21
   refine VW_seq ?_
   refine VW_region ?_
   refine VOps_cons rfl rfl (V_move rfl ?_)
   refine VOps_cons rfl rfl (V_bin rfl rfl rfl ?_)
   refine VOps_cons rfl rfl (V_assign rfl ?_)
   refine VOps_nil ?_
   refine Then_n ?_
   refine VW_ret ?_
   refine Then_r (VRet_one rfl (.tmp rfl) ?_)
   exact congrArg V.bool (by simpa using hx1)
  ·
   obtain ⟨hf0, hf1, hf2⟩ := fuel_law u h21
   have hn1 := (hl2 h21).2.2.2.2
   refine VW_skip ?_
   refine Then_n ?_
   refine VW_seq ?_
   refine VW_region ?_
   refine VOps_cons rfl rfl (V_load_agg 1 VT.ty40 rfl rfl rfl ?_)
   refine VOps_cons rfl rfl (V_move rfl ?_)
   refine VOps_cons rfl rfl (VOp_as (V_callP [.tmp 25, .tmp 26] rfl rfl VT.en19 (Run_c u (runF u 2000).2.1) ⟨rfl, rfl⟩) ((V.le.of_eq (by rw [hf1]) : V.le _ (.tup [resultV (runF u 2000).1, .int (runF u 2000).2.1, .int 0]))) ?_)
   refine VOps_cons rfl rfl (V_move rfl ?_)
   refine VOps_cons rfl rfl (V_extract rfl rfl ?_)
   refine VOps_cons rfl rfl (V_extract rfl rfl ?_)
   refine VOps_cons rfl rfl (V_extract rfl rfl ?_)
   refine VOps_cons rfl rfl (V_alloc VT.zr42 _ rfl rfl (fun g6 => ?_))
   refine VOps_cons rfl rfl (V_store_agg 0 VT.ty42 rfl rfl rfl rfl rfl ?_)
   refine VOps_cons rfl rfl (V_assign rfl ?_)
   refine VOps_cons rfl rfl (V_assign rfl ?_)
   refine VOps_nil ?_
   refine Then_n ?_
   refine VW_seq ?_
   refine VW_seq ?_
   refine VW_region ?_
   refine VOps_cons rfl rfl (V_move rfl ?_)
   refine VOps_cons rfl rfl (V_bin rfl rfl rfl ?_)
   refine VOps_cons rfl rfl (V_move rfl ?_)
   refine VOps_split (q := 33) rfl (fun hq33 => ?_) (fun hq33 => ?_)
   · exact absurd hq33 (by decide)
   ·
    refine VOps_cons (want_of rfl rfl rfl hq33) rfl (V_move rfl ?_)
    refine VOps_cons (want_of rfl rfl rfl hq33) rfl (V_move rfl ?_)
    refine VOps_cons (want_of rfl rfl rfl hq33) rfl (V_bin rfl rfl rfl ?_)
    refine VOps_cons rfl rfl (V_pickF rfl hq33 rfl ?_)
    refine VOps_cons rfl rfl (V_move rfl ?_)
    refine VOps_split (q := 38) rfl (fun hq38 => ?_) (fun hq38 => ?_)
    · exact absurd hq38 (by simp)
    ·
     refine VOps_cons (want_of rfl rfl rfl hq38) rfl (V_load_agg 1 VT.ty42 rfl rfl rfl ?_)
     refine VOps_cons (want_of rfl rfl rfl hq38) rfl (V_load_agg 0 VT.ty42 rfl rfl rfl ?_)
     refine VOps_cons (want_of rfl rfl rfl hq38) rfl (V_callP [.tmp 39, .tmp 40] rfl rfl VT.en20 (SameResult_c (runF u 2000).1 (runF u 2000).1) ?_)
     refine VOps_cons (want_of rfl rfl rfl hq38) rfl (V_not rfl ?_)
     refine VOps_cons rfl rfl (V_pickF rfl hq38 rfl ?_)
     refine VOps_nil ?_
     refine Then_n ?_
     refine VW_condN rfl (fun h43 => ?_) (fun h43 => ?_)
     · exact absurd (sameOut_iff.2 rfl) (by rw [h43]; decide)
     ·
      refine VW_skip ?_
      refine Then_n ?_
      refine VW_seq ?_
      refine VW_seq ?_
      refine VW_region ?_
      refine VOps_cons rfl rfl (V_move rfl ?_)
      refine VOps_cons rfl rfl (V_bin rfl rfl rfl ?_)
      refine VOps_nil ?_
      refine Then_n ?_
      refine VW_condEq rfl (fun h45 => ?_) (fun h45 => ?_)
      ·
       refine VW_seq ?_
       refine VW_region ?_
       refine VOps_cons rfl rfl (V_assign rfl ?_)
       refine VOps_nil ?_
       refine Then_n ?_
       refine VW_ret ?_
       refine Then_r (VRet_one rfl (.tmp rfl) ?_)
       rfl
      ·
       refine VW_skip ?_
       refine Then_n ?_
       refine VW_seq ?_
       refine VW_region ?_
       refine VOps_cons rfl rfl (V_load_agg 2 VT.ty40 rfl rfl rfl ?_)
       refine VOps_cons rfl rfl (V_move rfl ?_)
       refine VOps_cons rfl rfl (V_sub rfl rfl (by omega) ?_)
       refine VOps_cons rfl rfl (VOp_as (V_callP [.tmp 47, .tmp 49] rfl rfl VT.en19 (Run_c u ((runF u 2000).2.1 - 1)) ⟨rfl, rfl⟩) ((V.le.of_eq (by rw [hf2 h45]) : V.le _ (.tup [resultV (runF u ((runF u 2000).2.1 - 1)).1, .int (runF u ((runF u 2000).2.1 - 1)).2.1, .int 13]))) ?_)
       refine VOps_cons rfl rfl (V_move rfl ?_)
       refine VOps_cons rfl rfl (V_extract rfl rfl ?_)
       refine VOps_cons rfl rfl (V_extract rfl rfl ?_)
       refine VOps_cons rfl rfl (V_extract rfl rfl ?_)
       refine VOps_cons rfl rfl (V_alloc VT.zr42 _ rfl rfl (fun g9 => ?_))
       refine VOps_cons rfl rfl (V_store_agg 0 VT.ty42 rfl rfl rfl rfl rfl ?_)
       refine VOps_cons rfl rfl (V_assign rfl ?_)
       refine VOps_cons rfl rfl (V_assign rfl ?_)
       refine VOps_nil ?_
       refine Then_n ?_
       refine VW_seq ?_
       refine VW_region ?_
       refine VOps_cons rfl rfl (V_move rfl ?_)
       refine VOps_cons rfl rfl (V_bin rfl rfl rfl ?_)
       refine VOps_cons rfl rfl (V_assign rfl ?_)
       refine VOps_nil ?_
       refine Then_n ?_
       refine VW_ret ?_
       refine VRet_one rfl (.tmp rfl) ?_
       rfl


end Go.Proofs.Ytmioemdikgdpkaa.X11
