/- Walks, printed by walk.py. -/
import Derived.Test.YtmjeaagpcmfnpaaVT
import Derived.Test.YtmjeaagpcmfnpaaVDA
import Derived.Test.YtmjeaagpcmfnpaaVB
import Derived.Test.YtmjeaagpcmfnpaaVN2
import Derived.Test.YtmjeaagpcmfnpaaW9
import Derived.Test.YtmjeaagpcmfnpaaW10
import Derived.Test.YtmjeaagpcmfnpaaW16
import Derived.Test.YtmjeaagpcmfnpaaW20
import Derived.Test.YtmjeaagpcmfnpaaW21
import Derived.Test.YtmjeaagpcmfnpaaW23
set_option linter.unusedVariables false
set_option linter.unusedSimpArgs false
namespace Go.Proofs.Ytmjeaagpcmfnpaa.W24
open Go.VL Go.PM Go.Proofs.Ytmjeaagpcmfnpaa Go.Proofs.Ytmjeaagpcmfnpaa.W9 Go.Proofs.Ytmjeaagpcmfnpaa.W10 Go.Proofs.Ytmjeaagpcmfnpaa.W16 Go.Proofs.Ytmjeaagpcmfnpaa.W20 Go.Proofs.Ytmjeaagpcmfnpaa.W21 Go.Proofs.Ytmjeaagpcmfnpaa.W23
set_option maxRecDepth 100000 in
theorem bare0_c (n : MNode) (hk : n.kind = 0) (h1 : n.row = 0) (h2 : n.path = []) (h3 : n.names = []) (h4 : n.words = []) (h5 : n.kids = []) : VPure Try.prog 62 [nodeX n] (.bool true) := by
 have e2 : n.path.length = 0 := by rw [h2]; rfl
 have e3 : n.names.length = 0 := by rw [h3]; rfl
 have e4 : n.words.length = 0 := by rw [h4]; rfl
 have e5 : n.kids.length = 0 := by rw [h5]; rfl
 refine V_start (nt := 100) Try.func62 rfl rfl rfl ?_
 refine VW_seq ?_
 refine VW_region ?_
 refine VOps_cons rfl rfl (V_box rfl rfl (fun g1 => ?_))
 refine VOps_cons rfl rfl (V_assign rfl ?_)
 refine VOps_nil ?_
 refine Then_n ?_
 refine VW_seq ?_
 refine VW_seq ?_
 refine VW_region ?_
 refine VOps_cons rfl rfl (V_fieldAddr VT.fa49_0 rfl ?_)
 refine VOps_cons rfl rfl (V_load 0 VT.ty3 rfl rfl rfl ?_)
 refine VOps_nil ?_
 refine Then_n ?_
 refine VW_block ?_
 refine VW_seq ?_
 refine VW_region ?_
 refine VOps_cons rfl rfl (V_bin rfl rfl rfl ?_)
 refine VOps_cons rfl rfl (V_assign rfl ?_)
 refine VOps_nil ?_
 refine Then_n ?_
 refine VW_condT rfl ((by rw [hk]; rfl)) ?_
 refine VW_seq ?_
 refine VW_region ?_
 refine VOps_cons rfl rfl (V_fieldAddr VT.fa49_1 rfl ?_)
 refine VOps_cons rfl rfl (V_load 0 VT.ty3 rfl rfl rfl ?_)
 refine VOps_cons rfl rfl (V_bin rfl rfl rfl ?_)
 refine VOps_cons rfl rfl (V_move rfl ?_)
 refine VOps_split (q := 10) rfl (fun hq10 => ?_) (fun hq10 => ?_)
 ·
  refine VOps_cons (want_of rfl rfl rfl hq10) rfl (V_fieldAddr VT.fa49_2 rfl ?_)
  refine VOps_cons (want_of rfl rfl rfl hq10) rfl (V_load 0 VT.ty32 rfl rfl rfl ?_)
  refine VOps_cons (want_of rfl rfl rfl hq10) rfl (V_lenN (n := n.path.length) Try.underlying32 rfl (by simp) (fun hl13 => ?_))
  refine VOps_cons (want_of rfl rfl rfl hq10) rfl (V_fieldAddr VT.fa49_3 rfl ?_)
  refine VOps_cons (want_of rfl rfl rfl hq10) rfl (V_load 0 VT.ty47 rfl rfl rfl ?_)
  refine VOps_cons (want_of rfl rfl rfl hq10) rfl (V_lenN (n := n.names.length) Try.underlying47 rfl (by simp) (fun hl16 => ?_))
  refine VOps_cons (want_of rfl rfl rfl hq10) rfl (V_add rfl rfl (by omega) ?_)
  refine VOps_cons (want_of rfl rfl rfl hq10) rfl (V_fieldAddr VT.fa49_4 rfl ?_)
  refine VOps_cons (want_of rfl rfl rfl hq10) rfl (V_load 0 VT.ty32 rfl rfl rfl ?_)
  refine VOps_cons (want_of rfl rfl rfl hq10) rfl (V_lenN (n := n.words.length) Try.underlying32 rfl (by simp) (fun hl20 => ?_))
  refine VOps_cons (want_of rfl rfl rfl hq10) rfl (V_add rfl rfl (by omega) ?_)
  refine VOps_cons (want_of rfl rfl rfl hq10) rfl (V_fieldAddr VT.fa49_5 rfl ?_)
  refine VOps_cons (want_of rfl rfl rfl hq10) rfl (V_load 0 VT.ty32 rfl rfl rfl ?_)
  refine VOps_cons (want_of rfl rfl rfl hq10) rfl (V_lenN (n := n.kids.length) Try.underlying32 rfl (by simp) (fun hl24 => ?_))
  refine VOps_cons (want_of rfl rfl rfl hq10) rfl (V_add rfl rfl (by omega) ?_)
  refine VOps_cons (want_of rfl rfl rfl hq10) rfl (V_bin rfl rfl rfl ?_)
  refine VOps_cons rfl rfl (V_pickT rfl hq10 rfl ?_)
  refine VOps_cons rfl rfl (V_assign rfl ?_)
  refine VOps_nil ?_
  refine Then_n ?_
  refine VW_ret ?_
  refine InBlock_r (Then_r (VRet_one rfl (.tmp rfl) ?_))
  exact congrArg V.bool (by rw [h2, h3, h4, h5]; rfl)
 · exact absurd hq10 (by rw [h1]; simp)


set_option maxRecDepth 100000 in
theorem bare1_c (n : MNode) (hk : n.kind = 1) (h2 : n.path = []) (h3 : n.names = []) (h4 : n.words = []) (h5 : n.kids = []) : VPure Try.prog 62 [nodeX n] (.bool true) := by
 have e2 : n.path.length = 0 := by rw [h2]; rfl
 have e3 : n.names.length = 0 := by rw [h3]; rfl
 have e4 : n.words.length = 0 := by rw [h4]; rfl
 have e5 : n.kids.length = 0 := by rw [h5]; rfl
 refine V_start (nt := 100) Try.func62 rfl rfl rfl ?_
 refine VW_seq ?_
 refine VW_region ?_
 refine VOps_cons rfl rfl (V_box rfl rfl (fun g1 => ?_))
 refine VOps_cons rfl rfl (V_assign rfl ?_)
 refine VOps_nil ?_
 refine Then_n ?_
 refine VW_seq ?_
 refine VW_seq ?_
 refine VW_region ?_
 refine VOps_cons rfl rfl (V_fieldAddr VT.fa49_0 rfl ?_)
 refine VOps_cons rfl rfl (V_load 0 VT.ty3 rfl rfl rfl ?_)
 refine VOps_nil ?_
 refine Then_n ?_
 refine VW_block ?_
 refine VW_seq ?_
 refine VW_region ?_
 refine VOps_cons rfl rfl (V_bin rfl rfl rfl ?_)
 refine VOps_cons rfl rfl (V_assign rfl ?_)
 refine VOps_nil ?_
 refine Then_n ?_
 refine VW_condF rfl ((by rw [hk]; rfl)) ?_
 refine VW_seq ?_
 refine VW_region ?_
 refine VOps_cons rfl rfl (V_bin rfl rfl rfl ?_)
 refine VOps_cons rfl rfl (V_assign rfl ?_)
 refine VOps_nil ?_
 refine Then_n ?_
 refine VW_condT rfl ((by rw [hk]; rfl)) ?_
 refine VW_seq ?_
 refine VW_region ?_
 refine VOps_cons rfl rfl (V_fieldAddr VT.fa49_2 rfl ?_)
 refine VOps_cons rfl rfl (V_load 0 VT.ty32 rfl rfl rfl ?_)
 refine VOps_cons rfl rfl (V_lenN (n := n.path.length) Try.underlying32 rfl (by simp) (fun hl32 => ?_))
 refine VOps_cons rfl rfl (V_fieldAddr VT.fa49_3 rfl ?_)
 refine VOps_cons rfl rfl (V_load 0 VT.ty47 rfl rfl rfl ?_)
 refine VOps_cons rfl rfl (V_lenN (n := n.names.length) Try.underlying47 rfl (by simp) (fun hl35 => ?_))
 refine VOps_cons rfl rfl (V_add rfl rfl (by omega) ?_)
 refine VOps_cons rfl rfl (V_fieldAddr VT.fa49_4 rfl ?_)
 refine VOps_cons rfl rfl (V_load 0 VT.ty32 rfl rfl rfl ?_)
 refine VOps_cons rfl rfl (V_lenN (n := n.words.length) Try.underlying32 rfl (by simp) (fun hl39 => ?_))
 refine VOps_cons rfl rfl (V_add rfl rfl (by omega) ?_)
 refine VOps_cons rfl rfl (V_fieldAddr VT.fa49_5 rfl ?_)
 refine VOps_cons rfl rfl (V_load 0 VT.ty32 rfl rfl rfl ?_)
 refine VOps_cons rfl rfl (V_lenN (n := n.kids.length) Try.underlying32 rfl (by simp) (fun hl43 => ?_))
 refine VOps_cons rfl rfl (V_add rfl rfl (by omega) ?_)
 refine VOps_cons rfl rfl (V_bin rfl rfl rfl ?_)
 refine VOps_cons rfl rfl (V_assign rfl ?_)
 refine VOps_nil ?_
 refine Then_n ?_
 refine VW_ret ?_
 refine InBlock_r (Then_r (VRet_one rfl (.tmp rfl) ?_))
 exact congrArg V.bool (by rw [h2, h3, h4, h5]; rfl)


set_option maxRecDepth 100000 in
theorem bare2_c (n : MNode) (hk : n.kind = 2) (h1 : n.row = 0) (h4 : n.words = []) (h2 : n.path ≠ []) (h5 : n.kids.length = n.names.length + 1) : VPure Try.prog 62 [nodeX n] (.bool true) := by
 have hpl := List.length_pos_iff.2 h2
 have hwl : n.words.length = 0 := by rw [h4]; rfl
 refine V_start (nt := 100) Try.func62 rfl rfl rfl ?_
 refine VW_seq ?_
 refine VW_region ?_
 refine VOps_cons rfl rfl (V_box rfl rfl (fun g1 => ?_))
 refine VOps_cons rfl rfl (V_assign rfl ?_)
 refine VOps_nil ?_
 refine Then_n ?_
 refine VW_seq ?_
 refine VW_seq ?_
 refine VW_region ?_
 refine VOps_cons rfl rfl (V_fieldAddr VT.fa49_0 rfl ?_)
 refine VOps_cons rfl rfl (V_load 0 VT.ty3 rfl rfl rfl ?_)
 refine VOps_nil ?_
 refine Then_n ?_
 refine VW_block ?_
 refine VW_seq ?_
 refine VW_region ?_
 refine VOps_cons rfl rfl (V_bin rfl rfl rfl ?_)
 refine VOps_cons rfl rfl (V_assign rfl ?_)
 refine VOps_nil ?_
 refine Then_n ?_
 refine VW_condF rfl ((by rw [hk]; rfl)) ?_
 refine VW_seq ?_
 refine VW_region ?_
 refine VOps_cons rfl rfl (V_bin rfl rfl rfl ?_)
 refine VOps_cons rfl rfl (V_assign rfl ?_)
 refine VOps_nil ?_
 refine Then_n ?_
 refine VW_condF rfl ((by rw [hk]; rfl)) ?_
 refine VW_seq ?_
 refine VW_region ?_
 refine VOps_cons rfl rfl (V_bin rfl rfl rfl ?_)
 refine VOps_cons rfl rfl (V_assign rfl ?_)
 refine VOps_nil ?_
 refine Then_n ?_
 refine VW_condT rfl ((by rw [hk]; rfl)) ?_
 refine VW_seq ?_
 refine VW_region ?_
 refine VOps_cons rfl rfl (V_fieldAddr VT.fa49_1 rfl ?_)
 refine VOps_cons rfl rfl (V_load 0 VT.ty3 rfl rfl rfl ?_)
 refine VOps_cons rfl rfl (V_bin rfl rfl rfl ?_)
 refine VOps_cons rfl rfl (V_move rfl ?_)
 refine VOps_split (q := 51) rfl (fun hq51 => ?_) (fun hq51 => ?_)
 ·
  refine VOps_cons (want_of rfl rfl rfl hq51) rfl (V_fieldAddr VT.fa49_4 rfl ?_)
  refine VOps_cons (want_of rfl rfl rfl hq51) rfl (V_load 0 VT.ty32 rfl rfl rfl ?_)
  refine VOps_cons (want_of rfl rfl rfl hq51) rfl (V_lenN (n := n.words.length) Try.underlying32 rfl (by simp) (fun hl54 => ?_))
  refine VOps_cons (want_of rfl rfl rfl hq51) rfl (V_bin rfl rfl rfl ?_)
  refine VOps_cons rfl rfl (V_pickT rfl hq51 rfl ?_)
  refine VOps_cons rfl rfl (V_move rfl ?_)
  refine VOps_split (q := 57) rfl (fun hq57 => ?_) (fun hq57 => ?_)
  ·
   refine VOps_cons (want_of rfl rfl rfl hq57) rfl (V_fieldAddr VT.fa49_2 rfl ?_)
   refine VOps_cons (want_of rfl rfl rfl hq57) rfl (V_load 0 VT.ty32 rfl rfl rfl ?_)
   refine VOps_cons (want_of rfl rfl rfl hq57) rfl (V_lenN (n := n.path.length) Try.underlying32 rfl (by simp) (fun hl60 => ?_))
   refine VOps_cons (want_of rfl rfl rfl hq57) rfl (V_bin rfl rfl rfl ?_)
   refine VOps_cons rfl rfl (V_pickT rfl hq57 rfl ?_)
   refine VOps_cons rfl rfl (V_move rfl ?_)
   refine VOps_split (q := 63) rfl (fun hq63 => ?_) (fun hq63 => ?_)
   ·
    refine VOps_cons (want_of rfl rfl rfl hq63) rfl (V_fieldAddr VT.fa49_5 rfl ?_)
    refine VOps_cons (want_of rfl rfl rfl hq63) rfl (V_load 0 VT.ty32 rfl rfl rfl ?_)
    refine VOps_cons (want_of rfl rfl rfl hq63) rfl (V_lenN (n := n.kids.length) Try.underlying32 rfl (by simp) (fun hl66 => ?_))
    refine VOps_cons (want_of rfl rfl rfl hq63) rfl (V_fieldAddr VT.fa49_3 rfl ?_)
    refine VOps_cons (want_of rfl rfl rfl hq63) rfl (V_load 0 VT.ty47 rfl rfl rfl ?_)
    refine VOps_cons (want_of rfl rfl rfl hq63) rfl (V_lenN (n := n.names.length) Try.underlying47 rfl (by simp) (fun hl69 => ?_))
    refine VOps_cons (want_of rfl rfl rfl hq63) rfl (V_add rfl rfl (by omega) ?_)
    refine VOps_cons (want_of rfl rfl rfl hq63) rfl (V_bin rfl rfl rfl ?_)
    refine VOps_cons rfl rfl (V_pickT rfl hq63 rfl ?_)
    refine VOps_cons rfl rfl (V_assign rfl ?_)
    refine VOps_nil ?_
    refine Then_n ?_
    refine VW_ret ?_
    refine InBlock_r (Then_r (VRet_one rfl (.tmp rfl) ?_))
    exact congrArg V.bool (by rw [h5]; simp)
   · exact absurd hq63 (by rw [decide_eq_true (by omega)]; simp)
  · exact absurd hq57 (by rw [hwl]; simp)
 · exact absurd hq51 (by rw [h1]; simp)


set_option maxRecDepth 100000 in
theorem bare3_c (n : MNode) (hk : n.kind = 3) (h1 : n.row = 0) (h4 : n.names = []) (h2 : n.path ≠ []) (h5 : n.kids.length = n.words.length + 1) : VPure Try.prog 62 [nodeX n] (.bool true) := by
 have hpl := List.length_pos_iff.2 h2
 have hwl : n.names.length = 0 := by rw [h4]; rfl
 refine V_start (nt := 100) Try.func62 rfl rfl rfl ?_
 refine VW_seq ?_
 refine VW_region ?_
 refine VOps_cons rfl rfl (V_box rfl rfl (fun g1 => ?_))
 refine VOps_cons rfl rfl (V_assign rfl ?_)
 refine VOps_nil ?_
 refine Then_n ?_
 refine VW_seq ?_
 refine VW_seq ?_
 refine VW_region ?_
 refine VOps_cons rfl rfl (V_fieldAddr VT.fa49_0 rfl ?_)
 refine VOps_cons rfl rfl (V_load 0 VT.ty3 rfl rfl rfl ?_)
 refine VOps_nil ?_
 refine Then_n ?_
 refine VW_block ?_
 refine VW_seq ?_
 refine VW_region ?_
 refine VOps_cons rfl rfl (V_bin rfl rfl rfl ?_)
 refine VOps_cons rfl rfl (V_assign rfl ?_)
 refine VOps_nil ?_
 refine Then_n ?_
 refine VW_condF rfl ((by rw [hk]; rfl)) ?_
 refine VW_seq ?_
 refine VW_region ?_
 refine VOps_cons rfl rfl (V_bin rfl rfl rfl ?_)
 refine VOps_cons rfl rfl (V_assign rfl ?_)
 refine VOps_nil ?_
 refine Then_n ?_
 refine VW_condF rfl ((by rw [hk]; rfl)) ?_
 refine VW_seq ?_
 refine VW_region ?_
 refine VOps_cons rfl rfl (V_bin rfl rfl rfl ?_)
 refine VOps_cons rfl rfl (V_assign rfl ?_)
 refine VOps_nil ?_
 refine Then_n ?_
 refine VW_condF rfl ((by rw [hk]; rfl)) ?_
 refine VW_seq ?_
 refine VW_region ?_
 refine VOps_cons rfl rfl (V_bin rfl rfl rfl ?_)
 refine VOps_cons rfl rfl (V_assign rfl ?_)
 refine VOps_nil ?_
 refine Then_n ?_
 refine VW_condT rfl ((by rw [hk]; rfl)) ?_
 refine VW_seq ?_
 refine VW_region ?_
 refine VOps_cons rfl rfl (V_fieldAddr VT.fa49_1 rfl ?_)
 refine VOps_cons rfl rfl (V_load 0 VT.ty3 rfl rfl rfl ?_)
 refine VOps_cons rfl rfl (V_bin rfl rfl rfl ?_)
 refine VOps_cons rfl rfl (V_move rfl ?_)
 refine VOps_split (q := 78) rfl (fun hq78 => ?_) (fun hq78 => ?_)
 ·
  refine VOps_cons (want_of rfl rfl rfl hq78) rfl (V_fieldAddr VT.fa49_3 rfl ?_)
  refine VOps_cons (want_of rfl rfl rfl hq78) rfl (V_load 0 VT.ty47 rfl rfl rfl ?_)
  refine VOps_cons (want_of rfl rfl rfl hq78) rfl (V_lenN (n := n.names.length) Try.underlying47 rfl (by simp) (fun hl81 => ?_))
  refine VOps_cons (want_of rfl rfl rfl hq78) rfl (V_bin rfl rfl rfl ?_)
  refine VOps_cons rfl rfl (V_pickT rfl hq78 rfl ?_)
  refine VOps_cons rfl rfl (V_move rfl ?_)
  refine VOps_split (q := 84) rfl (fun hq84 => ?_) (fun hq84 => ?_)
  ·
   refine VOps_cons (want_of rfl rfl rfl hq84) rfl (V_fieldAddr VT.fa49_2 rfl ?_)
   refine VOps_cons (want_of rfl rfl rfl hq84) rfl (V_load 0 VT.ty32 rfl rfl rfl ?_)
   refine VOps_cons (want_of rfl rfl rfl hq84) rfl (V_lenN (n := n.path.length) Try.underlying32 rfl (by simp) (fun hl87 => ?_))
   refine VOps_cons (want_of rfl rfl rfl hq84) rfl (V_bin rfl rfl rfl ?_)
   refine VOps_cons rfl rfl (V_pickT rfl hq84 rfl ?_)
   refine VOps_cons rfl rfl (V_move rfl ?_)
   refine VOps_split (q := 90) rfl (fun hq90 => ?_) (fun hq90 => ?_)
   ·
    refine VOps_cons (want_of rfl rfl rfl hq90) rfl (V_fieldAddr VT.fa49_5 rfl ?_)
    refine VOps_cons (want_of rfl rfl rfl hq90) rfl (V_load 0 VT.ty32 rfl rfl rfl ?_)
    refine VOps_cons (want_of rfl rfl rfl hq90) rfl (V_lenN (n := n.kids.length) Try.underlying32 rfl (by simp) (fun hl93 => ?_))
    refine VOps_cons (want_of rfl rfl rfl hq90) rfl (V_fieldAddr VT.fa49_4 rfl ?_)
    refine VOps_cons (want_of rfl rfl rfl hq90) rfl (V_load 0 VT.ty32 rfl rfl rfl ?_)
    refine VOps_cons (want_of rfl rfl rfl hq90) rfl (V_lenN (n := n.words.length) Try.underlying32 rfl (by simp) (fun hl96 => ?_))
    refine VOps_cons (want_of rfl rfl rfl hq90) rfl (V_add rfl rfl (by omega) ?_)
    refine VOps_cons (want_of rfl rfl rfl hq90) rfl (V_bin rfl rfl rfl ?_)
    refine VOps_cons rfl rfl (V_pickT rfl hq90 rfl ?_)
    refine VOps_cons rfl rfl (V_assign rfl ?_)
    refine VOps_nil ?_
    refine Then_n ?_
    refine VW_ret ?_
    refine InBlock_r (Then_r (VRet_one rfl (.tmp rfl) ?_))
    exact congrArg V.bool (by rw [h5]; simp)
   · exact absurd hq90 (by rw [decide_eq_true (by omega)]; simp)
  · exact absurd hq84 (by rw [hwl]; simp)
 · exact absurd hq78 (by rw [h1]; simp)


theorem bare_c {t : Tab} {ds : List DataSig} {n : MNode} (h : NodeP t ds n) : VPure Try.prog 62 [nodeX n] (.bool true) := by
  rcases h.form with ⟨h0, h1, h2, h3, h4, h5⟩ | ⟨h0, h2, h3, h4, h5⟩ | ⟨h0, h1, h2, h3, h4⟩ | ⟨h0, h1, h2, h3, h4⟩
  · exact bare0_c n h0 h1 h2 h3 h4 h5
  · exact bare1_c n h0 h2 h3 h4 h5
  · exact bare2_c n h0 h1 h2 h3 h4
  · exact bare3_c n h0 h1 h2 h3 h4

set_option maxRecDepth 100000 in
set_option maxHeartbeats 8000000 in
theorem node_c {t : Tab} {ds : List DataSig} {base : Addr} {tab : List (Str × V)} (gm : Nat) (n : MNode) (k : Nat) (htr : TabRel ds base t tab) (h : NodeP t ds n) (hkid : ∀ y ∈ n.kids, y < (k : Int)) : VKeep Try.prog 34 [.raw (.map (some gm)), nodeX n, .int k] [.map gm (kmap kstr tab)] (.int 0) := by
 obtain ⟨hform, hrow, hpath, hwords, hwn, hnn, d, D, hD, hnm, hdat⟩ := id h
 have hget : ∀ s ∈ n.names, ∃ D2, ds[d]? = some D2 ∧ kget tab s = some (.ep ⟨base.block, base.off + d * 3, none⟩ (dataV D2)) := fun s hs => by obtain ⟨c, hc, hcd⟩ := hnm s hs; obtain ⟨D2, h1, h2⟩ := htr.yes s c hc; rw [hcd] at h1 h2; exact ⟨D2, h1, h2⟩
 have hneg : n.path.any (fun x => decide (x < 0)) = false := by rw [List.any_eq_false]; intro x hx; have := hpath x hx; simp; omega
 have hfar : n.words.any (fun x => decide (x < -1073741824) || decide (x > 1073741823)) = false := by rw [List.any_eq_false]; intro x hx; have := hwords x hx; simp; omega
 refine VCalls_drops ?_
 refine V_start (nt := 103) Try.func34 rfl rfl rfl ?_
 refine VW_seq ?_
 refine VW_region ?_
 refine VOps_cons rfl rfl (V_box rfl rfl (fun g3 => ?_))
 refine VOps_cons rfl rfl (V_box rfl rfl (fun g4 => ?_))
 refine VOps_cons rfl rfl (V_assign rfl ?_)
 refine VOps_nil ?_
 refine Then_n ?_
 refine VW_seq ?_
 refine VW_region ?_
 refine VOps_cons rfl rfl (V_assign rfl ?_)
 refine VOps_nil ?_
 refine Then_n ?_
 refine VW_seq ?_
 refine VW_block ?_
 refine VW_seq ?_
 refine VW_region ?_
 refine VOps_cons rfl rfl (V_load_agg 0 VT.ty49 rfl rfl rfl ?_)
 refine VOps_cons rfl rfl (V_callP [.tmp 12] rfl rfl VT.en62 (bare_c h) ?_)
 refine VOps_cons rfl rfl (V_not rfl ?_)
 refine VOps_cons rfl rfl (V_assign rfl ?_)
 refine VOps_nil ?_
 refine Then_n ?_
 refine VW_condF rfl (rfl) ?_
 refine VW_seq ?_
 refine VW_region ?_
 refine VOps_cons rfl rfl (V_fieldAddr VT.fa49_1 rfl ?_)
 refine VOps_cons rfl rfl (V_load 0 VT.ty3 rfl rfl rfl ?_)
 refine VOps_cons rfl rfl (V_bin rfl rfl rfl ?_)
 refine VOps_cons rfl rfl (V_move rfl ?_)
 refine VOps_split (q := 19) rfl (fun hq19 => ?_) (fun hq19 => ?_)
 · exact absurd (of_decide_eq_true hq19) (by omega)
 ·
  refine VOps_cons (want_of rfl rfl rfl hq19) rfl (V_fieldAddr VT.fa49_2 rfl ?_)
  refine VOps_cons (want_of rfl rfl rfl hq19) rfl (V_load 0 VT.ty32 rfl rfl rfl ?_)
  refine VOps_cons (want_of rfl rfl rfl hq19) rfl (V_move rfl ?_)
  refine VOps_cons (want_of rfl rfl rfl hq19) rfl (V_callP [.tmp 21, .tmp 22] rfl rfl VT.en63 (by have e := intsAny_c (l := n.path) (tok := none) (p := fun x => decide (x < 0)) (caps := []) VT.en61 (fun x _ => neg_c x); rw [hneg] at e; exact e) ?_)
  refine VOps_cons rfl rfl (V_pickF rfl hq19 rfl ?_)
  refine VOps_cons rfl rfl (V_move rfl ?_)
  refine VOps_split (q := 25) rfl (fun hq25 => ?_) (fun hq25 => ?_)
  · exact absurd hq25 (by simp)
  ·
   refine VOps_cons (want_of rfl rfl rfl hq25) rfl (V_fieldAddr VT.fa49_4 rfl ?_)
   refine VOps_cons (want_of rfl rfl rfl hq25) rfl (V_load 0 VT.ty32 rfl rfl rfl ?_)
   refine VOps_cons (want_of rfl rfl rfl hq25) rfl (V_callP [.tmp 27, .func 64] rfl rfl VT.en63 (by have e := intsAny_c (l := n.words) (tok := none) (p := fun x => decide (x < -1073741824) || decide (x > 1073741823)) (caps := []) VT.en64 (fun x _ => far_c x); rw [hfar] at e; exact e) ?_)
   refine VOps_cons rfl rfl (V_pickF rfl hq25 rfl ?_)
   refine VOps_cons rfl rfl (V_assign rfl ?_)
   refine VOps_nil ?_
   refine Then_n ?_
   refine VW_condF rfl (rfl) ?_
   refine VW_seq ?_
   refine VW_region ?_
   refine VOps_cons rfl rfl (V_fieldAddr VT.fa49_3 rfl ?_)
   refine VOps_cons rfl rfl (V_load 0 VT.ty47 rfl rfl rfl ?_)
   refine VOps_cons rfl rfl (V_makeFunc [.tmp 3] rfl rfl ?_)
   refine VOps_cons rfl rfl (V_call [.tmp 32, .tmp 33] _ _ rfl rfl VT.en65 ((perm_erase (i := 1) rfl).trans (.cons _ ((perm_erase (i := 1) rfl).trans (.cons _ (.refl _))))) (strsAAny_c (p := fun _ => false) VT.en66 (fun s hs => by obtain ⟨D2, _, h2⟩ := hget s hs; exact known_c h2)) ?_)
   rintro r Sa ⟨rfl, rfl⟩
   refine VOps_cons rfl rfl (V_assign rfl ?_)
   refine VOps_nil ?_
   refine Then_n ?_
   refine VW_condF rfl (any_false _) ?_
   refine VW_seq ?_
   refine VW_region ?_
   refine VOps_cons rfl rfl (V_fieldAddr VT.fa49_3 rfl ?_)
   refine VOps_cons rfl rfl (V_load 2 VT.ty47 rfl rfl rfl ?_)
   refine VOps_cons rfl rfl (V_callP [.tmp 37] rfl rfl VT.en67 (strsTwice_c n.names hnn) ?_)
   refine VOps_cons rfl rfl (V_move rfl ?_)
   refine VOps_split (q := 39) rfl (fun hq39 => ?_) (fun hq39 => ?_)
   · exact absurd hq39 (by simp)
   ·
    refine VOps_cons (want_of rfl rfl rfl hq39) rfl (V_fieldAddr VT.fa49_4 rfl ?_)
    refine VOps_cons (want_of rfl rfl rfl hq39) rfl (V_load 2 VT.ty32 rfl rfl rfl ?_)
    refine VOps_cons (want_of rfl rfl rfl hq39) rfl (V_callP [.tmp 41] rfl rfl VT.en68 (intsTwice_c n.words hwn) ?_)
    refine VOps_cons rfl rfl (V_pickF rfl hq39 rfl ?_)
    refine VOps_cons rfl rfl (V_assign rfl ?_)
    refine VOps_nil ?_
    refine Then_n ?_
    refine VW_condF rfl (rfl) ?_
    refine VW_seq ?_
    refine VW_region ?_
    refine VOps_cons rfl rfl (V_fieldAddr VT.fa49_3 rfl ?_)
    refine VOps_cons rfl rfl (V_load 2 VT.ty47 rfl rfl rfl ?_)
    refine VOps_cons rfl rfl (V_makeFunc [.tmp 3, .tmp 4] rfl rfl ?_)
    refine VOps_cons rfl rfl (V_call [.tmp 46, .tmp 47] _ _ rfl rfl VT.en65 ((perm_erase (i := 0) rfl).trans (.cons _ ((perm_erase (i := 1) rfl).trans (.cons _ (.refl _))))) (strsBAny_c (p := fun _ => false) VT.en69 (fun s hs => by obtain ⟨D2, e2, h2⟩ := hget s hs; obtain ⟨s0, hs0⟩ := get_of_lt n.names 0 (by have := List.length_pos_of_mem hs; omega); obtain ⟨D3, e3, h3⟩ := hget s0 (List.mem_of_getElem? hs0); exact alike_c h2 hs0 h3)) ?_)
    rintro r Sa ⟨rfl, rfl⟩
    refine VOps_cons rfl rfl (V_assign rfl ?_)
    refine VOps_nil ?_
    refine Then_n ?_
    refine VW_condF rfl (any_false _) ?_
    refine VW_skip ?_
    refine InBlock_n (Then_n ?_)
    refine VW_seq ?_
    refine VW_seq ?_
    refine VW_region ?_
    refine VOps_cons rfl rfl (V_fieldAddr VT.fa49_5 rfl ?_)
    refine VOps_cons rfl rfl (V_load 1 VT.ty32 rfl rfl rfl ?_)
    refine VOps_cons rfl rfl (V_lenN (n := n.kids.length) Try.underlying32 rfl (by simp) (fun hl51 => ?_))
    refine VOps_cons rfl rfl (V_move rfl ?_)
    refine VOps_nil ?_
    refine Then_n ?_
    refine VW_block ?_
    refine VW_loopF (ι := Nat) (fun i => n.kids.length - i) (fun i => [(2, some (.int k)), (3, some (.ptr g3 0)), (4, some (.ptr g4 0)), (50, some (intsX n.kids)), (51, some (.int n.kids.length)), (52, some (.int i))]) (fun i => [.cells g3 71 [.raw (.map (some gm))], .cells g4 49 [.int n.kind, .int n.row, intsX n.path, strsX n.names, intsX n.words, intsX n.kids], .map gm (kmap kstr tab)]) (fun i => i ≤ n.kids.length) 0 (Nat.zero_le _) ⟨rfl, rfl, rfl, rfl, rfl, rfl, trivial⟩ (Drops.keep (Drops.keep (Drops.keep (Drops.refl _)))) ?_
    rintro i hi
    change i ≤ n.kids.length at hi
    refine VW_seq ?_
    refine VW_region ?_
    refine VOps_cons rfl rfl (V_bin rfl rfl rfl ?_)
    refine VOps_nil ?_
    refine Then_n ?_
    refine VW_seq ?_
    refine VW_condP rfl (fun h53 => ?_) (fun h53 => ?_)
    ·
     obtain ⟨y, hy⟩ := get_of_lt n.kids i h53
     obtain ⟨hy1, hy2⟩ := hdat i y hy
     have hyk := hkid y (List.mem_of_getElem? hy)
     refine VW_skip ?_
     refine Then_n ?_
     refine VW_seq ?_
     refine VW_block ?_
     refine VW_seq ?_
     refine VW_region ?_
     refine VOps_cons rfl rfl (V_move rfl ?_)
     refine VOps_cons rfl rfl (V_indexAddr (el := V.int y) VT.sl32 rfl rfl (by omega) (get_int hy) (fun a55 => ?_))
     refine VOps_cons rfl rfl (V_load_ep VT.ty3 rfl rfl ?_)
     refine VOps_cons rfl rfl (V_assign rfl ?_)
     refine VOps_cons rfl rfl (V_assign rfl ?_)
     refine VOps_nil ?_
     refine Then_n ?_
     refine VW_seq ?_
     rcases Bool.eq_false_or_eq_true (((i : Int) == (n.names.length : Int))) with hq62 | hq62
     ·
      have hin0 : (i : Int) = n.names.length := by simpa using hq62
      have hin : i = n.names.length := by omega
      rcases Bool.eq_false_or_eq_true ((n.kind == 2)) with hq67 | hq67
      ·
       have hk2 : n.kind = 2 := by simpa using hq67
       rcases Bool.eq_false_or_eq_true (decide ((n.names.length : Int) > 0)) with hq73 | hq73
       ·
        have hnl : 0 < n.names.length := by have h2 := of_decide_eq_true hq73; omega
        obtain ⟨s0, hs0⟩ := get_of_lt n.names 0 (by omega)
        have hDD := hD (List.length_pos_iff.1 hnl)
        obtain ⟨D2, hD2, hk0⟩ := hget s0 (List.mem_of_getElem? hs0)
        rw [hDD] at hD2
        injection hD2 with hD2
        subst hD2
        have hlen : ((n.names.length : Int) == (D.cons.length : Int)) = true ↔ (i = n.names.length ∧ n.kind = 2 ∧ n.names ≠ [] ∧ n.names.length = D.cons.length) := by rw [beq_iff_eq]; exact ⟨fun h => ⟨hin, hk2, List.length_pos_iff.1 hnl, by omega⟩, fun h => by omega⟩
        have hyy : (y == -1) = ((n.names.length : Int) == (D.cons.length : Int)) := kidP hy2 hlen
        refine VW_draw (G := Unit) [([], [8], []), ([], [4], []), ([1], [58], []), ([2, 1], [59], []), ([3, 2, 1, 0], [57, 60], []), ([4, 3, 2, 1, 0], [61], []), ([5, 4, 3, 2, 1, 0], [4, 62], []), ([6, 5, 4, 3, 2, 1, 0], [63, 62], []), ([7, 6, 5, 4, 3, 2, 1, 0], [64, 62], []), ([8, 7, 6, 5, 4, 3, 2, 1, 0], [62, 65], []), ([9, 8, 7, 6, 5, 4, 3, 2, 1, 0], [66], []), ([10, 9, 8, 7, 6, 5, 4, 3, 2, 1, 0], [4, 67], []), ([11, 10, 9, 8, 7, 6, 5, 4, 3, 2, 1, 0], [68, 67], []), ([12, 11, 10, 9, 8, 7, 6, 5, 4, 3, 2, 1, 0], [69, 67], []), ([13, 12, 11, 10, 9, 8, 7, 6, 5, 4, 3, 2, 1, 0], [70, 67], []), ([14, 13, 12, 11, 10, 9, 8, 7, 6, 5, 4, 3, 2, 1, 0], [67, 71], []), ([15, 14, 13, 12, 11, 10, 9, 8, 7, 6, 5, 4, 3, 2, 1, 0], [72], []), ([16, 15, 14, 13, 12, 11, 10, 9, 8, 7, 6, 5, 4, 3, 2, 1, 0], [4, 73], []), ([17, 16, 15, 14, 13, 12, 11, 10, 9, 8, 7, 6, 5, 4, 3, 2, 1, 0], [74, 73], []), ([18, 17, 16, 15, 14, 13, 12, 11, 10, 9, 8, 7, 6, 5, 4, 3, 2, 1, 0], [75, 73], []), ([16, 15, 14, 13, 12, 11, 10, 9, 8, 7, 6, 5, 4, 3, 2, 1, 0], [3, 73], []), ([16, 15, 14, 13, 12, 11, 10, 9, 8, 7, 6, 5, 4, 3, 2, 1, 0], [4, 73], []), ([21, 16, 15, 14, 13, 12, 11, 10, 9, 8, 7, 6, 5, 4, 3, 2, 1, 0], [78, 73], []), ([22, 21, 16, 15, 14, 13, 12, 11, 10, 9, 8, 7, 6, 5, 4, 3, 2, 1, 0], [79, 73], []), ([23, 22, 21, 16, 15, 14, 13, 12, 11, 10, 9, 8, 7, 6, 5, 4, 3, 2, 1, 0], [80, 73], []), ([24, 23, 22, 21, 20, 16, 15, 14, 13, 12, 11, 10, 9, 8, 7, 6, 5, 4, 3, 2, 1, 0], [77, 81, 73], []), ([25, 24, 23, 22, 21, 20, 16, 15, 14, 13, 12, 11, 10, 9, 8, 7, 6, 5, 4, 3, 2, 1, 0], [82, 73], []), ([26, 25, 24, 23, 22, 21, 20, 16, 15, 14, 13, 12, 11, 10, 9, 8, 7, 6, 5, 4, 3, 2, 1, 0], [83, 73], []), ([27, 26, 25, 24, 23, 22, 21, 20, 16, 15, 14, 13, 12, 11, 10, 9, 8, 7, 6, 5, 4, 3, 2, 1, 0], [84, 73], []), ([28, 27, 26, 25, 24, 23, 22, 21, 20, 16, 15, 14, 13, 12, 11, 10, 9, 8, 7, 6, 5, 4, 3, 2, 1, 0], [85, 73], []), ([29, 28, 27, 26, 25, 24, 23, 22, 21, 20, 19, 18, 17, 16, 15, 14, 13, 12, 11, 10, 9, 8, 7, 6, 5, 4, 3, 2, 1, 0], [76, 86, 73], []), ([30, 29, 28, 27, 26, 25, 24, 23, 22, 21, 20, 19, 18, 17, 16, 15, 14, 13, 12, 11, 10, 9, 8, 7, 6, 5, 4, 3, 2, 1, 0], [73, 87], []), ([31, 30, 29, 28, 27, 26, 25, 24, 23, 22, 21, 20, 19, 18, 17, 16, 15, 14, 13, 12, 11, 10, 9, 8, 7, 6, 5, 4, 3, 2, 1, 0], [88], [])] [] (constSt _) [10] [10, 57, 58, 59, 60, 61, 62, 63, 64, 65, 66, 67, 68, 69, 70, 71, 72, 73, 74, 75, 76, 77, 78, 79, 80, 81, 82, 83, 84, 85, 86, 87, 88] rfl VT.mix (by kernel_rfl) (by kernel_rfl) ?_
        refine DrawP_consL (acc' := [_]) (eqRes _) (good0 (fun γ => Needs_f (by kernel_rfl) (fun r8 h8 => Needs_nil (vopT rfl (V_move h8 ⟨rfl, rfl⟩))))) rfl ?_
        refine DrawP_consL (acc' := [_, _]) (eqRes _) (good0 (fun γ => Needs_f (by kernel_rfl) (fun r4 h4 => Needs_nil (vopT rfl (V_fieldAddr VT.fa49_3 h4 ⟨rfl, rfl⟩))))) rfl ?_
        refine DrawP_consL (acc' := [_, _, _]) (eqRes _) (good0 (fun γ => Needs_w 1 (by kernel_rfl) rfl (fun r58 h58 => Needs_nil (vopT rfl (V_load 1 VT.ty47 h58 rfl rfl ⟨rfl, rfl⟩))))) rfl ?_
        refine DrawP_consL (acc' := [_, _, _, _]) (eqRes _) (good0 (fun γ => Needs_w 2 (by kernel_rfl) rfl (fun r59 h59 => Needs_nil (vopT rfl (V_lenN (n := n.names.length) Try.underlying47 h59 (by simp) (fun hl60 => ⟨rfl, rfl⟩)))))) rfl ?_
        refine DrawP_consL (acc' := [_, _, _, _, _]) (eqRes _) (good0 (fun γ => Needs_w 0 (by kernel_rfl) rfl (fun r57 h57 => Needs_w 3 (by kernel_rfl) rfl (fun r60 h60 => Needs_nil (vopT rfl (V_bin h57 h60 rfl ⟨rfl, rfl⟩)))))) rfl ?_
        refine DrawP_consL (acc' := [_, _, _, _, _, _]) (eqRes _) (good0 (fun γ => Needs_w 4 (by kernel_rfl) rfl (fun r61 h61 => Needs_nil (vopT rfl (V_move h61 ⟨rfl, rfl⟩))))) rfl ?_
        refine DrawP_consL (acc' := [_, _, _, _, _, _, _]) (eqRes _) (good0 (fun γ => Needs_f (by kernel_rfl) (fun r4 h4 => Needs_w 5 (by kernel_rfl) rfl (fun r62 h62 => Needs_nil (vopT (want_of rfl rfl h62 hq62) (V_fieldAddr VT.fa49_0 h4 ⟨rfl, rfl⟩)))))) rfl ?_
        refine DrawP_consL (acc' := [_, _, _, _, _, _, _, _]) (eqRes _) (good0 (fun γ => Needs_w 6 (by kernel_rfl) rfl (fun r63 h63 => Needs_w 5 (by kernel_rfl) rfl (fun r62 h62 => Needs_nil (vopT (want_of rfl rfl h62 hq62) (V_load 1 VT.ty3 h63 rfl rfl ⟨rfl, rfl⟩)))))) rfl ?_
        refine DrawP_consL (acc' := [_, _, _, _, _, _, _, _, _]) (eqRes _) (good0 (fun γ => Needs_w 7 (by kernel_rfl) rfl (fun r64 h64 => Needs_w 5 (by kernel_rfl) rfl (fun r62 h62 => Needs_nil (vopT (want_of rfl rfl h62 hq62) (V_bin h64 rfl rfl ⟨rfl, rfl⟩)))))) rfl ?_
        refine DrawP_consL (acc' := [_, _, _, _, _, _, _, _, _, _]) (eqRes _) (good0 (fun γ => Needs_w 5 (by kernel_rfl) rfl (fun r62 h62 => Needs_w 8 (by kernel_rfl) rfl (fun r65 h65 => Needs_nil (vopT rfl (V_pickT h62 hq62 h65 ⟨rfl, rfl⟩)))))) rfl ?_
        refine DrawP_consL (acc' := [_, _, _, _, _, _, _, _, _, _, _]) (eqRes _) (good0 (fun γ => Needs_w 9 (by kernel_rfl) rfl (fun r66 h66 => Needs_nil (vopT rfl (V_move h66 ⟨rfl, rfl⟩))))) rfl ?_
        refine DrawP_consL (acc' := [_, _, _, _, _, _, _, _, _, _, _, _]) (eqRes _) (good0 (fun γ => Needs_f (by kernel_rfl) (fun r4 h4 => Needs_w 10 (by kernel_rfl) rfl (fun r67 h67 => Needs_nil (vopT (want_of rfl rfl h67 hq67) (V_fieldAddr VT.fa49_3 h4 ⟨rfl, rfl⟩)))))) rfl ?_
        refine DrawP_consL (acc' := [_, _, _, _, _, _, _, _, _, _, _, _, _]) (eqRes _) (good0 (fun γ => Needs_w 11 (by kernel_rfl) rfl (fun r68 h68 => Needs_w 10 (by kernel_rfl) rfl (fun r67 h67 => Needs_nil (vopT (want_of rfl rfl h67 hq67) (V_load 1 VT.ty47 h68 rfl rfl ⟨rfl, rfl⟩)))))) rfl ?_
        refine DrawP_consL (acc' := [_, _, _, _, _, _, _, _, _, _, _, _, _, _]) (eqRes _) (good0 (fun γ => Needs_w 12 (by kernel_rfl) rfl (fun r69 h69 => Needs_w 10 (by kernel_rfl) rfl (fun r67 h67 => Needs_nil (vopT (want_of rfl rfl h67 hq67) (V_lenN (n := n.names.length) Try.underlying47 h69 (by simp) (fun hl70 => ⟨rfl, rfl⟩))))))) rfl ?_
        refine DrawP_consL (acc' := [_, _, _, _, _, _, _, _, _, _, _, _, _, _, _]) (eqRes _) (good0 (fun γ => Needs_w 13 (by kernel_rfl) rfl (fun r70 h70 => Needs_w 10 (by kernel_rfl) rfl (fun r67 h67 => Needs_nil (vopT (want_of rfl rfl h67 hq67) (V_bin h70 rfl rfl ⟨rfl, rfl⟩)))))) rfl ?_
        refine DrawP_consL (acc' := [_, _, _, _, _, _, _, _, _, _, _, _, _, _, _, _]) (eqRes _) (good0 (fun γ => Needs_w 10 (by kernel_rfl) rfl (fun r67 h67 => Needs_w 14 (by kernel_rfl) rfl (fun r71 h71 => Needs_nil (vopT rfl (V_pickT h67 hq67 h71 ⟨rfl, rfl⟩)))))) rfl ?_
        refine DrawP_consL (acc' := [_, _, _, _, _, _, _, _, _, _, _, _, _, _, _, _, _]) (eqRes _) (good0 (fun γ => Needs_w 15 (by kernel_rfl) rfl (fun r72 h72 => Needs_nil (vopT rfl (V_move h72 ⟨rfl, rfl⟩))))) rfl ?_
        refine DrawP_consL (acc' := [_, _, _, _, _, _, _, _, _, _, _, _, _, _, _, _, _, _]) (eqRes _) (good0 (fun γ => Needs_f (by kernel_rfl) (fun r4 h4 => Needs_w 16 (by kernel_rfl) rfl (fun r73 h73 => Needs_nil (vopT (want_of rfl rfl h73 hq73) (V_fieldAddr VT.fa49_3 h4 ⟨rfl, rfl⟩)))))) rfl ?_
        refine DrawP_consL (acc' := [_, _, _, _, _, _, _, _, _, _, _, _, _, _, _, _, _, _, _]) (eqRes _) (good0 (fun γ => Needs_w 17 (by kernel_rfl) rfl (fun r74 h74 => Needs_w 16 (by kernel_rfl) rfl (fun r73 h73 => Needs_nil (vopT (want_of rfl rfl h73 hq73) (V_load 1 VT.ty47 h74 rfl rfl ⟨rfl, rfl⟩)))))) rfl ?_
        refine DrawP_consL (acc' := [_, _, _, _, _, _, _, _, _, _, _, _, _, _, _, _, _, _, _, _]) (eqRes _) (good0 (fun γ => Needs_w 18 (by kernel_rfl) rfl (fun r75 h75 => Needs_w 16 (by kernel_rfl) rfl (fun r73 h73 => Needs_nil (vopT (want_of rfl rfl h73 hq73) (V_lenN (n := n.names.length) Try.underlying47 h75 (by simp) (fun hl76 => ⟨rfl, rfl⟩))))))) rfl ?_
        refine DrawP_consL (acc' := [_, _, _, _, _, _, _, _, _, _, _, _, _, _, _, _, _, _, _, _, _]) (eqRes _) (good0 (fun γ => Needs_f (by kernel_rfl) (fun r3 h3 => Needs_w 16 (by kernel_rfl) rfl (fun r73 h73 => Needs_nil (vopT (want_of rfl rfl h73 hq73) (V_load 0 VT.ty71 h3 rfl rfl ⟨rfl, rfl⟩)))))) rfl ?_
        refine DrawP_consL (acc' := [_, _, _, _, _, _, _, _, _, _, _, _, _, _, _, _, _, _, _, _, _, _]) (eqRes _) (good0 (fun γ => Needs_f (by kernel_rfl) (fun r4 h4 => Needs_w 16 (by kernel_rfl) rfl (fun r73 h73 => Needs_nil (vopT (want_of rfl rfl h73 hq73) (V_fieldAddr VT.fa49_3 h4 ⟨rfl, rfl⟩)))))) rfl ?_
        refine DrawP_consL (acc' := [_, _, _, _, _, _, _, _, _, _, _, _, _, _, _, _, _, _, _, _, _, _, _]) (eqRes _) (good0 (fun γ => Needs_w 21 (by kernel_rfl) rfl (fun r78 h78 => Needs_w 16 (by kernel_rfl) rfl (fun r73 h73 => Needs_nil (vopT (want_of rfl rfl h73 hq73) (V_load 1 VT.ty47 h78 rfl rfl ⟨rfl, rfl⟩)))))) rfl ?_
        refine DrawP_consL (acc' := [_, _, _, _, _, _, _, _, _, _, _, _, _, _, _, _, _, _, _, _, _, _, _, _]) (epRes _) (good0 (fun γ => Needs_w 22 (by kernel_rfl) rfl (fun r79 h79 => Needs_w 16 (by kernel_rfl) rfl (fun r73 h73 => Needs_nil (vopT (want_of rfl rfl h73 hq73) (V_indexAddr (el := V.str s0) VT.sl47 h79 rfl (by omega) (get_str hs0) (fun a80 => ⟨⟨_, rfl⟩, rfl⟩))))))) rfl ?_
        refine DrawP_consL (acc' := [_, _, _, _, _, _, _, _, _, _, _, _, _, _, _, _, _, _, _, _, _, _, _, _, _]) (eqRes _) (good0 (fun γ => Needs_w 23 (by kernel_rfl) rfl (fun r80 h80 => Needs_w 16 (by kernel_rfl) rfl (fun r73 h73 => Needs_nil (epE h80 (fun a_80 e80 => vopT (want_of rfl rfl h73 hq73) (V_load_ep VT.ty9 e80 rfl ⟨rfl, rfl⟩))))))) rfl ?_
        refine DrawP_consL (acc' := [_, _, _, _, _, _, _, _, _, _, _, _, _, _, _, _, _, _, _, _, _, _, _, _, _, _]) (eqRes _) (good0 (fun γ => Needs_w 20 (by kernel_rfl) rfl (fun r77 h77 => Needs_w 24 (by kernel_rfl) rfl (fun r81 h81 => Needs_w 16 (by kernel_rfl) rfl (fun r73 h73 => Needs_nil (vopT (want_of rfl rfl h73 hq73) (V_lookup1 2 Try.underlying71 (key_str Try.underlying9) VT.zr100 h77 h81 rfl (hk0) ⟨rfl, rfl⟩))))))) rfl ?_
        refine DrawP_consL (acc' := [_, _, _, _, _, _, _, _, _, _, _, _, _, _, _, _, _, _, _, _, _, _, _, _, _, _, _]) (epRes _) (good0 (fun γ => Needs_w 25 (by kernel_rfl) rfl (fun r82 h82 => Needs_w 16 (by kernel_rfl) rfl (fun r73 h73 => Needs_nil (vopT (want_of rfl rfl h73 hq73) (V_nilCheck_ep h82 ⟨⟨_, rfl⟩, rfl⟩)))))) rfl ?_
        refine DrawP_consL (acc' := [_, _, _, _, _, _, _, _, _, _, _, _, _, _, _, _, _, _, _, _, _, _, _, _, _, _, _, _]) (epRes _) (good0 (fun γ => Needs_w 26 (by kernel_rfl) rfl (fun r83 h83 => Needs_w 16 (by kernel_rfl) rfl (fun r73 h73 => Needs_nil (epE h83 (fun a_83 e83 => vopT (want_of rfl rfl h73 hq73) (V_fieldAddr_ep VT.fa62_2 e83 rfl ⟨⟨_, rfl⟩, rfl⟩))))))) rfl ?_
        refine DrawP_consL (acc' := [_, _, _, _, _, _, _, _, _, _, _, _, _, _, _, _, _, _, _, _, _, _, _, _, _, _, _, _, _]) (eqRes _) (good0 (fun γ => Needs_w 27 (by kernel_rfl) rfl (fun r84 h84 => Needs_w 16 (by kernel_rfl) rfl (fun r73 h73 => Needs_nil (epE h84 (fun a_84 e84 => vopT (want_of rfl rfl h73 hq73) (V_load_ep VT.ty60 e84 rfl ⟨rfl, rfl⟩))))))) rfl ?_
        refine DrawP_consL (acc' := [_, _, _, _, _, _, _, _, _, _, _, _, _, _, _, _, _, _, _, _, _, _, _, _, _, _, _, _, _, _]) (eqRes _) (good0 (fun γ => Needs_w 28 (by kernel_rfl) rfl (fun r85 h85 => Needs_w 16 (by kernel_rfl) rfl (fun r73 h73 => Needs_nil (vopT (want_of rfl rfl h73 hq73) (V_lenN (n := D.cons.length) Try.underlying60 h85 (by simp) (fun hl86 => ⟨rfl, rfl⟩))))))) rfl ?_
        refine DrawP_consL (acc' := [_, _, _, _, _, _, _, _, _, _, _, _, _, _, _, _, _, _, _, _, _, _, _, _, _, _, _, _, _, _, _]) (eqRes _) (good0 (fun γ => Needs_w 19 (by kernel_rfl) rfl (fun r76 h76 => Needs_w 29 (by kernel_rfl) rfl (fun r86 h86 => Needs_w 16 (by kernel_rfl) rfl (fun r73 h73 => Needs_nil (vopT (want_of rfl rfl h73 hq73) (V_bin h76 h86 rfl ⟨rfl, rfl⟩))))))) rfl ?_
        refine DrawP_consL (acc' := [_, _, _, _, _, _, _, _, _, _, _, _, _, _, _, _, _, _, _, _, _, _, _, _, _, _, _, _, _, _, _, _]) (eqRes _) (good0 (fun γ => Needs_w 16 (by kernel_rfl) rfl (fun r73 h73 => Needs_w 30 (by kernel_rfl) rfl (fun r87 h87 => Needs_nil (vopT rfl (V_pickT h73 hq73 h87 ⟨rfl, rfl⟩)))))) rfl ?_
        refine DrawP_consL (acc' := [_, _, _, _, _, _, _, _, _, _, _, _, _, _, _, _, _, _, _, _, _, _, _, _, _, _, _, _, _, _, _, _, _]) (eqRes _) (good0 (fun γ => Needs_w 31 (by kernel_rfl) rfl (fun r88 h88 => Needs_nil (vopT rfl (V_assign h88 ⟨rfl, rfl⟩))))) rfl ?_
        refine DrawP_nil (fun γ => Needs_w 32 (by kernel_rfl) rfl (fun r10 h10 => Needs_nil ?_))
        have e10 : r10 = some _ := h10
        subst e10
        clear h10
        refine Then_n ?_
        refine VW_seq ?_
        refine VW_region ?_
        refine VOps_cons rfl rfl (V_move rfl ?_)
        refine VOps_cons rfl rfl (V_move rfl ?_)
        refine VOps_cons rfl rfl (V_bin rfl rfl rfl ?_)
        refine VOps_cons rfl rfl (V_boolne Try.underlying4 rfl rfl ?_)
        refine VOps_cons rfl rfl (V_move rfl ?_)
        refine VOps_split (q := 93) rfl (fun hq93 => ?_) (fun hq93 => ?_)
        · exact absurd hq93 (by rw [hyy]; simp)
        ·
         refine VOps_cons (want_of rfl rfl rfl hq93) rfl (V_move rfl ?_)
         refine VOps_cons (want_of rfl rfl rfl hq93) rfl (V_bin rfl rfl rfl ?_)
         refine VOps_cons rfl rfl (V_pickF rfl hq93 rfl ?_)
         refine VOps_cons rfl rfl (V_move rfl ?_)
         refine VOps_split (q := 97) rfl (fun hq97 => ?_) (fun hq97 => ?_)
         · exact absurd (of_decide_eq_true hq97) (by omega)
         ·
          refine VOps_cons (want_of rfl rfl rfl hq97) rfl (V_move rfl ?_)
          refine VOps_cons (want_of rfl rfl rfl hq97) rfl (V_move rfl ?_)
          refine VOps_cons (want_of rfl rfl rfl hq97) rfl (V_bin rfl rfl rfl ?_)
          refine VOps_cons rfl rfl (V_pickF rfl hq97 rfl ?_)
          refine VOps_nil ?_
          refine Then_n ?_
          refine VW_condP rfl (fun h101 => ?_) (fun h101 => ?_)
          · omega
          ·
           refine VW_skip ?_
           refine InBlock_n (Then_n ?_)
           refine VW_region ?_
           refine VOps_cons rfl rfl (V_add rfl rfl (by omega) ?_)
           refine VOps_cons rfl rfl (V_move rfl ?_)
           refine VOps_nil ?_
           refine Then_n ?_
           exact ⟨i + 1, (by (try simp only []); omega), (by omega), ⟨rfl, rfl, rfl, rfl, rfl, rfl, trivial⟩, (Drops.keep (Drops.keep (Drops.keep (Drops.refl _))))⟩
       ·
        have hyy : (y == -1) = false := kidP hy2 ⟨fun h => (by cases h), fun h => by have h1 := List.length_pos_iff.2 h.2.2.1; have h2 := of_decide_eq_false hq73; omega⟩
        refine VW_draw (G := Unit) [([], [8], []), ([], [4], []), ([1], [58], []), ([2, 1], [59], []), ([3, 2, 1, 0], [57, 60], []), ([4, 3, 2, 1, 0], [61], []), ([5, 4, 3, 2, 1, 0], [4, 62], []), ([6, 5, 4, 3, 2, 1, 0], [63, 62], []), ([7, 6, 5, 4, 3, 2, 1, 0], [64, 62], []), ([8, 7, 6, 5, 4, 3, 2, 1, 0], [62, 65], []), ([9, 8, 7, 6, 5, 4, 3, 2, 1, 0], [66], []), ([10, 9, 8, 7, 6, 5, 4, 3, 2, 1, 0], [4, 67], []), ([11, 10, 9, 8, 7, 6, 5, 4, 3, 2, 1, 0], [68, 67], []), ([12, 11, 10, 9, 8, 7, 6, 5, 4, 3, 2, 1, 0], [69, 67], []), ([13, 12, 11, 10, 9, 8, 7, 6, 5, 4, 3, 2, 1, 0], [70, 67], []), ([14, 13, 12, 11, 10, 9, 8, 7, 6, 5, 4, 3, 2, 1, 0], [67, 71], []), ([15, 14, 13, 12, 11, 10, 9, 8, 7, 6, 5, 4, 3, 2, 1, 0], [72], []), ([16, 15, 14, 13, 12, 11, 10, 9, 8, 7, 6, 5, 4, 3, 2, 1, 0], [4, 73], []), ([17, 16, 15, 14, 13, 12, 11, 10, 9, 8, 7, 6, 5, 4, 3, 2, 1, 0], [74, 73], []), ([18, 17, 16, 15, 14, 13, 12, 11, 10, 9, 8, 7, 6, 5, 4, 3, 2, 1, 0], [75, 73], []), ([16, 15, 14, 13, 12, 11, 10, 9, 8, 7, 6, 5, 4, 3, 2, 1, 0], [3, 73], []), ([16, 15, 14, 13, 12, 11, 10, 9, 8, 7, 6, 5, 4, 3, 2, 1, 0], [4, 73], []), ([21, 16, 15, 14, 13, 12, 11, 10, 9, 8, 7, 6, 5, 4, 3, 2, 1, 0], [78, 73], []), ([22, 21, 16, 15, 14, 13, 12, 11, 10, 9, 8, 7, 6, 5, 4, 3, 2, 1, 0], [79, 73], []), ([23, 22, 21, 16, 15, 14, 13, 12, 11, 10, 9, 8, 7, 6, 5, 4, 3, 2, 1, 0], [80, 73], []), ([24, 23, 22, 21, 20, 16, 15, 14, 13, 12, 11, 10, 9, 8, 7, 6, 5, 4, 3, 2, 1, 0], [77, 81, 73], []), ([25, 24, 23, 22, 21, 20, 16, 15, 14, 13, 12, 11, 10, 9, 8, 7, 6, 5, 4, 3, 2, 1, 0], [82, 73], []), ([26, 25, 24, 23, 22, 21, 20, 16, 15, 14, 13, 12, 11, 10, 9, 8, 7, 6, 5, 4, 3, 2, 1, 0], [83, 73], []), ([27, 26, 25, 24, 23, 22, 21, 20, 16, 15, 14, 13, 12, 11, 10, 9, 8, 7, 6, 5, 4, 3, 2, 1, 0], [84, 73], []), ([28, 27, 26, 25, 24, 23, 22, 21, 20, 16, 15, 14, 13, 12, 11, 10, 9, 8, 7, 6, 5, 4, 3, 2, 1, 0], [85, 73], []), ([29, 28, 27, 26, 25, 24, 23, 22, 21, 20, 19, 18, 17, 16, 15, 14, 13, 12, 11, 10, 9, 8, 7, 6, 5, 4, 3, 2, 1, 0], [76, 86, 73], []), ([30, 29, 28, 27, 26, 25, 24, 23, 22, 21, 20, 19, 18, 17, 16, 15, 14, 13, 12, 11, 10, 9, 8, 7, 6, 5, 4, 3, 2, 1, 0], [73, 87], []), ([31, 30, 29, 28, 27, 26, 25, 24, 23, 22, 21, 20, 19, 18, 17, 16, 15, 14, 13, 12, 11, 10, 9, 8, 7, 6, 5, 4, 3, 2, 1, 0], [88], [])] [] (constSt _) [10] [10, 57, 58, 59, 60, 61, 62, 63, 64, 65, 66, 67, 68, 69, 70, 71, 72, 73, 74, 75, 76, 77, 78, 79, 80, 81, 82, 83, 84, 85, 86, 87, 88] rfl VT.mix (by kernel_rfl) (by kernel_rfl) ?_
        refine DrawP_consL (acc' := [_]) (eqRes _) (good0 (fun γ => Needs_f (by kernel_rfl) (fun r8 h8 => Needs_nil (vopT rfl (V_move h8 ⟨rfl, rfl⟩))))) rfl ?_
        refine DrawP_consL (acc' := [_, _]) (eqRes _) (good0 (fun γ => Needs_f (by kernel_rfl) (fun r4 h4 => Needs_nil (vopT rfl (V_fieldAddr VT.fa49_3 h4 ⟨rfl, rfl⟩))))) rfl ?_
        refine DrawP_consL (acc' := [_, _, _]) (eqRes _) (good0 (fun γ => Needs_w 1 (by kernel_rfl) rfl (fun r58 h58 => Needs_nil (vopT rfl (V_load 1 VT.ty47 h58 rfl rfl ⟨rfl, rfl⟩))))) rfl ?_
        refine DrawP_consL (acc' := [_, _, _, _]) (eqRes _) (good0 (fun γ => Needs_w 2 (by kernel_rfl) rfl (fun r59 h59 => Needs_nil (vopT rfl (V_lenN (n := n.names.length) Try.underlying47 h59 (by simp) (fun hl60 => ⟨rfl, rfl⟩)))))) rfl ?_
        refine DrawP_consL (acc' := [_, _, _, _, _]) (eqRes _) (good0 (fun γ => Needs_w 0 (by kernel_rfl) rfl (fun r57 h57 => Needs_w 3 (by kernel_rfl) rfl (fun r60 h60 => Needs_nil (vopT rfl (V_bin h57 h60 rfl ⟨rfl, rfl⟩)))))) rfl ?_
        refine DrawP_consL (acc' := [_, _, _, _, _, _]) (eqRes _) (good0 (fun γ => Needs_w 4 (by kernel_rfl) rfl (fun r61 h61 => Needs_nil (vopT rfl (V_move h61 ⟨rfl, rfl⟩))))) rfl ?_
        refine DrawP_consL (acc' := [_, _, _, _, _, _, _]) (eqRes _) (good0 (fun γ => Needs_f (by kernel_rfl) (fun r4 h4 => Needs_w 5 (by kernel_rfl) rfl (fun r62 h62 => Needs_nil (vopT (want_of rfl rfl h62 hq62) (V_fieldAddr VT.fa49_0 h4 ⟨rfl, rfl⟩)))))) rfl ?_
        refine DrawP_consL (acc' := [_, _, _, _, _, _, _, _]) (eqRes _) (good0 (fun γ => Needs_w 6 (by kernel_rfl) rfl (fun r63 h63 => Needs_w 5 (by kernel_rfl) rfl (fun r62 h62 => Needs_nil (vopT (want_of rfl rfl h62 hq62) (V_load 1 VT.ty3 h63 rfl rfl ⟨rfl, rfl⟩)))))) rfl ?_
        refine DrawP_consL (acc' := [_, _, _, _, _, _, _, _, _]) (eqRes _) (good0 (fun γ => Needs_w 7 (by kernel_rfl) rfl (fun r64 h64 => Needs_w 5 (by kernel_rfl) rfl (fun r62 h62 => Needs_nil (vopT (want_of rfl rfl h62 hq62) (V_bin h64 rfl rfl ⟨rfl, rfl⟩)))))) rfl ?_
        refine DrawP_consL (acc' := [_, _, _, _, _, _, _, _, _, _]) (eqRes _) (good0 (fun γ => Needs_w 5 (by kernel_rfl) rfl (fun r62 h62 => Needs_w 8 (by kernel_rfl) rfl (fun r65 h65 => Needs_nil (vopT rfl (V_pickT h62 hq62 h65 ⟨rfl, rfl⟩)))))) rfl ?_
        refine DrawP_consL (acc' := [_, _, _, _, _, _, _, _, _, _, _]) (eqRes _) (good0 (fun γ => Needs_w 9 (by kernel_rfl) rfl (fun r66 h66 => Needs_nil (vopT rfl (V_move h66 ⟨rfl, rfl⟩))))) rfl ?_
        refine DrawP_consL (acc' := [_, _, _, _, _, _, _, _, _, _, _, _]) (eqRes _) (good0 (fun γ => Needs_f (by kernel_rfl) (fun r4 h4 => Needs_w 10 (by kernel_rfl) rfl (fun r67 h67 => Needs_nil (vopT (want_of rfl rfl h67 hq67) (V_fieldAddr VT.fa49_3 h4 ⟨rfl, rfl⟩)))))) rfl ?_
        refine DrawP_consL (acc' := [_, _, _, _, _, _, _, _, _, _, _, _, _]) (eqRes _) (good0 (fun γ => Needs_w 11 (by kernel_rfl) rfl (fun r68 h68 => Needs_w 10 (by kernel_rfl) rfl (fun r67 h67 => Needs_nil (vopT (want_of rfl rfl h67 hq67) (V_load 1 VT.ty47 h68 rfl rfl ⟨rfl, rfl⟩)))))) rfl ?_
        refine DrawP_consL (acc' := [_, _, _, _, _, _, _, _, _, _, _, _, _, _]) (eqRes _) (good0 (fun γ => Needs_w 12 (by kernel_rfl) rfl (fun r69 h69 => Needs_w 10 (by kernel_rfl) rfl (fun r67 h67 => Needs_nil (vopT (want_of rfl rfl h67 hq67) (V_lenN (n := n.names.length) Try.underlying47 h69 (by simp) (fun hl70 => ⟨rfl, rfl⟩))))))) rfl ?_
        refine DrawP_consL (acc' := [_, _, _, _, _, _, _, _, _, _, _, _, _, _, _]) (eqRes _) (good0 (fun γ => Needs_w 13 (by kernel_rfl) rfl (fun r70 h70 => Needs_w 10 (by kernel_rfl) rfl (fun r67 h67 => Needs_nil (vopT (want_of rfl rfl h67 hq67) (V_bin h70 rfl rfl ⟨rfl, rfl⟩)))))) rfl ?_
        refine DrawP_consL (acc' := [_, _, _, _, _, _, _, _, _, _, _, _, _, _, _, _]) (eqRes _) (good0 (fun γ => Needs_w 10 (by kernel_rfl) rfl (fun r67 h67 => Needs_w 14 (by kernel_rfl) rfl (fun r71 h71 => Needs_nil (vopT rfl (V_pickT h67 hq67 h71 ⟨rfl, rfl⟩)))))) rfl ?_
        refine DrawP_consL (acc' := [_, _, _, _, _, _, _, _, _, _, _, _, _, _, _, _, _]) (eqRes _) (good0 (fun γ => Needs_w 15 (by kernel_rfl) rfl (fun r72 h72 => Needs_nil (vopT rfl (V_move h72 ⟨rfl, rfl⟩))))) rfl ?_
        refine DrawP_consL (acc' := [_, _, _, _, _, _, _, _, _, _, _, _, _, _, _, _, _, _]) anyRes (good0 (fun γ => Needs_f (by kernel_rfl) (fun r4 h4 => Needs_w 16 (by kernel_rfl) rfl (fun r73 h73 => Needs_nil (vopF (skip_of rfl rfl h73 hq73) ⟨trivial, rfl⟩))))) rfl ?_
        refine DrawP_consL (acc' := [_, _, _, _, _, _, _, _, _, _, _, _, _, _, _, _, _, _, _]) anyRes (good0 (fun γ => Needs_w 17 (by kernel_rfl) rfl (fun r74 h74 => Needs_w 16 (by kernel_rfl) rfl (fun r73 h73 => Needs_nil (vopF (skip_of rfl rfl h73 hq73) ⟨trivial, rfl⟩))))) rfl ?_
        refine DrawP_consL (acc' := [_, _, _, _, _, _, _, _, _, _, _, _, _, _, _, _, _, _, _, _]) anyRes (good0 (fun γ => Needs_w 18 (by kernel_rfl) rfl (fun r75 h75 => Needs_w 16 (by kernel_rfl) rfl (fun r73 h73 => Needs_nil (vopF (skip_of rfl rfl h73 hq73) ⟨trivial, rfl⟩))))) rfl ?_
        refine DrawP_consL (acc' := [_, _, _, _, _, _, _, _, _, _, _, _, _, _, _, _, _, _, _, _, _]) anyRes (good0 (fun γ => Needs_f (by kernel_rfl) (fun r3 h3 => Needs_w 16 (by kernel_rfl) rfl (fun r73 h73 => Needs_nil (vopF (skip_of rfl rfl h73 hq73) ⟨trivial, rfl⟩))))) rfl ?_
        refine DrawP_consL (acc' := [_, _, _, _, _, _, _, _, _, _, _, _, _, _, _, _, _, _, _, _, _, _]) anyRes (good0 (fun γ => Needs_f (by kernel_rfl) (fun r4 h4 => Needs_w 16 (by kernel_rfl) rfl (fun r73 h73 => Needs_nil (vopF (skip_of rfl rfl h73 hq73) ⟨trivial, rfl⟩))))) rfl ?_
        refine DrawP_consL (acc' := [_, _, _, _, _, _, _, _, _, _, _, _, _, _, _, _, _, _, _, _, _, _, _]) anyRes (good0 (fun γ => Needs_w 21 (by kernel_rfl) rfl (fun r78 h78 => Needs_w 16 (by kernel_rfl) rfl (fun r73 h73 => Needs_nil (vopF (skip_of rfl rfl h73 hq73) ⟨trivial, rfl⟩))))) rfl ?_
        refine DrawP_consL (acc' := [_, _, _, _, _, _, _, _, _, _, _, _, _, _, _, _, _, _, _, _, _, _, _, _]) anyRes (good0 (fun γ => Needs_w 22 (by kernel_rfl) rfl (fun r79 h79 => Needs_w 16 (by kernel_rfl) rfl (fun r73 h73 => Needs_nil (vopF (skip_of rfl rfl h73 hq73) ⟨trivial, rfl⟩))))) rfl ?_
        refine DrawP_consL (acc' := [_, _, _, _, _, _, _, _, _, _, _, _, _, _, _, _, _, _, _, _, _, _, _, _, _]) anyRes (good0 (fun γ => Needs_w 23 (by kernel_rfl) rfl (fun r80 h80 => Needs_w 16 (by kernel_rfl) rfl (fun r73 h73 => Needs_nil (vopF (skip_of rfl rfl h73 hq73) ⟨trivial, rfl⟩))))) rfl ?_
        refine DrawP_consL (acc' := [_, _, _, _, _, _, _, _, _, _, _, _, _, _, _, _, _, _, _, _, _, _, _, _, _, _]) anyRes (good0 (fun γ => Needs_w 20 (by kernel_rfl) rfl (fun r77 h77 => Needs_w 24 (by kernel_rfl) rfl (fun r81 h81 => Needs_w 16 (by kernel_rfl) rfl (fun r73 h73 => Needs_nil (vopF (skip_of rfl rfl h73 hq73) ⟨trivial, rfl⟩)))))) rfl ?_
        refine DrawP_consL (acc' := [_, _, _, _, _, _, _, _, _, _, _, _, _, _, _, _, _, _, _, _, _, _, _, _, _, _, _]) anyRes (good0 (fun γ => Needs_w 25 (by kernel_rfl) rfl (fun r82 h82 => Needs_w 16 (by kernel_rfl) rfl (fun r73 h73 => Needs_nil (vopF (skip_of rfl rfl h73 hq73) ⟨trivial, rfl⟩))))) rfl ?_
        refine DrawP_consL (acc' := [_, _, _, _, _, _, _, _, _, _, _, _, _, _, _, _, _, _, _, _, _, _, _, _, _, _, _, _]) anyRes (good0 (fun γ => Needs_w 26 (by kernel_rfl) rfl (fun r83 h83 => Needs_w 16 (by kernel_rfl) rfl (fun r73 h73 => Needs_nil (vopF (skip_of rfl rfl h73 hq73) ⟨trivial, rfl⟩))))) rfl ?_
        refine DrawP_consL (acc' := [_, _, _, _, _, _, _, _, _, _, _, _, _, _, _, _, _, _, _, _, _, _, _, _, _, _, _, _, _]) anyRes (good0 (fun γ => Needs_w 27 (by kernel_rfl) rfl (fun r84 h84 => Needs_w 16 (by kernel_rfl) rfl (fun r73 h73 => Needs_nil (vopF (skip_of rfl rfl h73 hq73) ⟨trivial, rfl⟩))))) rfl ?_
        refine DrawP_consL (acc' := [_, _, _, _, _, _, _, _, _, _, _, _, _, _, _, _, _, _, _, _, _, _, _, _, _, _, _, _, _, _]) anyRes (good0 (fun γ => Needs_w 28 (by kernel_rfl) rfl (fun r85 h85 => Needs_w 16 (by kernel_rfl) rfl (fun r73 h73 => Needs_nil (vopF (skip_of rfl rfl h73 hq73) ⟨trivial, rfl⟩))))) rfl ?_
        refine DrawP_consL (acc' := [_, _, _, _, _, _, _, _, _, _, _, _, _, _, _, _, _, _, _, _, _, _, _, _, _, _, _, _, _, _, _]) anyRes (good0 (fun γ => Needs_w 19 (by kernel_rfl) rfl (fun r76 h76 => Needs_w 29 (by kernel_rfl) rfl (fun r86 h86 => Needs_w 16 (by kernel_rfl) rfl (fun r73 h73 => Needs_nil (vopF (skip_of rfl rfl h73 hq73) ⟨trivial, rfl⟩)))))) rfl ?_
        refine DrawP_consL (acc' := [_, _, _, _, _, _, _, _, _, _, _, _, _, _, _, _, _, _, _, _, _, _, _, _, _, _, _, _, _, _, _, _]) (eqRes _) (good0 (fun γ => Needs_w 16 (by kernel_rfl) rfl (fun r73 h73 => Needs_w 30 (by kernel_rfl) rfl (fun r87 h87 => Needs_nil (vopT rfl (V_pickF h73 hq73 rfl ⟨rfl, rfl⟩)))))) rfl ?_
        refine DrawP_consL (acc' := [_, _, _, _, _, _, _, _, _, _, _, _, _, _, _, _, _, _, _, _, _, _, _, _, _, _, _, _, _, _, _, _, _]) (eqRes _) (good0 (fun γ => Needs_w 31 (by kernel_rfl) rfl (fun r88 h88 => Needs_nil (vopT rfl (V_assign h88 ⟨rfl, rfl⟩))))) rfl ?_
        refine DrawP_nil (fun γ => Needs_w 32 (by kernel_rfl) rfl (fun r10 h10 => Needs_nil ?_))
        have e10 : r10 = some _ := h10
        subst e10
        clear h10
        refine Then_n ?_
        refine VW_seq ?_
        refine VW_region ?_
        refine VOps_cons rfl rfl (V_move rfl ?_)
        refine VOps_cons rfl rfl (V_move rfl ?_)
        refine VOps_cons rfl rfl (V_bin rfl rfl rfl ?_)
        refine VOps_cons rfl rfl (V_boolne Try.underlying4 rfl rfl ?_)
        refine VOps_cons rfl rfl (V_move rfl ?_)
        refine VOps_split (q := 93) rfl (fun hq93 => ?_) (fun hq93 => ?_)
        · exact absurd hq93 (by rw [hyy]; simp)
        ·
         refine VOps_cons (want_of rfl rfl rfl hq93) rfl (V_move rfl ?_)
         refine VOps_cons (want_of rfl rfl rfl hq93) rfl (V_bin rfl rfl rfl ?_)
         refine VOps_cons rfl rfl (V_pickF rfl hq93 rfl ?_)
         refine VOps_cons rfl rfl (V_move rfl ?_)
         refine VOps_split (q := 97) rfl (fun hq97 => ?_) (fun hq97 => ?_)
         · exact absurd (of_decide_eq_true hq97) (by omega)
         ·
          refine VOps_cons (want_of rfl rfl rfl hq97) rfl (V_move rfl ?_)
          refine VOps_cons (want_of rfl rfl rfl hq97) rfl (V_move rfl ?_)
          refine VOps_cons (want_of rfl rfl rfl hq97) rfl (V_bin rfl rfl rfl ?_)
          refine VOps_cons rfl rfl (V_pickF rfl hq97 rfl ?_)
          refine VOps_nil ?_
          refine Then_n ?_
          refine VW_condP rfl (fun h101 => ?_) (fun h101 => ?_)
          · omega
          ·
           refine VW_skip ?_
           refine InBlock_n (Then_n ?_)
           refine VW_region ?_
           refine VOps_cons rfl rfl (V_add rfl rfl (by omega) ?_)
           refine VOps_cons rfl rfl (V_move rfl ?_)
           refine VOps_nil ?_
           refine Then_n ?_
           exact ⟨i + 1, (by (try simp only []); omega), (by omega), ⟨rfl, rfl, rfl, rfl, rfl, rfl, trivial⟩, (Drops.keep (Drops.keep (Drops.keep (Drops.refl _))))⟩
      ·
       have hyy : (y == -1) = false := kidP hy2 ⟨fun h => (by cases h), fun h => by rw [h.2.1] at hq67; simp at hq67⟩
       refine VW_draw (G := Unit) [([], [8], []), ([], [4], []), ([1], [58], []), ([2, 1], [59], []), ([3, 2, 1, 0], [57, 60], []), ([4, 3, 2, 1, 0], [61], []), ([5, 4, 3, 2, 1, 0], [4, 62], []), ([6, 5, 4, 3, 2, 1, 0], [63, 62], []), ([7, 6, 5, 4, 3, 2, 1, 0], [64, 62], []), ([8, 7, 6, 5, 4, 3, 2, 1, 0], [62, 65], []), ([9, 8, 7, 6, 5, 4, 3, 2, 1, 0], [66], []), ([10, 9, 8, 7, 6, 5, 4, 3, 2, 1, 0], [4, 67], []), ([11, 10, 9, 8, 7, 6, 5, 4, 3, 2, 1, 0], [68, 67], []), ([12, 11, 10, 9, 8, 7, 6, 5, 4, 3, 2, 1, 0], [69, 67], []), ([13, 12, 11, 10, 9, 8, 7, 6, 5, 4, 3, 2, 1, 0], [70, 67], []), ([14, 13, 12, 11, 10, 9, 8, 7, 6, 5, 4, 3, 2, 1, 0], [67, 71], []), ([15, 14, 13, 12, 11, 10, 9, 8, 7, 6, 5, 4, 3, 2, 1, 0], [72], []), ([16, 15, 14, 13, 12, 11, 10, 9, 8, 7, 6, 5, 4, 3, 2, 1, 0], [4, 73], []), ([17, 16, 15, 14, 13, 12, 11, 10, 9, 8, 7, 6, 5, 4, 3, 2, 1, 0], [74, 73], []), ([18, 17, 16, 15, 14, 13, 12, 11, 10, 9, 8, 7, 6, 5, 4, 3, 2, 1, 0], [75, 73], []), ([16, 15, 14, 13, 12, 11, 10, 9, 8, 7, 6, 5, 4, 3, 2, 1, 0], [3, 73], []), ([16, 15, 14, 13, 12, 11, 10, 9, 8, 7, 6, 5, 4, 3, 2, 1, 0], [4, 73], []), ([21, 16, 15, 14, 13, 12, 11, 10, 9, 8, 7, 6, 5, 4, 3, 2, 1, 0], [78, 73], []), ([22, 21, 16, 15, 14, 13, 12, 11, 10, 9, 8, 7, 6, 5, 4, 3, 2, 1, 0], [79, 73], []), ([23, 22, 21, 16, 15, 14, 13, 12, 11, 10, 9, 8, 7, 6, 5, 4, 3, 2, 1, 0], [80, 73], []), ([24, 23, 22, 21, 20, 16, 15, 14, 13, 12, 11, 10, 9, 8, 7, 6, 5, 4, 3, 2, 1, 0], [77, 81, 73], []), ([25, 24, 23, 22, 21, 20, 16, 15, 14, 13, 12, 11, 10, 9, 8, 7, 6, 5, 4, 3, 2, 1, 0], [82, 73], []), ([26, 25, 24, 23, 22, 21, 20, 16, 15, 14, 13, 12, 11, 10, 9, 8, 7, 6, 5, 4, 3, 2, 1, 0], [83, 73], []), ([27, 26, 25, 24, 23, 22, 21, 20, 16, 15, 14, 13, 12, 11, 10, 9, 8, 7, 6, 5, 4, 3, 2, 1, 0], [84, 73], []), ([28, 27, 26, 25, 24, 23, 22, 21, 20, 16, 15, 14, 13, 12, 11, 10, 9, 8, 7, 6, 5, 4, 3, 2, 1, 0], [85, 73], []), ([29, 28, 27, 26, 25, 24, 23, 22, 21, 20, 19, 18, 17, 16, 15, 14, 13, 12, 11, 10, 9, 8, 7, 6, 5, 4, 3, 2, 1, 0], [76, 86, 73], []), ([30, 29, 28, 27, 26, 25, 24, 23, 22, 21, 20, 19, 18, 17, 16, 15, 14, 13, 12, 11, 10, 9, 8, 7, 6, 5, 4, 3, 2, 1, 0], [73, 87], []), ([31, 30, 29, 28, 27, 26, 25, 24, 23, 22, 21, 20, 19, 18, 17, 16, 15, 14, 13, 12, 11, 10, 9, 8, 7, 6, 5, 4, 3, 2, 1, 0], [88], [])] [] (constSt _) [10] [10, 57, 58, 59, 60, 61, 62, 63, 64, 65, 66, 67, 68, 69, 70, 71, 72, 73, 74, 75, 76, 77, 78, 79, 80, 81, 82, 83, 84, 85, 86, 87, 88] rfl VT.mix (by kernel_rfl) (by kernel_rfl) ?_
       refine DrawP_consL (acc' := [_]) (eqRes _) (good0 (fun γ => Needs_f (by kernel_rfl) (fun r8 h8 => Needs_nil (vopT rfl (V_move h8 ⟨rfl, rfl⟩))))) rfl ?_
       refine DrawP_consL (acc' := [_, _]) (eqRes _) (good0 (fun γ => Needs_f (by kernel_rfl) (fun r4 h4 => Needs_nil (vopT rfl (V_fieldAddr VT.fa49_3 h4 ⟨rfl, rfl⟩))))) rfl ?_
       refine DrawP_consL (acc' := [_, _, _]) (eqRes _) (good0 (fun γ => Needs_w 1 (by kernel_rfl) rfl (fun r58 h58 => Needs_nil (vopT rfl (V_load 1 VT.ty47 h58 rfl rfl ⟨rfl, rfl⟩))))) rfl ?_
       refine DrawP_consL (acc' := [_, _, _, _]) (eqRes _) (good0 (fun γ => Needs_w 2 (by kernel_rfl) rfl (fun r59 h59 => Needs_nil (vopT rfl (V_lenN (n := n.names.length) Try.underlying47 h59 (by simp) (fun hl60 => ⟨rfl, rfl⟩)))))) rfl ?_
       refine DrawP_consL (acc' := [_, _, _, _, _]) (eqRes _) (good0 (fun γ => Needs_w 0 (by kernel_rfl) rfl (fun r57 h57 => Needs_w 3 (by kernel_rfl) rfl (fun r60 h60 => Needs_nil (vopT rfl (V_bin h57 h60 rfl ⟨rfl, rfl⟩)))))) rfl ?_
       refine DrawP_consL (acc' := [_, _, _, _, _, _]) (eqRes _) (good0 (fun γ => Needs_w 4 (by kernel_rfl) rfl (fun r61 h61 => Needs_nil (vopT rfl (V_move h61 ⟨rfl, rfl⟩))))) rfl ?_
       refine DrawP_consL (acc' := [_, _, _, _, _, _, _]) (eqRes _) (good0 (fun γ => Needs_f (by kernel_rfl) (fun r4 h4 => Needs_w 5 (by kernel_rfl) rfl (fun r62 h62 => Needs_nil (vopT (want_of rfl rfl h62 hq62) (V_fieldAddr VT.fa49_0 h4 ⟨rfl, rfl⟩)))))) rfl ?_
       refine DrawP_consL (acc' := [_, _, _, _, _, _, _, _]) (eqRes _) (good0 (fun γ => Needs_w 6 (by kernel_rfl) rfl (fun r63 h63 => Needs_w 5 (by kernel_rfl) rfl (fun r62 h62 => Needs_nil (vopT (want_of rfl rfl h62 hq62) (V_load 1 VT.ty3 h63 rfl rfl ⟨rfl, rfl⟩)))))) rfl ?_
       refine DrawP_consL (acc' := [_, _, _, _, _, _, _, _, _]) (eqRes _) (good0 (fun γ => Needs_w 7 (by kernel_rfl) rfl (fun r64 h64 => Needs_w 5 (by kernel_rfl) rfl (fun r62 h62 => Needs_nil (vopT (want_of rfl rfl h62 hq62) (V_bin h64 rfl rfl ⟨rfl, rfl⟩)))))) rfl ?_
       refine DrawP_consL (acc' := [_, _, _, _, _, _, _, _, _, _]) (eqRes _) (good0 (fun γ => Needs_w 5 (by kernel_rfl) rfl (fun r62 h62 => Needs_w 8 (by kernel_rfl) rfl (fun r65 h65 => Needs_nil (vopT rfl (V_pickT h62 hq62 h65 ⟨rfl, rfl⟩)))))) rfl ?_
       refine DrawP_consL (acc' := [_, _, _, _, _, _, _, _, _, _, _]) (eqRes _) (good0 (fun γ => Needs_w 9 (by kernel_rfl) rfl (fun r66 h66 => Needs_nil (vopT rfl (V_move h66 ⟨rfl, rfl⟩))))) rfl ?_
       refine DrawP_consL (acc' := [_, _, _, _, _, _, _, _, _, _, _, _]) anyRes (good0 (fun γ => Needs_f (by kernel_rfl) (fun r4 h4 => Needs_w 10 (by kernel_rfl) rfl (fun r67 h67 => Needs_nil (vopF (skip_of rfl rfl h67 hq67) ⟨trivial, rfl⟩))))) rfl ?_
       refine DrawP_consL (acc' := [_, _, _, _, _, _, _, _, _, _, _, _, _]) anyRes (good0 (fun γ => Needs_w 11 (by kernel_rfl) rfl (fun r68 h68 => Needs_w 10 (by kernel_rfl) rfl (fun r67 h67 => Needs_nil (vopF (skip_of rfl rfl h67 hq67) ⟨trivial, rfl⟩))))) rfl ?_
       refine DrawP_consL (acc' := [_, _, _, _, _, _, _, _, _, _, _, _, _, _]) anyRes (good0 (fun γ => Needs_w 12 (by kernel_rfl) rfl (fun r69 h69 => Needs_w 10 (by kernel_rfl) rfl (fun r67 h67 => Needs_nil (vopF (skip_of rfl rfl h67 hq67) ⟨trivial, rfl⟩))))) rfl ?_
       refine DrawP_consL (acc' := [_, _, _, _, _, _, _, _, _, _, _, _, _, _, _]) anyRes (good0 (fun γ => Needs_w 13 (by kernel_rfl) rfl (fun r70 h70 => Needs_w 10 (by kernel_rfl) rfl (fun r67 h67 => Needs_nil (vopF (skip_of rfl rfl h67 hq67) ⟨trivial, rfl⟩))))) rfl ?_
       refine DrawP_consL (acc' := [_, _, _, _, _, _, _, _, _, _, _, _, _, _, _, _]) (eqRes _) (good0 (fun γ => Needs_w 10 (by kernel_rfl) rfl (fun r67 h67 => Needs_w 14 (by kernel_rfl) rfl (fun r71 h71 => Needs_nil (vopT rfl (V_pickF h67 hq67 rfl ⟨rfl, rfl⟩)))))) rfl ?_
       refine DrawP_consL (acc' := [_, _, _, _, _, _, _, _, _, _, _, _, _, _, _, _, _]) (eqRes _) (good0 (fun γ => Needs_w 15 (by kernel_rfl) rfl (fun r72 h72 => Needs_nil (vopT rfl (V_move h72 ⟨rfl, rfl⟩))))) rfl ?_
       refine DrawP_consL (acc' := [_, _, _, _, _, _, _, _, _, _, _, _, _, _, _, _, _, _]) anyRes (good0 (fun γ => Needs_f (by kernel_rfl) (fun r4 h4 => Needs_w 16 (by kernel_rfl) rfl (fun r73 h73 => Needs_nil (vopF (skip_of rfl rfl h73 rfl) ⟨trivial, rfl⟩))))) rfl ?_
       refine DrawP_consL (acc' := [_, _, _, _, _, _, _, _, _, _, _, _, _, _, _, _, _, _, _]) anyRes (good0 (fun γ => Needs_w 17 (by kernel_rfl) rfl (fun r74 h74 => Needs_w 16 (by kernel_rfl) rfl (fun r73 h73 => Needs_nil (vopF (skip_of rfl rfl h73 rfl) ⟨trivial, rfl⟩))))) rfl ?_
       refine DrawP_consL (acc' := [_, _, _, _, _, _, _, _, _, _, _, _, _, _, _, _, _, _, _, _]) anyRes (good0 (fun γ => Needs_w 18 (by kernel_rfl) rfl (fun r75 h75 => Needs_w 16 (by kernel_rfl) rfl (fun r73 h73 => Needs_nil (vopF (skip_of rfl rfl h73 rfl) ⟨trivial, rfl⟩))))) rfl ?_
       refine DrawP_consL (acc' := [_, _, _, _, _, _, _, _, _, _, _, _, _, _, _, _, _, _, _, _, _]) anyRes (good0 (fun γ => Needs_f (by kernel_rfl) (fun r3 h3 => Needs_w 16 (by kernel_rfl) rfl (fun r73 h73 => Needs_nil (vopF (skip_of rfl rfl h73 rfl) ⟨trivial, rfl⟩))))) rfl ?_
       refine DrawP_consL (acc' := [_, _, _, _, _, _, _, _, _, _, _, _, _, _, _, _, _, _, _, _, _, _]) anyRes (good0 (fun γ => Needs_f (by kernel_rfl) (fun r4 h4 => Needs_w 16 (by kernel_rfl) rfl (fun r73 h73 => Needs_nil (vopF (skip_of rfl rfl h73 rfl) ⟨trivial, rfl⟩))))) rfl ?_
       refine DrawP_consL (acc' := [_, _, _, _, _, _, _, _, _, _, _, _, _, _, _, _, _, _, _, _, _, _, _]) anyRes (good0 (fun γ => Needs_w 21 (by kernel_rfl) rfl (fun r78 h78 => Needs_w 16 (by kernel_rfl) rfl (fun r73 h73 => Needs_nil (vopF (skip_of rfl rfl h73 rfl) ⟨trivial, rfl⟩))))) rfl ?_
       refine DrawP_consL (acc' := [_, _, _, _, _, _, _, _, _, _, _, _, _, _, _, _, _, _, _, _, _, _, _, _]) anyRes (good0 (fun γ => Needs_w 22 (by kernel_rfl) rfl (fun r79 h79 => Needs_w 16 (by kernel_rfl) rfl (fun r73 h73 => Needs_nil (vopF (skip_of rfl rfl h73 rfl) ⟨trivial, rfl⟩))))) rfl ?_
       refine DrawP_consL (acc' := [_, _, _, _, _, _, _, _, _, _, _, _, _, _, _, _, _, _, _, _, _, _, _, _, _]) anyRes (good0 (fun γ => Needs_w 23 (by kernel_rfl) rfl (fun r80 h80 => Needs_w 16 (by kernel_rfl) rfl (fun r73 h73 => Needs_nil (vopF (skip_of rfl rfl h73 rfl) ⟨trivial, rfl⟩))))) rfl ?_
       refine DrawP_consL (acc' := [_, _, _, _, _, _, _, _, _, _, _, _, _, _, _, _, _, _, _, _, _, _, _, _, _, _]) anyRes (good0 (fun γ => Needs_w 20 (by kernel_rfl) rfl (fun r77 h77 => Needs_w 24 (by kernel_rfl) rfl (fun r81 h81 => Needs_w 16 (by kernel_rfl) rfl (fun r73 h73 => Needs_nil (vopF (skip_of rfl rfl h73 rfl) ⟨trivial, rfl⟩)))))) rfl ?_
       refine DrawP_consL (acc' := [_, _, _, _, _, _, _, _, _, _, _, _, _, _, _, _, _, _, _, _, _, _, _, _, _, _, _]) anyRes (good0 (fun γ => Needs_w 25 (by kernel_rfl) rfl (fun r82 h82 => Needs_w 16 (by kernel_rfl) rfl (fun r73 h73 => Needs_nil (vopF (skip_of rfl rfl h73 rfl) ⟨trivial, rfl⟩))))) rfl ?_
       refine DrawP_consL (acc' := [_, _, _, _, _, _, _, _, _, _, _, _, _, _, _, _, _, _, _, _, _, _, _, _, _, _, _, _]) anyRes (good0 (fun γ => Needs_w 26 (by kernel_rfl) rfl (fun r83 h83 => Needs_w 16 (by kernel_rfl) rfl (fun r73 h73 => Needs_nil (vopF (skip_of rfl rfl h73 rfl) ⟨trivial, rfl⟩))))) rfl ?_
       refine DrawP_consL (acc' := [_, _, _, _, _, _, _, _, _, _, _, _, _, _, _, _, _, _, _, _, _, _, _, _, _, _, _, _, _]) anyRes (good0 (fun γ => Needs_w 27 (by kernel_rfl) rfl (fun r84 h84 => Needs_w 16 (by kernel_rfl) rfl (fun r73 h73 => Needs_nil (vopF (skip_of rfl rfl h73 rfl) ⟨trivial, rfl⟩))))) rfl ?_
       refine DrawP_consL (acc' := [_, _, _, _, _, _, _, _, _, _, _, _, _, _, _, _, _, _, _, _, _, _, _, _, _, _, _, _, _, _]) anyRes (good0 (fun γ => Needs_w 28 (by kernel_rfl) rfl (fun r85 h85 => Needs_w 16 (by kernel_rfl) rfl (fun r73 h73 => Needs_nil (vopF (skip_of rfl rfl h73 rfl) ⟨trivial, rfl⟩))))) rfl ?_
       refine DrawP_consL (acc' := [_, _, _, _, _, _, _, _, _, _, _, _, _, _, _, _, _, _, _, _, _, _, _, _, _, _, _, _, _, _, _]) anyRes (good0 (fun γ => Needs_w 19 (by kernel_rfl) rfl (fun r76 h76 => Needs_w 29 (by kernel_rfl) rfl (fun r86 h86 => Needs_w 16 (by kernel_rfl) rfl (fun r73 h73 => Needs_nil (vopF (skip_of rfl rfl h73 rfl) ⟨trivial, rfl⟩)))))) rfl ?_
       refine DrawP_consL (acc' := [_, _, _, _, _, _, _, _, _, _, _, _, _, _, _, _, _, _, _, _, _, _, _, _, _, _, _, _, _, _, _, _]) (eqRes _) (good0 (fun γ => Needs_w 16 (by kernel_rfl) rfl (fun r73 h73 => Needs_w 30 (by kernel_rfl) rfl (fun r87 h87 => Needs_nil (vopT rfl (V_pickF h73 rfl rfl ⟨rfl, rfl⟩)))))) rfl ?_
       refine DrawP_consL (acc' := [_, _, _, _, _, _, _, _, _, _, _, _, _, _, _, _, _, _, _, _, _, _, _, _, _, _, _, _, _, _, _, _, _]) (eqRes _) (good0 (fun γ => Needs_w 31 (by kernel_rfl) rfl (fun r88 h88 => Needs_nil (vopT rfl (V_assign h88 ⟨rfl, rfl⟩))))) rfl ?_
       refine DrawP_nil (fun γ => Needs_w 32 (by kernel_rfl) rfl (fun r10 h10 => Needs_nil ?_))
       have e10 : r10 = some _ := h10
       subst e10
       clear h10
       refine Then_n ?_
       refine VW_seq ?_
       refine VW_region ?_
       refine VOps_cons rfl rfl (V_move rfl ?_)
       refine VOps_cons rfl rfl (V_move rfl ?_)
       refine VOps_cons rfl rfl (V_bin rfl rfl rfl ?_)
       refine VOps_cons rfl rfl (V_boolne Try.underlying4 rfl rfl ?_)
       refine VOps_cons rfl rfl (V_move rfl ?_)
       refine VOps_split (q := 93) rfl (fun hq93 => ?_) (fun hq93 => ?_)
       · exact absurd hq93 (by rw [hyy]; simp)
       ·
        refine VOps_cons (want_of rfl rfl rfl hq93) rfl (V_move rfl ?_)
        refine VOps_cons (want_of rfl rfl rfl hq93) rfl (V_bin rfl rfl rfl ?_)
        refine VOps_cons rfl rfl (V_pickF rfl hq93 rfl ?_)
        refine VOps_cons rfl rfl (V_move rfl ?_)
        refine VOps_split (q := 97) rfl (fun hq97 => ?_) (fun hq97 => ?_)
        · exact absurd (of_decide_eq_true hq97) (by omega)
        ·
         refine VOps_cons (want_of rfl rfl rfl hq97) rfl (V_move rfl ?_)
         refine VOps_cons (want_of rfl rfl rfl hq97) rfl (V_move rfl ?_)
         refine VOps_cons (want_of rfl rfl rfl hq97) rfl (V_bin rfl rfl rfl ?_)
         refine VOps_cons rfl rfl (V_pickF rfl hq97 rfl ?_)
         refine VOps_nil ?_
         refine Then_n ?_
         refine VW_condP rfl (fun h101 => ?_) (fun h101 => ?_)
         · omega
         ·
          refine VW_skip ?_
          refine InBlock_n (Then_n ?_)
          refine VW_region ?_
          refine VOps_cons rfl rfl (V_add rfl rfl (by omega) ?_)
          refine VOps_cons rfl rfl (V_move rfl ?_)
          refine VOps_nil ?_
          refine Then_n ?_
          exact ⟨i + 1, (by (try simp only []); omega), (by omega), ⟨rfl, rfl, rfl, rfl, rfl, rfl, trivial⟩, (Drops.keep (Drops.keep (Drops.keep (Drops.refl _))))⟩
     ·
      have hyy : (y == -1) = false := kidP hy2 ⟨fun h => (by cases h), fun h => by rw [h.1] at hq62; simp at hq62⟩
      refine VW_draw (G := Unit) [([], [8], []), ([], [4], []), ([1], [58], []), ([2, 1], [59], []), ([3, 2, 1, 0], [57, 60], []), ([4, 3, 2, 1, 0], [61], []), ([5, 4, 3, 2, 1, 0], [4, 62], []), ([6, 5, 4, 3, 2, 1, 0], [63, 62], []), ([7, 6, 5, 4, 3, 2, 1, 0], [64, 62], []), ([8, 7, 6, 5, 4, 3, 2, 1, 0], [62, 65], []), ([9, 8, 7, 6, 5, 4, 3, 2, 1, 0], [66], []), ([10, 9, 8, 7, 6, 5, 4, 3, 2, 1, 0], [4, 67], []), ([11, 10, 9, 8, 7, 6, 5, 4, 3, 2, 1, 0], [68, 67], []), ([12, 11, 10, 9, 8, 7, 6, 5, 4, 3, 2, 1, 0], [69, 67], []), ([13, 12, 11, 10, 9, 8, 7, 6, 5, 4, 3, 2, 1, 0], [70, 67], []), ([14, 13, 12, 11, 10, 9, 8, 7, 6, 5, 4, 3, 2, 1, 0], [67, 71], []), ([15, 14, 13, 12, 11, 10, 9, 8, 7, 6, 5, 4, 3, 2, 1, 0], [72], []), ([16, 15, 14, 13, 12, 11, 10, 9, 8, 7, 6, 5, 4, 3, 2, 1, 0], [4, 73], []), ([17, 16, 15, 14, 13, 12, 11, 10, 9, 8, 7, 6, 5, 4, 3, 2, 1, 0], [74, 73], []), ([18, 17, 16, 15, 14, 13, 12, 11, 10, 9, 8, 7, 6, 5, 4, 3, 2, 1, 0], [75, 73], []), ([16, 15, 14, 13, 12, 11, 10, 9, 8, 7, 6, 5, 4, 3, 2, 1, 0], [3, 73], []), ([16, 15, 14, 13, 12, 11, 10, 9, 8, 7, 6, 5, 4, 3, 2, 1, 0], [4, 73], []), ([21, 16, 15, 14, 13, 12, 11, 10, 9, 8, 7, 6, 5, 4, 3, 2, 1, 0], [78, 73], []), ([22, 21, 16, 15, 14, 13, 12, 11, 10, 9, 8, 7, 6, 5, 4, 3, 2, 1, 0], [79, 73], []), ([23, 22, 21, 16, 15, 14, 13, 12, 11, 10, 9, 8, 7, 6, 5, 4, 3, 2, 1, 0], [80, 73], []), ([24, 23, 22, 21, 20, 16, 15, 14, 13, 12, 11, 10, 9, 8, 7, 6, 5, 4, 3, 2, 1, 0], [77, 81, 73], []), ([25, 24, 23, 22, 21, 20, 16, 15, 14, 13, 12, 11, 10, 9, 8, 7, 6, 5, 4, 3, 2, 1, 0], [82, 73], []), ([26, 25, 24, 23, 22, 21, 20, 16, 15, 14, 13, 12, 11, 10, 9, 8, 7, 6, 5, 4, 3, 2, 1, 0], [83, 73], []), ([27, 26, 25, 24, 23, 22, 21, 20, 16, 15, 14, 13, 12, 11, 10, 9, 8, 7, 6, 5, 4, 3, 2, 1, 0], [84, 73], []), ([28, 27, 26, 25, 24, 23, 22, 21, 20, 16, 15, 14, 13, 12, 11, 10, 9, 8, 7, 6, 5, 4, 3, 2, 1, 0], [85, 73], []), ([29, 28, 27, 26, 25, 24, 23, 22, 21, 20, 19, 18, 17, 16, 15, 14, 13, 12, 11, 10, 9, 8, 7, 6, 5, 4, 3, 2, 1, 0], [76, 86, 73], []), ([30, 29, 28, 27, 26, 25, 24, 23, 22, 21, 20, 19, 18, 17, 16, 15, 14, 13, 12, 11, 10, 9, 8, 7, 6, 5, 4, 3, 2, 1, 0], [73, 87], []), ([31, 30, 29, 28, 27, 26, 25, 24, 23, 22, 21, 20, 19, 18, 17, 16, 15, 14, 13, 12, 11, 10, 9, 8, 7, 6, 5, 4, 3, 2, 1, 0], [88], [])] [] (constSt _) [10] [10, 57, 58, 59, 60, 61, 62, 63, 64, 65, 66, 67, 68, 69, 70, 71, 72, 73, 74, 75, 76, 77, 78, 79, 80, 81, 82, 83, 84, 85, 86, 87, 88] rfl VT.mix (by kernel_rfl) (by kernel_rfl) ?_
      refine DrawP_consL (acc' := [_]) (eqRes _) (good0 (fun γ => Needs_f (by kernel_rfl) (fun r8 h8 => Needs_nil (vopT rfl (V_move h8 ⟨rfl, rfl⟩))))) rfl ?_
      refine DrawP_consL (acc' := [_, _]) (eqRes _) (good0 (fun γ => Needs_f (by kernel_rfl) (fun r4 h4 => Needs_nil (vopT rfl (V_fieldAddr VT.fa49_3 h4 ⟨rfl, rfl⟩))))) rfl ?_
      refine DrawP_consL (acc' := [_, _, _]) (eqRes _) (good0 (fun γ => Needs_w 1 (by kernel_rfl) rfl (fun r58 h58 => Needs_nil (vopT rfl (V_load 1 VT.ty47 h58 rfl rfl ⟨rfl, rfl⟩))))) rfl ?_
      refine DrawP_consL (acc' := [_, _, _, _]) (eqRes _) (good0 (fun γ => Needs_w 2 (by kernel_rfl) rfl (fun r59 h59 => Needs_nil (vopT rfl (V_lenN (n := n.names.length) Try.underlying47 h59 (by simp) (fun hl60 => ⟨rfl, rfl⟩)))))) rfl ?_
      refine DrawP_consL (acc' := [_, _, _, _, _]) (eqRes _) (good0 (fun γ => Needs_w 0 (by kernel_rfl) rfl (fun r57 h57 => Needs_w 3 (by kernel_rfl) rfl (fun r60 h60 => Needs_nil (vopT rfl (V_bin h57 h60 rfl ⟨rfl, rfl⟩)))))) rfl ?_
      refine DrawP_consL (acc' := [_, _, _, _, _, _]) (eqRes _) (good0 (fun γ => Needs_w 4 (by kernel_rfl) rfl (fun r61 h61 => Needs_nil (vopT rfl (V_move h61 ⟨rfl, rfl⟩))))) rfl ?_
      refine DrawP_consL (acc' := [_, _, _, _, _, _, _]) anyRes (good0 (fun γ => Needs_f (by kernel_rfl) (fun r4 h4 => Needs_w 5 (by kernel_rfl) rfl (fun r62 h62 => Needs_nil (vopF (skip_of rfl rfl h62 hq62) ⟨trivial, rfl⟩))))) rfl ?_
      refine DrawP_consL (acc' := [_, _, _, _, _, _, _, _]) anyRes (good0 (fun γ => Needs_w 6 (by kernel_rfl) rfl (fun r63 h63 => Needs_w 5 (by kernel_rfl) rfl (fun r62 h62 => Needs_nil (vopF (skip_of rfl rfl h62 hq62) ⟨trivial, rfl⟩))))) rfl ?_
      refine DrawP_consL (acc' := [_, _, _, _, _, _, _, _, _]) anyRes (good0 (fun γ => Needs_w 7 (by kernel_rfl) rfl (fun r64 h64 => Needs_w 5 (by kernel_rfl) rfl (fun r62 h62 => Needs_nil (vopF (skip_of rfl rfl h62 hq62) ⟨trivial, rfl⟩))))) rfl ?_
      refine DrawP_consL (acc' := [_, _, _, _, _, _, _, _, _, _]) (eqRes _) (good0 (fun γ => Needs_w 5 (by kernel_rfl) rfl (fun r62 h62 => Needs_w 8 (by kernel_rfl) rfl (fun r65 h65 => Needs_nil (vopT rfl (V_pickF h62 hq62 rfl ⟨rfl, rfl⟩)))))) rfl ?_
      refine DrawP_consL (acc' := [_, _, _, _, _, _, _, _, _, _, _]) (eqRes _) (good0 (fun γ => Needs_w 9 (by kernel_rfl) rfl (fun r66 h66 => Needs_nil (vopT rfl (V_move h66 ⟨rfl, rfl⟩))))) rfl ?_
      refine DrawP_consL (acc' := [_, _, _, _, _, _, _, _, _, _, _, _]) anyRes (good0 (fun γ => Needs_f (by kernel_rfl) (fun r4 h4 => Needs_w 10 (by kernel_rfl) rfl (fun r67 h67 => Needs_nil (vopF (skip_of rfl rfl h67 rfl) ⟨trivial, rfl⟩))))) rfl ?_
      refine DrawP_consL (acc' := [_, _, _, _, _, _, _, _, _, _, _, _, _]) anyRes (good0 (fun γ => Needs_w 11 (by kernel_rfl) rfl (fun r68 h68 => Needs_w 10 (by kernel_rfl) rfl (fun r67 h67 => Needs_nil (vopF (skip_of rfl rfl h67 rfl) ⟨trivial, rfl⟩))))) rfl ?_
      refine DrawP_consL (acc' := [_, _, _, _, _, _, _, _, _, _, _, _, _, _]) anyRes (good0 (fun γ => Needs_w 12 (by kernel_rfl) rfl (fun r69 h69 => Needs_w 10 (by kernel_rfl) rfl (fun r67 h67 => Needs_nil (vopF (skip_of rfl rfl h67 rfl) ⟨trivial, rfl⟩))))) rfl ?_
      refine DrawP_consL (acc' := [_, _, _, _, _, _, _, _, _, _, _, _, _, _, _]) anyRes (good0 (fun γ => Needs_w 13 (by kernel_rfl) rfl (fun r70 h70 => Needs_w 10 (by kernel_rfl) rfl (fun r67 h67 => Needs_nil (vopF (skip_of rfl rfl h67 rfl) ⟨trivial, rfl⟩))))) rfl ?_
      refine DrawP_consL (acc' := [_, _, _, _, _, _, _, _, _, _, _, _, _, _, _, _]) (eqRes _) (good0 (fun γ => Needs_w 10 (by kernel_rfl) rfl (fun r67 h67 => Needs_w 14 (by kernel_rfl) rfl (fun r71 h71 => Needs_nil (vopT rfl (V_pickF h67 rfl rfl ⟨rfl, rfl⟩)))))) rfl ?_
      refine DrawP_consL (acc' := [_, _, _, _, _, _, _, _, _, _, _, _, _, _, _, _, _]) (eqRes _) (good0 (fun γ => Needs_w 15 (by kernel_rfl) rfl (fun r72 h72 => Needs_nil (vopT rfl (V_move h72 ⟨rfl, rfl⟩))))) rfl ?_
      refine DrawP_consL (acc' := [_, _, _, _, _, _, _, _, _, _, _, _, _, _, _, _, _, _]) anyRes (good0 (fun γ => Needs_f (by kernel_rfl) (fun r4 h4 => Needs_w 16 (by kernel_rfl) rfl (fun r73 h73 => Needs_nil (vopF (skip_of rfl rfl h73 rfl) ⟨trivial, rfl⟩))))) rfl ?_
      refine DrawP_consL (acc' := [_, _, _, _, _, _, _, _, _, _, _, _, _, _, _, _, _, _, _]) anyRes (good0 (fun γ => Needs_w 17 (by kernel_rfl) rfl (fun r74 h74 => Needs_w 16 (by kernel_rfl) rfl (fun r73 h73 => Needs_nil (vopF (skip_of rfl rfl h73 rfl) ⟨trivial, rfl⟩))))) rfl ?_
      refine DrawP_consL (acc' := [_, _, _, _, _, _, _, _, _, _, _, _, _, _, _, _, _, _, _, _]) anyRes (good0 (fun γ => Needs_w 18 (by kernel_rfl) rfl (fun r75 h75 => Needs_w 16 (by kernel_rfl) rfl (fun r73 h73 => Needs_nil (vopF (skip_of rfl rfl h73 rfl) ⟨trivial, rfl⟩))))) rfl ?_
      refine DrawP_consL (acc' := [_, _, _, _, _, _, _, _, _, _, _, _, _, _, _, _, _, _, _, _, _]) anyRes (good0 (fun γ => Needs_f (by kernel_rfl) (fun r3 h3 => Needs_w 16 (by kernel_rfl) rfl (fun r73 h73 => Needs_nil (vopF (skip_of rfl rfl h73 rfl) ⟨trivial, rfl⟩))))) rfl ?_
      refine DrawP_consL (acc' := [_, _, _, _, _, _, _, _, _, _, _, _, _, _, _, _, _, _, _, _, _, _]) anyRes (good0 (fun γ => Needs_f (by kernel_rfl) (fun r4 h4 => Needs_w 16 (by kernel_rfl) rfl (fun r73 h73 => Needs_nil (vopF (skip_of rfl rfl h73 rfl) ⟨trivial, rfl⟩))))) rfl ?_
      refine DrawP_consL (acc' := [_, _, _, _, _, _, _, _, _, _, _, _, _, _, _, _, _, _, _, _, _, _, _]) anyRes (good0 (fun γ => Needs_w 21 (by kernel_rfl) rfl (fun r78 h78 => Needs_w 16 (by kernel_rfl) rfl (fun r73 h73 => Needs_nil (vopF (skip_of rfl rfl h73 rfl) ⟨trivial, rfl⟩))))) rfl ?_
      refine DrawP_consL (acc' := [_, _, _, _, _, _, _, _, _, _, _, _, _, _, _, _, _, _, _, _, _, _, _, _]) anyRes (good0 (fun γ => Needs_w 22 (by kernel_rfl) rfl (fun r79 h79 => Needs_w 16 (by kernel_rfl) rfl (fun r73 h73 => Needs_nil (vopF (skip_of rfl rfl h73 rfl) ⟨trivial, rfl⟩))))) rfl ?_
      refine DrawP_consL (acc' := [_, _, _, _, _, _, _, _, _, _, _, _, _, _, _, _, _, _, _, _, _, _, _, _, _]) anyRes (good0 (fun γ => Needs_w 23 (by kernel_rfl) rfl (fun r80 h80 => Needs_w 16 (by kernel_rfl) rfl (fun r73 h73 => Needs_nil (vopF (skip_of rfl rfl h73 rfl) ⟨trivial, rfl⟩))))) rfl ?_
      refine DrawP_consL (acc' := [_, _, _, _, _, _, _, _, _, _, _, _, _, _, _, _, _, _, _, _, _, _, _, _, _, _]) anyRes (good0 (fun γ => Needs_w 20 (by kernel_rfl) rfl (fun r77 h77 => Needs_w 24 (by kernel_rfl) rfl (fun r81 h81 => Needs_w 16 (by kernel_rfl) rfl (fun r73 h73 => Needs_nil (vopF (skip_of rfl rfl h73 rfl) ⟨trivial, rfl⟩)))))) rfl ?_
      refine DrawP_consL (acc' := [_, _, _, _, _, _, _, _, _, _, _, _, _, _, _, _, _, _, _, _, _, _, _, _, _, _, _]) anyRes (good0 (fun γ => Needs_w 25 (by kernel_rfl) rfl (fun r82 h82 => Needs_w 16 (by kernel_rfl) rfl (fun r73 h73 => Needs_nil (vopF (skip_of rfl rfl h73 rfl) ⟨trivial, rfl⟩))))) rfl ?_
      refine DrawP_consL (acc' := [_, _, _, _, _, _, _, _, _, _, _, _, _, _, _, _, _, _, _, _, _, _, _, _, _, _, _, _]) anyRes (good0 (fun γ => Needs_w 26 (by kernel_rfl) rfl (fun r83 h83 => Needs_w 16 (by kernel_rfl) rfl (fun r73 h73 => Needs_nil (vopF (skip_of rfl rfl h73 rfl) ⟨trivial, rfl⟩))))) rfl ?_
      refine DrawP_consL (acc' := [_, _, _, _, _, _, _, _, _, _, _, _, _, _, _, _, _, _, _, _, _, _, _, _, _, _, _, _, _]) anyRes (good0 (fun γ => Needs_w 27 (by kernel_rfl) rfl (fun r84 h84 => Needs_w 16 (by kernel_rfl) rfl (fun r73 h73 => Needs_nil (vopF (skip_of rfl rfl h73 rfl) ⟨trivial, rfl⟩))))) rfl ?_
      refine DrawP_consL (acc' := [_, _, _, _, _, _, _, _, _, _, _, _, _, _, _, _, _, _, _, _, _, _, _, _, _, _, _, _, _, _]) anyRes (good0 (fun γ => Needs_w 28 (by kernel_rfl) rfl (fun r85 h85 => Needs_w 16 (by kernel_rfl) rfl (fun r73 h73 => Needs_nil (vopF (skip_of rfl rfl h73 rfl) ⟨trivial, rfl⟩))))) rfl ?_
      refine DrawP_consL (acc' := [_, _, _, _, _, _, _, _, _, _, _, _, _, _, _, _, _, _, _, _, _, _, _, _, _, _, _, _, _, _, _]) anyRes (good0 (fun γ => Needs_w 19 (by kernel_rfl) rfl (fun r76 h76 => Needs_w 29 (by kernel_rfl) rfl (fun r86 h86 => Needs_w 16 (by kernel_rfl) rfl (fun r73 h73 => Needs_nil (vopF (skip_of rfl rfl h73 rfl) ⟨trivial, rfl⟩)))))) rfl ?_
      refine DrawP_consL (acc' := [_, _, _, _, _, _, _, _, _, _, _, _, _, _, _, _, _, _, _, _, _, _, _, _, _, _, _, _, _, _, _, _]) (eqRes _) (good0 (fun γ => Needs_w 16 (by kernel_rfl) rfl (fun r73 h73 => Needs_w 30 (by kernel_rfl) rfl (fun r87 h87 => Needs_nil (vopT rfl (V_pickF h73 rfl rfl ⟨rfl, rfl⟩)))))) rfl ?_
      refine DrawP_consL (acc' := [_, _, _, _, _, _, _, _, _, _, _, _, _, _, _, _, _, _, _, _, _, _, _, _, _, _, _, _, _, _, _, _, _]) (eqRes _) (good0 (fun γ => Needs_w 31 (by kernel_rfl) rfl (fun r88 h88 => Needs_nil (vopT rfl (V_assign h88 ⟨rfl, rfl⟩))))) rfl ?_
      refine DrawP_nil (fun γ => Needs_w 32 (by kernel_rfl) rfl (fun r10 h10 => Needs_nil ?_))
      have e10 : r10 = some _ := h10
      subst e10
      clear h10
      refine Then_n ?_
      refine VW_seq ?_
      refine VW_region ?_
      refine VOps_cons rfl rfl (V_move rfl ?_)
      refine VOps_cons rfl rfl (V_move rfl ?_)
      refine VOps_cons rfl rfl (V_bin rfl rfl rfl ?_)
      refine VOps_cons rfl rfl (V_boolne Try.underlying4 rfl rfl ?_)
      refine VOps_cons rfl rfl (V_move rfl ?_)
      refine VOps_split (q := 93) rfl (fun hq93 => ?_) (fun hq93 => ?_)
      · exact absurd hq93 (by rw [hyy]; simp)
      ·
       refine VOps_cons (want_of rfl rfl rfl hq93) rfl (V_move rfl ?_)
       refine VOps_cons (want_of rfl rfl rfl hq93) rfl (V_bin rfl rfl rfl ?_)
       refine VOps_cons rfl rfl (V_pickF rfl hq93 rfl ?_)
       refine VOps_cons rfl rfl (V_move rfl ?_)
       refine VOps_split (q := 97) rfl (fun hq97 => ?_) (fun hq97 => ?_)
       · exact absurd (of_decide_eq_true hq97) (by omega)
       ·
        refine VOps_cons (want_of rfl rfl rfl hq97) rfl (V_move rfl ?_)
        refine VOps_cons (want_of rfl rfl rfl hq97) rfl (V_move rfl ?_)
        refine VOps_cons (want_of rfl rfl rfl hq97) rfl (V_bin rfl rfl rfl ?_)
        refine VOps_cons rfl rfl (V_pickF rfl hq97 rfl ?_)
        refine VOps_nil ?_
        refine Then_n ?_
        refine VW_condP rfl (fun h101 => ?_) (fun h101 => ?_)
        · omega
        ·
         refine VW_skip ?_
         refine InBlock_n (Then_n ?_)
         refine VW_region ?_
         refine VOps_cons rfl rfl (V_add rfl rfl (by omega) ?_)
         refine VOps_cons rfl rfl (V_move rfl ?_)
         refine VOps_nil ?_
         refine Then_n ?_
         exact ⟨i + 1, (by (try simp only []); omega), (by omega), ⟨rfl, rfl, rfl, rfl, rfl, rfl, trivial⟩, (Drops.keep (Drops.keep (Drops.keep (Drops.refl _))))⟩
    ·
     refine VW_exit ?_
     refine Then_e (Then_e (InBlock_hit ?_))
     refine Then_n ?_
     refine VW_seq ?_
     refine VW_region ?_
     refine VOps_cons rfl rfl (V_assign rfl ?_)
     refine VOps_nil ?_
     refine Then_n ?_
     refine VW_ret ?_
     refine VRet_one rfl (.tmp rfl) ?_
     exact ⟨_, Drops.drop (Drops.drop (Drops.refl _)), rfl, rfl⟩


set_option maxRecDepth 100000 in
set_option maxHeartbeats 2000000 in
theorem mcheck_c (ds : List DataSig) (t : Tab) (hb : buildF 0 ds [] = some t) (l : List MNode) (h0 : l.length ≠ 0) (h4 : l.length ≤ 4096) (hn : ∀ (k : Nat) n, l[k]? = some n → NodeP t ds n ∧ ∀ y ∈ n.kids, y < (k : Int)) : VPure Try.prog 22 [datasX ds, nodesX l] (.int 0) := by
 refine V_start (nt := 42) Try.func22 rfl rfl rfl ?_
 refine VW_seq ?_
 refine VW_region ?_
 refine VOps_cons rfl rfl (V_assign rfl ?_)
 refine VOps_nil ?_
 refine Then_n ?_
 refine VW_seq ?_
 refine VW_region ?_
 refine VOps_cons rfl rfl (V_move rfl ?_)
 refine VOps_cons rfl rfl (V_call [.tmp 11] [] _ rfl rfl VT.en30 (.refl _) (mindex_c ds t hb) ?_)
 rintro r Sa ⟨g0, tab, base, rfl, rfl, htr⟩
 refine VOps_cons rfl rfl (V_move rfl ?_)
 refine VOps_cons rfl rfl (V_extract rfl rfl ?_)
 refine VOps_cons rfl rfl (V_extract rfl rfl ?_)
 refine VOps_cons rfl rfl (V_assign rfl ?_)
 refine VOps_cons rfl rfl (V_assign rfl ?_)
 refine VOps_nil ?_
 refine Then_n ?_
 refine VW_seq ?_
 refine VW_block ?_
 refine VW_seq ?_
 refine VW_region ?_
 refine VOps_cons rfl rfl (V_move rfl ?_)
 refine VOps_cons rfl rfl (V_bin rfl rfl rfl ?_)
 refine VOps_cons rfl rfl (V_assign rfl ?_)
 refine VOps_nil ?_
 refine Then_n ?_
 refine VW_condF rfl (rfl) ?_
 refine VW_seq ?_
 refine VW_region ?_
 refine VOps_cons rfl rfl (V_move rfl ?_)
 refine VOps_cons rfl rfl (V_lenN (n := l.length) Try.underlying40 rfl (by simp) (fun hl21 => ?_))
 refine VOps_cons rfl rfl (V_bin rfl rfl rfl ?_)
 refine VOps_cons rfl rfl (V_assign rfl ?_)
 refine VOps_nil ?_
 refine Then_n ?_
 refine VW_condF rfl ((decide_eq_false (by omega))) ?_
 refine VW_seq ?_
 refine VW_region ?_
 refine VOps_cons rfl rfl (V_move rfl ?_)
 refine VOps_cons rfl rfl (V_lenN (n := l.length) Try.underlying40 rfl (by simp) (fun hl25 => ?_))
 refine VOps_cons rfl rfl (V_bin rfl rfl rfl ?_)
 refine VOps_cons rfl rfl (V_assign rfl ?_)
 refine VOps_nil ?_
 refine Then_n ?_
 refine VW_condF rfl ((beq_eq_false_iff_ne.2 (by omega))) ?_
 refine VW_skip ?_
 refine InBlock_n (Then_n ?_)
 refine VW_seq ?_
 refine VW_seq ?_
 refine VW_region ?_
 refine VOps_cons rfl rfl (V_move rfl ?_)
 refine VOps_cons rfl rfl (V_lenN (n := l.length) Try.underlying40 rfl (by simp) (fun hl28 => ?_))
 refine VOps_cons rfl rfl (V_move rfl ?_)
 refine VOps_nil ?_
 refine Then_n ?_
 refine VW_block ?_
 refine VW_loopF (ι := Nat) (fun k => l.length - k) (fun k => [(5, some (.raw (.map (some g0)))), (27, some (nodesX l)), (28, some (.int l.length)), (29, some (.int k))]) (fun k => [.map g0 (kmap kstr tab)]) (fun k => k ≤ l.length) 0 (Nat.zero_le _) ⟨rfl, rfl, rfl, rfl, trivial⟩ (Drops.keep (Drops.refl _)) ?_
 rintro k hk
 change k ≤ l.length at hk
 refine VW_seq ?_
 refine VW_region ?_
 refine VOps_cons rfl rfl (V_bin rfl rfl rfl ?_)
 refine VOps_nil ?_
 refine Then_n ?_
 refine VW_seq ?_
 refine VW_condP rfl (fun h30 => ?_) (fun h30 => ?_)
 ·
  obtain ⟨n, hnn⟩ := get_of_lt l k h30
  obtain ⟨hp1, hp2⟩ := hn k n hnn
  refine VW_skip ?_
  refine Then_n ?_
  refine VW_seq ?_
  refine VW_block ?_
  refine VW_seq ?_
  refine VW_region ?_
  refine VOps_cons rfl rfl (V_move rfl ?_)
  refine VOps_cons rfl rfl (V_indexAddr (el := nodeX n) VT.sl40 rfl rfl (by omega) (get_mapS _ hnn) (fun a32 => ?_))
  refine VOps_cons rfl rfl (V_load_ep_agg VT.ty49 rfl rfl ?_)
  refine VOps_cons rfl rfl (V_alloc VT.zr49 _ rfl rfl (fun g8 => ?_))
  refine VOps_cons rfl rfl (V_assign rfl ?_)
  refine VOps_cons rfl rfl (V_store_agg 0 VT.ty49 rfl rfl rfl rfl rfl ?_)
  refine VOps_nil ?_
  refine Then_n ?_
  refine VW_seq ?_
  refine VW_region ?_
  refine VOps_cons rfl rfl (V_move rfl ?_)
  refine VOps_cons rfl rfl (V_load_agg 0 VT.ty49 rfl rfl rfl ?_)
  refine VOps_cons rfl rfl (V_move rfl ?_)
  refine VOps_cons rfl rfl (V_callK 1 [.tmp 34, .tmp 35, .tmp 36] rfl rfl VT.en34 rfl (node_c g0 n k htr hp1 hp2) ?_)
  refine VOps_cons rfl rfl (V_assign rfl ?_)
  refine VOps_nil ?_
  refine Then_n ?_
  refine VW_seq ?_
  refine VW_region ?_
  refine VOps_cons rfl rfl (V_move rfl ?_)
  refine VOps_cons rfl rfl (V_bin rfl rfl rfl ?_)
  refine VOps_nil ?_
  refine Then_n ?_
  refine VW_condF rfl (rfl) ?_
  refine VW_skip ?_
  refine InBlock_n (Then_n ?_)
  refine VW_region ?_
  refine VOps_cons rfl rfl (V_add rfl rfl (by omega) ?_)
  refine VOps_cons rfl rfl (V_move rfl ?_)
  refine VOps_nil ?_
  refine Then_n ?_
  exact ⟨k + 1, (by (try simp only []); omega), (by omega), ⟨rfl, rfl, rfl, rfl, trivial⟩, (Drops.drop (Drops.keep (Drops.refl _)))⟩
 ·
  refine VW_exit ?_
  refine Then_e (Then_e (InBlock_hit ?_))
  refine Then_n ?_
  refine VW_seq ?_
  refine VW_region ?_
  refine VOps_cons rfl rfl (V_assign rfl ?_)
  refine VOps_nil ?_
  refine Then_n ?_
  refine VW_ret ?_
  refine VRet_one rfl (.tmp rfl) ?_
  rfl


end Go.Proofs.Ytmjeaagpcmfnpaa.W24
