import Derived.Test.YtpkbgamoboojaaaGreatWB
set_option linter.all false
section
namespace Go.Proofs.YtpkbgamoboojaaaGreat.W9
open Go.VL Go.PM Go.Proofs.YtpkbgamoboojaaaGreat W1 W2 W3 W4 W6 W8
theorem check_ok {ds : List DataSig} {rows : List (List Pat)} (h : checkF ds rows = 0) : VCalls Tryz.prog 23 [datasX ds, rowsX rows] [] λ r S' => ∃ g t, buildF 0 ds [] = some t /\ r = .tup [tabX ds g, .int 0] /\ S' = [tabO g t] := (check_c ds rows).mono λ r S' k => by
 rcases k with ⟨_, k⟩ | ⟨k, _⟩
 .exact k
 exact absurd h k
theorem check_bad {ds : List DataSig} {rows : List (List Pat)} (h : checkF ds rows ≠ 0) : VPure Tryz.prog 23 [datasX ds, rowsX rows] (.tup [.agg VT.zs83, .int (checkF ds rows)]) := (check_c ds rows).mono λ r S' k => by
 rcases k with ⟨k, _⟩ | ⟨_, k, _⟩
 .exact absurd k h
 exact k
def outV (r : List Pat × Int) : V := .tup [patsX r.1, .int r.2]
end Go.Proofs.YtpkbgamoboojaaaGreat.W9
end
section
namespace Go.Proofs.YtpkbgamoboojaaaGreat.W10
open Go.VL Go.PM Go.Proofs.YtpkbgamoboojaaaGreat W1 W2 W3 W4 W5 W6 W8 W9
set_option maxRecDepth 100000 in
theorem Check_c (ds : List DataSig) (rows : List (List Pat)) : VPure Tryz.prog 12 [datasX ds, rowsX rows] (.int (checkF ds rows)) := by
 refine V_start (nt := 14) Tryz.func12 rfl rfl rfl ?_
 refine Zb (Zd (Zc (Zk rfl (Za (Zi (Zb (Zd (Zc (Zl rfl (Zc (Zl rfl ?_)))))))))))
 rcases Decidable.em (checkF ds rows = 0) with he | he
 .
  refine Zc (Zm3 [.tmp 8, .tmp 9] [] _ rfl rfl VT.en23 (.refl _) (check_ok he) ?_)
  rintro r Sa ⟨g, t, hb, rfl, rfl⟩
  refine Zc (Zl rfl (Zc (Zg2 rfl rfl (Zc (Zg2 rfl rfl ?_)))))
  refine Zc (Zb2 VT.zr83 _ rfl rfl (λ g5 => ?_))
  refine Zc (Zx 0 VT.ty83 rfl rfl rfl rfl rfl (Zc (Zk rfl (Za (Zi (Zb (Zd (Zc (Zl rfl (Zc (Zk rfl (Za (Zi (Zf1 ?_))))))))))))))
  refine Zg1 rfl (.tmp rfl) ?_
  rw [he]
 refine Zc (Zx1 [.tmp 8, .tmp 9] rfl rfl VT.en23 (check_bad he) ?_)
 refine Zc (Zl rfl (Zc (Zg2 rfl rfl (Zc (Zg2 rfl rfl ?_)))))
 refine Zc (Zb2 VT.zr83 _ rfl rfl (λ g5 => ?_))
 refine Zc (Zx 0 VT.ty83 rfl rfl rfl rfl rfl (Zc (Zk rfl (Za (Zi (Zb (Zd (Zc (Zl rfl (Zc (Zk rfl (Za (Zi (Zf1 ?_))))))))))))))
 refine Zg1 rfl (.tmp rfl) ?_
 rfl
end Go.Proofs.YtpkbgamoboojaaaGreat.W10
end
