import Derived.Test.YtimmnbdajflgmaaVJ
import Derived.Test.YtimmnbdajflgmaaVT
import Derived.Shelf.Slices.In.SortNone
set_option linter.unusedVariables false
namespace Go.Proofs.Ytimmnbdajflgmaa.XS
open Go.VL Go.Proofs.Ytimmnbdajflgmaa
def ren : Go.Shelf.Ren := ⟨fun n => match n with | 125 => 47 | 128 => 68 | 129 => 69 | 189 => 29 | 215 => 95 | 216 => 65 | 257 => 46 | 294 => 59 | 295 => 60 | 296 => 61 | 297 => 62 | 298 => 63 | 299 => 64 | 300 => 66 | 301 => 67 | 328 => 90 | 329 => 91 | 330 => 92 | 331 => 93 | 332 => 94 | 343 => 109 | _ => 0, fun n => match n with | 0 => 0 | 3 => 3 | 4 => 4 | 5 => 5 | 9 => 9 | 28 => 36 | 46 => 100 | 51 => 138 | 53 => 140 | 131 => 135 | 182 => 130 | 183 => 131 | 218 => 162 | 222 => 166 | 228 => 177 | 229 => 178 | _ => 0, fun n => n⟩
theorem lays : Lays.n189 Try.prog ren where
  mixed := VT.mix
  f125 := by kernel_rfl
  f128 := by kernel_rfl
  f129 := by kernel_rfl
  f189 := by kernel_rfl
  f215 := by kernel_rfl
  f216 := by kernel_rfl
  f257 := by kernel_rfl
  f294 := by kernel_rfl
  f295 := by kernel_rfl
  f296 := by kernel_rfl
  f297 := by kernel_rfl
  f298 := by kernel_rfl
  f299 := by kernel_rfl
  f300 := by kernel_rfl
  f301 := by kernel_rfl
  f328 := by kernel_rfl
  f329 := by kernel_rfl
  f330 := by kernel_rfl
  f331 := by kernel_rfl
  f332 := by kernel_rfl
  f343 := by kernel_rfl
  t0 := Try.underlying0
  a0 := Try.isAgg0
  z0 := Try.sizeOf0
  v0 := Try.zeroValue0
  t3 := Try.underlying3
  a3 := Try.isAgg3
  z3 := Try.sizeOf3
  v3 := Try.zeroValue3
  t4 := Try.underlying4
  a4 := Try.isAgg4
  z4 := Try.sizeOf4
  v4 := Try.zeroValue4
  t5 := Try.underlying5
  a5 := Try.isAgg5
  z5 := Try.sizeOf5
  v5 := Try.zeroValue5
  t9 := Try.underlying9
  a9 := Try.isAgg9
  z9 := Try.sizeOf9
  v9 := Try.zeroValue9
  t28 := Try.underlying36
  a28 := Try.isAgg36
  z28 := Try.sizeOf36
  v28 := Try.zeroValue36
  t46 := Try.underlying100
  a46 := Try.isAgg100
  z46 := Try.sizeOf100
  v46 := Try.zeroValue100
  t51 := Try.underlying138
  a51 := Try.isAgg138
  z51 := Try.sizeOf138
  v51 := Try.zeroValue138
  t53 := Try.underlying140
  a53 := Try.isAgg140
  z53 := Try.sizeOf140
  v53 := Try.zeroValue140
  t131 := Try.underlying135
  a131 := Try.isAgg135
  z131 := Try.sizeOf135
  v131 := Try.zeroValue135
  t182 := Try.underlying130
  a182 := Try.isAgg130
  z182 := Try.sizeOf130
  v182 := Try.zeroValue130
  t183 := Try.underlying131
  a183 := Try.isAgg131
  z183 := Try.sizeOf131
  v183 := Try.zeroValue131
  t218 := Try.underlying162
  a218 := Try.isAgg162
  z218 := Try.sizeOf162
  v218 := Try.zeroValue162
  t222 := Try.underlying166
  a222 := Try.isAgg166
  z222 := Try.sizeOf166
  v222 := Try.zeroValue166
  t228 := Try.underlying177
  a228 := Try.isAgg177
  z228 := Try.sizeOf177
  v228 := Try.zeroValue177
  t229 := Try.underlying178
  a229 := Try.isAgg178
  z229 := Try.sizeOf178
  v229 := Try.zeroValue178
theorem Sort_c (g cap : Nat) (T : TypeId) (l : List Int) (rest : List V) (hl : l.length ≤ 1000000) : VCalls Try.prog 29 [.raw (.slice (some ⟨g, 0, none⟩) l.length cap)] [.cells g T (l.map V.int ++ rest)] fun r S' => S' = [.cells g T ((l.mergeSort fun x y => decide (x ≤ y)).map V.int ++ rest)] :=
  sort_calls (fun blk off cap zs w h1 h2 h3 => Any.slices_Sort_int lays blk off cap zs w h1 h2 h3) g cap T l rest hl
end Go.Proofs.Ytimmnbdajflgmaa.XS
