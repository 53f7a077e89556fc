import Derived.Test.YtjekhhgjfelpgaaVJ
import Derived.Test.YtjekhhgjfelpgaaVT
import Derived.Shelf.Slices.In.SortNone
set_option linter.unusedVariables false
namespace Go.Proofs.Ytjekhhgjfelpgaa.XS
open Go.VL Go.Proofs.Ytjekhhgjfelpgaa
def ren : Go.Shelf.Ren := ⟨fun n => match n with | 125 => 37 | 128 => 58 | 129 => 59 | 189 => 27 | 215 => 81 | 216 => 55 | 257 => 36 | 294 => 49 | 295 => 50 | 296 => 51 | 297 => 52 | 298 => 53 | 299 => 54 | 300 => 56 | 301 => 57 | 328 => 76 | 329 => 77 | 330 => 78 | 331 => 79 | 332 => 80 | 343 => 90 | _ => 0, fun n => match n with | 0 => 0 | 3 => 3 | 4 => 4 | 5 => 5 | 9 => 9 | 28 => 26 | 46 => 84 | 51 => 125 | 53 => 91 | 131 => 122 | 182 => 116 | 183 => 117 | 218 => 139 | 222 => 143 | 228 => 151 | 229 => 152 | _ => 0, fun n => n⟩
theorem lays : Lays.n189 Try.prog ren where
  mixed := VT.mix
  f125 := by kernel_rfl
  f128 := by kernel_rfl
  f129 := by kernel_rfl
  f189 := by kernel_rfl
  f215 := by kernel_rfl
  f216 := by kernel_rfl
  f257 := by kernel_rfl
  f294 := by kernel_rfl
  f295 := by kernel_rfl
  f296 := by kernel_rfl
  f297 := by kernel_rfl
  f298 := by kernel_rfl
  f299 := by kernel_rfl
  f300 := by kernel_rfl
  f301 := by kernel_rfl
  f328 := by kernel_rfl
  f329 := by kernel_rfl
  f330 := by kernel_rfl
  f331 := by kernel_rfl
  f332 := by kernel_rfl
  f343 := by kernel_rfl
  t0 := Try.underlying0
  a0 := Try.isAgg0
  z0 := Try.sizeOf0
  v0 := Try.zeroValue0
  t3 := Try.underlying3
  a3 := Try.isAgg3
  z3 := Try.sizeOf3
  v3 := Try.zeroValue3
  t4 := Try.underlying4
  a4 := Try.isAgg4
  z4 := Try.sizeOf4
  v4 := Try.zeroValue4
  t5 := Try.underlying5
  a5 := Try.isAgg5
  z5 := Try.sizeOf5
  v5 := Try.zeroValue5
  t9 := Try.underlying9
  a9 := Try.isAgg9
  z9 := Try.sizeOf9
  v9 := Try.zeroValue9
  t28 := Try.underlying26
  a28 := Try.isAgg26
  z28 := Try.sizeOf26
  v28 := Try.zeroValue26
  t46 := Try.underlying84
  a46 := Try.isAgg84
  z46 := Try.sizeOf84
  v46 := Try.zeroValue84
  t51 := Try.underlying125
  a51 := Try.isAgg125
  z51 := Try.sizeOf125
  v51 := Try.zeroValue125
  t53 := Try.underlying91
  a53 := Try.isAgg91
  z53 := Try.sizeOf91
  v53 := Try.zeroValue91
  t131 := Try.underlying122
  a131 := Try.isAgg122
  z131 := Try.sizeOf122
  v131 := Try.zeroValue122
  t182 := Try.underlying116
  a182 := Try.isAgg116
  z182 := Try.sizeOf116
  v182 := Try.zeroValue116
  t183 := Try.underlying117
  a183 := Try.isAgg117
  z183 := Try.sizeOf117
  v183 := Try.zeroValue117
  t218 := Try.underlying139
  a218 := Try.isAgg139
  z218 := Try.sizeOf139
  v218 := Try.zeroValue139
  t222 := Try.underlying143
  a222 := Try.isAgg143
  z222 := Try.sizeOf143
  v222 := Try.zeroValue143
  t228 := Try.underlying151
  a228 := Try.isAgg151
  z228 := Try.sizeOf151
  v228 := Try.zeroValue151
  t229 := Try.underlying152
  a229 := Try.isAgg152
  z229 := Try.sizeOf152
  v229 := Try.zeroValue152
theorem Sort_c (g cap : Nat) (T : TypeId) (l : List Int) (rest : List V) (hl : l.length ≤ 1000000) : VCalls Try.prog 27 [.raw (.slice (some ⟨g, 0, none⟩) l.length cap)] [.cells g T (l.map V.int ++ rest)] fun r S' => S' = [.cells g T ((l.mergeSort fun x y => decide (x ≤ y)).map V.int ++ rest)] :=
  sort_calls (fun blk off cap zs w h1 h2 h3 => Any.slices_Sort_int lays blk off cap zs w h1 h2 h3) g cap T l rest hl
end Go.Proofs.Ytjekhhgjfelpgaa.XS
