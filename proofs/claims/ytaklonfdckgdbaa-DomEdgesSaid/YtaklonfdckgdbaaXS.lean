/- slices.Sort of ints: the library's contract at this program's numbers. -/
import Derived.Test.YtaklonfdckgdbaaVJ
import Derived.Test.YtaklonfdckgdbaaVT
import Derived.Shelf.Slices.In.SortNone
set_option linter.unusedVariables false
namespace Go.Proofs.Ytaklonfdckgdbaa.XS
open Go.VL Go.Proofs.Ytaklonfdckgdbaa
def ren : Go.Shelf.Ren := ⟨fun n => match n with | 125 => 43 | 128 => 68 | 129 => 69 | 189 => 22 | 215 => 80 | 216 => 65 | 257 => 42 | 294 => 59 | 295 => 60 | 296 => 61 | 297 => 62 | 298 => 63 | 299 => 64 | 300 => 66 | 301 => 67 | 328 => 75 | 329 => 76 | 330 => 77 | 331 => 78 | 332 => 79 | 343 => 90 | _ => 0, fun n => match n with | 0 => 0 | 3 => 3 | 4 => 4 | 5 => 5 | 9 => 9 | 28 => 29 | 46 => 96 | 51 => 124 | 53 => 84 | 131 => 105 | 182 => 117 | 183 => 118 | 218 => 140 | 222 => 144 | 228 => 152 | 229 => 153 | _ => 0, fun n => n⟩
theorem lays : Lays.n189 Try.prog ren where
  mixed := VT.mix
  f125 := by kernel_rfl
  f128 := by kernel_rfl
  f129 := by kernel_rfl
  f189 := by kernel_rfl
  f215 := by kernel_rfl
  f216 := by kernel_rfl
  f257 := by kernel_rfl
  f294 := by kernel_rfl
  f295 := by kernel_rfl
  f296 := by kernel_rfl
  f297 := by kernel_rfl
  f298 := by kernel_rfl
  f299 := by kernel_rfl
  f300 := by kernel_rfl
  f301 := by kernel_rfl
  f328 := by kernel_rfl
  f329 := by kernel_rfl
  f330 := by kernel_rfl
  f331 := by kernel_rfl
  f332 := by kernel_rfl
  f343 := by kernel_rfl
  t0 := Try.underlying0
  a0 := Try.isAgg0
  z0 := Try.sizeOf0
  v0 := Try.zeroValue0
  t3 := Try.underlying3
  a3 := Try.isAgg3
  z3 := Try.sizeOf3
  v3 := Try.zeroValue3
  t4 := Try.underlying4
  a4 := Try.isAgg4
  z4 := Try.sizeOf4
  v4 := Try.zeroValue4
  t5 := Try.underlying5
  a5 := Try.isAgg5
  z5 := Try.sizeOf5
  v5 := Try.zeroValue5
  t9 := Try.underlying9
  a9 := Try.isAgg9
  z9 := Try.sizeOf9
  v9 := Try.zeroValue9
  t28 := Try.underlying29
  a28 := Try.isAgg29
  z28 := Try.sizeOf29
  v28 := Try.zeroValue29
  t46 := Try.underlying96
  a46 := Try.isAgg96
  z46 := Try.sizeOf96
  v46 := Try.zeroValue96
  t51 := Try.underlying124
  a51 := Try.isAgg124
  z51 := Try.sizeOf124
  v51 := Try.zeroValue124
  t53 := Try.underlying84
  a53 := Try.isAgg84
  z53 := Try.sizeOf84
  v53 := Try.zeroValue84
  t131 := Try.underlying105
  a131 := Try.isAgg105
  z131 := Try.sizeOf105
  v131 := Try.zeroValue105
  t182 := Try.underlying117
  a182 := Try.isAgg117
  z182 := Try.sizeOf117
  v182 := Try.zeroValue117
  t183 := Try.underlying118
  a183 := Try.isAgg118
  z183 := Try.sizeOf118
  v183 := Try.zeroValue118
  t218 := Try.underlying140
  a218 := Try.isAgg140
  z218 := Try.sizeOf140
  v218 := Try.zeroValue140
  t222 := Try.underlying144
  a222 := Try.isAgg144
  z222 := Try.sizeOf144
  v222 := Try.zeroValue144
  t228 := Try.underlying152
  a228 := Try.isAgg152
  z228 := Try.sizeOf152
  v228 := Try.zeroValue152
  t229 := Try.underlying153
  a229 := Try.isAgg153
  z229 := Try.sizeOf153
  v229 := Try.zeroValue153
theorem Sort_c (g cap : Nat) (T : TypeId) (l : List Int) (rest : List V) (hl : l.length ≤ 1000000) : VCalls Try.prog 22 [.raw (.slice (some ⟨g, 0, none⟩) l.length cap)] [.cells g T (l.map V.int ++ rest)] fun r S' => S' = [.cells g T ((l.mergeSort fun x y => decide (x ≤ y)).map V.int ++ rest)] :=
  sort_calls (fun blk off cap zs w h1 h2 h3 => Any.slices_Sort_int lays blk off cap zs w h1 h2 h3) g cap T l rest hl
end Go.Proofs.Ytaklonfdckgdbaa.XS
