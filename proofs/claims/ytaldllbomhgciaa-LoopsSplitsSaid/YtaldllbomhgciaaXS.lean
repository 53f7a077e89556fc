import Derived.Test.YtaldllbomhgciaaVK
import Derived.Test.YtaldllbomhgciaaVJ
import Derived.Test.YtaldllbomhgciaaVT
import Derived.Shelf.Slices.In.SortNone
set_option linter.unusedVariables false
namespace Go.Proofs.Ytaldllbomhgciaa.XS
open Go.VL Go.Proofs.Ytaldllbomhgciaa
def ren : Go.Shelf.Ren := ⟨fun n => match n with | 125 => 45 | 128 => 69 | 129 => 70 | 189 => 30 | 215 => 60 | 216 => 41 | 257 => 44 | 294 => 61 | 295 => 62 | 296 => 63 | 297 => 64 | 298 => 65 | 299 => 66 | 300 => 67 | 301 => 68 | 328 => 82 | 329 => 83 | 330 => 84 | 331 => 85 | 332 => 86 | 343 => 96 | _ => 0, fun n => match n with | 0 => 0 | 3 => 3 | 4 => 4 | 5 => 5 | 9 => 9 | 28 => 38 | 46 => 96 | 51 => 132 | 53 => 113 | 131 => 81 | 182 => 126 | 183 => 127 | 218 => 158 | 222 => 162 | 228 => 170 | 229 => 171 | _ => 0, fun n => n⟩
theorem lays : Lays.n189 Try.prog ren where
  mixed := VT.mix
  f125 := by kernel_rfl
  f128 := by kernel_rfl
  f129 := by kernel_rfl
  f189 := by kernel_rfl
  f215 := by kernel_rfl
  f216 := by kernel_rfl
  f257 := by kernel_rfl
  f294 := by kernel_rfl
  f295 := by kernel_rfl
  f296 := by kernel_rfl
  f297 := by kernel_rfl
  f298 := by kernel_rfl
  f299 := by kernel_rfl
  f300 := by kernel_rfl
  f301 := by kernel_rfl
  f328 := by kernel_rfl
  f329 := by kernel_rfl
  f330 := by kernel_rfl
  f331 := by kernel_rfl
  f332 := by kernel_rfl
  f343 := by kernel_rfl
  t0 := Try.underlying0
  a0 := Try.isAgg0
  z0 := Try.sizeOf0
  v0 := Try.zeroValue0
  t3 := Try.underlying3
  a3 := Try.isAgg3
  z3 := Try.sizeOf3
  v3 := Try.zeroValue3
  t4 := Try.underlying4
  a4 := Try.isAgg4
  z4 := Try.sizeOf4
  v4 := Try.zeroValue4
  t5 := Try.underlying5
  a5 := Try.isAgg5
  z5 := Try.sizeOf5
  v5 := Try.zeroValue5
  t9 := Try.underlying9
  a9 := Try.isAgg9
  z9 := Try.sizeOf9
  v9 := Try.zeroValue9
  t28 := Try.underlying38
  a28 := Try.isAgg38
  z28 := Try.sizeOf38
  v28 := Try.zeroValue38
  t46 := Try.underlying96
  a46 := Try.isAgg96
  z46 := Try.sizeOf96
  v46 := Try.zeroValue96
  t51 := Try.underlying132
  a51 := Try.isAgg132
  z51 := Try.sizeOf132
  v51 := Try.zeroValue132
  t53 := Try.underlying113
  a53 := Try.isAgg113
  z53 := Try.sizeOf113
  v53 := Try.zeroValue113
  t131 := Try.underlying81
  a131 := Try.isAgg81
  z131 := Try.sizeOf81
  v131 := Try.zeroValue81
  t182 := Try.underlying126
  a182 := Try.isAgg126
  z182 := Try.sizeOf126
  v182 := Try.zeroValue126
  t183 := Try.underlying127
  a183 := Try.isAgg127
  z183 := Try.sizeOf127
  v183 := Try.zeroValue127
  t218 := Try.underlying158
  a218 := Try.isAgg158
  z218 := Try.sizeOf158
  v218 := Try.zeroValue158
  t222 := Try.underlying162
  a222 := Try.isAgg162
  z222 := Try.sizeOf162
  v222 := Try.zeroValue162
  t228 := Try.underlying170
  a228 := Try.isAgg170
  z228 := Try.sizeOf170
  v228 := Try.zeroValue170
  t229 := Try.underlying171
  a229 := Try.isAgg171
  z229 := Try.sizeOf171
  v229 := Try.zeroValue171
theorem Sort_c (g cap : Nat) (T : TypeId) (l : List Int) (rest : List V) (hl : l.length ≤ 1000000) : VCalls Try.prog 30 [.raw (.slice (some ⟨g, 0, none⟩) l.length cap)] [.cells g T (l.map V.int ++ rest)] fun r S' => S' = [.cells g T ((l.mergeSort fun x y => decide (x ≤ y)).map V.int ++ rest)] :=
  sort_calls (fun blk off cap zs w h1 h2 h3 => Any.slices_Sort_int lays blk off cap zs w h1 h2 h3) g cap T l rest hl
def ren2 : Go.Shelf.Ren := ⟨fun n => match n with | 25 => 28 | 31 => 41 | 32 => 42 | 37 => 60 | _ => 0, fun n => match n with | 0 => 0 | 3 => 3 | 4 => 4 | 22 => 38 | 40 => 96 | _ => 0, fun n => n⟩
theorem lays2 : Lays2.n25 Try.prog ren2 where
  mixed := VT.mix
  f25 := by kernel_rfl
  f31 := by kernel_rfl
  f32 := by kernel_rfl
  f37 := by kernel_rfl
  t0 := Try.underlying0
  a0 := Try.isAgg0
  z0 := Try.sizeOf0
  v0 := Try.zeroValue0
  t3 := Try.underlying3
  a3 := Try.isAgg3
  z3 := Try.sizeOf3
  v3 := Try.zeroValue3
  t4 := Try.underlying4
  a4 := Try.isAgg4
  z4 := Try.sizeOf4
  v4 := Try.zeroValue4
  t22 := Try.underlying38
  a22 := Try.isAgg38
  z22 := Try.sizeOf38
  v22 := Try.zeroValue38
  t40 := Try.underlying96
  a40 := Try.isAgg96
  z40 := Try.sizeOf96
  v40 := Try.zeroValue96
theorem Bin_c (tok : Option Tok) (zs : List Int) (x : Int) (hne : zs ≠ []) (hl : zs.length ≤ 1000000) (hs : zs.Pairwise (· ≤ ·)) : VPure Try.prog 28 [.sl 1 tok (zs.map V.int), .int x] (.tup [.int (zs.countP (· < x) : Nat), .bool (zs.contains x)]) :=
  bin_pure (fun b off n c zs x w h1 h2 h3 h4 => Any.slices_BinarySearch_int lays2 b off n c zs x w h1 h2 h3 h4) tok zs x hne hl hs
end Go.Proofs.Ytaldllbomhgciaa.XS
