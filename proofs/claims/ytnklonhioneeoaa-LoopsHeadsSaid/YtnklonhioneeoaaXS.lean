import Derived.Test.YtnklonhioneeoaaVK
import Derived.Test.YtnklonhioneeoaaVJ
import Derived.Test.YtnklonhioneeoaaVT
import Derived.Shelf.Slices.In.SortNone
set_option linter.unusedVariables false
namespace Go.Proofs.Ytnklonhioneeoaa.XS
open Go.VL Go.Proofs.Ytnklonhioneeoaa
def ren : Go.Shelf.Ren := ⟨fun n => match n with | 125 => 39 | 128 => 61 | 129 => 62 | 189 => 20 | 215 => 52 | 216 => 35 | 257 => 38 | 294 => 53 | 295 => 54 | 296 => 55 | 297 => 56 | 298 => 57 | 299 => 58 | 300 => 59 | 301 => 60 | 328 => 75 | 329 => 76 | 330 => 77 | 331 => 78 | 332 => 79 | 343 => 95 | _ => 0, fun n => match n with | 0 => 0 | 3 => 3 | 4 => 4 | 5 => 5 | 9 => 9 | 28 => 30 | 46 => 84 | 51 => 112 | 53 => 114 | 131 => 57 | 182 => 106 | 183 => 107 | 218 => 146 | 222 => 150 | 228 => 163 | 229 => 164 | _ => 0, fun n => n⟩
theorem lays : Lays.n189 Try.prog ren where
  mixed := VT.mix
  f125 := by kernel_rfl
  f128 := by kernel_rfl
  f129 := by kernel_rfl
  f189 := by kernel_rfl
  f215 := by kernel_rfl
  f216 := by kernel_rfl
  f257 := by kernel_rfl
  f294 := by kernel_rfl
  f295 := by kernel_rfl
  f296 := by kernel_rfl
  f297 := by kernel_rfl
  f298 := by kernel_rfl
  f299 := by kernel_rfl
  f300 := by kernel_rfl
  f301 := by kernel_rfl
  f328 := by kernel_rfl
  f329 := by kernel_rfl
  f330 := by kernel_rfl
  f331 := by kernel_rfl
  f332 := by kernel_rfl
  f343 := by kernel_rfl
  t0 := Try.underlying0
  a0 := Try.isAgg0
  z0 := Try.sizeOf0
  v0 := Try.zeroValue0
  t3 := Try.underlying3
  a3 := Try.isAgg3
  z3 := Try.sizeOf3
  v3 := Try.zeroValue3
  t4 := Try.underlying4
  a4 := Try.isAgg4
  z4 := Try.sizeOf4
  v4 := Try.zeroValue4
  t5 := Try.underlying5
  a5 := Try.isAgg5
  z5 := Try.sizeOf5
  v5 := Try.zeroValue5
  t9 := Try.underlying9
  a9 := Try.isAgg9
  z9 := Try.sizeOf9
  v9 := Try.zeroValue9
  t28 := Try.underlying30
  a28 := Try.isAgg30
  z28 := Try.sizeOf30
  v28 := Try.zeroValue30
  t46 := Try.underlying84
  a46 := Try.isAgg84
  z46 := Try.sizeOf84
  v46 := Try.zeroValue84
  t51 := Try.underlying112
  a51 := Try.isAgg112
  z51 := Try.sizeOf112
  v51 := Try.zeroValue112
  t53 := Try.underlying114
  a53 := Try.isAgg114
  z53 := Try.sizeOf114
  v53 := Try.zeroValue114
  t131 := Try.underlying57
  a131 := Try.isAgg57
  z131 := Try.sizeOf57
  v131 := Try.zeroValue57
  t182 := Try.underlying106
  a182 := Try.isAgg106
  z182 := Try.sizeOf106
  v182 := Try.zeroValue106
  t183 := Try.underlying107
  a183 := Try.isAgg107
  z183 := Try.sizeOf107
  v183 := Try.zeroValue107
  t218 := Try.underlying146
  a218 := Try.isAgg146
  z218 := Try.sizeOf146
  v218 := Try.zeroValue146
  t222 := Try.underlying150
  a222 := Try.isAgg150
  z222 := Try.sizeOf150
  v222 := Try.zeroValue150
  t228 := Try.underlying163
  a228 := Try.isAgg163
  z228 := Try.sizeOf163
  v228 := Try.zeroValue163
  t229 := Try.underlying164
  a229 := Try.isAgg164
  z229 := Try.sizeOf164
  v229 := Try.zeroValue164
theorem Sort_c (g cap : Nat) (T : TypeId) (l : List Int) (rest : List V) (hl : l.length ≤ 1000000) : VCalls Try.prog 20 [.raw (.slice (some ⟨g, 0, none⟩) l.length cap)] [.cells g T (l.map V.int ++ rest)] fun r S' => S' = [.cells g T ((l.mergeSort fun x y => decide (x ≤ y)).map V.int ++ rest)] :=
  sort_calls (fun blk off cap zs w h1 h2 h3 => Any.slices_Sort_int lays blk off cap zs w h1 h2 h3) g cap T l rest hl
def ren2 : Go.Shelf.Ren := ⟨fun n => match n with | 25 => 18 | 31 => 35 | 32 => 36 | 37 => 52 | _ => 0, fun n => match n with | 0 => 0 | 3 => 3 | 4 => 4 | 22 => 30 | 40 => 84 | _ => 0, fun n => n⟩
theorem lays2 : Lays2.n25 Try.prog ren2 where
  mixed := VT.mix
  f25 := by kernel_rfl
  f31 := by kernel_rfl
  f32 := by kernel_rfl
  f37 := by kernel_rfl
  t0 := Try.underlying0
  a0 := Try.isAgg0
  z0 := Try.sizeOf0
  v0 := Try.zeroValue0
  t3 := Try.underlying3
  a3 := Try.isAgg3
  z3 := Try.sizeOf3
  v3 := Try.zeroValue3
  t4 := Try.underlying4
  a4 := Try.isAgg4
  z4 := Try.sizeOf4
  v4 := Try.zeroValue4
  t22 := Try.underlying30
  a22 := Try.isAgg30
  z22 := Try.sizeOf30
  v22 := Try.zeroValue30
  t40 := Try.underlying84
  a40 := Try.isAgg84
  z40 := Try.sizeOf84
  v40 := Try.zeroValue84
theorem Bin_c (tok : Option Tok) (zs : List Int) (x : Int) (hne : zs ≠ []) (hl : zs.length ≤ 1000000) (hs : zs.Pairwise (· ≤ ·)) : VPure Try.prog 18 [.sl 1 tok (zs.map V.int), .int x] (.tup [.int (zs.countP (· < x) : Nat), .bool (zs.contains x)]) :=
  bin_pure (fun b off n c zs x w h1 h2 h3 h4 => Any.slices_BinarySearch_int lays2 b off n c zs x w h1 h2 h3 h4) tok zs x hne hl hs
end Go.Proofs.Ytnklonhioneeoaa.XS
