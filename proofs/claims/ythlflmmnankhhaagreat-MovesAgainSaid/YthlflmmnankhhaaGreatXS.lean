import Derived.Test.YthlflmmnankhhaaGreatVJ
import Derived.Test.YthlflmmnankhhaaGreatVT
import Derived.Shelf.Slices.In.SortNone
set_option linter.all false
namespace Go.Proofs.YthlflmmnankhhaaGreat.XS
open Go.VL Go.Proofs.YthlflmmnankhhaaGreat Tryz
def ren:Go.Shelf.Ren:=⟨λ n=>match n with | 125=>42 | 128=>71 | 129=>72 | 189=>21 | 215=>96 | 216=>68 | 257=>41 | 294=>62 | 295=>63 | 296=>64 | 297=>65 | 298=>66 | 299=>67 | 300=>69 | 301=>70 | 328=>91 | 329=>92 | 330=>93 | 331=>94 | 332=>95 | 343=>120 | _=>0,λn=>match n with | 0=>0 | 3=>3 | 4=>4 | 5=>5 | 9=>9 | 28=>32 | 46=>84 | 51=>124 | 53=>126 | 131=>121 | 182=>115 | 183=>116 | 218=>157 | 222=>161 | 228=>180 | 229=>181 | _=>0,λn=>n⟩
theorem lays:Lays.n189 prog ren where
  mixed:=VT.mix
  f125:=by kernel_rfl
  f128:=by kernel_rfl
  f129:=by kernel_rfl
  f189:=by kernel_rfl
  f215:=by kernel_rfl
  f216:=by kernel_rfl
  f257:=by kernel_rfl
  f294:=by kernel_rfl
  f295:=by kernel_rfl
  f296:=by kernel_rfl
  f297:=by kernel_rfl
  f298:=by kernel_rfl
  f299:=by kernel_rfl
  f300:=by kernel_rfl
  f301:=by kernel_rfl
  f328:=by kernel_rfl
  f329:=by kernel_rfl
  f330:=by kernel_rfl
  f331:=by kernel_rfl
  f332:=by kernel_rfl
  f343:=by kernel_rfl
  t0:=underlying0
  a0:=Tryz.isAgg0
  z0:=Tryz.sizeOf0
  v0:=Tryz.zeroValue0
  t3:=underlying3
  a3:=Tryz.isAgg3
  z3:=Tryz.sizeOf3
  v3:=Tryz.zeroValue3
  t4:=underlying4
  a4:=Tryz.isAgg4
  z4:=Tryz.sizeOf4
  v4:=Tryz.zeroValue4
  t5:=underlying5
  a5:=Tryz.isAgg5
  z5:=Tryz.sizeOf5
  v5:=Tryz.zeroValue5
  t9:=underlying9
  a9:=Tryz.isAgg9
  z9:=Tryz.sizeOf9
  v9:=Tryz.zeroValue9
  t28:=underlying32
  a28:=Tryz.isAgg32
  z28:=Tryz.sizeOf32
  v28:=Tryz.zeroValue32
  t46:=underlying84
  a46:=Tryz.isAgg84
  z46:=Tryz.sizeOf84
  v46:=Tryz.zeroValue84
  t51:=underlying124
  a51:=Tryz.isAgg124
  z51:=Tryz.sizeOf124
  v51:=Tryz.zeroValue124
  t53:=underlying126
  a53:=Tryz.isAgg126
  z53:=Tryz.sizeOf126
  v53:=Tryz.zeroValue126
  t131:=underlying121
  a131:=Tryz.isAgg121
  z131:=Tryz.sizeOf121
  v131:=Tryz.zeroValue121
  t182:=underlying115
  a182:=Tryz.isAgg115
  z182:=Tryz.sizeOf115
  v182:=Tryz.zeroValue115
  t183:=underlying116
  a183:=Tryz.isAgg116
  z183:=Tryz.sizeOf116
  v183:=Tryz.zeroValue116
  t218:=underlying157
  a218:=Tryz.isAgg157
  z218:=Tryz.sizeOf157
  v218:=Tryz.zeroValue157
  t222:=underlying161
  a222:=Tryz.isAgg161
  z222:=Tryz.sizeOf161
  v222:=Tryz.zeroValue161
  t228:=underlying180
  a228:=Tryz.isAgg180
  z228:=Tryz.sizeOf180
  v228:=Tryz.zeroValue180
  t229:=underlying181
  a229:=Tryz.isAgg181
  z229:=Tryz.sizeOf181
  v229:=Tryz.zeroValue181
theorem Ae1 (g cap:Nat)(T:TypeId)(l:List Int)(rest:List V)(hl:l.length<=1000000):AH prog 21 [.raw (.slice (some ⟨g,0,none⟩) l.length cap)] [.cells g T (l.map V.int++rest)] λr S'=>S'= [.cells g T ((l.mergeSort λx y=>decide (x<=y)).map V.int++rest)]:=
  Ub (λ blk off cap zs w h1 h2 h3=>Any.slices_Sort_int lays blk off cap zs w h1 h2 h3) g cap T l rest hl
end Go.Proofs.YthlflmmnankhhaaGreat.XS
