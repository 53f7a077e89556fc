import Derived.Test.YtjekhhgjfelpgaaGreatVY2
import Derived.Test.YtjekhhgjfelpgaaGreatProg
set_option linter.all false
namespace Go.Proofs.YtjekhhgjfelpgaaGreat.VT
open Go.VL
theorem ty1 : LeafTy Tryz.prog 1 := ⟨⟨_, Tryz.underlying1, rfl⟩, by kernel_rfl⟩
theorem ty2 : LeafTy Tryz.prog 2 := ⟨⟨_, Tryz.underlying2, rfl⟩, by kernel_rfl⟩
theorem ty3 : LeafTy Tryz.prog 3 := ⟨⟨_, Tryz.underlying3, rfl⟩, by kernel_rfl⟩
theorem zr3 : (Tryz.prog.info? 3).map (·.zero) = some (some (.int .i64 0)) := by kernel_rfl
theorem ty4 : LeafTy Tryz.prog 4 := ⟨⟨_, Tryz.underlying4, rfl⟩, by kernel_rfl⟩
theorem ty22 : LeafTy Tryz.prog 22 := ⟨⟨_, Tryz.underlying22, rfl⟩, by kernel_rfl⟩
theorem sl22 : SliceTy Tryz.prog 22 34 2 32 (.agg #[(.int .i64 0), (.slice none 0 0)]) := ⟨Tryz.underlying22, info_all (by kernel_rfl), rfl, by decide⟩
theorem ty24 : AggTy Tryz.prog 24 2 := ⟨⟨_, Tryz.underlying24, rfl⟩, by kernel_rfl⟩
theorem fa24_0 : FieldTy Tryz.prog 24 0 0 1 false := ⟨⟨_, _, Tryz.underlying24, rfl, rfl, by kernel_rfl, ⟨_, Tryz.underlying22, rfl⟩, by decide⟩⟩
theorem fa24_1 : FieldTy Tryz.prog 24 1 1 1 false := ⟨⟨_, _, Tryz.underlying24, rfl, rfl, by kernel_rfl, ⟨_, Tryz.underlying3, rfl⟩, by decide⟩⟩
def zs24 : List V := [(.raw (.slice none 0 0)), (.raw (.int .i64 0))]
theorem st24 : StructTy Tryz.prog 24 [(0, 1), (1, 1)] zs24 := by
  obtain ⟨i, h1, h2⟩ : ∃ i, Tryz.prog.info? 24 = some i ∧ i.zero = some (.agg #[(.slice none 0 0), (.int .i64 0)]) := info_zero (by kernel_rfl)
  exact ⟨⟨_, i, _, Tryz.underlying24, h1, h2, by kernel_rfl, rfl⟩, rfl⟩
theorem zr24 : (Tryz.prog.info? 24).map (·.zero) = some (some (.agg #[(.slice none 0 0), (.int .i64 0)])) := by kernel_rfl
theorem ty32 : LeafTy Tryz.prog 32 := ⟨⟨_, Tryz.underlying32, rfl⟩, by kernel_rfl⟩
theorem sl32 : SliceTy Tryz.prog 32 50 7 120 (.agg #[(.slice none 0 0), (.slice none 0 0), (.int .i64 0), (.int .i64 0), (.int .i64 0), (.slice none 0 0), (.slice none 0 0)]) := ⟨Tryz.underlying32, info_all (by kernel_rfl), rfl, by decide⟩
theorem ty34 : AggTy Tryz.prog 34 2 := ⟨⟨_, Tryz.underlying34, rfl⟩, by kernel_rfl⟩
theorem fa34_0 : FieldTy Tryz.prog 34 0 0 1 false := ⟨⟨_, _, Tryz.underlying34, rfl, rfl, by kernel_rfl, ⟨_, Tryz.underlying3, rfl⟩, by decide⟩⟩
theorem fa34_1 : FieldTy Tryz.prog 34 1 1 1 false := ⟨⟨_, _, Tryz.underlying34, rfl, rfl, by kernel_rfl, ⟨_, Tryz.underlying32, rfl⟩, by decide⟩⟩
def zs34 : List V := [(.raw (.int .i64 0)), (.raw (.slice none 0 0))]
theorem st34 : StructTy Tryz.prog 34 [(0, 1), (1, 1)] zs34 := by
  obtain ⟨i, h1, h2⟩ : ∃ i, Tryz.prog.info? 34 = some i ∧ i.zero = some (.agg #[(.int .i64 0), (.slice none 0 0)]) := info_zero (by kernel_rfl)
  exact ⟨⟨_, i, _, Tryz.underlying34, h1, h2, by kernel_rfl, rfl⟩, rfl⟩
theorem zr34 : (Tryz.prog.info? 34).map (·.zero) = some (some (.agg #[(.int .i64 0), (.slice none 0 0)])) := by kernel_rfl
theorem sl35 : SliceTy Tryz.prog 35 43 3 40 (.agg #[(.int .i64 0), (.slice none 0 0), (.int .i64 0)]) := ⟨Tryz.underlying35, info_all (by kernel_rfl), rfl, by decide⟩
theorem sl38 : SliceTy Tryz.prog 38 41 1 24 (.slice none 0 0) := ⟨Tryz.underlying38, info_all (by kernel_rfl), rfl, by decide⟩
theorem ty41 : LeafTy Tryz.prog 41 := ⟨⟨_, Tryz.underlying41, rfl⟩, by kernel_rfl⟩
theorem zr41 : (Tryz.prog.info? 41).map (·.zero) = some (some (.slice none 0 0)) := by kernel_rfl
theorem sl41 : SliceTy Tryz.prog 41 3 1 8 (.int .i64 0) := ⟨Tryz.underlying41, info_all (by kernel_rfl), rfl, by decide⟩
theorem ty43 : AggTy Tryz.prog 43 3 := ⟨⟨_, Tryz.underlying43, rfl⟩, by kernel_rfl⟩
theorem fa43_0 : FieldTy Tryz.prog 43 0 0 1 false := ⟨⟨_, _, Tryz.underlying43, rfl, rfl, by kernel_rfl, ⟨_, Tryz.underlying3, rfl⟩, by decide⟩⟩
theorem fa43_1 : FieldTy Tryz.prog 43 1 1 1 false := ⟨⟨_, _, Tryz.underlying43, rfl, rfl, by kernel_rfl, ⟨_, Tryz.underlying41, rfl⟩, by decide⟩⟩
theorem fa43_2 : FieldTy Tryz.prog 43 2 2 1 false := ⟨⟨_, _, Tryz.underlying43, rfl, rfl, by kernel_rfl, ⟨_, Tryz.underlying3, rfl⟩, by decide⟩⟩
def zs43 : List V := [(.raw (.int .i64 0)), (.raw (.slice none 0 0)), (.raw (.int .i64 0))]
theorem st43 : StructTy Tryz.prog 43 [(0, 1), (1, 1), (2, 1)] zs43 := by
  obtain ⟨i, h1, h2⟩ : ∃ i, Tryz.prog.info? 43 = some i ∧ i.zero = some (.agg #[(.int .i64 0), (.slice none 0 0), (.int .i64 0)]) := info_zero (by kernel_rfl)
  exact ⟨⟨_, i, _, Tryz.underlying43, h1, h2, by kernel_rfl, rfl⟩, rfl⟩
theorem zr43 : (Tryz.prog.info? 43).map (·.zero) = some (some (.agg #[(.int .i64 0), (.slice none 0 0), (.int .i64 0)])) := by kernel_rfl
theorem ty45 : LeafTy Tryz.prog 45 := ⟨⟨_, Tryz.underlying45, rfl⟩, by kernel_rfl⟩
theorem sl45 : SliceTy Tryz.prog 45 79 2 32 (.agg #[(.int .i64 0), (.slice none 0 0)]) := ⟨Tryz.underlying45, info_all (by kernel_rfl), rfl, by decide⟩
theorem ty47 : AggTy Tryz.prog 47 5 := ⟨⟨_, Tryz.underlying47, rfl⟩, by kernel_rfl⟩
theorem fa47_0 : FieldTy Tryz.prog 47 0 0 1 false := ⟨⟨_, _, Tryz.underlying47, rfl, rfl, by kernel_rfl, ⟨_, Tryz.underlying3, rfl⟩, by decide⟩⟩
theorem fa47_1 : FieldTy Tryz.prog 47 1 1 1 false := ⟨⟨_, _, Tryz.underlying47, rfl, rfl, by kernel_rfl, ⟨_, Tryz.underlying3, rfl⟩, by decide⟩⟩
theorem fa47_2 : FieldTy Tryz.prog 47 2 2 1 false := ⟨⟨_, _, Tryz.underlying47, rfl, rfl, by kernel_rfl, ⟨_, Tryz.underlying3, rfl⟩, by decide⟩⟩
theorem fa47_3 : FieldTy Tryz.prog 47 3 3 1 false := ⟨⟨_, _, Tryz.underlying47, rfl, rfl, by kernel_rfl, ⟨_, Tryz.underlying41, rfl⟩, by decide⟩⟩
theorem fa47_4 : FieldTy Tryz.prog 47 4 4 1 false := ⟨⟨_, _, Tryz.underlying47, rfl, rfl, by kernel_rfl, ⟨_, Tryz.underlying45, rfl⟩, by decide⟩⟩
def zs47 : List V := [(.raw (.int .i64 0)), (.raw (.int .i64 0)), (.raw (.int .i64 0)), (.raw (.slice none 0 0)), (.raw (.slice none 0 0))]
theorem st47 : StructTy Tryz.prog 47 [(0, 1), (1, 1), (2, 1), (3, 1), (4, 1)] zs47 := by
  obtain ⟨i, h1, h2⟩ : ∃ i, Tryz.prog.info? 47 = some i ∧ i.zero = some (.agg #[(.int .i64 0), (.int .i64 0), (.int .i64 0), (.slice none 0 0), (.slice none 0 0)]) := info_zero (by kernel_rfl)
  exact ⟨⟨_, i, _, Tryz.underlying47, h1, h2, by kernel_rfl, rfl⟩, rfl⟩
theorem zr47 : (Tryz.prog.info? 47).map (·.zero) = some (some (.agg #[(.int .i64 0), (.int .i64 0), (.int .i64 0), (.slice none 0 0), (.slice none 0 0)])) := by kernel_rfl
theorem ty48 : LeafTy Tryz.prog 48 := ⟨⟨_, Tryz.underlying48, rfl⟩, by kernel_rfl⟩
theorem sl48 : SliceTy Tryz.prog 48 70 4 48 (.agg #[(.int .i64 0), (.int .i64 0), (.int .i64 0), (.slice none 0 0)]) := ⟨Tryz.underlying48, info_all (by kernel_rfl), rfl, by decide⟩
theorem ty50 : AggTy Tryz.prog 50 7 := ⟨⟨_, Tryz.underlying50, rfl⟩, by kernel_rfl⟩
theorem fa50_0 : FieldTy Tryz.prog 50 0 0 1 false := ⟨⟨_, _, Tryz.underlying50, rfl, rfl, by kernel_rfl, ⟨_, Tryz.underlying41, rfl⟩, by decide⟩⟩
theorem fa50_1 : FieldTy Tryz.prog 50 1 1 1 false := ⟨⟨_, _, Tryz.underlying50, rfl, rfl, by kernel_rfl, ⟨_, Tryz.underlying48, rfl⟩, by decide⟩⟩
theorem fa50_2 : FieldTy Tryz.prog 50 2 2 5 true := ⟨⟨_, _, Tryz.underlying50, rfl, rfl, by kernel_rfl, ⟨_, Tryz.underlying47, rfl⟩, by decide⟩⟩
def zs50 : List V := [(.raw (.slice none 0 0)), (.raw (.slice none 0 0)), (.raw (.int .i64 0)), (.raw (.int .i64 0)), (.raw (.int .i64 0)), (.raw (.slice none 0 0)), (.raw (.slice none 0 0))]
theorem st50 : StructTy Tryz.prog 50 [(0, 1), (1, 1), (2, 5)] zs50 := by
  obtain ⟨i, h1, h2⟩ : ∃ i, Tryz.prog.info? 50 = some i ∧ i.zero = some (.agg #[(.slice none 0 0), (.slice none 0 0), (.int .i64 0), (.int .i64 0), (.int .i64 0), (.slice none 0 0), (.slice none 0 0)]) := info_zero (by kernel_rfl)
  exact ⟨⟨_, i, _, Tryz.underlying50, h1, h2, by kernel_rfl, rfl⟩, rfl⟩
theorem zr50 : (Tryz.prog.info? 50).map (·.zero) = some (some (.agg #[(.slice none 0 0), (.slice none 0 0), (.int .i64 0), (.int .i64 0), (.int .i64 0), (.slice none 0 0), (.slice none 0 0)])) := by kernel_rfl
theorem sl56 : SliceTy Tryz.prog 56 4 1 1 (.bool false) := ⟨Tryz.underlying56, info_all (by kernel_rfl), rfl, by decide⟩
theorem ty62 : AggTy Tryz.prog 62 3 := ⟨⟨_, Tryz.underlying62, rfl⟩, by kernel_rfl⟩
theorem fa62_0 : FieldTy Tryz.prog 62 0 0 1 false := ⟨⟨_, _, Tryz.underlying62, rfl, rfl, by kernel_rfl, ⟨_, Tryz.underlying41, rfl⟩, by decide⟩⟩
theorem fa62_1 : FieldTy Tryz.prog 62 1 1 1 false := ⟨⟨_, _, Tryz.underlying62, rfl, rfl, by kernel_rfl, ⟨_, Tryz.underlying3, rfl⟩, by decide⟩⟩
theorem fa62_2 : FieldTy Tryz.prog 62 2 2 1 false := ⟨⟨_, _, Tryz.underlying62, rfl, rfl, by kernel_rfl, ⟨_, Tryz.underlying3, rfl⟩, by decide⟩⟩
def zs62 : List V := [(.raw (.slice none 0 0)), (.raw (.int .i64 0)), (.raw (.int .i64 0))]
theorem st62 : StructTy Tryz.prog 62 [(0, 1), (1, 1), (2, 1)] zs62 := by
  obtain ⟨i, h1, h2⟩ : ∃ i, Tryz.prog.info? 62 = some i ∧ i.zero = some (.agg #[(.slice none 0 0), (.int .i64 0), (.int .i64 0)]) := info_zero (by kernel_rfl)
  exact ⟨⟨_, i, _, Tryz.underlying62, h1, h2, by kernel_rfl, rfl⟩, rfl⟩
theorem zr62 : (Tryz.prog.info? 62).map (·.zero) = some (some (.agg #[(.slice none 0 0), (.int .i64 0), (.int .i64 0)])) := by kernel_rfl
theorem ty70 : AggTy Tryz.prog 70 4 := ⟨⟨_, Tryz.underlying70, rfl⟩, by kernel_rfl⟩
theorem fa70_0 : FieldTy Tryz.prog 70 0 0 1 false := ⟨⟨_, _, Tryz.underlying70, rfl, rfl, by kernel_rfl, ⟨_, Tryz.underlying3, rfl⟩, by decide⟩⟩
theorem fa70_1 : FieldTy Tryz.prog 70 1 1 1 false := ⟨⟨_, _, Tryz.underlying70, rfl, rfl, by kernel_rfl, ⟨_, Tryz.underlying3, rfl⟩, by decide⟩⟩
theorem fa70_2 : FieldTy Tryz.prog 70 2 2 1 false := ⟨⟨_, _, Tryz.underlying70, rfl, rfl, by kernel_rfl, ⟨_, Tryz.underlying3, rfl⟩, by decide⟩⟩
theorem fa70_3 : FieldTy Tryz.prog 70 3 3 1 false := ⟨⟨_, _, Tryz.underlying70, rfl, rfl, by kernel_rfl, ⟨_, Tryz.underlying41, rfl⟩, by decide⟩⟩
def zs70 : List V := [(.raw (.int .i64 0)), (.raw (.int .i64 0)), (.raw (.int .i64 0)), (.raw (.slice none 0 0))]
theorem st70 : StructTy Tryz.prog 70 [(0, 1), (1, 1), (2, 1), (3, 1)] zs70 := by
  obtain ⟨i, h1, h2⟩ : ∃ i, Tryz.prog.info? 70 = some i ∧ i.zero = some (.agg #[(.int .i64 0), (.int .i64 0), (.int .i64 0), (.slice none 0 0)]) := info_zero (by kernel_rfl)
  exact ⟨⟨_, i, _, Tryz.underlying70, h1, h2, by kernel_rfl, rfl⟩, rfl⟩
theorem zr70 : (Tryz.prog.info? 70).map (·.zero) = some (some (.agg #[(.int .i64 0), (.int .i64 0), (.int .i64 0), (.slice none 0 0)])) := by kernel_rfl
theorem sl74 : SliceTy Tryz.prog 74 76 2 16 (.agg #[(.int .i64 0), (.int .i64 0)]) := ⟨Tryz.underlying74, info_all (by kernel_rfl), rfl, by decide⟩
theorem ty76 : AggTy Tryz.prog 76 2 := ⟨⟨_, Tryz.underlying76, rfl⟩, by kernel_rfl⟩
def zs76 : List V := [(.raw (.int .i64 0)), (.raw (.int .i64 0))]
theorem at76 : ArrTy Tryz.prog 76 2 3 1 zs76 := arr_ty (cs := [.int .i64 0, .int .i64 0]) Tryz.underlying76 (by kernel_rfl) (by kernel_rfl) rfl rfl
theorem se76 : (Tryz.prog.info? 3).map (·.size) = some 1 := by kernel_rfl
theorem zr76 : (Tryz.prog.info? 76).map (·.zero) = some (some (.agg #[(.int .i64 0), (.int .i64 0)])) := by kernel_rfl
theorem ty79 : AggTy Tryz.prog 79 2 := ⟨⟨_, Tryz.underlying79, rfl⟩, by kernel_rfl⟩
theorem fa79_0 : FieldTy Tryz.prog 79 0 0 1 false := ⟨⟨_, _, Tryz.underlying79, rfl, rfl, by kernel_rfl, ⟨_, Tryz.underlying3, rfl⟩, by decide⟩⟩
theorem fa79_1 : FieldTy Tryz.prog 79 1 1 1 false := ⟨⟨_, _, Tryz.underlying79, rfl, rfl, by kernel_rfl, ⟨_, Tryz.underlying41, rfl⟩, by decide⟩⟩
def zs79 : List V := [(.raw (.int .i64 0)), (.raw (.slice none 0 0))]
theorem st79 : StructTy Tryz.prog 79 [(0, 1), (1, 1)] zs79 := by
  obtain ⟨i, h1, h2⟩ : ∃ i, Tryz.prog.info? 79 = some i ∧ i.zero = some (.agg #[(.int .i64 0), (.slice none 0 0)]) := info_zero (by kernel_rfl)
  exact ⟨⟨_, i, _, Tryz.underlying79, h1, h2, by kernel_rfl, rfl⟩, rfl⟩
theorem zr79 : (Tryz.prog.info? 79).map (·.zero) = some (some (.agg #[(.int .i64 0), (.slice none 0 0)])) := by kernel_rfl
theorem sl80 : SliceTy Tryz.prog 80 86 2 16 (.agg #[(.int .i64 0), (.int .i64 0)]) := ⟨Tryz.underlying80, info_all (by kernel_rfl), rfl, by decide⟩
theorem ty86 : AggTy Tryz.prog 86 2 := ⟨⟨_, Tryz.underlying86, rfl⟩, by kernel_rfl⟩
theorem fa86_0 : FieldTy Tryz.prog 86 0 0 1 false := ⟨⟨_, _, Tryz.underlying86, rfl, rfl, by kernel_rfl, ⟨_, Tryz.underlying3, rfl⟩, by decide⟩⟩
theorem fa86_1 : FieldTy Tryz.prog 86 1 1 1 false := ⟨⟨_, _, Tryz.underlying86, rfl, rfl, by kernel_rfl, ⟨_, Tryz.underlying3, rfl⟩, by decide⟩⟩
def zs86 : List V := [(.raw (.int .i64 0)), (.raw (.int .i64 0))]
theorem st86 : StructTy Tryz.prog 86 [(0, 1), (1, 1)] zs86 := by
  obtain ⟨i, h1, h2⟩ : ∃ i, Tryz.prog.info? 86 = some i ∧ i.zero = some (.agg #[(.int .i64 0), (.int .i64 0)]) := info_zero (by kernel_rfl)
  exact ⟨⟨_, i, _, Tryz.underlying86, h1, h2, by kernel_rfl, rfl⟩, rfl⟩
theorem zr86 : (Tryz.prog.info? 86).map (·.zero) = some (some (.agg #[(.int .i64 0), (.int .i64 0)])) := by kernel_rfl
theorem ty102 : LeafTy Tryz.prog 102 := ⟨⟨_, Tryz.underlying102, rfl⟩, by kernel_rfl⟩
theorem ty103 : LeafTy Tryz.prog 103 := ⟨⟨_, Tryz.underlying103, rfl⟩, by kernel_rfl⟩
theorem fa105_0 : FieldTy Tryz.prog 105 0 0 2 true := ⟨⟨_, _, Tryz.underlying105, rfl, rfl, by kernel_rfl, ⟨_, Tryz.underlying34, rfl⟩, by decide⟩⟩
theorem fa105_1 : FieldTy Tryz.prog 105 1 2 1 false := ⟨⟨_, _, Tryz.underlying105, rfl, rfl, by kernel_rfl, ⟨_, Tryz.underlying103, rfl⟩, by decide⟩⟩
def zs105 : List V := [(.raw (.int .i64 0)), (.raw (.slice none 0 0)), (.raw (.map none))]
theorem st105 : StructTy Tryz.prog 105 [(0, 2), (2, 1)] zs105 := by
  obtain ⟨i, h1, h2⟩ : ∃ i, Tryz.prog.info? 105 = some i ∧ i.zero = some (.agg #[(.int .i64 0), (.slice none 0 0), (.map none)]) := info_zero (by kernel_rfl)
  exact ⟨⟨_, i, _, Tryz.underlying105, h1, h2, by kernel_rfl, rfl⟩, rfl⟩
theorem ty117 : LeafTy Tryz.prog 117 := ⟨⟨_, Tryz.underlying117, rfl⟩, by kernel_rfl⟩
theorem sl117 : SliceTy Tryz.prog 117 148 1 8 (.pointer none) := ⟨Tryz.underlying117, info_all (by kernel_rfl), rfl, by decide⟩
theorem fa119_0 : FieldTy Tryz.prog 119 0 0 2 true := ⟨⟨_, _, Tryz.underlying119, rfl, rfl, by kernel_rfl, ⟨_, Tryz.underlying24, rfl⟩, by decide⟩⟩
theorem fa119_1 : FieldTy Tryz.prog 119 1 2 1 false := ⟨⟨_, _, Tryz.underlying119, rfl, rfl, by kernel_rfl, ⟨_, Tryz.underlying117, rfl⟩, by decide⟩⟩
theorem fa119_2 : FieldTy Tryz.prog 119 2 3 1 false := ⟨⟨_, _, Tryz.underlying119, rfl, rfl, by kernel_rfl, ⟨_, Tryz.underlying3, rfl⟩, by decide⟩⟩
theorem fa119_3 : FieldTy Tryz.prog 119 3 4 1 false := ⟨⟨_, _, Tryz.underlying119, rfl, rfl, by kernel_rfl, ⟨_, Tryz.underlying4, rfl⟩, by decide⟩⟩
theorem fa119_4 : FieldTy Tryz.prog 119 4 5 1 false := ⟨⟨_, _, Tryz.underlying119, rfl, rfl, by kernel_rfl, ⟨_, Tryz.underlying4, rfl⟩, by decide⟩⟩
theorem fa119_5 : FieldTy Tryz.prog 119 5 6 3 true := ⟨⟨_, _, Tryz.underlying119, rfl, rfl, by kernel_rfl, ⟨_, Tryz.underlying62, rfl⟩, by decide⟩⟩
def zs119 : List V := [(.raw (.slice none 0 0)), (.raw (.int .i64 0)), (.raw (.slice none 0 0)), (.raw (.int .i64 0)), (.raw (.bool false)), (.raw (.bool false)), (.raw (.slice none 0 0)), (.raw (.int .i64 0)), (.raw (.int .i64 0))]
theorem st119 : StructTy Tryz.prog 119 [(0, 2), (2, 1), (3, 1), (4, 1), (5, 1), (6, 3)] zs119 := by
  obtain ⟨i, h1, h2⟩ : ∃ i, Tryz.prog.info? 119 = some i ∧ i.zero = some (.agg #[(.slice none 0 0), (.int .i64 0), (.slice none 0 0), (.int .i64 0), (.bool false), (.bool false), (.slice none 0 0), (.int .i64 0), (.int .i64 0)]) := info_zero (by kernel_rfl)
  exact ⟨⟨_, i, _, Tryz.underlying119, h1, h2, by kernel_rfl, rfl⟩, rfl⟩
theorem ty123 : AggTy Tryz.prog 123 2 := ⟨⟨_, Tryz.underlying123, rfl⟩, by kernel_rfl⟩
theorem fa123_0 : FieldTy Tryz.prog 123 0 0 1 false := ⟨⟨_, _, Tryz.underlying123, rfl, rfl, by kernel_rfl, ⟨_, Tryz.underlying3, rfl⟩, by decide⟩⟩
theorem fa123_1 : FieldTy Tryz.prog 123 1 1 1 false := ⟨⟨_, _, Tryz.underlying123, rfl, rfl, by kernel_rfl, ⟨_, Tryz.underlying3, rfl⟩, by decide⟩⟩
def zs123 : List V := [(.raw (.int .i64 0)), (.raw (.int .i64 0))]
theorem st123 : StructTy Tryz.prog 123 [(0, 1), (1, 1)] zs123 := by
  obtain ⟨i, h1, h2⟩ : ∃ i, Tryz.prog.info? 123 = some i ∧ i.zero = some (.agg #[(.int .i64 0), (.int .i64 0)]) := info_zero (by kernel_rfl)
  exact ⟨⟨_, i, _, Tryz.underlying123, h1, h2, by kernel_rfl, rfl⟩, rfl⟩
theorem zr123 : (Tryz.prog.info? 123).map (·.zero) = some (some (.agg #[(.int .i64 0), (.int .i64 0)])) := by kernel_rfl
theorem ty126 : LeafTy Tryz.prog 126 := ⟨⟨_, Tryz.underlying126, rfl⟩, by kernel_rfl⟩
theorem zr126 : (Tryz.prog.info? 126).map (·.zero) = some (some (.slice none 0 0)) := by kernel_rfl
theorem sl126 : SliceTy Tryz.prog 126 129 2 16 (.agg #[(.int .u64 0), (.int .u64 0)]) := ⟨Tryz.underlying126, info_all (by kernel_rfl), rfl, by decide⟩
theorem ty127 : LeafTy Tryz.prog 127 := ⟨⟨_, Tryz.underlying127, rfl⟩, by kernel_rfl⟩
theorem ty129 : AggTy Tryz.prog 129 2 := ⟨⟨_, Tryz.underlying129, rfl⟩, by kernel_rfl⟩
def zs129 : List V := [(.raw (.int .u64 0)), (.raw (.int .u64 0))]
theorem at129 : ArrTy Tryz.prog 129 2 127 1 zs129 := arr_ty (cs := [.int .u64 0, .int .u64 0]) Tryz.underlying129 (by kernel_rfl) (by kernel_rfl) rfl rfl
theorem se129 : (Tryz.prog.info? 127).map (·.size) = some 1 := by kernel_rfl
theorem zr129 : (Tryz.prog.info? 129).map (·.zero) = some (some (.agg #[(.int .u64 0), (.int .u64 0)])) := by kernel_rfl
theorem ty135 : AggTy Tryz.prog 135 2 := ⟨⟨_, Tryz.underlying135, rfl⟩, by kernel_rfl⟩
theorem fa135_0 : FieldTy Tryz.prog 135 0 0 1 false := ⟨⟨_, _, Tryz.underlying135, rfl, rfl, by kernel_rfl, ⟨_, Tryz.underlying41, rfl⟩, by decide⟩⟩
theorem fa135_1 : FieldTy Tryz.prog 135 1 1 1 false := ⟨⟨_, _, Tryz.underlying135, rfl, rfl, by kernel_rfl, ⟨_, Tryz.underlying41, rfl⟩, by decide⟩⟩
def zs135 : List V := [(.raw (.slice none 0 0)), (.raw (.slice none 0 0))]
theorem st135 : StructTy Tryz.prog 135 [(0, 1), (1, 1)] zs135 := by
  obtain ⟨i, h1, h2⟩ : ∃ i, Tryz.prog.info? 135 = some i ∧ i.zero = some (.agg #[(.slice none 0 0), (.slice none 0 0)]) := info_zero (by kernel_rfl)
  exact ⟨⟨_, i, _, Tryz.underlying135, h1, h2, by kernel_rfl, rfl⟩, rfl⟩
theorem zr135 : (Tryz.prog.info? 135).map (·.zero) = some (some (.agg #[(.slice none 0 0), (.slice none 0 0)])) := by kernel_rfl
theorem ty147 : LeafTy Tryz.prog 147 := ⟨⟨_, Tryz.underlying147, rfl⟩, by kernel_rfl⟩
theorem zr147 : (Tryz.prog.info? 147).map (·.zero) = some (some (.slice none 0 0)) := by kernel_rfl
theorem sl147 : SliceTy Tryz.prog 147 154 4 48 (.agg #[(.int .i64 0), (.int .i64 0), (.slice none 0 0), (.pointer none)]) := ⟨Tryz.underlying147, info_all (by kernel_rfl), rfl, by decide⟩
theorem ty148 : LeafTy Tryz.prog 148 := ⟨⟨_, Tryz.underlying148, rfl⟩, by kernel_rfl⟩
theorem ty149 : LeafTy Tryz.prog 149 := ⟨⟨_, Tryz.underlying149, rfl⟩, by kernel_rfl⟩
theorem fa151_0 : FieldTy Tryz.prog 151 0 0 1 false := ⟨⟨_, _, Tryz.underlying151, rfl, rfl, by kernel_rfl, ⟨_, Tryz.underlying3, rfl⟩, by decide⟩⟩
theorem fa151_1 : FieldTy Tryz.prog 151 1 1 1 false := ⟨⟨_, _, Tryz.underlying151, rfl, rfl, by kernel_rfl, ⟨_, Tryz.underlying3, rfl⟩, by decide⟩⟩
theorem fa151_2 : FieldTy Tryz.prog 151 2 2 1 false := ⟨⟨_, _, Tryz.underlying151, rfl, rfl, by kernel_rfl, ⟨_, Tryz.underlying3, rfl⟩, by decide⟩⟩
theorem fa151_3 : FieldTy Tryz.prog 151 3 3 1 false := ⟨⟨_, _, Tryz.underlying151, rfl, rfl, by kernel_rfl, ⟨_, Tryz.underlying3, rfl⟩, by decide⟩⟩
theorem fa151_4 : FieldTy Tryz.prog 151 4 4 1 false := ⟨⟨_, _, Tryz.underlying151, rfl, rfl, by kernel_rfl, ⟨_, Tryz.underlying149, rfl⟩, by decide⟩⟩
def zs151 : List V := [(.raw (.int .i64 0)), (.raw (.int .i64 0)), (.raw (.int .i64 0)), (.raw (.int .i64 0)), (.raw (.map none))]
theorem st151 : StructTy Tryz.prog 151 [(0, 1), (1, 1), (2, 1), (3, 1), (4, 1)] zs151 := by
  obtain ⟨i, h1, h2⟩ : ∃ i, Tryz.prog.info? 151 = some i ∧ i.zero = some (.agg #[(.int .i64 0), (.int .i64 0), (.int .i64 0), (.int .i64 0), (.map none)]) := info_zero (by kernel_rfl)
  exact ⟨⟨_, i, _, Tryz.underlying151, h1, h2, by kernel_rfl, rfl⟩, rfl⟩
theorem ty152 : LeafTy Tryz.prog 152 := ⟨⟨_, Tryz.underlying152, rfl⟩, by kernel_rfl⟩
theorem ty154 : AggTy Tryz.prog 154 4 := ⟨⟨_, Tryz.underlying154, rfl⟩, by kernel_rfl⟩
theorem fa154_0 : FieldTy Tryz.prog 154 0 0 1 false := ⟨⟨_, _, Tryz.underlying154, rfl, rfl, by kernel_rfl, ⟨_, Tryz.underlying3, rfl⟩, by decide⟩⟩
theorem fa154_1 : FieldTy Tryz.prog 154 1 1 1 false := ⟨⟨_, _, Tryz.underlying154, rfl, rfl, by kernel_rfl, ⟨_, Tryz.underlying3, rfl⟩, by decide⟩⟩
theorem fa154_2 : FieldTy Tryz.prog 154 2 2 1 false := ⟨⟨_, _, Tryz.underlying154, rfl, rfl, by kernel_rfl, ⟨_, Tryz.underlying147, rfl⟩, by decide⟩⟩
theorem fa154_3 : FieldTy Tryz.prog 154 3 3 1 false := ⟨⟨_, _, Tryz.underlying154, rfl, rfl, by kernel_rfl, ⟨_, Tryz.underlying152, rfl⟩, by decide⟩⟩
def zs154 : List V := [(.raw (.int .i64 0)), (.raw (.int .i64 0)), (.raw (.slice none 0 0)), (.raw (.pointer none))]
theorem st154 : StructTy Tryz.prog 154 [(0, 1), (1, 1), (2, 1), (3, 1)] zs154 := by
  obtain ⟨i, h1, h2⟩ : ∃ i, Tryz.prog.info? 154 = some i ∧ i.zero = some (.agg #[(.int .i64 0), (.int .i64 0), (.slice none 0 0), (.pointer none)]) := info_zero (by kernel_rfl)
  exact ⟨⟨_, i, _, Tryz.underlying154, h1, h2, by kernel_rfl, rfl⟩, rfl⟩
theorem zr154 : (Tryz.prog.info? 154).map (·.zero) = some (some (.agg #[(.int .i64 0), (.int .i64 0), (.slice none 0 0), (.pointer none)])) := by kernel_rfl
theorem fa167_0 : FieldTy Tryz.prog 167 0 0 1 false := ⟨⟨_, _, Tryz.underlying167, rfl, rfl, by kernel_rfl, ⟨_, Tryz.underlying3, rfl⟩, by decide⟩⟩
theorem fa167_1 : FieldTy Tryz.prog 167 1 1 1 false := ⟨⟨_, _, Tryz.underlying167, rfl, rfl, by kernel_rfl, ⟨_, Tryz.underlying3, rfl⟩, by decide⟩⟩
def zs167 : List V := [(.raw (.int .i64 0)), (.raw (.int .i64 0))]
theorem st167 : StructTy Tryz.prog 167 [(0, 1), (1, 1)] zs167 := by
  obtain ⟨i, h1, h2⟩ : ∃ i, Tryz.prog.info? 167 = some i ∧ i.zero = some (.agg #[(.int .i64 0), (.int .i64 0)]) := info_zero (by kernel_rfl)
  exact ⟨⟨_, i, _, Tryz.underlying167, h1, h2, by kernel_rfl, rfl⟩, rfl⟩
theorem sl168 : SliceTy Tryz.prog 168 167 2 16 (.agg #[(.int .i64 0), (.int .i64 0)]) := ⟨Tryz.underlying168, info_all (by kernel_rfl), rfl, by decide⟩
theorem en5 : Enters Tryz.prog 5 := ⟨⟨_, Tryz.func5, by kernel_rfl, by kernel_rfl⟩⟩
theorem en6 : Enters Tryz.prog 6 := ⟨⟨_, Tryz.func6, by kernel_rfl, by kernel_rfl⟩⟩
theorem en7 : Enters Tryz.prog 7 := ⟨⟨_, Tryz.func7, by kernel_rfl, by kernel_rfl⟩⟩
theorem en8 : Enters Tryz.prog 8 := ⟨⟨_, Tryz.func8, by kernel_rfl, by kernel_rfl⟩⟩
theorem en9 : Enters Tryz.prog 9 := ⟨⟨_, Tryz.func9, by kernel_rfl, by kernel_rfl⟩⟩
theorem en10 : Enters Tryz.prog 10 := ⟨⟨_, Tryz.func10, by kernel_rfl, by kernel_rfl⟩⟩
theorem en11 : Enters Tryz.prog 11 := ⟨⟨_, Tryz.func11, by kernel_rfl, by kernel_rfl⟩⟩
theorem en12 : Enters Tryz.prog 12 := ⟨⟨_, Tryz.func12, by kernel_rfl, by kernel_rfl⟩⟩
theorem en13 : Enters Tryz.prog 13 := ⟨⟨_, Tryz.func13, by kernel_rfl, by kernel_rfl⟩⟩
theorem en14 : Enters Tryz.prog 14 := ⟨⟨_, Tryz.func14, by kernel_rfl, by kernel_rfl⟩⟩
theorem en19 : Enters Tryz.prog 19 := ⟨⟨_, Tryz.func19, by kernel_rfl, by kernel_rfl⟩⟩
theorem en20 : Enters Tryz.prog 20 := ⟨⟨_, Tryz.func20, by kernel_rfl, by kernel_rfl⟩⟩
theorem en21 : Enters Tryz.prog 21 := ⟨⟨_, Tryz.func21, by kernel_rfl, by kernel_rfl⟩⟩
theorem en22 : Enters Tryz.prog 22 := ⟨⟨_, Tryz.func22, by kernel_rfl, by kernel_rfl⟩⟩
theorem en23 : Enters Tryz.prog 23 := ⟨⟨_, Tryz.func23, by kernel_rfl, by kernel_rfl⟩⟩
theorem en24 : Enters Tryz.prog 24 := ⟨⟨_, Tryz.func24, by kernel_rfl, by kernel_rfl⟩⟩
theorem en25 : Enters Tryz.prog 25 := ⟨⟨_, Tryz.func25, by kernel_rfl, by kernel_rfl⟩⟩
theorem en26 : Enters Tryz.prog 26 := ⟨⟨_, Tryz.func26, by kernel_rfl, by kernel_rfl⟩⟩
theorem en27 : Enters Tryz.prog 27 := ⟨⟨_, Tryz.func27, by kernel_rfl, by kernel_rfl⟩⟩
theorem en28 : Enters Tryz.prog 28 := ⟨⟨_, Tryz.func28, by kernel_rfl, by kernel_rfl⟩⟩
theorem en29 : Enters Tryz.prog 29 := ⟨⟨_, Tryz.func29, by kernel_rfl, by kernel_rfl⟩⟩
theorem en30 : Enters Tryz.prog 30 := ⟨⟨_, Tryz.func30, by kernel_rfl, by kernel_rfl⟩⟩
theorem en31 : Enters Tryz.prog 31 := ⟨⟨_, Tryz.func31, by kernel_rfl, by kernel_rfl⟩⟩
theorem en32 : Enters Tryz.prog 32 := ⟨⟨_, Tryz.func32, by kernel_rfl, by kernel_rfl⟩⟩
theorem en33 : Enters Tryz.prog 33 := ⟨⟨_, Tryz.func33, by kernel_rfl, by kernel_rfl⟩⟩
theorem en34 : Enters Tryz.prog 34 := ⟨⟨_, Tryz.func34, by kernel_rfl, by kernel_rfl⟩⟩
theorem en35 : Enters Tryz.prog 35 := ⟨⟨_, Tryz.func35, by kernel_rfl, by kernel_rfl⟩⟩
theorem en36 : Enters Tryz.prog 36 := ⟨⟨_, Tryz.func36, by kernel_rfl, by kernel_rfl⟩⟩
theorem en37 : Enters Tryz.prog 37 := ⟨⟨_, Tryz.func37, by kernel_rfl, by kernel_rfl⟩⟩
theorem en38 : Enters Tryz.prog 38 := ⟨⟨_, Tryz.func38, by kernel_rfl, by kernel_rfl⟩⟩
theorem en45 : Enters Tryz.prog 45 := ⟨⟨_, Tryz.func45, by kernel_rfl, by kernel_rfl⟩⟩
theorem en46 : Enters Tryz.prog 46 := ⟨⟨_, Tryz.func46, by kernel_rfl, by kernel_rfl⟩⟩
theorem en47 : Enters Tryz.prog 47 := ⟨⟨_, Tryz.func47, by kernel_rfl, by kernel_rfl⟩⟩
theorem en48 : Enters Tryz.prog 48 := ⟨⟨_, Tryz.func48, by kernel_rfl, by kernel_rfl⟩⟩
theorem en49 : Enters Tryz.prog 49 := ⟨⟨_, Tryz.func49, by kernel_rfl, by kernel_rfl⟩⟩
theorem en50 : Enters Tryz.prog 50 := ⟨⟨_, Tryz.func50, by kernel_rfl, by kernel_rfl⟩⟩
theorem en51 : Enters Tryz.prog 51 := ⟨⟨_, Tryz.func51, by kernel_rfl, by kernel_rfl⟩⟩
theorem en52 : Enters Tryz.prog 52 := ⟨⟨_, Tryz.func52, by kernel_rfl, by kernel_rfl⟩⟩
theorem en53 : Enters Tryz.prog 53 := ⟨⟨_, Tryz.func53, by kernel_rfl, by kernel_rfl⟩⟩
theorem en54 : Enters Tryz.prog 54 := ⟨⟨_, Tryz.func54, by kernel_rfl, by kernel_rfl⟩⟩
theorem en57 : Enters Tryz.prog 57 := ⟨⟨_, Tryz.func57, by kernel_rfl, by kernel_rfl⟩⟩
theorem en61 : Enters Tryz.prog 61 := ⟨⟨_, Tryz.func61, by kernel_rfl, by kernel_rfl⟩⟩
theorem en62 : Enters Tryz.prog 62 := ⟨⟨_, Tryz.func62, by kernel_rfl, by kernel_rfl⟩⟩
theorem en63 : Enters Tryz.prog 63 := ⟨⟨_, Tryz.func63, by kernel_rfl, by kernel_rfl⟩⟩
theorem en64 : Enters Tryz.prog 64 := ⟨⟨_, Tryz.func64, by kernel_rfl, by kernel_rfl⟩⟩
theorem en65 : Enters Tryz.prog 65 := ⟨⟨_, Tryz.func65, by kernel_rfl, by kernel_rfl⟩⟩
theorem en66 : Enters Tryz.prog 66 := ⟨⟨_, Tryz.func66, by kernel_rfl, by kernel_rfl⟩⟩
theorem en67 : Enters Tryz.prog 67 := ⟨⟨_, Tryz.func67, by kernel_rfl, by kernel_rfl⟩⟩
theorem en68 : Enters Tryz.prog 68 := ⟨⟨_, Tryz.func68, by kernel_rfl, by kernel_rfl⟩⟩
theorem en69 : Enters Tryz.prog 69 := ⟨⟨_, Tryz.func69, by kernel_rfl, by kernel_rfl⟩⟩
theorem en70 : Enters Tryz.prog 70 := ⟨⟨_, Tryz.func70, by kernel_rfl, by kernel_rfl⟩⟩
theorem en71 : Enters Tryz.prog 71 := ⟨⟨_, Tryz.func71, by kernel_rfl, by kernel_rfl⟩⟩
theorem en72 : Enters Tryz.prog 72 := ⟨⟨_, Tryz.func72, by kernel_rfl, by kernel_rfl⟩⟩
theorem en73 : Enters Tryz.prog 73 := ⟨⟨_, Tryz.func73, by kernel_rfl, by kernel_rfl⟩⟩
theorem en74 : Enters Tryz.prog 74 := ⟨⟨_, Tryz.func74, by kernel_rfl, by kernel_rfl⟩⟩
theorem en86 : Enters Tryz.prog 86 := ⟨⟨_, Tryz.func86, by kernel_rfl, by kernel_rfl⟩⟩
theorem en87 : Enters Tryz.prog 87 := ⟨⟨_, Tryz.func87, by kernel_rfl, by kernel_rfl⟩⟩
theorem en88 : Enters Tryz.prog 88 := ⟨⟨_, Tryz.func88, by kernel_rfl, by kernel_rfl⟩⟩
theorem en89 : Enters Tryz.prog 89 := ⟨⟨_, Tryz.func89, by kernel_rfl, by kernel_rfl⟩⟩
theorem en90 : Enters Tryz.prog 90 := ⟨⟨_, Tryz.func90, by kernel_rfl, by kernel_rfl⟩⟩
theorem en91 : Enters Tryz.prog 91 := ⟨⟨_, Tryz.func91, by kernel_rfl, by kernel_rfl⟩⟩
theorem en92 : Enters Tryz.prog 92 := ⟨⟨_, Tryz.func92, by kernel_rfl, by kernel_rfl⟩⟩
theorem en93 : Enters Tryz.prog 93 := ⟨⟨_, Tryz.func93, by kernel_rfl, by kernel_rfl⟩⟩
theorem en94 : Enters Tryz.prog 94 := ⟨⟨_, Tryz.func94, by kernel_rfl, by kernel_rfl⟩⟩
theorem en95 : Enters Tryz.prog 95 := ⟨⟨_, Tryz.func95, by kernel_rfl, by kernel_rfl⟩⟩
theorem en96 : Enters Tryz.prog 96 := ⟨⟨_, Tryz.func96, by kernel_rfl, by kernel_rfl⟩⟩
theorem en102 : Enters Tryz.prog 102 := ⟨⟨_, Tryz.func102, by kernel_rfl, by kernel_rfl⟩⟩
theorem en103 : Enters Tryz.prog 103 := ⟨⟨_, Tryz.func103, by kernel_rfl, by kernel_rfl⟩⟩
theorem en104 : Enters Tryz.prog 104 := ⟨⟨_, Tryz.func104, by kernel_rfl, by kernel_rfl⟩⟩
theorem en105 : Enters Tryz.prog 105 := ⟨⟨_, Tryz.func105, by kernel_rfl, by kernel_rfl⟩⟩
theorem en106 : Enters Tryz.prog 106 := ⟨⟨_, Tryz.func106, by kernel_rfl, by kernel_rfl⟩⟩
theorem en107 : Enters Tryz.prog 107 := ⟨⟨_, Tryz.func107, by kernel_rfl, by kernel_rfl⟩⟩
theorem en108 : Enters Tryz.prog 108 := ⟨⟨_, Tryz.func108, by kernel_rfl, by kernel_rfl⟩⟩
theorem en109 : Enters Tryz.prog 109 := ⟨⟨_, Tryz.func109, by kernel_rfl, by kernel_rfl⟩⟩
theorem en110 : Enters Tryz.prog 110 := ⟨⟨_, Tryz.func110, by kernel_rfl, by kernel_rfl⟩⟩
theorem en112 : Enters Tryz.prog 112 := ⟨⟨_, Tryz.func112, by kernel_rfl, by kernel_rfl⟩⟩
theorem en113 : Enters Tryz.prog 113 := ⟨⟨_, Tryz.func113, by kernel_rfl, by kernel_rfl⟩⟩
theorem en114 : Enters Tryz.prog 114 := ⟨⟨_, Tryz.func114, by kernel_rfl, by kernel_rfl⟩⟩
theorem en115 : Enters Tryz.prog 115 := ⟨⟨_, Tryz.func115, by kernel_rfl, by kernel_rfl⟩⟩
theorem en116 : Enters Tryz.prog 116 := ⟨⟨_, Tryz.func116, by kernel_rfl, by kernel_rfl⟩⟩
theorem en117 : Enters Tryz.prog 117 := ⟨⟨_, Tryz.func117, by kernel_rfl, by kernel_rfl⟩⟩
theorem en118 : Enters Tryz.prog 118 := ⟨⟨_, Tryz.func118, by kernel_rfl, by kernel_rfl⟩⟩
theorem en119 : Enters Tryz.prog 119 := ⟨⟨_, Tryz.func119, by kernel_rfl, by kernel_rfl⟩⟩
theorem mix : Tryz.prog.follows .mixedOrders = true := by kernel_rfl
end Go.Proofs.YtjekhhgjfelpgaaGreat.VT
