import Derived.Test.YtigkaadmobgfnaaVC
import Derived.Test.YtigkaadmobgfnaaProg
set_option linter.unusedVariables false
namespace Go.Proofs.Ytigkaadmobgfnaa.VT
open Go.VL
theorem ty1 : LeafTy Try.prog 1 := ⟨⟨_, Try.underlying1, rfl⟩, by kernel_rfl⟩
theorem ty2 : LeafTy Try.prog 2 := ⟨⟨_, Try.underlying2, rfl⟩, by kernel_rfl⟩
theorem ty3 : LeafTy Try.prog 3 := ⟨⟨_, Try.underlying3, rfl⟩, by kernel_rfl⟩
theorem zr3 : (Try.prog.info? 3).map (·.zero) = some (some (.int .i64 0)) := by kernel_rfl
theorem ty4 : LeafTy Try.prog 4 := ⟨⟨_, Try.underlying4, rfl⟩, by kernel_rfl⟩
theorem ty22 : LeafTy Try.prog 22 := ⟨⟨_, Try.underlying22, rfl⟩, by kernel_rfl⟩
theorem sl22 : SliceTy Try.prog 22 31 2 32 (.agg #[(.int .i64 0), (.slice none 0 0)]) := ⟨Try.underlying22, info_all (by kernel_rfl), rfl, by decide⟩
theorem ty24 : AggTy Try.prog 24 2 := ⟨⟨_, Try.underlying24, rfl⟩, by kernel_rfl⟩
theorem fa24_0 : FieldTy Try.prog 24 0 0 1 false := ⟨⟨_, _, Try.underlying24, rfl, rfl, by kernel_rfl, ⟨_, Try.underlying22, rfl⟩, by decide⟩⟩
theorem fa24_1 : FieldTy Try.prog 24 1 1 1 false := ⟨⟨_, _, Try.underlying24, rfl, rfl, by kernel_rfl, ⟨_, Try.underlying3, rfl⟩, by decide⟩⟩
def zs24 : List V := [(.raw (.slice none 0 0)), (.raw (.int .i64 0))]
theorem st24 : StructTy Try.prog 24 [(0, 1), (1, 1)] zs24 := by
  obtain ⟨i, h1, h2⟩ : ∃ i, Try.prog.info? 24 = some i ∧ i.zero = some (.agg #[(.slice none 0 0), (.int .i64 0)]) := info_zero (by kernel_rfl)
  exact ⟨⟨_, i, _, Try.underlying24, h1, h2, by kernel_rfl, rfl⟩, rfl⟩
theorem zr24 : (Try.prog.info? 24).map (·.zero) = some (some (.agg #[(.slice none 0 0), (.int .i64 0)])) := by kernel_rfl
theorem ty29 : LeafTy Try.prog 29 := ⟨⟨_, Try.underlying29, rfl⟩, by kernel_rfl⟩
theorem sl29 : SliceTy Try.prog 29 38 7 120 (.agg #[(.slice none 0 0), (.slice none 0 0), (.int .i64 0), (.int .i64 0), (.int .i64 0), (.slice none 0 0), (.slice none 0 0)]) := ⟨Try.underlying29, info_all (by kernel_rfl), rfl, by decide⟩
theorem ty31 : AggTy Try.prog 31 2 := ⟨⟨_, Try.underlying31, rfl⟩, by kernel_rfl⟩
theorem fa31_0 : FieldTy Try.prog 31 0 0 1 false := ⟨⟨_, _, Try.underlying31, rfl, rfl, by kernel_rfl, ⟨_, Try.underlying3, rfl⟩, by decide⟩⟩
theorem fa31_1 : FieldTy Try.prog 31 1 1 1 false := ⟨⟨_, _, Try.underlying31, rfl, rfl, by kernel_rfl, ⟨_, Try.underlying29, rfl⟩, by decide⟩⟩
def zs31 : List V := [(.raw (.int .i64 0)), (.raw (.slice none 0 0))]
theorem st31 : StructTy Try.prog 31 [(0, 1), (1, 1)] zs31 := by
  obtain ⟨i, h1, h2⟩ : ∃ i, Try.prog.info? 31 = some i ∧ i.zero = some (.agg #[(.int .i64 0), (.slice none 0 0)]) := info_zero (by kernel_rfl)
  exact ⟨⟨_, i, _, Try.underlying31, h1, h2, by kernel_rfl, rfl⟩, rfl⟩
theorem zr31 : (Try.prog.info? 31).map (·.zero) = some (some (.agg #[(.int .i64 0), (.slice none 0 0)])) := by kernel_rfl
theorem ty32 : LeafTy Try.prog 32 := ⟨⟨_, Try.underlying32, rfl⟩, by kernel_rfl⟩
theorem sl32 : SliceTy Try.prog 32 3 1 8 (.int .i64 0) := ⟨Try.underlying32, info_all (by kernel_rfl), rfl, by decide⟩
theorem ty33 : LeafTy Try.prog 33 := ⟨⟨_, Try.underlying33, rfl⟩, by kernel_rfl⟩
theorem sl33 : SliceTy Try.prog 33 42 4 48 (.agg #[(.int .i64 0), (.int .i64 0), (.int .i64 0), (.slice none 0 0)]) := ⟨Try.underlying33, info_all (by kernel_rfl), rfl, by decide⟩
theorem ty34 : LeafTy Try.prog 34 := ⟨⟨_, Try.underlying34, rfl⟩, by kernel_rfl⟩
theorem sl34 : SliceTy Try.prog 34 40 2 32 (.agg #[(.int .i64 0), (.slice none 0 0)]) := ⟨Try.underlying34, info_all (by kernel_rfl), rfl, by decide⟩
theorem ty36 : AggTy Try.prog 36 5 := ⟨⟨_, Try.underlying36, rfl⟩, by kernel_rfl⟩
theorem fa36_0 : FieldTy Try.prog 36 0 0 1 false := ⟨⟨_, _, Try.underlying36, rfl, rfl, by kernel_rfl, ⟨_, Try.underlying3, rfl⟩, by decide⟩⟩
theorem fa36_1 : FieldTy Try.prog 36 1 1 1 false := ⟨⟨_, _, Try.underlying36, rfl, rfl, by kernel_rfl, ⟨_, Try.underlying3, rfl⟩, by decide⟩⟩
theorem fa36_2 : FieldTy Try.prog 36 2 2 1 false := ⟨⟨_, _, Try.underlying36, rfl, rfl, by kernel_rfl, ⟨_, Try.underlying3, rfl⟩, by decide⟩⟩
theorem fa36_3 : FieldTy Try.prog 36 3 3 1 false := ⟨⟨_, _, Try.underlying36, rfl, rfl, by kernel_rfl, ⟨_, Try.underlying32, rfl⟩, by decide⟩⟩
theorem fa36_4 : FieldTy Try.prog 36 4 4 1 false := ⟨⟨_, _, Try.underlying36, rfl, rfl, by kernel_rfl, ⟨_, Try.underlying34, rfl⟩, by decide⟩⟩
def zs36 : List V := [(.raw (.int .i64 0)), (.raw (.int .i64 0)), (.raw (.int .i64 0)), (.raw (.slice none 0 0)), (.raw (.slice none 0 0))]
theorem st36 : StructTy Try.prog 36 [(0, 1), (1, 1), (2, 1), (3, 1), (4, 1)] zs36 := by
  obtain ⟨i, h1, h2⟩ : ∃ i, Try.prog.info? 36 = some i ∧ i.zero = some (.agg #[(.int .i64 0), (.int .i64 0), (.int .i64 0), (.slice none 0 0), (.slice none 0 0)]) := info_zero (by kernel_rfl)
  exact ⟨⟨_, i, _, Try.underlying36, h1, h2, by kernel_rfl, rfl⟩, rfl⟩
theorem zr36 : (Try.prog.info? 36).map (·.zero) = some (some (.agg #[(.int .i64 0), (.int .i64 0), (.int .i64 0), (.slice none 0 0), (.slice none 0 0)])) := by kernel_rfl
theorem ty38 : AggTy Try.prog 38 7 := ⟨⟨_, Try.underlying38, rfl⟩, by kernel_rfl⟩
theorem fa38_0 : FieldTy Try.prog 38 0 0 1 false := ⟨⟨_, _, Try.underlying38, rfl, rfl, by kernel_rfl, ⟨_, Try.underlying32, rfl⟩, by decide⟩⟩
theorem fa38_1 : FieldTy Try.prog 38 1 1 1 false := ⟨⟨_, _, Try.underlying38, rfl, rfl, by kernel_rfl, ⟨_, Try.underlying33, rfl⟩, by decide⟩⟩
theorem fa38_2 : FieldTy Try.prog 38 2 2 5 true := ⟨⟨_, _, Try.underlying38, rfl, rfl, by kernel_rfl, ⟨_, Try.underlying36, rfl⟩, by decide⟩⟩
def zs38 : List V := [(.raw (.slice none 0 0)), (.raw (.slice none 0 0)), (.raw (.int .i64 0)), (.raw (.int .i64 0)), (.raw (.int .i64 0)), (.raw (.slice none 0 0)), (.raw (.slice none 0 0))]
theorem st38 : StructTy Try.prog 38 [(0, 1), (1, 1), (2, 5)] zs38 := by
  obtain ⟨i, h1, h2⟩ : ∃ i, Try.prog.info? 38 = some i ∧ i.zero = some (.agg #[(.slice none 0 0), (.slice none 0 0), (.int .i64 0), (.int .i64 0), (.int .i64 0), (.slice none 0 0), (.slice none 0 0)]) := info_zero (by kernel_rfl)
  exact ⟨⟨_, i, _, Try.underlying38, h1, h2, by kernel_rfl, rfl⟩, rfl⟩
theorem zr38 : (Try.prog.info? 38).map (·.zero) = some (some (.agg #[(.slice none 0 0), (.slice none 0 0), (.int .i64 0), (.int .i64 0), (.int .i64 0), (.slice none 0 0), (.slice none 0 0)])) := by kernel_rfl
theorem ty40 : AggTy Try.prog 40 2 := ⟨⟨_, Try.underlying40, rfl⟩, by kernel_rfl⟩
theorem fa40_0 : FieldTy Try.prog 40 0 0 1 false := ⟨⟨_, _, Try.underlying40, rfl, rfl, by kernel_rfl, ⟨_, Try.underlying3, rfl⟩, by decide⟩⟩
theorem fa40_1 : FieldTy Try.prog 40 1 1 1 false := ⟨⟨_, _, Try.underlying40, rfl, rfl, by kernel_rfl, ⟨_, Try.underlying32, rfl⟩, by decide⟩⟩
def zs40 : List V := [(.raw (.int .i64 0)), (.raw (.slice none 0 0))]
theorem st40 : StructTy Try.prog 40 [(0, 1), (1, 1)] zs40 := by
  obtain ⟨i, h1, h2⟩ : ∃ i, Try.prog.info? 40 = some i ∧ i.zero = some (.agg #[(.int .i64 0), (.slice none 0 0)]) := info_zero (by kernel_rfl)
  exact ⟨⟨_, i, _, Try.underlying40, h1, h2, by kernel_rfl, rfl⟩, rfl⟩
theorem zr40 : (Try.prog.info? 40).map (·.zero) = some (some (.agg #[(.int .i64 0), (.slice none 0 0)])) := by kernel_rfl
theorem ty42 : AggTy Try.prog 42 4 := ⟨⟨_, Try.underlying42, rfl⟩, by kernel_rfl⟩
theorem fa42_0 : FieldTy Try.prog 42 0 0 1 false := ⟨⟨_, _, Try.underlying42, rfl, rfl, by kernel_rfl, ⟨_, Try.underlying3, rfl⟩, by decide⟩⟩
theorem fa42_1 : FieldTy Try.prog 42 1 1 1 false := ⟨⟨_, _, Try.underlying42, rfl, rfl, by kernel_rfl, ⟨_, Try.underlying3, rfl⟩, by decide⟩⟩
theorem fa42_2 : FieldTy Try.prog 42 2 2 1 false := ⟨⟨_, _, Try.underlying42, rfl, rfl, by kernel_rfl, ⟨_, Try.underlying3, rfl⟩, by decide⟩⟩
theorem fa42_3 : FieldTy Try.prog 42 3 3 1 false := ⟨⟨_, _, Try.underlying42, rfl, rfl, by kernel_rfl, ⟨_, Try.underlying32, rfl⟩, by decide⟩⟩
def zs42 : List V := [(.raw (.int .i64 0)), (.raw (.int .i64 0)), (.raw (.int .i64 0)), (.raw (.slice none 0 0))]
theorem st42 : StructTy Try.prog 42 [(0, 1), (1, 1), (2, 1), (3, 1)] zs42 := by
  obtain ⟨i, h1, h2⟩ : ∃ i, Try.prog.info? 42 = some i ∧ i.zero = some (.agg #[(.int .i64 0), (.int .i64 0), (.int .i64 0), (.slice none 0 0)]) := info_zero (by kernel_rfl)
  exact ⟨⟨_, i, _, Try.underlying42, h1, h2, by kernel_rfl, rfl⟩, rfl⟩
theorem zr42 : (Try.prog.info? 42).map (·.zero) = some (some (.agg #[(.int .i64 0), (.int .i64 0), (.int .i64 0), (.slice none 0 0)])) := by kernel_rfl
theorem ty47 : AggTy Try.prog 47 3 := ⟨⟨_, Try.underlying47, rfl⟩, by kernel_rfl⟩
theorem fa47_0 : FieldTy Try.prog 47 0 0 1 false := ⟨⟨_, _, Try.underlying47, rfl, rfl, by kernel_rfl, ⟨_, Try.underlying32, rfl⟩, by decide⟩⟩
theorem fa47_1 : FieldTy Try.prog 47 1 1 1 false := ⟨⟨_, _, Try.underlying47, rfl, rfl, by kernel_rfl, ⟨_, Try.underlying3, rfl⟩, by decide⟩⟩
theorem fa47_2 : FieldTy Try.prog 47 2 2 1 false := ⟨⟨_, _, Try.underlying47, rfl, rfl, by kernel_rfl, ⟨_, Try.underlying3, rfl⟩, by decide⟩⟩
def zs47 : List V := [(.raw (.slice none 0 0)), (.raw (.int .i64 0)), (.raw (.int .i64 0))]
theorem st47 : StructTy Try.prog 47 [(0, 1), (1, 1), (2, 1)] zs47 := by
  obtain ⟨i, h1, h2⟩ : ∃ i, Try.prog.info? 47 = some i ∧ i.zero = some (.agg #[(.slice none 0 0), (.int .i64 0), (.int .i64 0)]) := info_zero (by kernel_rfl)
  exact ⟨⟨_, i, _, Try.underlying47, h1, h2, by kernel_rfl, rfl⟩, rfl⟩
theorem zr47 : (Try.prog.info? 47).map (·.zero) = some (some (.agg #[(.slice none 0 0), (.int .i64 0), (.int .i64 0)])) := by kernel_rfl
theorem ty65 : LeafTy Try.prog 65 := ⟨⟨_, Try.underlying65, rfl⟩, by kernel_rfl⟩
theorem ty66 : LeafTy Try.prog 66 := ⟨⟨_, Try.underlying66, rfl⟩, by kernel_rfl⟩
theorem fa68_0 : FieldTy Try.prog 68 0 0 2 true := ⟨⟨_, _, Try.underlying68, rfl, rfl, by kernel_rfl, ⟨_, Try.underlying31, rfl⟩, by decide⟩⟩
theorem fa68_1 : FieldTy Try.prog 68 1 2 1 false := ⟨⟨_, _, Try.underlying68, rfl, rfl, by kernel_rfl, ⟨_, Try.underlying66, rfl⟩, by decide⟩⟩
def zs68 : List V := [(.raw (.int .i64 0)), (.raw (.slice none 0 0)), (.raw (.map none))]
theorem st68 : StructTy Try.prog 68 [(0, 2), (2, 1)] zs68 := by
  obtain ⟨i, h1, h2⟩ : ∃ i, Try.prog.info? 68 = some i ∧ i.zero = some (.agg #[(.int .i64 0), (.slice none 0 0), (.map none)]) := info_zero (by kernel_rfl)
  exact ⟨⟨_, i, _, Try.underlying68, h1, h2, by kernel_rfl, rfl⟩, rfl⟩
theorem ty75 : LeafTy Try.prog 75 := ⟨⟨_, Try.underlying75, rfl⟩, by kernel_rfl⟩
theorem sl75 : SliceTy Try.prog 75 104 1 8 (.pointer none) := ⟨Try.underlying75, info_all (by kernel_rfl), rfl, by decide⟩
theorem fa77_0 : FieldTy Try.prog 77 0 0 2 true := ⟨⟨_, _, Try.underlying77, rfl, rfl, by kernel_rfl, ⟨_, Try.underlying24, rfl⟩, by decide⟩⟩
theorem fa77_1 : FieldTy Try.prog 77 1 2 1 false := ⟨⟨_, _, Try.underlying77, rfl, rfl, by kernel_rfl, ⟨_, Try.underlying75, rfl⟩, by decide⟩⟩
theorem fa77_2 : FieldTy Try.prog 77 2 3 1 false := ⟨⟨_, _, Try.underlying77, rfl, rfl, by kernel_rfl, ⟨_, Try.underlying3, rfl⟩, by decide⟩⟩
theorem fa77_3 : FieldTy Try.prog 77 3 4 1 false := ⟨⟨_, _, Try.underlying77, rfl, rfl, by kernel_rfl, ⟨_, Try.underlying4, rfl⟩, by decide⟩⟩
theorem fa77_4 : FieldTy Try.prog 77 4 5 1 false := ⟨⟨_, _, Try.underlying77, rfl, rfl, by kernel_rfl, ⟨_, Try.underlying4, rfl⟩, by decide⟩⟩
theorem fa77_5 : FieldTy Try.prog 77 5 6 3 true := ⟨⟨_, _, Try.underlying77, rfl, rfl, by kernel_rfl, ⟨_, Try.underlying47, rfl⟩, by decide⟩⟩
def zs77 : List V := [(.raw (.slice none 0 0)), (.raw (.int .i64 0)), (.raw (.slice none 0 0)), (.raw (.int .i64 0)), (.raw (.bool false)), (.raw (.bool false)), (.raw (.slice none 0 0)), (.raw (.int .i64 0)), (.raw (.int .i64 0))]
theorem st77 : StructTy Try.prog 77 [(0, 2), (2, 1), (3, 1), (4, 1), (5, 1), (6, 3)] zs77 := by
  obtain ⟨i, h1, h2⟩ : ∃ i, Try.prog.info? 77 = some i ∧ i.zero = some (.agg #[(.slice none 0 0), (.int .i64 0), (.slice none 0 0), (.int .i64 0), (.bool false), (.bool false), (.slice none 0 0), (.int .i64 0), (.int .i64 0)]) := info_zero (by kernel_rfl)
  exact ⟨⟨_, i, _, Try.underlying77, h1, h2, by kernel_rfl, rfl⟩, rfl⟩
theorem sl80 : SliceTy Try.prog 80 32 1 24 (.slice none 0 0) := ⟨Try.underlying80, info_all (by kernel_rfl), rfl, by decide⟩
theorem ty85 : LeafTy Try.prog 85 := ⟨⟨_, Try.underlying85, rfl⟩, by kernel_rfl⟩
theorem zr85 : (Try.prog.info? 85).map (·.zero) = some (some (.slice none 0 0)) := by kernel_rfl
theorem sl85 : SliceTy Try.prog 85 86 2 16 (.agg #[(.int .i64 0), (.int .i64 0)]) := ⟨Try.underlying85, info_all (by kernel_rfl), rfl, by decide⟩
theorem ty86 : AggTy Try.prog 86 2 := ⟨⟨_, Try.underlying86, rfl⟩, by kernel_rfl⟩
def zs86 : List V := [(.raw (.int .i64 0)), (.raw (.int .i64 0))]
theorem at86 : ArrTy Try.prog 86 2 3 1 zs86 := arr_ty (cs := [.int .i64 0, .int .i64 0]) Try.underlying86 (by kernel_rfl) (by kernel_rfl) rfl rfl
theorem se86 : (Try.prog.info? 3).map (·.size) = some 1 := by kernel_rfl
theorem zr86 : (Try.prog.info? 86).map (·.zero) = some (some (.agg #[(.int .i64 0), (.int .i64 0)])) := by kernel_rfl
theorem ty91 : AggTy Try.prog 91 2 := ⟨⟨_, Try.underlying91, rfl⟩, by kernel_rfl⟩
theorem fa91_0 : FieldTy Try.prog 91 0 0 1 false := ⟨⟨_, _, Try.underlying91, rfl, rfl, by kernel_rfl, ⟨_, Try.underlying3, rfl⟩, by decide⟩⟩
theorem fa91_1 : FieldTy Try.prog 91 1 1 1 false := ⟨⟨_, _, Try.underlying91, rfl, rfl, by kernel_rfl, ⟨_, Try.underlying3, rfl⟩, by decide⟩⟩
def zs91 : List V := [(.raw (.int .i64 0)), (.raw (.int .i64 0))]
theorem st91 : StructTy Try.prog 91 [(0, 1), (1, 1)] zs91 := by
  obtain ⟨i, h1, h2⟩ : ∃ i, Try.prog.info? 91 = some i ∧ i.zero = some (.agg #[(.int .i64 0), (.int .i64 0)]) := info_zero (by kernel_rfl)
  exact ⟨⟨_, i, _, Try.underlying91, h1, h2, by kernel_rfl, rfl⟩, rfl⟩
theorem zr91 : (Try.prog.info? 91).map (·.zero) = some (some (.agg #[(.int .i64 0), (.int .i64 0)])) := by kernel_rfl
theorem ty92 : LeafTy Try.prog 92 := ⟨⟨_, Try.underlying92, rfl⟩, by kernel_rfl⟩
theorem zr92 : (Try.prog.info? 92).map (·.zero) = some (some (.slice none 0 0)) := by kernel_rfl
theorem sl92 : SliceTy Try.prog 92 95 2 16 (.agg #[(.int .u64 0), (.int .u64 0)]) := ⟨Try.underlying92, info_all (by kernel_rfl), rfl, by decide⟩
theorem ty93 : LeafTy Try.prog 93 := ⟨⟨_, Try.underlying93, rfl⟩, by kernel_rfl⟩
theorem ty95 : AggTy Try.prog 95 2 := ⟨⟨_, Try.underlying95, rfl⟩, by kernel_rfl⟩
def zs95 : List V := [(.raw (.int .u64 0)), (.raw (.int .u64 0))]
theorem at95 : ArrTy Try.prog 95 2 93 1 zs95 := arr_ty (cs := [.int .u64 0, .int .u64 0]) Try.underlying95 (by kernel_rfl) (by kernel_rfl) rfl rfl
theorem se95 : (Try.prog.info? 93).map (·.size) = some 1 := by kernel_rfl
theorem zr95 : (Try.prog.info? 95).map (·.zero) = some (some (.agg #[(.int .u64 0), (.int .u64 0)])) := by kernel_rfl
theorem ty103 : LeafTy Try.prog 103 := ⟨⟨_, Try.underlying103, rfl⟩, by kernel_rfl⟩
theorem zr103 : (Try.prog.info? 103).map (·.zero) = some (some (.slice none 0 0)) := by kernel_rfl
theorem sl103 : SliceTy Try.prog 103 110 4 48 (.agg #[(.int .i64 0), (.int .i64 0), (.slice none 0 0), (.pointer none)]) := ⟨Try.underlying103, info_all (by kernel_rfl), rfl, by decide⟩
theorem ty104 : LeafTy Try.prog 104 := ⟨⟨_, Try.underlying104, rfl⟩, by kernel_rfl⟩
theorem ty105 : LeafTy Try.prog 105 := ⟨⟨_, Try.underlying105, rfl⟩, by kernel_rfl⟩
theorem fa107_0 : FieldTy Try.prog 107 0 0 1 false := ⟨⟨_, _, Try.underlying107, rfl, rfl, by kernel_rfl, ⟨_, Try.underlying3, rfl⟩, by decide⟩⟩
theorem fa107_1 : FieldTy Try.prog 107 1 1 1 false := ⟨⟨_, _, Try.underlying107, rfl, rfl, by kernel_rfl, ⟨_, Try.underlying3, rfl⟩, by decide⟩⟩
theorem fa107_2 : FieldTy Try.prog 107 2 2 1 false := ⟨⟨_, _, Try.underlying107, rfl, rfl, by kernel_rfl, ⟨_, Try.underlying3, rfl⟩, by decide⟩⟩
theorem fa107_3 : FieldTy Try.prog 107 3 3 1 false := ⟨⟨_, _, Try.underlying107, rfl, rfl, by kernel_rfl, ⟨_, Try.underlying3, rfl⟩, by decide⟩⟩
theorem fa107_4 : FieldTy Try.prog 107 4 4 1 false := ⟨⟨_, _, Try.underlying107, rfl, rfl, by kernel_rfl, ⟨_, Try.underlying105, rfl⟩, by decide⟩⟩
def zs107 : List V := [(.raw (.int .i64 0)), (.raw (.int .i64 0)), (.raw (.int .i64 0)), (.raw (.int .i64 0)), (.raw (.map none))]
theorem st107 : StructTy Try.prog 107 [(0, 1), (1, 1), (2, 1), (3, 1), (4, 1)] zs107 := by
  obtain ⟨i, h1, h2⟩ : ∃ i, Try.prog.info? 107 = some i ∧ i.zero = some (.agg #[(.int .i64 0), (.int .i64 0), (.int .i64 0), (.int .i64 0), (.map none)]) := info_zero (by kernel_rfl)
  exact ⟨⟨_, i, _, Try.underlying107, h1, h2, by kernel_rfl, rfl⟩, rfl⟩
theorem ty108 : LeafTy Try.prog 108 := ⟨⟨_, Try.underlying108, rfl⟩, by kernel_rfl⟩
theorem ty110 : AggTy Try.prog 110 4 := ⟨⟨_, Try.underlying110, rfl⟩, by kernel_rfl⟩
theorem fa110_0 : FieldTy Try.prog 110 0 0 1 false := ⟨⟨_, _, Try.underlying110, rfl, rfl, by kernel_rfl, ⟨_, Try.underlying3, rfl⟩, by decide⟩⟩
theorem fa110_1 : FieldTy Try.prog 110 1 1 1 false := ⟨⟨_, _, Try.underlying110, rfl, rfl, by kernel_rfl, ⟨_, Try.underlying3, rfl⟩, by decide⟩⟩
theorem fa110_2 : FieldTy Try.prog 110 2 2 1 false := ⟨⟨_, _, Try.underlying110, rfl, rfl, by kernel_rfl, ⟨_, Try.underlying103, rfl⟩, by decide⟩⟩
theorem fa110_3 : FieldTy Try.prog 110 3 3 1 false := ⟨⟨_, _, Try.underlying110, rfl, rfl, by kernel_rfl, ⟨_, Try.underlying108, rfl⟩, by decide⟩⟩
def zs110 : List V := [(.raw (.int .i64 0)), (.raw (.int .i64 0)), (.raw (.slice none 0 0)), (.raw (.pointer none))]
theorem st110 : StructTy Try.prog 110 [(0, 1), (1, 1), (2, 1), (3, 1)] zs110 := by
  obtain ⟨i, h1, h2⟩ : ∃ i, Try.prog.info? 110 = some i ∧ i.zero = some (.agg #[(.int .i64 0), (.int .i64 0), (.slice none 0 0), (.pointer none)]) := info_zero (by kernel_rfl)
  exact ⟨⟨_, i, _, Try.underlying110, h1, h2, by kernel_rfl, rfl⟩, rfl⟩
theorem zr110 : (Try.prog.info? 110).map (·.zero) = some (some (.agg #[(.int .i64 0), (.int .i64 0), (.slice none 0 0), (.pointer none)])) := by kernel_rfl
theorem en5 : Enters Try.prog 5 := ⟨⟨_, Try.func5, by kernel_rfl, by kernel_rfl⟩⟩
theorem en6 : Enters Try.prog 6 := ⟨⟨_, Try.func6, by kernel_rfl, by kernel_rfl⟩⟩
theorem en8 : Enters Try.prog 8 := ⟨⟨_, Try.func8, by kernel_rfl, by kernel_rfl⟩⟩
theorem en9 : Enters Try.prog 9 := ⟨⟨_, Try.func9, by kernel_rfl, by kernel_rfl⟩⟩
theorem en10 : Enters Try.prog 10 := ⟨⟨_, Try.func10, by kernel_rfl, by kernel_rfl⟩⟩
theorem en11 : Enters Try.prog 11 := ⟨⟨_, Try.func11, by kernel_rfl, by kernel_rfl⟩⟩
theorem en12 : Enters Try.prog 12 := ⟨⟨_, Try.func12, by kernel_rfl, by kernel_rfl⟩⟩
theorem en13 : Enters Try.prog 13 := ⟨⟨_, Try.func13, by kernel_rfl, by kernel_rfl⟩⟩
theorem en14 : Enters Try.prog 14 := ⟨⟨_, Try.func14, by kernel_rfl, by kernel_rfl⟩⟩
theorem en15 : Enters Try.prog 15 := ⟨⟨_, Try.func15, by kernel_rfl, by kernel_rfl⟩⟩
theorem en16 : Enters Try.prog 16 := ⟨⟨_, Try.func16, by kernel_rfl, by kernel_rfl⟩⟩
theorem en17 : Enters Try.prog 17 := ⟨⟨_, Try.func17, by kernel_rfl, by kernel_rfl⟩⟩
theorem en18 : Enters Try.prog 18 := ⟨⟨_, Try.func18, by kernel_rfl, by kernel_rfl⟩⟩
theorem en19 : Enters Try.prog 19 := ⟨⟨_, Try.func19, by kernel_rfl, by kernel_rfl⟩⟩
theorem en20 : Enters Try.prog 20 := ⟨⟨_, Try.func20, by kernel_rfl, by kernel_rfl⟩⟩
theorem en21 : Enters Try.prog 21 := ⟨⟨_, Try.func21, by kernel_rfl, by kernel_rfl⟩⟩
theorem en22 : Enters Try.prog 22 := ⟨⟨_, Try.func22, by kernel_rfl, by kernel_rfl⟩⟩
theorem en23 : Enters Try.prog 23 := ⟨⟨_, Try.func23, by kernel_rfl, by kernel_rfl⟩⟩
theorem en24 : Enters Try.prog 24 := ⟨⟨_, Try.func24, by kernel_rfl, by kernel_rfl⟩⟩
theorem en25 : Enters Try.prog 25 := ⟨⟨_, Try.func25, by kernel_rfl, by kernel_rfl⟩⟩
theorem en26 : Enters Try.prog 26 := ⟨⟨_, Try.func26, by kernel_rfl, by kernel_rfl⟩⟩
theorem en27 : Enters Try.prog 27 := ⟨⟨_, Try.func27, by kernel_rfl, by kernel_rfl⟩⟩
theorem en28 : Enters Try.prog 28 := ⟨⟨_, Try.func28, by kernel_rfl, by kernel_rfl⟩⟩
theorem en29 : Enters Try.prog 29 := ⟨⟨_, Try.func29, by kernel_rfl, by kernel_rfl⟩⟩
theorem en30 : Enters Try.prog 30 := ⟨⟨_, Try.func30, by kernel_rfl, by kernel_rfl⟩⟩
theorem en31 : Enters Try.prog 31 := ⟨⟨_, Try.func31, by kernel_rfl, by kernel_rfl⟩⟩
theorem en32 : Enters Try.prog 32 := ⟨⟨_, Try.func32, by kernel_rfl, by kernel_rfl⟩⟩
theorem en33 : Enters Try.prog 33 := ⟨⟨_, Try.func33, by kernel_rfl, by kernel_rfl⟩⟩
theorem en34 : Enters Try.prog 34 := ⟨⟨_, Try.func34, by kernel_rfl, by kernel_rfl⟩⟩
theorem en35 : Enters Try.prog 35 := ⟨⟨_, Try.func35, by kernel_rfl, by kernel_rfl⟩⟩
theorem en36 : Enters Try.prog 36 := ⟨⟨_, Try.func36, by kernel_rfl, by kernel_rfl⟩⟩
theorem en37 : Enters Try.prog 37 := ⟨⟨_, Try.func37, by kernel_rfl, by kernel_rfl⟩⟩
theorem en38 : Enters Try.prog 38 := ⟨⟨_, Try.func38, by kernel_rfl, by kernel_rfl⟩⟩
theorem en39 : Enters Try.prog 39 := ⟨⟨_, Try.func39, by kernel_rfl, by kernel_rfl⟩⟩
theorem en40 : Enters Try.prog 40 := ⟨⟨_, Try.func40, by kernel_rfl, by kernel_rfl⟩⟩
theorem en41 : Enters Try.prog 41 := ⟨⟨_, Try.func41, by kernel_rfl, by kernel_rfl⟩⟩
theorem en42 : Enters Try.prog 42 := ⟨⟨_, Try.func42, by kernel_rfl, by kernel_rfl⟩⟩
theorem en43 : Enters Try.prog 43 := ⟨⟨_, Try.func43, by kernel_rfl, by kernel_rfl⟩⟩
theorem en44 : Enters Try.prog 44 := ⟨⟨_, Try.func44, by kernel_rfl, by kernel_rfl⟩⟩
theorem en45 : Enters Try.prog 45 := ⟨⟨_, Try.func45, by kernel_rfl, by kernel_rfl⟩⟩
theorem en46 : Enters Try.prog 46 := ⟨⟨_, Try.func46, by kernel_rfl, by kernel_rfl⟩⟩
theorem en47 : Enters Try.prog 47 := ⟨⟨_, Try.func47, by kernel_rfl, by kernel_rfl⟩⟩
theorem en48 : Enters Try.prog 48 := ⟨⟨_, Try.func48, by kernel_rfl, by kernel_rfl⟩⟩
theorem en49 : Enters Try.prog 49 := ⟨⟨_, Try.func49, by kernel_rfl, by kernel_rfl⟩⟩
theorem en50 : Enters Try.prog 50 := ⟨⟨_, Try.func50, by kernel_rfl, by kernel_rfl⟩⟩
theorem en51 : Enters Try.prog 51 := ⟨⟨_, Try.func51, by kernel_rfl, by kernel_rfl⟩⟩
theorem en52 : Enters Try.prog 52 := ⟨⟨_, Try.func52, by kernel_rfl, by kernel_rfl⟩⟩
theorem en53 : Enters Try.prog 53 := ⟨⟨_, Try.func53, by kernel_rfl, by kernel_rfl⟩⟩
theorem en54 : Enters Try.prog 54 := ⟨⟨_, Try.func54, by kernel_rfl, by kernel_rfl⟩⟩
theorem en55 : Enters Try.prog 55 := ⟨⟨_, Try.func55, by kernel_rfl, by kernel_rfl⟩⟩
theorem en56 : Enters Try.prog 56 := ⟨⟨_, Try.func56, by kernel_rfl, by kernel_rfl⟩⟩
theorem en57 : Enters Try.prog 57 := ⟨⟨_, Try.func57, by kernel_rfl, by kernel_rfl⟩⟩
theorem en58 : Enters Try.prog 58 := ⟨⟨_, Try.func58, by kernel_rfl, by kernel_rfl⟩⟩
theorem en59 : Enters Try.prog 59 := ⟨⟨_, Try.func59, by kernel_rfl, by kernel_rfl⟩⟩
theorem en60 : Enters Try.prog 60 := ⟨⟨_, Try.func60, by kernel_rfl, by kernel_rfl⟩⟩
theorem en61 : Enters Try.prog 61 := ⟨⟨_, Try.func61, by kernel_rfl, by kernel_rfl⟩⟩
theorem en62 : Enters Try.prog 62 := ⟨⟨_, Try.func62, by kernel_rfl, by kernel_rfl⟩⟩
theorem en63 : Enters Try.prog 63 := ⟨⟨_, Try.func63, by kernel_rfl, by kernel_rfl⟩⟩
theorem en64 : Enters Try.prog 64 := ⟨⟨_, Try.func64, by kernel_rfl, by kernel_rfl⟩⟩
theorem en65 : Enters Try.prog 65 := ⟨⟨_, Try.func65, by kernel_rfl, by kernel_rfl⟩⟩
theorem en66 : Enters Try.prog 66 := ⟨⟨_, Try.func66, by kernel_rfl, by kernel_rfl⟩⟩
theorem en67 : Enters Try.prog 67 := ⟨⟨_, Try.func67, by kernel_rfl, by kernel_rfl⟩⟩
theorem en68 : Enters Try.prog 68 := ⟨⟨_, Try.func68, by kernel_rfl, by kernel_rfl⟩⟩
theorem en69 : Enters Try.prog 69 := ⟨⟨_, Try.func69, by kernel_rfl, by kernel_rfl⟩⟩
theorem en70 : Enters Try.prog 70 := ⟨⟨_, Try.func70, by kernel_rfl, by kernel_rfl⟩⟩
theorem en71 : Enters Try.prog 71 := ⟨⟨_, Try.func71, by kernel_rfl, by kernel_rfl⟩⟩
theorem en72 : Enters Try.prog 72 := ⟨⟨_, Try.func72, by kernel_rfl, by kernel_rfl⟩⟩
theorem en73 : Enters Try.prog 73 := ⟨⟨_, Try.func73, by kernel_rfl, by kernel_rfl⟩⟩
theorem en74 : Enters Try.prog 74 := ⟨⟨_, Try.func74, by kernel_rfl, by kernel_rfl⟩⟩
theorem en75 : Enters Try.prog 75 := ⟨⟨_, Try.func75, by kernel_rfl, by kernel_rfl⟩⟩
theorem en76 : Enters Try.prog 76 := ⟨⟨_, Try.func76, by kernel_rfl, by kernel_rfl⟩⟩
theorem en77 : Enters Try.prog 77 := ⟨⟨_, Try.func77, by kernel_rfl, by kernel_rfl⟩⟩
theorem en78 : Enters Try.prog 78 := ⟨⟨_, Try.func78, by kernel_rfl, by kernel_rfl⟩⟩
theorem en79 : Enters Try.prog 79 := ⟨⟨_, Try.func79, by kernel_rfl, by kernel_rfl⟩⟩
theorem en80 : Enters Try.prog 80 := ⟨⟨_, Try.func80, by kernel_rfl, by kernel_rfl⟩⟩
theorem en81 : Enters Try.prog 81 := ⟨⟨_, Try.func81, by kernel_rfl, by kernel_rfl⟩⟩
theorem en82 : Enters Try.prog 82 := ⟨⟨_, Try.func82, by kernel_rfl, by kernel_rfl⟩⟩
theorem en83 : Enters Try.prog 83 := ⟨⟨_, Try.func83, by kernel_rfl, by kernel_rfl⟩⟩
theorem en84 : Enters Try.prog 84 := ⟨⟨_, Try.func84, by kernel_rfl, by kernel_rfl⟩⟩
theorem en85 : Enters Try.prog 85 := ⟨⟨_, Try.func85, by kernel_rfl, by kernel_rfl⟩⟩
theorem en86 : Enters Try.prog 86 := ⟨⟨_, Try.func86, by kernel_rfl, by kernel_rfl⟩⟩
theorem en87 : Enters Try.prog 87 := ⟨⟨_, Try.func87, by kernel_rfl, by kernel_rfl⟩⟩
theorem en88 : Enters Try.prog 88 := ⟨⟨_, Try.func88, by kernel_rfl, by kernel_rfl⟩⟩
theorem mix : Try.prog.follows .mixedOrders = true := by kernel_rfl
end Go.Proofs.Ytigkaadmobgfnaa.VT
