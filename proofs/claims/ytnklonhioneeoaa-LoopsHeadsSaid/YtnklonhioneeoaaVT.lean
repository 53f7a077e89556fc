import Derived.Test.YtnklonhioneeoaaVC
import Derived.Test.YtnklonhioneeoaaProg
set_option linter.unusedVariables false
namespace Go.Proofs.Ytnklonhioneeoaa.VT
open Go.VL
theorem ty1 : LeafTy Try.prog 1 := ⟨⟨_, Try.underlying1, rfl⟩, by kernel_rfl⟩
theorem ty2 : LeafTy Try.prog 2 := ⟨⟨_, Try.underlying2, rfl⟩, by kernel_rfl⟩
theorem ty3 : LeafTy Try.prog 3 := ⟨⟨_, Try.underlying3, rfl⟩, by kernel_rfl⟩
theorem zr3 : (Try.prog.info? 3).map (·.zero) = some (some (.int .i64 0)) := by kernel_rfl
theorem ty4 : LeafTy Try.prog 4 := ⟨⟨_, Try.underlying4, rfl⟩, by kernel_rfl⟩
theorem ty22 : LeafTy Try.prog 22 := ⟨⟨_, Try.underlying22, rfl⟩, by kernel_rfl⟩
theorem sl22 : SliceTy Try.prog 22 72 7 120 (.agg #[(.slice none 0 0), (.slice none 0 0), (.int .i64 0), (.int .i64 0), (.int .i64 0), (.slice none 0 0), (.slice none 0 0)]) := ⟨Try.underlying22, info_all (by kernel_rfl), rfl, by decide⟩
theorem ty24 : AggTy Try.prog 24 2 := ⟨⟨_, Try.underlying24, rfl⟩, by kernel_rfl⟩
theorem fa24_0 : FieldTy Try.prog 24 0 0 1 false := ⟨⟨_, _, Try.underlying24, rfl, rfl, by kernel_rfl, ⟨_, Try.underlying3, rfl⟩, by decide⟩⟩
theorem fa24_1 : FieldTy Try.prog 24 1 1 1 false := ⟨⟨_, _, Try.underlying24, rfl, rfl, by kernel_rfl, ⟨_, Try.underlying22, rfl⟩, by decide⟩⟩
def zs24 : List V := [(.raw (.int .i64 0)), (.raw (.slice none 0 0))]
theorem st24 : StructTy Try.prog 24 [(0, 1), (1, 1)] zs24 := by
  obtain ⟨i, h1, h2⟩ : ∃ i, Try.prog.info? 24 = some i ∧ i.zero = some (.agg #[(.int .i64 0), (.slice none 0 0)]) := info_zero (by kernel_rfl)
  exact ⟨⟨_, i, _, Try.underlying24, h1, h2, by kernel_rfl, rfl⟩, rfl⟩
theorem zr24 : (Try.prog.info? 24).map (·.zero) = some (some (.agg #[(.int .i64 0), (.slice none 0 0)])) := by kernel_rfl
theorem sl26 : SliceTy Try.prog 26 32 3 40 (.agg #[(.int .i64 0), (.slice none 0 0), (.int .i64 0)]) := ⟨Try.underlying26, info_all (by kernel_rfl), rfl, by decide⟩
theorem ty30 : LeafTy Try.prog 30 := ⟨⟨_, Try.underlying30, rfl⟩, by kernel_rfl⟩
theorem zr30 : (Try.prog.info? 30).map (·.zero) = some (some (.slice none 0 0)) := by kernel_rfl
theorem sl30 : SliceTy Try.prog 30 3 1 8 (.int .i64 0) := ⟨Try.underlying30, info_all (by kernel_rfl), rfl, by decide⟩
theorem ty32 : AggTy Try.prog 32 3 := ⟨⟨_, Try.underlying32, rfl⟩, by kernel_rfl⟩
theorem fa32_0 : FieldTy Try.prog 32 0 0 1 false := ⟨⟨_, _, Try.underlying32, rfl, rfl, by kernel_rfl, ⟨_, Try.underlying3, rfl⟩, by decide⟩⟩
theorem fa32_1 : FieldTy Try.prog 32 1 1 1 false := ⟨⟨_, _, Try.underlying32, rfl, rfl, by kernel_rfl, ⟨_, Try.underlying30, rfl⟩, by decide⟩⟩
theorem fa32_2 : FieldTy Try.prog 32 2 2 1 false := ⟨⟨_, _, Try.underlying32, rfl, rfl, by kernel_rfl, ⟨_, Try.underlying3, rfl⟩, by decide⟩⟩
def zs32 : List V := [(.raw (.int .i64 0)), (.raw (.slice none 0 0)), (.raw (.int .i64 0))]
theorem st32 : StructTy Try.prog 32 [(0, 1), (1, 1), (2, 1)] zs32 := by
  obtain ⟨i, h1, h2⟩ : ∃ i, Try.prog.info? 32 = some i ∧ i.zero = some (.agg #[(.int .i64 0), (.slice none 0 0), (.int .i64 0)]) := info_zero (by kernel_rfl)
  exact ⟨⟨_, i, _, Try.underlying32, h1, h2, by kernel_rfl, rfl⟩, rfl⟩
theorem zr32 : (Try.prog.info? 32).map (·.zero) = some (some (.agg #[(.int .i64 0), (.slice none 0 0), (.int .i64 0)])) := by kernel_rfl
theorem ty41 : AggTy Try.prog 41 3 := ⟨⟨_, Try.underlying41, rfl⟩, by kernel_rfl⟩
theorem fa41_0 : FieldTy Try.prog 41 0 0 1 false := ⟨⟨_, _, Try.underlying41, rfl, rfl, by kernel_rfl, ⟨_, Try.underlying30, rfl⟩, by decide⟩⟩
theorem fa41_1 : FieldTy Try.prog 41 1 1 1 false := ⟨⟨_, _, Try.underlying41, rfl, rfl, by kernel_rfl, ⟨_, Try.underlying3, rfl⟩, by decide⟩⟩
theorem fa41_2 : FieldTy Try.prog 41 2 2 1 false := ⟨⟨_, _, Try.underlying41, rfl, rfl, by kernel_rfl, ⟨_, Try.underlying3, rfl⟩, by decide⟩⟩
def zs41 : List V := [(.raw (.slice none 0 0)), (.raw (.int .i64 0)), (.raw (.int .i64 0))]
theorem st41 : StructTy Try.prog 41 [(0, 1), (1, 1), (2, 1)] zs41 := by
  obtain ⟨i, h1, h2⟩ : ∃ i, Try.prog.info? 41 = some i ∧ i.zero = some (.agg #[(.slice none 0 0), (.int .i64 0), (.int .i64 0)]) := info_zero (by kernel_rfl)
  exact ⟨⟨_, i, _, Try.underlying41, h1, h2, by kernel_rfl, rfl⟩, rfl⟩
theorem zr41 : (Try.prog.info? 41).map (·.zero) = some (some (.agg #[(.slice none 0 0), (.int .i64 0), (.int .i64 0)])) := by kernel_rfl
theorem ty44 : LeafTy Try.prog 44 := ⟨⟨_, Try.underlying44, rfl⟩, by kernel_rfl⟩
theorem sl44 : SliceTy Try.prog 44 24 2 32 (.agg #[(.int .i64 0), (.slice none 0 0)]) := ⟨Try.underlying44, info_all (by kernel_rfl), rfl, by decide⟩
theorem ty46 : AggTy Try.prog 46 2 := ⟨⟨_, Try.underlying46, rfl⟩, by kernel_rfl⟩
theorem fa46_0 : FieldTy Try.prog 46 0 0 1 false := ⟨⟨_, _, Try.underlying46, rfl, rfl, by kernel_rfl, ⟨_, Try.underlying44, rfl⟩, by decide⟩⟩
theorem fa46_1 : FieldTy Try.prog 46 1 1 1 false := ⟨⟨_, _, Try.underlying46, rfl, rfl, by kernel_rfl, ⟨_, Try.underlying3, rfl⟩, by decide⟩⟩
def zs46 : List V := [(.raw (.slice none 0 0)), (.raw (.int .i64 0))]
theorem st46 : StructTy Try.prog 46 [(0, 1), (1, 1)] zs46 := by
  obtain ⟨i, h1, h2⟩ : ∃ i, Try.prog.info? 46 = some i ∧ i.zero = some (.agg #[(.slice none 0 0), (.int .i64 0)]) := info_zero (by kernel_rfl)
  exact ⟨⟨_, i, _, Try.underlying46, h1, h2, by kernel_rfl, rfl⟩, rfl⟩
theorem zr46 : (Try.prog.info? 46).map (·.zero) = some (some (.agg #[(.slice none 0 0), (.int .i64 0)])) := by kernel_rfl
theorem sl49 : SliceTy Try.prog 49 56 2 16 (.agg #[(.int .i64 0), (.int .i64 0)]) := ⟨Try.underlying49, info_all (by kernel_rfl), rfl, by decide⟩
theorem sl52 : SliceTy Try.prog 52 30 1 24 (.slice none 0 0) := ⟨Try.underlying52, info_all (by kernel_rfl), rfl, by decide⟩
theorem ty56 : AggTy Try.prog 56 2 := ⟨⟨_, Try.underlying56, rfl⟩, by kernel_rfl⟩
theorem fa56_0 : FieldTy Try.prog 56 0 0 1 false := ⟨⟨_, _, Try.underlying56, rfl, rfl, by kernel_rfl, ⟨_, Try.underlying3, rfl⟩, by decide⟩⟩
theorem fa56_1 : FieldTy Try.prog 56 1 1 1 false := ⟨⟨_, _, Try.underlying56, rfl, rfl, by kernel_rfl, ⟨_, Try.underlying3, rfl⟩, by decide⟩⟩
def zs56 : List V := [(.raw (.int .i64 0)), (.raw (.int .i64 0))]
theorem st56 : StructTy Try.prog 56 [(0, 1), (1, 1)] zs56 := by
  obtain ⟨i, h1, h2⟩ : ∃ i, Try.prog.info? 56 = some i ∧ i.zero = some (.agg #[(.int .i64 0), (.int .i64 0)]) := info_zero (by kernel_rfl)
  exact ⟨⟨_, i, _, Try.underlying56, h1, h2, by kernel_rfl, rfl⟩, rfl⟩
theorem zr56 : (Try.prog.info? 56).map (·.zero) = some (some (.agg #[(.int .i64 0), (.int .i64 0)])) := by kernel_rfl
theorem ty62 : AggTy Try.prog 62 2 := ⟨⟨_, Try.underlying62, rfl⟩, by kernel_rfl⟩
theorem fa62_0 : FieldTy Try.prog 62 0 0 1 false := ⟨⟨_, _, Try.underlying62, rfl, rfl, by kernel_rfl, ⟨_, Try.underlying30, rfl⟩, by decide⟩⟩
theorem fa62_1 : FieldTy Try.prog 62 1 1 1 false := ⟨⟨_, _, Try.underlying62, rfl, rfl, by kernel_rfl, ⟨_, Try.underlying30, rfl⟩, by decide⟩⟩
def zs62 : List V := [(.raw (.slice none 0 0)), (.raw (.slice none 0 0))]
theorem st62 : StructTy Try.prog 62 [(0, 1), (1, 1)] zs62 := by
  obtain ⟨i, h1, h2⟩ : ∃ i, Try.prog.info? 62 = some i ∧ i.zero = some (.agg #[(.slice none 0 0), (.slice none 0 0)]) := info_zero (by kernel_rfl)
  exact ⟨⟨_, i, _, Try.underlying62, h1, h2, by kernel_rfl, rfl⟩, rfl⟩
theorem zr62 : (Try.prog.info? 62).map (·.zero) = some (some (.agg #[(.slice none 0 0), (.slice none 0 0)])) := by kernel_rfl
theorem ty67 : LeafTy Try.prog 67 := ⟨⟨_, Try.underlying67, rfl⟩, by kernel_rfl⟩
theorem sl67 : SliceTy Try.prog 67 78 4 48 (.agg #[(.int .i64 0), (.int .i64 0), (.int .i64 0), (.slice none 0 0)]) := ⟨Try.underlying67, info_all (by kernel_rfl), rfl, by decide⟩
theorem ty68 : LeafTy Try.prog 68 := ⟨⟨_, Try.underlying68, rfl⟩, by kernel_rfl⟩
theorem sl68 : SliceTy Try.prog 68 74 2 32 (.agg #[(.int .i64 0), (.slice none 0 0)]) := ⟨Try.underlying68, info_all (by kernel_rfl), rfl, by decide⟩
theorem ty70 : AggTy Try.prog 70 5 := ⟨⟨_, Try.underlying70, rfl⟩, by kernel_rfl⟩
theorem fa70_0 : FieldTy Try.prog 70 0 0 1 false := ⟨⟨_, _, Try.underlying70, rfl, rfl, by kernel_rfl, ⟨_, Try.underlying3, rfl⟩, by decide⟩⟩
theorem fa70_1 : FieldTy Try.prog 70 1 1 1 false := ⟨⟨_, _, Try.underlying70, rfl, rfl, by kernel_rfl, ⟨_, Try.underlying3, rfl⟩, by decide⟩⟩
theorem fa70_2 : FieldTy Try.prog 70 2 2 1 false := ⟨⟨_, _, Try.underlying70, rfl, rfl, by kernel_rfl, ⟨_, Try.underlying3, rfl⟩, by decide⟩⟩
theorem fa70_3 : FieldTy Try.prog 70 3 3 1 false := ⟨⟨_, _, Try.underlying70, rfl, rfl, by kernel_rfl, ⟨_, Try.underlying30, rfl⟩, by decide⟩⟩
theorem fa70_4 : FieldTy Try.prog 70 4 4 1 false := ⟨⟨_, _, Try.underlying70, rfl, rfl, by kernel_rfl, ⟨_, Try.underlying68, rfl⟩, by decide⟩⟩
def zs70 : List V := [(.raw (.int .i64 0)), (.raw (.int .i64 0)), (.raw (.int .i64 0)), (.raw (.slice none 0 0)), (.raw (.slice none 0 0))]
theorem st70 : StructTy Try.prog 70 [(0, 1), (1, 1), (2, 1), (3, 1), (4, 1)] zs70 := by
  obtain ⟨i, h1, h2⟩ : ∃ i, Try.prog.info? 70 = some i ∧ i.zero = some (.agg #[(.int .i64 0), (.int .i64 0), (.int .i64 0), (.slice none 0 0), (.slice none 0 0)]) := info_zero (by kernel_rfl)
  exact ⟨⟨_, i, _, Try.underlying70, h1, h2, by kernel_rfl, rfl⟩, rfl⟩
theorem zr70 : (Try.prog.info? 70).map (·.zero) = some (some (.agg #[(.int .i64 0), (.int .i64 0), (.int .i64 0), (.slice none 0 0), (.slice none 0 0)])) := by kernel_rfl
theorem ty72 : AggTy Try.prog 72 7 := ⟨⟨_, Try.underlying72, rfl⟩, by kernel_rfl⟩
theorem fa72_0 : FieldTy Try.prog 72 0 0 1 false := ⟨⟨_, _, Try.underlying72, rfl, rfl, by kernel_rfl, ⟨_, Try.underlying30, rfl⟩, by decide⟩⟩
theorem fa72_1 : FieldTy Try.prog 72 1 1 1 false := ⟨⟨_, _, Try.underlying72, rfl, rfl, by kernel_rfl, ⟨_, Try.underlying67, rfl⟩, by decide⟩⟩
theorem fa72_2 : FieldTy Try.prog 72 2 2 5 true := ⟨⟨_, _, Try.underlying72, rfl, rfl, by kernel_rfl, ⟨_, Try.underlying70, rfl⟩, by decide⟩⟩
def zs72 : List V := [(.raw (.slice none 0 0)), (.raw (.slice none 0 0)), (.raw (.int .i64 0)), (.raw (.int .i64 0)), (.raw (.int .i64 0)), (.raw (.slice none 0 0)), (.raw (.slice none 0 0))]
theorem st72 : StructTy Try.prog 72 [(0, 1), (1, 1), (2, 5)] zs72 := by
  obtain ⟨i, h1, h2⟩ : ∃ i, Try.prog.info? 72 = some i ∧ i.zero = some (.agg #[(.slice none 0 0), (.slice none 0 0), (.int .i64 0), (.int .i64 0), (.int .i64 0), (.slice none 0 0), (.slice none 0 0)]) := info_zero (by kernel_rfl)
  exact ⟨⟨_, i, _, Try.underlying72, h1, h2, by kernel_rfl, rfl⟩, rfl⟩
theorem zr72 : (Try.prog.info? 72).map (·.zero) = some (some (.agg #[(.slice none 0 0), (.slice none 0 0), (.int .i64 0), (.int .i64 0), (.int .i64 0), (.slice none 0 0), (.slice none 0 0)])) := by kernel_rfl
theorem ty74 : AggTy Try.prog 74 2 := ⟨⟨_, Try.underlying74, rfl⟩, by kernel_rfl⟩
theorem fa74_0 : FieldTy Try.prog 74 0 0 1 false := ⟨⟨_, _, Try.underlying74, rfl, rfl, by kernel_rfl, ⟨_, Try.underlying3, rfl⟩, by decide⟩⟩
theorem fa74_1 : FieldTy Try.prog 74 1 1 1 false := ⟨⟨_, _, Try.underlying74, rfl, rfl, by kernel_rfl, ⟨_, Try.underlying30, rfl⟩, by decide⟩⟩
def zs74 : List V := [(.raw (.int .i64 0)), (.raw (.slice none 0 0))]
theorem st74 : StructTy Try.prog 74 [(0, 1), (1, 1)] zs74 := by
  obtain ⟨i, h1, h2⟩ : ∃ i, Try.prog.info? 74 = some i ∧ i.zero = some (.agg #[(.int .i64 0), (.slice none 0 0)]) := info_zero (by kernel_rfl)
  exact ⟨⟨_, i, _, Try.underlying74, h1, h2, by kernel_rfl, rfl⟩, rfl⟩
theorem zr74 : (Try.prog.info? 74).map (·.zero) = some (some (.agg #[(.int .i64 0), (.slice none 0 0)])) := by kernel_rfl
theorem ty78 : AggTy Try.prog 78 4 := ⟨⟨_, Try.underlying78, rfl⟩, by kernel_rfl⟩
theorem fa78_0 : FieldTy Try.prog 78 0 0 1 false := ⟨⟨_, _, Try.underlying78, rfl, rfl, by kernel_rfl, ⟨_, Try.underlying3, rfl⟩, by decide⟩⟩
theorem fa78_1 : FieldTy Try.prog 78 1 1 1 false := ⟨⟨_, _, Try.underlying78, rfl, rfl, by kernel_rfl, ⟨_, Try.underlying3, rfl⟩, by decide⟩⟩
theorem fa78_2 : FieldTy Try.prog 78 2 2 1 false := ⟨⟨_, _, Try.underlying78, rfl, rfl, by kernel_rfl, ⟨_, Try.underlying3, rfl⟩, by decide⟩⟩
theorem fa78_3 : FieldTy Try.prog 78 3 3 1 false := ⟨⟨_, _, Try.underlying78, rfl, rfl, by kernel_rfl, ⟨_, Try.underlying30, rfl⟩, by decide⟩⟩
def zs78 : List V := [(.raw (.int .i64 0)), (.raw (.int .i64 0)), (.raw (.int .i64 0)), (.raw (.slice none 0 0))]
theorem st78 : StructTy Try.prog 78 [(0, 1), (1, 1), (2, 1), (3, 1)] zs78 := by
  obtain ⟨i, h1, h2⟩ : ∃ i, Try.prog.info? 78 = some i ∧ i.zero = some (.agg #[(.int .i64 0), (.int .i64 0), (.int .i64 0), (.slice none 0 0)]) := info_zero (by kernel_rfl)
  exact ⟨⟨_, i, _, Try.underlying78, h1, h2, by kernel_rfl, rfl⟩, rfl⟩
theorem zr78 : (Try.prog.info? 78).map (·.zero) = some (some (.agg #[(.int .i64 0), (.int .i64 0), (.int .i64 0), (.slice none 0 0)])) := by kernel_rfl
theorem ty93 : LeafTy Try.prog 93 := ⟨⟨_, Try.underlying93, rfl⟩, by kernel_rfl⟩
theorem sl93 : SliceTy Try.prog 93 117 1 8 (.pointer none) := ⟨Try.underlying93, info_all (by kernel_rfl), rfl, by decide⟩
theorem fa95_0 : FieldTy Try.prog 95 0 0 2 true := ⟨⟨_, _, Try.underlying95, rfl, rfl, by kernel_rfl, ⟨_, Try.underlying46, rfl⟩, by decide⟩⟩
theorem fa95_1 : FieldTy Try.prog 95 1 2 1 false := ⟨⟨_, _, Try.underlying95, rfl, rfl, by kernel_rfl, ⟨_, Try.underlying93, rfl⟩, by decide⟩⟩
theorem fa95_2 : FieldTy Try.prog 95 2 3 1 false := ⟨⟨_, _, Try.underlying95, rfl, rfl, by kernel_rfl, ⟨_, Try.underlying3, rfl⟩, by decide⟩⟩
theorem fa95_3 : FieldTy Try.prog 95 3 4 1 false := ⟨⟨_, _, Try.underlying95, rfl, rfl, by kernel_rfl, ⟨_, Try.underlying4, rfl⟩, by decide⟩⟩
theorem fa95_4 : FieldTy Try.prog 95 4 5 1 false := ⟨⟨_, _, Try.underlying95, rfl, rfl, by kernel_rfl, ⟨_, Try.underlying4, rfl⟩, by decide⟩⟩
theorem fa95_5 : FieldTy Try.prog 95 5 6 3 true := ⟨⟨_, _, Try.underlying95, rfl, rfl, by kernel_rfl, ⟨_, Try.underlying41, rfl⟩, by decide⟩⟩
def zs95 : List V := [(.raw (.slice none 0 0)), (.raw (.int .i64 0)), (.raw (.slice none 0 0)), (.raw (.int .i64 0)), (.raw (.bool false)), (.raw (.bool false)), (.raw (.slice none 0 0)), (.raw (.int .i64 0)), (.raw (.int .i64 0))]
theorem st95 : StructTy Try.prog 95 [(0, 2), (2, 1), (3, 1), (4, 1), (5, 1), (6, 3)] zs95 := by
  obtain ⟨i, h1, h2⟩ : ∃ i, Try.prog.info? 95 = some i ∧ i.zero = some (.agg #[(.slice none 0 0), (.int .i64 0), (.slice none 0 0), (.int .i64 0), (.bool false), (.bool false), (.slice none 0 0), (.int .i64 0), (.int .i64 0)]) := info_zero (by kernel_rfl)
  exact ⟨⟨_, i, _, Try.underlying95, h1, h2, by kernel_rfl, rfl⟩, rfl⟩
theorem ty99 : LeafTy Try.prog 99 := ⟨⟨_, Try.underlying99, rfl⟩, by kernel_rfl⟩
theorem ty100 : LeafTy Try.prog 100 := ⟨⟨_, Try.underlying100, rfl⟩, by kernel_rfl⟩
theorem fa102_0 : FieldTy Try.prog 102 0 0 2 true := ⟨⟨_, _, Try.underlying102, rfl, rfl, by kernel_rfl, ⟨_, Try.underlying24, rfl⟩, by decide⟩⟩
theorem fa102_1 : FieldTy Try.prog 102 1 2 1 false := ⟨⟨_, _, Try.underlying102, rfl, rfl, by kernel_rfl, ⟨_, Try.underlying100, rfl⟩, by decide⟩⟩
def zs102 : List V := [(.raw (.int .i64 0)), (.raw (.slice none 0 0)), (.raw (.map none))]
theorem st102 : StructTy Try.prog 102 [(0, 2), (2, 1)] zs102 := by
  obtain ⟨i, h1, h2⟩ : ∃ i, Try.prog.info? 102 = some i ∧ i.zero = some (.agg #[(.int .i64 0), (.slice none 0 0), (.map none)]) := info_zero (by kernel_rfl)
  exact ⟨⟨_, i, _, Try.underlying102, h1, h2, by kernel_rfl, rfl⟩, rfl⟩
theorem ty114 : LeafTy Try.prog 114 := ⟨⟨_, Try.underlying114, rfl⟩, by kernel_rfl⟩
theorem ty116 : LeafTy Try.prog 116 := ⟨⟨_, Try.underlying116, rfl⟩, by kernel_rfl⟩
theorem zr116 : (Try.prog.info? 116).map (·.zero) = some (some (.slice none 0 0)) := by kernel_rfl
theorem sl116 : SliceTy Try.prog 116 123 4 48 (.agg #[(.int .i64 0), (.int .i64 0), (.slice none 0 0), (.pointer none)]) := ⟨Try.underlying116, info_all (by kernel_rfl), rfl, by decide⟩
theorem ty117 : LeafTy Try.prog 117 := ⟨⟨_, Try.underlying117, rfl⟩, by kernel_rfl⟩
theorem ty118 : LeafTy Try.prog 118 := ⟨⟨_, Try.underlying118, rfl⟩, by kernel_rfl⟩
theorem fa120_0 : FieldTy Try.prog 120 0 0 1 false := ⟨⟨_, _, Try.underlying120, rfl, rfl, by kernel_rfl, ⟨_, Try.underlying3, rfl⟩, by decide⟩⟩
theorem fa120_1 : FieldTy Try.prog 120 1 1 1 false := ⟨⟨_, _, Try.underlying120, rfl, rfl, by kernel_rfl, ⟨_, Try.underlying3, rfl⟩, by decide⟩⟩
theorem fa120_2 : FieldTy Try.prog 120 2 2 1 false := ⟨⟨_, _, Try.underlying120, rfl, rfl, by kernel_rfl, ⟨_, Try.underlying3, rfl⟩, by decide⟩⟩
theorem fa120_3 : FieldTy Try.prog 120 3 3 1 false := ⟨⟨_, _, Try.underlying120, rfl, rfl, by kernel_rfl, ⟨_, Try.underlying3, rfl⟩, by decide⟩⟩
theorem fa120_4 : FieldTy Try.prog 120 4 4 1 false := ⟨⟨_, _, Try.underlying120, rfl, rfl, by kernel_rfl, ⟨_, Try.underlying118, rfl⟩, by decide⟩⟩
def zs120 : List V := [(.raw (.int .i64 0)), (.raw (.int .i64 0)), (.raw (.int .i64 0)), (.raw (.int .i64 0)), (.raw (.map none))]
theorem st120 : StructTy Try.prog 120 [(0, 1), (1, 1), (2, 1), (3, 1), (4, 1)] zs120 := by
  obtain ⟨i, h1, h2⟩ : ∃ i, Try.prog.info? 120 = some i ∧ i.zero = some (.agg #[(.int .i64 0), (.int .i64 0), (.int .i64 0), (.int .i64 0), (.map none)]) := info_zero (by kernel_rfl)
  exact ⟨⟨_, i, _, Try.underlying120, h1, h2, by kernel_rfl, rfl⟩, rfl⟩
theorem ty121 : LeafTy Try.prog 121 := ⟨⟨_, Try.underlying121, rfl⟩, by kernel_rfl⟩
theorem ty123 : AggTy Try.prog 123 4 := ⟨⟨_, Try.underlying123, rfl⟩, by kernel_rfl⟩
theorem fa123_0 : FieldTy Try.prog 123 0 0 1 false := ⟨⟨_, _, Try.underlying123, rfl, rfl, by kernel_rfl, ⟨_, Try.underlying3, rfl⟩, by decide⟩⟩
theorem fa123_1 : FieldTy Try.prog 123 1 1 1 false := ⟨⟨_, _, Try.underlying123, rfl, rfl, by kernel_rfl, ⟨_, Try.underlying3, rfl⟩, by decide⟩⟩
theorem fa123_2 : FieldTy Try.prog 123 2 2 1 false := ⟨⟨_, _, Try.underlying123, rfl, rfl, by kernel_rfl, ⟨_, Try.underlying116, rfl⟩, by decide⟩⟩
theorem fa123_3 : FieldTy Try.prog 123 3 3 1 false := ⟨⟨_, _, Try.underlying123, rfl, rfl, by kernel_rfl, ⟨_, Try.underlying121, rfl⟩, by decide⟩⟩
def zs123 : List V := [(.raw (.int .i64 0)), (.raw (.int .i64 0)), (.raw (.slice none 0 0)), (.raw (.pointer none))]
theorem st123 : StructTy Try.prog 123 [(0, 1), (1, 1), (2, 1), (3, 1)] zs123 := by
  obtain ⟨i, h1, h2⟩ : ∃ i, Try.prog.info? 123 = some i ∧ i.zero = some (.agg #[(.int .i64 0), (.int .i64 0), (.slice none 0 0), (.pointer none)]) := info_zero (by kernel_rfl)
  exact ⟨⟨_, i, _, Try.underlying123, h1, h2, by kernel_rfl, rfl⟩, rfl⟩
theorem zr123 : (Try.prog.info? 123).map (·.zero) = some (some (.agg #[(.int .i64 0), (.int .i64 0), (.slice none 0 0), (.pointer none)])) := by kernel_rfl
theorem sl129 : SliceTy Try.prog 129 4 1 1 (.bool false) := ⟨Try.underlying129, info_all (by kernel_rfl), rfl, by decide⟩
theorem fa131_0 : FieldTy Try.prog 131 0 0 1 false := ⟨⟨_, _, Try.underlying131, rfl, rfl, by kernel_rfl, ⟨_, Try.underlying3, rfl⟩, by decide⟩⟩
theorem fa131_1 : FieldTy Try.prog 131 1 1 1 false := ⟨⟨_, _, Try.underlying131, rfl, rfl, by kernel_rfl, ⟨_, Try.underlying3, rfl⟩, by decide⟩⟩
def zs131 : List V := [(.raw (.int .i64 0)), (.raw (.int .i64 0))]
theorem st131 : StructTy Try.prog 131 [(0, 1), (1, 1)] zs131 := by
  obtain ⟨i, h1, h2⟩ : ∃ i, Try.prog.info? 131 = some i ∧ i.zero = some (.agg #[(.int .i64 0), (.int .i64 0)]) := info_zero (by kernel_rfl)
  exact ⟨⟨_, i, _, Try.underlying131, h1, h2, by kernel_rfl, rfl⟩, rfl⟩
theorem sl132 : SliceTy Try.prog 132 131 2 16 (.agg #[(.int .i64 0), (.int .i64 0)]) := ⟨Try.underlying132, info_all (by kernel_rfl), rfl, by decide⟩
theorem ty136 : AggTy Try.prog 136 2 := ⟨⟨_, Try.underlying136, rfl⟩, by kernel_rfl⟩
theorem fa136_0 : FieldTy Try.prog 136 0 0 1 false := ⟨⟨_, _, Try.underlying136, rfl, rfl, by kernel_rfl, ⟨_, Try.underlying3, rfl⟩, by decide⟩⟩
theorem fa136_1 : FieldTy Try.prog 136 1 1 1 false := ⟨⟨_, _, Try.underlying136, rfl, rfl, by kernel_rfl, ⟨_, Try.underlying3, rfl⟩, by decide⟩⟩
def zs136 : List V := [(.raw (.int .i64 0)), (.raw (.int .i64 0))]
theorem st136 : StructTy Try.prog 136 [(0, 1), (1, 1)] zs136 := by
  obtain ⟨i, h1, h2⟩ : ∃ i, Try.prog.info? 136 = some i ∧ i.zero = some (.agg #[(.int .i64 0), (.int .i64 0)]) := info_zero (by kernel_rfl)
  exact ⟨⟨_, i, _, Try.underlying136, h1, h2, by kernel_rfl, rfl⟩, rfl⟩
theorem zr136 : (Try.prog.info? 136).map (·.zero) = some (some (.agg #[(.int .i64 0), (.int .i64 0)])) := by kernel_rfl
theorem ty139 : LeafTy Try.prog 139 := ⟨⟨_, Try.underlying139, rfl⟩, by kernel_rfl⟩
theorem zr139 : (Try.prog.info? 139).map (·.zero) = some (some (.slice none 0 0)) := by kernel_rfl
theorem sl139 : SliceTy Try.prog 139 141 2 16 (.agg #[(.int .u64 0), (.int .u64 0)]) := ⟨Try.underlying139, info_all (by kernel_rfl), rfl, by decide⟩
theorem ty141 : AggTy Try.prog 141 2 := ⟨⟨_, Try.underlying141, rfl⟩, by kernel_rfl⟩
def zs141 : List V := [(.raw (.int .u64 0)), (.raw (.int .u64 0))]
theorem at141 : ArrTy Try.prog 141 2 114 1 zs141 := arr_ty (cs := [.int .u64 0, .int .u64 0]) Try.underlying141 (by kernel_rfl) (by kernel_rfl) rfl rfl
theorem se141 : (Try.prog.info? 114).map (·.size) = some 1 := by kernel_rfl
theorem zr141 : (Try.prog.info? 141).map (·.zero) = some (some (.agg #[(.int .u64 0), (.int .u64 0)])) := by kernel_rfl
theorem en6 : Enters Try.prog 6 := ⟨⟨_, Try.func6, by kernel_rfl, by kernel_rfl⟩⟩
theorem en7 : Enters Try.prog 7 := ⟨⟨_, Try.func7, by kernel_rfl, by kernel_rfl⟩⟩
theorem en8 : Enters Try.prog 8 := ⟨⟨_, Try.func8, by kernel_rfl, by kernel_rfl⟩⟩
theorem en9 : Enters Try.prog 9 := ⟨⟨_, Try.func9, by kernel_rfl, by kernel_rfl⟩⟩
theorem en10 : Enters Try.prog 10 := ⟨⟨_, Try.func10, by kernel_rfl, by kernel_rfl⟩⟩
theorem en11 : Enters Try.prog 11 := ⟨⟨_, Try.func11, by kernel_rfl, by kernel_rfl⟩⟩
theorem en12 : Enters Try.prog 12 := ⟨⟨_, Try.func12, by kernel_rfl, by kernel_rfl⟩⟩
theorem en13 : Enters Try.prog 13 := ⟨⟨_, Try.func13, by kernel_rfl, by kernel_rfl⟩⟩
theorem en14 : Enters Try.prog 14 := ⟨⟨_, Try.func14, by kernel_rfl, by kernel_rfl⟩⟩
theorem en15 : Enters Try.prog 15 := ⟨⟨_, Try.func15, by kernel_rfl, by kernel_rfl⟩⟩
theorem en16 : Enters Try.prog 16 := ⟨⟨_, Try.func16, by kernel_rfl, by kernel_rfl⟩⟩
theorem en17 : Enters Try.prog 17 := ⟨⟨_, Try.func17, by kernel_rfl, by kernel_rfl⟩⟩
theorem en18 : Enters Try.prog 18 := ⟨⟨_, Try.func18, by kernel_rfl, by kernel_rfl⟩⟩
theorem en19 : Enters Try.prog 19 := ⟨⟨_, Try.func19, by kernel_rfl, by kernel_rfl⟩⟩
theorem en20 : Enters Try.prog 20 := ⟨⟨_, Try.func20, by kernel_rfl, by kernel_rfl⟩⟩
theorem en21 : Enters Try.prog 21 := ⟨⟨_, Try.func21, by kernel_rfl, by kernel_rfl⟩⟩
theorem en22 : Enters Try.prog 22 := ⟨⟨_, Try.func22, by kernel_rfl, by kernel_rfl⟩⟩
theorem en23 : Enters Try.prog 23 := ⟨⟨_, Try.func23, by kernel_rfl, by kernel_rfl⟩⟩
theorem en24 : Enters Try.prog 24 := ⟨⟨_, Try.func24, by kernel_rfl, by kernel_rfl⟩⟩
theorem en25 : Enters Try.prog 25 := ⟨⟨_, Try.func25, by kernel_rfl, by kernel_rfl⟩⟩
theorem en26 : Enters Try.prog 26 := ⟨⟨_, Try.func26, by kernel_rfl, by kernel_rfl⟩⟩
theorem en27 : Enters Try.prog 27 := ⟨⟨_, Try.func27, by kernel_rfl, by kernel_rfl⟩⟩
theorem en28 : Enters Try.prog 28 := ⟨⟨_, Try.func28, by kernel_rfl, by kernel_rfl⟩⟩
theorem en29 : Enters Try.prog 29 := ⟨⟨_, Try.func29, by kernel_rfl, by kernel_rfl⟩⟩
theorem en30 : Enters Try.prog 30 := ⟨⟨_, Try.func30, by kernel_rfl, by kernel_rfl⟩⟩
theorem en31 : Enters Try.prog 31 := ⟨⟨_, Try.func31, by kernel_rfl, by kernel_rfl⟩⟩
theorem en32 : Enters Try.prog 32 := ⟨⟨_, Try.func32, by kernel_rfl, by kernel_rfl⟩⟩
theorem en33 : Enters Try.prog 33 := ⟨⟨_, Try.func33, by kernel_rfl, by kernel_rfl⟩⟩
theorem en34 : Enters Try.prog 34 := ⟨⟨_, Try.func34, by kernel_rfl, by kernel_rfl⟩⟩
theorem en37 : Enters Try.prog 37 := ⟨⟨_, Try.func37, by kernel_rfl, by kernel_rfl⟩⟩
theorem en40 : Enters Try.prog 40 := ⟨⟨_, Try.func40, by kernel_rfl, by kernel_rfl⟩⟩
theorem en41 : Enters Try.prog 41 := ⟨⟨_, Try.func41, by kernel_rfl, by kernel_rfl⟩⟩
theorem en42 : Enters Try.prog 42 := ⟨⟨_, Try.func42, by kernel_rfl, by kernel_rfl⟩⟩
theorem en43 : Enters Try.prog 43 := ⟨⟨_, Try.func43, by kernel_rfl, by kernel_rfl⟩⟩
theorem en44 : Enters Try.prog 44 := ⟨⟨_, Try.func44, by kernel_rfl, by kernel_rfl⟩⟩
theorem en45 : Enters Try.prog 45 := ⟨⟨_, Try.func45, by kernel_rfl, by kernel_rfl⟩⟩
theorem en46 : Enters Try.prog 46 := ⟨⟨_, Try.func46, by kernel_rfl, by kernel_rfl⟩⟩
theorem en47 : Enters Try.prog 47 := ⟨⟨_, Try.func47, by kernel_rfl, by kernel_rfl⟩⟩
theorem en48 : Enters Try.prog 48 := ⟨⟨_, Try.func48, by kernel_rfl, by kernel_rfl⟩⟩
theorem en49 : Enters Try.prog 49 := ⟨⟨_, Try.func49, by kernel_rfl, by kernel_rfl⟩⟩
theorem en50 : Enters Try.prog 50 := ⟨⟨_, Try.func50, by kernel_rfl, by kernel_rfl⟩⟩
theorem en51 : Enters Try.prog 51 := ⟨⟨_, Try.func51, by kernel_rfl, by kernel_rfl⟩⟩
theorem en63 : Enters Try.prog 63 := ⟨⟨_, Try.func63, by kernel_rfl, by kernel_rfl⟩⟩
theorem en64 : Enters Try.prog 64 := ⟨⟨_, Try.func64, by kernel_rfl, by kernel_rfl⟩⟩
theorem en65 : Enters Try.prog 65 := ⟨⟨_, Try.func65, by kernel_rfl, by kernel_rfl⟩⟩
theorem en66 : Enters Try.prog 66 := ⟨⟨_, Try.func66, by kernel_rfl, by kernel_rfl⟩⟩
theorem en67 : Enters Try.prog 67 := ⟨⟨_, Try.func67, by kernel_rfl, by kernel_rfl⟩⟩
theorem en68 : Enters Try.prog 68 := ⟨⟨_, Try.func68, by kernel_rfl, by kernel_rfl⟩⟩
theorem en69 : Enters Try.prog 69 := ⟨⟨_, Try.func69, by kernel_rfl, by kernel_rfl⟩⟩
theorem en70 : Enters Try.prog 70 := ⟨⟨_, Try.func70, by kernel_rfl, by kernel_rfl⟩⟩
theorem en71 : Enters Try.prog 71 := ⟨⟨_, Try.func71, by kernel_rfl, by kernel_rfl⟩⟩
theorem en72 : Enters Try.prog 72 := ⟨⟨_, Try.func72, by kernel_rfl, by kernel_rfl⟩⟩
theorem en73 : Enters Try.prog 73 := ⟨⟨_, Try.func73, by kernel_rfl, by kernel_rfl⟩⟩
theorem en74 : Enters Try.prog 74 := ⟨⟨_, Try.func74, by kernel_rfl, by kernel_rfl⟩⟩
theorem en80 : Enters Try.prog 80 := ⟨⟨_, Try.func80, by kernel_rfl, by kernel_rfl⟩⟩
theorem en81 : Enters Try.prog 81 := ⟨⟨_, Try.func81, by kernel_rfl, by kernel_rfl⟩⟩
theorem en82 : Enters Try.prog 82 := ⟨⟨_, Try.func82, by kernel_rfl, by kernel_rfl⟩⟩
theorem en83 : Enters Try.prog 83 := ⟨⟨_, Try.func83, by kernel_rfl, by kernel_rfl⟩⟩
theorem en84 : Enters Try.prog 84 := ⟨⟨_, Try.func84, by kernel_rfl, by kernel_rfl⟩⟩
theorem en85 : Enters Try.prog 85 := ⟨⟨_, Try.func85, by kernel_rfl, by kernel_rfl⟩⟩
theorem en86 : Enters Try.prog 86 := ⟨⟨_, Try.func86, by kernel_rfl, by kernel_rfl⟩⟩
theorem en87 : Enters Try.prog 87 := ⟨⟨_, Try.func87, by kernel_rfl, by kernel_rfl⟩⟩
theorem en88 : Enters Try.prog 88 := ⟨⟨_, Try.func88, by kernel_rfl, by kernel_rfl⟩⟩
theorem en89 : Enters Try.prog 89 := ⟨⟨_, Try.func89, by kernel_rfl, by kernel_rfl⟩⟩
theorem en90 : Enters Try.prog 90 := ⟨⟨_, Try.func90, by kernel_rfl, by kernel_rfl⟩⟩
theorem en91 : Enters Try.prog 91 := ⟨⟨_, Try.func91, by kernel_rfl, by kernel_rfl⟩⟩
theorem en92 : Enters Try.prog 92 := ⟨⟨_, Try.func92, by kernel_rfl, by kernel_rfl⟩⟩
theorem en93 : Enters Try.prog 93 := ⟨⟨_, Try.func93, by kernel_rfl, by kernel_rfl⟩⟩
theorem en94 : Enters Try.prog 94 := ⟨⟨_, Try.func94, by kernel_rfl, by kernel_rfl⟩⟩
theorem en96 : Enters Try.prog 96 := ⟨⟨_, Try.func96, by kernel_rfl, by kernel_rfl⟩⟩
theorem en97 : Enters Try.prog 97 := ⟨⟨_, Try.func97, by kernel_rfl, by kernel_rfl⟩⟩
theorem en98 : Enters Try.prog 98 := ⟨⟨_, Try.func98, by kernel_rfl, by kernel_rfl⟩⟩
theorem en99 : Enters Try.prog 99 := ⟨⟨_, Try.func99, by kernel_rfl, by kernel_rfl⟩⟩
theorem en100 : Enters Try.prog 100 := ⟨⟨_, Try.func100, by kernel_rfl, by kernel_rfl⟩⟩
theorem en101 : Enters Try.prog 101 := ⟨⟨_, Try.func101, by kernel_rfl, by kernel_rfl⟩⟩
theorem en102 : Enters Try.prog 102 := ⟨⟨_, Try.func102, by kernel_rfl, by kernel_rfl⟩⟩
theorem en103 : Enters Try.prog 103 := ⟨⟨_, Try.func103, by kernel_rfl, by kernel_rfl⟩⟩
theorem mix : Try.prog.follows .mixedOrders = true := by kernel_rfl
end Go.Proofs.Ytnklonhioneeoaa.VT
