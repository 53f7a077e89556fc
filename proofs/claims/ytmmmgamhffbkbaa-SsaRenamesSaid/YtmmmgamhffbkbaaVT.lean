import Derived.Test.YtmmmgamhffbkbaaVC
import Derived.Test.YtmmmgamhffbkbaaProg
set_option linter.unusedVariables false
namespace Go.Proofs.Ytmmmgamhffbkbaa.VT
open Go.VL
theorem ty1 : LeafTy Try.prog 1 := ⟨⟨_, Try.underlying1, rfl⟩, by kernel_rfl⟩
theorem ty2 : LeafTy Try.prog 2 := ⟨⟨_, Try.underlying2, rfl⟩, by kernel_rfl⟩
theorem ty3 : LeafTy Try.prog 3 := ⟨⟨_, Try.underlying3, rfl⟩, by kernel_rfl⟩
theorem zr3 : (Try.prog.info? 3).map (·.zero) = some (some (.int .i64 0)) := by kernel_rfl
theorem ty4 : LeafTy Try.prog 4 := ⟨⟨_, Try.underlying4, rfl⟩, by kernel_rfl⟩
theorem ty22 : LeafTy Try.prog 22 := ⟨⟨_, Try.underlying22, rfl⟩, by kernel_rfl⟩
theorem sl22 : SliceTy Try.prog 22 37 2 32 (.agg #[(.int .i64 0), (.slice none 0 0)]) := ⟨Try.underlying22, info_all (by kernel_rfl), rfl, by decide⟩
theorem ty24 : AggTy Try.prog 24 2 := ⟨⟨_, Try.underlying24, rfl⟩, by kernel_rfl⟩
theorem fa24_0 : FieldTy Try.prog 24 0 0 1 false := ⟨⟨_, _, Try.underlying24, rfl, rfl, by kernel_rfl, ⟨_, Try.underlying22, rfl⟩, by decide⟩⟩
theorem fa24_1 : FieldTy Try.prog 24 1 1 1 false := ⟨⟨_, _, Try.underlying24, rfl, rfl, by kernel_rfl, ⟨_, Try.underlying3, rfl⟩, by decide⟩⟩
def zs24 : List V := [(.raw (.slice none 0 0)), (.raw (.int .i64 0))]
theorem st24 : StructTy Try.prog 24 [(0, 1), (1, 1)] zs24 := by
  obtain ⟨i, h1, h2⟩ : ∃ i, Try.prog.info? 24 = some i ∧ i.zero = some (.agg #[(.slice none 0 0), (.int .i64 0)]) := info_zero (by kernel_rfl)
  exact ⟨⟨_, i, _, Try.underlying24, h1, h2, by kernel_rfl, rfl⟩, rfl⟩
theorem zr24 : (Try.prog.info? 24).map (·.zero) = some (some (.agg #[(.slice none 0 0), (.int .i64 0)])) := by kernel_rfl
theorem ty26 : LeafTy Try.prog 26 := ⟨⟨_, Try.underlying26, rfl⟩, by kernel_rfl⟩
theorem sl26 : SliceTy Try.prog 26 3 1 8 (.int .i64 0) := ⟨Try.underlying26, info_all (by kernel_rfl), rfl, by decide⟩
theorem ty28 : AggTy Try.prog 28 3 := ⟨⟨_, Try.underlying28, rfl⟩, by kernel_rfl⟩
theorem fa28_0 : FieldTy Try.prog 28 0 0 1 false := ⟨⟨_, _, Try.underlying28, rfl, rfl, by kernel_rfl, ⟨_, Try.underlying26, rfl⟩, by decide⟩⟩
theorem fa28_1 : FieldTy Try.prog 28 1 1 1 false := ⟨⟨_, _, Try.underlying28, rfl, rfl, by kernel_rfl, ⟨_, Try.underlying3, rfl⟩, by decide⟩⟩
theorem fa28_2 : FieldTy Try.prog 28 2 2 1 false := ⟨⟨_, _, Try.underlying28, rfl, rfl, by kernel_rfl, ⟨_, Try.underlying3, rfl⟩, by decide⟩⟩
def zs28 : List V := [(.raw (.slice none 0 0)), (.raw (.int .i64 0)), (.raw (.int .i64 0))]
theorem st28 : StructTy Try.prog 28 [(0, 1), (1, 1), (2, 1)] zs28 := by
  obtain ⟨i, h1, h2⟩ : ∃ i, Try.prog.info? 28 = some i ∧ i.zero = some (.agg #[(.slice none 0 0), (.int .i64 0), (.int .i64 0)]) := info_zero (by kernel_rfl)
  exact ⟨⟨_, i, _, Try.underlying28, h1, h2, by kernel_rfl, rfl⟩, rfl⟩
theorem zr28 : (Try.prog.info? 28).map (·.zero) = some (some (.agg #[(.slice none 0 0), (.int .i64 0), (.int .i64 0)])) := by kernel_rfl
theorem ty35 : LeafTy Try.prog 35 := ⟨⟨_, Try.underlying35, rfl⟩, by kernel_rfl⟩
theorem sl35 : SliceTy Try.prog 35 44 7 120 (.agg #[(.slice none 0 0), (.slice none 0 0), (.int .i64 0), (.int .i64 0), (.int .i64 0), (.slice none 0 0), (.slice none 0 0)]) := ⟨Try.underlying35, info_all (by kernel_rfl), rfl, by decide⟩
theorem ty37 : AggTy Try.prog 37 2 := ⟨⟨_, Try.underlying37, rfl⟩, by kernel_rfl⟩
theorem fa37_0 : FieldTy Try.prog 37 0 0 1 false := ⟨⟨_, _, Try.underlying37, rfl, rfl, by kernel_rfl, ⟨_, Try.underlying3, rfl⟩, by decide⟩⟩
theorem fa37_1 : FieldTy Try.prog 37 1 1 1 false := ⟨⟨_, _, Try.underlying37, rfl, rfl, by kernel_rfl, ⟨_, Try.underlying35, rfl⟩, by decide⟩⟩
def zs37 : List V := [(.raw (.int .i64 0)), (.raw (.slice none 0 0))]
theorem st37 : StructTy Try.prog 37 [(0, 1), (1, 1)] zs37 := by
  obtain ⟨i, h1, h2⟩ : ∃ i, Try.prog.info? 37 = some i ∧ i.zero = some (.agg #[(.int .i64 0), (.slice none 0 0)]) := info_zero (by kernel_rfl)
  exact ⟨⟨_, i, _, Try.underlying37, h1, h2, by kernel_rfl, rfl⟩, rfl⟩
theorem zr37 : (Try.prog.info? 37).map (·.zero) = some (some (.agg #[(.int .i64 0), (.slice none 0 0)])) := by kernel_rfl
theorem ty39 : LeafTy Try.prog 39 := ⟨⟨_, Try.underlying39, rfl⟩, by kernel_rfl⟩
theorem sl39 : SliceTy Try.prog 39 46 4 48 (.agg #[(.int .i64 0), (.int .i64 0), (.int .i64 0), (.slice none 0 0)]) := ⟨Try.underlying39, info_all (by kernel_rfl), rfl, by decide⟩
theorem ty40 : LeafTy Try.prog 40 := ⟨⟨_, Try.underlying40, rfl⟩, by kernel_rfl⟩
theorem sl40 : SliceTy Try.prog 40 48 2 32 (.agg #[(.int .i64 0), (.slice none 0 0)]) := ⟨Try.underlying40, info_all (by kernel_rfl), rfl, by decide⟩
theorem ty42 : AggTy Try.prog 42 5 := ⟨⟨_, Try.underlying42, rfl⟩, by kernel_rfl⟩
theorem fa42_0 : FieldTy Try.prog 42 0 0 1 false := ⟨⟨_, _, Try.underlying42, rfl, rfl, by kernel_rfl, ⟨_, Try.underlying3, rfl⟩, by decide⟩⟩
theorem fa42_1 : FieldTy Try.prog 42 1 1 1 false := ⟨⟨_, _, Try.underlying42, rfl, rfl, by kernel_rfl, ⟨_, Try.underlying3, rfl⟩, by decide⟩⟩
theorem fa42_2 : FieldTy Try.prog 42 2 2 1 false := ⟨⟨_, _, Try.underlying42, rfl, rfl, by kernel_rfl, ⟨_, Try.underlying3, rfl⟩, by decide⟩⟩
theorem fa42_3 : FieldTy Try.prog 42 3 3 1 false := ⟨⟨_, _, Try.underlying42, rfl, rfl, by kernel_rfl, ⟨_, Try.underlying26, rfl⟩, by decide⟩⟩
theorem fa42_4 : FieldTy Try.prog 42 4 4 1 false := ⟨⟨_, _, Try.underlying42, rfl, rfl, by kernel_rfl, ⟨_, Try.underlying40, rfl⟩, by decide⟩⟩
def zs42 : List V := [(.raw (.int .i64 0)), (.raw (.int .i64 0)), (.raw (.int .i64 0)), (.raw (.slice none 0 0)), (.raw (.slice none 0 0))]
theorem st42 : StructTy Try.prog 42 [(0, 1), (1, 1), (2, 1), (3, 1), (4, 1)] zs42 := by
  obtain ⟨i, h1, h2⟩ : ∃ i, Try.prog.info? 42 = some i ∧ i.zero = some (.agg #[(.int .i64 0), (.int .i64 0), (.int .i64 0), (.slice none 0 0), (.slice none 0 0)]) := info_zero (by kernel_rfl)
  exact ⟨⟨_, i, _, Try.underlying42, h1, h2, by kernel_rfl, rfl⟩, rfl⟩
theorem zr42 : (Try.prog.info? 42).map (·.zero) = some (some (.agg #[(.int .i64 0), (.int .i64 0), (.int .i64 0), (.slice none 0 0), (.slice none 0 0)])) := by kernel_rfl
theorem ty44 : AggTy Try.prog 44 7 := ⟨⟨_, Try.underlying44, rfl⟩, by kernel_rfl⟩
theorem fa44_0 : FieldTy Try.prog 44 0 0 1 false := ⟨⟨_, _, Try.underlying44, rfl, rfl, by kernel_rfl, ⟨_, Try.underlying26, rfl⟩, by decide⟩⟩
theorem fa44_1 : FieldTy Try.prog 44 1 1 1 false := ⟨⟨_, _, Try.underlying44, rfl, rfl, by kernel_rfl, ⟨_, Try.underlying39, rfl⟩, by decide⟩⟩
theorem fa44_2 : FieldTy Try.prog 44 2 2 5 true := ⟨⟨_, _, Try.underlying44, rfl, rfl, by kernel_rfl, ⟨_, Try.underlying42, rfl⟩, by decide⟩⟩
def zs44 : List V := [(.raw (.slice none 0 0)), (.raw (.slice none 0 0)), (.raw (.int .i64 0)), (.raw (.int .i64 0)), (.raw (.int .i64 0)), (.raw (.slice none 0 0)), (.raw (.slice none 0 0))]
theorem st44 : StructTy Try.prog 44 [(0, 1), (1, 1), (2, 5)] zs44 := by
  obtain ⟨i, h1, h2⟩ : ∃ i, Try.prog.info? 44 = some i ∧ i.zero = some (.agg #[(.slice none 0 0), (.slice none 0 0), (.int .i64 0), (.int .i64 0), (.int .i64 0), (.slice none 0 0), (.slice none 0 0)]) := info_zero (by kernel_rfl)
  exact ⟨⟨_, i, _, Try.underlying44, h1, h2, by kernel_rfl, rfl⟩, rfl⟩
theorem zr44 : (Try.prog.info? 44).map (·.zero) = some (some (.agg #[(.slice none 0 0), (.slice none 0 0), (.int .i64 0), (.int .i64 0), (.int .i64 0), (.slice none 0 0), (.slice none 0 0)])) := by kernel_rfl
theorem ty46 : AggTy Try.prog 46 4 := ⟨⟨_, Try.underlying46, rfl⟩, by kernel_rfl⟩
theorem fa46_0 : FieldTy Try.prog 46 0 0 1 false := ⟨⟨_, _, Try.underlying46, rfl, rfl, by kernel_rfl, ⟨_, Try.underlying3, rfl⟩, by decide⟩⟩
theorem fa46_1 : FieldTy Try.prog 46 1 1 1 false := ⟨⟨_, _, Try.underlying46, rfl, rfl, by kernel_rfl, ⟨_, Try.underlying3, rfl⟩, by decide⟩⟩
theorem fa46_2 : FieldTy Try.prog 46 2 2 1 false := ⟨⟨_, _, Try.underlying46, rfl, rfl, by kernel_rfl, ⟨_, Try.underlying3, rfl⟩, by decide⟩⟩
theorem fa46_3 : FieldTy Try.prog 46 3 3 1 false := ⟨⟨_, _, Try.underlying46, rfl, rfl, by kernel_rfl, ⟨_, Try.underlying26, rfl⟩, by decide⟩⟩
def zs46 : List V := [(.raw (.int .i64 0)), (.raw (.int .i64 0)), (.raw (.int .i64 0)), (.raw (.slice none 0 0))]
theorem st46 : StructTy Try.prog 46 [(0, 1), (1, 1), (2, 1), (3, 1)] zs46 := by
  obtain ⟨i, h1, h2⟩ : ∃ i, Try.prog.info? 46 = some i ∧ i.zero = some (.agg #[(.int .i64 0), (.int .i64 0), (.int .i64 0), (.slice none 0 0)]) := info_zero (by kernel_rfl)
  exact ⟨⟨_, i, _, Try.underlying46, h1, h2, by kernel_rfl, rfl⟩, rfl⟩
theorem zr46 : (Try.prog.info? 46).map (·.zero) = some (some (.agg #[(.int .i64 0), (.int .i64 0), (.int .i64 0), (.slice none 0 0)])) := by kernel_rfl
theorem ty48 : AggTy Try.prog 48 2 := ⟨⟨_, Try.underlying48, rfl⟩, by kernel_rfl⟩
theorem fa48_0 : FieldTy Try.prog 48 0 0 1 false := ⟨⟨_, _, Try.underlying48, rfl, rfl, by kernel_rfl, ⟨_, Try.underlying3, rfl⟩, by decide⟩⟩
theorem fa48_1 : FieldTy Try.prog 48 1 1 1 false := ⟨⟨_, _, Try.underlying48, rfl, rfl, by kernel_rfl, ⟨_, Try.underlying26, rfl⟩, by decide⟩⟩
def zs48 : List V := [(.raw (.int .i64 0)), (.raw (.slice none 0 0))]
theorem st48 : StructTy Try.prog 48 [(0, 1), (1, 1)] zs48 := by
  obtain ⟨i, h1, h2⟩ : ∃ i, Try.prog.info? 48 = some i ∧ i.zero = some (.agg #[(.int .i64 0), (.slice none 0 0)]) := info_zero (by kernel_rfl)
  exact ⟨⟨_, i, _, Try.underlying48, h1, h2, by kernel_rfl, rfl⟩, rfl⟩
theorem zr48 : (Try.prog.info? 48).map (·.zero) = some (some (.agg #[(.int .i64 0), (.slice none 0 0)])) := by kernel_rfl
theorem ty65 : LeafTy Try.prog 65 := ⟨⟨_, Try.underlying65, rfl⟩, by kernel_rfl⟩
theorem sl65 : SliceTy Try.prog 65 76 1 8 (.pointer none) := ⟨Try.underlying65, info_all (by kernel_rfl), rfl, by decide⟩
theorem fa67_0 : FieldTy Try.prog 67 0 0 2 true := ⟨⟨_, _, Try.underlying67, rfl, rfl, by kernel_rfl, ⟨_, Try.underlying24, rfl⟩, by decide⟩⟩
theorem fa67_1 : FieldTy Try.prog 67 1 2 1 false := ⟨⟨_, _, Try.underlying67, rfl, rfl, by kernel_rfl, ⟨_, Try.underlying65, rfl⟩, by decide⟩⟩
theorem fa67_2 : FieldTy Try.prog 67 2 3 1 false := ⟨⟨_, _, Try.underlying67, rfl, rfl, by kernel_rfl, ⟨_, Try.underlying3, rfl⟩, by decide⟩⟩
theorem fa67_3 : FieldTy Try.prog 67 3 4 1 false := ⟨⟨_, _, Try.underlying67, rfl, rfl, by kernel_rfl, ⟨_, Try.underlying4, rfl⟩, by decide⟩⟩
theorem fa67_4 : FieldTy Try.prog 67 4 5 1 false := ⟨⟨_, _, Try.underlying67, rfl, rfl, by kernel_rfl, ⟨_, Try.underlying4, rfl⟩, by decide⟩⟩
theorem fa67_5 : FieldTy Try.prog 67 5 6 3 true := ⟨⟨_, _, Try.underlying67, rfl, rfl, by kernel_rfl, ⟨_, Try.underlying28, rfl⟩, by decide⟩⟩
def zs67 : List V := [(.raw (.slice none 0 0)), (.raw (.int .i64 0)), (.raw (.slice none 0 0)), (.raw (.int .i64 0)), (.raw (.bool false)), (.raw (.bool false)), (.raw (.slice none 0 0)), (.raw (.int .i64 0)), (.raw (.int .i64 0))]
theorem st67 : StructTy Try.prog 67 [(0, 2), (2, 1), (3, 1), (4, 1), (5, 1), (6, 3)] zs67 := by
  obtain ⟨i, h1, h2⟩ : ∃ i, Try.prog.info? 67 = some i ∧ i.zero = some (.agg #[(.slice none 0 0), (.int .i64 0), (.slice none 0 0), (.int .i64 0), (.bool false), (.bool false), (.slice none 0 0), (.int .i64 0), (.int .i64 0)]) := info_zero (by kernel_rfl)
  exact ⟨⟨_, i, _, Try.underlying67, h1, h2, by kernel_rfl, rfl⟩, rfl⟩
theorem ty69 : LeafTy Try.prog 69 := ⟨⟨_, Try.underlying69, rfl⟩, by kernel_rfl⟩
theorem ty70 : LeafTy Try.prog 70 := ⟨⟨_, Try.underlying70, rfl⟩, by kernel_rfl⟩
theorem fa72_0 : FieldTy Try.prog 72 0 0 2 true := ⟨⟨_, _, Try.underlying72, rfl, rfl, by kernel_rfl, ⟨_, Try.underlying37, rfl⟩, by decide⟩⟩
theorem fa72_1 : FieldTy Try.prog 72 1 2 1 false := ⟨⟨_, _, Try.underlying72, rfl, rfl, by kernel_rfl, ⟨_, Try.underlying70, rfl⟩, by decide⟩⟩
def zs72 : List V := [(.raw (.int .i64 0)), (.raw (.slice none 0 0)), (.raw (.map none))]
theorem st72 : StructTy Try.prog 72 [(0, 2), (2, 1)] zs72 := by
  obtain ⟨i, h1, h2⟩ : ∃ i, Try.prog.info? 72 = some i ∧ i.zero = some (.agg #[(.int .i64 0), (.slice none 0 0), (.map none)]) := info_zero (by kernel_rfl)
  exact ⟨⟨_, i, _, Try.underlying72, h1, h2, by kernel_rfl, rfl⟩, rfl⟩
theorem ty75 : LeafTy Try.prog 75 := ⟨⟨_, Try.underlying75, rfl⟩, by kernel_rfl⟩
theorem zr75 : (Try.prog.info? 75).map (·.zero) = some (some (.slice none 0 0)) := by kernel_rfl
theorem sl75 : SliceTy Try.prog 75 82 4 48 (.agg #[(.int .i64 0), (.int .i64 0), (.slice none 0 0), (.pointer none)]) := ⟨Try.underlying75, info_all (by kernel_rfl), rfl, by decide⟩
theorem ty76 : LeafTy Try.prog 76 := ⟨⟨_, Try.underlying76, rfl⟩, by kernel_rfl⟩
theorem ty77 : LeafTy Try.prog 77 := ⟨⟨_, Try.underlying77, rfl⟩, by kernel_rfl⟩
theorem fa79_0 : FieldTy Try.prog 79 0 0 1 false := ⟨⟨_, _, Try.underlying79, rfl, rfl, by kernel_rfl, ⟨_, Try.underlying3, rfl⟩, by decide⟩⟩
theorem fa79_1 : FieldTy Try.prog 79 1 1 1 false := ⟨⟨_, _, Try.underlying79, rfl, rfl, by kernel_rfl, ⟨_, Try.underlying3, rfl⟩, by decide⟩⟩
theorem fa79_2 : FieldTy Try.prog 79 2 2 1 false := ⟨⟨_, _, Try.underlying79, rfl, rfl, by kernel_rfl, ⟨_, Try.underlying3, rfl⟩, by decide⟩⟩
theorem fa79_3 : FieldTy Try.prog 79 3 3 1 false := ⟨⟨_, _, Try.underlying79, rfl, rfl, by kernel_rfl, ⟨_, Try.underlying3, rfl⟩, by decide⟩⟩
theorem fa79_4 : FieldTy Try.prog 79 4 4 1 false := ⟨⟨_, _, Try.underlying79, rfl, rfl, by kernel_rfl, ⟨_, Try.underlying77, rfl⟩, by decide⟩⟩
def zs79 : List V := [(.raw (.int .i64 0)), (.raw (.int .i64 0)), (.raw (.int .i64 0)), (.raw (.int .i64 0)), (.raw (.map none))]
theorem st79 : StructTy Try.prog 79 [(0, 1), (1, 1), (2, 1), (3, 1), (4, 1)] zs79 := by
  obtain ⟨i, h1, h2⟩ : ∃ i, Try.prog.info? 79 = some i ∧ i.zero = some (.agg #[(.int .i64 0), (.int .i64 0), (.int .i64 0), (.int .i64 0), (.map none)]) := info_zero (by kernel_rfl)
  exact ⟨⟨_, i, _, Try.underlying79, h1, h2, by kernel_rfl, rfl⟩, rfl⟩
theorem ty80 : LeafTy Try.prog 80 := ⟨⟨_, Try.underlying80, rfl⟩, by kernel_rfl⟩
theorem ty82 : AggTy Try.prog 82 4 := ⟨⟨_, Try.underlying82, rfl⟩, by kernel_rfl⟩
theorem fa82_0 : FieldTy Try.prog 82 0 0 1 false := ⟨⟨_, _, Try.underlying82, rfl, rfl, by kernel_rfl, ⟨_, Try.underlying3, rfl⟩, by decide⟩⟩
theorem fa82_1 : FieldTy Try.prog 82 1 1 1 false := ⟨⟨_, _, Try.underlying82, rfl, rfl, by kernel_rfl, ⟨_, Try.underlying3, rfl⟩, by decide⟩⟩
theorem fa82_2 : FieldTy Try.prog 82 2 2 1 false := ⟨⟨_, _, Try.underlying82, rfl, rfl, by kernel_rfl, ⟨_, Try.underlying75, rfl⟩, by decide⟩⟩
theorem fa82_3 : FieldTy Try.prog 82 3 3 1 false := ⟨⟨_, _, Try.underlying82, rfl, rfl, by kernel_rfl, ⟨_, Try.underlying80, rfl⟩, by decide⟩⟩
def zs82 : List V := [(.raw (.int .i64 0)), (.raw (.int .i64 0)), (.raw (.slice none 0 0)), (.raw (.pointer none))]
theorem st82 : StructTy Try.prog 82 [(0, 1), (1, 1), (2, 1), (3, 1)] zs82 := by
  obtain ⟨i, h1, h2⟩ : ∃ i, Try.prog.info? 82 = some i ∧ i.zero = some (.agg #[(.int .i64 0), (.int .i64 0), (.slice none 0 0), (.pointer none)]) := info_zero (by kernel_rfl)
  exact ⟨⟨_, i, _, Try.underlying82, h1, h2, by kernel_rfl, rfl⟩, rfl⟩
theorem zr82 : (Try.prog.info? 82).map (·.zero) = some (some (.agg #[(.int .i64 0), (.int .i64 0), (.slice none 0 0), (.pointer none)])) := by kernel_rfl
theorem ty90 : AggTy Try.prog 90 2 := ⟨⟨_, Try.underlying90, rfl⟩, by kernel_rfl⟩
theorem fa90_0 : FieldTy Try.prog 90 0 0 1 false := ⟨⟨_, _, Try.underlying90, rfl, rfl, by kernel_rfl, ⟨_, Try.underlying3, rfl⟩, by decide⟩⟩
theorem fa90_1 : FieldTy Try.prog 90 1 1 1 false := ⟨⟨_, _, Try.underlying90, rfl, rfl, by kernel_rfl, ⟨_, Try.underlying3, rfl⟩, by decide⟩⟩
def zs90 : List V := [(.raw (.int .i64 0)), (.raw (.int .i64 0))]
theorem st90 : StructTy Try.prog 90 [(0, 1), (1, 1)] zs90 := by
  obtain ⟨i, h1, h2⟩ : ∃ i, Try.prog.info? 90 = some i ∧ i.zero = some (.agg #[(.int .i64 0), (.int .i64 0)]) := info_zero (by kernel_rfl)
  exact ⟨⟨_, i, _, Try.underlying90, h1, h2, by kernel_rfl, rfl⟩, rfl⟩
theorem zr90 : (Try.prog.info? 90).map (·.zero) = some (some (.agg #[(.int .i64 0), (.int .i64 0)])) := by kernel_rfl
theorem ty93 : LeafTy Try.prog 93 := ⟨⟨_, Try.underlying93, rfl⟩, by kernel_rfl⟩
theorem zr93 : (Try.prog.info? 93).map (·.zero) = some (some (.slice none 0 0)) := by kernel_rfl
theorem sl93 : SliceTy Try.prog 93 96 2 16 (.agg #[(.int .u64 0), (.int .u64 0)]) := ⟨Try.underlying93, info_all (by kernel_rfl), rfl, by decide⟩
theorem ty94 : LeafTy Try.prog 94 := ⟨⟨_, Try.underlying94, rfl⟩, by kernel_rfl⟩
theorem ty96 : AggTy Try.prog 96 2 := ⟨⟨_, Try.underlying96, rfl⟩, by kernel_rfl⟩
def zs96 : List V := [(.raw (.int .u64 0)), (.raw (.int .u64 0))]
theorem at96 : ArrTy Try.prog 96 2 94 1 zs96 := arr_ty (cs := [.int .u64 0, .int .u64 0]) Try.underlying96 (by kernel_rfl) (by kernel_rfl) rfl rfl
theorem se96 : (Try.prog.info? 94).map (·.size) = some 1 := by kernel_rfl
theorem zr96 : (Try.prog.info? 96).map (·.zero) = some (some (.agg #[(.int .u64 0), (.int .u64 0)])) := by kernel_rfl
theorem en6 : Enters Try.prog 6 := ⟨⟨_, Try.func6, by kernel_rfl, by kernel_rfl⟩⟩
theorem en7 : Enters Try.prog 7 := ⟨⟨_, Try.func7, by kernel_rfl, by kernel_rfl⟩⟩
theorem en8 : Enters Try.prog 8 := ⟨⟨_, Try.func8, by kernel_rfl, by kernel_rfl⟩⟩
theorem en9 : Enters Try.prog 9 := ⟨⟨_, Try.func9, by kernel_rfl, by kernel_rfl⟩⟩
theorem en10 : Enters Try.prog 10 := ⟨⟨_, Try.func10, by kernel_rfl, by kernel_rfl⟩⟩
theorem en11 : Enters Try.prog 11 := ⟨⟨_, Try.func11, by kernel_rfl, by kernel_rfl⟩⟩
theorem en13 : Enters Try.prog 13 := ⟨⟨_, Try.func13, by kernel_rfl, by kernel_rfl⟩⟩
theorem en15 : Enters Try.prog 15 := ⟨⟨_, Try.func15, by kernel_rfl, by kernel_rfl⟩⟩
theorem en16 : Enters Try.prog 16 := ⟨⟨_, Try.func16, by kernel_rfl, by kernel_rfl⟩⟩
theorem en17 : Enters Try.prog 17 := ⟨⟨_, Try.func17, by kernel_rfl, by kernel_rfl⟩⟩
theorem en18 : Enters Try.prog 18 := ⟨⟨_, Try.func18, by kernel_rfl, by kernel_rfl⟩⟩
theorem en19 : Enters Try.prog 19 := ⟨⟨_, Try.func19, by kernel_rfl, by kernel_rfl⟩⟩
theorem en22 : Enters Try.prog 22 := ⟨⟨_, Try.func22, by kernel_rfl, by kernel_rfl⟩⟩
theorem en23 : Enters Try.prog 23 := ⟨⟨_, Try.func23, by kernel_rfl, by kernel_rfl⟩⟩
theorem en24 : Enters Try.prog 24 := ⟨⟨_, Try.func24, by kernel_rfl, by kernel_rfl⟩⟩
theorem en25 : Enters Try.prog 25 := ⟨⟨_, Try.func25, by kernel_rfl, by kernel_rfl⟩⟩
theorem en26 : Enters Try.prog 26 := ⟨⟨_, Try.func26, by kernel_rfl, by kernel_rfl⟩⟩
theorem en27 : Enters Try.prog 27 := ⟨⟨_, Try.func27, by kernel_rfl, by kernel_rfl⟩⟩
theorem en28 : Enters Try.prog 28 := ⟨⟨_, Try.func28, by kernel_rfl, by kernel_rfl⟩⟩
theorem en29 : Enters Try.prog 29 := ⟨⟨_, Try.func29, by kernel_rfl, by kernel_rfl⟩⟩
theorem en30 : Enters Try.prog 30 := ⟨⟨_, Try.func30, by kernel_rfl, by kernel_rfl⟩⟩
theorem en31 : Enters Try.prog 31 := ⟨⟨_, Try.func31, by kernel_rfl, by kernel_rfl⟩⟩
theorem en32 : Enters Try.prog 32 := ⟨⟨_, Try.func32, by kernel_rfl, by kernel_rfl⟩⟩
theorem en33 : Enters Try.prog 33 := ⟨⟨_, Try.func33, by kernel_rfl, by kernel_rfl⟩⟩
theorem en34 : Enters Try.prog 34 := ⟨⟨_, Try.func34, by kernel_rfl, by kernel_rfl⟩⟩
theorem en35 : Enters Try.prog 35 := ⟨⟨_, Try.func35, by kernel_rfl, by kernel_rfl⟩⟩
theorem en36 : Enters Try.prog 36 := ⟨⟨_, Try.func36, by kernel_rfl, by kernel_rfl⟩⟩
theorem en37 : Enters Try.prog 37 := ⟨⟨_, Try.func37, by kernel_rfl, by kernel_rfl⟩⟩
theorem en38 : Enters Try.prog 38 := ⟨⟨_, Try.func38, by kernel_rfl, by kernel_rfl⟩⟩
theorem en39 : Enters Try.prog 39 := ⟨⟨_, Try.func39, by kernel_rfl, by kernel_rfl⟩⟩
theorem en40 : Enters Try.prog 40 := ⟨⟨_, Try.func40, by kernel_rfl, by kernel_rfl⟩⟩
theorem en41 : Enters Try.prog 41 := ⟨⟨_, Try.func41, by kernel_rfl, by kernel_rfl⟩⟩
theorem en42 : Enters Try.prog 42 := ⟨⟨_, Try.func42, by kernel_rfl, by kernel_rfl⟩⟩
theorem en43 : Enters Try.prog 43 := ⟨⟨_, Try.func43, by kernel_rfl, by kernel_rfl⟩⟩
theorem en44 : Enters Try.prog 44 := ⟨⟨_, Try.func44, by kernel_rfl, by kernel_rfl⟩⟩
theorem en45 : Enters Try.prog 45 := ⟨⟨_, Try.func45, by kernel_rfl, by kernel_rfl⟩⟩
theorem en46 : Enters Try.prog 46 := ⟨⟨_, Try.func46, by kernel_rfl, by kernel_rfl⟩⟩
theorem en47 : Enters Try.prog 47 := ⟨⟨_, Try.func47, by kernel_rfl, by kernel_rfl⟩⟩
theorem en48 : Enters Try.prog 48 := ⟨⟨_, Try.func48, by kernel_rfl, by kernel_rfl⟩⟩
theorem en49 : Enters Try.prog 49 := ⟨⟨_, Try.func49, by kernel_rfl, by kernel_rfl⟩⟩
theorem en50 : Enters Try.prog 50 := ⟨⟨_, Try.func50, by kernel_rfl, by kernel_rfl⟩⟩
theorem en51 : Enters Try.prog 51 := ⟨⟨_, Try.func51, by kernel_rfl, by kernel_rfl⟩⟩
theorem en52 : Enters Try.prog 52 := ⟨⟨_, Try.func52, by kernel_rfl, by kernel_rfl⟩⟩
theorem en53 : Enters Try.prog 53 := ⟨⟨_, Try.func53, by kernel_rfl, by kernel_rfl⟩⟩
theorem en54 : Enters Try.prog 54 := ⟨⟨_, Try.func54, by kernel_rfl, by kernel_rfl⟩⟩
theorem en55 : Enters Try.prog 55 := ⟨⟨_, Try.func55, by kernel_rfl, by kernel_rfl⟩⟩
theorem en56 : Enters Try.prog 56 := ⟨⟨_, Try.func56, by kernel_rfl, by kernel_rfl⟩⟩
theorem en57 : Enters Try.prog 57 := ⟨⟨_, Try.func57, by kernel_rfl, by kernel_rfl⟩⟩
theorem en58 : Enters Try.prog 58 := ⟨⟨_, Try.func58, by kernel_rfl, by kernel_rfl⟩⟩
theorem en59 : Enters Try.prog 59 := ⟨⟨_, Try.func59, by kernel_rfl, by kernel_rfl⟩⟩
theorem en60 : Enters Try.prog 60 := ⟨⟨_, Try.func60, by kernel_rfl, by kernel_rfl⟩⟩
theorem en61 : Enters Try.prog 61 := ⟨⟨_, Try.func61, by kernel_rfl, by kernel_rfl⟩⟩
theorem en62 : Enters Try.prog 62 := ⟨⟨_, Try.func62, by kernel_rfl, by kernel_rfl⟩⟩
theorem en63 : Enters Try.prog 63 := ⟨⟨_, Try.func63, by kernel_rfl, by kernel_rfl⟩⟩
theorem en64 : Enters Try.prog 64 := ⟨⟨_, Try.func64, by kernel_rfl, by kernel_rfl⟩⟩
theorem en65 : Enters Try.prog 65 := ⟨⟨_, Try.func65, by kernel_rfl, by kernel_rfl⟩⟩
theorem en66 : Enters Try.prog 66 := ⟨⟨_, Try.func66, by kernel_rfl, by kernel_rfl⟩⟩
theorem mix : Try.prog.follows .mixedOrders = true := by kernel_rfl
end Go.Proofs.Ytmmmgamhffbkbaa.VT
