import Derived.Test.YtaldllbomhgciaaVC
import Derived.Test.YtaldllbomhgciaaProg
set_option linter.unusedVariables false
namespace Go.Proofs.Ytaldllbomhgciaa.VT
open Go.VL
theorem ty1 : LeafTy Try.prog 1 := ⟨⟨_, Try.underlying1, rfl⟩, by kernel_rfl⟩
theorem ty2 : LeafTy Try.prog 2 := ⟨⟨_, Try.underlying2, rfl⟩, by kernel_rfl⟩
theorem ty3 : LeafTy Try.prog 3 := ⟨⟨_, Try.underlying3, rfl⟩, by kernel_rfl⟩
theorem zr3 : (Try.prog.info? 3).map (·.zero) = some (some (.int .i64 0)) := by kernel_rfl
theorem ty4 : LeafTy Try.prog 4 := ⟨⟨_, Try.underlying4, rfl⟩, by kernel_rfl⟩
theorem ty22 : LeafTy Try.prog 22 := ⟨⟨_, Try.underlying22, rfl⟩, by kernel_rfl⟩
theorem sl22 : SliceTy Try.prog 22 34 2 32 (.agg #[(.int .i64 0), (.slice none 0 0)]) := ⟨Try.underlying22, info_all (by kernel_rfl), rfl, by decide⟩
theorem ty24 : AggTy Try.prog 24 2 := ⟨⟨_, Try.underlying24, rfl⟩, by kernel_rfl⟩
theorem fa24_0 : FieldTy Try.prog 24 0 0 1 false := ⟨⟨_, _, Try.underlying24, rfl, rfl, by kernel_rfl, ⟨_, Try.underlying22, rfl⟩, by decide⟩⟩
theorem fa24_1 : FieldTy Try.prog 24 1 1 1 false := ⟨⟨_, _, Try.underlying24, rfl, rfl, by kernel_rfl, ⟨_, Try.underlying3, rfl⟩, by decide⟩⟩
def zs24 : List V := [(.raw (.slice none 0 0)), (.raw (.int .i64 0))]
theorem st24 : StructTy Try.prog 24 [(0, 1), (1, 1)] zs24 := by
  obtain ⟨i, h1, h2⟩ : ∃ i, Try.prog.info? 24 = some i ∧ i.zero = some (.agg #[(.slice none 0 0), (.int .i64 0)]) := info_zero (by kernel_rfl)
  exact ⟨⟨_, i, _, Try.underlying24, h1, h2, by kernel_rfl, rfl⟩, rfl⟩
theorem zr24 : (Try.prog.info? 24).map (·.zero) = some (some (.agg #[(.slice none 0 0), (.int .i64 0)])) := by kernel_rfl
theorem ty32 : LeafTy Try.prog 32 := ⟨⟨_, Try.underlying32, rfl⟩, by kernel_rfl⟩
theorem sl32 : SliceTy Try.prog 32 44 7 120 (.agg #[(.slice none 0 0), (.slice none 0 0), (.int .i64 0), (.int .i64 0), (.int .i64 0), (.slice none 0 0), (.slice none 0 0)]) := ⟨Try.underlying32, info_all (by kernel_rfl), rfl, by decide⟩
theorem ty34 : AggTy Try.prog 34 2 := ⟨⟨_, Try.underlying34, rfl⟩, by kernel_rfl⟩
theorem fa34_0 : FieldTy Try.prog 34 0 0 1 false := ⟨⟨_, _, Try.underlying34, rfl, rfl, by kernel_rfl, ⟨_, Try.underlying3, rfl⟩, by decide⟩⟩
theorem fa34_1 : FieldTy Try.prog 34 1 1 1 false := ⟨⟨_, _, Try.underlying34, rfl, rfl, by kernel_rfl, ⟨_, Try.underlying32, rfl⟩, by decide⟩⟩
def zs34 : List V := [(.raw (.int .i64 0)), (.raw (.slice none 0 0))]
theorem st34 : StructTy Try.prog 34 [(0, 1), (1, 1)] zs34 := by
  obtain ⟨i, h1, h2⟩ : ∃ i, Try.prog.info? 34 = some i ∧ i.zero = some (.agg #[(.int .i64 0), (.slice none 0 0)]) := info_zero (by kernel_rfl)
  exact ⟨⟨_, i, _, Try.underlying34, h1, h2, by kernel_rfl, rfl⟩, rfl⟩
theorem zr34 : (Try.prog.info? 34).map (·.zero) = some (some (.agg #[(.int .i64 0), (.slice none 0 0)])) := by kernel_rfl
theorem sl35 : SliceTy Try.prog 35 38 1 24 (.slice none 0 0) := ⟨Try.underlying35, info_all (by kernel_rfl), rfl, by decide⟩
theorem ty38 : LeafTy Try.prog 38 := ⟨⟨_, Try.underlying38, rfl⟩, by kernel_rfl⟩
theorem sl38 : SliceTy Try.prog 38 3 1 8 (.int .i64 0) := ⟨Try.underlying38, info_all (by kernel_rfl), rfl, by decide⟩
theorem ty39 : LeafTy Try.prog 39 := ⟨⟨_, Try.underlying39, rfl⟩, by kernel_rfl⟩
theorem sl39 : SliceTy Try.prog 39 65 4 48 (.agg #[(.int .i64 0), (.int .i64 0), (.int .i64 0), (.slice none 0 0)]) := ⟨Try.underlying39, info_all (by kernel_rfl), rfl, by decide⟩
theorem ty40 : LeafTy Try.prog 40 := ⟨⟨_, Try.underlying40, rfl⟩, by kernel_rfl⟩
theorem sl40 : SliceTy Try.prog 40 46 2 32 (.agg #[(.int .i64 0), (.slice none 0 0)]) := ⟨Try.underlying40, info_all (by kernel_rfl), rfl, by decide⟩
theorem ty42 : AggTy Try.prog 42 5 := ⟨⟨_, Try.underlying42, rfl⟩, by kernel_rfl⟩
theorem fa42_0 : FieldTy Try.prog 42 0 0 1 false := ⟨⟨_, _, Try.underlying42, rfl, rfl, by kernel_rfl, ⟨_, Try.underlying3, rfl⟩, by decide⟩⟩
theorem fa42_1 : FieldTy Try.prog 42 1 1 1 false := ⟨⟨_, _, Try.underlying42, rfl, rfl, by kernel_rfl, ⟨_, Try.underlying3, rfl⟩, by decide⟩⟩
theorem fa42_2 : FieldTy Try.prog 42 2 2 1 false := ⟨⟨_, _, Try.underlying42, rfl, rfl, by kernel_rfl, ⟨_, Try.underlying3, rfl⟩, by decide⟩⟩
theorem fa42_3 : FieldTy Try.prog 42 3 3 1 false := ⟨⟨_, _, Try.underlying42, rfl, rfl, by kernel_rfl, ⟨_, Try.underlying38, rfl⟩, by decide⟩⟩
theorem fa42_4 : FieldTy Try.prog 42 4 4 1 false := ⟨⟨_, _, Try.underlying42, rfl, rfl, by kernel_rfl, ⟨_, Try.underlying40, rfl⟩, by decide⟩⟩
def zs42 : List V := [(.raw (.int .i64 0)), (.raw (.int .i64 0)), (.raw (.int .i64 0)), (.raw (.slice none 0 0)), (.raw (.slice none 0 0))]
theorem st42 : StructTy Try.prog 42 [(0, 1), (1, 1), (2, 1), (3, 1), (4, 1)] zs42 := by
  obtain ⟨i, h1, h2⟩ : ∃ i, Try.prog.info? 42 = some i ∧ i.zero = some (.agg #[(.int .i64 0), (.int .i64 0), (.int .i64 0), (.slice none 0 0), (.slice none 0 0)]) := info_zero (by kernel_rfl)
  exact ⟨⟨_, i, _, Try.underlying42, h1, h2, by kernel_rfl, rfl⟩, rfl⟩
theorem zr42 : (Try.prog.info? 42).map (·.zero) = some (some (.agg #[(.int .i64 0), (.int .i64 0), (.int .i64 0), (.slice none 0 0), (.slice none 0 0)])) := by kernel_rfl
theorem ty44 : AggTy Try.prog 44 7 := ⟨⟨_, Try.underlying44, rfl⟩, by kernel_rfl⟩
theorem fa44_0 : FieldTy Try.prog 44 0 0 1 false := ⟨⟨_, _, Try.underlying44, rfl, rfl, by kernel_rfl, ⟨_, Try.underlying38, rfl⟩, by decide⟩⟩
theorem fa44_1 : FieldTy Try.prog 44 1 1 1 false := ⟨⟨_, _, Try.underlying44, rfl, rfl, by kernel_rfl, ⟨_, Try.underlying39, rfl⟩, by decide⟩⟩
theorem fa44_2 : FieldTy Try.prog 44 2 2 5 true := ⟨⟨_, _, Try.underlying44, rfl, rfl, by kernel_rfl, ⟨_, Try.underlying42, rfl⟩, by decide⟩⟩
def zs44 : List V := [(.raw (.slice none 0 0)), (.raw (.slice none 0 0)), (.raw (.int .i64 0)), (.raw (.int .i64 0)), (.raw (.int .i64 0)), (.raw (.slice none 0 0)), (.raw (.slice none 0 0))]
theorem st44 : StructTy Try.prog 44 [(0, 1), (1, 1), (2, 5)] zs44 := by
  obtain ⟨i, h1, h2⟩ : ∃ i, Try.prog.info? 44 = some i ∧ i.zero = some (.agg #[(.slice none 0 0), (.slice none 0 0), (.int .i64 0), (.int .i64 0), (.int .i64 0), (.slice none 0 0), (.slice none 0 0)]) := info_zero (by kernel_rfl)
  exact ⟨⟨_, i, _, Try.underlying44, h1, h2, by kernel_rfl, rfl⟩, rfl⟩
theorem zr44 : (Try.prog.info? 44).map (·.zero) = some (some (.agg #[(.slice none 0 0), (.slice none 0 0), (.int .i64 0), (.int .i64 0), (.int .i64 0), (.slice none 0 0), (.slice none 0 0)])) := by kernel_rfl
theorem ty46 : AggTy Try.prog 46 2 := ⟨⟨_, Try.underlying46, rfl⟩, by kernel_rfl⟩
theorem fa46_0 : FieldTy Try.prog 46 0 0 1 false := ⟨⟨_, _, Try.underlying46, rfl, rfl, by kernel_rfl, ⟨_, Try.underlying3, rfl⟩, by decide⟩⟩
theorem fa46_1 : FieldTy Try.prog 46 1 1 1 false := ⟨⟨_, _, Try.underlying46, rfl, rfl, by kernel_rfl, ⟨_, Try.underlying38, rfl⟩, by decide⟩⟩
def zs46 : List V := [(.raw (.int .i64 0)), (.raw (.slice none 0 0))]
theorem st46 : StructTy Try.prog 46 [(0, 1), (1, 1)] zs46 := by
  obtain ⟨i, h1, h2⟩ : ∃ i, Try.prog.info? 46 = some i ∧ i.zero = some (.agg #[(.int .i64 0), (.slice none 0 0)]) := info_zero (by kernel_rfl)
  exact ⟨⟨_, i, _, Try.underlying46, h1, h2, by kernel_rfl, rfl⟩, rfl⟩
theorem zr46 : (Try.prog.info? 46).map (·.zero) = some (some (.agg #[(.int .i64 0), (.slice none 0 0)])) := by kernel_rfl
theorem ty57 : AggTy Try.prog 57 3 := ⟨⟨_, Try.underlying57, rfl⟩, by kernel_rfl⟩
theorem fa57_0 : FieldTy Try.prog 57 0 0 1 false := ⟨⟨_, _, Try.underlying57, rfl, rfl, by kernel_rfl, ⟨_, Try.underlying38, rfl⟩, by decide⟩⟩
theorem fa57_1 : FieldTy Try.prog 57 1 1 1 false := ⟨⟨_, _, Try.underlying57, rfl, rfl, by kernel_rfl, ⟨_, Try.underlying3, rfl⟩, by decide⟩⟩
theorem fa57_2 : FieldTy Try.prog 57 2 2 1 false := ⟨⟨_, _, Try.underlying57, rfl, rfl, by kernel_rfl, ⟨_, Try.underlying3, rfl⟩, by decide⟩⟩
def zs57 : List V := [(.raw (.slice none 0 0)), (.raw (.int .i64 0)), (.raw (.int .i64 0))]
theorem st57 : StructTy Try.prog 57 [(0, 1), (1, 1), (2, 1)] zs57 := by
  obtain ⟨i, h1, h2⟩ : ∃ i, Try.prog.info? 57 = some i ∧ i.zero = some (.agg #[(.slice none 0 0), (.int .i64 0), (.int .i64 0)]) := info_zero (by kernel_rfl)
  exact ⟨⟨_, i, _, Try.underlying57, h1, h2, by kernel_rfl, rfl⟩, rfl⟩
theorem zr57 : (Try.prog.info? 57).map (·.zero) = some (some (.agg #[(.slice none 0 0), (.int .i64 0), (.int .i64 0)])) := by kernel_rfl
theorem ty65 : AggTy Try.prog 65 4 := ⟨⟨_, Try.underlying65, rfl⟩, by kernel_rfl⟩
theorem fa65_0 : FieldTy Try.prog 65 0 0 1 false := ⟨⟨_, _, Try.underlying65, rfl, rfl, by kernel_rfl, ⟨_, Try.underlying3, rfl⟩, by decide⟩⟩
theorem fa65_1 : FieldTy Try.prog 65 1 1 1 false := ⟨⟨_, _, Try.underlying65, rfl, rfl, by kernel_rfl, ⟨_, Try.underlying3, rfl⟩, by decide⟩⟩
theorem fa65_2 : FieldTy Try.prog 65 2 2 1 false := ⟨⟨_, _, Try.underlying65, rfl, rfl, by kernel_rfl, ⟨_, Try.underlying3, rfl⟩, by decide⟩⟩
theorem fa65_3 : FieldTy Try.prog 65 3 3 1 false := ⟨⟨_, _, Try.underlying65, rfl, rfl, by kernel_rfl, ⟨_, Try.underlying38, rfl⟩, by decide⟩⟩
def zs65 : List V := [(.raw (.int .i64 0)), (.raw (.int .i64 0)), (.raw (.int .i64 0)), (.raw (.slice none 0 0))]
theorem st65 : StructTy Try.prog 65 [(0, 1), (1, 1), (2, 1), (3, 1)] zs65 := by
  obtain ⟨i, h1, h2⟩ : ∃ i, Try.prog.info? 65 = some i ∧ i.zero = some (.agg #[(.int .i64 0), (.int .i64 0), (.int .i64 0), (.slice none 0 0)]) := info_zero (by kernel_rfl)
  exact ⟨⟨_, i, _, Try.underlying65, h1, h2, by kernel_rfl, rfl⟩, rfl⟩
theorem zr65 : (Try.prog.info? 65).map (·.zero) = some (some (.agg #[(.int .i64 0), (.int .i64 0), (.int .i64 0), (.slice none 0 0)])) := by kernel_rfl
theorem ty88 : LeafTy Try.prog 88 := ⟨⟨_, Try.underlying88, rfl⟩, by kernel_rfl⟩
theorem ty89 : LeafTy Try.prog 89 := ⟨⟨_, Try.underlying89, rfl⟩, by kernel_rfl⟩
theorem fa91_0 : FieldTy Try.prog 91 0 0 2 true := ⟨⟨_, _, Try.underlying91, rfl, rfl, by kernel_rfl, ⟨_, Try.underlying34, rfl⟩, by decide⟩⟩
theorem fa91_1 : FieldTy Try.prog 91 1 2 1 false := ⟨⟨_, _, Try.underlying91, rfl, rfl, by kernel_rfl, ⟨_, Try.underlying89, rfl⟩, by decide⟩⟩
def zs91 : List V := [(.raw (.int .i64 0)), (.raw (.slice none 0 0)), (.raw (.map none))]
theorem st91 : StructTy Try.prog 91 [(0, 2), (2, 1)] zs91 := by
  obtain ⟨i, h1, h2⟩ : ∃ i, Try.prog.info? 91 = some i ∧ i.zero = some (.agg #[(.int .i64 0), (.slice none 0 0), (.map none)]) := info_zero (by kernel_rfl)
  exact ⟨⟨_, i, _, Try.underlying91, h1, h2, by kernel_rfl, rfl⟩, rfl⟩
theorem ty102 : LeafTy Try.prog 102 := ⟨⟨_, Try.underlying102, rfl⟩, by kernel_rfl⟩
theorem sl102 : SliceTy Try.prog 102 135 1 8 (.pointer none) := ⟨Try.underlying102, info_all (by kernel_rfl), rfl, by decide⟩
theorem fa104_0 : FieldTy Try.prog 104 0 0 2 true := ⟨⟨_, _, Try.underlying104, rfl, rfl, by kernel_rfl, ⟨_, Try.underlying24, rfl⟩, by decide⟩⟩
theorem fa104_1 : FieldTy Try.prog 104 1 2 1 false := ⟨⟨_, _, Try.underlying104, rfl, rfl, by kernel_rfl, ⟨_, Try.underlying102, rfl⟩, by decide⟩⟩
theorem fa104_2 : FieldTy Try.prog 104 2 3 1 false := ⟨⟨_, _, Try.underlying104, rfl, rfl, by kernel_rfl, ⟨_, Try.underlying3, rfl⟩, by decide⟩⟩
theorem fa104_3 : FieldTy Try.prog 104 3 4 1 false := ⟨⟨_, _, Try.underlying104, rfl, rfl, by kernel_rfl, ⟨_, Try.underlying4, rfl⟩, by decide⟩⟩
theorem fa104_4 : FieldTy Try.prog 104 4 5 1 false := ⟨⟨_, _, Try.underlying104, rfl, rfl, by kernel_rfl, ⟨_, Try.underlying4, rfl⟩, by decide⟩⟩
theorem fa104_5 : FieldTy Try.prog 104 5 6 3 true := ⟨⟨_, _, Try.underlying104, rfl, rfl, by kernel_rfl, ⟨_, Try.underlying57, rfl⟩, by decide⟩⟩
def zs104 : List V := [(.raw (.slice none 0 0)), (.raw (.int .i64 0)), (.raw (.slice none 0 0)), (.raw (.int .i64 0)), (.raw (.bool false)), (.raw (.bool false)), (.raw (.slice none 0 0)), (.raw (.int .i64 0)), (.raw (.int .i64 0))]
theorem st104 : StructTy Try.prog 104 [(0, 2), (2, 1), (3, 1), (4, 1), (5, 1), (6, 3)] zs104 := by
  obtain ⟨i, h1, h2⟩ : ∃ i, Try.prog.info? 104 = some i ∧ i.zero = some (.agg #[(.slice none 0 0), (.int .i64 0), (.slice none 0 0), (.int .i64 0), (.bool false), (.bool false), (.slice none 0 0), (.int .i64 0), (.int .i64 0)]) := info_zero (by kernel_rfl)
  exact ⟨⟨_, i, _, Try.underlying104, h1, h2, by kernel_rfl, rfl⟩, rfl⟩
theorem ty109 : AggTy Try.prog 109 2 := ⟨⟨_, Try.underlying109, rfl⟩, by kernel_rfl⟩
theorem fa109_0 : FieldTy Try.prog 109 0 0 1 false := ⟨⟨_, _, Try.underlying109, rfl, rfl, by kernel_rfl, ⟨_, Try.underlying3, rfl⟩, by decide⟩⟩
theorem fa109_1 : FieldTy Try.prog 109 1 1 1 false := ⟨⟨_, _, Try.underlying109, rfl, rfl, by kernel_rfl, ⟨_, Try.underlying3, rfl⟩, by decide⟩⟩
def zs109 : List V := [(.raw (.int .i64 0)), (.raw (.int .i64 0))]
theorem st109 : StructTy Try.prog 109 [(0, 1), (1, 1)] zs109 := by
  obtain ⟨i, h1, h2⟩ : ∃ i, Try.prog.info? 109 = some i ∧ i.zero = some (.agg #[(.int .i64 0), (.int .i64 0)]) := info_zero (by kernel_rfl)
  exact ⟨⟨_, i, _, Try.underlying109, h1, h2, by kernel_rfl, rfl⟩, rfl⟩
theorem zr109 : (Try.prog.info? 109).map (·.zero) = some (some (.agg #[(.int .i64 0), (.int .i64 0)])) := by kernel_rfl
theorem ty112 : LeafTy Try.prog 112 := ⟨⟨_, Try.underlying112, rfl⟩, by kernel_rfl⟩
theorem zr112 : (Try.prog.info? 112).map (·.zero) = some (some (.slice none 0 0)) := by kernel_rfl
theorem sl112 : SliceTy Try.prog 112 115 2 16 (.agg #[(.int .u64 0), (.int .u64 0)]) := ⟨Try.underlying112, info_all (by kernel_rfl), rfl, by decide⟩
theorem ty113 : LeafTy Try.prog 113 := ⟨⟨_, Try.underlying113, rfl⟩, by kernel_rfl⟩
theorem ty115 : AggTy Try.prog 115 2 := ⟨⟨_, Try.underlying115, rfl⟩, by kernel_rfl⟩
def zs115 : List V := [(.raw (.int .u64 0)), (.raw (.int .u64 0))]
theorem at115 : ArrTy Try.prog 115 2 113 1 zs115 := arr_ty (cs := [.int .u64 0, .int .u64 0]) Try.underlying115 (by kernel_rfl) (by kernel_rfl) rfl rfl
theorem se115 : (Try.prog.info? 113).map (·.size) = some 1 := by kernel_rfl
theorem zr115 : (Try.prog.info? 115).map (·.zero) = some (some (.agg #[(.int .u64 0), (.int .u64 0)])) := by kernel_rfl
theorem ty134 : LeafTy Try.prog 134 := ⟨⟨_, Try.underlying134, rfl⟩, by kernel_rfl⟩
theorem zr134 : (Try.prog.info? 134).map (·.zero) = some (some (.slice none 0 0)) := by kernel_rfl
theorem sl134 : SliceTy Try.prog 134 141 4 48 (.agg #[(.int .i64 0), (.int .i64 0), (.slice none 0 0), (.pointer none)]) := ⟨Try.underlying134, info_all (by kernel_rfl), rfl, by decide⟩
theorem ty135 : LeafTy Try.prog 135 := ⟨⟨_, Try.underlying135, rfl⟩, by kernel_rfl⟩
theorem ty136 : LeafTy Try.prog 136 := ⟨⟨_, Try.underlying136, rfl⟩, by kernel_rfl⟩
theorem fa138_0 : FieldTy Try.prog 138 0 0 1 false := ⟨⟨_, _, Try.underlying138, rfl, rfl, by kernel_rfl, ⟨_, Try.underlying3, rfl⟩, by decide⟩⟩
theorem fa138_1 : FieldTy Try.prog 138 1 1 1 false := ⟨⟨_, _, Try.underlying138, rfl, rfl, by kernel_rfl, ⟨_, Try.underlying3, rfl⟩, by decide⟩⟩
theorem fa138_2 : FieldTy Try.prog 138 2 2 1 false := ⟨⟨_, _, Try.underlying138, rfl, rfl, by kernel_rfl, ⟨_, Try.underlying3, rfl⟩, by decide⟩⟩
theorem fa138_3 : FieldTy Try.prog 138 3 3 1 false := ⟨⟨_, _, Try.underlying138, rfl, rfl, by kernel_rfl, ⟨_, Try.underlying3, rfl⟩, by decide⟩⟩
theorem fa138_4 : FieldTy Try.prog 138 4 4 1 false := ⟨⟨_, _, Try.underlying138, rfl, rfl, by kernel_rfl, ⟨_, Try.underlying136, rfl⟩, by decide⟩⟩
def zs138 : List V := [(.raw (.int .i64 0)), (.raw (.int .i64 0)), (.raw (.int .i64 0)), (.raw (.int .i64 0)), (.raw (.map none))]
theorem st138 : StructTy Try.prog 138 [(0, 1), (1, 1), (2, 1), (3, 1), (4, 1)] zs138 := by
  obtain ⟨i, h1, h2⟩ : ∃ i, Try.prog.info? 138 = some i ∧ i.zero = some (.agg #[(.int .i64 0), (.int .i64 0), (.int .i64 0), (.int .i64 0), (.map none)]) := info_zero (by kernel_rfl)
  exact ⟨⟨_, i, _, Try.underlying138, h1, h2, by kernel_rfl, rfl⟩, rfl⟩
theorem ty139 : LeafTy Try.prog 139 := ⟨⟨_, Try.underlying139, rfl⟩, by kernel_rfl⟩
theorem ty141 : AggTy Try.prog 141 4 := ⟨⟨_, Try.underlying141, rfl⟩, by kernel_rfl⟩
theorem fa141_0 : FieldTy Try.prog 141 0 0 1 false := ⟨⟨_, _, Try.underlying141, rfl, rfl, by kernel_rfl, ⟨_, Try.underlying3, rfl⟩, by decide⟩⟩
theorem fa141_1 : FieldTy Try.prog 141 1 1 1 false := ⟨⟨_, _, Try.underlying141, rfl, rfl, by kernel_rfl, ⟨_, Try.underlying3, rfl⟩, by decide⟩⟩
theorem fa141_2 : FieldTy Try.prog 141 2 2 1 false := ⟨⟨_, _, Try.underlying141, rfl, rfl, by kernel_rfl, ⟨_, Try.underlying134, rfl⟩, by decide⟩⟩
theorem fa141_3 : FieldTy Try.prog 141 3 3 1 false := ⟨⟨_, _, Try.underlying141, rfl, rfl, by kernel_rfl, ⟨_, Try.underlying139, rfl⟩, by decide⟩⟩
def zs141 : List V := [(.raw (.int .i64 0)), (.raw (.int .i64 0)), (.raw (.slice none 0 0)), (.raw (.pointer none))]
theorem st141 : StructTy Try.prog 141 [(0, 1), (1, 1), (2, 1), (3, 1)] zs141 := by
  obtain ⟨i, h1, h2⟩ : ∃ i, Try.prog.info? 141 = some i ∧ i.zero = some (.agg #[(.int .i64 0), (.int .i64 0), (.slice none 0 0), (.pointer none)]) := info_zero (by kernel_rfl)
  exact ⟨⟨_, i, _, Try.underlying141, h1, h2, by kernel_rfl, rfl⟩, rfl⟩
theorem zr141 : (Try.prog.info? 141).map (·.zero) = some (some (.agg #[(.int .i64 0), (.int .i64 0), (.slice none 0 0), (.pointer none)])) := by kernel_rfl
theorem en5 : Enters Try.prog 5 := ⟨⟨_, Try.func5, by kernel_rfl, by kernel_rfl⟩⟩
theorem en6 : Enters Try.prog 6 := ⟨⟨_, Try.func6, by kernel_rfl, by kernel_rfl⟩⟩
theorem en7 : Enters Try.prog 7 := ⟨⟨_, Try.func7, by kernel_rfl, by kernel_rfl⟩⟩
theorem en8 : Enters Try.prog 8 := ⟨⟨_, Try.func8, by kernel_rfl, by kernel_rfl⟩⟩
theorem en9 : Enters Try.prog 9 := ⟨⟨_, Try.func9, by kernel_rfl, by kernel_rfl⟩⟩
theorem en10 : Enters Try.prog 10 := ⟨⟨_, Try.func10, by kernel_rfl, by kernel_rfl⟩⟩
theorem en11 : Enters Try.prog 11 := ⟨⟨_, Try.func11, by kernel_rfl, by kernel_rfl⟩⟩
theorem en12 : Enters Try.prog 12 := ⟨⟨_, Try.func12, by kernel_rfl, by kernel_rfl⟩⟩
theorem en14 : Enters Try.prog 14 := ⟨⟨_, Try.func14, by kernel_rfl, by kernel_rfl⟩⟩
theorem en15 : Enters Try.prog 15 := ⟨⟨_, Try.func15, by kernel_rfl, by kernel_rfl⟩⟩
theorem en16 : Enters Try.prog 16 := ⟨⟨_, Try.func16, by kernel_rfl, by kernel_rfl⟩⟩
theorem en17 : Enters Try.prog 17 := ⟨⟨_, Try.func17, by kernel_rfl, by kernel_rfl⟩⟩
theorem en18 : Enters Try.prog 18 := ⟨⟨_, Try.func18, by kernel_rfl, by kernel_rfl⟩⟩
theorem en19 : Enters Try.prog 19 := ⟨⟨_, Try.func19, by kernel_rfl, by kernel_rfl⟩⟩
theorem en20 : Enters Try.prog 20 := ⟨⟨_, Try.func20, by kernel_rfl, by kernel_rfl⟩⟩
theorem en21 : Enters Try.prog 21 := ⟨⟨_, Try.func21, by kernel_rfl, by kernel_rfl⟩⟩
theorem en22 : Enters Try.prog 22 := ⟨⟨_, Try.func22, by kernel_rfl, by kernel_rfl⟩⟩
theorem en23 : Enters Try.prog 23 := ⟨⟨_, Try.func23, by kernel_rfl, by kernel_rfl⟩⟩
theorem en24 : Enters Try.prog 24 := ⟨⟨_, Try.func24, by kernel_rfl, by kernel_rfl⟩⟩
theorem en29 : Enters Try.prog 29 := ⟨⟨_, Try.func29, by kernel_rfl, by kernel_rfl⟩⟩
theorem en32 : Enters Try.prog 32 := ⟨⟨_, Try.func32, by kernel_rfl, by kernel_rfl⟩⟩
theorem en33 : Enters Try.prog 33 := ⟨⟨_, Try.func33, by kernel_rfl, by kernel_rfl⟩⟩
theorem en34 : Enters Try.prog 34 := ⟨⟨_, Try.func34, by kernel_rfl, by kernel_rfl⟩⟩
theorem en35 : Enters Try.prog 35 := ⟨⟨_, Try.func35, by kernel_rfl, by kernel_rfl⟩⟩
theorem en36 : Enters Try.prog 36 := ⟨⟨_, Try.func36, by kernel_rfl, by kernel_rfl⟩⟩
theorem en37 : Enters Try.prog 37 := ⟨⟨_, Try.func37, by kernel_rfl, by kernel_rfl⟩⟩
theorem en43 : Enters Try.prog 43 := ⟨⟨_, Try.func43, by kernel_rfl, by kernel_rfl⟩⟩
theorem en46 : Enters Try.prog 46 := ⟨⟨_, Try.func46, by kernel_rfl, by kernel_rfl⟩⟩
theorem en47 : Enters Try.prog 47 := ⟨⟨_, Try.func47, by kernel_rfl, by kernel_rfl⟩⟩
theorem en48 : Enters Try.prog 48 := ⟨⟨_, Try.func48, by kernel_rfl, by kernel_rfl⟩⟩
theorem en49 : Enters Try.prog 49 := ⟨⟨_, Try.func49, by kernel_rfl, by kernel_rfl⟩⟩
theorem en50 : Enters Try.prog 50 := ⟨⟨_, Try.func50, by kernel_rfl, by kernel_rfl⟩⟩
theorem en51 : Enters Try.prog 51 := ⟨⟨_, Try.func51, by kernel_rfl, by kernel_rfl⟩⟩
theorem en52 : Enters Try.prog 52 := ⟨⟨_, Try.func52, by kernel_rfl, by kernel_rfl⟩⟩
theorem en53 : Enters Try.prog 53 := ⟨⟨_, Try.func53, by kernel_rfl, by kernel_rfl⟩⟩
theorem en54 : Enters Try.prog 54 := ⟨⟨_, Try.func54, by kernel_rfl, by kernel_rfl⟩⟩
theorem en55 : Enters Try.prog 55 := ⟨⟨_, Try.func55, by kernel_rfl, by kernel_rfl⟩⟩
theorem en71 : Enters Try.prog 71 := ⟨⟨_, Try.func71, by kernel_rfl, by kernel_rfl⟩⟩
theorem en72 : Enters Try.prog 72 := ⟨⟨_, Try.func72, by kernel_rfl, by kernel_rfl⟩⟩
theorem en73 : Enters Try.prog 73 := ⟨⟨_, Try.func73, by kernel_rfl, by kernel_rfl⟩⟩
theorem en74 : Enters Try.prog 74 := ⟨⟨_, Try.func74, by kernel_rfl, by kernel_rfl⟩⟩
theorem en75 : Enters Try.prog 75 := ⟨⟨_, Try.func75, by kernel_rfl, by kernel_rfl⟩⟩
theorem en76 : Enters Try.prog 76 := ⟨⟨_, Try.func76, by kernel_rfl, by kernel_rfl⟩⟩
theorem en77 : Enters Try.prog 77 := ⟨⟨_, Try.func77, by kernel_rfl, by kernel_rfl⟩⟩
theorem en78 : Enters Try.prog 78 := ⟨⟨_, Try.func78, by kernel_rfl, by kernel_rfl⟩⟩
theorem en79 : Enters Try.prog 79 := ⟨⟨_, Try.func79, by kernel_rfl, by kernel_rfl⟩⟩
theorem en80 : Enters Try.prog 80 := ⟨⟨_, Try.func80, by kernel_rfl, by kernel_rfl⟩⟩
theorem en87 : Enters Try.prog 87 := ⟨⟨_, Try.func87, by kernel_rfl, by kernel_rfl⟩⟩
theorem en88 : Enters Try.prog 88 := ⟨⟨_, Try.func88, by kernel_rfl, by kernel_rfl⟩⟩
theorem en89 : Enters Try.prog 89 := ⟨⟨_, Try.func89, by kernel_rfl, by kernel_rfl⟩⟩
theorem en90 : Enters Try.prog 90 := ⟨⟨_, Try.func90, by kernel_rfl, by kernel_rfl⟩⟩
theorem en91 : Enters Try.prog 91 := ⟨⟨_, Try.func91, by kernel_rfl, by kernel_rfl⟩⟩
theorem en92 : Enters Try.prog 92 := ⟨⟨_, Try.func92, by kernel_rfl, by kernel_rfl⟩⟩
theorem en93 : Enters Try.prog 93 := ⟨⟨_, Try.func93, by kernel_rfl, by kernel_rfl⟩⟩
theorem en94 : Enters Try.prog 94 := ⟨⟨_, Try.func94, by kernel_rfl, by kernel_rfl⟩⟩
theorem en95 : Enters Try.prog 95 := ⟨⟨_, Try.func95, by kernel_rfl, by kernel_rfl⟩⟩
theorem en97 : Enters Try.prog 97 := ⟨⟨_, Try.func97, by kernel_rfl, by kernel_rfl⟩⟩
theorem en98 : Enters Try.prog 98 := ⟨⟨_, Try.func98, by kernel_rfl, by kernel_rfl⟩⟩
theorem en99 : Enters Try.prog 99 := ⟨⟨_, Try.func99, by kernel_rfl, by kernel_rfl⟩⟩
theorem en100 : Enters Try.prog 100 := ⟨⟨_, Try.func100, by kernel_rfl, by kernel_rfl⟩⟩
theorem en101 : Enters Try.prog 101 := ⟨⟨_, Try.func101, by kernel_rfl, by kernel_rfl⟩⟩
theorem en102 : Enters Try.prog 102 := ⟨⟨_, Try.func102, by kernel_rfl, by kernel_rfl⟩⟩
theorem en103 : Enters Try.prog 103 := ⟨⟨_, Try.func103, by kernel_rfl, by kernel_rfl⟩⟩
theorem en104 : Enters Try.prog 104 := ⟨⟨_, Try.func104, by kernel_rfl, by kernel_rfl⟩⟩
theorem mix : Try.prog.follows .mixedOrders = true := by kernel_rfl
end Go.Proofs.Ytaldllbomhgciaa.VT
