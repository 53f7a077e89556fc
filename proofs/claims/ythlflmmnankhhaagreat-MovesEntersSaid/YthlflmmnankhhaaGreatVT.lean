import Derived.Test.YthlflmmnankhhaaGreatVY2
import Derived.Test.YthlflmmnankhhaaGreatProg
set_option linter.all false
namespace Go.Proofs.YthlflmmnankhhaaGreat.VT
open Go.VL
theorem ty1 : LeafTy Tryz.prog 1 := ⟨⟨_, Tryz.underlying1, rfl⟩, by kernel_rfl⟩
theorem ty2 : LeafTy Tryz.prog 2 := ⟨⟨_, Tryz.underlying2, rfl⟩, by kernel_rfl⟩
theorem ty3 : LeafTy Tryz.prog 3 := ⟨⟨_, Tryz.underlying3, rfl⟩, by kernel_rfl⟩
theorem zr3 : (Tryz.prog.info? 3).map (·.zero) = some (some (.int .i64 0)) := by kernel_rfl
theorem ty4 : LeafTy Tryz.prog 4 := ⟨⟨_, Tryz.underlying4, rfl⟩, by kernel_rfl⟩
theorem ty22 : LeafTy Tryz.prog 22 := ⟨⟨_, Tryz.underlying22, rfl⟩, by kernel_rfl⟩
theorem sl22 : SliceTy Tryz.prog 22 31 2 32 (.agg #[(.int .i64 0), (.slice none 0 0)]) := ⟨Tryz.underlying22, info_all (by kernel_rfl), rfl, by decide⟩
theorem ty24 : AggTy Tryz.prog 24 2 := ⟨⟨_, Tryz.underlying24, rfl⟩, by kernel_rfl⟩
theorem fa24_0 : FieldTy Tryz.prog 24 0 0 1 false := ⟨⟨_, _, Tryz.underlying24, rfl, rfl, by kernel_rfl, ⟨_, Tryz.underlying22, rfl⟩, by decide⟩⟩
theorem fa24_1 : FieldTy Tryz.prog 24 1 1 1 false := ⟨⟨_, _, Tryz.underlying24, rfl, rfl, by kernel_rfl, ⟨_, Tryz.underlying3, rfl⟩, by decide⟩⟩
def zs24 : List V := [(.raw (.slice none 0 0)), (.raw (.int .i64 0))]
theorem st24 : StructTy Tryz.prog 24 [(0, 1), (1, 1)] zs24 := by
  obtain ⟨i, h1, h2⟩ : ∃ i, Tryz.prog.info? 24 = some i ∧ i.zero = some (.agg #[(.slice none 0 0), (.int .i64 0)]) := info_zero (by kernel_rfl)
  exact ⟨⟨_, i, _, Tryz.underlying24, h1, h2, by kernel_rfl, rfl⟩, rfl⟩
theorem zr24 : (Tryz.prog.info? 24).map (·.zero) = some (some (.agg #[(.slice none 0 0), (.int .i64 0)])) := by kernel_rfl
theorem ty29 : LeafTy Tryz.prog 29 := ⟨⟨_, Tryz.underlying29, rfl⟩, by kernel_rfl⟩
theorem sl29 : SliceTy Tryz.prog 29 40 7 120 (.agg #[(.slice none 0 0), (.slice none 0 0), (.int .i64 0), (.int .i64 0), (.int .i64 0), (.slice none 0 0), (.slice none 0 0)]) := ⟨Tryz.underlying29, info_all (by kernel_rfl), rfl, by decide⟩
theorem ty31 : AggTy Tryz.prog 31 2 := ⟨⟨_, Tryz.underlying31, rfl⟩, by kernel_rfl⟩
theorem fa31_0 : FieldTy Tryz.prog 31 0 0 1 false := ⟨⟨_, _, Tryz.underlying31, rfl, rfl, by kernel_rfl, ⟨_, Tryz.underlying3, rfl⟩, by decide⟩⟩
theorem fa31_1 : FieldTy Tryz.prog 31 1 1 1 false := ⟨⟨_, _, Tryz.underlying31, rfl, rfl, by kernel_rfl, ⟨_, Tryz.underlying29, rfl⟩, by decide⟩⟩
def zs31 : List V := [(.raw (.int .i64 0)), (.raw (.slice none 0 0))]
theorem st31 : StructTy Tryz.prog 31 [(0, 1), (1, 1)] zs31 := by
  obtain ⟨i, h1, h2⟩ : ∃ i, Tryz.prog.info? 31 = some i ∧ i.zero = some (.agg #[(.int .i64 0), (.slice none 0 0)]) := info_zero (by kernel_rfl)
  exact ⟨⟨_, i, _, Tryz.underlying31, h1, h2, by kernel_rfl, rfl⟩, rfl⟩
theorem zr31 : (Tryz.prog.info? 31).map (·.zero) = some (some (.agg #[(.int .i64 0), (.slice none 0 0)])) := by kernel_rfl
theorem ty32 : LeafTy Tryz.prog 32 := ⟨⟨_, Tryz.underlying32, rfl⟩, by kernel_rfl⟩
theorem zr32 : (Tryz.prog.info? 32).map (·.zero) = some (some (.slice none 0 0)) := by kernel_rfl
theorem sl32 : SliceTy Tryz.prog 32 3 1 8 (.int .i64 0) := ⟨Tryz.underlying32, info_all (by kernel_rfl), rfl, by decide⟩
theorem ty35 : LeafTy Tryz.prog 35 := ⟨⟨_, Tryz.underlying35, rfl⟩, by kernel_rfl⟩
theorem sl35 : SliceTy Tryz.prog 35 42 4 48 (.agg #[(.int .i64 0), (.int .i64 0), (.int .i64 0), (.slice none 0 0)]) := ⟨Tryz.underlying35, info_all (by kernel_rfl), rfl, by decide⟩
theorem ty36 : LeafTy Tryz.prog 36 := ⟨⟨_, Tryz.underlying36, rfl⟩, by kernel_rfl⟩
theorem sl36 : SliceTy Tryz.prog 36 64 2 32 (.agg #[(.int .i64 0), (.slice none 0 0)]) := ⟨Tryz.underlying36, info_all (by kernel_rfl), rfl, by decide⟩
theorem ty38 : AggTy Tryz.prog 38 5 := ⟨⟨_, Tryz.underlying38, rfl⟩, by kernel_rfl⟩
theorem fa38_0 : FieldTy Tryz.prog 38 0 0 1 false := ⟨⟨_, _, Tryz.underlying38, rfl, rfl, by kernel_rfl, ⟨_, Tryz.underlying3, rfl⟩, by decide⟩⟩
theorem fa38_1 : FieldTy Tryz.prog 38 1 1 1 false := ⟨⟨_, _, Tryz.underlying38, rfl, rfl, by kernel_rfl, ⟨_, Tryz.underlying3, rfl⟩, by decide⟩⟩
theorem fa38_2 : FieldTy Tryz.prog 38 2 2 1 false := ⟨⟨_, _, Tryz.underlying38, rfl, rfl, by kernel_rfl, ⟨_, Tryz.underlying3, rfl⟩, by decide⟩⟩
theorem fa38_3 : FieldTy Tryz.prog 38 3 3 1 false := ⟨⟨_, _, Tryz.underlying38, rfl, rfl, by kernel_rfl, ⟨_, Tryz.underlying32, rfl⟩, by decide⟩⟩
theorem fa38_4 : FieldTy Tryz.prog 38 4 4 1 false := ⟨⟨_, _, Tryz.underlying38, rfl, rfl, by kernel_rfl, ⟨_, Tryz.underlying36, rfl⟩, by decide⟩⟩
def zs38 : List V := [(.raw (.int .i64 0)), (.raw (.int .i64 0)), (.raw (.int .i64 0)), (.raw (.slice none 0 0)), (.raw (.slice none 0 0))]
theorem st38 : StructTy Tryz.prog 38 [(0, 1), (1, 1), (2, 1), (3, 1), (4, 1)] zs38 := by
  obtain ⟨i, h1, h2⟩ : ∃ i, Tryz.prog.info? 38 = some i ∧ i.zero = some (.agg #[(.int .i64 0), (.int .i64 0), (.int .i64 0), (.slice none 0 0), (.slice none 0 0)]) := info_zero (by kernel_rfl)
  exact ⟨⟨_, i, _, Tryz.underlying38, h1, h2, by kernel_rfl, rfl⟩, rfl⟩
theorem zr38 : (Tryz.prog.info? 38).map (·.zero) = some (some (.agg #[(.int .i64 0), (.int .i64 0), (.int .i64 0), (.slice none 0 0), (.slice none 0 0)])) := by kernel_rfl
theorem ty40 : AggTy Tryz.prog 40 7 := ⟨⟨_, Tryz.underlying40, rfl⟩, by kernel_rfl⟩
theorem fa40_0 : FieldTy Tryz.prog 40 0 0 1 false := ⟨⟨_, _, Tryz.underlying40, rfl, rfl, by kernel_rfl, ⟨_, Tryz.underlying32, rfl⟩, by decide⟩⟩
theorem fa40_1 : FieldTy Tryz.prog 40 1 1 1 false := ⟨⟨_, _, Tryz.underlying40, rfl, rfl, by kernel_rfl, ⟨_, Tryz.underlying35, rfl⟩, by decide⟩⟩
theorem fa40_2 : FieldTy Tryz.prog 40 2 2 5 true := ⟨⟨_, _, Tryz.underlying40, rfl, rfl, by kernel_rfl, ⟨_, Tryz.underlying38, rfl⟩, by decide⟩⟩
def zs40 : List V := [(.raw (.slice none 0 0)), (.raw (.slice none 0 0)), (.raw (.int .i64 0)), (.raw (.int .i64 0)), (.raw (.int .i64 0)), (.raw (.slice none 0 0)), (.raw (.slice none 0 0))]
theorem st40 : StructTy Tryz.prog 40 [(0, 1), (1, 1), (2, 5)] zs40 := by
  obtain ⟨i, h1, h2⟩ : ∃ i, Tryz.prog.info? 40 = some i ∧ i.zero = some (.agg #[(.slice none 0 0), (.slice none 0 0), (.int .i64 0), (.int .i64 0), (.int .i64 0), (.slice none 0 0), (.slice none 0 0)]) := info_zero (by kernel_rfl)
  exact ⟨⟨_, i, _, Tryz.underlying40, h1, h2, by kernel_rfl, rfl⟩, rfl⟩
theorem zr40 : (Tryz.prog.info? 40).map (·.zero) = some (some (.agg #[(.slice none 0 0), (.slice none 0 0), (.int .i64 0), (.int .i64 0), (.int .i64 0), (.slice none 0 0), (.slice none 0 0)])) := by kernel_rfl
theorem ty42 : AggTy Tryz.prog 42 4 := ⟨⟨_, Tryz.underlying42, rfl⟩, by kernel_rfl⟩
theorem fa42_0 : FieldTy Tryz.prog 42 0 0 1 false := ⟨⟨_, _, Tryz.underlying42, rfl, rfl, by kernel_rfl, ⟨_, Tryz.underlying3, rfl⟩, by decide⟩⟩
theorem fa42_1 : FieldTy Tryz.prog 42 1 1 1 false := ⟨⟨_, _, Tryz.underlying42, rfl, rfl, by kernel_rfl, ⟨_, Tryz.underlying3, rfl⟩, by decide⟩⟩
theorem fa42_2 : FieldTy Tryz.prog 42 2 2 1 false := ⟨⟨_, _, Tryz.underlying42, rfl, rfl, by kernel_rfl, ⟨_, Tryz.underlying3, rfl⟩, by decide⟩⟩
theorem fa42_3 : FieldTy Tryz.prog 42 3 3 1 false := ⟨⟨_, _, Tryz.underlying42, rfl, rfl, by kernel_rfl, ⟨_, Tryz.underlying32, rfl⟩, by decide⟩⟩
def zs42 : List V := [(.raw (.int .i64 0)), (.raw (.int .i64 0)), (.raw (.int .i64 0)), (.raw (.slice none 0 0))]
theorem st42 : StructTy Tryz.prog 42 [(0, 1), (1, 1), (2, 1), (3, 1)] zs42 := by
  obtain ⟨i, h1, h2⟩ : ∃ i, Tryz.prog.info? 42 = some i ∧ i.zero = some (.agg #[(.int .i64 0), (.int .i64 0), (.int .i64 0), (.slice none 0 0)]) := info_zero (by kernel_rfl)
  exact ⟨⟨_, i, _, Tryz.underlying42, h1, h2, by kernel_rfl, rfl⟩, rfl⟩
theorem zr42 : (Tryz.prog.info? 42).map (·.zero) = some (some (.agg #[(.int .i64 0), (.int .i64 0), (.int .i64 0), (.slice none 0 0)])) := by kernel_rfl
theorem ty46 : AggTy Tryz.prog 46 3 := ⟨⟨_, Tryz.underlying46, rfl⟩, by kernel_rfl⟩
theorem fa46_0 : FieldTy Tryz.prog 46 0 0 1 false := ⟨⟨_, _, Tryz.underlying46, rfl, rfl, by kernel_rfl, ⟨_, Tryz.underlying32, rfl⟩, by decide⟩⟩
theorem fa46_1 : FieldTy Tryz.prog 46 1 1 1 false := ⟨⟨_, _, Tryz.underlying46, rfl, rfl, by kernel_rfl, ⟨_, Tryz.underlying3, rfl⟩, by decide⟩⟩
theorem fa46_2 : FieldTy Tryz.prog 46 2 2 1 false := ⟨⟨_, _, Tryz.underlying46, rfl, rfl, by kernel_rfl, ⟨_, Tryz.underlying3, rfl⟩, by decide⟩⟩
def zs46 : List V := [(.raw (.slice none 0 0)), (.raw (.int .i64 0)), (.raw (.int .i64 0))]
theorem st46 : StructTy Tryz.prog 46 [(0, 1), (1, 1), (2, 1)] zs46 := by
  obtain ⟨i, h1, h2⟩ : ∃ i, Tryz.prog.info? 46 = some i ∧ i.zero = some (.agg #[(.slice none 0 0), (.int .i64 0), (.int .i64 0)]) := info_zero (by kernel_rfl)
  exact ⟨⟨_, i, _, Tryz.underlying46, h1, h2, by kernel_rfl, rfl⟩, rfl⟩
theorem zr46 : (Tryz.prog.info? 46).map (·.zero) = some (some (.agg #[(.slice none 0 0), (.int .i64 0), (.int .i64 0)])) := by kernel_rfl
theorem ty64 : AggTy Tryz.prog 64 2 := ⟨⟨_, Tryz.underlying64, rfl⟩, by kernel_rfl⟩
theorem fa64_0 : FieldTy Tryz.prog 64 0 0 1 false := ⟨⟨_, _, Tryz.underlying64, rfl, rfl, by kernel_rfl, ⟨_, Tryz.underlying3, rfl⟩, by decide⟩⟩
theorem fa64_1 : FieldTy Tryz.prog 64 1 1 1 false := ⟨⟨_, _, Tryz.underlying64, rfl, rfl, by kernel_rfl, ⟨_, Tryz.underlying32, rfl⟩, by decide⟩⟩
def zs64 : List V := [(.raw (.int .i64 0)), (.raw (.slice none 0 0))]
theorem st64 : StructTy Tryz.prog 64 [(0, 1), (1, 1)] zs64 := by
  obtain ⟨i, h1, h2⟩ : ∃ i, Tryz.prog.info? 64 = some i ∧ i.zero = some (.agg #[(.int .i64 0), (.slice none 0 0)]) := info_zero (by kernel_rfl)
  exact ⟨⟨_, i, _, Tryz.underlying64, h1, h2, by kernel_rfl, rfl⟩, rfl⟩
theorem zr64 : (Tryz.prog.info? 64).map (·.zero) = some (some (.agg #[(.int .i64 0), (.slice none 0 0)])) := by kernel_rfl
theorem ty69 : LeafTy Tryz.prog 69 := ⟨⟨_, Tryz.underlying69, rfl⟩, by kernel_rfl⟩
theorem sl69 : SliceTy Tryz.prog 69 32 1 24 (.slice none 0 0) := ⟨Tryz.underlying69, info_all (by kernel_rfl), rfl, by decide⟩
theorem ty71 : AggTy Tryz.prog 71 4 := ⟨⟨_, Tryz.underlying71, rfl⟩, by kernel_rfl⟩
theorem fa71_0 : FieldTy Tryz.prog 71 0 0 2 true := ⟨⟨_, _, Tryz.underlying71, rfl, rfl, by kernel_rfl, ⟨_, Tryz.underlying31, rfl⟩, by decide⟩⟩
theorem fa71_1 : FieldTy Tryz.prog 71 1 2 1 false := ⟨⟨_, _, Tryz.underlying71, rfl, rfl, by kernel_rfl, ⟨_, Tryz.underlying32, rfl⟩, by decide⟩⟩
theorem fa71_2 : FieldTy Tryz.prog 71 2 3 1 false := ⟨⟨_, _, Tryz.underlying71, rfl, rfl, by kernel_rfl, ⟨_, Tryz.underlying69, rfl⟩, by decide⟩⟩
def zs71 : List V := [(.raw (.int .i64 0)), (.raw (.slice none 0 0)), (.raw (.slice none 0 0)), (.raw (.slice none 0 0))]
theorem st71 : StructTy Tryz.prog 71 [(0, 2), (2, 1), (3, 1)] zs71 := by
  obtain ⟨i, h1, h2⟩ : ∃ i, Tryz.prog.info? 71 = some i ∧ i.zero = some (.agg #[(.int .i64 0), (.slice none 0 0), (.slice none 0 0), (.slice none 0 0)]) := info_zero (by kernel_rfl)
  exact ⟨⟨_, i, _, Tryz.underlying71, h1, h2, by kernel_rfl, rfl⟩, rfl⟩
theorem zr71 : (Tryz.prog.info? 71).map (·.zero) = some (some (.agg #[(.int .i64 0), (.slice none 0 0), (.slice none 0 0), (.slice none 0 0)])) := by kernel_rfl
theorem ty75 : LeafTy Tryz.prog 75 := ⟨⟨_, Tryz.underlying75, rfl⟩, by kernel_rfl⟩
theorem sl75 : SliceTy Tryz.prog 75 103 1 24 (.slice none 0 0) := ⟨Tryz.underlying75, info_all (by kernel_rfl), rfl, by decide⟩
theorem ty77 : LeafTy Tryz.prog 77 := ⟨⟨_, Tryz.underlying77, rfl⟩, by kernel_rfl⟩
theorem sl77 : SliceTy Tryz.prog 77 106 1 8 (.map none) := ⟨Tryz.underlying77, info_all (by kernel_rfl), rfl, by decide⟩
theorem fa79_0 : FieldTy Tryz.prog 79 0 0 4 true := ⟨⟨_, _, Tryz.underlying79, rfl, rfl, by kernel_rfl, ⟨_, Tryz.underlying71, rfl⟩, by decide⟩⟩
theorem fa79_1 : FieldTy Tryz.prog 79 1 4 1 false := ⟨⟨_, _, Tryz.underlying79, rfl, rfl, by kernel_rfl, ⟨_, Tryz.underlying75, rfl⟩, by decide⟩⟩
theorem fa79_2 : FieldTy Tryz.prog 79 2 5 1 false := ⟨⟨_, _, Tryz.underlying79, rfl, rfl, by kernel_rfl, ⟨_, Tryz.underlying3, rfl⟩, by decide⟩⟩
theorem fa79_3 : FieldTy Tryz.prog 79 3 6 2 true := ⟨⟨_, _, Tryz.underlying79, rfl, rfl, by kernel_rfl, ⟨_, Tryz.underlying31, rfl⟩, by decide⟩⟩
theorem fa79_4 : FieldTy Tryz.prog 79 4 8 1 false := ⟨⟨_, _, Tryz.underlying79, rfl, rfl, by kernel_rfl, ⟨_, Tryz.underlying77, rfl⟩, by decide⟩⟩
def zs79 : List V := [(.raw (.int .i64 0)), (.raw (.slice none 0 0)), (.raw (.slice none 0 0)), (.raw (.slice none 0 0)), (.raw (.slice none 0 0)), (.raw (.int .i64 0)), (.raw (.int .i64 0)), (.raw (.slice none 0 0)), (.raw (.slice none 0 0))]
theorem st79 : StructTy Tryz.prog 79 [(0, 4), (4, 1), (5, 1), (6, 2), (8, 1)] zs79 := by
  obtain ⟨i, h1, h2⟩ : ∃ i, Tryz.prog.info? 79 = some i ∧ i.zero = some (.agg #[(.int .i64 0), (.slice none 0 0), (.slice none 0 0), (.slice none 0 0), (.slice none 0 0), (.int .i64 0), (.int .i64 0), (.slice none 0 0), (.slice none 0 0)]) := info_zero (by kernel_rfl)
  exact ⟨⟨_, i, _, Tryz.underlying79, h1, h2, by kernel_rfl, rfl⟩, rfl⟩
theorem ty88 : LeafTy Tryz.prog 88 := ⟨⟨_, Tryz.underlying88, rfl⟩, by kernel_rfl⟩
theorem ty89 : LeafTy Tryz.prog 89 := ⟨⟨_, Tryz.underlying89, rfl⟩, by kernel_rfl⟩
theorem fa91_0 : FieldTy Tryz.prog 91 0 0 2 true := ⟨⟨_, _, Tryz.underlying91, rfl, rfl, by kernel_rfl, ⟨_, Tryz.underlying31, rfl⟩, by decide⟩⟩
theorem fa91_1 : FieldTy Tryz.prog 91 1 2 1 false := ⟨⟨_, _, Tryz.underlying91, rfl, rfl, by kernel_rfl, ⟨_, Tryz.underlying89, rfl⟩, by decide⟩⟩
def zs91 : List V := [(.raw (.int .i64 0)), (.raw (.slice none 0 0)), (.raw (.map none))]
theorem st91 : StructTy Tryz.prog 91 [(0, 2), (2, 1)] zs91 := by
  obtain ⟨i, h1, h2⟩ : ∃ i, Tryz.prog.info? 91 = some i ∧ i.zero = some (.agg #[(.int .i64 0), (.slice none 0 0), (.map none)]) := info_zero (by kernel_rfl)
  exact ⟨⟨_, i, _, Tryz.underlying91, h1, h2, by kernel_rfl, rfl⟩, rfl⟩
theorem ty95 : LeafTy Tryz.prog 95 := ⟨⟨_, Tryz.underlying95, rfl⟩, by kernel_rfl⟩
theorem sl95 : SliceTy Tryz.prog 95 140 1 8 (.pointer none) := ⟨Tryz.underlying95, info_all (by kernel_rfl), rfl, by decide⟩
theorem fa97_0 : FieldTy Tryz.prog 97 0 0 2 true := ⟨⟨_, _, Tryz.underlying97, rfl, rfl, by kernel_rfl, ⟨_, Tryz.underlying24, rfl⟩, by decide⟩⟩
theorem fa97_1 : FieldTy Tryz.prog 97 1 2 1 false := ⟨⟨_, _, Tryz.underlying97, rfl, rfl, by kernel_rfl, ⟨_, Tryz.underlying95, rfl⟩, by decide⟩⟩
theorem fa97_2 : FieldTy Tryz.prog 97 2 3 1 false := ⟨⟨_, _, Tryz.underlying97, rfl, rfl, by kernel_rfl, ⟨_, Tryz.underlying3, rfl⟩, by decide⟩⟩
theorem fa97_3 : FieldTy Tryz.prog 97 3 4 1 false := ⟨⟨_, _, Tryz.underlying97, rfl, rfl, by kernel_rfl, ⟨_, Tryz.underlying4, rfl⟩, by decide⟩⟩
theorem fa97_4 : FieldTy Tryz.prog 97 4 5 1 false := ⟨⟨_, _, Tryz.underlying97, rfl, rfl, by kernel_rfl, ⟨_, Tryz.underlying4, rfl⟩, by decide⟩⟩
theorem fa97_5 : FieldTy Tryz.prog 97 5 6 3 true := ⟨⟨_, _, Tryz.underlying97, rfl, rfl, by kernel_rfl, ⟨_, Tryz.underlying46, rfl⟩, by decide⟩⟩
def zs97 : List V := [(.raw (.slice none 0 0)), (.raw (.int .i64 0)), (.raw (.slice none 0 0)), (.raw (.int .i64 0)), (.raw (.bool false)), (.raw (.bool false)), (.raw (.slice none 0 0)), (.raw (.int .i64 0)), (.raw (.int .i64 0))]
theorem st97 : StructTy Tryz.prog 97 [(0, 2), (2, 1), (3, 1), (4, 1), (5, 1), (6, 3)] zs97 := by
  obtain ⟨i, h1, h2⟩ : ∃ i, Tryz.prog.info? 97 = some i ∧ i.zero = some (.agg #[(.slice none 0 0), (.int .i64 0), (.slice none 0 0), (.int .i64 0), (.bool false), (.bool false), (.slice none 0 0), (.int .i64 0), (.int .i64 0)]) := info_zero (by kernel_rfl)
  exact ⟨⟨_, i, _, Tryz.underlying97, h1, h2, by kernel_rfl, rfl⟩, rfl⟩
theorem ty103 : LeafTy Tryz.prog 103 := ⟨⟨_, Tryz.underlying103, rfl⟩, by kernel_rfl⟩
theorem sl103 : SliceTy Tryz.prog 103 4 1 1 (.bool false) := ⟨Tryz.underlying103, info_all (by kernel_rfl), rfl, by decide⟩
theorem ty106 : LeafTy Tryz.prog 106 := ⟨⟨_, Tryz.underlying106, rfl⟩, by kernel_rfl⟩
theorem fa111_0 : FieldTy Tryz.prog 111 0 0 1 false := ⟨⟨_, _, Tryz.underlying111, rfl, rfl, by kernel_rfl, ⟨_, Tryz.underlying3, rfl⟩, by decide⟩⟩
theorem fa111_1 : FieldTy Tryz.prog 111 1 1 1 false := ⟨⟨_, _, Tryz.underlying111, rfl, rfl, by kernel_rfl, ⟨_, Tryz.underlying3, rfl⟩, by decide⟩⟩
def zs111 : List V := [(.raw (.int .i64 0)), (.raw (.int .i64 0))]
theorem st111 : StructTy Tryz.prog 111 [(0, 1), (1, 1)] zs111 := by
  obtain ⟨i, h1, h2⟩ : ∃ i, Tryz.prog.info? 111 = some i ∧ i.zero = some (.agg #[(.int .i64 0), (.int .i64 0)]) := info_zero (by kernel_rfl)
  exact ⟨⟨_, i, _, Tryz.underlying111, h1, h2, by kernel_rfl, rfl⟩, rfl⟩
theorem sl112 : SliceTy Tryz.prog 112 111 2 16 (.agg #[(.int .i64 0), (.int .i64 0)]) := ⟨Tryz.underlying112, info_all (by kernel_rfl), rfl, by decide⟩
theorem ty126 : LeafTy Tryz.prog 126 := ⟨⟨_, Tryz.underlying126, rfl⟩, by kernel_rfl⟩
theorem ty131 : AggTy Tryz.prog 131 2 := ⟨⟨_, Tryz.underlying131, rfl⟩, by kernel_rfl⟩
theorem fa131_0 : FieldTy Tryz.prog 131 0 0 1 false := ⟨⟨_, _, Tryz.underlying131, rfl, rfl, by kernel_rfl, ⟨_, Tryz.underlying3, rfl⟩, by decide⟩⟩
theorem fa131_1 : FieldTy Tryz.prog 131 1 1 1 false := ⟨⟨_, _, Tryz.underlying131, rfl, rfl, by kernel_rfl, ⟨_, Tryz.underlying3, rfl⟩, by decide⟩⟩
def zs131 : List V := [(.raw (.int .i64 0)), (.raw (.int .i64 0))]
theorem st131 : StructTy Tryz.prog 131 [(0, 1), (1, 1)] zs131 := by
  obtain ⟨i, h1, h2⟩ : ∃ i, Tryz.prog.info? 131 = some i ∧ i.zero = some (.agg #[(.int .i64 0), (.int .i64 0)]) := info_zero (by kernel_rfl)
  exact ⟨⟨_, i, _, Tryz.underlying131, h1, h2, by kernel_rfl, rfl⟩, rfl⟩
theorem zr131 : (Tryz.prog.info? 131).map (·.zero) = some (some (.agg #[(.int .i64 0), (.int .i64 0)])) := by kernel_rfl
theorem ty132 : LeafTy Tryz.prog 132 := ⟨⟨_, Tryz.underlying132, rfl⟩, by kernel_rfl⟩
theorem zr132 : (Tryz.prog.info? 132).map (·.zero) = some (some (.slice none 0 0)) := by kernel_rfl
theorem sl132 : SliceTy Tryz.prog 132 134 2 16 (.agg #[(.int .u64 0), (.int .u64 0)]) := ⟨Tryz.underlying132, info_all (by kernel_rfl), rfl, by decide⟩
theorem ty134 : AggTy Tryz.prog 134 2 := ⟨⟨_, Tryz.underlying134, rfl⟩, by kernel_rfl⟩
def zs134 : List V := [(.raw (.int .u64 0)), (.raw (.int .u64 0))]
theorem at134 : ArrTy Tryz.prog 134 2 126 1 zs134 := arr_ty (cs := [.int .u64 0, .int .u64 0]) Tryz.underlying134 (by kernel_rfl) (by kernel_rfl) rfl rfl
theorem se134 : (Tryz.prog.info? 126).map (·.size) = some 1 := by kernel_rfl
theorem zr134 : (Tryz.prog.info? 134).map (·.zero) = some (some (.agg #[(.int .u64 0), (.int .u64 0)])) := by kernel_rfl
theorem ty139 : LeafTy Tryz.prog 139 := ⟨⟨_, Tryz.underlying139, rfl⟩, by kernel_rfl⟩
theorem zr139 : (Tryz.prog.info? 139).map (·.zero) = some (some (.slice none 0 0)) := by kernel_rfl
theorem sl139 : SliceTy Tryz.prog 139 146 4 48 (.agg #[(.int .i64 0), (.int .i64 0), (.slice none 0 0), (.pointer none)]) := ⟨Tryz.underlying139, info_all (by kernel_rfl), rfl, by decide⟩
theorem ty140 : LeafTy Tryz.prog 140 := ⟨⟨_, Tryz.underlying140, rfl⟩, by kernel_rfl⟩
theorem ty141 : LeafTy Tryz.prog 141 := ⟨⟨_, Tryz.underlying141, rfl⟩, by kernel_rfl⟩
theorem fa143_0 : FieldTy Tryz.prog 143 0 0 1 false := ⟨⟨_, _, Tryz.underlying143, rfl, rfl, by kernel_rfl, ⟨_, Tryz.underlying3, rfl⟩, by decide⟩⟩
theorem fa143_1 : FieldTy Tryz.prog 143 1 1 1 false := ⟨⟨_, _, Tryz.underlying143, rfl, rfl, by kernel_rfl, ⟨_, Tryz.underlying3, rfl⟩, by decide⟩⟩
theorem fa143_2 : FieldTy Tryz.prog 143 2 2 1 false := ⟨⟨_, _, Tryz.underlying143, rfl, rfl, by kernel_rfl, ⟨_, Tryz.underlying3, rfl⟩, by decide⟩⟩
theorem fa143_3 : FieldTy Tryz.prog 143 3 3 1 false := ⟨⟨_, _, Tryz.underlying143, rfl, rfl, by kernel_rfl, ⟨_, Tryz.underlying3, rfl⟩, by decide⟩⟩
theorem fa143_4 : FieldTy Tryz.prog 143 4 4 1 false := ⟨⟨_, _, Tryz.underlying143, rfl, rfl, by kernel_rfl, ⟨_, Tryz.underlying141, rfl⟩, by decide⟩⟩
def zs143 : List V := [(.raw (.int .i64 0)), (.raw (.int .i64 0)), (.raw (.int .i64 0)), (.raw (.int .i64 0)), (.raw (.map none))]
theorem st143 : StructTy Tryz.prog 143 [(0, 1), (1, 1), (2, 1), (3, 1), (4, 1)] zs143 := by
  obtain ⟨i, h1, h2⟩ : ∃ i, Tryz.prog.info? 143 = some i ∧ i.zero = some (.agg #[(.int .i64 0), (.int .i64 0), (.int .i64 0), (.int .i64 0), (.map none)]) := info_zero (by kernel_rfl)
  exact ⟨⟨_, i, _, Tryz.underlying143, h1, h2, by kernel_rfl, rfl⟩, rfl⟩
theorem ty144 : LeafTy Tryz.prog 144 := ⟨⟨_, Tryz.underlying144, rfl⟩, by kernel_rfl⟩
theorem ty146 : AggTy Tryz.prog 146 4 := ⟨⟨_, Tryz.underlying146, rfl⟩, by kernel_rfl⟩
theorem fa146_0 : FieldTy Tryz.prog 146 0 0 1 false := ⟨⟨_, _, Tryz.underlying146, rfl, rfl, by kernel_rfl, ⟨_, Tryz.underlying3, rfl⟩, by decide⟩⟩
theorem fa146_1 : FieldTy Tryz.prog 146 1 1 1 false := ⟨⟨_, _, Tryz.underlying146, rfl, rfl, by kernel_rfl, ⟨_, Tryz.underlying3, rfl⟩, by decide⟩⟩
theorem fa146_2 : FieldTy Tryz.prog 146 2 2 1 false := ⟨⟨_, _, Tryz.underlying146, rfl, rfl, by kernel_rfl, ⟨_, Tryz.underlying139, rfl⟩, by decide⟩⟩
theorem fa146_3 : FieldTy Tryz.prog 146 3 3 1 false := ⟨⟨_, _, Tryz.underlying146, rfl, rfl, by kernel_rfl, ⟨_, Tryz.underlying144, rfl⟩, by decide⟩⟩
def zs146 : List V := [(.raw (.int .i64 0)), (.raw (.int .i64 0)), (.raw (.slice none 0 0)), (.raw (.pointer none))]
theorem st146 : StructTy Tryz.prog 146 [(0, 1), (1, 1), (2, 1), (3, 1)] zs146 := by
  obtain ⟨i, h1, h2⟩ : ∃ i, Tryz.prog.info? 146 = some i ∧ i.zero = some (.agg #[(.int .i64 0), (.int .i64 0), (.slice none 0 0), (.pointer none)]) := info_zero (by kernel_rfl)
  exact ⟨⟨_, i, _, Tryz.underlying146, h1, h2, by kernel_rfl, rfl⟩, rfl⟩
theorem zr146 : (Tryz.prog.info? 146).map (·.zero) = some (some (.agg #[(.int .i64 0), (.int .i64 0), (.slice none 0 0), (.pointer none)])) := by kernel_rfl
theorem en6 : Enters Tryz.prog 6 := ⟨⟨_, Tryz.func6, by kernel_rfl, by kernel_rfl⟩⟩
theorem en7 : Enters Tryz.prog 7 := ⟨⟨_, Tryz.func7, by kernel_rfl, by kernel_rfl⟩⟩
theorem en8 : Enters Tryz.prog 8 := ⟨⟨_, Tryz.func8, by kernel_rfl, by kernel_rfl⟩⟩
theorem en9 : Enters Tryz.prog 9 := ⟨⟨_, Tryz.func9, by kernel_rfl, by kernel_rfl⟩⟩
theorem en10 : Enters Tryz.prog 10 := ⟨⟨_, Tryz.func10, by kernel_rfl, by kernel_rfl⟩⟩
theorem en11 : Enters Tryz.prog 11 := ⟨⟨_, Tryz.func11, by kernel_rfl, by kernel_rfl⟩⟩
theorem en12 : Enters Tryz.prog 12 := ⟨⟨_, Tryz.func12, by kernel_rfl, by kernel_rfl⟩⟩
theorem en13 : Enters Tryz.prog 13 := ⟨⟨_, Tryz.func13, by kernel_rfl, by kernel_rfl⟩⟩
theorem en14 : Enters Tryz.prog 14 := ⟨⟨_, Tryz.func14, by kernel_rfl, by kernel_rfl⟩⟩
theorem en15 : Enters Tryz.prog 15 := ⟨⟨_, Tryz.func15, by kernel_rfl, by kernel_rfl⟩⟩
theorem en18 : Enters Tryz.prog 18 := ⟨⟨_, Tryz.func18, by kernel_rfl, by kernel_rfl⟩⟩
theorem en19 : Enters Tryz.prog 19 := ⟨⟨_, Tryz.func19, by kernel_rfl, by kernel_rfl⟩⟩
theorem en20 : Enters Tryz.prog 20 := ⟨⟨_, Tryz.func20, by kernel_rfl, by kernel_rfl⟩⟩
theorem en21 : Enters Tryz.prog 21 := ⟨⟨_, Tryz.func21, by kernel_rfl, by kernel_rfl⟩⟩
theorem en22 : Enters Tryz.prog 22 := ⟨⟨_, Tryz.func22, by kernel_rfl, by kernel_rfl⟩⟩
theorem en23 : Enters Tryz.prog 23 := ⟨⟨_, Tryz.func23, by kernel_rfl, by kernel_rfl⟩⟩
theorem en24 : Enters Tryz.prog 24 := ⟨⟨_, Tryz.func24, by kernel_rfl, by kernel_rfl⟩⟩
theorem en25 : Enters Tryz.prog 25 := ⟨⟨_, Tryz.func25, by kernel_rfl, by kernel_rfl⟩⟩
theorem en26 : Enters Tryz.prog 26 := ⟨⟨_, Tryz.func26, by kernel_rfl, by kernel_rfl⟩⟩
theorem en27 : Enters Tryz.prog 27 := ⟨⟨_, Tryz.func27, by kernel_rfl, by kernel_rfl⟩⟩
theorem en30 : Enters Tryz.prog 30 := ⟨⟨_, Tryz.func30, by kernel_rfl, by kernel_rfl⟩⟩
theorem en31 : Enters Tryz.prog 31 := ⟨⟨_, Tryz.func31, by kernel_rfl, by kernel_rfl⟩⟩
theorem en32 : Enters Tryz.prog 32 := ⟨⟨_, Tryz.func32, by kernel_rfl, by kernel_rfl⟩⟩
theorem en33 : Enters Tryz.prog 33 := ⟨⟨_, Tryz.func33, by kernel_rfl, by kernel_rfl⟩⟩
theorem en34 : Enters Tryz.prog 34 := ⟨⟨_, Tryz.func34, by kernel_rfl, by kernel_rfl⟩⟩
theorem en35 : Enters Tryz.prog 35 := ⟨⟨_, Tryz.func35, by kernel_rfl, by kernel_rfl⟩⟩
theorem en36 : Enters Tryz.prog 36 := ⟨⟨_, Tryz.func36, by kernel_rfl, by kernel_rfl⟩⟩
theorem en37 : Enters Tryz.prog 37 := ⟨⟨_, Tryz.func37, by kernel_rfl, by kernel_rfl⟩⟩
theorem en38 : Enters Tryz.prog 38 := ⟨⟨_, Tryz.func38, by kernel_rfl, by kernel_rfl⟩⟩
theorem en39 : Enters Tryz.prog 39 := ⟨⟨_, Tryz.func39, by kernel_rfl, by kernel_rfl⟩⟩
theorem en40 : Enters Tryz.prog 40 := ⟨⟨_, Tryz.func40, by kernel_rfl, by kernel_rfl⟩⟩
theorem en43 : Enters Tryz.prog 43 := ⟨⟨_, Tryz.func43, by kernel_rfl, by kernel_rfl⟩⟩
theorem en44 : Enters Tryz.prog 44 := ⟨⟨_, Tryz.func44, by kernel_rfl, by kernel_rfl⟩⟩
theorem en45 : Enters Tryz.prog 45 := ⟨⟨_, Tryz.func45, by kernel_rfl, by kernel_rfl⟩⟩
theorem en46 : Enters Tryz.prog 46 := ⟨⟨_, Tryz.func46, by kernel_rfl, by kernel_rfl⟩⟩
theorem en47 : Enters Tryz.prog 47 := ⟨⟨_, Tryz.func47, by kernel_rfl, by kernel_rfl⟩⟩
theorem en48 : Enters Tryz.prog 48 := ⟨⟨_, Tryz.func48, by kernel_rfl, by kernel_rfl⟩⟩
theorem en49 : Enters Tryz.prog 49 := ⟨⟨_, Tryz.func49, by kernel_rfl, by kernel_rfl⟩⟩
theorem en50 : Enters Tryz.prog 50 := ⟨⟨_, Tryz.func50, by kernel_rfl, by kernel_rfl⟩⟩
theorem en51 : Enters Tryz.prog 51 := ⟨⟨_, Tryz.func51, by kernel_rfl, by kernel_rfl⟩⟩
theorem en54 : Enters Tryz.prog 54 := ⟨⟨_, Tryz.func54, by kernel_rfl, by kernel_rfl⟩⟩
theorem en56 : Enters Tryz.prog 56 := ⟨⟨_, Tryz.func56, by kernel_rfl, by kernel_rfl⟩⟩
theorem en57 : Enters Tryz.prog 57 := ⟨⟨_, Tryz.func57, by kernel_rfl, by kernel_rfl⟩⟩
theorem en58 : Enters Tryz.prog 58 := ⟨⟨_, Tryz.func58, by kernel_rfl, by kernel_rfl⟩⟩
theorem en59 : Enters Tryz.prog 59 := ⟨⟨_, Tryz.func59, by kernel_rfl, by kernel_rfl⟩⟩
theorem en60 : Enters Tryz.prog 60 := ⟨⟨_, Tryz.func60, by kernel_rfl, by kernel_rfl⟩⟩
theorem en61 : Enters Tryz.prog 61 := ⟨⟨_, Tryz.func61, by kernel_rfl, by kernel_rfl⟩⟩
theorem en73 : Enters Tryz.prog 73 := ⟨⟨_, Tryz.func73, by kernel_rfl, by kernel_rfl⟩⟩
theorem en74 : Enters Tryz.prog 74 := ⟨⟨_, Tryz.func74, by kernel_rfl, by kernel_rfl⟩⟩
theorem en75 : Enters Tryz.prog 75 := ⟨⟨_, Tryz.func75, by kernel_rfl, by kernel_rfl⟩⟩
theorem en76 : Enters Tryz.prog 76 := ⟨⟨_, Tryz.func76, by kernel_rfl, by kernel_rfl⟩⟩
theorem en77 : Enters Tryz.prog 77 := ⟨⟨_, Tryz.func77, by kernel_rfl, by kernel_rfl⟩⟩
theorem en78 : Enters Tryz.prog 78 := ⟨⟨_, Tryz.func78, by kernel_rfl, by kernel_rfl⟩⟩
theorem en79 : Enters Tryz.prog 79 := ⟨⟨_, Tryz.func79, by kernel_rfl, by kernel_rfl⟩⟩
theorem en80 : Enters Tryz.prog 80 := ⟨⟨_, Tryz.func80, by kernel_rfl, by kernel_rfl⟩⟩
theorem en81 : Enters Tryz.prog 81 := ⟨⟨_, Tryz.func81, by kernel_rfl, by kernel_rfl⟩⟩
theorem en82 : Enters Tryz.prog 82 := ⟨⟨_, Tryz.func82, by kernel_rfl, by kernel_rfl⟩⟩
theorem en83 : Enters Tryz.prog 83 := ⟨⟨_, Tryz.func83, by kernel_rfl, by kernel_rfl⟩⟩
theorem en84 : Enters Tryz.prog 84 := ⟨⟨_, Tryz.func84, by kernel_rfl, by kernel_rfl⟩⟩
theorem en85 : Enters Tryz.prog 85 := ⟨⟨_, Tryz.func85, by kernel_rfl, by kernel_rfl⟩⟩
theorem en86 : Enters Tryz.prog 86 := ⟨⟨_, Tryz.func86, by kernel_rfl, by kernel_rfl⟩⟩
theorem en90 : Enters Tryz.prog 90 := ⟨⟨_, Tryz.func90, by kernel_rfl, by kernel_rfl⟩⟩
theorem en97 : Enters Tryz.prog 97 := ⟨⟨_, Tryz.func97, by kernel_rfl, by kernel_rfl⟩⟩
theorem en98 : Enters Tryz.prog 98 := ⟨⟨_, Tryz.func98, by kernel_rfl, by kernel_rfl⟩⟩
theorem en99 : Enters Tryz.prog 99 := ⟨⟨_, Tryz.func99, by kernel_rfl, by kernel_rfl⟩⟩
theorem en100 : Enters Tryz.prog 100 := ⟨⟨_, Tryz.func100, by kernel_rfl, by kernel_rfl⟩⟩
theorem en101 : Enters Tryz.prog 101 := ⟨⟨_, Tryz.func101, by kernel_rfl, by kernel_rfl⟩⟩
theorem en102 : Enters Tryz.prog 102 := ⟨⟨_, Tryz.func102, by kernel_rfl, by kernel_rfl⟩⟩
theorem en103 : Enters Tryz.prog 103 := ⟨⟨_, Tryz.func103, by kernel_rfl, by kernel_rfl⟩⟩
theorem en104 : Enters Tryz.prog 104 := ⟨⟨_, Tryz.func104, by kernel_rfl, by kernel_rfl⟩⟩
theorem en105 : Enters Tryz.prog 105 := ⟨⟨_, Tryz.func105, by kernel_rfl, by kernel_rfl⟩⟩
theorem en106 : Enters Tryz.prog 106 := ⟨⟨_, Tryz.func106, by kernel_rfl, by kernel_rfl⟩⟩
theorem en107 : Enters Tryz.prog 107 := ⟨⟨_, Tryz.func107, by kernel_rfl, by kernel_rfl⟩⟩
theorem en108 : Enters Tryz.prog 108 := ⟨⟨_, Tryz.func108, by kernel_rfl, by kernel_rfl⟩⟩
theorem en109 : Enters Tryz.prog 109 := ⟨⟨_, Tryz.func109, by kernel_rfl, by kernel_rfl⟩⟩
theorem en110 : Enters Tryz.prog 110 := ⟨⟨_, Tryz.func110, by kernel_rfl, by kernel_rfl⟩⟩
theorem en121 : Enters Tryz.prog 121 := ⟨⟨_, Tryz.func121, by kernel_rfl, by kernel_rfl⟩⟩
theorem en122 : Enters Tryz.prog 122 := ⟨⟨_, Tryz.func122, by kernel_rfl, by kernel_rfl⟩⟩
theorem en123 : Enters Tryz.prog 123 := ⟨⟨_, Tryz.func123, by kernel_rfl, by kernel_rfl⟩⟩
theorem en124 : Enters Tryz.prog 124 := ⟨⟨_, Tryz.func124, by kernel_rfl, by kernel_rfl⟩⟩
theorem en125 : Enters Tryz.prog 125 := ⟨⟨_, Tryz.func125, by kernel_rfl, by kernel_rfl⟩⟩
theorem en126 : Enters Tryz.prog 126 := ⟨⟨_, Tryz.func126, by kernel_rfl, by kernel_rfl⟩⟩
theorem en127 : Enters Tryz.prog 127 := ⟨⟨_, Tryz.func127, by kernel_rfl, by kernel_rfl⟩⟩
theorem en128 : Enters Tryz.prog 128 := ⟨⟨_, Tryz.func128, by kernel_rfl, by kernel_rfl⟩⟩
theorem mix : Tryz.prog.follows .mixedOrders = true := by kernel_rfl
end Go.Proofs.YthlflmmnankhhaaGreat.VT
