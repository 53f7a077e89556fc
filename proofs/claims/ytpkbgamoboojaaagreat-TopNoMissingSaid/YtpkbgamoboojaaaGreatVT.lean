import Derived.Test.YtpkbgamoboojaaaGreatVY2
import Derived.Test.YtpkbgamoboojaaaGreatProg
set_option linter.all false
namespace Go.Proofs.YtpkbgamoboojaaaGreat.VT
open Go.VL
theorem ty1 : LeafTy Tryz.prog 1 := ⟨⟨_, Tryz.underlying1, rfl⟩, by kernel_rfl⟩
theorem ty2 : LeafTy Tryz.prog 2 := ⟨⟨_, Tryz.underlying2, rfl⟩, by kernel_rfl⟩
theorem ty3 : LeafTy Tryz.prog 3 := ⟨⟨_, Tryz.underlying3, rfl⟩, by kernel_rfl⟩
theorem zr3 : (Tryz.prog.info? 3).map (·.zero) = some (some (.int .i64 0)) := by kernel_rfl
theorem ty4 : LeafTy Tryz.prog 4 := ⟨⟨_, Tryz.underlying4, rfl⟩, by kernel_rfl⟩
theorem ty9 : LeafTy Tryz.prog 9 := ⟨⟨_, Tryz.underlying9, rfl⟩, by kernel_rfl⟩
theorem ty22 : LeafTy Tryz.prog 22 := ⟨⟨_, Tryz.underlying22, rfl⟩, by kernel_rfl⟩
theorem sl22 : SliceTy Tryz.prog 22 92 3 48 (.agg #[(.string ⟨#[]⟩), (.int .i64 0), (.slice none 0 0)]) := ⟨Tryz.underlying22, info_all (by kernel_rfl), rfl, by decide⟩
theorem sl23 : SliceTy Tryz.prog 23 24 1 24 (.slice none 0 0) := ⟨Tryz.underlying23, info_all (by kernel_rfl), rfl, by decide⟩
theorem ty24 : LeafTy Tryz.prog 24 := ⟨⟨_, Tryz.underlying24, rfl⟩, by kernel_rfl⟩
theorem sl24 : SliceTy Tryz.prog 24 75 4 56 (.agg #[(.int .i64 0), (.string ⟨#[]⟩), (.int .i64 0), (.slice none 0 0)]) := ⟨Tryz.underlying24, info_all (by kernel_rfl), rfl, by decide⟩
theorem ty26 : LeafTy Tryz.prog 26 := ⟨⟨_, Tryz.underlying26, rfl⟩, by kernel_rfl⟩
theorem sl26 : SliceTy Tryz.prog 26 70 6 112 (.agg #[(.int .i64 0), (.int .i64 0), (.slice none 0 0), (.slice none 0 0), (.slice none 0 0), (.slice none 0 0)]) := ⟨Tryz.underlying26, info_all (by kernel_rfl), rfl, by decide⟩
theorem ty36 : LeafTy Tryz.prog 36 := ⟨⟨_, Tryz.underlying36, rfl⟩, by kernel_rfl⟩
theorem sl36 : SliceTy Tryz.prog 36 3 1 8 (.int .i64 0) := ⟨Tryz.underlying36, info_all (by kernel_rfl), rfl, by decide⟩
theorem ty38 : AggTy Tryz.prog 38 4 := ⟨⟨_, Tryz.underlying38, rfl⟩, by kernel_rfl⟩
theorem fa38_0 : FieldTy Tryz.prog 38 0 0 1 false := ⟨⟨_, _, Tryz.underlying38, rfl, rfl, by kernel_rfl, ⟨_, Tryz.underlying3, rfl⟩, by decide⟩⟩
theorem fa38_1 : FieldTy Tryz.prog 38 1 1 1 false := ⟨⟨_, _, Tryz.underlying38, rfl, rfl, by kernel_rfl, ⟨_, Tryz.underlying3, rfl⟩, by decide⟩⟩
theorem fa38_2 : FieldTy Tryz.prog 38 2 2 1 false := ⟨⟨_, _, Tryz.underlying38, rfl, rfl, by kernel_rfl, ⟨_, Tryz.underlying3, rfl⟩, by decide⟩⟩
theorem fa38_3 : FieldTy Tryz.prog 38 3 3 1 false := ⟨⟨_, _, Tryz.underlying38, rfl, rfl, by kernel_rfl, ⟨_, Tryz.underlying36, rfl⟩, by decide⟩⟩
def zs38 : List V := [(.raw (.int .i64 0)), (.raw (.int .i64 0)), (.raw (.int .i64 0)), (.raw (.slice none 0 0))]
theorem st38 : StructTy Tryz.prog 38 [(0, 1), (1, 1), (2, 1), (3, 1)] zs38 := by
  obtain ⟨i, h1, h2⟩ : ∃ i, Tryz.prog.info? 38 = some i ∧ i.zero = some (.agg #[(.int .i64 0), (.int .i64 0), (.int .i64 0), (.slice none 0 0)]) := info_zero (by kernel_rfl)
  exact ⟨⟨_, i, _, Tryz.underlying38, h1, h2, by kernel_rfl, rfl⟩, rfl⟩
theorem zr38 : (Tryz.prog.info? 38).map (·.zero) = some (some (.agg #[(.int .i64 0), (.int .i64 0), (.int .i64 0), (.slice none 0 0)])) := by kernel_rfl
theorem ty39 : LeafTy Tryz.prog 39 := ⟨⟨_, Tryz.underlying39, rfl⟩, by kernel_rfl⟩
theorem sl39 : SliceTy Tryz.prog 39 38 4 48 (.agg #[(.int .i64 0), (.int .i64 0), (.int .i64 0), (.slice none 0 0)]) := ⟨Tryz.underlying39, info_all (by kernel_rfl), rfl, by decide⟩
theorem ty40 : LeafTy Tryz.prog 40 := ⟨⟨_, Tryz.underlying40, rfl⟩, by kernel_rfl⟩
theorem sl40 : SliceTy Tryz.prog 40 189 2 32 (.agg #[(.int .i64 0), (.slice none 0 0)]) := ⟨Tryz.underlying40, info_all (by kernel_rfl), rfl, by decide⟩
theorem ty42 : AggTy Tryz.prog 42 5 := ⟨⟨_, Tryz.underlying42, rfl⟩, by kernel_rfl⟩
theorem fa42_0 : FieldTy Tryz.prog 42 0 0 1 false := ⟨⟨_, _, Tryz.underlying42, rfl, rfl, by kernel_rfl, ⟨_, Tryz.underlying3, rfl⟩, by decide⟩⟩
theorem fa42_1 : FieldTy Tryz.prog 42 1 1 1 false := ⟨⟨_, _, Tryz.underlying42, rfl, rfl, by kernel_rfl, ⟨_, Tryz.underlying3, rfl⟩, by decide⟩⟩
theorem fa42_2 : FieldTy Tryz.prog 42 2 2 1 false := ⟨⟨_, _, Tryz.underlying42, rfl, rfl, by kernel_rfl, ⟨_, Tryz.underlying3, rfl⟩, by decide⟩⟩
theorem fa42_3 : FieldTy Tryz.prog 42 3 3 1 false := ⟨⟨_, _, Tryz.underlying42, rfl, rfl, by kernel_rfl, ⟨_, Tryz.underlying36, rfl⟩, by decide⟩⟩
theorem fa42_4 : FieldTy Tryz.prog 42 4 4 1 false := ⟨⟨_, _, Tryz.underlying42, rfl, rfl, by kernel_rfl, ⟨_, Tryz.underlying40, rfl⟩, by decide⟩⟩
def zs42 : List V := [(.raw (.int .i64 0)), (.raw (.int .i64 0)), (.raw (.int .i64 0)), (.raw (.slice none 0 0)), (.raw (.slice none 0 0))]
theorem st42 : StructTy Tryz.prog 42 [(0, 1), (1, 1), (2, 1), (3, 1), (4, 1)] zs42 := by
  obtain ⟨i, h1, h2⟩ : ∃ i, Tryz.prog.info? 42 = some i ∧ i.zero = some (.agg #[(.int .i64 0), (.int .i64 0), (.int .i64 0), (.slice none 0 0), (.slice none 0 0)]) := info_zero (by kernel_rfl)
  exact ⟨⟨_, i, _, Tryz.underlying42, h1, h2, by kernel_rfl, rfl⟩, rfl⟩
theorem ty44 : AggTy Tryz.prog 44 7 := ⟨⟨_, Tryz.underlying44, rfl⟩, by kernel_rfl⟩
theorem fa44_0 : FieldTy Tryz.prog 44 0 0 1 false := ⟨⟨_, _, Tryz.underlying44, rfl, rfl, by kernel_rfl, ⟨_, Tryz.underlying36, rfl⟩, by decide⟩⟩
theorem fa44_1 : FieldTy Tryz.prog 44 1 1 1 false := ⟨⟨_, _, Tryz.underlying44, rfl, rfl, by kernel_rfl, ⟨_, Tryz.underlying39, rfl⟩, by decide⟩⟩
theorem fa44_2 : FieldTy Tryz.prog 44 2 2 5 true := ⟨⟨_, _, Tryz.underlying44, rfl, rfl, by kernel_rfl, ⟨_, Tryz.underlying42, rfl⟩, by decide⟩⟩
def zs44 : List V := [(.raw (.slice none 0 0)), (.raw (.slice none 0 0)), (.raw (.int .i64 0)), (.raw (.int .i64 0)), (.raw (.int .i64 0)), (.raw (.slice none 0 0)), (.raw (.slice none 0 0))]
theorem st44 : StructTy Tryz.prog 44 [(0, 1), (1, 1), (2, 5)] zs44 := by
  obtain ⟨i, h1, h2⟩ : ∃ i, Tryz.prog.info? 44 = some i ∧ i.zero = some (.agg #[(.slice none 0 0), (.slice none 0 0), (.int .i64 0), (.int .i64 0), (.int .i64 0), (.slice none 0 0), (.slice none 0 0)]) := info_zero (by kernel_rfl)
  exact ⟨⟨_, i, _, Tryz.underlying44, h1, h2, by kernel_rfl, rfl⟩, rfl⟩
theorem zr44 : (Tryz.prog.info? 44).map (·.zero) = some (some (.agg #[(.slice none 0 0), (.slice none 0 0), (.int .i64 0), (.int .i64 0), (.int .i64 0), (.slice none 0 0), (.slice none 0 0)])) := by kernel_rfl
theorem ty45 : LeafTy Tryz.prog 45 := ⟨⟨_, Tryz.underlying45, rfl⟩, by kernel_rfl⟩
theorem sl45 : SliceTy Tryz.prog 45 44 7 120 (.agg #[(.slice none 0 0), (.slice none 0 0), (.int .i64 0), (.int .i64 0), (.int .i64 0), (.slice none 0 0), (.slice none 0 0)]) := ⟨Tryz.underlying45, info_all (by kernel_rfl), rfl, by decide⟩
theorem ty47 : AggTy Tryz.prog 47 2 := ⟨⟨_, Tryz.underlying47, rfl⟩, by kernel_rfl⟩
theorem fa47_0 : FieldTy Tryz.prog 47 0 0 1 false := ⟨⟨_, _, Tryz.underlying47, rfl, rfl, by kernel_rfl, ⟨_, Tryz.underlying3, rfl⟩, by decide⟩⟩
theorem fa47_1 : FieldTy Tryz.prog 47 1 1 1 false := ⟨⟨_, _, Tryz.underlying47, rfl, rfl, by kernel_rfl, ⟨_, Tryz.underlying45, rfl⟩, by decide⟩⟩
def zs47 : List V := [(.raw (.int .i64 0)), (.raw (.slice none 0 0))]
theorem st47 : StructTy Tryz.prog 47 [(0, 1), (1, 1)] zs47 := by
  obtain ⟨i, h1, h2⟩ : ∃ i, Tryz.prog.info? 47 = some i ∧ i.zero = some (.agg #[(.int .i64 0), (.slice none 0 0)]) := info_zero (by kernel_rfl)
  exact ⟨⟨_, i, _, Tryz.underlying47, h1, h2, by kernel_rfl, rfl⟩, rfl⟩
theorem zr47 : (Tryz.prog.info? 47).map (·.zero) = some (some (.agg #[(.int .i64 0), (.slice none 0 0)])) := by kernel_rfl
theorem ty48 : LeafTy Tryz.prog 48 := ⟨⟨_, Tryz.underlying48, rfl⟩, by kernel_rfl⟩
theorem sl48 : SliceTy Tryz.prog 48 47 2 32 (.agg #[(.int .i64 0), (.slice none 0 0)]) := ⟨Tryz.underlying48, info_all (by kernel_rfl), rfl, by decide⟩
theorem ty50 : AggTy Tryz.prog 50 2 := ⟨⟨_, Tryz.underlying50, rfl⟩, by kernel_rfl⟩
theorem fa50_0 : FieldTy Tryz.prog 50 0 0 1 false := ⟨⟨_, _, Tryz.underlying50, rfl, rfl, by kernel_rfl, ⟨_, Tryz.underlying48, rfl⟩, by decide⟩⟩
theorem fa50_1 : FieldTy Tryz.prog 50 1 1 1 false := ⟨⟨_, _, Tryz.underlying50, rfl, rfl, by kernel_rfl, ⟨_, Tryz.underlying3, rfl⟩, by decide⟩⟩
def zs50 : List V := [(.raw (.slice none 0 0)), (.raw (.int .i64 0))]
theorem st50 : StructTy Tryz.prog 50 [(0, 1), (1, 1)] zs50 := by
  obtain ⟨i, h1, h2⟩ : ∃ i, Tryz.prog.info? 50 = some i ∧ i.zero = some (.agg #[(.slice none 0 0), (.int .i64 0)]) := info_zero (by kernel_rfl)
  exact ⟨⟨_, i, _, Tryz.underlying50, h1, h2, by kernel_rfl, rfl⟩, rfl⟩
theorem zr50 : (Tryz.prog.info? 50).map (·.zero) = some (some (.agg #[(.slice none 0 0), (.int .i64 0)])) := by kernel_rfl
theorem ty52 : AggTy Tryz.prog 52 3 := ⟨⟨_, Tryz.underlying52, rfl⟩, by kernel_rfl⟩
theorem fa52_0 : FieldTy Tryz.prog 52 0 0 1 false := ⟨⟨_, _, Tryz.underlying52, rfl, rfl, by kernel_rfl, ⟨_, Tryz.underlying36, rfl⟩, by decide⟩⟩
theorem fa52_1 : FieldTy Tryz.prog 52 1 1 1 false := ⟨⟨_, _, Tryz.underlying52, rfl, rfl, by kernel_rfl, ⟨_, Tryz.underlying3, rfl⟩, by decide⟩⟩
theorem fa52_2 : FieldTy Tryz.prog 52 2 2 1 false := ⟨⟨_, _, Tryz.underlying52, rfl, rfl, by kernel_rfl, ⟨_, Tryz.underlying3, rfl⟩, by decide⟩⟩
def zs52 : List V := [(.raw (.slice none 0 0)), (.raw (.int .i64 0)), (.raw (.int .i64 0))]
theorem st52 : StructTy Tryz.prog 52 [(0, 1), (1, 1), (2, 1)] zs52 := by
  obtain ⟨i, h1, h2⟩ : ∃ i, Tryz.prog.info? 52 = some i ∧ i.zero = some (.agg #[(.slice none 0 0), (.int .i64 0), (.int .i64 0)]) := info_zero (by kernel_rfl)
  exact ⟨⟨_, i, _, Tryz.underlying52, h1, h2, by kernel_rfl, rfl⟩, rfl⟩
theorem zr52 : (Tryz.prog.info? 52).map (·.zero) = some (some (.agg #[(.slice none 0 0), (.int .i64 0), (.int .i64 0)])) := by kernel_rfl
theorem ty56 : LeafTy Tryz.prog 56 := ⟨⟨_, Tryz.underlying56, rfl⟩, by kernel_rfl⟩
theorem fa61_0 : FieldTy Tryz.prog 61 0 0 1 false := ⟨⟨_, _, Tryz.underlying61, rfl, rfl, by kernel_rfl, ⟨_, Tryz.underlying56, rfl⟩, by decide⟩⟩
theorem fa61_1 : FieldTy Tryz.prog 61 1 1 1 false := ⟨⟨_, _, Tryz.underlying61, rfl, rfl, by kernel_rfl, ⟨_, Tryz.underlying26, rfl⟩, by decide⟩⟩
theorem fa61_2 : FieldTy Tryz.prog 61 2 2 1 false := ⟨⟨_, _, Tryz.underlying61, rfl, rfl, by kernel_rfl, ⟨_, Tryz.underlying3, rfl⟩, by decide⟩⟩
theorem fa61_3 : FieldTy Tryz.prog 61 3 3 1 false := ⟨⟨_, _, Tryz.underlying61, rfl, rfl, by kernel_rfl, ⟨_, Tryz.underlying4, rfl⟩, by decide⟩⟩
def zs61 : List V := [(.raw (.map none)), (.raw (.slice none 0 0)), (.raw (.int .i64 0)), (.raw (.bool false))]
theorem st61 : StructTy Tryz.prog 61 [(0, 1), (1, 1), (2, 1), (3, 1)] zs61 := by
  obtain ⟨i, h1, h2⟩ : ∃ i, Tryz.prog.info? 61 = some i ∧ i.zero = some (.agg #[(.map none), (.slice none 0 0), (.int .i64 0), (.bool false)]) := info_zero (by kernel_rfl)
  exact ⟨⟨_, i, _, Tryz.underlying61, h1, h2, by kernel_rfl, rfl⟩, rfl⟩
theorem sl62 : SliceTy Tryz.prog 62 65 2 32 (.agg #[(.int .i64 0), (.slice none 0 0)]) := ⟨Tryz.underlying62, info_all (by kernel_rfl), rfl, by decide⟩
theorem ty63 : LeafTy Tryz.prog 63 := ⟨⟨_, Tryz.underlying63, rfl⟩, by kernel_rfl⟩
theorem sl63 : SliceTy Tryz.prog 63 36 1 24 (.slice none 0 0) := ⟨Tryz.underlying63, info_all (by kernel_rfl), rfl, by decide⟩
theorem ty65 : AggTy Tryz.prog 65 2 := ⟨⟨_, Tryz.underlying65, rfl⟩, by kernel_rfl⟩
theorem fa65_0 : FieldTy Tryz.prog 65 0 0 1 false := ⟨⟨_, _, Tryz.underlying65, rfl, rfl, by kernel_rfl, ⟨_, Tryz.underlying3, rfl⟩, by decide⟩⟩
theorem fa65_1 : FieldTy Tryz.prog 65 1 1 1 false := ⟨⟨_, _, Tryz.underlying65, rfl, rfl, by kernel_rfl, ⟨_, Tryz.underlying24, rfl⟩, by decide⟩⟩
def zs65 : List V := [(.raw (.int .i64 0)), (.raw (.slice none 0 0))]
theorem st65 : StructTy Tryz.prog 65 [(0, 1), (1, 1)] zs65 := by
  obtain ⟨i, h1, h2⟩ : ∃ i, Tryz.prog.info? 65 = some i ∧ i.zero = some (.agg #[(.int .i64 0), (.slice none 0 0)]) := info_zero (by kernel_rfl)
  exact ⟨⟨_, i, _, Tryz.underlying65, h1, h2, by kernel_rfl, rfl⟩, rfl⟩
theorem zr65 : (Tryz.prog.info? 65).map (·.zero) = some (some (.agg #[(.int .i64 0), (.slice none 0 0)])) := by kernel_rfl
theorem ty68 : LeafTy Tryz.prog 68 := ⟨⟨_, Tryz.underlying68, rfl⟩, by kernel_rfl⟩
theorem sl68 : SliceTy Tryz.prog 68 9 1 16 (.string ⟨#[]⟩) := ⟨Tryz.underlying68, info_all (by kernel_rfl), rfl, by decide⟩
theorem ty70 : AggTy Tryz.prog 70 6 := ⟨⟨_, Tryz.underlying70, rfl⟩, by kernel_rfl⟩
theorem fa70_0 : FieldTy Tryz.prog 70 0 0 1 false := ⟨⟨_, _, Tryz.underlying70, rfl, rfl, by kernel_rfl, ⟨_, Tryz.underlying3, rfl⟩, by decide⟩⟩
theorem fa70_1 : FieldTy Tryz.prog 70 1 1 1 false := ⟨⟨_, _, Tryz.underlying70, rfl, rfl, by kernel_rfl, ⟨_, Tryz.underlying3, rfl⟩, by decide⟩⟩
theorem fa70_2 : FieldTy Tryz.prog 70 2 2 1 false := ⟨⟨_, _, Tryz.underlying70, rfl, rfl, by kernel_rfl, ⟨_, Tryz.underlying36, rfl⟩, by decide⟩⟩
theorem fa70_3 : FieldTy Tryz.prog 70 3 3 1 false := ⟨⟨_, _, Tryz.underlying70, rfl, rfl, by kernel_rfl, ⟨_, Tryz.underlying68, rfl⟩, by decide⟩⟩
theorem fa70_4 : FieldTy Tryz.prog 70 4 4 1 false := ⟨⟨_, _, Tryz.underlying70, rfl, rfl, by kernel_rfl, ⟨_, Tryz.underlying36, rfl⟩, by decide⟩⟩
theorem fa70_5 : FieldTy Tryz.prog 70 5 5 1 false := ⟨⟨_, _, Tryz.underlying70, rfl, rfl, by kernel_rfl, ⟨_, Tryz.underlying36, rfl⟩, by decide⟩⟩
def zs70 : List V := [(.raw (.int .i64 0)), (.raw (.int .i64 0)), (.raw (.slice none 0 0)), (.raw (.slice none 0 0)), (.raw (.slice none 0 0)), (.raw (.slice none 0 0))]
theorem st70 : StructTy Tryz.prog 70 [(0, 1), (1, 1), (2, 1), (3, 1), (4, 1), (5, 1)] zs70 := by
  obtain ⟨i, h1, h2⟩ : ∃ i, Tryz.prog.info? 70 = some i ∧ i.zero = some (.agg #[(.int .i64 0), (.int .i64 0), (.slice none 0 0), (.slice none 0 0), (.slice none 0 0), (.slice none 0 0)]) := info_zero (by kernel_rfl)
  exact ⟨⟨_, i, _, Tryz.underlying70, h1, h2, by kernel_rfl, rfl⟩, rfl⟩
theorem zr70 : (Tryz.prog.info? 70).map (·.zero) = some (some (.agg #[(.int .i64 0), (.int .i64 0), (.slice none 0 0), (.slice none 0 0), (.slice none 0 0), (.slice none 0 0)])) := by kernel_rfl
theorem ty75 : AggTy Tryz.prog 75 4 := ⟨⟨_, Tryz.underlying75, rfl⟩, by kernel_rfl⟩
theorem fa75_0 : FieldTy Tryz.prog 75 0 0 1 false := ⟨⟨_, _, Tryz.underlying75, rfl, rfl, by kernel_rfl, ⟨_, Tryz.underlying3, rfl⟩, by decide⟩⟩
theorem fa75_1 : FieldTy Tryz.prog 75 1 1 1 false := ⟨⟨_, _, Tryz.underlying75, rfl, rfl, by kernel_rfl, ⟨_, Tryz.underlying9, rfl⟩, by decide⟩⟩
theorem fa75_2 : FieldTy Tryz.prog 75 2 2 1 false := ⟨⟨_, _, Tryz.underlying75, rfl, rfl, by kernel_rfl, ⟨_, Tryz.underlying3, rfl⟩, by decide⟩⟩
theorem fa75_3 : FieldTy Tryz.prog 75 3 3 1 false := ⟨⟨_, _, Tryz.underlying75, rfl, rfl, by kernel_rfl, ⟨_, Tryz.underlying24, rfl⟩, by decide⟩⟩
def zs75 : List V := [(.raw (.int .i64 0)), (.raw (.string ⟨#[]⟩)), (.raw (.int .i64 0)), (.raw (.slice none 0 0))]
theorem st75 : StructTy Tryz.prog 75 [(0, 1), (1, 1), (2, 1), (3, 1)] zs75 := by
  obtain ⟨i, h1, h2⟩ : ∃ i, Tryz.prog.info? 75 = some i ∧ i.zero = some (.agg #[(.int .i64 0), (.string ⟨#[]⟩), (.int .i64 0), (.slice none 0 0)]) := info_zero (by kernel_rfl)
  exact ⟨⟨_, i, _, Tryz.underlying75, h1, h2, by kernel_rfl, rfl⟩, rfl⟩
theorem zr75 : (Tryz.prog.info? 75).map (·.zero) = some (some (.agg #[(.int .i64 0), (.string ⟨#[]⟩), (.int .i64 0), (.slice none 0 0)])) := by kernel_rfl
theorem ty81 : LeafTy Tryz.prog 81 := ⟨⟨_, Tryz.underlying81, rfl⟩, by kernel_rfl⟩
theorem ty83 : AggTy Tryz.prog 83 2 := ⟨⟨_, Tryz.underlying83, rfl⟩, by kernel_rfl⟩
theorem fa83_0 : FieldTy Tryz.prog 83 0 0 1 false := ⟨⟨_, _, Tryz.underlying83, rfl, rfl, by kernel_rfl, ⟨_, Tryz.underlying22, rfl⟩, by decide⟩⟩
theorem fa83_1 : FieldTy Tryz.prog 83 1 1 1 false := ⟨⟨_, _, Tryz.underlying83, rfl, rfl, by kernel_rfl, ⟨_, Tryz.underlying81, rfl⟩, by decide⟩⟩
def zs83 : List V := [(.raw (.slice none 0 0)), (.raw (.map none))]
theorem st83 : StructTy Tryz.prog 83 [(0, 1), (1, 1)] zs83 := by
  obtain ⟨i, h1, h2⟩ : ∃ i, Tryz.prog.info? 83 = some i ∧ i.zero = some (.agg #[(.slice none 0 0), (.map none)]) := info_zero (by kernel_rfl)
  exact ⟨⟨_, i, _, Tryz.underlying83, h1, h2, by kernel_rfl, rfl⟩, rfl⟩
theorem zr83 : (Tryz.prog.info? 83).map (·.zero) = some (some (.agg #[(.slice none 0 0), (.map none)])) := by kernel_rfl
theorem ty90 : LeafTy Tryz.prog 90 := ⟨⟨_, Tryz.underlying90, rfl⟩, by kernel_rfl⟩
theorem sl90 : SliceTy Tryz.prog 90 95 2 40 (.agg #[(.string ⟨#[]⟩), (.slice none 0 0)]) := ⟨Tryz.underlying90, info_all (by kernel_rfl), rfl, by decide⟩
theorem ty92 : AggTy Tryz.prog 92 3 := ⟨⟨_, Tryz.underlying92, rfl⟩, by kernel_rfl⟩
theorem fa92_2 : FieldTy Tryz.prog 92 2 2 1 false := ⟨⟨_, _, Tryz.underlying92, rfl, rfl, by kernel_rfl, ⟨_, Tryz.underlying90, rfl⟩, by decide⟩⟩
def zs92 : List V := [(.raw (.string ⟨#[]⟩)), (.raw (.int .i64 0)), (.raw (.slice none 0 0))]
theorem st92 : StructTy Tryz.prog 92 [(0, 1), (1, 1), (2, 1)] zs92 := by
  obtain ⟨i, h1, h2⟩ : ∃ i, Tryz.prog.info? 92 = some i ∧ i.zero = some (.agg #[(.string ⟨#[]⟩), (.int .i64 0), (.slice none 0 0)]) := info_zero (by kernel_rfl)
  exact ⟨⟨_, i, _, Tryz.underlying92, h1, h2, by kernel_rfl, rfl⟩, rfl⟩
theorem zr92 : (Tryz.prog.info? 92).map (·.zero) = some (some (.agg #[(.string ⟨#[]⟩), (.int .i64 0), (.slice none 0 0)])) := by kernel_rfl
theorem ty93 : LeafTy Tryz.prog 93 := ⟨⟨_, Tryz.underlying93, rfl⟩, by kernel_rfl⟩
theorem ty95 : AggTy Tryz.prog 95 2 := ⟨⟨_, Tryz.underlying95, rfl⟩, by kernel_rfl⟩
theorem fa95_0 : FieldTy Tryz.prog 95 0 0 1 false := ⟨⟨_, _, Tryz.underlying95, rfl, rfl, by kernel_rfl, ⟨_, Tryz.underlying9, rfl⟩, by decide⟩⟩
theorem fa95_1 : FieldTy Tryz.prog 95 1 1 1 false := ⟨⟨_, _, Tryz.underlying95, rfl, rfl, by kernel_rfl, ⟨_, Tryz.underlying93, rfl⟩, by decide⟩⟩
theorem zr95 : (Tryz.prog.info? 95).map (·.zero) = some (some (.agg #[(.string ⟨#[]⟩), (.slice none 0 0)])) := by kernel_rfl
theorem zr96 : (Tryz.prog.info? 96).map (·.zero) = some (some (.pointer none)) := by kernel_rfl
theorem ty99 : LeafTy Tryz.prog 99 := ⟨⟨_, Tryz.underlying99, rfl⟩, by kernel_rfl⟩
theorem zr99 : (Tryz.prog.info? 99).map (·.zero) = some (some (.nilFunc)) := by kernel_rfl
theorem ty113 : AggTy Tryz.prog 113 3 := ⟨⟨_, Tryz.underlying113, rfl⟩, by kernel_rfl⟩
theorem fa113_0 : FieldTy Tryz.prog 113 0 0 1 false := ⟨⟨_, _, Tryz.underlying113, rfl, rfl, by kernel_rfl, ⟨_, Tryz.underlying3, rfl⟩, by decide⟩⟩
theorem fa113_2 : FieldTy Tryz.prog 113 2 2 1 false := ⟨⟨_, _, Tryz.underlying113, rfl, rfl, by kernel_rfl, ⟨_, Tryz.underlying3, rfl⟩, by decide⟩⟩
def zs113 : List V := [(.raw (.int .i64 0)), (.raw (.int .i64 0)), (.raw (.int .i64 0))]
theorem st113 : StructTy Tryz.prog 113 [(0, 1), (1, 1), (2, 1)] zs113 := by
  obtain ⟨i, h1, h2⟩ : ∃ i, Tryz.prog.info? 113 = some i ∧ i.zero = some (.agg #[(.int .i64 0), (.int .i64 0), (.int .i64 0)]) := info_zero (by kernel_rfl)
  exact ⟨⟨_, i, _, Tryz.underlying113, h1, h2, by kernel_rfl, rfl⟩, rfl⟩
theorem zr113 : (Tryz.prog.info? 113).map (·.zero) = some (some (.agg #[(.int .i64 0), (.int .i64 0), (.int .i64 0)])) := by kernel_rfl
theorem ty119 : LeafTy Tryz.prog 119 := ⟨⟨_, Tryz.underlying119, rfl⟩, by kernel_rfl⟩
theorem sl119 : SliceTy Tryz.prog 119 153 1 8 (.pointer none) := ⟨Tryz.underlying119, info_all (by kernel_rfl), rfl, by decide⟩
theorem fa121_0 : FieldTy Tryz.prog 121 0 0 2 true := ⟨⟨_, _, Tryz.underlying121, rfl, rfl, by kernel_rfl, ⟨_, Tryz.underlying50, rfl⟩, by decide⟩⟩
theorem fa121_1 : FieldTy Tryz.prog 121 1 2 1 false := ⟨⟨_, _, Tryz.underlying121, rfl, rfl, by kernel_rfl, ⟨_, Tryz.underlying119, rfl⟩, by decide⟩⟩
theorem fa121_2 : FieldTy Tryz.prog 121 2 3 1 false := ⟨⟨_, _, Tryz.underlying121, rfl, rfl, by kernel_rfl, ⟨_, Tryz.underlying3, rfl⟩, by decide⟩⟩
theorem fa121_3 : FieldTy Tryz.prog 121 3 4 1 false := ⟨⟨_, _, Tryz.underlying121, rfl, rfl, by kernel_rfl, ⟨_, Tryz.underlying4, rfl⟩, by decide⟩⟩
theorem fa121_4 : FieldTy Tryz.prog 121 4 5 1 false := ⟨⟨_, _, Tryz.underlying121, rfl, rfl, by kernel_rfl, ⟨_, Tryz.underlying4, rfl⟩, by decide⟩⟩
theorem fa121_5 : FieldTy Tryz.prog 121 5 6 3 true := ⟨⟨_, _, Tryz.underlying121, rfl, rfl, by kernel_rfl, ⟨_, Tryz.underlying52, rfl⟩, by decide⟩⟩
def zs121 : List V := [(.raw (.slice none 0 0)), (.raw (.int .i64 0)), (.raw (.slice none 0 0)), (.raw (.int .i64 0)), (.raw (.bool false)), (.raw (.bool false)), (.raw (.slice none 0 0)), (.raw (.int .i64 0)), (.raw (.int .i64 0))]
theorem st121 : StructTy Tryz.prog 121 [(0, 2), (2, 1), (3, 1), (4, 1), (5, 1), (6, 3)] zs121 := by
  obtain ⟨i, h1, h2⟩ : ∃ i, Tryz.prog.info? 121 = some i ∧ i.zero = some (.agg #[(.slice none 0 0), (.int .i64 0), (.slice none 0 0), (.int .i64 0), (.bool false), (.bool false), (.slice none 0 0), (.int .i64 0), (.int .i64 0)]) := info_zero (by kernel_rfl)
  exact ⟨⟨_, i, _, Tryz.underlying121, h1, h2, by kernel_rfl, rfl⟩, rfl⟩
theorem ty146 : LeafTy Tryz.prog 146 := ⟨⟨_, Tryz.underlying146, rfl⟩, by kernel_rfl⟩
theorem ty147 : LeafTy Tryz.prog 147 := ⟨⟨_, Tryz.underlying147, rfl⟩, by kernel_rfl⟩
theorem fa149_0 : FieldTy Tryz.prog 149 0 0 2 true := ⟨⟨_, _, Tryz.underlying149, rfl, rfl, by kernel_rfl, ⟨_, Tryz.underlying47, rfl⟩, by decide⟩⟩
theorem fa149_1 : FieldTy Tryz.prog 149 1 2 1 false := ⟨⟨_, _, Tryz.underlying149, rfl, rfl, by kernel_rfl, ⟨_, Tryz.underlying147, rfl⟩, by decide⟩⟩
def zs149 : List V := [(.raw (.int .i64 0)), (.raw (.slice none 0 0)), (.raw (.map none))]
theorem st149 : StructTy Tryz.prog 149 [(0, 2), (2, 1)] zs149 := by
  obtain ⟨i, h1, h2⟩ : ∃ i, Tryz.prog.info? 149 = some i ∧ i.zero = some (.agg #[(.int .i64 0), (.slice none 0 0), (.map none)]) := info_zero (by kernel_rfl)
  exact ⟨⟨_, i, _, Tryz.underlying149, h1, h2, by kernel_rfl, rfl⟩, rfl⟩
theorem ty152 : LeafTy Tryz.prog 152 := ⟨⟨_, Tryz.underlying152, rfl⟩, by kernel_rfl⟩
theorem zr152 : (Tryz.prog.info? 152).map (·.zero) = some (some (.slice none 0 0)) := by kernel_rfl
theorem sl152 : SliceTy Tryz.prog 152 159 4 48 (.agg #[(.int .i64 0), (.int .i64 0), (.slice none 0 0), (.pointer none)]) := ⟨Tryz.underlying152, info_all (by kernel_rfl), rfl, by decide⟩
theorem ty153 : LeafTy Tryz.prog 153 := ⟨⟨_, Tryz.underlying153, rfl⟩, by kernel_rfl⟩
theorem ty154 : LeafTy Tryz.prog 154 := ⟨⟨_, Tryz.underlying154, rfl⟩, by kernel_rfl⟩
theorem fa156_0 : FieldTy Tryz.prog 156 0 0 1 false := ⟨⟨_, _, Tryz.underlying156, rfl, rfl, by kernel_rfl, ⟨_, Tryz.underlying3, rfl⟩, by decide⟩⟩
theorem fa156_1 : FieldTy Tryz.prog 156 1 1 1 false := ⟨⟨_, _, Tryz.underlying156, rfl, rfl, by kernel_rfl, ⟨_, Tryz.underlying3, rfl⟩, by decide⟩⟩
theorem fa156_2 : FieldTy Tryz.prog 156 2 2 1 false := ⟨⟨_, _, Tryz.underlying156, rfl, rfl, by kernel_rfl, ⟨_, Tryz.underlying3, rfl⟩, by decide⟩⟩
theorem fa156_3 : FieldTy Tryz.prog 156 3 3 1 false := ⟨⟨_, _, Tryz.underlying156, rfl, rfl, by kernel_rfl, ⟨_, Tryz.underlying3, rfl⟩, by decide⟩⟩
theorem fa156_4 : FieldTy Tryz.prog 156 4 4 1 false := ⟨⟨_, _, Tryz.underlying156, rfl, rfl, by kernel_rfl, ⟨_, Tryz.underlying154, rfl⟩, by decide⟩⟩
def zs156 : List V := [(.raw (.int .i64 0)), (.raw (.int .i64 0)), (.raw (.int .i64 0)), (.raw (.int .i64 0)), (.raw (.map none))]
theorem st156 : StructTy Tryz.prog 156 [(0, 1), (1, 1), (2, 1), (3, 1), (4, 1)] zs156 := by
  obtain ⟨i, h1, h2⟩ : ∃ i, Tryz.prog.info? 156 = some i ∧ i.zero = some (.agg #[(.int .i64 0), (.int .i64 0), (.int .i64 0), (.int .i64 0), (.map none)]) := info_zero (by kernel_rfl)
  exact ⟨⟨_, i, _, Tryz.underlying156, h1, h2, by kernel_rfl, rfl⟩, rfl⟩
theorem ty157 : LeafTy Tryz.prog 157 := ⟨⟨_, Tryz.underlying157, rfl⟩, by kernel_rfl⟩
theorem ty159 : AggTy Tryz.prog 159 4 := ⟨⟨_, Tryz.underlying159, rfl⟩, by kernel_rfl⟩
theorem fa159_0 : FieldTy Tryz.prog 159 0 0 1 false := ⟨⟨_, _, Tryz.underlying159, rfl, rfl, by kernel_rfl, ⟨_, Tryz.underlying3, rfl⟩, by decide⟩⟩
theorem fa159_1 : FieldTy Tryz.prog 159 1 1 1 false := ⟨⟨_, _, Tryz.underlying159, rfl, rfl, by kernel_rfl, ⟨_, Tryz.underlying3, rfl⟩, by decide⟩⟩
theorem fa159_2 : FieldTy Tryz.prog 159 2 2 1 false := ⟨⟨_, _, Tryz.underlying159, rfl, rfl, by kernel_rfl, ⟨_, Tryz.underlying152, rfl⟩, by decide⟩⟩
theorem fa159_3 : FieldTy Tryz.prog 159 3 3 1 false := ⟨⟨_, _, Tryz.underlying159, rfl, rfl, by kernel_rfl, ⟨_, Tryz.underlying157, rfl⟩, by decide⟩⟩
def zs159 : List V := [(.raw (.int .i64 0)), (.raw (.int .i64 0)), (.raw (.slice none 0 0)), (.raw (.pointer none))]
theorem st159 : StructTy Tryz.prog 159 [(0, 1), (1, 1), (2, 1), (3, 1)] zs159 := by
  obtain ⟨i, h1, h2⟩ : ∃ i, Tryz.prog.info? 159 = some i ∧ i.zero = some (.agg #[(.int .i64 0), (.int .i64 0), (.slice none 0 0), (.pointer none)]) := info_zero (by kernel_rfl)
  exact ⟨⟨_, i, _, Tryz.underlying159, h1, h2, by kernel_rfl, rfl⟩, rfl⟩
theorem zr159 : (Tryz.prog.info? 159).map (·.zero) = some (some (.agg #[(.int .i64 0), (.int .i64 0), (.slice none 0 0), (.pointer none)])) := by kernel_rfl
theorem sl168 : SliceTy Tryz.prog 168 63 1 24 (.slice none 0 0) := ⟨Tryz.underlying168, info_all (by kernel_rfl), rfl, by decide⟩
theorem ty176 : AggTy Tryz.prog 176 2 := ⟨⟨_, Tryz.underlying176, rfl⟩, by kernel_rfl⟩
theorem fa176_0 : FieldTy Tryz.prog 176 0 0 1 false := ⟨⟨_, _, Tryz.underlying176, rfl, rfl, by kernel_rfl, ⟨_, Tryz.underlying3, rfl⟩, by decide⟩⟩
theorem fa176_1 : FieldTy Tryz.prog 176 1 1 1 false := ⟨⟨_, _, Tryz.underlying176, rfl, rfl, by kernel_rfl, ⟨_, Tryz.underlying3, rfl⟩, by decide⟩⟩
def zs176 : List V := [(.raw (.int .i64 0)), (.raw (.int .i64 0))]
theorem st176 : StructTy Tryz.prog 176 [(0, 1), (1, 1)] zs176 := by
  obtain ⟨i, h1, h2⟩ : ∃ i, Tryz.prog.info? 176 = some i ∧ i.zero = some (.agg #[(.int .i64 0), (.int .i64 0)]) := info_zero (by kernel_rfl)
  exact ⟨⟨_, i, _, Tryz.underlying176, h1, h2, by kernel_rfl, rfl⟩, rfl⟩
theorem zr176 : (Tryz.prog.info? 176).map (·.zero) = some (some (.agg #[(.int .i64 0), (.int .i64 0)])) := by kernel_rfl
theorem ty179 : LeafTy Tryz.prog 179 := ⟨⟨_, Tryz.underlying179, rfl⟩, by kernel_rfl⟩
theorem zr179 : (Tryz.prog.info? 179).map (·.zero) = some (some (.slice none 0 0)) := by kernel_rfl
theorem sl179 : SliceTy Tryz.prog 179 182 2 16 (.agg #[(.int .u64 0), (.int .u64 0)]) := ⟨Tryz.underlying179, info_all (by kernel_rfl), rfl, by decide⟩
theorem ty180 : LeafTy Tryz.prog 180 := ⟨⟨_, Tryz.underlying180, rfl⟩, by kernel_rfl⟩
theorem ty182 : AggTy Tryz.prog 182 2 := ⟨⟨_, Tryz.underlying182, rfl⟩, by kernel_rfl⟩
def zs182 : List V := [(.raw (.int .u64 0)), (.raw (.int .u64 0))]
theorem at182 : ArrTy Tryz.prog 182 2 180 1 zs182 := arr_ty (cs := [.int .u64 0, .int .u64 0]) Tryz.underlying182 (by kernel_rfl) (by kernel_rfl) rfl rfl
theorem se182 : (Tryz.prog.info? 180).map (·.size) = some 1 := by kernel_rfl
theorem zr182 : (Tryz.prog.info? 182).map (·.zero) = some (some (.agg #[(.int .u64 0), (.int .u64 0)])) := by kernel_rfl
theorem ty189 : AggTy Tryz.prog 189 2 := ⟨⟨_, Tryz.underlying189, rfl⟩, by kernel_rfl⟩
theorem fa189_0 : FieldTy Tryz.prog 189 0 0 1 false := ⟨⟨_, _, Tryz.underlying189, rfl, rfl, by kernel_rfl, ⟨_, Tryz.underlying3, rfl⟩, by decide⟩⟩
theorem fa189_1 : FieldTy Tryz.prog 189 1 1 1 false := ⟨⟨_, _, Tryz.underlying189, rfl, rfl, by kernel_rfl, ⟨_, Tryz.underlying36, rfl⟩, by decide⟩⟩
theorem zr189 : (Tryz.prog.info? 189).map (·.zero) = some (some (.agg #[(.int .i64 0), (.slice none 0 0)])) := by kernel_rfl
theorem en5 : Enters Tryz.prog 5 := ⟨⟨_, Tryz.func5, by kernel_rfl, by kernel_rfl⟩⟩
theorem en6 : Enters Tryz.prog 6 := ⟨⟨_, Tryz.func6, by kernel_rfl, by kernel_rfl⟩⟩
theorem en7 : Enters Tryz.prog 7 := ⟨⟨_, Tryz.func7, by kernel_rfl, by kernel_rfl⟩⟩
theorem en8 : Enters Tryz.prog 8 := ⟨⟨_, Tryz.func8, by kernel_rfl, by kernel_rfl⟩⟩
theorem en10 : Enters Tryz.prog 10 := ⟨⟨_, Tryz.func10, by kernel_rfl, by kernel_rfl⟩⟩
theorem en11 : Enters Tryz.prog 11 := ⟨⟨_, Tryz.func11, by kernel_rfl, by kernel_rfl⟩⟩
theorem en12 : Enters Tryz.prog 12 := ⟨⟨_, Tryz.func12, by kernel_rfl, by kernel_rfl⟩⟩
theorem en13 : Enters Tryz.prog 13 := ⟨⟨_, Tryz.func13, by kernel_rfl, by kernel_rfl⟩⟩
theorem en14 : Enters Tryz.prog 14 := ⟨⟨_, Tryz.func14, by kernel_rfl, by kernel_rfl⟩⟩
theorem en15 : Enters Tryz.prog 15 := ⟨⟨_, Tryz.func15, by kernel_rfl, by kernel_rfl⟩⟩
theorem en16 : Enters Tryz.prog 16 := ⟨⟨_, Tryz.func16, by kernel_rfl, by kernel_rfl⟩⟩
theorem en17 : Enters Tryz.prog 17 := ⟨⟨_, Tryz.func17, by kernel_rfl, by kernel_rfl⟩⟩
theorem en18 : Enters Tryz.prog 18 := ⟨⟨_, Tryz.func18, by kernel_rfl, by kernel_rfl⟩⟩
theorem en19 : Enters Tryz.prog 19 := ⟨⟨_, Tryz.func19, by kernel_rfl, by kernel_rfl⟩⟩
theorem en20 : Enters Tryz.prog 20 := ⟨⟨_, Tryz.func20, by kernel_rfl, by kernel_rfl⟩⟩
theorem en21 : Enters Tryz.prog 21 := ⟨⟨_, Tryz.func21, by kernel_rfl, by kernel_rfl⟩⟩
theorem en22 : Enters Tryz.prog 22 := ⟨⟨_, Tryz.func22, by kernel_rfl, by kernel_rfl⟩⟩
theorem en23 : Enters Tryz.prog 23 := ⟨⟨_, Tryz.func23, by kernel_rfl, by kernel_rfl⟩⟩
theorem en24 : Enters Tryz.prog 24 := ⟨⟨_, Tryz.func24, by kernel_rfl, by kernel_rfl⟩⟩
theorem en25 : Enters Tryz.prog 25 := ⟨⟨_, Tryz.func25, by kernel_rfl, by kernel_rfl⟩⟩
theorem en26 : Enters Tryz.prog 26 := ⟨⟨_, Tryz.func26, by kernel_rfl, by kernel_rfl⟩⟩
theorem en27 : Enters Tryz.prog 27 := ⟨⟨_, Tryz.func27, by kernel_rfl, by kernel_rfl⟩⟩
theorem en28 : Enters Tryz.prog 28 := ⟨⟨_, Tryz.func28, by kernel_rfl, by kernel_rfl⟩⟩
theorem en29 : Enters Tryz.prog 29 := ⟨⟨_, Tryz.func29, by kernel_rfl, by kernel_rfl⟩⟩
theorem en30 : Enters Tryz.prog 30 := ⟨⟨_, Tryz.func30, by kernel_rfl, by kernel_rfl⟩⟩
theorem en31 : Enters Tryz.prog 31 := ⟨⟨_, Tryz.func31, by kernel_rfl, by kernel_rfl⟩⟩
theorem en32 : Enters Tryz.prog 32 := ⟨⟨_, Tryz.func32, by kernel_rfl, by kernel_rfl⟩⟩
theorem en33 : Enters Tryz.prog 33 := ⟨⟨_, Tryz.func33, by kernel_rfl, by kernel_rfl⟩⟩
theorem en34 : Enters Tryz.prog 34 := ⟨⟨_, Tryz.func34, by kernel_rfl, by kernel_rfl⟩⟩
theorem en35 : Enters Tryz.prog 35 := ⟨⟨_, Tryz.func35, by kernel_rfl, by kernel_rfl⟩⟩
theorem en36 : Enters Tryz.prog 36 := ⟨⟨_, Tryz.func36, by kernel_rfl, by kernel_rfl⟩⟩
theorem en37 : Enters Tryz.prog 37 := ⟨⟨_, Tryz.func37, by kernel_rfl, by kernel_rfl⟩⟩
theorem en38 : Enters Tryz.prog 38 := ⟨⟨_, Tryz.func38, by kernel_rfl, by kernel_rfl⟩⟩
theorem en39 : Enters Tryz.prog 39 := ⟨⟨_, Tryz.func39, by kernel_rfl, by kernel_rfl⟩⟩
theorem en40 : Enters Tryz.prog 40 := ⟨⟨_, Tryz.func40, by kernel_rfl, by kernel_rfl⟩⟩
theorem en41 : Enters Tryz.prog 41 := ⟨⟨_, Tryz.func41, by kernel_rfl, by kernel_rfl⟩⟩
theorem en42 : Enters Tryz.prog 42 := ⟨⟨_, Tryz.func42, by kernel_rfl, by kernel_rfl⟩⟩
theorem en43 : Enters Tryz.prog 43 := ⟨⟨_, Tryz.func43, by kernel_rfl, by kernel_rfl⟩⟩
theorem en44 : Enters Tryz.prog 44 := ⟨⟨_, Tryz.func44, by kernel_rfl, by kernel_rfl⟩⟩
theorem en45 : Enters Tryz.prog 45 := ⟨⟨_, Tryz.func45, by kernel_rfl, by kernel_rfl⟩⟩
theorem en46 : Enters Tryz.prog 46 := ⟨⟨_, Tryz.func46, by kernel_rfl, by kernel_rfl⟩⟩
theorem en47 : Enters Tryz.prog 47 := ⟨⟨_, Tryz.func47, by kernel_rfl, by kernel_rfl⟩⟩
theorem en48 : Enters Tryz.prog 48 := ⟨⟨_, Tryz.func48, by kernel_rfl, by kernel_rfl⟩⟩
theorem en49 : Enters Tryz.prog 49 := ⟨⟨_, Tryz.func49, by kernel_rfl, by kernel_rfl⟩⟩
theorem en50 : Enters Tryz.prog 50 := ⟨⟨_, Tryz.func50, by kernel_rfl, by kernel_rfl⟩⟩
theorem en51 : Enters Tryz.prog 51 := ⟨⟨_, Tryz.func51, by kernel_rfl, by kernel_rfl⟩⟩
theorem en52 : Enters Tryz.prog 52 := ⟨⟨_, Tryz.func52, by kernel_rfl, by kernel_rfl⟩⟩
theorem en53 : Enters Tryz.prog 53 := ⟨⟨_, Tryz.func53, by kernel_rfl, by kernel_rfl⟩⟩
theorem en54 : Enters Tryz.prog 54 := ⟨⟨_, Tryz.func54, by kernel_rfl, by kernel_rfl⟩⟩
theorem en55 : Enters Tryz.prog 55 := ⟨⟨_, Tryz.func55, by kernel_rfl, by kernel_rfl⟩⟩
theorem en56 : Enters Tryz.prog 56 := ⟨⟨_, Tryz.func56, by kernel_rfl, by kernel_rfl⟩⟩
theorem en57 : Enters Tryz.prog 57 := ⟨⟨_, Tryz.func57, by kernel_rfl, by kernel_rfl⟩⟩
theorem en58 : Enters Tryz.prog 58 := ⟨⟨_, Tryz.func58, by kernel_rfl, by kernel_rfl⟩⟩
theorem en59 : Enters Tryz.prog 59 := ⟨⟨_, Tryz.func59, by kernel_rfl, by kernel_rfl⟩⟩
theorem en60 : Enters Tryz.prog 60 := ⟨⟨_, Tryz.func60, by kernel_rfl, by kernel_rfl⟩⟩
theorem en61 : Enters Tryz.prog 61 := ⟨⟨_, Tryz.func61, by kernel_rfl, by kernel_rfl⟩⟩
theorem en62 : Enters Tryz.prog 62 := ⟨⟨_, Tryz.func62, by kernel_rfl, by kernel_rfl⟩⟩
theorem en63 : Enters Tryz.prog 63 := ⟨⟨_, Tryz.func63, by kernel_rfl, by kernel_rfl⟩⟩
theorem en64 : Enters Tryz.prog 64 := ⟨⟨_, Tryz.func64, by kernel_rfl, by kernel_rfl⟩⟩
theorem en65 : Enters Tryz.prog 65 := ⟨⟨_, Tryz.func65, by kernel_rfl, by kernel_rfl⟩⟩
theorem en66 : Enters Tryz.prog 66 := ⟨⟨_, Tryz.func66, by kernel_rfl, by kernel_rfl⟩⟩
theorem en67 : Enters Tryz.prog 67 := ⟨⟨_, Tryz.func67, by kernel_rfl, by kernel_rfl⟩⟩
theorem en68 : Enters Tryz.prog 68 := ⟨⟨_, Tryz.func68, by kernel_rfl, by kernel_rfl⟩⟩
theorem en69 : Enters Tryz.prog 69 := ⟨⟨_, Tryz.func69, by kernel_rfl, by kernel_rfl⟩⟩
theorem en70 : Enters Tryz.prog 70 := ⟨⟨_, Tryz.func70, by kernel_rfl, by kernel_rfl⟩⟩
theorem en71 : Enters Tryz.prog 71 := ⟨⟨_, Tryz.func71, by kernel_rfl, by kernel_rfl⟩⟩
theorem en72 : Enters Tryz.prog 72 := ⟨⟨_, Tryz.func72, by kernel_rfl, by kernel_rfl⟩⟩
theorem en73 : Enters Tryz.prog 73 := ⟨⟨_, Tryz.func73, by kernel_rfl, by kernel_rfl⟩⟩
theorem en74 : Enters Tryz.prog 74 := ⟨⟨_, Tryz.func74, by kernel_rfl, by kernel_rfl⟩⟩
theorem en75 : Enters Tryz.prog 75 := ⟨⟨_, Tryz.func75, by kernel_rfl, by kernel_rfl⟩⟩
theorem en76 : Enters Tryz.prog 76 := ⟨⟨_, Tryz.func76, by kernel_rfl, by kernel_rfl⟩⟩
theorem en77 : Enters Tryz.prog 77 := ⟨⟨_, Tryz.func77, by kernel_rfl, by kernel_rfl⟩⟩
theorem en78 : Enters Tryz.prog 78 := ⟨⟨_, Tryz.func78, by kernel_rfl, by kernel_rfl⟩⟩
theorem en79 : Enters Tryz.prog 79 := ⟨⟨_, Tryz.func79, by kernel_rfl, by kernel_rfl⟩⟩
theorem en80 : Enters Tryz.prog 80 := ⟨⟨_, Tryz.func80, by kernel_rfl, by kernel_rfl⟩⟩
theorem en81 : Enters Tryz.prog 81 := ⟨⟨_, Tryz.func81, by kernel_rfl, by kernel_rfl⟩⟩
theorem en82 : Enters Tryz.prog 82 := ⟨⟨_, Tryz.func82, by kernel_rfl, by kernel_rfl⟩⟩
theorem en83 : Enters Tryz.prog 83 := ⟨⟨_, Tryz.func83, by kernel_rfl, by kernel_rfl⟩⟩
theorem en84 : Enters Tryz.prog 84 := ⟨⟨_, Tryz.func84, by kernel_rfl, by kernel_rfl⟩⟩
theorem en85 : Enters Tryz.prog 85 := ⟨⟨_, Tryz.func85, by kernel_rfl, by kernel_rfl⟩⟩
theorem en86 : Enters Tryz.prog 86 := ⟨⟨_, Tryz.func86, by kernel_rfl, by kernel_rfl⟩⟩
theorem en87 : Enters Tryz.prog 87 := ⟨⟨_, Tryz.func87, by kernel_rfl, by kernel_rfl⟩⟩
theorem en88 : Enters Tryz.prog 88 := ⟨⟨_, Tryz.func88, by kernel_rfl, by kernel_rfl⟩⟩
theorem en89 : Enters Tryz.prog 89 := ⟨⟨_, Tryz.func89, by kernel_rfl, by kernel_rfl⟩⟩
theorem en90 : Enters Tryz.prog 90 := ⟨⟨_, Tryz.func90, by kernel_rfl, by kernel_rfl⟩⟩
theorem en91 : Enters Tryz.prog 91 := ⟨⟨_, Tryz.func91, by kernel_rfl, by kernel_rfl⟩⟩
theorem en92 : Enters Tryz.prog 92 := ⟨⟨_, Tryz.func92, by kernel_rfl, by kernel_rfl⟩⟩
theorem en93 : Enters Tryz.prog 93 := ⟨⟨_, Tryz.func93, by kernel_rfl, by kernel_rfl⟩⟩
theorem en94 : Enters Tryz.prog 94 := ⟨⟨_, Tryz.func94, by kernel_rfl, by kernel_rfl⟩⟩
theorem en95 : Enters Tryz.prog 95 := ⟨⟨_, Tryz.func95, by kernel_rfl, by kernel_rfl⟩⟩
theorem en96 : Enters Tryz.prog 96 := ⟨⟨_, Tryz.func96, by kernel_rfl, by kernel_rfl⟩⟩
theorem en97 : Enters Tryz.prog 97 := ⟨⟨_, Tryz.func97, by kernel_rfl, by kernel_rfl⟩⟩
theorem en98 : Enters Tryz.prog 98 := ⟨⟨_, Tryz.func98, by kernel_rfl, by kernel_rfl⟩⟩
theorem en99 : Enters Tryz.prog 99 := ⟨⟨_, Tryz.func99, by kernel_rfl, by kernel_rfl⟩⟩
theorem en100 : Enters Tryz.prog 100 := ⟨⟨_, Tryz.func100, by kernel_rfl, by kernel_rfl⟩⟩
theorem en101 : Enters Tryz.prog 101 := ⟨⟨_, Tryz.func101, by kernel_rfl, by kernel_rfl⟩⟩
theorem en102 : Enters Tryz.prog 102 := ⟨⟨_, Tryz.func102, by kernel_rfl, by kernel_rfl⟩⟩
theorem en103 : Enters Tryz.prog 103 := ⟨⟨_, Tryz.func103, by kernel_rfl, by kernel_rfl⟩⟩
theorem en104 : Enters Tryz.prog 104 := ⟨⟨_, Tryz.func104, by kernel_rfl, by kernel_rfl⟩⟩
theorem en105 : Enters Tryz.prog 105 := ⟨⟨_, Tryz.func105, by kernel_rfl, by kernel_rfl⟩⟩
theorem en106 : Enters Tryz.prog 106 := ⟨⟨_, Tryz.func106, by kernel_rfl, by kernel_rfl⟩⟩
theorem en107 : Enters Tryz.prog 107 := ⟨⟨_, Tryz.func107, by kernel_rfl, by kernel_rfl⟩⟩
theorem en108 : Enters Tryz.prog 108 := ⟨⟨_, Tryz.func108, by kernel_rfl, by kernel_rfl⟩⟩
theorem en109 : Enters Tryz.prog 109 := ⟨⟨_, Tryz.func109, by kernel_rfl, by kernel_rfl⟩⟩
theorem en110 : Enters Tryz.prog 110 := ⟨⟨_, Tryz.func110, by kernel_rfl, by kernel_rfl⟩⟩
theorem en111 : Enters Tryz.prog 111 := ⟨⟨_, Tryz.func111, by kernel_rfl, by kernel_rfl⟩⟩
theorem en112 : Enters Tryz.prog 112 := ⟨⟨_, Tryz.func112, by kernel_rfl, by kernel_rfl⟩⟩
theorem en113 : Enters Tryz.prog 113 := ⟨⟨_, Tryz.func113, by kernel_rfl, by kernel_rfl⟩⟩
theorem en114 : Enters Tryz.prog 114 := ⟨⟨_, Tryz.func114, by kernel_rfl, by kernel_rfl⟩⟩
theorem en115 : Enters Tryz.prog 115 := ⟨⟨_, Tryz.func115, by kernel_rfl, by kernel_rfl⟩⟩
theorem en116 : Enters Tryz.prog 116 := ⟨⟨_, Tryz.func116, by kernel_rfl, by kernel_rfl⟩⟩
theorem en117 : Enters Tryz.prog 117 := ⟨⟨_, Tryz.func117, by kernel_rfl, by kernel_rfl⟩⟩
theorem en118 : Enters Tryz.prog 118 := ⟨⟨_, Tryz.func118, by kernel_rfl, by kernel_rfl⟩⟩
theorem en119 : Enters Tryz.prog 119 := ⟨⟨_, Tryz.func119, by kernel_rfl, by kernel_rfl⟩⟩
theorem en120 : Enters Tryz.prog 120 := ⟨⟨_, Tryz.func120, by kernel_rfl, by kernel_rfl⟩⟩
theorem en121 : Enters Tryz.prog 121 := ⟨⟨_, Tryz.func121, by kernel_rfl, by kernel_rfl⟩⟩
theorem en122 : Enters Tryz.prog 122 := ⟨⟨_, Tryz.func122, by kernel_rfl, by kernel_rfl⟩⟩
theorem en123 : Enters Tryz.prog 123 := ⟨⟨_, Tryz.func123, by kernel_rfl, by kernel_rfl⟩⟩
theorem en124 : Enters Tryz.prog 124 := ⟨⟨_, Tryz.func124, by kernel_rfl, by kernel_rfl⟩⟩
theorem en125 : Enters Tryz.prog 125 := ⟨⟨_, Tryz.func125, by kernel_rfl, by kernel_rfl⟩⟩
theorem en126 : Enters Tryz.prog 126 := ⟨⟨_, Tryz.func126, by kernel_rfl, by kernel_rfl⟩⟩
theorem mix : Tryz.prog.follows .mixedOrders = true := by kernel_rfl
end Go.Proofs.YtpkbgamoboojaaaGreat.VT
