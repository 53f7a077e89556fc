import Derived.Test.YtjekhhgjfelpgaaVC
import Derived.Test.YtjekhhgjfelpgaaProg
set_option linter.unusedVariables false
namespace Go.Proofs.Ytjekhhgjfelpgaa.VT
open Go.VL
theorem ty1 : LeafTy Try.prog 1 := ⟨⟨_, Try.underlying1, rfl⟩, by kernel_rfl⟩
theorem ty2 : LeafTy Try.prog 2 := ⟨⟨_, Try.underlying2, rfl⟩, by kernel_rfl⟩
theorem ty3 : LeafTy Try.prog 3 := ⟨⟨_, Try.underlying3, rfl⟩, by kernel_rfl⟩
theorem zr3 : (Try.prog.info? 3).map (·.zero) = some (some (.int .i64 0)) := by kernel_rfl
theorem ty4 : LeafTy Try.prog 4 := ⟨⟨_, Try.underlying4, rfl⟩, by kernel_rfl⟩
theorem ty22 : LeafTy Try.prog 22 := ⟨⟨_, Try.underlying22, rfl⟩, by kernel_rfl⟩
theorem sl22 : SliceTy Try.prog 22 36 2 32 (.agg #[(.int .i64 0), (.slice none 0 0)]) := ⟨Try.underlying22, info_all (by kernel_rfl), rfl, by decide⟩
theorem ty24 : AggTy Try.prog 24 2 := ⟨⟨_, Try.underlying24, rfl⟩, by kernel_rfl⟩
theorem fa24_0 : FieldTy Try.prog 24 0 0 1 false := ⟨⟨_, _, Try.underlying24, rfl, rfl, by kernel_rfl, ⟨_, Try.underlying22, rfl⟩, by decide⟩⟩
theorem fa24_1 : FieldTy Try.prog 24 1 1 1 false := ⟨⟨_, _, Try.underlying24, rfl, rfl, by kernel_rfl, ⟨_, Try.underlying3, rfl⟩, by decide⟩⟩
def zs24 : List V := [(.raw (.slice none 0 0)), (.raw (.int .i64 0))]
theorem st24 : StructTy Try.prog 24 [(0, 1), (1, 1)] zs24 := by
  obtain ⟨i, h1, h2⟩ : ∃ i, Try.prog.info? 24 = some i ∧ i.zero = some (.agg #[(.slice none 0 0), (.int .i64 0)]) := info_zero (by kernel_rfl)
  exact ⟨⟨_, i, _, Try.underlying24, h1, h2, by kernel_rfl, rfl⟩, rfl⟩
theorem zr24 : (Try.prog.info? 24).map (·.zero) = some (some (.agg #[(.slice none 0 0), (.int .i64 0)])) := by kernel_rfl
theorem ty26 : LeafTy Try.prog 26 := ⟨⟨_, Try.underlying26, rfl⟩, by kernel_rfl⟩
theorem zr26 : (Try.prog.info? 26).map (·.zero) = some (some (.slice none 0 0)) := by kernel_rfl
theorem sl26 : SliceTy Try.prog 26 3 1 8 (.int .i64 0) := ⟨Try.underlying26, info_all (by kernel_rfl), rfl, by decide⟩
theorem ty28 : AggTy Try.prog 28 3 := ⟨⟨_, Try.underlying28, rfl⟩, by kernel_rfl⟩
theorem fa28_0 : FieldTy Try.prog 28 0 0 1 false := ⟨⟨_, _, Try.underlying28, rfl, rfl, by kernel_rfl, ⟨_, Try.underlying26, rfl⟩, by decide⟩⟩
theorem fa28_1 : FieldTy Try.prog 28 1 1 1 false := ⟨⟨_, _, Try.underlying28, rfl, rfl, by kernel_rfl, ⟨_, Try.underlying3, rfl⟩, by decide⟩⟩
theorem fa28_2 : FieldTy Try.prog 28 2 2 1 false := ⟨⟨_, _, Try.underlying28, rfl, rfl, by kernel_rfl, ⟨_, Try.underlying3, rfl⟩, by decide⟩⟩
def zs28 : List V := [(.raw (.slice none 0 0)), (.raw (.int .i64 0)), (.raw (.int .i64 0))]
theorem st28 : StructTy Try.prog 28 [(0, 1), (1, 1), (2, 1)] zs28 := by
  obtain ⟨i, h1, h2⟩ : ∃ i, Try.prog.info? 28 = some i ∧ i.zero = some (.agg #[(.slice none 0 0), (.int .i64 0), (.int .i64 0)]) := info_zero (by kernel_rfl)
  exact ⟨⟨_, i, _, Try.underlying28, h1, h2, by kernel_rfl, rfl⟩, rfl⟩
theorem zr28 : (Try.prog.info? 28).map (·.zero) = some (some (.agg #[(.slice none 0 0), (.int .i64 0), (.int .i64 0)])) := by kernel_rfl
theorem ty34 : LeafTy Try.prog 34 := ⟨⟨_, Try.underlying34, rfl⟩, by kernel_rfl⟩
theorem sl34 : SliceTy Try.prog 34 48 7 120 (.agg #[(.slice none 0 0), (.slice none 0 0), (.int .i64 0), (.int .i64 0), (.int .i64 0), (.slice none 0 0), (.slice none 0 0)]) := ⟨Try.underlying34, info_all (by kernel_rfl), rfl, by decide⟩
theorem ty36 : AggTy Try.prog 36 2 := ⟨⟨_, Try.underlying36, rfl⟩, by kernel_rfl⟩
theorem fa36_0 : FieldTy Try.prog 36 0 0 1 false := ⟨⟨_, _, Try.underlying36, rfl, rfl, by kernel_rfl, ⟨_, Try.underlying3, rfl⟩, by decide⟩⟩
theorem fa36_1 : FieldTy Try.prog 36 1 1 1 false := ⟨⟨_, _, Try.underlying36, rfl, rfl, by kernel_rfl, ⟨_, Try.underlying34, rfl⟩, by decide⟩⟩
def zs36 : List V := [(.raw (.int .i64 0)), (.raw (.slice none 0 0))]
theorem st36 : StructTy Try.prog 36 [(0, 1), (1, 1)] zs36 := by
  obtain ⟨i, h1, h2⟩ : ∃ i, Try.prog.info? 36 = some i ∧ i.zero = some (.agg #[(.int .i64 0), (.slice none 0 0)]) := info_zero (by kernel_rfl)
  exact ⟨⟨_, i, _, Try.underlying36, h1, h2, by kernel_rfl, rfl⟩, rfl⟩
theorem zr36 : (Try.prog.info? 36).map (·.zero) = some (some (.agg #[(.int .i64 0), (.slice none 0 0)])) := by kernel_rfl
theorem sl37 : SliceTy Try.prog 37 4 1 1 (.bool false) := ⟨Try.underlying37, info_all (by kernel_rfl), rfl, by decide⟩
theorem ty43 : LeafTy Try.prog 43 := ⟨⟨_, Try.underlying43, rfl⟩, by kernel_rfl⟩
theorem sl43 : SliceTy Try.prog 43 50 4 48 (.agg #[(.int .i64 0), (.int .i64 0), (.int .i64 0), (.slice none 0 0)]) := ⟨Try.underlying43, info_all (by kernel_rfl), rfl, by decide⟩
theorem ty44 : LeafTy Try.prog 44 := ⟨⟨_, Try.underlying44, rfl⟩, by kernel_rfl⟩
theorem sl44 : SliceTy Try.prog 44 61 2 32 (.agg #[(.int .i64 0), (.slice none 0 0)]) := ⟨Try.underlying44, info_all (by kernel_rfl), rfl, by decide⟩
theorem ty46 : AggTy Try.prog 46 5 := ⟨⟨_, Try.underlying46, rfl⟩, by kernel_rfl⟩
theorem fa46_0 : FieldTy Try.prog 46 0 0 1 false := ⟨⟨_, _, Try.underlying46, rfl, rfl, by kernel_rfl, ⟨_, Try.underlying3, rfl⟩, by decide⟩⟩
theorem fa46_1 : FieldTy Try.prog 46 1 1 1 false := ⟨⟨_, _, Try.underlying46, rfl, rfl, by kernel_rfl, ⟨_, Try.underlying3, rfl⟩, by decide⟩⟩
theorem fa46_2 : FieldTy Try.prog 46 2 2 1 false := ⟨⟨_, _, Try.underlying46, rfl, rfl, by kernel_rfl, ⟨_, Try.underlying3, rfl⟩, by decide⟩⟩
theorem fa46_3 : FieldTy Try.prog 46 3 3 1 false := ⟨⟨_, _, Try.underlying46, rfl, rfl, by kernel_rfl, ⟨_, Try.underlying26, rfl⟩, by decide⟩⟩
theorem fa46_4 : FieldTy Try.prog 46 4 4 1 false := ⟨⟨_, _, Try.underlying46, rfl, rfl, by kernel_rfl, ⟨_, Try.underlying44, rfl⟩, by decide⟩⟩
def zs46 : List V := [(.raw (.int .i64 0)), (.raw (.int .i64 0)), (.raw (.int .i64 0)), (.raw (.slice none 0 0)), (.raw (.slice none 0 0))]
theorem st46 : StructTy Try.prog 46 [(0, 1), (1, 1), (2, 1), (3, 1), (4, 1)] zs46 := by
  obtain ⟨i, h1, h2⟩ : ∃ i, Try.prog.info? 46 = some i ∧ i.zero = some (.agg #[(.int .i64 0), (.int .i64 0), (.int .i64 0), (.slice none 0 0), (.slice none 0 0)]) := info_zero (by kernel_rfl)
  exact ⟨⟨_, i, _, Try.underlying46, h1, h2, by kernel_rfl, rfl⟩, rfl⟩
theorem zr46 : (Try.prog.info? 46).map (·.zero) = some (some (.agg #[(.int .i64 0), (.int .i64 0), (.int .i64 0), (.slice none 0 0), (.slice none 0 0)])) := by kernel_rfl
theorem ty48 : AggTy Try.prog 48 7 := ⟨⟨_, Try.underlying48, rfl⟩, by kernel_rfl⟩
theorem fa48_0 : FieldTy Try.prog 48 0 0 1 false := ⟨⟨_, _, Try.underlying48, rfl, rfl, by kernel_rfl, ⟨_, Try.underlying26, rfl⟩, by decide⟩⟩
theorem fa48_1 : FieldTy Try.prog 48 1 1 1 false := ⟨⟨_, _, Try.underlying48, rfl, rfl, by kernel_rfl, ⟨_, Try.underlying43, rfl⟩, by decide⟩⟩
theorem fa48_2 : FieldTy Try.prog 48 2 2 5 true := ⟨⟨_, _, Try.underlying48, rfl, rfl, by kernel_rfl, ⟨_, Try.underlying46, rfl⟩, by decide⟩⟩
def zs48 : List V := [(.raw (.slice none 0 0)), (.raw (.slice none 0 0)), (.raw (.int .i64 0)), (.raw (.int .i64 0)), (.raw (.int .i64 0)), (.raw (.slice none 0 0)), (.raw (.slice none 0 0))]
theorem st48 : StructTy Try.prog 48 [(0, 1), (1, 1), (2, 5)] zs48 := by
  obtain ⟨i, h1, h2⟩ : ∃ i, Try.prog.info? 48 = some i ∧ i.zero = some (.agg #[(.slice none 0 0), (.slice none 0 0), (.int .i64 0), (.int .i64 0), (.int .i64 0), (.slice none 0 0), (.slice none 0 0)]) := info_zero (by kernel_rfl)
  exact ⟨⟨_, i, _, Try.underlying48, h1, h2, by kernel_rfl, rfl⟩, rfl⟩
theorem zr48 : (Try.prog.info? 48).map (·.zero) = some (some (.agg #[(.slice none 0 0), (.slice none 0 0), (.int .i64 0), (.int .i64 0), (.int .i64 0), (.slice none 0 0), (.slice none 0 0)])) := by kernel_rfl
theorem ty50 : AggTy Try.prog 50 4 := ⟨⟨_, Try.underlying50, rfl⟩, by kernel_rfl⟩
theorem fa50_0 : FieldTy Try.prog 50 0 0 1 false := ⟨⟨_, _, Try.underlying50, rfl, rfl, by kernel_rfl, ⟨_, Try.underlying3, rfl⟩, by decide⟩⟩
theorem fa50_1 : FieldTy Try.prog 50 1 1 1 false := ⟨⟨_, _, Try.underlying50, rfl, rfl, by kernel_rfl, ⟨_, Try.underlying3, rfl⟩, by decide⟩⟩
theorem fa50_2 : FieldTy Try.prog 50 2 2 1 false := ⟨⟨_, _, Try.underlying50, rfl, rfl, by kernel_rfl, ⟨_, Try.underlying3, rfl⟩, by decide⟩⟩
theorem fa50_3 : FieldTy Try.prog 50 3 3 1 false := ⟨⟨_, _, Try.underlying50, rfl, rfl, by kernel_rfl, ⟨_, Try.underlying26, rfl⟩, by decide⟩⟩
def zs50 : List V := [(.raw (.int .i64 0)), (.raw (.int .i64 0)), (.raw (.int .i64 0)), (.raw (.slice none 0 0))]
theorem st50 : StructTy Try.prog 50 [(0, 1), (1, 1), (2, 1), (3, 1)] zs50 := by
  obtain ⟨i, h1, h2⟩ : ∃ i, Try.prog.info? 50 = some i ∧ i.zero = some (.agg #[(.int .i64 0), (.int .i64 0), (.int .i64 0), (.slice none 0 0)]) := info_zero (by kernel_rfl)
  exact ⟨⟨_, i, _, Try.underlying50, h1, h2, by kernel_rfl, rfl⟩, rfl⟩
theorem zr50 : (Try.prog.info? 50).map (·.zero) = some (some (.agg #[(.int .i64 0), (.int .i64 0), (.int .i64 0), (.slice none 0 0)])) := by kernel_rfl
theorem ty61 : AggTy Try.prog 61 2 := ⟨⟨_, Try.underlying61, rfl⟩, by kernel_rfl⟩
theorem fa61_0 : FieldTy Try.prog 61 0 0 1 false := ⟨⟨_, _, Try.underlying61, rfl, rfl, by kernel_rfl, ⟨_, Try.underlying3, rfl⟩, by decide⟩⟩
theorem fa61_1 : FieldTy Try.prog 61 1 1 1 false := ⟨⟨_, _, Try.underlying61, rfl, rfl, by kernel_rfl, ⟨_, Try.underlying26, rfl⟩, by decide⟩⟩
def zs61 : List V := [(.raw (.int .i64 0)), (.raw (.slice none 0 0))]
theorem st61 : StructTy Try.prog 61 [(0, 1), (1, 1)] zs61 := by
  obtain ⟨i, h1, h2⟩ : ∃ i, Try.prog.info? 61 = some i ∧ i.zero = some (.agg #[(.int .i64 0), (.slice none 0 0)]) := info_zero (by kernel_rfl)
  exact ⟨⟨_, i, _, Try.underlying61, h1, h2, by kernel_rfl, rfl⟩, rfl⟩
theorem zr61 : (Try.prog.info? 61).map (·.zero) = some (some (.agg #[(.int .i64 0), (.slice none 0 0)])) := by kernel_rfl
theorem ty71 : LeafTy Try.prog 71 := ⟨⟨_, Try.underlying71, rfl⟩, by kernel_rfl⟩
theorem ty72 : LeafTy Try.prog 72 := ⟨⟨_, Try.underlying72, rfl⟩, by kernel_rfl⟩
theorem fa74_0 : FieldTy Try.prog 74 0 0 2 true := ⟨⟨_, _, Try.underlying74, rfl, rfl, by kernel_rfl, ⟨_, Try.underlying36, rfl⟩, by decide⟩⟩
theorem fa74_1 : FieldTy Try.prog 74 1 2 1 false := ⟨⟨_, _, Try.underlying74, rfl, rfl, by kernel_rfl, ⟨_, Try.underlying72, rfl⟩, by decide⟩⟩
def zs74 : List V := [(.raw (.int .i64 0)), (.raw (.slice none 0 0)), (.raw (.map none))]
theorem st74 : StructTy Try.prog 74 [(0, 2), (2, 1)] zs74 := by
  obtain ⟨i, h1, h2⟩ : ∃ i, Try.prog.info? 74 = some i ∧ i.zero = some (.agg #[(.int .i64 0), (.slice none 0 0), (.map none)]) := info_zero (by kernel_rfl)
  exact ⟨⟨_, i, _, Try.underlying74, h1, h2, by kernel_rfl, rfl⟩, rfl⟩
theorem ty78 : LeafTy Try.prog 78 := ⟨⟨_, Try.underlying78, rfl⟩, by kernel_rfl⟩
theorem sl78 : SliceTy Try.prog 78 99 1 8 (.pointer none) := ⟨Try.underlying78, info_all (by kernel_rfl), rfl, by decide⟩
theorem fa80_0 : FieldTy Try.prog 80 0 0 2 true := ⟨⟨_, _, Try.underlying80, rfl, rfl, by kernel_rfl, ⟨_, Try.underlying24, rfl⟩, by decide⟩⟩
theorem fa80_1 : FieldTy Try.prog 80 1 2 1 false := ⟨⟨_, _, Try.underlying80, rfl, rfl, by kernel_rfl, ⟨_, Try.underlying78, rfl⟩, by decide⟩⟩
theorem fa80_2 : FieldTy Try.prog 80 2 3 1 false := ⟨⟨_, _, Try.underlying80, rfl, rfl, by kernel_rfl, ⟨_, Try.underlying3, rfl⟩, by decide⟩⟩
theorem fa80_3 : FieldTy Try.prog 80 3 4 1 false := ⟨⟨_, _, Try.underlying80, rfl, rfl, by kernel_rfl, ⟨_, Try.underlying4, rfl⟩, by decide⟩⟩
theorem fa80_4 : FieldTy Try.prog 80 4 5 1 false := ⟨⟨_, _, Try.underlying80, rfl, rfl, by kernel_rfl, ⟨_, Try.underlying4, rfl⟩, by decide⟩⟩
theorem fa80_5 : FieldTy Try.prog 80 5 6 3 true := ⟨⟨_, _, Try.underlying80, rfl, rfl, by kernel_rfl, ⟨_, Try.underlying28, rfl⟩, by decide⟩⟩
def zs80 : List V := [(.raw (.slice none 0 0)), (.raw (.int .i64 0)), (.raw (.slice none 0 0)), (.raw (.int .i64 0)), (.raw (.bool false)), (.raw (.bool false)), (.raw (.slice none 0 0)), (.raw (.int .i64 0)), (.raw (.int .i64 0))]
theorem st80 : StructTy Try.prog 80 [(0, 2), (2, 1), (3, 1), (4, 1), (5, 1), (6, 3)] zs80 := by
  obtain ⟨i, h1, h2⟩ : ∃ i, Try.prog.info? 80 = some i ∧ i.zero = some (.agg #[(.slice none 0 0), (.int .i64 0), (.slice none 0 0), (.int .i64 0), (.bool false), (.bool false), (.slice none 0 0), (.int .i64 0), (.int .i64 0)]) := info_zero (by kernel_rfl)
  exact ⟨⟨_, i, _, Try.underlying80, h1, h2, by kernel_rfl, rfl⟩, rfl⟩
theorem ty87 : AggTy Try.prog 87 2 := ⟨⟨_, Try.underlying87, rfl⟩, by kernel_rfl⟩
theorem fa87_0 : FieldTy Try.prog 87 0 0 1 false := ⟨⟨_, _, Try.underlying87, rfl, rfl, by kernel_rfl, ⟨_, Try.underlying3, rfl⟩, by decide⟩⟩
theorem fa87_1 : FieldTy Try.prog 87 1 1 1 false := ⟨⟨_, _, Try.underlying87, rfl, rfl, by kernel_rfl, ⟨_, Try.underlying3, rfl⟩, by decide⟩⟩
def zs87 : List V := [(.raw (.int .i64 0)), (.raw (.int .i64 0))]
theorem st87 : StructTy Try.prog 87 [(0, 1), (1, 1)] zs87 := by
  obtain ⟨i, h1, h2⟩ : ∃ i, Try.prog.info? 87 = some i ∧ i.zero = some (.agg #[(.int .i64 0), (.int .i64 0)]) := info_zero (by kernel_rfl)
  exact ⟨⟨_, i, _, Try.underlying87, h1, h2, by kernel_rfl, rfl⟩, rfl⟩
theorem zr87 : (Try.prog.info? 87).map (·.zero) = some (some (.agg #[(.int .i64 0), (.int .i64 0)])) := by kernel_rfl
theorem ty90 : LeafTy Try.prog 90 := ⟨⟨_, Try.underlying90, rfl⟩, by kernel_rfl⟩
theorem zr90 : (Try.prog.info? 90).map (·.zero) = some (some (.slice none 0 0)) := by kernel_rfl
theorem sl90 : SliceTy Try.prog 90 93 2 16 (.agg #[(.int .u64 0), (.int .u64 0)]) := ⟨Try.underlying90, info_all (by kernel_rfl), rfl, by decide⟩
theorem ty91 : LeafTy Try.prog 91 := ⟨⟨_, Try.underlying91, rfl⟩, by kernel_rfl⟩
theorem ty93 : AggTy Try.prog 93 2 := ⟨⟨_, Try.underlying93, rfl⟩, by kernel_rfl⟩
def zs93 : List V := [(.raw (.int .u64 0)), (.raw (.int .u64 0))]
theorem at93 : ArrTy Try.prog 93 2 91 1 zs93 := arr_ty (cs := [.int .u64 0, .int .u64 0]) Try.underlying93 (by kernel_rfl) (by kernel_rfl) rfl rfl
theorem se93 : (Try.prog.info? 91).map (·.size) = some 1 := by kernel_rfl
theorem zr93 : (Try.prog.info? 93).map (·.zero) = some (some (.agg #[(.int .u64 0), (.int .u64 0)])) := by kernel_rfl
theorem ty98 : LeafTy Try.prog 98 := ⟨⟨_, Try.underlying98, rfl⟩, by kernel_rfl⟩
theorem zr98 : (Try.prog.info? 98).map (·.zero) = some (some (.slice none 0 0)) := by kernel_rfl
theorem sl98 : SliceTy Try.prog 98 105 4 48 (.agg #[(.int .i64 0), (.int .i64 0), (.slice none 0 0), (.pointer none)]) := ⟨Try.underlying98, info_all (by kernel_rfl), rfl, by decide⟩
theorem ty99 : LeafTy Try.prog 99 := ⟨⟨_, Try.underlying99, rfl⟩, by kernel_rfl⟩
theorem ty100 : LeafTy Try.prog 100 := ⟨⟨_, Try.underlying100, rfl⟩, by kernel_rfl⟩
theorem fa102_0 : FieldTy Try.prog 102 0 0 1 false := ⟨⟨_, _, Try.underlying102, rfl, rfl, by kernel_rfl, ⟨_, Try.underlying3, rfl⟩, by decide⟩⟩
theorem fa102_1 : FieldTy Try.prog 102 1 1 1 false := ⟨⟨_, _, Try.underlying102, rfl, rfl, by kernel_rfl, ⟨_, Try.underlying3, rfl⟩, by decide⟩⟩
theorem fa102_2 : FieldTy Try.prog 102 2 2 1 false := ⟨⟨_, _, Try.underlying102, rfl, rfl, by kernel_rfl, ⟨_, Try.underlying3, rfl⟩, by decide⟩⟩
theorem fa102_3 : FieldTy Try.prog 102 3 3 1 false := ⟨⟨_, _, Try.underlying102, rfl, rfl, by kernel_rfl, ⟨_, Try.underlying3, rfl⟩, by decide⟩⟩
theorem fa102_4 : FieldTy Try.prog 102 4 4 1 false := ⟨⟨_, _, Try.underlying102, rfl, rfl, by kernel_rfl, ⟨_, Try.underlying100, rfl⟩, by decide⟩⟩
def zs102 : List V := [(.raw (.int .i64 0)), (.raw (.int .i64 0)), (.raw (.int .i64 0)), (.raw (.int .i64 0)), (.raw (.map none))]
theorem st102 : StructTy Try.prog 102 [(0, 1), (1, 1), (2, 1), (3, 1), (4, 1)] zs102 := by
  obtain ⟨i, h1, h2⟩ : ∃ i, Try.prog.info? 102 = some i ∧ i.zero = some (.agg #[(.int .i64 0), (.int .i64 0), (.int .i64 0), (.int .i64 0), (.map none)]) := info_zero (by kernel_rfl)
  exact ⟨⟨_, i, _, Try.underlying102, h1, h2, by kernel_rfl, rfl⟩, rfl⟩
theorem ty103 : LeafTy Try.prog 103 := ⟨⟨_, Try.underlying103, rfl⟩, by kernel_rfl⟩
theorem ty105 : AggTy Try.prog 105 4 := ⟨⟨_, Try.underlying105, rfl⟩, by kernel_rfl⟩
theorem fa105_0 : FieldTy Try.prog 105 0 0 1 false := ⟨⟨_, _, Try.underlying105, rfl, rfl, by kernel_rfl, ⟨_, Try.underlying3, rfl⟩, by decide⟩⟩
theorem fa105_1 : FieldTy Try.prog 105 1 1 1 false := ⟨⟨_, _, Try.underlying105, rfl, rfl, by kernel_rfl, ⟨_, Try.underlying3, rfl⟩, by decide⟩⟩
theorem fa105_2 : FieldTy Try.prog 105 2 2 1 false := ⟨⟨_, _, Try.underlying105, rfl, rfl, by kernel_rfl, ⟨_, Try.underlying98, rfl⟩, by decide⟩⟩
theorem fa105_3 : FieldTy Try.prog 105 3 3 1 false := ⟨⟨_, _, Try.underlying105, rfl, rfl, by kernel_rfl, ⟨_, Try.underlying103, rfl⟩, by decide⟩⟩
def zs105 : List V := [(.raw (.int .i64 0)), (.raw (.int .i64 0)), (.raw (.slice none 0 0)), (.raw (.pointer none))]
theorem st105 : StructTy Try.prog 105 [(0, 1), (1, 1), (2, 1), (3, 1)] zs105 := by
  obtain ⟨i, h1, h2⟩ : ∃ i, Try.prog.info? 105 = some i ∧ i.zero = some (.agg #[(.int .i64 0), (.int .i64 0), (.slice none 0 0), (.pointer none)]) := info_zero (by kernel_rfl)
  exact ⟨⟨_, i, _, Try.underlying105, h1, h2, by kernel_rfl, rfl⟩, rfl⟩
theorem zr105 : (Try.prog.info? 105).map (·.zero) = some (some (.agg #[(.int .i64 0), (.int .i64 0), (.slice none 0 0), (.pointer none)])) := by kernel_rfl
theorem fa112_0 : FieldTy Try.prog 112 0 0 1 false := ⟨⟨_, _, Try.underlying112, rfl, rfl, by kernel_rfl, ⟨_, Try.underlying3, rfl⟩, by decide⟩⟩
theorem fa112_1 : FieldTy Try.prog 112 1 1 1 false := ⟨⟨_, _, Try.underlying112, rfl, rfl, by kernel_rfl, ⟨_, Try.underlying3, rfl⟩, by decide⟩⟩
def zs112 : List V := [(.raw (.int .i64 0)), (.raw (.int .i64 0))]
theorem st112 : StructTy Try.prog 112 [(0, 1), (1, 1)] zs112 := by
  obtain ⟨i, h1, h2⟩ : ∃ i, Try.prog.info? 112 = some i ∧ i.zero = some (.agg #[(.int .i64 0), (.int .i64 0)]) := info_zero (by kernel_rfl)
  exact ⟨⟨_, i, _, Try.underlying112, h1, h2, by kernel_rfl, rfl⟩, rfl⟩
theorem sl113 : SliceTy Try.prog 113 112 2 16 (.agg #[(.int .i64 0), (.int .i64 0)]) := ⟨Try.underlying113, info_all (by kernel_rfl), rfl, by decide⟩
theorem en4 : Enters Try.prog 4 := ⟨⟨_, Try.func4, by kernel_rfl, by kernel_rfl⟩⟩
theorem en5 : Enters Try.prog 5 := ⟨⟨_, Try.func5, by kernel_rfl, by kernel_rfl⟩⟩
theorem en6 : Enters Try.prog 6 := ⟨⟨_, Try.func6, by kernel_rfl, by kernel_rfl⟩⟩
theorem en7 : Enters Try.prog 7 := ⟨⟨_, Try.func7, by kernel_rfl, by kernel_rfl⟩⟩
theorem en8 : Enters Try.prog 8 := ⟨⟨_, Try.func8, by kernel_rfl, by kernel_rfl⟩⟩
theorem en9 : Enters Try.prog 9 := ⟨⟨_, Try.func9, by kernel_rfl, by kernel_rfl⟩⟩
theorem en10 : Enters Try.prog 10 := ⟨⟨_, Try.func10, by kernel_rfl, by kernel_rfl⟩⟩
theorem en11 : Enters Try.prog 11 := ⟨⟨_, Try.func11, by kernel_rfl, by kernel_rfl⟩⟩
theorem en12 : Enters Try.prog 12 := ⟨⟨_, Try.func12, by kernel_rfl, by kernel_rfl⟩⟩
theorem en13 : Enters Try.prog 13 := ⟨⟨_, Try.func13, by kernel_rfl, by kernel_rfl⟩⟩
theorem en14 : Enters Try.prog 14 := ⟨⟨_, Try.func14, by kernel_rfl, by kernel_rfl⟩⟩
theorem en15 : Enters Try.prog 15 := ⟨⟨_, Try.func15, by kernel_rfl, by kernel_rfl⟩⟩
theorem en16 : Enters Try.prog 16 := ⟨⟨_, Try.func16, by kernel_rfl, by kernel_rfl⟩⟩
theorem en17 : Enters Try.prog 17 := ⟨⟨_, Try.func17, by kernel_rfl, by kernel_rfl⟩⟩
theorem en18 : Enters Try.prog 18 := ⟨⟨_, Try.func18, by kernel_rfl, by kernel_rfl⟩⟩
theorem en19 : Enters Try.prog 19 := ⟨⟨_, Try.func19, by kernel_rfl, by kernel_rfl⟩⟩
theorem en20 : Enters Try.prog 20 := ⟨⟨_, Try.func20, by kernel_rfl, by kernel_rfl⟩⟩
theorem en21 : Enters Try.prog 21 := ⟨⟨_, Try.func21, by kernel_rfl, by kernel_rfl⟩⟩
theorem en22 : Enters Try.prog 22 := ⟨⟨_, Try.func22, by kernel_rfl, by kernel_rfl⟩⟩
theorem en23 : Enters Try.prog 23 := ⟨⟨_, Try.func23, by kernel_rfl, by kernel_rfl⟩⟩
theorem en24 : Enters Try.prog 24 := ⟨⟨_, Try.func24, by kernel_rfl, by kernel_rfl⟩⟩
theorem en25 : Enters Try.prog 25 := ⟨⟨_, Try.func25, by kernel_rfl, by kernel_rfl⟩⟩
theorem en26 : Enters Try.prog 26 := ⟨⟨_, Try.func26, by kernel_rfl, by kernel_rfl⟩⟩
theorem en27 : Enters Try.prog 27 := ⟨⟨_, Try.func27, by kernel_rfl, by kernel_rfl⟩⟩
theorem en28 : Enters Try.prog 28 := ⟨⟨_, Try.func28, by kernel_rfl, by kernel_rfl⟩⟩
theorem en29 : Enters Try.prog 29 := ⟨⟨_, Try.func29, by kernel_rfl, by kernel_rfl⟩⟩
theorem en30 : Enters Try.prog 30 := ⟨⟨_, Try.func30, by kernel_rfl, by kernel_rfl⟩⟩
theorem en31 : Enters Try.prog 31 := ⟨⟨_, Try.func31, by kernel_rfl, by kernel_rfl⟩⟩
theorem en32 : Enters Try.prog 32 := ⟨⟨_, Try.func32, by kernel_rfl, by kernel_rfl⟩⟩
theorem en33 : Enters Try.prog 33 := ⟨⟨_, Try.func33, by kernel_rfl, by kernel_rfl⟩⟩
theorem en34 : Enters Try.prog 34 := ⟨⟨_, Try.func34, by kernel_rfl, by kernel_rfl⟩⟩
theorem en35 : Enters Try.prog 35 := ⟨⟨_, Try.func35, by kernel_rfl, by kernel_rfl⟩⟩
theorem en38 : Enters Try.prog 38 := ⟨⟨_, Try.func38, by kernel_rfl, by kernel_rfl⟩⟩
theorem en39 : Enters Try.prog 39 := ⟨⟨_, Try.func39, by kernel_rfl, by kernel_rfl⟩⟩
theorem en40 : Enters Try.prog 40 := ⟨⟨_, Try.func40, by kernel_rfl, by kernel_rfl⟩⟩
theorem en41 : Enters Try.prog 41 := ⟨⟨_, Try.func41, by kernel_rfl, by kernel_rfl⟩⟩
theorem en42 : Enters Try.prog 42 := ⟨⟨_, Try.func42, by kernel_rfl, by kernel_rfl⟩⟩
theorem en43 : Enters Try.prog 43 := ⟨⟨_, Try.func43, by kernel_rfl, by kernel_rfl⟩⟩
theorem en44 : Enters Try.prog 44 := ⟨⟨_, Try.func44, by kernel_rfl, by kernel_rfl⟩⟩
theorem en45 : Enters Try.prog 45 := ⟨⟨_, Try.func45, by kernel_rfl, by kernel_rfl⟩⟩
theorem en46 : Enters Try.prog 46 := ⟨⟨_, Try.func46, by kernel_rfl, by kernel_rfl⟩⟩
theorem en47 : Enters Try.prog 47 := ⟨⟨_, Try.func47, by kernel_rfl, by kernel_rfl⟩⟩
theorem en48 : Enters Try.prog 48 := ⟨⟨_, Try.func48, by kernel_rfl, by kernel_rfl⟩⟩
theorem en60 : Enters Try.prog 60 := ⟨⟨_, Try.func60, by kernel_rfl, by kernel_rfl⟩⟩
theorem en61 : Enters Try.prog 61 := ⟨⟨_, Try.func61, by kernel_rfl, by kernel_rfl⟩⟩
theorem en62 : Enters Try.prog 62 := ⟨⟨_, Try.func62, by kernel_rfl, by kernel_rfl⟩⟩
theorem en63 : Enters Try.prog 63 := ⟨⟨_, Try.func63, by kernel_rfl, by kernel_rfl⟩⟩
theorem en64 : Enters Try.prog 64 := ⟨⟨_, Try.func64, by kernel_rfl, by kernel_rfl⟩⟩
theorem en65 : Enters Try.prog 65 := ⟨⟨_, Try.func65, by kernel_rfl, by kernel_rfl⟩⟩
theorem en66 : Enters Try.prog 66 := ⟨⟨_, Try.func66, by kernel_rfl, by kernel_rfl⟩⟩
theorem en67 : Enters Try.prog 67 := ⟨⟨_, Try.func67, by kernel_rfl, by kernel_rfl⟩⟩
theorem en68 : Enters Try.prog 68 := ⟨⟨_, Try.func68, by kernel_rfl, by kernel_rfl⟩⟩
theorem en69 : Enters Try.prog 69 := ⟨⟨_, Try.func69, by kernel_rfl, by kernel_rfl⟩⟩
theorem en70 : Enters Try.prog 70 := ⟨⟨_, Try.func70, by kernel_rfl, by kernel_rfl⟩⟩
theorem en71 : Enters Try.prog 71 := ⟨⟨_, Try.func71, by kernel_rfl, by kernel_rfl⟩⟩
theorem en72 : Enters Try.prog 72 := ⟨⟨_, Try.func72, by kernel_rfl, by kernel_rfl⟩⟩
theorem en73 : Enters Try.prog 73 := ⟨⟨_, Try.func73, by kernel_rfl, by kernel_rfl⟩⟩
theorem en74 : Enters Try.prog 74 := ⟨⟨_, Try.func74, by kernel_rfl, by kernel_rfl⟩⟩
theorem en75 : Enters Try.prog 75 := ⟨⟨_, Try.func75, by kernel_rfl, by kernel_rfl⟩⟩
theorem en82 : Enters Try.prog 82 := ⟨⟨_, Try.func82, by kernel_rfl, by kernel_rfl⟩⟩
theorem en83 : Enters Try.prog 83 := ⟨⟨_, Try.func83, by kernel_rfl, by kernel_rfl⟩⟩
theorem en84 : Enters Try.prog 84 := ⟨⟨_, Try.func84, by kernel_rfl, by kernel_rfl⟩⟩
theorem en85 : Enters Try.prog 85 := ⟨⟨_, Try.func85, by kernel_rfl, by kernel_rfl⟩⟩
theorem en86 : Enters Try.prog 86 := ⟨⟨_, Try.func86, by kernel_rfl, by kernel_rfl⟩⟩
theorem en87 : Enters Try.prog 87 := ⟨⟨_, Try.func87, by kernel_rfl, by kernel_rfl⟩⟩
theorem en88 : Enters Try.prog 88 := ⟨⟨_, Try.func88, by kernel_rfl, by kernel_rfl⟩⟩
theorem en89 : Enters Try.prog 89 := ⟨⟨_, Try.func89, by kernel_rfl, by kernel_rfl⟩⟩
theorem en91 : Enters Try.prog 91 := ⟨⟨_, Try.func91, by kernel_rfl, by kernel_rfl⟩⟩
theorem mix : Try.prog.follows .mixedOrders = true := by kernel_rfl
end Go.Proofs.Ytjekhhgjfelpgaa.VT
