import Derived.Test.YtimmnbdajflgmaaVC
import Derived.Test.YtimmnbdajflgmaaProg
set_option linter.unusedVariables false
namespace Go.Proofs.Ytimmnbdajflgmaa.VT
open Go.VL
theorem ty1 : LeafTy Try.prog 1 := ⟨⟨_, Try.underlying1, rfl⟩, by kernel_rfl⟩
theorem ty2 : LeafTy Try.prog 2 := ⟨⟨_, Try.underlying2, rfl⟩, by kernel_rfl⟩
theorem ty3 : LeafTy Try.prog 3 := ⟨⟨_, Try.underlying3, rfl⟩, by kernel_rfl⟩
theorem zr3 : (Try.prog.info? 3).map (·.zero) = some (some (.int .i64 0)) := by kernel_rfl
theorem ty4 : LeafTy Try.prog 4 := ⟨⟨_, Try.underlying4, rfl⟩, by kernel_rfl⟩
theorem ty22 : LeafTy Try.prog 22 := ⟨⟨_, Try.underlying22, rfl⟩, by kernel_rfl⟩
theorem sl22 : SliceTy Try.prog 22 61 7 120 (.agg #[(.slice none 0 0), (.slice none 0 0), (.int .i64 0), (.int .i64 0), (.int .i64 0), (.slice none 0 0), (.slice none 0 0)]) := ⟨Try.underlying22, info_all (by kernel_rfl), rfl, by decide⟩
theorem ty24 : AggTy Try.prog 24 2 := ⟨⟨_, Try.underlying24, rfl⟩, by kernel_rfl⟩
theorem fa24_0 : FieldTy Try.prog 24 0 0 1 false := ⟨⟨_, _, Try.underlying24, rfl, rfl, by kernel_rfl, ⟨_, Try.underlying3, rfl⟩, by decide⟩⟩
theorem fa24_1 : FieldTy Try.prog 24 1 1 1 false := ⟨⟨_, _, Try.underlying24, rfl, rfl, by kernel_rfl, ⟨_, Try.underlying22, rfl⟩, by decide⟩⟩
def zs24 : List V := [(.raw (.int .i64 0)), (.raw (.slice none 0 0))]
theorem st24 : StructTy Try.prog 24 [(0, 1), (1, 1)] zs24 := by
  obtain ⟨i, h1, h2⟩ : ∃ i, Try.prog.info? 24 = some i ∧ i.zero = some (.agg #[(.int .i64 0), (.slice none 0 0)]) := info_zero (by kernel_rfl)
  exact ⟨⟨_, i, _, Try.underlying24, h1, h2, by kernel_rfl, rfl⟩, rfl⟩
theorem zr24 : (Try.prog.info? 24).map (·.zero) = some (some (.agg #[(.int .i64 0), (.slice none 0 0)])) := by kernel_rfl
theorem ty33 : LeafTy Try.prog 33 := ⟨⟨_, Try.underlying33, rfl⟩, by kernel_rfl⟩
theorem sl33 : SliceTy Try.prog 33 24 2 32 (.agg #[(.int .i64 0), (.slice none 0 0)]) := ⟨Try.underlying33, info_all (by kernel_rfl), rfl, by decide⟩
theorem ty35 : AggTy Try.prog 35 2 := ⟨⟨_, Try.underlying35, rfl⟩, by kernel_rfl⟩
theorem fa35_0 : FieldTy Try.prog 35 0 0 1 false := ⟨⟨_, _, Try.underlying35, rfl, rfl, by kernel_rfl, ⟨_, Try.underlying33, rfl⟩, by decide⟩⟩
theorem fa35_1 : FieldTy Try.prog 35 1 1 1 false := ⟨⟨_, _, Try.underlying35, rfl, rfl, by kernel_rfl, ⟨_, Try.underlying3, rfl⟩, by decide⟩⟩
def zs35 : List V := [(.raw (.slice none 0 0)), (.raw (.int .i64 0))]
theorem st35 : StructTy Try.prog 35 [(0, 1), (1, 1)] zs35 := by
  obtain ⟨i, h1, h2⟩ : ∃ i, Try.prog.info? 35 = some i ∧ i.zero = some (.agg #[(.slice none 0 0), (.int .i64 0)]) := info_zero (by kernel_rfl)
  exact ⟨⟨_, i, _, Try.underlying35, h1, h2, by kernel_rfl, rfl⟩, rfl⟩
theorem zr35 : (Try.prog.info? 35).map (·.zero) = some (some (.agg #[(.slice none 0 0), (.int .i64 0)])) := by kernel_rfl
theorem ty36 : LeafTy Try.prog 36 := ⟨⟨_, Try.underlying36, rfl⟩, by kernel_rfl⟩
theorem zr36 : (Try.prog.info? 36).map (·.zero) = some (some (.slice none 0 0)) := by kernel_rfl
theorem sl36 : SliceTy Try.prog 36 3 1 8 (.int .i64 0) := ⟨Try.underlying36, info_all (by kernel_rfl), rfl, by decide⟩
theorem ty38 : AggTy Try.prog 38 3 := ⟨⟨_, Try.underlying38, rfl⟩, by kernel_rfl⟩
theorem fa38_0 : FieldTy Try.prog 38 0 0 1 false := ⟨⟨_, _, Try.underlying38, rfl, rfl, by kernel_rfl, ⟨_, Try.underlying36, rfl⟩, by decide⟩⟩
theorem fa38_1 : FieldTy Try.prog 38 1 1 1 false := ⟨⟨_, _, Try.underlying38, rfl, rfl, by kernel_rfl, ⟨_, Try.underlying3, rfl⟩, by decide⟩⟩
theorem fa38_2 : FieldTy Try.prog 38 2 2 1 false := ⟨⟨_, _, Try.underlying38, rfl, rfl, by kernel_rfl, ⟨_, Try.underlying3, rfl⟩, by decide⟩⟩
def zs38 : List V := [(.raw (.slice none 0 0)), (.raw (.int .i64 0)), (.raw (.int .i64 0))]
theorem st38 : StructTy Try.prog 38 [(0, 1), (1, 1), (2, 1)] zs38 := by
  obtain ⟨i, h1, h2⟩ : ∃ i, Try.prog.info? 38 = some i ∧ i.zero = some (.agg #[(.slice none 0 0), (.int .i64 0), (.int .i64 0)]) := info_zero (by kernel_rfl)
  exact ⟨⟨_, i, _, Try.underlying38, h1, h2, by kernel_rfl, rfl⟩, rfl⟩
theorem zr38 : (Try.prog.info? 38).map (·.zero) = some (some (.agg #[(.slice none 0 0), (.int .i64 0), (.int .i64 0)])) := by kernel_rfl
theorem sl48 : SliceTy Try.prog 48 36 1 24 (.slice none 0 0) := ⟨Try.underlying48, info_all (by kernel_rfl), rfl, by decide⟩
theorem ty56 : LeafTy Try.prog 56 := ⟨⟨_, Try.underlying56, rfl⟩, by kernel_rfl⟩
theorem sl56 : SliceTy Try.prog 56 63 2 32 (.agg #[(.int .i64 0), (.slice none 0 0)]) := ⟨Try.underlying56, info_all (by kernel_rfl), rfl, by decide⟩
theorem ty58 : AggTy Try.prog 58 5 := ⟨⟨_, Try.underlying58, rfl⟩, by kernel_rfl⟩
theorem fa58_0 : FieldTy Try.prog 58 0 0 1 false := ⟨⟨_, _, Try.underlying58, rfl, rfl, by kernel_rfl, ⟨_, Try.underlying3, rfl⟩, by decide⟩⟩
theorem fa58_1 : FieldTy Try.prog 58 1 1 1 false := ⟨⟨_, _, Try.underlying58, rfl, rfl, by kernel_rfl, ⟨_, Try.underlying3, rfl⟩, by decide⟩⟩
theorem fa58_2 : FieldTy Try.prog 58 2 2 1 false := ⟨⟨_, _, Try.underlying58, rfl, rfl, by kernel_rfl, ⟨_, Try.underlying3, rfl⟩, by decide⟩⟩
theorem fa58_3 : FieldTy Try.prog 58 3 3 1 false := ⟨⟨_, _, Try.underlying58, rfl, rfl, by kernel_rfl, ⟨_, Try.underlying36, rfl⟩, by decide⟩⟩
theorem fa58_4 : FieldTy Try.prog 58 4 4 1 false := ⟨⟨_, _, Try.underlying58, rfl, rfl, by kernel_rfl, ⟨_, Try.underlying56, rfl⟩, by decide⟩⟩
def zs58 : List V := [(.raw (.int .i64 0)), (.raw (.int .i64 0)), (.raw (.int .i64 0)), (.raw (.slice none 0 0)), (.raw (.slice none 0 0))]
theorem st58 : StructTy Try.prog 58 [(0, 1), (1, 1), (2, 1), (3, 1), (4, 1)] zs58 := by
  obtain ⟨i, h1, h2⟩ : ∃ i, Try.prog.info? 58 = some i ∧ i.zero = some (.agg #[(.int .i64 0), (.int .i64 0), (.int .i64 0), (.slice none 0 0), (.slice none 0 0)]) := info_zero (by kernel_rfl)
  exact ⟨⟨_, i, _, Try.underlying58, h1, h2, by kernel_rfl, rfl⟩, rfl⟩
theorem zr58 : (Try.prog.info? 58).map (·.zero) = some (some (.agg #[(.int .i64 0), (.int .i64 0), (.int .i64 0), (.slice none 0 0), (.slice none 0 0)])) := by kernel_rfl
theorem ty59 : LeafTy Try.prog 59 := ⟨⟨_, Try.underlying59, rfl⟩, by kernel_rfl⟩
theorem sl59 : SliceTy Try.prog 59 83 4 48 (.agg #[(.int .i64 0), (.int .i64 0), (.int .i64 0), (.slice none 0 0)]) := ⟨Try.underlying59, info_all (by kernel_rfl), rfl, by decide⟩
theorem ty61 : AggTy Try.prog 61 7 := ⟨⟨_, Try.underlying61, rfl⟩, by kernel_rfl⟩
theorem fa61_0 : FieldTy Try.prog 61 0 0 1 false := ⟨⟨_, _, Try.underlying61, rfl, rfl, by kernel_rfl, ⟨_, Try.underlying36, rfl⟩, by decide⟩⟩
theorem fa61_1 : FieldTy Try.prog 61 1 1 1 false := ⟨⟨_, _, Try.underlying61, rfl, rfl, by kernel_rfl, ⟨_, Try.underlying59, rfl⟩, by decide⟩⟩
theorem fa61_2 : FieldTy Try.prog 61 2 2 5 true := ⟨⟨_, _, Try.underlying61, rfl, rfl, by kernel_rfl, ⟨_, Try.underlying58, rfl⟩, by decide⟩⟩
def zs61 : List V := [(.raw (.slice none 0 0)), (.raw (.slice none 0 0)), (.raw (.int .i64 0)), (.raw (.int .i64 0)), (.raw (.int .i64 0)), (.raw (.slice none 0 0)), (.raw (.slice none 0 0))]
theorem st61 : StructTy Try.prog 61 [(0, 1), (1, 1), (2, 5)] zs61 := by
  obtain ⟨i, h1, h2⟩ : ∃ i, Try.prog.info? 61 = some i ∧ i.zero = some (.agg #[(.slice none 0 0), (.slice none 0 0), (.int .i64 0), (.int .i64 0), (.int .i64 0), (.slice none 0 0), (.slice none 0 0)]) := info_zero (by kernel_rfl)
  exact ⟨⟨_, i, _, Try.underlying61, h1, h2, by kernel_rfl, rfl⟩, rfl⟩
theorem zr61 : (Try.prog.info? 61).map (·.zero) = some (some (.agg #[(.slice none 0 0), (.slice none 0 0), (.int .i64 0), (.int .i64 0), (.int .i64 0), (.slice none 0 0), (.slice none 0 0)])) := by kernel_rfl
theorem ty63 : AggTy Try.prog 63 2 := ⟨⟨_, Try.underlying63, rfl⟩, by kernel_rfl⟩
theorem fa63_0 : FieldTy Try.prog 63 0 0 1 false := ⟨⟨_, _, Try.underlying63, rfl, rfl, by kernel_rfl, ⟨_, Try.underlying3, rfl⟩, by decide⟩⟩
theorem fa63_1 : FieldTy Try.prog 63 1 1 1 false := ⟨⟨_, _, Try.underlying63, rfl, rfl, by kernel_rfl, ⟨_, Try.underlying36, rfl⟩, by decide⟩⟩
def zs63 : List V := [(.raw (.int .i64 0)), (.raw (.slice none 0 0))]
theorem st63 : StructTy Try.prog 63 [(0, 1), (1, 1)] zs63 := by
  obtain ⟨i, h1, h2⟩ : ∃ i, Try.prog.info? 63 = some i ∧ i.zero = some (.agg #[(.int .i64 0), (.slice none 0 0)]) := info_zero (by kernel_rfl)
  exact ⟨⟨_, i, _, Try.underlying63, h1, h2, by kernel_rfl, rfl⟩, rfl⟩
theorem zr63 : (Try.prog.info? 63).map (·.zero) = some (some (.agg #[(.int .i64 0), (.slice none 0 0)])) := by kernel_rfl
theorem ty65 : AggTy Try.prog 65 2 := ⟨⟨_, Try.underlying65, rfl⟩, by kernel_rfl⟩
theorem fa65_0 : FieldTy Try.prog 65 0 0 1 false := ⟨⟨_, _, Try.underlying65, rfl, rfl, by kernel_rfl, ⟨_, Try.underlying36, rfl⟩, by decide⟩⟩
theorem fa65_1 : FieldTy Try.prog 65 1 1 1 false := ⟨⟨_, _, Try.underlying65, rfl, rfl, by kernel_rfl, ⟨_, Try.underlying36, rfl⟩, by decide⟩⟩
def zs65 : List V := [(.raw (.slice none 0 0)), (.raw (.slice none 0 0))]
theorem st65 : StructTy Try.prog 65 [(0, 1), (1, 1)] zs65 := by
  obtain ⟨i, h1, h2⟩ : ∃ i, Try.prog.info? 65 = some i ∧ i.zero = some (.agg #[(.slice none 0 0), (.slice none 0 0)]) := info_zero (by kernel_rfl)
  exact ⟨⟨_, i, _, Try.underlying65, h1, h2, by kernel_rfl, rfl⟩, rfl⟩
theorem zr65 : (Try.prog.info? 65).map (·.zero) = some (some (.agg #[(.slice none 0 0), (.slice none 0 0)])) := by kernel_rfl
theorem sl79 : SliceTy Try.prog 79 4 1 1 (.bool false) := ⟨Try.underlying79, info_all (by kernel_rfl), rfl, by decide⟩
theorem ty83 : AggTy Try.prog 83 4 := ⟨⟨_, Try.underlying83, rfl⟩, by kernel_rfl⟩
theorem fa83_0 : FieldTy Try.prog 83 0 0 1 false := ⟨⟨_, _, Try.underlying83, rfl, rfl, by kernel_rfl, ⟨_, Try.underlying3, rfl⟩, by decide⟩⟩
theorem fa83_1 : FieldTy Try.prog 83 1 1 1 false := ⟨⟨_, _, Try.underlying83, rfl, rfl, by kernel_rfl, ⟨_, Try.underlying3, rfl⟩, by decide⟩⟩
theorem fa83_2 : FieldTy Try.prog 83 2 2 1 false := ⟨⟨_, _, Try.underlying83, rfl, rfl, by kernel_rfl, ⟨_, Try.underlying3, rfl⟩, by decide⟩⟩
theorem fa83_3 : FieldTy Try.prog 83 3 3 1 false := ⟨⟨_, _, Try.underlying83, rfl, rfl, by kernel_rfl, ⟨_, Try.underlying36, rfl⟩, by decide⟩⟩
def zs83 : List V := [(.raw (.int .i64 0)), (.raw (.int .i64 0)), (.raw (.int .i64 0)), (.raw (.slice none 0 0))]
theorem st83 : StructTy Try.prog 83 [(0, 1), (1, 1), (2, 1), (3, 1)] zs83 := by
  obtain ⟨i, h1, h2⟩ : ∃ i, Try.prog.info? 83 = some i ∧ i.zero = some (.agg #[(.int .i64 0), (.int .i64 0), (.int .i64 0), (.slice none 0 0)]) := info_zero (by kernel_rfl)
  exact ⟨⟨_, i, _, Try.underlying83, h1, h2, by kernel_rfl, rfl⟩, rfl⟩
theorem zr83 : (Try.prog.info? 83).map (·.zero) = some (some (.agg #[(.int .i64 0), (.int .i64 0), (.int .i64 0), (.slice none 0 0)])) := by kernel_rfl
theorem ty92 : LeafTy Try.prog 92 := ⟨⟨_, Try.underlying92, rfl⟩, by kernel_rfl⟩
theorem sl92 : SliceTy Try.prog 92 113 1 8 (.pointer none) := ⟨Try.underlying92, info_all (by kernel_rfl), rfl, by decide⟩
theorem fa94_0 : FieldTy Try.prog 94 0 0 2 true := ⟨⟨_, _, Try.underlying94, rfl, rfl, by kernel_rfl, ⟨_, Try.underlying35, rfl⟩, by decide⟩⟩
theorem fa94_1 : FieldTy Try.prog 94 1 2 1 false := ⟨⟨_, _, Try.underlying94, rfl, rfl, by kernel_rfl, ⟨_, Try.underlying92, rfl⟩, by decide⟩⟩
theorem fa94_2 : FieldTy Try.prog 94 2 3 1 false := ⟨⟨_, _, Try.underlying94, rfl, rfl, by kernel_rfl, ⟨_, Try.underlying3, rfl⟩, by decide⟩⟩
theorem fa94_3 : FieldTy Try.prog 94 3 4 1 false := ⟨⟨_, _, Try.underlying94, rfl, rfl, by kernel_rfl, ⟨_, Try.underlying4, rfl⟩, by decide⟩⟩
theorem fa94_4 : FieldTy Try.prog 94 4 5 1 false := ⟨⟨_, _, Try.underlying94, rfl, rfl, by kernel_rfl, ⟨_, Try.underlying4, rfl⟩, by decide⟩⟩
theorem fa94_5 : FieldTy Try.prog 94 5 6 3 true := ⟨⟨_, _, Try.underlying94, rfl, rfl, by kernel_rfl, ⟨_, Try.underlying38, rfl⟩, by decide⟩⟩
def zs94 : List V := [(.raw (.slice none 0 0)), (.raw (.int .i64 0)), (.raw (.slice none 0 0)), (.raw (.int .i64 0)), (.raw (.bool false)), (.raw (.bool false)), (.raw (.slice none 0 0)), (.raw (.int .i64 0)), (.raw (.int .i64 0))]
theorem st94 : StructTy Try.prog 94 [(0, 2), (2, 1), (3, 1), (4, 1), (5, 1), (6, 3)] zs94 := by
  obtain ⟨i, h1, h2⟩ : ∃ i, Try.prog.info? 94 = some i ∧ i.zero = some (.agg #[(.slice none 0 0), (.int .i64 0), (.slice none 0 0), (.int .i64 0), (.bool false), (.bool false), (.slice none 0 0), (.int .i64 0), (.int .i64 0)]) := info_zero (by kernel_rfl)
  exact ⟨⟨_, i, _, Try.underlying94, h1, h2, by kernel_rfl, rfl⟩, rfl⟩
theorem ty105 : LeafTy Try.prog 105 := ⟨⟨_, Try.underlying105, rfl⟩, by kernel_rfl⟩
theorem ty106 : LeafTy Try.prog 106 := ⟨⟨_, Try.underlying106, rfl⟩, by kernel_rfl⟩
theorem fa108_0 : FieldTy Try.prog 108 0 0 2 true := ⟨⟨_, _, Try.underlying108, rfl, rfl, by kernel_rfl, ⟨_, Try.underlying24, rfl⟩, by decide⟩⟩
theorem fa108_1 : FieldTy Try.prog 108 1 2 1 false := ⟨⟨_, _, Try.underlying108, rfl, rfl, by kernel_rfl, ⟨_, Try.underlying106, rfl⟩, by decide⟩⟩
def zs108 : List V := [(.raw (.int .i64 0)), (.raw (.slice none 0 0)), (.raw (.map none))]
theorem st108 : StructTy Try.prog 108 [(0, 2), (2, 1)] zs108 := by
  obtain ⟨i, h1, h2⟩ : ∃ i, Try.prog.info? 108 = some i ∧ i.zero = some (.agg #[(.int .i64 0), (.slice none 0 0), (.map none)]) := info_zero (by kernel_rfl)
  exact ⟨⟨_, i, _, Try.underlying108, h1, h2, by kernel_rfl, rfl⟩, rfl⟩
theorem ty112 : LeafTy Try.prog 112 := ⟨⟨_, Try.underlying112, rfl⟩, by kernel_rfl⟩
theorem zr112 : (Try.prog.info? 112).map (·.zero) = some (some (.slice none 0 0)) := by kernel_rfl
theorem sl112 : SliceTy Try.prog 112 119 4 48 (.agg #[(.int .i64 0), (.int .i64 0), (.slice none 0 0), (.pointer none)]) := ⟨Try.underlying112, info_all (by kernel_rfl), rfl, by decide⟩
theorem ty113 : LeafTy Try.prog 113 := ⟨⟨_, Try.underlying113, rfl⟩, by kernel_rfl⟩
theorem ty114 : LeafTy Try.prog 114 := ⟨⟨_, Try.underlying114, rfl⟩, by kernel_rfl⟩
theorem fa116_0 : FieldTy Try.prog 116 0 0 1 false := ⟨⟨_, _, Try.underlying116, rfl, rfl, by kernel_rfl, ⟨_, Try.underlying3, rfl⟩, by decide⟩⟩
theorem fa116_1 : FieldTy Try.prog 116 1 1 1 false := ⟨⟨_, _, Try.underlying116, rfl, rfl, by kernel_rfl, ⟨_, Try.underlying3, rfl⟩, by decide⟩⟩
theorem fa116_2 : FieldTy Try.prog 116 2 2 1 false := ⟨⟨_, _, Try.underlying116, rfl, rfl, by kernel_rfl, ⟨_, Try.underlying3, rfl⟩, by decide⟩⟩
theorem fa116_3 : FieldTy Try.prog 116 3 3 1 false := ⟨⟨_, _, Try.underlying116, rfl, rfl, by kernel_rfl, ⟨_, Try.underlying3, rfl⟩, by decide⟩⟩
theorem fa116_4 : FieldTy Try.prog 116 4 4 1 false := ⟨⟨_, _, Try.underlying116, rfl, rfl, by kernel_rfl, ⟨_, Try.underlying114, rfl⟩, by decide⟩⟩
def zs116 : List V := [(.raw (.int .i64 0)), (.raw (.int .i64 0)), (.raw (.int .i64 0)), (.raw (.int .i64 0)), (.raw (.map none))]
theorem st116 : StructTy Try.prog 116 [(0, 1), (1, 1), (2, 1), (3, 1), (4, 1)] zs116 := by
  obtain ⟨i, h1, h2⟩ : ∃ i, Try.prog.info? 116 = some i ∧ i.zero = some (.agg #[(.int .i64 0), (.int .i64 0), (.int .i64 0), (.int .i64 0), (.map none)]) := info_zero (by kernel_rfl)
  exact ⟨⟨_, i, _, Try.underlying116, h1, h2, by kernel_rfl, rfl⟩, rfl⟩
theorem ty117 : LeafTy Try.prog 117 := ⟨⟨_, Try.underlying117, rfl⟩, by kernel_rfl⟩
theorem ty119 : AggTy Try.prog 119 4 := ⟨⟨_, Try.underlying119, rfl⟩, by kernel_rfl⟩
theorem fa119_0 : FieldTy Try.prog 119 0 0 1 false := ⟨⟨_, _, Try.underlying119, rfl, rfl, by kernel_rfl, ⟨_, Try.underlying3, rfl⟩, by decide⟩⟩
theorem fa119_1 : FieldTy Try.prog 119 1 1 1 false := ⟨⟨_, _, Try.underlying119, rfl, rfl, by kernel_rfl, ⟨_, Try.underlying3, rfl⟩, by decide⟩⟩
theorem fa119_2 : FieldTy Try.prog 119 2 2 1 false := ⟨⟨_, _, Try.underlying119, rfl, rfl, by kernel_rfl, ⟨_, Try.underlying112, rfl⟩, by decide⟩⟩
theorem fa119_3 : FieldTy Try.prog 119 3 3 1 false := ⟨⟨_, _, Try.underlying119, rfl, rfl, by kernel_rfl, ⟨_, Try.underlying117, rfl⟩, by decide⟩⟩
def zs119 : List V := [(.raw (.int .i64 0)), (.raw (.int .i64 0)), (.raw (.slice none 0 0)), (.raw (.pointer none))]
theorem st119 : StructTy Try.prog 119 [(0, 1), (1, 1), (2, 1), (3, 1)] zs119 := by
  obtain ⟨i, h1, h2⟩ : ∃ i, Try.prog.info? 119 = some i ∧ i.zero = some (.agg #[(.int .i64 0), (.int .i64 0), (.slice none 0 0), (.pointer none)]) := info_zero (by kernel_rfl)
  exact ⟨⟨_, i, _, Try.underlying119, h1, h2, by kernel_rfl, rfl⟩, rfl⟩
theorem zr119 : (Try.prog.info? 119).map (·.zero) = some (some (.agg #[(.int .i64 0), (.int .i64 0), (.slice none 0 0), (.pointer none)])) := by kernel_rfl
theorem fa126_0 : FieldTy Try.prog 126 0 0 1 false := ⟨⟨_, _, Try.underlying126, rfl, rfl, by kernel_rfl, ⟨_, Try.underlying3, rfl⟩, by decide⟩⟩
theorem fa126_1 : FieldTy Try.prog 126 1 1 1 false := ⟨⟨_, _, Try.underlying126, rfl, rfl, by kernel_rfl, ⟨_, Try.underlying3, rfl⟩, by decide⟩⟩
def zs126 : List V := [(.raw (.int .i64 0)), (.raw (.int .i64 0))]
theorem st126 : StructTy Try.prog 126 [(0, 1), (1, 1)] zs126 := by
  obtain ⟨i, h1, h2⟩ : ∃ i, Try.prog.info? 126 = some i ∧ i.zero = some (.agg #[(.int .i64 0), (.int .i64 0)]) := info_zero (by kernel_rfl)
  exact ⟨⟨_, i, _, Try.underlying126, h1, h2, by kernel_rfl, rfl⟩, rfl⟩
theorem sl127 : SliceTy Try.prog 127 126 2 16 (.agg #[(.int .i64 0), (.int .i64 0)]) := ⟨Try.underlying127, info_all (by kernel_rfl), rfl, by decide⟩
theorem ty140 : LeafTy Try.prog 140 := ⟨⟨_, Try.underlying140, rfl⟩, by kernel_rfl⟩
theorem ty146 : AggTy Try.prog 146 2 := ⟨⟨_, Try.underlying146, rfl⟩, by kernel_rfl⟩
theorem fa146_0 : FieldTy Try.prog 146 0 0 1 false := ⟨⟨_, _, Try.underlying146, rfl, rfl, by kernel_rfl, ⟨_, Try.underlying3, rfl⟩, by decide⟩⟩
theorem fa146_1 : FieldTy Try.prog 146 1 1 1 false := ⟨⟨_, _, Try.underlying146, rfl, rfl, by kernel_rfl, ⟨_, Try.underlying3, rfl⟩, by decide⟩⟩
def zs146 : List V := [(.raw (.int .i64 0)), (.raw (.int .i64 0))]
theorem st146 : StructTy Try.prog 146 [(0, 1), (1, 1)] zs146 := by
  obtain ⟨i, h1, h2⟩ : ∃ i, Try.prog.info? 146 = some i ∧ i.zero = some (.agg #[(.int .i64 0), (.int .i64 0)]) := info_zero (by kernel_rfl)
  exact ⟨⟨_, i, _, Try.underlying146, h1, h2, by kernel_rfl, rfl⟩, rfl⟩
theorem zr146 : (Try.prog.info? 146).map (·.zero) = some (some (.agg #[(.int .i64 0), (.int .i64 0)])) := by kernel_rfl
theorem ty149 : LeafTy Try.prog 149 := ⟨⟨_, Try.underlying149, rfl⟩, by kernel_rfl⟩
theorem zr149 : (Try.prog.info? 149).map (·.zero) = some (some (.slice none 0 0)) := by kernel_rfl
theorem sl149 : SliceTy Try.prog 149 151 2 16 (.agg #[(.int .u64 0), (.int .u64 0)]) := ⟨Try.underlying149, info_all (by kernel_rfl), rfl, by decide⟩
theorem ty151 : AggTy Try.prog 151 2 := ⟨⟨_, Try.underlying151, rfl⟩, by kernel_rfl⟩
def zs151 : List V := [(.raw (.int .u64 0)), (.raw (.int .u64 0))]
theorem at151 : ArrTy Try.prog 151 2 140 1 zs151 := arr_ty (cs := [.int .u64 0, .int .u64 0]) Try.underlying151 (by kernel_rfl) (by kernel_rfl) rfl rfl
theorem se151 : (Try.prog.info? 140).map (·.size) = some 1 := by kernel_rfl
theorem zr151 : (Try.prog.info? 151).map (·.zero) = some (some (.agg #[(.int .u64 0), (.int .u64 0)])) := by kernel_rfl
theorem en7 : Enters Try.prog 7 := ⟨⟨_, Try.func7, by kernel_rfl, by kernel_rfl⟩⟩
theorem en8 : Enters Try.prog 8 := ⟨⟨_, Try.func8, by kernel_rfl, by kernel_rfl⟩⟩
theorem en9 : Enters Try.prog 9 := ⟨⟨_, Try.func9, by kernel_rfl, by kernel_rfl⟩⟩
theorem en10 : Enters Try.prog 10 := ⟨⟨_, Try.func10, by kernel_rfl, by kernel_rfl⟩⟩
theorem en11 : Enters Try.prog 11 := ⟨⟨_, Try.func11, by kernel_rfl, by kernel_rfl⟩⟩
theorem en14 : Enters Try.prog 14 := ⟨⟨_, Try.func14, by kernel_rfl, by kernel_rfl⟩⟩
theorem en17 : Enters Try.prog 17 := ⟨⟨_, Try.func17, by kernel_rfl, by kernel_rfl⟩⟩
theorem en18 : Enters Try.prog 18 := ⟨⟨_, Try.func18, by kernel_rfl, by kernel_rfl⟩⟩
theorem en19 : Enters Try.prog 19 := ⟨⟨_, Try.func19, by kernel_rfl, by kernel_rfl⟩⟩
theorem en20 : Enters Try.prog 20 := ⟨⟨_, Try.func20, by kernel_rfl, by kernel_rfl⟩⟩
theorem en21 : Enters Try.prog 21 := ⟨⟨_, Try.func21, by kernel_rfl, by kernel_rfl⟩⟩
theorem en22 : Enters Try.prog 22 := ⟨⟨_, Try.func22, by kernel_rfl, by kernel_rfl⟩⟩
theorem en23 : Enters Try.prog 23 := ⟨⟨_, Try.func23, by kernel_rfl, by kernel_rfl⟩⟩
theorem en24 : Enters Try.prog 24 := ⟨⟨_, Try.func24, by kernel_rfl, by kernel_rfl⟩⟩
theorem en25 : Enters Try.prog 25 := ⟨⟨_, Try.func25, by kernel_rfl, by kernel_rfl⟩⟩
theorem en26 : Enters Try.prog 26 := ⟨⟨_, Try.func26, by kernel_rfl, by kernel_rfl⟩⟩
theorem en27 : Enters Try.prog 27 := ⟨⟨_, Try.func27, by kernel_rfl, by kernel_rfl⟩⟩
theorem en28 : Enters Try.prog 28 := ⟨⟨_, Try.func28, by kernel_rfl, by kernel_rfl⟩⟩
theorem en32 : Enters Try.prog 32 := ⟨⟨_, Try.func32, by kernel_rfl, by kernel_rfl⟩⟩
theorem en33 : Enters Try.prog 33 := ⟨⟨_, Try.func33, by kernel_rfl, by kernel_rfl⟩⟩
theorem en34 : Enters Try.prog 34 := ⟨⟨_, Try.func34, by kernel_rfl, by kernel_rfl⟩⟩
theorem en35 : Enters Try.prog 35 := ⟨⟨_, Try.func35, by kernel_rfl, by kernel_rfl⟩⟩
theorem en36 : Enters Try.prog 36 := ⟨⟨_, Try.func36, by kernel_rfl, by kernel_rfl⟩⟩
theorem en37 : Enters Try.prog 37 := ⟨⟨_, Try.func37, by kernel_rfl, by kernel_rfl⟩⟩
theorem en38 : Enters Try.prog 38 := ⟨⟨_, Try.func38, by kernel_rfl, by kernel_rfl⟩⟩
theorem en39 : Enters Try.prog 39 := ⟨⟨_, Try.func39, by kernel_rfl, by kernel_rfl⟩⟩
theorem en40 : Enters Try.prog 40 := ⟨⟨_, Try.func40, by kernel_rfl, by kernel_rfl⟩⟩
theorem en41 : Enters Try.prog 41 := ⟨⟨_, Try.func41, by kernel_rfl, by kernel_rfl⟩⟩
theorem en42 : Enters Try.prog 42 := ⟨⟨_, Try.func42, by kernel_rfl, by kernel_rfl⟩⟩
theorem en43 : Enters Try.prog 43 := ⟨⟨_, Try.func43, by kernel_rfl, by kernel_rfl⟩⟩
theorem en44 : Enters Try.prog 44 := ⟨⟨_, Try.func44, by kernel_rfl, by kernel_rfl⟩⟩
theorem en45 : Enters Try.prog 45 := ⟨⟨_, Try.func45, by kernel_rfl, by kernel_rfl⟩⟩
theorem en52 : Enters Try.prog 52 := ⟨⟨_, Try.func52, by kernel_rfl, by kernel_rfl⟩⟩
theorem en53 : Enters Try.prog 53 := ⟨⟨_, Try.func53, by kernel_rfl, by kernel_rfl⟩⟩
theorem en54 : Enters Try.prog 54 := ⟨⟨_, Try.func54, by kernel_rfl, by kernel_rfl⟩⟩
theorem en55 : Enters Try.prog 55 := ⟨⟨_, Try.func55, by kernel_rfl, by kernel_rfl⟩⟩
theorem en56 : Enters Try.prog 56 := ⟨⟨_, Try.func56, by kernel_rfl, by kernel_rfl⟩⟩
theorem en57 : Enters Try.prog 57 := ⟨⟨_, Try.func57, by kernel_rfl, by kernel_rfl⟩⟩
theorem en58 : Enters Try.prog 58 := ⟨⟨_, Try.func58, by kernel_rfl, by kernel_rfl⟩⟩
theorem en72 : Enters Try.prog 72 := ⟨⟨_, Try.func72, by kernel_rfl, by kernel_rfl⟩⟩
theorem en74 : Enters Try.prog 74 := ⟨⟨_, Try.func74, by kernel_rfl, by kernel_rfl⟩⟩
theorem en75 : Enters Try.prog 75 := ⟨⟨_, Try.func75, by kernel_rfl, by kernel_rfl⟩⟩
theorem en76 : Enters Try.prog 76 := ⟨⟨_, Try.func76, by kernel_rfl, by kernel_rfl⟩⟩
theorem en77 : Enters Try.prog 77 := ⟨⟨_, Try.func77, by kernel_rfl, by kernel_rfl⟩⟩
theorem en78 : Enters Try.prog 78 := ⟨⟨_, Try.func78, by kernel_rfl, by kernel_rfl⟩⟩
theorem en79 : Enters Try.prog 79 := ⟨⟨_, Try.func79, by kernel_rfl, by kernel_rfl⟩⟩
theorem en80 : Enters Try.prog 80 := ⟨⟨_, Try.func80, by kernel_rfl, by kernel_rfl⟩⟩
theorem en81 : Enters Try.prog 81 := ⟨⟨_, Try.func81, by kernel_rfl, by kernel_rfl⟩⟩
theorem en82 : Enters Try.prog 82 := ⟨⟨_, Try.func82, by kernel_rfl, by kernel_rfl⟩⟩
theorem en83 : Enters Try.prog 83 := ⟨⟨_, Try.func83, by kernel_rfl, by kernel_rfl⟩⟩
theorem en84 : Enters Try.prog 84 := ⟨⟨_, Try.func84, by kernel_rfl, by kernel_rfl⟩⟩
theorem en85 : Enters Try.prog 85 := ⟨⟨_, Try.func85, by kernel_rfl, by kernel_rfl⟩⟩
theorem en86 : Enters Try.prog 86 := ⟨⟨_, Try.func86, by kernel_rfl, by kernel_rfl⟩⟩
theorem en87 : Enters Try.prog 87 := ⟨⟨_, Try.func87, by kernel_rfl, by kernel_rfl⟩⟩
theorem en88 : Enters Try.prog 88 := ⟨⟨_, Try.func88, by kernel_rfl, by kernel_rfl⟩⟩
theorem en89 : Enters Try.prog 89 := ⟨⟨_, Try.func89, by kernel_rfl, by kernel_rfl⟩⟩
theorem en96 : Enters Try.prog 96 := ⟨⟨_, Try.func96, by kernel_rfl, by kernel_rfl⟩⟩
theorem en97 : Enters Try.prog 97 := ⟨⟨_, Try.func97, by kernel_rfl, by kernel_rfl⟩⟩
theorem en98 : Enters Try.prog 98 := ⟨⟨_, Try.func98, by kernel_rfl, by kernel_rfl⟩⟩
theorem en99 : Enters Try.prog 99 := ⟨⟨_, Try.func99, by kernel_rfl, by kernel_rfl⟩⟩
theorem en100 : Enters Try.prog 100 := ⟨⟨_, Try.func100, by kernel_rfl, by kernel_rfl⟩⟩
theorem en101 : Enters Try.prog 101 := ⟨⟨_, Try.func101, by kernel_rfl, by kernel_rfl⟩⟩
theorem en102 : Enters Try.prog 102 := ⟨⟨_, Try.func102, by kernel_rfl, by kernel_rfl⟩⟩
theorem en103 : Enters Try.prog 103 := ⟨⟨_, Try.func103, by kernel_rfl, by kernel_rfl⟩⟩
theorem en104 : Enters Try.prog 104 := ⟨⟨_, Try.func104, by kernel_rfl, by kernel_rfl⟩⟩
theorem en105 : Enters Try.prog 105 := ⟨⟨_, Try.func105, by kernel_rfl, by kernel_rfl⟩⟩
theorem en106 : Enters Try.prog 106 := ⟨⟨_, Try.func106, by kernel_rfl, by kernel_rfl⟩⟩
theorem en107 : Enters Try.prog 107 := ⟨⟨_, Try.func107, by kernel_rfl, by kernel_rfl⟩⟩
theorem en108 : Enters Try.prog 108 := ⟨⟨_, Try.func108, by kernel_rfl, by kernel_rfl⟩⟩
theorem en110 : Enters Try.prog 110 := ⟨⟨_, Try.func110, by kernel_rfl, by kernel_rfl⟩⟩
theorem mix : Try.prog.follows .mixedOrders = true := by kernel_rfl
end Go.Proofs.Ytimmnbdajflgmaa.VT
