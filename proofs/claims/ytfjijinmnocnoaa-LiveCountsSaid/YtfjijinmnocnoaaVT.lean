/- Facts on the types of this program, as the rules of the V-logic ask them. -/
import Derived.Test.YtfjijinmnocnoaaVC
import Derived.Test.YtfjijinmnocnoaaProg
set_option linter.unusedVariables false
namespace Go.Proofs.Ytfjijinmnocnoaa.VT
open Go.VL

theorem ty1 : LeafTy Try.prog 1 := ⟨⟨_, Try.underlying1, rfl⟩, by kernel_rfl⟩
theorem zr1 : (Try.prog.info? 1).map (·.zero) = some (some (.nilFunc)) := by kernel_rfl
theorem ty2 : LeafTy Try.prog 2 := ⟨⟨_, Try.underlying2, rfl⟩, by kernel_rfl⟩
theorem zr2 : (Try.prog.info? 2).map (·.zero) = some (some (.int .i64 0)) := by kernel_rfl
theorem ty3 : LeafTy Try.prog 3 := ⟨⟨_, Try.underlying3, rfl⟩, by kernel_rfl⟩
theorem zr3 : (Try.prog.info? 3).map (·.zero) = some (some (.int .i64 0)) := by kernel_rfl
theorem ty4 : LeafTy Try.prog 4 := ⟨⟨_, Try.underlying4, rfl⟩, by kernel_rfl⟩
theorem zr4 : (Try.prog.info? 4).map (·.zero) = some (some (.bool false)) := by kernel_rfl
theorem ty5 : LeafTy Try.prog 5 := ⟨⟨_, Try.underlying5, rfl⟩, by kernel_rfl⟩
theorem zr5 : (Try.prog.info? 5).map (·.zero) = some (some (.int .u8 0)) := by kernel_rfl
theorem ty6 : LeafTy Try.prog 6 := ⟨⟨_, Try.underlying6, rfl⟩, by kernel_rfl⟩
theorem zr6 : (Try.prog.info? 6).map (·.zero) = some (some (.int .u8 0)) := by kernel_rfl
theorem ty7 : AggTy Try.prog 7 4 := ⟨⟨_, Try.underlying7, rfl⟩, by kernel_rfl⟩
theorem fa7_0 : FieldTy Try.prog 7 0 0 1 false := ⟨⟨_, _, Try.underlying7, rfl, rfl, by kernel_rfl, ⟨_, Try.underlying2, rfl⟩, by decide⟩⟩
theorem fa7_1 : FieldTy Try.prog 7 1 1 1 false := ⟨⟨_, _, Try.underlying7, rfl, rfl, by kernel_rfl, ⟨_, Try.underlying3, rfl⟩, by decide⟩⟩
theorem fa7_2 : FieldTy Try.prog 7 2 2 1 false := ⟨⟨_, _, Try.underlying7, rfl, rfl, by kernel_rfl, ⟨_, Try.underlying4, rfl⟩, by decide⟩⟩
theorem fa7_3 : FieldTy Try.prog 7 3 3 1 false := ⟨⟨_, _, Try.underlying7, rfl, rfl, by kernel_rfl, ⟨_, Try.underlying6, rfl⟩, by decide⟩⟩
def zs7 : List V := [(.raw (.int .i64 0)), (.raw (.int .i64 0)), (.raw (.bool false)), (.raw (.int .u8 0))]
theorem st7 : StructTy Try.prog 7 [(0, 1), (1, 1), (2, 1), (3, 1)] zs7 := by
  obtain ⟨i, h1, h2⟩ : ∃ i, Try.prog.info? 7 = some i ∧ i.zero = some (.agg #[(.int .i64 0), (.int .i64 0), (.bool false), (.int .u8 0)]) := info_zero (by kernel_rfl)
  exact ⟨⟨_, i, _, Try.underlying7, h1, h2, by kernel_rfl, rfl⟩, rfl⟩
theorem zr7 : (Try.prog.info? 7).map (·.zero) = some (some (.agg #[(.int .i64 0), (.int .i64 0), (.bool false), (.int .u8 0)])) := by kernel_rfl
theorem ty8 : AggTy Try.prog 8 4 := ⟨⟨_, Try.underlying8, rfl⟩, by kernel_rfl⟩
theorem fa8_0 : FieldTy Try.prog 8 0 0 1 false := ⟨⟨_, _, Try.underlying8, rfl, rfl, by kernel_rfl, ⟨_, Try.underlying2, rfl⟩, by decide⟩⟩
theorem fa8_1 : FieldTy Try.prog 8 1 1 1 false := ⟨⟨_, _, Try.underlying8, rfl, rfl, by kernel_rfl, ⟨_, Try.underlying3, rfl⟩, by decide⟩⟩
theorem fa8_2 : FieldTy Try.prog 8 2 2 1 false := ⟨⟨_, _, Try.underlying8, rfl, rfl, by kernel_rfl, ⟨_, Try.underlying4, rfl⟩, by decide⟩⟩
theorem fa8_3 : FieldTy Try.prog 8 3 3 1 false := ⟨⟨_, _, Try.underlying8, rfl, rfl, by kernel_rfl, ⟨_, Try.underlying6, rfl⟩, by decide⟩⟩
def zs8 : List V := [(.raw (.int .i64 0)), (.raw (.int .i64 0)), (.raw (.bool false)), (.raw (.int .u8 0))]
theorem st8 : StructTy Try.prog 8 [(0, 1), (1, 1), (2, 1), (3, 1)] zs8 := by
  obtain ⟨i, h1, h2⟩ : ∃ i, Try.prog.info? 8 = some i ∧ i.zero = some (.agg #[(.int .i64 0), (.int .i64 0), (.bool false), (.int .u8 0)]) := info_zero (by kernel_rfl)
  exact ⟨⟨_, i, _, Try.underlying8, h1, h2, by kernel_rfl, rfl⟩, rfl⟩
theorem zr8 : (Try.prog.info? 8).map (·.zero) = some (some (.agg #[(.int .i64 0), (.int .i64 0), (.bool false), (.int .u8 0)])) := by kernel_rfl
theorem ty9 : LeafTy Try.prog 9 := ⟨⟨_, Try.underlying9, rfl⟩, by kernel_rfl⟩
theorem zr9 : (Try.prog.info? 9).map (·.zero) = some (some (.string ⟨#[]⟩)) := by kernel_rfl
theorem ty10 : LeafTy Try.prog 10 := ⟨⟨_, Try.underlying10, rfl⟩, by kernel_rfl⟩
theorem zr10 : (Try.prog.info? 10).map (·.zero) = some (some (.string ⟨#[]⟩)) := by kernel_rfl
theorem ty11 : LeafTy Try.prog 11 := ⟨⟨_, Try.underlying11, rfl⟩, by kernel_rfl⟩
theorem zr11 : (Try.prog.info? 11).map (·.zero) = some (some (.string ⟨#[]⟩)) := by kernel_rfl
theorem ty12 : LeafTy Try.prog 12 := ⟨⟨_, Try.underlying12, rfl⟩, by kernel_rfl⟩
theorem zr12 : (Try.prog.info? 12).map (·.zero) = some (some (.int .u64 0)) := by kernel_rfl
theorem ty13 : AggTy Try.prog 13 2 := ⟨⟨_, Try.underlying13, rfl⟩, by kernel_rfl⟩
theorem fa13_0 : FieldTy Try.prog 13 0 0 1 false := ⟨⟨_, _, Try.underlying13, rfl, rfl, by kernel_rfl, ⟨_, Try.underlying9, rfl⟩, by decide⟩⟩
theorem fa13_1 : FieldTy Try.prog 13 1 1 1 false := ⟨⟨_, _, Try.underlying13, rfl, rfl, by kernel_rfl, ⟨_, Try.underlying12, rfl⟩, by decide⟩⟩
def zs13 : List V := [(.raw (.string ⟨#[]⟩)), (.raw (.int .u64 0))]
theorem st13 : StructTy Try.prog 13 [(0, 1), (1, 1)] zs13 := by
  obtain ⟨i, h1, h2⟩ : ∃ i, Try.prog.info? 13 = some i ∧ i.zero = some (.agg #[(.string ⟨#[]⟩), (.int .u64 0)]) := info_zero (by kernel_rfl)
  exact ⟨⟨_, i, _, Try.underlying13, h1, h2, by kernel_rfl, rfl⟩, rfl⟩
theorem zr13 : (Try.prog.info? 13).map (·.zero) = some (some (.agg #[(.string ⟨#[]⟩), (.int .u64 0)])) := by kernel_rfl
theorem ty14 : AggTy Try.prog 14 2 := ⟨⟨_, Try.underlying14, rfl⟩, by kernel_rfl⟩
theorem fa14_0 : FieldTy Try.prog 14 0 0 1 false := ⟨⟨_, _, Try.underlying14, rfl, rfl, by kernel_rfl, ⟨_, Try.underlying9, rfl⟩, by decide⟩⟩
theorem fa14_1 : FieldTy Try.prog 14 1 1 1 false := ⟨⟨_, _, Try.underlying14, rfl, rfl, by kernel_rfl, ⟨_, Try.underlying12, rfl⟩, by decide⟩⟩
def zs14 : List V := [(.raw (.string ⟨#[]⟩)), (.raw (.int .u64 0))]
theorem st14 : StructTy Try.prog 14 [(0, 1), (1, 1)] zs14 := by
  obtain ⟨i, h1, h2⟩ : ∃ i, Try.prog.info? 14 = some i ∧ i.zero = some (.agg #[(.string ⟨#[]⟩), (.int .u64 0)]) := info_zero (by kernel_rfl)
  exact ⟨⟨_, i, _, Try.underlying14, h1, h2, by kernel_rfl, rfl⟩, rfl⟩
theorem zr14 : (Try.prog.info? 14).map (·.zero) = some (some (.agg #[(.string ⟨#[]⟩), (.int .u64 0)])) := by kernel_rfl
theorem ty15 : LeafTy Try.prog 15 := ⟨⟨_, Try.underlying15, rfl⟩, by kernel_rfl⟩
theorem zr15 : (Try.prog.info? 15).map (·.zero) = some (some (.pointer none)) := by kernel_rfl
theorem ty16 : LeafTy Try.prog 16 := ⟨⟨_, Try.underlying16, rfl⟩, by kernel_rfl⟩
theorem zr16 : (Try.prog.info? 16).map (·.zero) = some (some (.pointer none)) := by kernel_rfl
theorem ty17 : LeafTy Try.prog 17 := ⟨⟨_, Try.underlying17, rfl⟩, by kernel_rfl⟩
theorem zr17 : (Try.prog.info? 17).map (·.zero) = some (some (.pointer none)) := by kernel_rfl
theorem ty18 : AggTy Try.prog 18 1 := ⟨⟨_, Try.underlying18, rfl⟩, by kernel_rfl⟩
theorem fa18_0 : FieldTy Try.prog 18 0 0 1 false := ⟨⟨_, _, Try.underlying18, rfl, rfl, by kernel_rfl, ⟨_, Try.underlying17, rfl⟩, by decide⟩⟩
def zs18 : List V := [(.raw (.pointer none))]
theorem st18 : StructTy Try.prog 18 [(0, 1)] zs18 := by
  obtain ⟨i, h1, h2⟩ : ∃ i, Try.prog.info? 18 = some i ∧ i.zero = some (.agg #[(.pointer none)]) := info_zero (by kernel_rfl)
  exact ⟨⟨_, i, _, Try.underlying18, h1, h2, by kernel_rfl, rfl⟩, rfl⟩
theorem zr18 : (Try.prog.info? 18).map (·.zero) = some (some (.agg #[(.pointer none)])) := by kernel_rfl
theorem ty19 : AggTy Try.prog 19 1 := ⟨⟨_, Try.underlying19, rfl⟩, by kernel_rfl⟩
theorem fa19_0 : FieldTy Try.prog 19 0 0 1 false := ⟨⟨_, _, Try.underlying19, rfl, rfl, by kernel_rfl, ⟨_, Try.underlying17, rfl⟩, by decide⟩⟩
def zs19 : List V := [(.raw (.pointer none))]
theorem st19 : StructTy Try.prog 19 [(0, 1)] zs19 := by
  obtain ⟨i, h1, h2⟩ : ∃ i, Try.prog.info? 19 = some i ∧ i.zero = some (.agg #[(.pointer none)]) := info_zero (by kernel_rfl)
  exact ⟨⟨_, i, _, Try.underlying19, h1, h2, by kernel_rfl, rfl⟩, rfl⟩
theorem zr19 : (Try.prog.info? 19).map (·.zero) = some (some (.agg #[(.pointer none)])) := by kernel_rfl
theorem ty20 : LeafTy Try.prog 20 := ⟨⟨_, Try.underlying20, rfl⟩, by kernel_rfl⟩
theorem zr20 : (Try.prog.info? 20).map (·.zero) = some (some (.nilIface)) := by kernel_rfl
theorem ty21 : LeafTy Try.prog 21 := ⟨⟨_, Try.underlying21, rfl⟩, by kernel_rfl⟩
theorem zr21 : (Try.prog.info? 21).map (·.zero) = some (some (.int .i32 0)) := by kernel_rfl
theorem ty22 : LeafTy Try.prog 22 := ⟨⟨_, Try.underlying22, rfl⟩, by kernel_rfl⟩
theorem zr22 : (Try.prog.info? 22).map (·.zero) = some (some (.slice none 0 0)) := by kernel_rfl
theorem sl22 : SliceTy Try.prog 22 37 7 120 (.agg #[(.slice none 0 0), (.slice none 0 0), (.int .i64 0), (.int .i64 0), (.int .i64 0), (.slice none 0 0), (.slice none 0 0)]) := ⟨Try.underlying22, info_all (by kernel_rfl), rfl, by decide⟩
theorem ty23 : AggTy Try.prog 23 2 := ⟨⟨_, Try.underlying23, rfl⟩, by kernel_rfl⟩
theorem fa23_0 : FieldTy Try.prog 23 0 0 1 false := ⟨⟨_, _, Try.underlying23, rfl, rfl, by kernel_rfl, ⟨_, Try.underlying3, rfl⟩, by decide⟩⟩
theorem fa23_1 : FieldTy Try.prog 23 1 1 1 false := ⟨⟨_, _, Try.underlying23, rfl, rfl, by kernel_rfl, ⟨_, Try.underlying22, rfl⟩, by decide⟩⟩
def zs23 : List V := [(.raw (.int .i64 0)), (.raw (.slice none 0 0))]
theorem st23 : StructTy Try.prog 23 [(0, 1), (1, 1)] zs23 := by
  obtain ⟨i, h1, h2⟩ : ∃ i, Try.prog.info? 23 = some i ∧ i.zero = some (.agg #[(.int .i64 0), (.slice none 0 0)]) := info_zero (by kernel_rfl)
  exact ⟨⟨_, i, _, Try.underlying23, h1, h2, by kernel_rfl, rfl⟩, rfl⟩
theorem zr23 : (Try.prog.info? 23).map (·.zero) = some (some (.agg #[(.int .i64 0), (.slice none 0 0)])) := by kernel_rfl
theorem ty24 : AggTy Try.prog 24 2 := ⟨⟨_, Try.underlying24, rfl⟩, by kernel_rfl⟩
theorem fa24_0 : FieldTy Try.prog 24 0 0 1 false := ⟨⟨_, _, Try.underlying24, rfl, rfl, by kernel_rfl, ⟨_, Try.underlying3, rfl⟩, by decide⟩⟩
theorem fa24_1 : FieldTy Try.prog 24 1 1 1 false := ⟨⟨_, _, Try.underlying24, rfl, rfl, by kernel_rfl, ⟨_, Try.underlying22, rfl⟩, by decide⟩⟩
def zs24 : List V := [(.raw (.int .i64 0)), (.raw (.slice none 0 0))]
theorem st24 : StructTy Try.prog 24 [(0, 1), (1, 1)] zs24 := by
  obtain ⟨i, h1, h2⟩ : ∃ i, Try.prog.info? 24 = some i ∧ i.zero = some (.agg #[(.int .i64 0), (.slice none 0 0)]) := info_zero (by kernel_rfl)
  exact ⟨⟨_, i, _, Try.underlying24, h1, h2, by kernel_rfl, rfl⟩, rfl⟩
theorem zr24 : (Try.prog.info? 24).map (·.zero) = some (some (.agg #[(.int .i64 0), (.slice none 0 0)])) := by kernel_rfl
theorem ty25 : LeafTy Try.prog 25 := ⟨⟨_, Try.underlying25, rfl⟩, by kernel_rfl⟩
theorem zr25 : (Try.prog.info? 25).map (·.zero) = some (some (.nilFunc)) := by kernel_rfl
theorem ty26 : LeafTy Try.prog 26 := ⟨⟨_, Try.underlying26, rfl⟩, by kernel_rfl⟩
theorem zr26 : (Try.prog.info? 26).map (·.zero) = some (some (.slice none 0 0)) := by kernel_rfl
theorem sl26 : SliceTy Try.prog 26 41 4 32 (.agg #[(.int .i64 0), (.int .i64 0), (.int .i64 0), (.int .i64 0)]) := ⟨Try.underlying26, info_all (by kernel_rfl), rfl, by decide⟩
theorem ty27 : LeafTy Try.prog 27 := ⟨⟨_, Try.underlying27, rfl⟩, by kernel_rfl⟩
theorem zr27 : (Try.prog.info? 27).map (·.zero) = some (some (.int .i64 0)) := by kernel_rfl
theorem ty29 : LeafTy Try.prog 29 := ⟨⟨_, Try.underlying29, rfl⟩, by kernel_rfl⟩
theorem zr29 : (Try.prog.info? 29).map (·.zero) = some (some (.nilFunc)) := by kernel_rfl
theorem ty30 : LeafTy Try.prog 30 := ⟨⟨_, Try.underlying30, rfl⟩, by kernel_rfl⟩
theorem zr30 : (Try.prog.info? 30).map (·.zero) = some (some (.nilFunc)) := by kernel_rfl
theorem ty31 : LeafTy Try.prog 31 := ⟨⟨_, Try.underlying31, rfl⟩, by kernel_rfl⟩
theorem zr31 : (Try.prog.info? 31).map (·.zero) = some (some (.slice none 0 0)) := by kernel_rfl
theorem sl31 : SliceTy Try.prog 31 3 1 8 (.int .i64 0) := ⟨Try.underlying31, info_all (by kernel_rfl), rfl, by decide⟩
theorem ty32 : LeafTy Try.prog 32 := ⟨⟨_, Try.underlying32, rfl⟩, by kernel_rfl⟩
theorem zr32 : (Try.prog.info? 32).map (·.zero) = some (some (.slice none 0 0)) := by kernel_rfl
theorem sl32 : SliceTy Try.prog 32 39 4 48 (.agg #[(.int .i64 0), (.int .i64 0), (.int .i64 0), (.slice none 0 0)]) := ⟨Try.underlying32, info_all (by kernel_rfl), rfl, by decide⟩
theorem ty33 : LeafTy Try.prog 33 := ⟨⟨_, Try.underlying33, rfl⟩, by kernel_rfl⟩
theorem zr33 : (Try.prog.info? 33).map (·.zero) = some (some (.slice none 0 0)) := by kernel_rfl
theorem sl33 : SliceTy Try.prog 33 70 2 32 (.agg #[(.int .i64 0), (.slice none 0 0)]) := ⟨Try.underlying33, info_all (by kernel_rfl), rfl, by decide⟩
theorem ty34 : AggTy Try.prog 34 5 := ⟨⟨_, Try.underlying34, rfl⟩, by kernel_rfl⟩
theorem fa34_0 : FieldTy Try.prog 34 0 0 1 false := ⟨⟨_, _, Try.underlying34, rfl, rfl, by kernel_rfl, ⟨_, Try.underlying3, rfl⟩, by decide⟩⟩
theorem fa34_1 : FieldTy Try.prog 34 1 1 1 false := ⟨⟨_, _, Try.underlying34, rfl, rfl, by kernel_rfl, ⟨_, Try.underlying3, rfl⟩, by decide⟩⟩
theorem fa34_2 : FieldTy Try.prog 34 2 2 1 false := ⟨⟨_, _, Try.underlying34, rfl, rfl, by kernel_rfl, ⟨_, Try.underlying3, rfl⟩, by decide⟩⟩
theorem fa34_3 : FieldTy Try.prog 34 3 3 1 false := ⟨⟨_, _, Try.underlying34, rfl, rfl, by kernel_rfl, ⟨_, Try.underlying31, rfl⟩, by decide⟩⟩
theorem fa34_4 : FieldTy Try.prog 34 4 4 1 false := ⟨⟨_, _, Try.underlying34, rfl, rfl, by kernel_rfl, ⟨_, Try.underlying33, rfl⟩, by decide⟩⟩
def zs34 : List V := [(.raw (.int .i64 0)), (.raw (.int .i64 0)), (.raw (.int .i64 0)), (.raw (.slice none 0 0)), (.raw (.slice none 0 0))]
theorem st34 : StructTy Try.prog 34 [(0, 1), (1, 1), (2, 1), (3, 1), (4, 1)] zs34 := by
  obtain ⟨i, h1, h2⟩ : ∃ i, Try.prog.info? 34 = some i ∧ i.zero = some (.agg #[(.int .i64 0), (.int .i64 0), (.int .i64 0), (.slice none 0 0), (.slice none 0 0)]) := info_zero (by kernel_rfl)
  exact ⟨⟨_, i, _, Try.underlying34, h1, h2, by kernel_rfl, rfl⟩, rfl⟩
theorem zr34 : (Try.prog.info? 34).map (·.zero) = some (some (.agg #[(.int .i64 0), (.int .i64 0), (.int .i64 0), (.slice none 0 0), (.slice none 0 0)])) := by kernel_rfl
theorem ty35 : AggTy Try.prog 35 5 := ⟨⟨_, Try.underlying35, rfl⟩, by kernel_rfl⟩
theorem fa35_0 : FieldTy Try.prog 35 0 0 1 false := ⟨⟨_, _, Try.underlying35, rfl, rfl, by kernel_rfl, ⟨_, Try.underlying3, rfl⟩, by decide⟩⟩
theorem fa35_1 : FieldTy Try.prog 35 1 1 1 false := ⟨⟨_, _, Try.underlying35, rfl, rfl, by kernel_rfl, ⟨_, Try.underlying3, rfl⟩, by decide⟩⟩
theorem fa35_2 : FieldTy Try.prog 35 2 2 1 false := ⟨⟨_, _, Try.underlying35, rfl, rfl, by kernel_rfl, ⟨_, Try.underlying3, rfl⟩, by decide⟩⟩
theorem fa35_3 : FieldTy Try.prog 35 3 3 1 false := ⟨⟨_, _, Try.underlying35, rfl, rfl, by kernel_rfl, ⟨_, Try.underlying31, rfl⟩, by decide⟩⟩
theorem fa35_4 : FieldTy Try.prog 35 4 4 1 false := ⟨⟨_, _, Try.underlying35, rfl, rfl, by kernel_rfl, ⟨_, Try.underlying33, rfl⟩, by decide⟩⟩
def zs35 : List V := [(.raw (.int .i64 0)), (.raw (.int .i64 0)), (.raw (.int .i64 0)), (.raw (.slice none 0 0)), (.raw (.slice none 0 0))]
theorem st35 : StructTy Try.prog 35 [(0, 1), (1, 1), (2, 1), (3, 1), (4, 1)] zs35 := by
  obtain ⟨i, h1, h2⟩ : ∃ i, Try.prog.info? 35 = some i ∧ i.zero = some (.agg #[(.int .i64 0), (.int .i64 0), (.int .i64 0), (.slice none 0 0), (.slice none 0 0)]) := info_zero (by kernel_rfl)
  exact ⟨⟨_, i, _, Try.underlying35, h1, h2, by kernel_rfl, rfl⟩, rfl⟩
theorem zr35 : (Try.prog.info? 35).map (·.zero) = some (some (.agg #[(.int .i64 0), (.int .i64 0), (.int .i64 0), (.slice none 0 0), (.slice none 0 0)])) := by kernel_rfl
theorem ty36 : AggTy Try.prog 36 7 := ⟨⟨_, Try.underlying36, rfl⟩, by kernel_rfl⟩
theorem fa36_0 : FieldTy Try.prog 36 0 0 1 false := ⟨⟨_, _, Try.underlying36, rfl, rfl, by kernel_rfl, ⟨_, Try.underlying31, rfl⟩, by decide⟩⟩
theorem fa36_1 : FieldTy Try.prog 36 1 1 1 false := ⟨⟨_, _, Try.underlying36, rfl, rfl, by kernel_rfl, ⟨_, Try.underlying32, rfl⟩, by decide⟩⟩
theorem fa36_2 : FieldTy Try.prog 36 2 2 5 true := ⟨⟨_, _, Try.underlying36, rfl, rfl, by kernel_rfl, ⟨_, Try.underlying35, rfl⟩, by decide⟩⟩
def zs36 : List V := [(.raw (.slice none 0 0)), (.raw (.slice none 0 0)), (.raw (.int .i64 0)), (.raw (.int .i64 0)), (.raw (.int .i64 0)), (.raw (.slice none 0 0)), (.raw (.slice none 0 0))]
theorem st36 : StructTy Try.prog 36 [(0, 1), (1, 1), (2, 5)] zs36 := by
  obtain ⟨i, h1, h2⟩ : ∃ i, Try.prog.info? 36 = some i ∧ i.zero = some (.agg #[(.slice none 0 0), (.slice none 0 0), (.int .i64 0), (.int .i64 0), (.int .i64 0), (.slice none 0 0), (.slice none 0 0)]) := info_zero (by kernel_rfl)
  exact ⟨⟨_, i, _, Try.underlying36, h1, h2, by kernel_rfl, rfl⟩, rfl⟩
theorem zr36 : (Try.prog.info? 36).map (·.zero) = some (some (.agg #[(.slice none 0 0), (.slice none 0 0), (.int .i64 0), (.int .i64 0), (.int .i64 0), (.slice none 0 0), (.slice none 0 0)])) := by kernel_rfl
theorem ty37 : AggTy Try.prog 37 7 := ⟨⟨_, Try.underlying37, rfl⟩, by kernel_rfl⟩
theorem fa37_0 : FieldTy Try.prog 37 0 0 1 false := ⟨⟨_, _, Try.underlying37, rfl, rfl, by kernel_rfl, ⟨_, Try.underlying31, rfl⟩, by decide⟩⟩
theorem fa37_1 : FieldTy Try.prog 37 1 1 1 false := ⟨⟨_, _, Try.underlying37, rfl, rfl, by kernel_rfl, ⟨_, Try.underlying32, rfl⟩, by decide⟩⟩
theorem fa37_2 : FieldTy Try.prog 37 2 2 5 true := ⟨⟨_, _, Try.underlying37, rfl, rfl, by kernel_rfl, ⟨_, Try.underlying35, rfl⟩, by decide⟩⟩
def zs37 : List V := [(.raw (.slice none 0 0)), (.raw (.slice none 0 0)), (.raw (.int .i64 0)), (.raw (.int .i64 0)), (.raw (.int .i64 0)), (.raw (.slice none 0 0)), (.raw (.slice none 0 0))]
theorem st37 : StructTy Try.prog 37 [(0, 1), (1, 1), (2, 5)] zs37 := by
  obtain ⟨i, h1, h2⟩ : ∃ i, Try.prog.info? 37 = some i ∧ i.zero = some (.agg #[(.slice none 0 0), (.slice none 0 0), (.int .i64 0), (.int .i64 0), (.int .i64 0), (.slice none 0 0), (.slice none 0 0)]) := info_zero (by kernel_rfl)
  exact ⟨⟨_, i, _, Try.underlying37, h1, h2, by kernel_rfl, rfl⟩, rfl⟩
theorem zr37 : (Try.prog.info? 37).map (·.zero) = some (some (.agg #[(.slice none 0 0), (.slice none 0 0), (.int .i64 0), (.int .i64 0), (.int .i64 0), (.slice none 0 0), (.slice none 0 0)])) := by kernel_rfl
theorem ty38 : AggTy Try.prog 38 4 := ⟨⟨_, Try.underlying38, rfl⟩, by kernel_rfl⟩
theorem fa38_0 : FieldTy Try.prog 38 0 0 1 false := ⟨⟨_, _, Try.underlying38, rfl, rfl, by kernel_rfl, ⟨_, Try.underlying3, rfl⟩, by decide⟩⟩
theorem fa38_1 : FieldTy Try.prog 38 1 1 1 false := ⟨⟨_, _, Try.underlying38, rfl, rfl, by kernel_rfl, ⟨_, Try.underlying3, rfl⟩, by decide⟩⟩
theorem fa38_2 : FieldTy Try.prog 38 2 2 1 false := ⟨⟨_, _, Try.underlying38, rfl, rfl, by kernel_rfl, ⟨_, Try.underlying3, rfl⟩, by decide⟩⟩
theorem fa38_3 : FieldTy Try.prog 38 3 3 1 false := ⟨⟨_, _, Try.underlying38, rfl, rfl, by kernel_rfl, ⟨_, Try.underlying31, rfl⟩, by decide⟩⟩
def zs38 : List V := [(.raw (.int .i64 0)), (.raw (.int .i64 0)), (.raw (.int .i64 0)), (.raw (.slice none 0 0))]
theorem st38 : StructTy Try.prog 38 [(0, 1), (1, 1), (2, 1), (3, 1)] zs38 := by
  obtain ⟨i, h1, h2⟩ : ∃ i, Try.prog.info? 38 = some i ∧ i.zero = some (.agg #[(.int .i64 0), (.int .i64 0), (.int .i64 0), (.slice none 0 0)]) := info_zero (by kernel_rfl)
  exact ⟨⟨_, i, _, Try.underlying38, h1, h2, by kernel_rfl, rfl⟩, rfl⟩
theorem zr38 : (Try.prog.info? 38).map (·.zero) = some (some (.agg #[(.int .i64 0), (.int .i64 0), (.int .i64 0), (.slice none 0 0)])) := by kernel_rfl
theorem ty39 : AggTy Try.prog 39 4 := ⟨⟨_, Try.underlying39, rfl⟩, by kernel_rfl⟩
theorem fa39_0 : FieldTy Try.prog 39 0 0 1 false := ⟨⟨_, _, Try.underlying39, rfl, rfl, by kernel_rfl, ⟨_, Try.underlying3, rfl⟩, by decide⟩⟩
theorem fa39_1 : FieldTy Try.prog 39 1 1 1 false := ⟨⟨_, _, Try.underlying39, rfl, rfl, by kernel_rfl, ⟨_, Try.underlying3, rfl⟩, by decide⟩⟩
theorem fa39_2 : FieldTy Try.prog 39 2 2 1 false := ⟨⟨_, _, Try.underlying39, rfl, rfl, by kernel_rfl, ⟨_, Try.underlying3, rfl⟩, by decide⟩⟩
theorem fa39_3 : FieldTy Try.prog 39 3 3 1 false := ⟨⟨_, _, Try.underlying39, rfl, rfl, by kernel_rfl, ⟨_, Try.underlying31, rfl⟩, by decide⟩⟩
def zs39 : List V := [(.raw (.int .i64 0)), (.raw (.int .i64 0)), (.raw (.int .i64 0)), (.raw (.slice none 0 0))]
theorem st39 : StructTy Try.prog 39 [(0, 1), (1, 1), (2, 1), (3, 1)] zs39 := by
  obtain ⟨i, h1, h2⟩ : ∃ i, Try.prog.info? 39 = some i ∧ i.zero = some (.agg #[(.int .i64 0), (.int .i64 0), (.int .i64 0), (.slice none 0 0)]) := info_zero (by kernel_rfl)
  exact ⟨⟨_, i, _, Try.underlying39, h1, h2, by kernel_rfl, rfl⟩, rfl⟩
theorem zr39 : (Try.prog.info? 39).map (·.zero) = some (some (.agg #[(.int .i64 0), (.int .i64 0), (.int .i64 0), (.slice none 0 0)])) := by kernel_rfl
theorem ty40 : AggTy Try.prog 40 4 := ⟨⟨_, Try.underlying40, rfl⟩, by kernel_rfl⟩
theorem fa40_0 : FieldTy Try.prog 40 0 0 1 false := ⟨⟨_, _, Try.underlying40, rfl, rfl, by kernel_rfl, ⟨_, Try.underlying3, rfl⟩, by decide⟩⟩
theorem fa40_1 : FieldTy Try.prog 40 1 1 1 false := ⟨⟨_, _, Try.underlying40, rfl, rfl, by kernel_rfl, ⟨_, Try.underlying3, rfl⟩, by decide⟩⟩
theorem fa40_2 : FieldTy Try.prog 40 2 2 1 false := ⟨⟨_, _, Try.underlying40, rfl, rfl, by kernel_rfl, ⟨_, Try.underlying3, rfl⟩, by decide⟩⟩
theorem fa40_3 : FieldTy Try.prog 40 3 3 1 false := ⟨⟨_, _, Try.underlying40, rfl, rfl, by kernel_rfl, ⟨_, Try.underlying3, rfl⟩, by decide⟩⟩
def zs40 : List V := [(.raw (.int .i64 0)), (.raw (.int .i64 0)), (.raw (.int .i64 0)), (.raw (.int .i64 0))]
theorem st40 : StructTy Try.prog 40 [(0, 1), (1, 1), (2, 1), (3, 1)] zs40 := by
  obtain ⟨i, h1, h2⟩ : ∃ i, Try.prog.info? 40 = some i ∧ i.zero = some (.agg #[(.int .i64 0), (.int .i64 0), (.int .i64 0), (.int .i64 0)]) := info_zero (by kernel_rfl)
  exact ⟨⟨_, i, _, Try.underlying40, h1, h2, by kernel_rfl, rfl⟩, rfl⟩
theorem zr40 : (Try.prog.info? 40).map (·.zero) = some (some (.agg #[(.int .i64 0), (.int .i64 0), (.int .i64 0), (.int .i64 0)])) := by kernel_rfl
theorem ty41 : AggTy Try.prog 41 4 := ⟨⟨_, Try.underlying41, rfl⟩, by kernel_rfl⟩
theorem fa41_0 : FieldTy Try.prog 41 0 0 1 false := ⟨⟨_, _, Try.underlying41, rfl, rfl, by kernel_rfl, ⟨_, Try.underlying3, rfl⟩, by decide⟩⟩
theorem fa41_1 : FieldTy Try.prog 41 1 1 1 false := ⟨⟨_, _, Try.underlying41, rfl, rfl, by kernel_rfl, ⟨_, Try.underlying3, rfl⟩, by decide⟩⟩
theorem fa41_2 : FieldTy Try.prog 41 2 2 1 false := ⟨⟨_, _, Try.underlying41, rfl, rfl, by kernel_rfl, ⟨_, Try.underlying3, rfl⟩, by decide⟩⟩
theorem fa41_3 : FieldTy Try.prog 41 3 3 1 false := ⟨⟨_, _, Try.underlying41, rfl, rfl, by kernel_rfl, ⟨_, Try.underlying3, rfl⟩, by decide⟩⟩
def zs41 : List V := [(.raw (.int .i64 0)), (.raw (.int .i64 0)), (.raw (.int .i64 0)), (.raw (.int .i64 0))]
theorem st41 : StructTy Try.prog 41 [(0, 1), (1, 1), (2, 1), (3, 1)] zs41 := by
  obtain ⟨i, h1, h2⟩ : ∃ i, Try.prog.info? 41 = some i ∧ i.zero = some (.agg #[(.int .i64 0), (.int .i64 0), (.int .i64 0), (.int .i64 0)]) := info_zero (by kernel_rfl)
  exact ⟨⟨_, i, _, Try.underlying41, h1, h2, by kernel_rfl, rfl⟩, rfl⟩
theorem zr41 : (Try.prog.info? 41).map (·.zero) = some (some (.agg #[(.int .i64 0), (.int .i64 0), (.int .i64 0), (.int .i64 0)])) := by kernel_rfl
theorem ty42 : LeafTy Try.prog 42 := ⟨⟨_, Try.underlying42, rfl⟩, by kernel_rfl⟩
theorem zr42 : (Try.prog.info? 42).map (·.zero) = some (some (.nilFunc)) := by kernel_rfl
theorem ty44 : LeafTy Try.prog 44 := ⟨⟨_, Try.underlying44, rfl⟩, by kernel_rfl⟩
theorem zr44 : (Try.prog.info? 44).map (·.zero) = some (some (.nilFunc)) := by kernel_rfl
theorem ty45 : LeafTy Try.prog 45 := ⟨⟨_, Try.underlying45, rfl⟩, by kernel_rfl⟩
theorem zr45 : (Try.prog.info? 45).map (·.zero) = some (some (.slice none 0 0)) := by kernel_rfl
theorem sl45 : SliceTy Try.prog 45 4 1 1 (.bool false) := ⟨Try.underlying45, info_all (by kernel_rfl), rfl, by decide⟩
theorem ty46 : LeafTy Try.prog 46 := ⟨⟨_, Try.underlying46, rfl⟩, by kernel_rfl⟩
theorem zr46 : (Try.prog.info? 46).map (·.zero) = some (some (.nilFunc)) := by kernel_rfl
theorem ty48 : LeafTy Try.prog 48 := ⟨⟨_, Try.underlying48, rfl⟩, by kernel_rfl⟩
theorem zr48 : (Try.prog.info? 48).map (·.zero) = some (some (.nilFunc)) := by kernel_rfl
theorem ty49 : AggTy Try.prog 49 3 := ⟨⟨_, Try.underlying49, rfl⟩, by kernel_rfl⟩
theorem fa49_0 : FieldTy Try.prog 49 0 0 1 false := ⟨⟨_, _, Try.underlying49, rfl, rfl, by kernel_rfl, ⟨_, Try.underlying31, rfl⟩, by decide⟩⟩
theorem fa49_1 : FieldTy Try.prog 49 1 1 1 false := ⟨⟨_, _, Try.underlying49, rfl, rfl, by kernel_rfl, ⟨_, Try.underlying3, rfl⟩, by decide⟩⟩
theorem fa49_2 : FieldTy Try.prog 49 2 2 1 false := ⟨⟨_, _, Try.underlying49, rfl, rfl, by kernel_rfl, ⟨_, Try.underlying3, rfl⟩, by decide⟩⟩
def zs49 : List V := [(.raw (.slice none 0 0)), (.raw (.int .i64 0)), (.raw (.int .i64 0))]
theorem st49 : StructTy Try.prog 49 [(0, 1), (1, 1), (2, 1)] zs49 := by
  obtain ⟨i, h1, h2⟩ : ∃ i, Try.prog.info? 49 = some i ∧ i.zero = some (.agg #[(.slice none 0 0), (.int .i64 0), (.int .i64 0)]) := info_zero (by kernel_rfl)
  exact ⟨⟨_, i, _, Try.underlying49, h1, h2, by kernel_rfl, rfl⟩, rfl⟩
theorem zr49 : (Try.prog.info? 49).map (·.zero) = some (some (.agg #[(.slice none 0 0), (.int .i64 0), (.int .i64 0)])) := by kernel_rfl
theorem ty50 : AggTy Try.prog 50 3 := ⟨⟨_, Try.underlying50, rfl⟩, by kernel_rfl⟩
theorem fa50_0 : FieldTy Try.prog 50 0 0 1 false := ⟨⟨_, _, Try.underlying50, rfl, rfl, by kernel_rfl, ⟨_, Try.underlying31, rfl⟩, by decide⟩⟩
theorem fa50_1 : FieldTy Try.prog 50 1 1 1 false := ⟨⟨_, _, Try.underlying50, rfl, rfl, by kernel_rfl, ⟨_, Try.underlying3, rfl⟩, by decide⟩⟩
theorem fa50_2 : FieldTy Try.prog 50 2 2 1 false := ⟨⟨_, _, Try.underlying50, rfl, rfl, by kernel_rfl, ⟨_, Try.underlying3, rfl⟩, by decide⟩⟩
def zs50 : List V := [(.raw (.slice none 0 0)), (.raw (.int .i64 0)), (.raw (.int .i64 0))]
theorem st50 : StructTy Try.prog 50 [(0, 1), (1, 1), (2, 1)] zs50 := by
  obtain ⟨i, h1, h2⟩ : ∃ i, Try.prog.info? 50 = some i ∧ i.zero = some (.agg #[(.slice none 0 0), (.int .i64 0), (.int .i64 0)]) := info_zero (by kernel_rfl)
  exact ⟨⟨_, i, _, Try.underlying50, h1, h2, by kernel_rfl, rfl⟩, rfl⟩
theorem zr50 : (Try.prog.info? 50).map (·.zero) = some (some (.agg #[(.slice none 0 0), (.int .i64 0), (.int .i64 0)])) := by kernel_rfl
theorem ty52 : LeafTy Try.prog 52 := ⟨⟨_, Try.underlying52, rfl⟩, by kernel_rfl⟩
theorem zr52 : (Try.prog.info? 52).map (·.zero) = some (some (.nilFunc)) := by kernel_rfl
theorem ty53 : LeafTy Try.prog 53 := ⟨⟨_, Try.underlying53, rfl⟩, by kernel_rfl⟩
theorem zr53 : (Try.prog.info? 53).map (·.zero) = some (some (.slice none 0 0)) := by kernel_rfl
theorem sl53 : SliceTy Try.prog 53 24 2 32 (.agg #[(.int .i64 0), (.slice none 0 0)]) := ⟨Try.underlying53, info_all (by kernel_rfl), rfl, by decide⟩
theorem ty54 : AggTy Try.prog 54 2 := ⟨⟨_, Try.underlying54, rfl⟩, by kernel_rfl⟩
theorem fa54_0 : FieldTy Try.prog 54 0 0 1 false := ⟨⟨_, _, Try.underlying54, rfl, rfl, by kernel_rfl, ⟨_, Try.underlying53, rfl⟩, by decide⟩⟩
theorem fa54_1 : FieldTy Try.prog 54 1 1 1 false := ⟨⟨_, _, Try.underlying54, rfl, rfl, by kernel_rfl, ⟨_, Try.underlying3, rfl⟩, by decide⟩⟩
def zs54 : List V := [(.raw (.slice none 0 0)), (.raw (.int .i64 0))]
theorem st54 : StructTy Try.prog 54 [(0, 1), (1, 1)] zs54 := by
  obtain ⟨i, h1, h2⟩ : ∃ i, Try.prog.info? 54 = some i ∧ i.zero = some (.agg #[(.slice none 0 0), (.int .i64 0)]) := info_zero (by kernel_rfl)
  exact ⟨⟨_, i, _, Try.underlying54, h1, h2, by kernel_rfl, rfl⟩, rfl⟩
theorem zr54 : (Try.prog.info? 54).map (·.zero) = some (some (.agg #[(.slice none 0 0), (.int .i64 0)])) := by kernel_rfl
theorem ty55 : AggTy Try.prog 55 2 := ⟨⟨_, Try.underlying55, rfl⟩, by kernel_rfl⟩
theorem fa55_0 : FieldTy Try.prog 55 0 0 1 false := ⟨⟨_, _, Try.underlying55, rfl, rfl, by kernel_rfl, ⟨_, Try.underlying53, rfl⟩, by decide⟩⟩
theorem fa55_1 : FieldTy Try.prog 55 1 1 1 false := ⟨⟨_, _, Try.underlying55, rfl, rfl, by kernel_rfl, ⟨_, Try.underlying3, rfl⟩, by decide⟩⟩
def zs55 : List V := [(.raw (.slice none 0 0)), (.raw (.int .i64 0))]
theorem st55 : StructTy Try.prog 55 [(0, 1), (1, 1)] zs55 := by
  obtain ⟨i, h1, h2⟩ : ∃ i, Try.prog.info? 55 = some i ∧ i.zero = some (.agg #[(.slice none 0 0), (.int .i64 0)]) := info_zero (by kernel_rfl)
  exact ⟨⟨_, i, _, Try.underlying55, h1, h2, by kernel_rfl, rfl⟩, rfl⟩
theorem zr55 : (Try.prog.info? 55).map (·.zero) = some (some (.agg #[(.slice none 0 0), (.int .i64 0)])) := by kernel_rfl
theorem ty56 : LeafTy Try.prog 56 := ⟨⟨_, Try.underlying56, rfl⟩, by kernel_rfl⟩
theorem zr56 : (Try.prog.info? 56).map (·.zero) = some (some (.nilFunc)) := by kernel_rfl
theorem ty57 : LeafTy Try.prog 57 := ⟨⟨_, Try.underlying57, rfl⟩, by kernel_rfl⟩
theorem zr57 : (Try.prog.info? 57).map (·.zero) = some (some (.nilFunc)) := by kernel_rfl
theorem ty58 : LeafTy Try.prog 58 := ⟨⟨_, Try.underlying58, rfl⟩, by kernel_rfl⟩
theorem zr58 : (Try.prog.info? 58).map (·.zero) = some (some (.pointer none)) := by kernel_rfl
theorem ty59 : LeafTy Try.prog 59 := ⟨⟨_, Try.underlying59, rfl⟩, by kernel_rfl⟩
theorem zr59 : (Try.prog.info? 59).map (·.zero) = some (some (.slice none 0 0)) := by kernel_rfl
theorem sl59 : SliceTy Try.prog 59 45 1 24 (.slice none 0 0) := ⟨Try.underlying59, info_all (by kernel_rfl), rfl, by decide⟩
theorem ty61 : LeafTy Try.prog 61 := ⟨⟨_, Try.underlying61, rfl⟩, by kernel_rfl⟩
theorem zr61 : (Try.prog.info? 61).map (·.zero) = some (some (.nilFunc)) := by kernel_rfl
theorem ty62 : LeafTy Try.prog 62 := ⟨⟨_, Try.underlying62, rfl⟩, by kernel_rfl⟩
theorem zr62 : (Try.prog.info? 62).map (·.zero) = some (some (.slice none 0 0)) := by kernel_rfl
theorem sl62 : SliceTy Try.prog 62 26 1 24 (.slice none 0 0) := ⟨Try.underlying62, info_all (by kernel_rfl), rfl, by decide⟩
theorem ty63 : AggTy Try.prog 63 4 := ⟨⟨_, Try.underlying63, rfl⟩, by kernel_rfl⟩
theorem fa63_0 : FieldTy Try.prog 63 0 0 2 true := ⟨⟨_, _, Try.underlying63, rfl, rfl, by kernel_rfl, ⟨_, Try.underlying24, rfl⟩, by decide⟩⟩
theorem fa63_1 : FieldTy Try.prog 63 1 2 1 false := ⟨⟨_, _, Try.underlying63, rfl, rfl, by kernel_rfl, ⟨_, Try.underlying3, rfl⟩, by decide⟩⟩
theorem fa63_2 : FieldTy Try.prog 63 2 3 1 false := ⟨⟨_, _, Try.underlying63, rfl, rfl, by kernel_rfl, ⟨_, Try.underlying59, rfl⟩, by decide⟩⟩
def zs63 : List V := [(.raw (.int .i64 0)), (.raw (.slice none 0 0)), (.raw (.int .i64 0)), (.raw (.slice none 0 0))]
theorem st63 : StructTy Try.prog 63 [(0, 2), (2, 1), (3, 1)] zs63 := by
  obtain ⟨i, h1, h2⟩ : ∃ i, Try.prog.info? 63 = some i ∧ i.zero = some (.agg #[(.int .i64 0), (.slice none 0 0), (.int .i64 0), (.slice none 0 0)]) := info_zero (by kernel_rfl)
  exact ⟨⟨_, i, _, Try.underlying63, h1, h2, by kernel_rfl, rfl⟩, rfl⟩
theorem zr63 : (Try.prog.info? 63).map (·.zero) = some (some (.agg #[(.int .i64 0), (.slice none 0 0), (.int .i64 0), (.slice none 0 0)])) := by kernel_rfl
theorem ty64 : AggTy Try.prog 64 4 := ⟨⟨_, Try.underlying64, rfl⟩, by kernel_rfl⟩
theorem fa64_0 : FieldTy Try.prog 64 0 0 2 true := ⟨⟨_, _, Try.underlying64, rfl, rfl, by kernel_rfl, ⟨_, Try.underlying24, rfl⟩, by decide⟩⟩
theorem fa64_1 : FieldTy Try.prog 64 1 2 1 false := ⟨⟨_, _, Try.underlying64, rfl, rfl, by kernel_rfl, ⟨_, Try.underlying3, rfl⟩, by decide⟩⟩
theorem fa64_2 : FieldTy Try.prog 64 2 3 1 false := ⟨⟨_, _, Try.underlying64, rfl, rfl, by kernel_rfl, ⟨_, Try.underlying59, rfl⟩, by decide⟩⟩
def zs64 : List V := [(.raw (.int .i64 0)), (.raw (.slice none 0 0)), (.raw (.int .i64 0)), (.raw (.slice none 0 0))]
theorem st64 : StructTy Try.prog 64 [(0, 2), (2, 1), (3, 1)] zs64 := by
  obtain ⟨i, h1, h2⟩ : ∃ i, Try.prog.info? 64 = some i ∧ i.zero = some (.agg #[(.int .i64 0), (.slice none 0 0), (.int .i64 0), (.slice none 0 0)]) := info_zero (by kernel_rfl)
  exact ⟨⟨_, i, _, Try.underlying64, h1, h2, by kernel_rfl, rfl⟩, rfl⟩
theorem zr64 : (Try.prog.info? 64).map (·.zero) = some (some (.agg #[(.int .i64 0), (.slice none 0 0), (.int .i64 0), (.slice none 0 0)])) := by kernel_rfl
theorem ty65 : LeafTy Try.prog 65 := ⟨⟨_, Try.underlying65, rfl⟩, by kernel_rfl⟩
theorem zr65 : (Try.prog.info? 65).map (·.zero) = some (some (.nilFunc)) := by kernel_rfl
theorem ty66 : LeafTy Try.prog 66 := ⟨⟨_, Try.underlying66, rfl⟩, by kernel_rfl⟩
theorem zr66 : (Try.prog.info? 66).map (·.zero) = some (some (.nilFunc)) := by kernel_rfl
theorem ty67 : LeafTy Try.prog 67 := ⟨⟨_, Try.underlying67, rfl⟩, by kernel_rfl⟩
theorem zr67 : (Try.prog.info? 67).map (·.zero) = some (some (.nilFunc)) := by kernel_rfl
theorem ty68 : LeafTy Try.prog 68 := ⟨⟨_, Try.underlying68, rfl⟩, by kernel_rfl⟩
theorem zr68 : (Try.prog.info? 68).map (·.zero) = some (some (.nilFunc)) := by kernel_rfl
theorem ty69 : AggTy Try.prog 69 2 := ⟨⟨_, Try.underlying69, rfl⟩, by kernel_rfl⟩
theorem fa69_0 : FieldTy Try.prog 69 0 0 1 false := ⟨⟨_, _, Try.underlying69, rfl, rfl, by kernel_rfl, ⟨_, Try.underlying3, rfl⟩, by decide⟩⟩
theorem fa69_1 : FieldTy Try.prog 69 1 1 1 false := ⟨⟨_, _, Try.underlying69, rfl, rfl, by kernel_rfl, ⟨_, Try.underlying31, rfl⟩, by decide⟩⟩
def zs69 : List V := [(.raw (.int .i64 0)), (.raw (.slice none 0 0))]
theorem st69 : StructTy Try.prog 69 [(0, 1), (1, 1)] zs69 := by
  obtain ⟨i, h1, h2⟩ : ∃ i, Try.prog.info? 69 = some i ∧ i.zero = some (.agg #[(.int .i64 0), (.slice none 0 0)]) := info_zero (by kernel_rfl)
  exact ⟨⟨_, i, _, Try.underlying69, h1, h2, by kernel_rfl, rfl⟩, rfl⟩
theorem zr69 : (Try.prog.info? 69).map (·.zero) = some (some (.agg #[(.int .i64 0), (.slice none 0 0)])) := by kernel_rfl
theorem ty70 : AggTy Try.prog 70 2 := ⟨⟨_, Try.underlying70, rfl⟩, by kernel_rfl⟩
theorem fa70_0 : FieldTy Try.prog 70 0 0 1 false := ⟨⟨_, _, Try.underlying70, rfl, rfl, by kernel_rfl, ⟨_, Try.underlying3, rfl⟩, by decide⟩⟩
theorem fa70_1 : FieldTy Try.prog 70 1 1 1 false := ⟨⟨_, _, Try.underlying70, rfl, rfl, by kernel_rfl, ⟨_, Try.underlying31, rfl⟩, by decide⟩⟩
def zs70 : List V := [(.raw (.int .i64 0)), (.raw (.slice none 0 0))]
theorem st70 : StructTy Try.prog 70 [(0, 1), (1, 1)] zs70 := by
  obtain ⟨i, h1, h2⟩ : ∃ i, Try.prog.info? 70 = some i ∧ i.zero = some (.agg #[(.int .i64 0), (.slice none 0 0)]) := info_zero (by kernel_rfl)
  exact ⟨⟨_, i, _, Try.underlying70, h1, h2, by kernel_rfl, rfl⟩, rfl⟩
theorem zr70 : (Try.prog.info? 70).map (·.zero) = some (some (.agg #[(.int .i64 0), (.slice none 0 0)])) := by kernel_rfl
theorem ty71 : LeafTy Try.prog 71 := ⟨⟨_, Try.underlying71, rfl⟩, by kernel_rfl⟩
theorem zr71 : (Try.prog.info? 71).map (·.zero) = some (some (.nilFunc)) := by kernel_rfl
theorem ty72 : LeafTy Try.prog 72 := ⟨⟨_, Try.underlying72, rfl⟩, by kernel_rfl⟩
theorem zr72 : (Try.prog.info? 72).map (·.zero) = some (some (.nilFunc)) := by kernel_rfl
theorem ty73 : LeafTy Try.prog 73 := ⟨⟨_, Try.underlying73, rfl⟩, by kernel_rfl⟩
theorem zr73 : (Try.prog.info? 73).map (·.zero) = some (some (.nilFunc)) := by kernel_rfl
theorem ty74 : LeafTy Try.prog 74 := ⟨⟨_, Try.underlying74, rfl⟩, by kernel_rfl⟩
theorem zr74 : (Try.prog.info? 74).map (·.zero) = some (some (.nilFunc)) := by kernel_rfl
theorem ty75 : LeafTy Try.prog 75 := ⟨⟨_, Try.underlying75, rfl⟩, by kernel_rfl⟩
theorem zr75 : (Try.prog.info? 75).map (·.zero) = some (some (.nilFunc)) := by kernel_rfl
theorem ty76 : LeafTy Try.prog 76 := ⟨⟨_, Try.underlying76, rfl⟩, by kernel_rfl⟩
theorem zr76 : (Try.prog.info? 76).map (·.zero) = some (some (.nilFunc)) := by kernel_rfl
theorem ty77 : LeafTy Try.prog 77 := ⟨⟨_, Try.underlying77, rfl⟩, by kernel_rfl⟩
theorem zr77 : (Try.prog.info? 77).map (·.zero) = some (some (.nilFunc)) := by kernel_rfl
theorem ty78 : LeafTy Try.prog 78 := ⟨⟨_, Try.underlying78, rfl⟩, by kernel_rfl⟩
theorem zr78 : (Try.prog.info? 78).map (·.zero) = some (some (.nilFunc)) := by kernel_rfl
theorem ty79 : LeafTy Try.prog 79 := ⟨⟨_, Try.underlying79, rfl⟩, by kernel_rfl⟩
theorem zr79 : (Try.prog.info? 79).map (·.zero) = some (some (.nilFunc)) := by kernel_rfl
theorem ty80 : LeafTy Try.prog 80 := ⟨⟨_, Try.underlying80, rfl⟩, by kernel_rfl⟩
theorem zr80 : (Try.prog.info? 80).map (·.zero) = some (some (.nilFunc)) := by kernel_rfl
theorem ty81 : LeafTy Try.prog 81 := ⟨⟨_, Try.underlying81, rfl⟩, by kernel_rfl⟩
theorem zr81 : (Try.prog.info? 81).map (·.zero) = some (some (.nilFunc)) := by kernel_rfl
theorem ty82 : LeafTy Try.prog 82 := ⟨⟨_, Try.underlying82, rfl⟩, by kernel_rfl⟩
theorem zr82 : (Try.prog.info? 82).map (·.zero) = some (some (.nilFunc)) := by kernel_rfl
theorem ty83 : LeafTy Try.prog 83 := ⟨⟨_, Try.underlying83, rfl⟩, by kernel_rfl⟩
theorem zr83 : (Try.prog.info? 83).map (·.zero) = some (some (.nilFunc)) := by kernel_rfl
theorem ty84 : LeafTy Try.prog 84 := ⟨⟨_, Try.underlying84, rfl⟩, by kernel_rfl⟩
theorem zr84 : (Try.prog.info? 84).map (·.zero) = some (some (.nilFunc)) := by kernel_rfl
theorem ty85 : LeafTy Try.prog 85 := ⟨⟨_, Try.underlying85, rfl⟩, by kernel_rfl⟩
theorem zr85 : (Try.prog.info? 85).map (·.zero) = some (some (.nilFunc)) := by kernel_rfl
theorem ty86 : LeafTy Try.prog 86 := ⟨⟨_, Try.underlying86, rfl⟩, by kernel_rfl⟩
theorem zr86 : (Try.prog.info? 86).map (·.zero) = some (some (.nilFunc)) := by kernel_rfl
theorem ty87 : LeafTy Try.prog 87 := ⟨⟨_, Try.underlying87, rfl⟩, by kernel_rfl⟩
theorem zr87 : (Try.prog.info? 87).map (·.zero) = some (some (.nilFunc)) := by kernel_rfl
theorem ty88 : LeafTy Try.prog 88 := ⟨⟨_, Try.underlying88, rfl⟩, by kernel_rfl⟩
theorem zr88 : (Try.prog.info? 88).map (·.zero) = some (some (.nilFunc)) := by kernel_rfl
theorem ty89 : LeafTy Try.prog 89 := ⟨⟨_, Try.underlying89, rfl⟩, by kernel_rfl⟩
theorem zr89 : (Try.prog.info? 89).map (·.zero) = some (some (.pointer none)) := by kernel_rfl
theorem ty90 : LeafTy Try.prog 90 := ⟨⟨_, Try.underlying90, rfl⟩, by kernel_rfl⟩
theorem zr90 : (Try.prog.info? 90).map (·.zero) = some (some (.slice none 0 0)) := by kernel_rfl
theorem sl90 : SliceTy Try.prog 90 106 1 8 (.pointer none) := ⟨Try.underlying90, info_all (by kernel_rfl), rfl, by decide⟩
theorem ty91 : AggTy Try.prog 91 9 := ⟨⟨_, Try.underlying91, rfl⟩, by kernel_rfl⟩
theorem fa91_0 : FieldTy Try.prog 91 0 0 2 true := ⟨⟨_, _, Try.underlying91, rfl, rfl, by kernel_rfl, ⟨_, Try.underlying55, rfl⟩, by decide⟩⟩
theorem fa91_1 : FieldTy Try.prog 91 1 2 1 false := ⟨⟨_, _, Try.underlying91, rfl, rfl, by kernel_rfl, ⟨_, Try.underlying90, rfl⟩, by decide⟩⟩
theorem fa91_2 : FieldTy Try.prog 91 2 3 1 false := ⟨⟨_, _, Try.underlying91, rfl, rfl, by kernel_rfl, ⟨_, Try.underlying3, rfl⟩, by decide⟩⟩
theorem fa91_3 : FieldTy Try.prog 91 3 4 1 false := ⟨⟨_, _, Try.underlying91, rfl, rfl, by kernel_rfl, ⟨_, Try.underlying4, rfl⟩, by decide⟩⟩
theorem fa91_4 : FieldTy Try.prog 91 4 5 1 false := ⟨⟨_, _, Try.underlying91, rfl, rfl, by kernel_rfl, ⟨_, Try.underlying4, rfl⟩, by decide⟩⟩
theorem fa91_5 : FieldTy Try.prog 91 5 6 3 true := ⟨⟨_, _, Try.underlying91, rfl, rfl, by kernel_rfl, ⟨_, Try.underlying50, rfl⟩, by decide⟩⟩
def zs91 : List V := [(.raw (.slice none 0 0)), (.raw (.int .i64 0)), (.raw (.slice none 0 0)), (.raw (.int .i64 0)), (.raw (.bool false)), (.raw (.bool false)), (.raw (.slice none 0 0)), (.raw (.int .i64 0)), (.raw (.int .i64 0))]
theorem st91 : StructTy Try.prog 91 [(0, 2), (2, 1), (3, 1), (4, 1), (5, 1), (6, 3)] zs91 := by
  obtain ⟨i, h1, h2⟩ : ∃ i, Try.prog.info? 91 = some i ∧ i.zero = some (.agg #[(.slice none 0 0), (.int .i64 0), (.slice none 0 0), (.int .i64 0), (.bool false), (.bool false), (.slice none 0 0), (.int .i64 0), (.int .i64 0)]) := info_zero (by kernel_rfl)
  exact ⟨⟨_, i, _, Try.underlying91, h1, h2, by kernel_rfl, rfl⟩, rfl⟩
theorem zr91 : (Try.prog.info? 91).map (·.zero) = some (some (.agg #[(.slice none 0 0), (.int .i64 0), (.slice none 0 0), (.int .i64 0), (.bool false), (.bool false), (.slice none 0 0), (.int .i64 0), (.int .i64 0)])) := by kernel_rfl
theorem ty92 : AggTy Try.prog 92 9 := ⟨⟨_, Try.underlying92, rfl⟩, by kernel_rfl⟩
theorem fa92_0 : FieldTy Try.prog 92 0 0 2 true := ⟨⟨_, _, Try.underlying92, rfl, rfl, by kernel_rfl, ⟨_, Try.underlying55, rfl⟩, by decide⟩⟩
theorem fa92_1 : FieldTy Try.prog 92 1 2 1 false := ⟨⟨_, _, Try.underlying92, rfl, rfl, by kernel_rfl, ⟨_, Try.underlying90, rfl⟩, by decide⟩⟩
theorem fa92_2 : FieldTy Try.prog 92 2 3 1 false := ⟨⟨_, _, Try.underlying92, rfl, rfl, by kernel_rfl, ⟨_, Try.underlying3, rfl⟩, by decide⟩⟩
theorem fa92_3 : FieldTy Try.prog 92 3 4 1 false := ⟨⟨_, _, Try.underlying92, rfl, rfl, by kernel_rfl, ⟨_, Try.underlying4, rfl⟩, by decide⟩⟩
theorem fa92_4 : FieldTy Try.prog 92 4 5 1 false := ⟨⟨_, _, Try.underlying92, rfl, rfl, by kernel_rfl, ⟨_, Try.underlying4, rfl⟩, by decide⟩⟩
theorem fa92_5 : FieldTy Try.prog 92 5 6 3 true := ⟨⟨_, _, Try.underlying92, rfl, rfl, by kernel_rfl, ⟨_, Try.underlying50, rfl⟩, by decide⟩⟩
def zs92 : List V := [(.raw (.slice none 0 0)), (.raw (.int .i64 0)), (.raw (.slice none 0 0)), (.raw (.int .i64 0)), (.raw (.bool false)), (.raw (.bool false)), (.raw (.slice none 0 0)), (.raw (.int .i64 0)), (.raw (.int .i64 0))]
theorem st92 : StructTy Try.prog 92 [(0, 2), (2, 1), (3, 1), (4, 1), (5, 1), (6, 3)] zs92 := by
  obtain ⟨i, h1, h2⟩ : ∃ i, Try.prog.info? 92 = some i ∧ i.zero = some (.agg #[(.slice none 0 0), (.int .i64 0), (.slice none 0 0), (.int .i64 0), (.bool false), (.bool false), (.slice none 0 0), (.int .i64 0), (.int .i64 0)]) := info_zero (by kernel_rfl)
  exact ⟨⟨_, i, _, Try.underlying92, h1, h2, by kernel_rfl, rfl⟩, rfl⟩
theorem zr92 : (Try.prog.info? 92).map (·.zero) = some (some (.agg #[(.slice none 0 0), (.int .i64 0), (.slice none 0 0), (.int .i64 0), (.bool false), (.bool false), (.slice none 0 0), (.int .i64 0), (.int .i64 0)])) := by kernel_rfl
theorem ty93 : LeafTy Try.prog 93 := ⟨⟨_, Try.underlying93, rfl⟩, by kernel_rfl⟩
theorem zr93 : (Try.prog.info? 93).map (·.zero) = some (some (.nilFunc)) := by kernel_rfl
theorem ty94 : LeafTy Try.prog 94 := ⟨⟨_, Try.underlying94, rfl⟩, by kernel_rfl⟩
theorem zr94 : (Try.prog.info? 94).map (·.zero) = some (some (.nilFunc)) := by kernel_rfl
theorem ty95 : LeafTy Try.prog 95 := ⟨⟨_, Try.underlying95, rfl⟩, by kernel_rfl⟩
theorem zr95 : (Try.prog.info? 95).map (·.zero) = some (some (.pointer none)) := by kernel_rfl
theorem ty96 : LeafTy Try.prog 96 := ⟨⟨_, Try.underlying96, rfl⟩, by kernel_rfl⟩
theorem zr96 : (Try.prog.info? 96).map (·.zero) = some (some (.map none)) := by kernel_rfl
theorem ty97 : AggTy Try.prog 97 3 := ⟨⟨_, Try.underlying97, rfl⟩, by kernel_rfl⟩
theorem fa97_0 : FieldTy Try.prog 97 0 0 2 true := ⟨⟨_, _, Try.underlying97, rfl, rfl, by kernel_rfl, ⟨_, Try.underlying24, rfl⟩, by decide⟩⟩
theorem fa97_1 : FieldTy Try.prog 97 1 2 1 false := ⟨⟨_, _, Try.underlying97, rfl, rfl, by kernel_rfl, ⟨_, Try.underlying96, rfl⟩, by decide⟩⟩
def zs97 : List V := [(.raw (.int .i64 0)), (.raw (.slice none 0 0)), (.raw (.map none))]
theorem st97 : StructTy Try.prog 97 [(0, 2), (2, 1)] zs97 := by
  obtain ⟨i, h1, h2⟩ : ∃ i, Try.prog.info? 97 = some i ∧ i.zero = some (.agg #[(.int .i64 0), (.slice none 0 0), (.map none)]) := info_zero (by kernel_rfl)
  exact ⟨⟨_, i, _, Try.underlying97, h1, h2, by kernel_rfl, rfl⟩, rfl⟩
theorem zr97 : (Try.prog.info? 97).map (·.zero) = some (some (.agg #[(.int .i64 0), (.slice none 0 0), (.map none)])) := by kernel_rfl
theorem ty98 : AggTy Try.prog 98 3 := ⟨⟨_, Try.underlying98, rfl⟩, by kernel_rfl⟩
theorem fa98_0 : FieldTy Try.prog 98 0 0 2 true := ⟨⟨_, _, Try.underlying98, rfl, rfl, by kernel_rfl, ⟨_, Try.underlying24, rfl⟩, by decide⟩⟩
theorem fa98_1 : FieldTy Try.prog 98 1 2 1 false := ⟨⟨_, _, Try.underlying98, rfl, rfl, by kernel_rfl, ⟨_, Try.underlying96, rfl⟩, by decide⟩⟩
def zs98 : List V := [(.raw (.int .i64 0)), (.raw (.slice none 0 0)), (.raw (.map none))]
theorem st98 : StructTy Try.prog 98 [(0, 2), (2, 1)] zs98 := by
  obtain ⟨i, h1, h2⟩ : ∃ i, Try.prog.info? 98 = some i ∧ i.zero = some (.agg #[(.int .i64 0), (.slice none 0 0), (.map none)]) := info_zero (by kernel_rfl)
  exact ⟨⟨_, i, _, Try.underlying98, h1, h2, by kernel_rfl, rfl⟩, rfl⟩
theorem zr98 : (Try.prog.info? 98).map (·.zero) = some (some (.agg #[(.int .i64 0), (.slice none 0 0), (.map none)])) := by kernel_rfl
theorem ty99 : LeafTy Try.prog 99 := ⟨⟨_, Try.underlying99, rfl⟩, by kernel_rfl⟩
theorem zr99 : (Try.prog.info? 99).map (·.zero) = some (some (.nilFunc)) := by kernel_rfl
theorem ty100 : LeafTy Try.prog 100 := ⟨⟨_, Try.underlying100, rfl⟩, by kernel_rfl⟩
theorem zr100 : (Try.prog.info? 100).map (·.zero) = some (some (.nilFunc)) := by kernel_rfl
theorem ty101 : LeafTy Try.prog 101 := ⟨⟨_, Try.underlying101, rfl⟩, by kernel_rfl⟩
theorem zr101 : (Try.prog.info? 101).map (·.zero) = some (some (.nilFunc)) := by kernel_rfl
theorem ty102 : LeafTy Try.prog 102 := ⟨⟨_, Try.underlying102, rfl⟩, by kernel_rfl⟩
theorem zr102 : (Try.prog.info? 102).map (·.zero) = some (some (.nilFunc)) := by kernel_rfl
theorem ty103 : LeafTy Try.prog 103 := ⟨⟨_, Try.underlying103, rfl⟩, by kernel_rfl⟩
theorem zr103 : (Try.prog.info? 103).map (·.zero) = some (some (.nilFunc)) := by kernel_rfl
theorem ty104 : LeafTy Try.prog 104 := ⟨⟨_, Try.underlying104, rfl⟩, by kernel_rfl⟩
theorem zr104 : (Try.prog.info? 104).map (·.zero) = some (some (.nilFunc)) := by kernel_rfl
theorem ty105 : LeafTy Try.prog 105 := ⟨⟨_, Try.underlying105, rfl⟩, by kernel_rfl⟩
theorem zr105 : (Try.prog.info? 105).map (·.zero) = some (some (.slice none 0 0)) := by kernel_rfl
theorem sl105 : SliceTy Try.prog 105 112 4 48 (.agg #[(.int .i64 0), (.int .i64 0), (.slice none 0 0), (.pointer none)]) := ⟨Try.underlying105, info_all (by kernel_rfl), rfl, by decide⟩
theorem ty106 : LeafTy Try.prog 106 := ⟨⟨_, Try.underlying106, rfl⟩, by kernel_rfl⟩
theorem zr106 : (Try.prog.info? 106).map (·.zero) = some (some (.pointer none)) := by kernel_rfl
theorem ty107 : LeafTy Try.prog 107 := ⟨⟨_, Try.underlying107, rfl⟩, by kernel_rfl⟩
theorem zr107 : (Try.prog.info? 107).map (·.zero) = some (some (.map none)) := by kernel_rfl
theorem ty108 : AggTy Try.prog 108 5 := ⟨⟨_, Try.underlying108, rfl⟩, by kernel_rfl⟩
theorem fa108_0 : FieldTy Try.prog 108 0 0 1 false := ⟨⟨_, _, Try.underlying108, rfl, rfl, by kernel_rfl, ⟨_, Try.underlying3, rfl⟩, by decide⟩⟩
theorem fa108_1 : FieldTy Try.prog 108 1 1 1 false := ⟨⟨_, _, Try.underlying108, rfl, rfl, by kernel_rfl, ⟨_, Try.underlying3, rfl⟩, by decide⟩⟩
theorem fa108_2 : FieldTy Try.prog 108 2 2 1 false := ⟨⟨_, _, Try.underlying108, rfl, rfl, by kernel_rfl, ⟨_, Try.underlying3, rfl⟩, by decide⟩⟩
theorem fa108_3 : FieldTy Try.prog 108 3 3 1 false := ⟨⟨_, _, Try.underlying108, rfl, rfl, by kernel_rfl, ⟨_, Try.underlying3, rfl⟩, by decide⟩⟩
theorem fa108_4 : FieldTy Try.prog 108 4 4 1 false := ⟨⟨_, _, Try.underlying108, rfl, rfl, by kernel_rfl, ⟨_, Try.underlying107, rfl⟩, by decide⟩⟩
def zs108 : List V := [(.raw (.int .i64 0)), (.raw (.int .i64 0)), (.raw (.int .i64 0)), (.raw (.int .i64 0)), (.raw (.map none))]
theorem st108 : StructTy Try.prog 108 [(0, 1), (1, 1), (2, 1), (3, 1), (4, 1)] zs108 := by
  obtain ⟨i, h1, h2⟩ : ∃ i, Try.prog.info? 108 = some i ∧ i.zero = some (.agg #[(.int .i64 0), (.int .i64 0), (.int .i64 0), (.int .i64 0), (.map none)]) := info_zero (by kernel_rfl)
  exact ⟨⟨_, i, _, Try.underlying108, h1, h2, by kernel_rfl, rfl⟩, rfl⟩
theorem zr108 : (Try.prog.info? 108).map (·.zero) = some (some (.agg #[(.int .i64 0), (.int .i64 0), (.int .i64 0), (.int .i64 0), (.map none)])) := by kernel_rfl
theorem ty109 : AggTy Try.prog 109 5 := ⟨⟨_, Try.underlying109, rfl⟩, by kernel_rfl⟩
theorem fa109_0 : FieldTy Try.prog 109 0 0 1 false := ⟨⟨_, _, Try.underlying109, rfl, rfl, by kernel_rfl, ⟨_, Try.underlying3, rfl⟩, by decide⟩⟩
theorem fa109_1 : FieldTy Try.prog 109 1 1 1 false := ⟨⟨_, _, Try.underlying109, rfl, rfl, by kernel_rfl, ⟨_, Try.underlying3, rfl⟩, by decide⟩⟩
theorem fa109_2 : FieldTy Try.prog 109 2 2 1 false := ⟨⟨_, _, Try.underlying109, rfl, rfl, by kernel_rfl, ⟨_, Try.underlying3, rfl⟩, by decide⟩⟩
theorem fa109_3 : FieldTy Try.prog 109 3 3 1 false := ⟨⟨_, _, Try.underlying109, rfl, rfl, by kernel_rfl, ⟨_, Try.underlying3, rfl⟩, by decide⟩⟩
theorem fa109_4 : FieldTy Try.prog 109 4 4 1 false := ⟨⟨_, _, Try.underlying109, rfl, rfl, by kernel_rfl, ⟨_, Try.underlying107, rfl⟩, by decide⟩⟩
def zs109 : List V := [(.raw (.int .i64 0)), (.raw (.int .i64 0)), (.raw (.int .i64 0)), (.raw (.int .i64 0)), (.raw (.map none))]
theorem st109 : StructTy Try.prog 109 [(0, 1), (1, 1), (2, 1), (3, 1), (4, 1)] zs109 := by
  obtain ⟨i, h1, h2⟩ : ∃ i, Try.prog.info? 109 = some i ∧ i.zero = some (.agg #[(.int .i64 0), (.int .i64 0), (.int .i64 0), (.int .i64 0), (.map none)]) := info_zero (by kernel_rfl)
  exact ⟨⟨_, i, _, Try.underlying109, h1, h2, by kernel_rfl, rfl⟩, rfl⟩
theorem zr109 : (Try.prog.info? 109).map (·.zero) = some (some (.agg #[(.int .i64 0), (.int .i64 0), (.int .i64 0), (.int .i64 0), (.map none)])) := by kernel_rfl
theorem ty110 : LeafTy Try.prog 110 := ⟨⟨_, Try.underlying110, rfl⟩, by kernel_rfl⟩
theorem zr110 : (Try.prog.info? 110).map (·.zero) = some (some (.pointer none)) := by kernel_rfl
theorem ty111 : AggTy Try.prog 111 4 := ⟨⟨_, Try.underlying111, rfl⟩, by kernel_rfl⟩
theorem fa111_0 : FieldTy Try.prog 111 0 0 1 false := ⟨⟨_, _, Try.underlying111, rfl, rfl, by kernel_rfl, ⟨_, Try.underlying3, rfl⟩, by decide⟩⟩
theorem fa111_1 : FieldTy Try.prog 111 1 1 1 false := ⟨⟨_, _, Try.underlying111, rfl, rfl, by kernel_rfl, ⟨_, Try.underlying3, rfl⟩, by decide⟩⟩
theorem fa111_2 : FieldTy Try.prog 111 2 2 1 false := ⟨⟨_, _, Try.underlying111, rfl, rfl, by kernel_rfl, ⟨_, Try.underlying105, rfl⟩, by decide⟩⟩
theorem fa111_3 : FieldTy Try.prog 111 3 3 1 false := ⟨⟨_, _, Try.underlying111, rfl, rfl, by kernel_rfl, ⟨_, Try.underlying110, rfl⟩, by decide⟩⟩
def zs111 : List V := [(.raw (.int .i64 0)), (.raw (.int .i64 0)), (.raw (.slice none 0 0)), (.raw (.pointer none))]
theorem st111 : StructTy Try.prog 111 [(0, 1), (1, 1), (2, 1), (3, 1)] zs111 := by
  obtain ⟨i, h1, h2⟩ : ∃ i, Try.prog.info? 111 = some i ∧ i.zero = some (.agg #[(.int .i64 0), (.int .i64 0), (.slice none 0 0), (.pointer none)]) := info_zero (by kernel_rfl)
  exact ⟨⟨_, i, _, Try.underlying111, h1, h2, by kernel_rfl, rfl⟩, rfl⟩
theorem zr111 : (Try.prog.info? 111).map (·.zero) = some (some (.agg #[(.int .i64 0), (.int .i64 0), (.slice none 0 0), (.pointer none)])) := by kernel_rfl
theorem ty112 : AggTy Try.prog 112 4 := ⟨⟨_, Try.underlying112, rfl⟩, by kernel_rfl⟩
theorem fa112_0 : FieldTy Try.prog 112 0 0 1 false := ⟨⟨_, _, Try.underlying112, rfl, rfl, by kernel_rfl, ⟨_, Try.underlying3, rfl⟩, by decide⟩⟩
theorem fa112_1 : FieldTy Try.prog 112 1 1 1 false := ⟨⟨_, _, Try.underlying112, rfl, rfl, by kernel_rfl, ⟨_, Try.underlying3, rfl⟩, by decide⟩⟩
theorem fa112_2 : FieldTy Try.prog 112 2 2 1 false := ⟨⟨_, _, Try.underlying112, rfl, rfl, by kernel_rfl, ⟨_, Try.underlying105, rfl⟩, by decide⟩⟩
theorem fa112_3 : FieldTy Try.prog 112 3 3 1 false := ⟨⟨_, _, Try.underlying112, rfl, rfl, by kernel_rfl, ⟨_, Try.underlying110, rfl⟩, by decide⟩⟩
def zs112 : List V := [(.raw (.int .i64 0)), (.raw (.int .i64 0)), (.raw (.slice none 0 0)), (.raw (.pointer none))]
theorem st112 : StructTy Try.prog 112 [(0, 1), (1, 1), (2, 1), (3, 1)] zs112 := by
  obtain ⟨i, h1, h2⟩ : ∃ i, Try.prog.info? 112 = some i ∧ i.zero = some (.agg #[(.int .i64 0), (.int .i64 0), (.slice none 0 0), (.pointer none)]) := info_zero (by kernel_rfl)
  exact ⟨⟨_, i, _, Try.underlying112, h1, h2, by kernel_rfl, rfl⟩, rfl⟩
theorem zr112 : (Try.prog.info? 112).map (·.zero) = some (some (.agg #[(.int .i64 0), (.int .i64 0), (.slice none 0 0), (.pointer none)])) := by kernel_rfl
theorem ty113 : LeafTy Try.prog 113 := ⟨⟨_, Try.underlying113, rfl⟩, by kernel_rfl⟩
theorem zr113 : (Try.prog.info? 113).map (·.zero) = some (some (.nilFunc)) := by kernel_rfl
theorem ty114 : LeafTy Try.prog 114 := ⟨⟨_, Try.underlying114, rfl⟩, by kernel_rfl⟩
theorem zr114 : (Try.prog.info? 114).map (·.zero) = some (some (.nilFunc)) := by kernel_rfl
theorem ty115 : LeafTy Try.prog 115 := ⟨⟨_, Try.underlying115, rfl⟩, by kernel_rfl⟩
theorem zr115 : (Try.prog.info? 115).map (·.zero) = some (some (.nilFunc)) := by kernel_rfl
theorem ty117 : LeafTy Try.prog 117 := ⟨⟨_, Try.underlying117, rfl⟩, by kernel_rfl⟩
theorem zr117 : (Try.prog.info? 117).map (·.zero) = some (some (.nilFunc)) := by kernel_rfl
theorem ty118 : LeafTy Try.prog 118 := ⟨⟨_, Try.underlying118, rfl⟩, by kernel_rfl⟩
theorem zr118 : (Try.prog.info? 118).map (·.zero) = some (some (.nilFunc)) := by kernel_rfl
theorem ty119 : AggTy Try.prog 119 2 := ⟨⟨_, Try.underlying119, rfl⟩, by kernel_rfl⟩
theorem fa119_0 : FieldTy Try.prog 119 0 0 1 false := ⟨⟨_, _, Try.underlying119, rfl, rfl, by kernel_rfl, ⟨_, Try.underlying3, rfl⟩, by decide⟩⟩
theorem fa119_1 : FieldTy Try.prog 119 1 1 1 false := ⟨⟨_, _, Try.underlying119, rfl, rfl, by kernel_rfl, ⟨_, Try.underlying3, rfl⟩, by decide⟩⟩
def zs119 : List V := [(.raw (.int .i64 0)), (.raw (.int .i64 0))]
theorem st119 : StructTy Try.prog 119 [(0, 1), (1, 1)] zs119 := by
  obtain ⟨i, h1, h2⟩ : ∃ i, Try.prog.info? 119 = some i ∧ i.zero = some (.agg #[(.int .i64 0), (.int .i64 0)]) := info_zero (by kernel_rfl)
  exact ⟨⟨_, i, _, Try.underlying119, h1, h2, by kernel_rfl, rfl⟩, rfl⟩
theorem zr119 : (Try.prog.info? 119).map (·.zero) = some (some (.agg #[(.int .i64 0), (.int .i64 0)])) := by kernel_rfl
theorem ty120 : AggTy Try.prog 120 2 := ⟨⟨_, Try.underlying120, rfl⟩, by kernel_rfl⟩
theorem fa120_0 : FieldTy Try.prog 120 0 0 1 false := ⟨⟨_, _, Try.underlying120, rfl, rfl, by kernel_rfl, ⟨_, Try.underlying3, rfl⟩, by decide⟩⟩
theorem fa120_1 : FieldTy Try.prog 120 1 1 1 false := ⟨⟨_, _, Try.underlying120, rfl, rfl, by kernel_rfl, ⟨_, Try.underlying3, rfl⟩, by decide⟩⟩
def zs120 : List V := [(.raw (.int .i64 0)), (.raw (.int .i64 0))]
theorem st120 : StructTy Try.prog 120 [(0, 1), (1, 1)] zs120 := by
  obtain ⟨i, h1, h2⟩ : ∃ i, Try.prog.info? 120 = some i ∧ i.zero = some (.agg #[(.int .i64 0), (.int .i64 0)]) := info_zero (by kernel_rfl)
  exact ⟨⟨_, i, _, Try.underlying120, h1, h2, by kernel_rfl, rfl⟩, rfl⟩
theorem zr120 : (Try.prog.info? 120).map (·.zero) = some (some (.agg #[(.int .i64 0), (.int .i64 0)])) := by kernel_rfl
theorem ty121 : LeafTy Try.prog 121 := ⟨⟨_, Try.underlying121, rfl⟩, by kernel_rfl⟩
theorem zr121 : (Try.prog.info? 121).map (·.zero) = some (some (.nilFunc)) := by kernel_rfl
theorem ty122 : LeafTy Try.prog 122 := ⟨⟨_, Try.underlying122, rfl⟩, by kernel_rfl⟩
theorem zr122 : (Try.prog.info? 122).map (·.zero) = some (some (.nilFunc)) := by kernel_rfl
theorem ty123 : LeafTy Try.prog 123 := ⟨⟨_, Try.underlying123, rfl⟩, by kernel_rfl⟩
theorem zr123 : (Try.prog.info? 123).map (·.zero) = some (some (.slice none 0 0)) := by kernel_rfl
theorem sl123 : SliceTy Try.prog 123 126 2 16 (.agg #[(.int .u64 0), (.int .u64 0)]) := ⟨Try.underlying123, info_all (by kernel_rfl), rfl, by decide⟩
theorem ty124 : LeafTy Try.prog 124 := ⟨⟨_, Try.underlying124, rfl⟩, by kernel_rfl⟩
theorem zr124 : (Try.prog.info? 124).map (·.zero) = some (some (.int .u64 0)) := by kernel_rfl
theorem ty125 : AggTy Try.prog 125 2 := ⟨⟨_, Try.underlying125, rfl⟩, by kernel_rfl⟩
def zs125 : List V := [(.raw (.int .u64 0)), (.raw (.int .u64 0))]
theorem at125 : ArrTy Try.prog 125 2 124 1 zs125 := arr_ty (cs := [.int .u64 0, .int .u64 0]) Try.underlying125 (by kernel_rfl) (by kernel_rfl) rfl rfl
theorem se125 : (Try.prog.info? 124).map (·.size) = some 1 := by kernel_rfl
theorem zr125 : (Try.prog.info? 125).map (·.zero) = some (some (.agg #[(.int .u64 0), (.int .u64 0)])) := by kernel_rfl
theorem ty126 : AggTy Try.prog 126 2 := ⟨⟨_, Try.underlying126, rfl⟩, by kernel_rfl⟩
def zs126 : List V := [(.raw (.int .u64 0)), (.raw (.int .u64 0))]
theorem at126 : ArrTy Try.prog 126 2 124 1 zs126 := arr_ty (cs := [.int .u64 0, .int .u64 0]) Try.underlying126 (by kernel_rfl) (by kernel_rfl) rfl rfl
theorem se126 : (Try.prog.info? 124).map (·.size) = some 1 := by kernel_rfl
theorem zr126 : (Try.prog.info? 126).map (·.zero) = some (some (.agg #[(.int .u64 0), (.int .u64 0)])) := by kernel_rfl
theorem ty128 : LeafTy Try.prog 128 := ⟨⟨_, Try.underlying128, rfl⟩, by kernel_rfl⟩
theorem zr128 : (Try.prog.info? 128).map (·.zero) = some (some (.nilFunc)) := by kernel_rfl
theorem ty130 : LeafTy Try.prog 130 := ⟨⟨_, Try.underlying130, rfl⟩, by kernel_rfl⟩
theorem zr130 : (Try.prog.info? 130).map (·.zero) = some (some (.nilFunc)) := by kernel_rfl
theorem ty131 : LeafTy Try.prog 131 := ⟨⟨_, Try.underlying131, rfl⟩, by kernel_rfl⟩
theorem zr131 : (Try.prog.info? 131).map (·.zero) = some (some (.nilFunc)) := by kernel_rfl
theorem ty132 : LeafTy Try.prog 132 := ⟨⟨_, Try.underlying132, rfl⟩, by kernel_rfl⟩
theorem zr132 : (Try.prog.info? 132).map (·.zero) = some (some (.nilFunc)) := by kernel_rfl
theorem ty133 : LeafTy Try.prog 133 := ⟨⟨_, Try.underlying133, rfl⟩, by kernel_rfl⟩
theorem zr133 : (Try.prog.info? 133).map (·.zero) = some (some (.nilFunc)) := by kernel_rfl
theorem ty134 : LeafTy Try.prog 134 := ⟨⟨_, Try.underlying134, rfl⟩, by kernel_rfl⟩
theorem zr134 : (Try.prog.info? 134).map (·.zero) = some (some (.nilFunc)) := by kernel_rfl
theorem ty135 : LeafTy Try.prog 135 := ⟨⟨_, Try.underlying135, rfl⟩, by kernel_rfl⟩
theorem zr135 : (Try.prog.info? 135).map (·.zero) = some (some (.nilFunc)) := by kernel_rfl
theorem ty136 : LeafTy Try.prog 136 := ⟨⟨_, Try.underlying136, rfl⟩, by kernel_rfl⟩
theorem zr136 : (Try.prog.info? 136).map (·.zero) = some (some (.nilFunc)) := by kernel_rfl
theorem ty137 : LeafTy Try.prog 137 := ⟨⟨_, Try.underlying137, rfl⟩, by kernel_rfl⟩
theorem zr137 : (Try.prog.info? 137).map (·.zero) = some (some (.nilFunc)) := by kernel_rfl
theorem ty139 : LeafTy Try.prog 139 := ⟨⟨_, Try.underlying139, rfl⟩, by kernel_rfl⟩
theorem zr139 : (Try.prog.info? 139).map (·.zero) = some (some (.nilFunc)) := by kernel_rfl
theorem ty140 : LeafTy Try.prog 140 := ⟨⟨_, Try.underlying140, rfl⟩, by kernel_rfl⟩
theorem zr140 : (Try.prog.info? 140).map (·.zero) = some (some (.nilFunc)) := by kernel_rfl
theorem ty141 : LeafTy Try.prog 141 := ⟨⟨_, Try.underlying141, rfl⟩, by kernel_rfl⟩
theorem zr141 : (Try.prog.info? 141).map (·.zero) = some (some (.nilFunc)) := by kernel_rfl
theorem ty142 : LeafTy Try.prog 142 := ⟨⟨_, Try.underlying142, rfl⟩, by kernel_rfl⟩
theorem zr142 : (Try.prog.info? 142).map (·.zero) = some (some (.nilFunc)) := by kernel_rfl
theorem ty143 : LeafTy Try.prog 143 := ⟨⟨_, Try.underlying143, rfl⟩, by kernel_rfl⟩
theorem zr143 : (Try.prog.info? 143).map (·.zero) = some (some (.nilFunc)) := by kernel_rfl
theorem ty144 : LeafTy Try.prog 144 := ⟨⟨_, Try.underlying144, rfl⟩, by kernel_rfl⟩
theorem zr144 : (Try.prog.info? 144).map (·.zero) = some (some (.nilFunc)) := by kernel_rfl
theorem ty145 : LeafTy Try.prog 145 := ⟨⟨_, Try.underlying145, rfl⟩, by kernel_rfl⟩
theorem zr145 : (Try.prog.info? 145).map (·.zero) = some (some (.nilFunc)) := by kernel_rfl
theorem ty146 : LeafTy Try.prog 146 := ⟨⟨_, Try.underlying146, rfl⟩, by kernel_rfl⟩
theorem zr146 : (Try.prog.info? 146).map (·.zero) = some (some (.nilFunc)) := by kernel_rfl
theorem ty147 : LeafTy Try.prog 147 := ⟨⟨_, Try.underlying147, rfl⟩, by kernel_rfl⟩
theorem zr147 : (Try.prog.info? 147).map (·.zero) = some (some (.nilFunc)) := by kernel_rfl
theorem ty148 : AggTy Try.prog 148 4 := ⟨⟨_, Try.underlying148, rfl⟩, by kernel_rfl⟩
theorem fa148_0 : FieldTy Try.prog 148 0 0 1 false := ⟨⟨_, _, Try.underlying148, rfl, rfl, by kernel_rfl, ⟨_, Try.underlying17, rfl⟩, by decide⟩⟩
theorem fa148_1 : FieldTy Try.prog 148 1 1 1 false := ⟨⟨_, _, Try.underlying148, rfl, rfl, by kernel_rfl, ⟨_, Try.underlying17, rfl⟩, by decide⟩⟩
theorem fa148_2 : FieldTy Try.prog 148 2 2 1 false := ⟨⟨_, _, Try.underlying148, rfl, rfl, by kernel_rfl, ⟨_, Try.underlying17, rfl⟩, by decide⟩⟩
theorem fa148_3 : FieldTy Try.prog 148 3 3 1 false := ⟨⟨_, _, Try.underlying148, rfl, rfl, by kernel_rfl, ⟨_, Try.underlying9, rfl⟩, by decide⟩⟩
def zs148 : List V := [(.raw (.pointer none)), (.raw (.pointer none)), (.raw (.pointer none)), (.raw (.string ⟨#[]⟩))]
theorem st148 : StructTy Try.prog 148 [(0, 1), (1, 1), (2, 1), (3, 1)] zs148 := by
  obtain ⟨i, h1, h2⟩ : ∃ i, Try.prog.info? 148 = some i ∧ i.zero = some (.agg #[(.pointer none), (.pointer none), (.pointer none), (.string ⟨#[]⟩)]) := info_zero (by kernel_rfl)
  exact ⟨⟨_, i, _, Try.underlying148, h1, h2, by kernel_rfl, rfl⟩, rfl⟩
theorem zr148 : (Try.prog.info? 148).map (·.zero) = some (some (.agg #[(.pointer none), (.pointer none), (.pointer none), (.string ⟨#[]⟩)])) := by kernel_rfl
theorem ty149 : AggTy Try.prog 149 4 := ⟨⟨_, Try.underlying149, rfl⟩, by kernel_rfl⟩
theorem fa149_0 : FieldTy Try.prog 149 0 0 1 false := ⟨⟨_, _, Try.underlying149, rfl, rfl, by kernel_rfl, ⟨_, Try.underlying17, rfl⟩, by decide⟩⟩
theorem fa149_1 : FieldTy Try.prog 149 1 1 1 false := ⟨⟨_, _, Try.underlying149, rfl, rfl, by kernel_rfl, ⟨_, Try.underlying17, rfl⟩, by decide⟩⟩
theorem fa149_2 : FieldTy Try.prog 149 2 2 1 false := ⟨⟨_, _, Try.underlying149, rfl, rfl, by kernel_rfl, ⟨_, Try.underlying17, rfl⟩, by decide⟩⟩
theorem fa149_3 : FieldTy Try.prog 149 3 3 1 false := ⟨⟨_, _, Try.underlying149, rfl, rfl, by kernel_rfl, ⟨_, Try.underlying9, rfl⟩, by decide⟩⟩
def zs149 : List V := [(.raw (.pointer none)), (.raw (.pointer none)), (.raw (.pointer none)), (.raw (.string ⟨#[]⟩))]
theorem st149 : StructTy Try.prog 149 [(0, 1), (1, 1), (2, 1), (3, 1)] zs149 := by
  obtain ⟨i, h1, h2⟩ : ∃ i, Try.prog.info? 149 = some i ∧ i.zero = some (.agg #[(.pointer none), (.pointer none), (.pointer none), (.string ⟨#[]⟩)]) := info_zero (by kernel_rfl)
  exact ⟨⟨_, i, _, Try.underlying149, h1, h2, by kernel_rfl, rfl⟩, rfl⟩
theorem zr149 : (Try.prog.info? 149).map (·.zero) = some (some (.agg #[(.pointer none), (.pointer none), (.pointer none), (.string ⟨#[]⟩)])) := by kernel_rfl
theorem ty150 : AggTy Try.prog 150 0 := ⟨⟨_, Try.underlying150, rfl⟩, by kernel_rfl⟩
def zs150 : List V := []
theorem at150 : ArrTy Try.prog 150 0 16 1 zs150 := arr_ty (cs := []) Try.underlying150 (by kernel_rfl) (by kernel_rfl) rfl rfl
theorem se150 : (Try.prog.info? 16).map (·.size) = some 1 := by kernel_rfl
theorem zr150 : (Try.prog.info? 150).map (·.zero) = some (some (.agg #[])) := by kernel_rfl
theorem ty151 : AggTy Try.prog 151 0 := ⟨⟨_, Try.underlying151, rfl⟩, by kernel_rfl⟩
def zs151 : List V := []
theorem st151 : StructTy Try.prog 151 [(0, 0)] zs151 := by
  obtain ⟨i, h1, h2⟩ : ∃ i, Try.prog.info? 151 = some i ∧ i.zero = some (.agg #[]) := info_zero (by kernel_rfl)
  exact ⟨⟨_, i, _, Try.underlying151, h1, h2, by kernel_rfl, rfl⟩, rfl⟩
theorem zr151 : (Try.prog.info? 151).map (·.zero) = some (some (.agg #[])) := by kernel_rfl
theorem ty152 : AggTy Try.prog 152 0 := ⟨⟨_, Try.underlying152, rfl⟩, by kernel_rfl⟩
def zs152 : List V := []
theorem st152 : StructTy Try.prog 152 [(0, 0)] zs152 := by
  obtain ⟨i, h1, h2⟩ : ∃ i, Try.prog.info? 152 = some i ∧ i.zero = some (.agg #[]) := info_zero (by kernel_rfl)
  exact ⟨⟨_, i, _, Try.underlying152, h1, h2, by kernel_rfl, rfl⟩, rfl⟩
theorem zr152 : (Try.prog.info? 152).map (·.zero) = some (some (.agg #[])) := by kernel_rfl
theorem ty153 : LeafTy Try.prog 153 := ⟨⟨_, Try.underlying153, rfl⟩, by kernel_rfl⟩
theorem zr153 : (Try.prog.info? 153).map (·.zero) = some (some (.nilFunc)) := by kernel_rfl
theorem ty154 : LeafTy Try.prog 154 := ⟨⟨_, Try.underlying154, rfl⟩, by kernel_rfl⟩
theorem zr154 : (Try.prog.info? 154).map (·.zero) = some (some (.int .u32 0)) := by kernel_rfl
theorem ty155 : LeafTy Try.prog 155 := ⟨⟨_, Try.underlying155, rfl⟩, by kernel_rfl⟩
theorem zr155 : (Try.prog.info? 155).map (·.zero) = some (some (.int .u8 0)) := by kernel_rfl
theorem ty156 : LeafTy Try.prog 156 := ⟨⟨_, Try.underlying156, rfl⟩, by kernel_rfl⟩
theorem zr156 : (Try.prog.info? 156).map (·.zero) = some (some (.int .u8 0)) := by kernel_rfl
theorem ty157 : LeafTy Try.prog 157 := ⟨⟨_, Try.underlying157, rfl⟩, by kernel_rfl⟩
theorem zr157 : (Try.prog.info? 157).map (·.zero) = some (some (.nilFunc)) := by kernel_rfl
theorem ty158 : LeafTy Try.prog 158 := ⟨⟨_, Try.underlying158, rfl⟩, by kernel_rfl⟩
theorem zr158 : (Try.prog.info? 158).map (·.zero) = some (some (.pointer none)) := by kernel_rfl
theorem ty159 : LeafTy Try.prog 159 := ⟨⟨_, Try.underlying159, rfl⟩, by kernel_rfl⟩
theorem zr159 : (Try.prog.info? 159).map (·.zero) = some (some (.int .i32 0)) := by kernel_rfl
theorem ty160 : LeafTy Try.prog 160 := ⟨⟨_, Try.underlying160, rfl⟩, by kernel_rfl⟩
theorem zr160 : (Try.prog.info? 160).map (·.zero) = some (some (.int .i32 0)) := by kernel_rfl
theorem ty161 : AggTy Try.prog 161 11 := ⟨⟨_, Try.underlying161, rfl⟩, by kernel_rfl⟩
theorem fa161_0 : FieldTy Try.prog 161 0 0 1 false := ⟨⟨_, _, Try.underlying161, rfl, rfl, by kernel_rfl, ⟨_, Try.underlying12, rfl⟩, by decide⟩⟩
theorem fa161_1 : FieldTy Try.prog 161 1 1 1 false := ⟨⟨_, _, Try.underlying161, rfl, rfl, by kernel_rfl, ⟨_, Try.underlying12, rfl⟩, by decide⟩⟩
theorem fa161_2 : FieldTy Try.prog 161 2 2 1 false := ⟨⟨_, _, Try.underlying161, rfl, rfl, by kernel_rfl, ⟨_, Try.underlying154, rfl⟩, by decide⟩⟩
theorem fa161_3 : FieldTy Try.prog 161 3 3 1 false := ⟨⟨_, _, Try.underlying161, rfl, rfl, by kernel_rfl, ⟨_, Try.underlying155, rfl⟩, by decide⟩⟩
theorem fa161_4 : FieldTy Try.prog 161 4 4 1 false := ⟨⟨_, _, Try.underlying161, rfl, rfl, by kernel_rfl, ⟨_, Try.underlying5, rfl⟩, by decide⟩⟩
theorem fa161_5 : FieldTy Try.prog 161 5 5 1 false := ⟨⟨_, _, Try.underlying161, rfl, rfl, by kernel_rfl, ⟨_, Try.underlying5, rfl⟩, by decide⟩⟩
theorem fa161_6 : FieldTy Try.prog 161 6 6 1 false := ⟨⟨_, _, Try.underlying161, rfl, rfl, by kernel_rfl, ⟨_, Try.underlying156, rfl⟩, by decide⟩⟩
theorem fa161_7 : FieldTy Try.prog 161 7 7 1 false := ⟨⟨_, _, Try.underlying161, rfl, rfl, by kernel_rfl, ⟨_, Try.underlying157, rfl⟩, by decide⟩⟩
theorem fa161_8 : FieldTy Try.prog 161 8 8 1 false := ⟨⟨_, _, Try.underlying161, rfl, rfl, by kernel_rfl, ⟨_, Try.underlying158, rfl⟩, by decide⟩⟩
theorem fa161_9 : FieldTy Try.prog 161 9 9 1 false := ⟨⟨_, _, Try.underlying161, rfl, rfl, by kernel_rfl, ⟨_, Try.underlying159, rfl⟩, by decide⟩⟩
theorem fa161_10 : FieldTy Try.prog 161 10 10 1 false := ⟨⟨_, _, Try.underlying161, rfl, rfl, by kernel_rfl, ⟨_, Try.underlying160, rfl⟩, by decide⟩⟩
def zs161 : List V := [(.raw (.int .u64 0)), (.raw (.int .u64 0)), (.raw (.int .u32 0)), (.raw (.int .u8 0)), (.raw (.int .u8 0)), (.raw (.int .u8 0)), (.raw (.int .u8 0)), (.raw (.nilFunc)), (.raw (.pointer none)), (.raw (.int .i32 0)), (.raw (.int .i32 0))]
theorem st161 : StructTy Try.prog 161 [(0, 1), (1, 1), (2, 1), (3, 1), (4, 1), (5, 1), (6, 1), (7, 1), (8, 1), (9, 1), (10, 1)] zs161 := by
  obtain ⟨i, h1, h2⟩ : ∃ i, Try.prog.info? 161 = some i ∧ i.zero = some (.agg #[(.int .u64 0), (.int .u64 0), (.int .u32 0), (.int .u8 0), (.int .u8 0), (.int .u8 0), (.int .u8 0), (.nilFunc), (.pointer none), (.int .i32 0), (.int .i32 0)]) := info_zero (by kernel_rfl)
  exact ⟨⟨_, i, _, Try.underlying161, h1, h2, by kernel_rfl, rfl⟩, rfl⟩
theorem zr161 : (Try.prog.info? 161).map (·.zero) = some (some (.agg #[(.int .u64 0), (.int .u64 0), (.int .u32 0), (.int .u8 0), (.int .u8 0), (.int .u8 0), (.int .u8 0), (.nilFunc), (.pointer none), (.int .i32 0), (.int .i32 0)])) := by kernel_rfl
theorem ty162 : AggTy Try.prog 162 11 := ⟨⟨_, Try.underlying162, rfl⟩, by kernel_rfl⟩
theorem fa162_0 : FieldTy Try.prog 162 0 0 1 false := ⟨⟨_, _, Try.underlying162, rfl, rfl, by kernel_rfl, ⟨_, Try.underlying12, rfl⟩, by decide⟩⟩
theorem fa162_1 : FieldTy Try.prog 162 1 1 1 false := ⟨⟨_, _, Try.underlying162, rfl, rfl, by kernel_rfl, ⟨_, Try.underlying12, rfl⟩, by decide⟩⟩
theorem fa162_2 : FieldTy Try.prog 162 2 2 1 false := ⟨⟨_, _, Try.underlying162, rfl, rfl, by kernel_rfl, ⟨_, Try.underlying154, rfl⟩, by decide⟩⟩
theorem fa162_3 : FieldTy Try.prog 162 3 3 1 false := ⟨⟨_, _, Try.underlying162, rfl, rfl, by kernel_rfl, ⟨_, Try.underlying155, rfl⟩, by decide⟩⟩
theorem fa162_4 : FieldTy Try.prog 162 4 4 1 false := ⟨⟨_, _, Try.underlying162, rfl, rfl, by kernel_rfl, ⟨_, Try.underlying5, rfl⟩, by decide⟩⟩
theorem fa162_5 : FieldTy Try.prog 162 5 5 1 false := ⟨⟨_, _, Try.underlying162, rfl, rfl, by kernel_rfl, ⟨_, Try.underlying5, rfl⟩, by decide⟩⟩
theorem fa162_6 : FieldTy Try.prog 162 6 6 1 false := ⟨⟨_, _, Try.underlying162, rfl, rfl, by kernel_rfl, ⟨_, Try.underlying156, rfl⟩, by decide⟩⟩
theorem fa162_7 : FieldTy Try.prog 162 7 7 1 false := ⟨⟨_, _, Try.underlying162, rfl, rfl, by kernel_rfl, ⟨_, Try.underlying157, rfl⟩, by decide⟩⟩
theorem fa162_8 : FieldTy Try.prog 162 8 8 1 false := ⟨⟨_, _, Try.underlying162, rfl, rfl, by kernel_rfl, ⟨_, Try.underlying158, rfl⟩, by decide⟩⟩
theorem fa162_9 : FieldTy Try.prog 162 9 9 1 false := ⟨⟨_, _, Try.underlying162, rfl, rfl, by kernel_rfl, ⟨_, Try.underlying159, rfl⟩, by decide⟩⟩
theorem fa162_10 : FieldTy Try.prog 162 10 10 1 false := ⟨⟨_, _, Try.underlying162, rfl, rfl, by kernel_rfl, ⟨_, Try.underlying160, rfl⟩, by decide⟩⟩
def zs162 : List V := [(.raw (.int .u64 0)), (.raw (.int .u64 0)), (.raw (.int .u32 0)), (.raw (.int .u8 0)), (.raw (.int .u8 0)), (.raw (.int .u8 0)), (.raw (.int .u8 0)), (.raw (.nilFunc)), (.raw (.pointer none)), (.raw (.int .i32 0)), (.raw (.int .i32 0))]
theorem st162 : StructTy Try.prog 162 [(0, 1), (1, 1), (2, 1), (3, 1), (4, 1), (5, 1), (6, 1), (7, 1), (8, 1), (9, 1), (10, 1)] zs162 := by
  obtain ⟨i, h1, h2⟩ : ∃ i, Try.prog.info? 162 = some i ∧ i.zero = some (.agg #[(.int .u64 0), (.int .u64 0), (.int .u32 0), (.int .u8 0), (.int .u8 0), (.int .u8 0), (.int .u8 0), (.nilFunc), (.pointer none), (.int .i32 0), (.int .i32 0)]) := info_zero (by kernel_rfl)
  exact ⟨⟨_, i, _, Try.underlying162, h1, h2, by kernel_rfl, rfl⟩, rfl⟩
theorem zr162 : (Try.prog.info? 162).map (·.zero) = some (some (.agg #[(.int .u64 0), (.int .u64 0), (.int .u32 0), (.int .u8 0), (.int .u8 0), (.int .u8 0), (.int .u8 0), (.nilFunc), (.pointer none), (.int .i32 0), (.int .i32 0)])) := by kernel_rfl
theorem ty163 : LeafTy Try.prog 163 := ⟨⟨_, Try.underlying163, rfl⟩, by kernel_rfl⟩
theorem en2 : Enters Try.prog 2 := ⟨⟨_, Try.func2, by kernel_rfl, by kernel_rfl⟩⟩
theorem en3 : Enters Try.prog 3 := ⟨⟨_, Try.func3, by kernel_rfl, by kernel_rfl⟩⟩
theorem en4 : Enters Try.prog 4 := ⟨⟨_, Try.func4, by kernel_rfl, by kernel_rfl⟩⟩
theorem en5 : Enters Try.prog 5 := ⟨⟨_, Try.func5, by kernel_rfl, by kernel_rfl⟩⟩
theorem en6 : Enters Try.prog 6 := ⟨⟨_, Try.func6, by kernel_rfl, by kernel_rfl⟩⟩
theorem en7 : Enters Try.prog 7 := ⟨⟨_, Try.func7, by kernel_rfl, by kernel_rfl⟩⟩
theorem en8 : Enters Try.prog 8 := ⟨⟨_, Try.func8, by kernel_rfl, by kernel_rfl⟩⟩
theorem en9 : Enters Try.prog 9 := ⟨⟨_, Try.func9, by kernel_rfl, by kernel_rfl⟩⟩
theorem en10 : Enters Try.prog 10 := ⟨⟨_, Try.func10, by kernel_rfl, by kernel_rfl⟩⟩
theorem en11 : Enters Try.prog 11 := ⟨⟨_, Try.func11, by kernel_rfl, by kernel_rfl⟩⟩
theorem en12 : Enters Try.prog 12 := ⟨⟨_, Try.func12, by kernel_rfl, by kernel_rfl⟩⟩
theorem en13 : Enters Try.prog 13 := ⟨⟨_, Try.func13, by kernel_rfl, by kernel_rfl⟩⟩
theorem en14 : Enters Try.prog 14 := ⟨⟨_, Try.func14, by kernel_rfl, by kernel_rfl⟩⟩
theorem en15 : Enters Try.prog 15 := ⟨⟨_, Try.func15, by kernel_rfl, by kernel_rfl⟩⟩
theorem en16 : Enters Try.prog 16 := ⟨⟨_, Try.func16, by kernel_rfl, by kernel_rfl⟩⟩
theorem en17 : Enters Try.prog 17 := ⟨⟨_, Try.func17, by kernel_rfl, by kernel_rfl⟩⟩
theorem en18 : Enters Try.prog 18 := ⟨⟨_, Try.func18, by kernel_rfl, by kernel_rfl⟩⟩
theorem en19 : Enters Try.prog 19 := ⟨⟨_, Try.func19, by kernel_rfl, by kernel_rfl⟩⟩
theorem en20 : Enters Try.prog 20 := ⟨⟨_, Try.func20, by kernel_rfl, by kernel_rfl⟩⟩
theorem en21 : Enters Try.prog 21 := ⟨⟨_, Try.func21, by kernel_rfl, by kernel_rfl⟩⟩
theorem en22 : Enters Try.prog 22 := ⟨⟨_, Try.func22, by kernel_rfl, by kernel_rfl⟩⟩
theorem en23 : Enters Try.prog 23 := ⟨⟨_, Try.func23, by kernel_rfl, by kernel_rfl⟩⟩
theorem en24 : Enters Try.prog 24 := ⟨⟨_, Try.func24, by kernel_rfl, by kernel_rfl⟩⟩
theorem en25 : Enters Try.prog 25 := ⟨⟨_, Try.func25, by kernel_rfl, by kernel_rfl⟩⟩
theorem en26 : Enters Try.prog 26 := ⟨⟨_, Try.func26, by kernel_rfl, by kernel_rfl⟩⟩
theorem en27 : Enters Try.prog 27 := ⟨⟨_, Try.func27, by kernel_rfl, by kernel_rfl⟩⟩
theorem en28 : Enters Try.prog 28 := ⟨⟨_, Try.func28, by kernel_rfl, by kernel_rfl⟩⟩
theorem en29 : Enters Try.prog 29 := ⟨⟨_, Try.func29, by kernel_rfl, by kernel_rfl⟩⟩
theorem en30 : Enters Try.prog 30 := ⟨⟨_, Try.func30, by kernel_rfl, by kernel_rfl⟩⟩
theorem en31 : Enters Try.prog 31 := ⟨⟨_, Try.func31, by kernel_rfl, by kernel_rfl⟩⟩
theorem en32 : Enters Try.prog 32 := ⟨⟨_, Try.func32, by kernel_rfl, by kernel_rfl⟩⟩
theorem en33 : Enters Try.prog 33 := ⟨⟨_, Try.func33, by kernel_rfl, by kernel_rfl⟩⟩
theorem en34 : Enters Try.prog 34 := ⟨⟨_, Try.func34, by kernel_rfl, by kernel_rfl⟩⟩
theorem en35 : Enters Try.prog 35 := ⟨⟨_, Try.func35, by kernel_rfl, by kernel_rfl⟩⟩
theorem en36 : Enters Try.prog 36 := ⟨⟨_, Try.func36, by kernel_rfl, by kernel_rfl⟩⟩
theorem en37 : Enters Try.prog 37 := ⟨⟨_, Try.func37, by kernel_rfl, by kernel_rfl⟩⟩
theorem en38 : Enters Try.prog 38 := ⟨⟨_, Try.func38, by kernel_rfl, by kernel_rfl⟩⟩
theorem en39 : Enters Try.prog 39 := ⟨⟨_, Try.func39, by kernel_rfl, by kernel_rfl⟩⟩
theorem en40 : Enters Try.prog 40 := ⟨⟨_, Try.func40, by kernel_rfl, by kernel_rfl⟩⟩
theorem en41 : Enters Try.prog 41 := ⟨⟨_, Try.func41, by kernel_rfl, by kernel_rfl⟩⟩
theorem en42 : Enters Try.prog 42 := ⟨⟨_, Try.func42, by kernel_rfl, by kernel_rfl⟩⟩
theorem en43 : Enters Try.prog 43 := ⟨⟨_, Try.func43, by kernel_rfl, by kernel_rfl⟩⟩
theorem en44 : Enters Try.prog 44 := ⟨⟨_, Try.func44, by kernel_rfl, by kernel_rfl⟩⟩
theorem en45 : Enters Try.prog 45 := ⟨⟨_, Try.func45, by kernel_rfl, by kernel_rfl⟩⟩
theorem en46 : Enters Try.prog 46 := ⟨⟨_, Try.func46, by kernel_rfl, by kernel_rfl⟩⟩
theorem en47 : Enters Try.prog 47 := ⟨⟨_, Try.func47, by kernel_rfl, by kernel_rfl⟩⟩
theorem en48 : Enters Try.prog 48 := ⟨⟨_, Try.func48, by kernel_rfl, by kernel_rfl⟩⟩
theorem en49 : Enters Try.prog 49 := ⟨⟨_, Try.func49, by kernel_rfl, by kernel_rfl⟩⟩
theorem en50 : Enters Try.prog 50 := ⟨⟨_, Try.func50, by kernel_rfl, by kernel_rfl⟩⟩
theorem en51 : Enters Try.prog 51 := ⟨⟨_, Try.func51, by kernel_rfl, by kernel_rfl⟩⟩
theorem en52 : Enters Try.prog 52 := ⟨⟨_, Try.func52, by kernel_rfl, by kernel_rfl⟩⟩
theorem en53 : Enters Try.prog 53 := ⟨⟨_, Try.func53, by kernel_rfl, by kernel_rfl⟩⟩
theorem en54 : Enters Try.prog 54 := ⟨⟨_, Try.func54, by kernel_rfl, by kernel_rfl⟩⟩
theorem en55 : Enters Try.prog 55 := ⟨⟨_, Try.func55, by kernel_rfl, by kernel_rfl⟩⟩
theorem en56 : Enters Try.prog 56 := ⟨⟨_, Try.func56, by kernel_rfl, by kernel_rfl⟩⟩
theorem en57 : Enters Try.prog 57 := ⟨⟨_, Try.func57, by kernel_rfl, by kernel_rfl⟩⟩
theorem en58 : Enters Try.prog 58 := ⟨⟨_, Try.func58, by kernel_rfl, by kernel_rfl⟩⟩
theorem en59 : Enters Try.prog 59 := ⟨⟨_, Try.func59, by kernel_rfl, by kernel_rfl⟩⟩
theorem en60 : Enters Try.prog 60 := ⟨⟨_, Try.func60, by kernel_rfl, by kernel_rfl⟩⟩
theorem en61 : Enters Try.prog 61 := ⟨⟨_, Try.func61, by kernel_rfl, by kernel_rfl⟩⟩
theorem en62 : Enters Try.prog 62 := ⟨⟨_, Try.func62, by kernel_rfl, by kernel_rfl⟩⟩
theorem en63 : Enters Try.prog 63 := ⟨⟨_, Try.func63, by kernel_rfl, by kernel_rfl⟩⟩
theorem en64 : Enters Try.prog 64 := ⟨⟨_, Try.func64, by kernel_rfl, by kernel_rfl⟩⟩
theorem en65 : Enters Try.prog 65 := ⟨⟨_, Try.func65, by kernel_rfl, by kernel_rfl⟩⟩
theorem en66 : Enters Try.prog 66 := ⟨⟨_, Try.func66, by kernel_rfl, by kernel_rfl⟩⟩
theorem en67 : Enters Try.prog 67 := ⟨⟨_, Try.func67, by kernel_rfl, by kernel_rfl⟩⟩
theorem en68 : Enters Try.prog 68 := ⟨⟨_, Try.func68, by kernel_rfl, by kernel_rfl⟩⟩
theorem en69 : Enters Try.prog 69 := ⟨⟨_, Try.func69, by kernel_rfl, by kernel_rfl⟩⟩
theorem en70 : Enters Try.prog 70 := ⟨⟨_, Try.func70, by kernel_rfl, by kernel_rfl⟩⟩
theorem en71 : Enters Try.prog 71 := ⟨⟨_, Try.func71, by kernel_rfl, by kernel_rfl⟩⟩
theorem en72 : Enters Try.prog 72 := ⟨⟨_, Try.func72, by kernel_rfl, by kernel_rfl⟩⟩
theorem en73 : Enters Try.prog 73 := ⟨⟨_, Try.func73, by kernel_rfl, by kernel_rfl⟩⟩
theorem en74 : Enters Try.prog 74 := ⟨⟨_, Try.func74, by kernel_rfl, by kernel_rfl⟩⟩
theorem en75 : Enters Try.prog 75 := ⟨⟨_, Try.func75, by kernel_rfl, by kernel_rfl⟩⟩
theorem en76 : Enters Try.prog 76 := ⟨⟨_, Try.func76, by kernel_rfl, by kernel_rfl⟩⟩
theorem en77 : Enters Try.prog 77 := ⟨⟨_, Try.func77, by kernel_rfl, by kernel_rfl⟩⟩
theorem en78 : Enters Try.prog 78 := ⟨⟨_, Try.func78, by kernel_rfl, by kernel_rfl⟩⟩
theorem en79 : Enters Try.prog 79 := ⟨⟨_, Try.func79, by kernel_rfl, by kernel_rfl⟩⟩
theorem en80 : Enters Try.prog 80 := ⟨⟨_, Try.func80, by kernel_rfl, by kernel_rfl⟩⟩
theorem en81 : Enters Try.prog 81 := ⟨⟨_, Try.func81, by kernel_rfl, by kernel_rfl⟩⟩
theorem en82 : Enters Try.prog 82 := ⟨⟨_, Try.func82, by kernel_rfl, by kernel_rfl⟩⟩
theorem en83 : Enters Try.prog 83 := ⟨⟨_, Try.func83, by kernel_rfl, by kernel_rfl⟩⟩
theorem en84 : Enters Try.prog 84 := ⟨⟨_, Try.func84, by kernel_rfl, by kernel_rfl⟩⟩
theorem mix : Try.prog.follows .mixedOrders = true := by kernel_rfl
end Go.Proofs.Ytfjijinmnocnoaa.VT
