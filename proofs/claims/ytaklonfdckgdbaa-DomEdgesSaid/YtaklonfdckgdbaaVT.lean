/- Facts on the types of this program, as the rules of the V-logic ask them. -/
import Derived.Test.YtaklonfdckgdbaaVC
import Derived.Test.YtaklonfdckgdbaaProg
set_option linter.unusedVariables false
namespace Go.Proofs.Ytaklonfdckgdbaa.VT
open Go.VL

theorem ty1 : LeafTy Try.prog 1 := ⟨⟨_, Try.underlying1, rfl⟩, by kernel_rfl⟩
theorem zr1 : (Try.prog.info? 1).map (·.zero) = some (some (.nilFunc)) := by kernel_rfl
theorem ty2 : LeafTy Try.prog 2 := ⟨⟨_, Try.underlying2, rfl⟩, by kernel_rfl⟩
theorem zr2 : (Try.prog.info? 2).map (·.zero) = some (some (.int .i64 0)) := by kernel_rfl
theorem ty3 : LeafTy Try.prog 3 := ⟨⟨_, Try.underlying3, rfl⟩, by kernel_rfl⟩
theorem zr3 : (Try.prog.info? 3).map (·.zero) = some (some (.int .i64 0)) := by kernel_rfl
theorem ty4 : LeafTy Try.prog 4 := ⟨⟨_, Try.underlying4, rfl⟩, by kernel_rfl⟩
theorem zr4 : (Try.prog.info? 4).map (·.zero) = some (some (.bool false)) := by kernel_rfl
theorem ty5 : LeafTy Try.prog 5 := ⟨⟨_, Try.underlying5, rfl⟩, by kernel_rfl⟩
theorem zr5 : (Try.prog.info? 5).map (·.zero) = some (some (.int .u8 0)) := by kernel_rfl
theorem ty6 : LeafTy Try.prog 6 := ⟨⟨_, Try.underlying6, rfl⟩, by kernel_rfl⟩
theorem zr6 : (Try.prog.info? 6).map (·.zero) = some (some (.int .u8 0)) := by kernel_rfl
theorem ty7 : AggTy Try.prog 7 4 := ⟨⟨_, Try.underlying7, rfl⟩, by kernel_rfl⟩
theorem fa7_0 : FieldTy Try.prog 7 0 0 1 false := ⟨⟨_, _, Try.underlying7, rfl, rfl, by kernel_rfl, ⟨_, Try.underlying2, rfl⟩, by decide⟩⟩
theorem fa7_1 : FieldTy Try.prog 7 1 1 1 false := ⟨⟨_, _, Try.underlying7, rfl, rfl, by kernel_rfl, ⟨_, Try.underlying3, rfl⟩, by decide⟩⟩
theorem fa7_2 : FieldTy Try.prog 7 2 2 1 false := ⟨⟨_, _, Try.underlying7, rfl, rfl, by kernel_rfl, ⟨_, Try.underlying4, rfl⟩, by decide⟩⟩
theorem fa7_3 : FieldTy Try.prog 7 3 3 1 false := ⟨⟨_, _, Try.underlying7, rfl, rfl, by kernel_rfl, ⟨_, Try.underlying6, rfl⟩, by decide⟩⟩
def zs7 : List V := [(.raw (.int .i64 0)), (.raw (.int .i64 0)), (.raw (.bool false)), (.raw (.int .u8 0))]
theorem st7 : StructTy Try.prog 7 [(0, 1), (1, 1), (2, 1), (3, 1)] zs7 := by
  obtain ⟨i, h1, h2⟩ : ∃ i, Try.prog.info? 7 = some i ∧ i.zero = some (.agg #[(.int .i64 0), (.int .i64 0), (.bool false), (.int .u8 0)]) := info_zero (by kernel_rfl)
  exact ⟨⟨_, i, _, Try.underlying7, h1, h2, by kernel_rfl, rfl⟩, rfl⟩
theorem zr7 : (Try.prog.info? 7).map (·.zero) = some (some (.agg #[(.int .i64 0), (.int .i64 0), (.bool false), (.int .u8 0)])) := by kernel_rfl
theorem ty8 : AggTy Try.prog 8 4 := ⟨⟨_, Try.underlying8, rfl⟩, by kernel_rfl⟩
theorem fa8_0 : FieldTy Try.prog 8 0 0 1 false := ⟨⟨_, _, Try.underlying8, rfl, rfl, by kernel_rfl, ⟨_, Try.underlying2, rfl⟩, by decide⟩⟩
theorem fa8_1 : FieldTy Try.prog 8 1 1 1 false := ⟨⟨_, _, Try.underlying8, rfl, rfl, by kernel_rfl, ⟨_, Try.underlying3, rfl⟩, by decide⟩⟩
theorem fa8_2 : FieldTy Try.prog 8 2 2 1 false := ⟨⟨_, _, Try.underlying8, rfl, rfl, by kernel_rfl, ⟨_, Try.underlying4, rfl⟩, by decide⟩⟩
theorem fa8_3 : FieldTy Try.prog 8 3 3 1 false := ⟨⟨_, _, Try.underlying8, rfl, rfl, by kernel_rfl, ⟨_, Try.underlying6, rfl⟩, by decide⟩⟩
def zs8 : List V := [(.raw (.int .i64 0)), (.raw (.int .i64 0)), (.raw (.bool false)), (.raw (.int .u8 0))]
theorem st8 : StructTy Try.prog 8 [(0, 1), (1, 1), (2, 1), (3, 1)] zs8 := by
  obtain ⟨i, h1, h2⟩ : ∃ i, Try.prog.info? 8 = some i ∧ i.zero = some (.agg #[(.int .i64 0), (.int .i64 0), (.bool false), (.int .u8 0)]) := info_zero (by kernel_rfl)
  exact ⟨⟨_, i, _, Try.underlying8, h1, h2, by kernel_rfl, rfl⟩, rfl⟩
theorem zr8 : (Try.prog.info? 8).map (·.zero) = some (some (.agg #[(.int .i64 0), (.int .i64 0), (.bool false), (.int .u8 0)])) := by kernel_rfl
theorem ty9 : LeafTy Try.prog 9 := ⟨⟨_, Try.underlying9, rfl⟩, by kernel_rfl⟩
theorem zr9 : (Try.prog.info? 9).map (·.zero) = some (some (.string ⟨#[]⟩)) := by kernel_rfl
theorem ty10 : LeafTy Try.prog 10 := ⟨⟨_, Try.underlying10, rfl⟩, by kernel_rfl⟩
theorem zr10 : (Try.prog.info? 10).map (·.zero) = some (some (.string ⟨#[]⟩)) := by kernel_rfl
theorem ty11 : LeafTy Try.prog 11 := ⟨⟨_, Try.underlying11, rfl⟩, by kernel_rfl⟩
theorem zr11 : (Try.prog.info? 11).map (·.zero) = some (some (.string ⟨#[]⟩)) := by kernel_rfl
theorem ty12 : LeafTy Try.prog 12 := ⟨⟨_, Try.underlying12, rfl⟩, by kernel_rfl⟩
theorem zr12 : (Try.prog.info? 12).map (·.zero) = some (some (.int .u64 0)) := by kernel_rfl
theorem ty13 : AggTy Try.prog 13 2 := ⟨⟨_, Try.underlying13, rfl⟩, by kernel_rfl⟩
theorem fa13_0 : FieldTy Try.prog 13 0 0 1 false := ⟨⟨_, _, Try.underlying13, rfl, rfl, by kernel_rfl, ⟨_, Try.underlying9, rfl⟩, by decide⟩⟩
theorem fa13_1 : FieldTy Try.prog 13 1 1 1 false := ⟨⟨_, _, Try.underlying13, rfl, rfl, by kernel_rfl, ⟨_, Try.underlying12, rfl⟩, by decide⟩⟩
def zs13 : List V := [(.raw (.string ⟨#[]⟩)), (.raw (.int .u64 0))]
theorem st13 : StructTy Try.prog 13 [(0, 1), (1, 1)] zs13 := by
  obtain ⟨i, h1, h2⟩ : ∃ i, Try.prog.info? 13 = some i ∧ i.zero = some (.agg #[(.string ⟨#[]⟩), (.int .u64 0)]) := info_zero (by kernel_rfl)
  exact ⟨⟨_, i, _, Try.underlying13, h1, h2, by kernel_rfl, rfl⟩, rfl⟩
theorem zr13 : (Try.prog.info? 13).map (·.zero) = some (some (.agg #[(.string ⟨#[]⟩), (.int .u64 0)])) := by kernel_rfl
theorem ty14 : AggTy Try.prog 14 2 := ⟨⟨_, Try.underlying14, rfl⟩, by kernel_rfl⟩
theorem fa14_0 : FieldTy Try.prog 14 0 0 1 false := ⟨⟨_, _, Try.underlying14, rfl, rfl, by kernel_rfl, ⟨_, Try.underlying9, rfl⟩, by decide⟩⟩
theorem fa14_1 : FieldTy Try.prog 14 1 1 1 false := ⟨⟨_, _, Try.underlying14, rfl, rfl, by kernel_rfl, ⟨_, Try.underlying12, rfl⟩, by decide⟩⟩
def zs14 : List V := [(.raw (.string ⟨#[]⟩)), (.raw (.int .u64 0))]
theorem st14 : StructTy Try.prog 14 [(0, 1), (1, 1)] zs14 := by
  obtain ⟨i, h1, h2⟩ : ∃ i, Try.prog.info? 14 = some i ∧ i.zero = some (.agg #[(.string ⟨#[]⟩), (.int .u64 0)]) := info_zero (by kernel_rfl)
  exact ⟨⟨_, i, _, Try.underlying14, h1, h2, by kernel_rfl, rfl⟩, rfl⟩
theorem zr14 : (Try.prog.info? 14).map (·.zero) = some (some (.agg #[(.string ⟨#[]⟩), (.int .u64 0)])) := by kernel_rfl
theorem ty15 : LeafTy Try.prog 15 := ⟨⟨_, Try.underlying15, rfl⟩, by kernel_rfl⟩
theorem zr15 : (Try.prog.info? 15).map (·.zero) = some (some (.pointer none)) := by kernel_rfl
theorem ty16 : LeafTy Try.prog 16 := ⟨⟨_, Try.underlying16, rfl⟩, by kernel_rfl⟩
theorem zr16 : (Try.prog.info? 16).map (·.zero) = some (some (.pointer none)) := by kernel_rfl
theorem ty17 : LeafTy Try.prog 17 := ⟨⟨_, Try.underlying17, rfl⟩, by kernel_rfl⟩
theorem zr17 : (Try.prog.info? 17).map (·.zero) = some (some (.pointer none)) := by kernel_rfl
theorem ty18 : AggTy Try.prog 18 1 := ⟨⟨_, Try.underlying18, rfl⟩, by kernel_rfl⟩
theorem fa18_0 : FieldTy Try.prog 18 0 0 1 false := ⟨⟨_, _, Try.underlying18, rfl, rfl, by kernel_rfl, ⟨_, Try.underlying17, rfl⟩, by decide⟩⟩
def zs18 : List V := [(.raw (.pointer none))]
theorem st18 : StructTy Try.prog 18 [(0, 1)] zs18 := by
  obtain ⟨i, h1, h2⟩ : ∃ i, Try.prog.info? 18 = some i ∧ i.zero = some (.agg #[(.pointer none)]) := info_zero (by kernel_rfl)
  exact ⟨⟨_, i, _, Try.underlying18, h1, h2, by kernel_rfl, rfl⟩, rfl⟩
theorem zr18 : (Try.prog.info? 18).map (·.zero) = some (some (.agg #[(.pointer none)])) := by kernel_rfl
theorem ty19 : AggTy Try.prog 19 1 := ⟨⟨_, Try.underlying19, rfl⟩, by kernel_rfl⟩
theorem fa19_0 : FieldTy Try.prog 19 0 0 1 false := ⟨⟨_, _, Try.underlying19, rfl, rfl, by kernel_rfl, ⟨_, Try.underlying17, rfl⟩, by decide⟩⟩
def zs19 : List V := [(.raw (.pointer none))]
theorem st19 : StructTy Try.prog 19 [(0, 1)] zs19 := by
  obtain ⟨i, h1, h2⟩ : ∃ i, Try.prog.info? 19 = some i ∧ i.zero = some (.agg #[(.pointer none)]) := info_zero (by kernel_rfl)
  exact ⟨⟨_, i, _, Try.underlying19, h1, h2, by kernel_rfl, rfl⟩, rfl⟩
theorem zr19 : (Try.prog.info? 19).map (·.zero) = some (some (.agg #[(.pointer none)])) := by kernel_rfl
theorem ty20 : LeafTy Try.prog 20 := ⟨⟨_, Try.underlying20, rfl⟩, by kernel_rfl⟩
theorem zr20 : (Try.prog.info? 20).map (·.zero) = some (some (.nilIface)) := by kernel_rfl
theorem ty21 : LeafTy Try.prog 21 := ⟨⟨_, Try.underlying21, rfl⟩, by kernel_rfl⟩
theorem zr21 : (Try.prog.info? 21).map (·.zero) = some (some (.int .i32 0)) := by kernel_rfl
theorem ty22 : LeafTy Try.prog 22 := ⟨⟨_, Try.underlying22, rfl⟩, by kernel_rfl⟩
theorem zr22 : (Try.prog.info? 22).map (·.zero) = some (some (.slice none 0 0)) := by kernel_rfl
theorem sl22 : SliceTy Try.prog 22 56 7 120 (.agg #[(.slice none 0 0), (.slice none 0 0), (.int .i64 0), (.int .i64 0), (.int .i64 0), (.slice none 0 0), (.slice none 0 0)]) := ⟨Try.underlying22, info_all (by kernel_rfl), rfl, by decide⟩
theorem ty23 : AggTy Try.prog 23 2 := ⟨⟨_, Try.underlying23, rfl⟩, by kernel_rfl⟩
theorem fa23_0 : FieldTy Try.prog 23 0 0 1 false := ⟨⟨_, _, Try.underlying23, rfl, rfl, by kernel_rfl, ⟨_, Try.underlying3, rfl⟩, by decide⟩⟩
theorem fa23_1 : FieldTy Try.prog 23 1 1 1 false := ⟨⟨_, _, Try.underlying23, rfl, rfl, by kernel_rfl, ⟨_, Try.underlying22, rfl⟩, by decide⟩⟩
def zs23 : List V := [(.raw (.int .i64 0)), (.raw (.slice none 0 0))]
theorem st23 : StructTy Try.prog 23 [(0, 1), (1, 1)] zs23 := by
  obtain ⟨i, h1, h2⟩ : ∃ i, Try.prog.info? 23 = some i ∧ i.zero = some (.agg #[(.int .i64 0), (.slice none 0 0)]) := info_zero (by kernel_rfl)
  exact ⟨⟨_, i, _, Try.underlying23, h1, h2, by kernel_rfl, rfl⟩, rfl⟩
theorem zr23 : (Try.prog.info? 23).map (·.zero) = some (some (.agg #[(.int .i64 0), (.slice none 0 0)])) := by kernel_rfl
theorem ty24 : AggTy Try.prog 24 2 := ⟨⟨_, Try.underlying24, rfl⟩, by kernel_rfl⟩
theorem fa24_0 : FieldTy Try.prog 24 0 0 1 false := ⟨⟨_, _, Try.underlying24, rfl, rfl, by kernel_rfl, ⟨_, Try.underlying3, rfl⟩, by decide⟩⟩
theorem fa24_1 : FieldTy Try.prog 24 1 1 1 false := ⟨⟨_, _, Try.underlying24, rfl, rfl, by kernel_rfl, ⟨_, Try.underlying22, rfl⟩, by decide⟩⟩
def zs24 : List V := [(.raw (.int .i64 0)), (.raw (.slice none 0 0))]
theorem st24 : StructTy Try.prog 24 [(0, 1), (1, 1)] zs24 := by
  obtain ⟨i, h1, h2⟩ : ∃ i, Try.prog.info? 24 = some i ∧ i.zero = some (.agg #[(.int .i64 0), (.slice none 0 0)]) := info_zero (by kernel_rfl)
  exact ⟨⟨_, i, _, Try.underlying24, h1, h2, by kernel_rfl, rfl⟩, rfl⟩
theorem zr24 : (Try.prog.info? 24).map (·.zero) = some (some (.agg #[(.int .i64 0), (.slice none 0 0)])) := by kernel_rfl
theorem ty25 : LeafTy Try.prog 25 := ⟨⟨_, Try.underlying25, rfl⟩, by kernel_rfl⟩
theorem zr25 : (Try.prog.info? 25).map (·.zero) = some (some (.nilFunc)) := by kernel_rfl
theorem ty26 : LeafTy Try.prog 26 := ⟨⟨_, Try.underlying26, rfl⟩, by kernel_rfl⟩
theorem zr26 : (Try.prog.info? 26).map (·.zero) = some (some (.int .i64 0)) := by kernel_rfl
theorem ty27 : LeafTy Try.prog 27 := ⟨⟨_, Try.underlying27, rfl⟩, by kernel_rfl⟩
theorem zr27 : (Try.prog.info? 27).map (·.zero) = some (some (.nilFunc)) := by kernel_rfl
theorem ty28 : LeafTy Try.prog 28 := ⟨⟨_, Try.underlying28, rfl⟩, by kernel_rfl⟩
theorem zr28 : (Try.prog.info? 28).map (·.zero) = some (some (.nilFunc)) := by kernel_rfl
theorem ty29 : LeafTy Try.prog 29 := ⟨⟨_, Try.underlying29, rfl⟩, by kernel_rfl⟩
theorem zr29 : (Try.prog.info? 29).map (·.zero) = some (some (.slice none 0 0)) := by kernel_rfl
theorem sl29 : SliceTy Try.prog 29 3 1 8 (.int .i64 0) := ⟨Try.underlying29, info_all (by kernel_rfl), rfl, by decide⟩
theorem ty31 : LeafTy Try.prog 31 := ⟨⟨_, Try.underlying31, rfl⟩, by kernel_rfl⟩
theorem zr31 : (Try.prog.info? 31).map (·.zero) = some (some (.nilFunc)) := by kernel_rfl
theorem ty32 : LeafTy Try.prog 32 := ⟨⟨_, Try.underlying32, rfl⟩, by kernel_rfl⟩
theorem zr32 : (Try.prog.info? 32).map (·.zero) = some (some (.nilFunc)) := by kernel_rfl
theorem ty34 : LeafTy Try.prog 34 := ⟨⟨_, Try.underlying34, rfl⟩, by kernel_rfl⟩
theorem zr34 : (Try.prog.info? 34).map (·.zero) = some (some (.nilFunc)) := by kernel_rfl
theorem ty35 : LeafTy Try.prog 35 := ⟨⟨_, Try.underlying35, rfl⟩, by kernel_rfl⟩
theorem zr35 : (Try.prog.info? 35).map (·.zero) = some (some (.nilFunc)) := by kernel_rfl
theorem ty36 : LeafTy Try.prog 36 := ⟨⟨_, Try.underlying36, rfl⟩, by kernel_rfl⟩
theorem zr36 : (Try.prog.info? 36).map (·.zero) = some (some (.nilFunc)) := by kernel_rfl
theorem ty37 : LeafTy Try.prog 37 := ⟨⟨_, Try.underlying37, rfl⟩, by kernel_rfl⟩
theorem zr37 : (Try.prog.info? 37).map (·.zero) = some (some (.slice none 0 0)) := by kernel_rfl
theorem sl37 : SliceTy Try.prog 37 29 1 24 (.slice none 0 0) := ⟨Try.underlying37, info_all (by kernel_rfl), rfl, by decide⟩
theorem ty39 : LeafTy Try.prog 39 := ⟨⟨_, Try.underlying39, rfl⟩, by kernel_rfl⟩
theorem zr39 : (Try.prog.info? 39).map (·.zero) = some (some (.nilFunc)) := by kernel_rfl
theorem ty40 : LeafTy Try.prog 40 := ⟨⟨_, Try.underlying40, rfl⟩, by kernel_rfl⟩
theorem zr40 : (Try.prog.info? 40).map (·.zero) = some (some (.nilFunc)) := by kernel_rfl
theorem ty41 : LeafTy Try.prog 41 := ⟨⟨_, Try.underlying41, rfl⟩, by kernel_rfl⟩
theorem zr41 : (Try.prog.info? 41).map (·.zero) = some (some (.nilFunc)) := by kernel_rfl
theorem ty42 : AggTy Try.prog 42 3 := ⟨⟨_, Try.underlying42, rfl⟩, by kernel_rfl⟩
theorem fa42_0 : FieldTy Try.prog 42 0 0 1 false := ⟨⟨_, _, Try.underlying42, rfl, rfl, by kernel_rfl, ⟨_, Try.underlying29, rfl⟩, by decide⟩⟩
theorem fa42_1 : FieldTy Try.prog 42 1 1 1 false := ⟨⟨_, _, Try.underlying42, rfl, rfl, by kernel_rfl, ⟨_, Try.underlying3, rfl⟩, by decide⟩⟩
theorem fa42_2 : FieldTy Try.prog 42 2 2 1 false := ⟨⟨_, _, Try.underlying42, rfl, rfl, by kernel_rfl, ⟨_, Try.underlying3, rfl⟩, by decide⟩⟩
def zs42 : List V := [(.raw (.slice none 0 0)), (.raw (.int .i64 0)), (.raw (.int .i64 0))]
theorem st42 : StructTy Try.prog 42 [(0, 1), (1, 1), (2, 1)] zs42 := by
  obtain ⟨i, h1, h2⟩ : ∃ i, Try.prog.info? 42 = some i ∧ i.zero = some (.agg #[(.slice none 0 0), (.int .i64 0), (.int .i64 0)]) := info_zero (by kernel_rfl)
  exact ⟨⟨_, i, _, Try.underlying42, h1, h2, by kernel_rfl, rfl⟩, rfl⟩
theorem zr42 : (Try.prog.info? 42).map (·.zero) = some (some (.agg #[(.slice none 0 0), (.int .i64 0), (.int .i64 0)])) := by kernel_rfl
theorem ty43 : AggTy Try.prog 43 3 := ⟨⟨_, Try.underlying43, rfl⟩, by kernel_rfl⟩
theorem fa43_0 : FieldTy Try.prog 43 0 0 1 false := ⟨⟨_, _, Try.underlying43, rfl, rfl, by kernel_rfl, ⟨_, Try.underlying29, rfl⟩, by decide⟩⟩
theorem fa43_1 : FieldTy Try.prog 43 1 1 1 false := ⟨⟨_, _, Try.underlying43, rfl, rfl, by kernel_rfl, ⟨_, Try.underlying3, rfl⟩, by decide⟩⟩
theorem fa43_2 : FieldTy Try.prog 43 2 2 1 false := ⟨⟨_, _, Try.underlying43, rfl, rfl, by kernel_rfl, ⟨_, Try.underlying3, rfl⟩, by decide⟩⟩
def zs43 : List V := [(.raw (.slice none 0 0)), (.raw (.int .i64 0)), (.raw (.int .i64 0))]
theorem st43 : StructTy Try.prog 43 [(0, 1), (1, 1), (2, 1)] zs43 := by
  obtain ⟨i, h1, h2⟩ : ∃ i, Try.prog.info? 43 = some i ∧ i.zero = some (.agg #[(.slice none 0 0), (.int .i64 0), (.int .i64 0)]) := info_zero (by kernel_rfl)
  exact ⟨⟨_, i, _, Try.underlying43, h1, h2, by kernel_rfl, rfl⟩, rfl⟩
theorem zr43 : (Try.prog.info? 43).map (·.zero) = some (some (.agg #[(.slice none 0 0), (.int .i64 0), (.int .i64 0)])) := by kernel_rfl
theorem ty45 : LeafTy Try.prog 45 := ⟨⟨_, Try.underlying45, rfl⟩, by kernel_rfl⟩
theorem zr45 : (Try.prog.info? 45).map (·.zero) = some (some (.nilFunc)) := by kernel_rfl
theorem ty46 : LeafTy Try.prog 46 := ⟨⟨_, Try.underlying46, rfl⟩, by kernel_rfl⟩
theorem zr46 : (Try.prog.info? 46).map (·.zero) = some (some (.slice none 0 0)) := by kernel_rfl
theorem sl46 : SliceTy Try.prog 46 24 2 32 (.agg #[(.int .i64 0), (.slice none 0 0)]) := ⟨Try.underlying46, info_all (by kernel_rfl), rfl, by decide⟩
theorem ty47 : AggTy Try.prog 47 2 := ⟨⟨_, Try.underlying47, rfl⟩, by kernel_rfl⟩
theorem fa47_0 : FieldTy Try.prog 47 0 0 1 false := ⟨⟨_, _, Try.underlying47, rfl, rfl, by kernel_rfl, ⟨_, Try.underlying46, rfl⟩, by decide⟩⟩
theorem fa47_1 : FieldTy Try.prog 47 1 1 1 false := ⟨⟨_, _, Try.underlying47, rfl, rfl, by kernel_rfl, ⟨_, Try.underlying3, rfl⟩, by decide⟩⟩
def zs47 : List V := [(.raw (.slice none 0 0)), (.raw (.int .i64 0))]
theorem st47 : StructTy Try.prog 47 [(0, 1), (1, 1)] zs47 := by
  obtain ⟨i, h1, h2⟩ : ∃ i, Try.prog.info? 47 = some i ∧ i.zero = some (.agg #[(.slice none 0 0), (.int .i64 0)]) := info_zero (by kernel_rfl)
  exact ⟨⟨_, i, _, Try.underlying47, h1, h2, by kernel_rfl, rfl⟩, rfl⟩
theorem zr47 : (Try.prog.info? 47).map (·.zero) = some (some (.agg #[(.slice none 0 0), (.int .i64 0)])) := by kernel_rfl
theorem ty48 : AggTy Try.prog 48 2 := ⟨⟨_, Try.underlying48, rfl⟩, by kernel_rfl⟩
theorem fa48_0 : FieldTy Try.prog 48 0 0 1 false := ⟨⟨_, _, Try.underlying48, rfl, rfl, by kernel_rfl, ⟨_, Try.underlying46, rfl⟩, by decide⟩⟩
theorem fa48_1 : FieldTy Try.prog 48 1 1 1 false := ⟨⟨_, _, Try.underlying48, rfl, rfl, by kernel_rfl, ⟨_, Try.underlying3, rfl⟩, by decide⟩⟩
def zs48 : List V := [(.raw (.slice none 0 0)), (.raw (.int .i64 0))]
theorem st48 : StructTy Try.prog 48 [(0, 1), (1, 1)] zs48 := by
  obtain ⟨i, h1, h2⟩ : ∃ i, Try.prog.info? 48 = some i ∧ i.zero = some (.agg #[(.slice none 0 0), (.int .i64 0)]) := info_zero (by kernel_rfl)
  exact ⟨⟨_, i, _, Try.underlying48, h1, h2, by kernel_rfl, rfl⟩, rfl⟩
theorem zr48 : (Try.prog.info? 48).map (·.zero) = some (some (.agg #[(.slice none 0 0), (.int .i64 0)])) := by kernel_rfl
theorem ty49 : LeafTy Try.prog 49 := ⟨⟨_, Try.underlying49, rfl⟩, by kernel_rfl⟩
theorem zr49 : (Try.prog.info? 49).map (·.zero) = some (some (.nilFunc)) := by kernel_rfl
theorem ty50 : LeafTy Try.prog 50 := ⟨⟨_, Try.underlying50, rfl⟩, by kernel_rfl⟩
theorem zr50 : (Try.prog.info? 50).map (·.zero) = some (some (.nilFunc)) := by kernel_rfl
theorem ty51 : LeafTy Try.prog 51 := ⟨⟨_, Try.underlying51, rfl⟩, by kernel_rfl⟩
theorem zr51 : (Try.prog.info? 51).map (·.zero) = some (some (.slice none 0 0)) := by kernel_rfl
theorem sl51 : SliceTy Try.prog 51 74 4 48 (.agg #[(.int .i64 0), (.int .i64 0), (.int .i64 0), (.slice none 0 0)]) := ⟨Try.underlying51, info_all (by kernel_rfl), rfl, by decide⟩
theorem ty52 : LeafTy Try.prog 52 := ⟨⟨_, Try.underlying52, rfl⟩, by kernel_rfl⟩
theorem zr52 : (Try.prog.info? 52).map (·.zero) = some (some (.slice none 0 0)) := by kernel_rfl
theorem sl52 : SliceTy Try.prog 52 71 2 32 (.agg #[(.int .i64 0), (.slice none 0 0)]) := ⟨Try.underlying52, info_all (by kernel_rfl), rfl, by decide⟩
theorem ty53 : AggTy Try.prog 53 5 := ⟨⟨_, Try.underlying53, rfl⟩, by kernel_rfl⟩
theorem fa53_0 : FieldTy Try.prog 53 0 0 1 false := ⟨⟨_, _, Try.underlying53, rfl, rfl, by kernel_rfl, ⟨_, Try.underlying3, rfl⟩, by decide⟩⟩
theorem fa53_1 : FieldTy Try.prog 53 1 1 1 false := ⟨⟨_, _, Try.underlying53, rfl, rfl, by kernel_rfl, ⟨_, Try.underlying3, rfl⟩, by decide⟩⟩
theorem fa53_2 : FieldTy Try.prog 53 2 2 1 false := ⟨⟨_, _, Try.underlying53, rfl, rfl, by kernel_rfl, ⟨_, Try.underlying3, rfl⟩, by decide⟩⟩
theorem fa53_3 : FieldTy Try.prog 53 3 3 1 false := ⟨⟨_, _, Try.underlying53, rfl, rfl, by kernel_rfl, ⟨_, Try.underlying29, rfl⟩, by decide⟩⟩
theorem fa53_4 : FieldTy Try.prog 53 4 4 1 false := ⟨⟨_, _, Try.underlying53, rfl, rfl, by kernel_rfl, ⟨_, Try.underlying52, rfl⟩, by decide⟩⟩
def zs53 : List V := [(.raw (.int .i64 0)), (.raw (.int .i64 0)), (.raw (.int .i64 0)), (.raw (.slice none 0 0)), (.raw (.slice none 0 0))]
theorem st53 : StructTy Try.prog 53 [(0, 1), (1, 1), (2, 1), (3, 1), (4, 1)] zs53 := by
  obtain ⟨i, h1, h2⟩ : ∃ i, Try.prog.info? 53 = some i ∧ i.zero = some (.agg #[(.int .i64 0), (.int .i64 0), (.int .i64 0), (.slice none 0 0), (.slice none 0 0)]) := info_zero (by kernel_rfl)
  exact ⟨⟨_, i, _, Try.underlying53, h1, h2, by kernel_rfl, rfl⟩, rfl⟩
theorem zr53 : (Try.prog.info? 53).map (·.zero) = some (some (.agg #[(.int .i64 0), (.int .i64 0), (.int .i64 0), (.slice none 0 0), (.slice none 0 0)])) := by kernel_rfl
theorem ty54 : AggTy Try.prog 54 5 := ⟨⟨_, Try.underlying54, rfl⟩, by kernel_rfl⟩
theorem fa54_0 : FieldTy Try.prog 54 0 0 1 false := ⟨⟨_, _, Try.underlying54, rfl, rfl, by kernel_rfl, ⟨_, Try.underlying3, rfl⟩, by decide⟩⟩
theorem fa54_1 : FieldTy Try.prog 54 1 1 1 false := ⟨⟨_, _, Try.underlying54, rfl, rfl, by kernel_rfl, ⟨_, Try.underlying3, rfl⟩, by decide⟩⟩
theorem fa54_2 : FieldTy Try.prog 54 2 2 1 false := ⟨⟨_, _, Try.underlying54, rfl, rfl, by kernel_rfl, ⟨_, Try.underlying3, rfl⟩, by decide⟩⟩
theorem fa54_3 : FieldTy Try.prog 54 3 3 1 false := ⟨⟨_, _, Try.underlying54, rfl, rfl, by kernel_rfl, ⟨_, Try.underlying29, rfl⟩, by decide⟩⟩
theorem fa54_4 : FieldTy Try.prog 54 4 4 1 false := ⟨⟨_, _, Try.underlying54, rfl, rfl, by kernel_rfl, ⟨_, Try.underlying52, rfl⟩, by decide⟩⟩
def zs54 : List V := [(.raw (.int .i64 0)), (.raw (.int .i64 0)), (.raw (.int .i64 0)), (.raw (.slice none 0 0)), (.raw (.slice none 0 0))]
theorem st54 : StructTy Try.prog 54 [(0, 1), (1, 1), (2, 1), (3, 1), (4, 1)] zs54 := by
  obtain ⟨i, h1, h2⟩ : ∃ i, Try.prog.info? 54 = some i ∧ i.zero = some (.agg #[(.int .i64 0), (.int .i64 0), (.int .i64 0), (.slice none 0 0), (.slice none 0 0)]) := info_zero (by kernel_rfl)
  exact ⟨⟨_, i, _, Try.underlying54, h1, h2, by kernel_rfl, rfl⟩, rfl⟩
theorem zr54 : (Try.prog.info? 54).map (·.zero) = some (some (.agg #[(.int .i64 0), (.int .i64 0), (.int .i64 0), (.slice none 0 0), (.slice none 0 0)])) := by kernel_rfl
theorem ty55 : AggTy Try.prog 55 7 := ⟨⟨_, Try.underlying55, rfl⟩, by kernel_rfl⟩
theorem fa55_0 : FieldTy Try.prog 55 0 0 1 false := ⟨⟨_, _, Try.underlying55, rfl, rfl, by kernel_rfl, ⟨_, Try.underlying29, rfl⟩, by decide⟩⟩
theorem fa55_1 : FieldTy Try.prog 55 1 1 1 false := ⟨⟨_, _, Try.underlying55, rfl, rfl, by kernel_rfl, ⟨_, Try.underlying51, rfl⟩, by decide⟩⟩
theorem fa55_2 : FieldTy Try.prog 55 2 2 5 true := ⟨⟨_, _, Try.underlying55, rfl, rfl, by kernel_rfl, ⟨_, Try.underlying54, rfl⟩, by decide⟩⟩
def zs55 : List V := [(.raw (.slice none 0 0)), (.raw (.slice none 0 0)), (.raw (.int .i64 0)), (.raw (.int .i64 0)), (.raw (.int .i64 0)), (.raw (.slice none 0 0)), (.raw (.slice none 0 0))]
theorem st55 : StructTy Try.prog 55 [(0, 1), (1, 1), (2, 5)] zs55 := by
  obtain ⟨i, h1, h2⟩ : ∃ i, Try.prog.info? 55 = some i ∧ i.zero = some (.agg #[(.slice none 0 0), (.slice none 0 0), (.int .i64 0), (.int .i64 0), (.int .i64 0), (.slice none 0 0), (.slice none 0 0)]) := info_zero (by kernel_rfl)
  exact ⟨⟨_, i, _, Try.underlying55, h1, h2, by kernel_rfl, rfl⟩, rfl⟩
theorem zr55 : (Try.prog.info? 55).map (·.zero) = some (some (.agg #[(.slice none 0 0), (.slice none 0 0), (.int .i64 0), (.int .i64 0), (.int .i64 0), (.slice none 0 0), (.slice none 0 0)])) := by kernel_rfl
theorem ty56 : AggTy Try.prog 56 7 := ⟨⟨_, Try.underlying56, rfl⟩, by kernel_rfl⟩
theorem fa56_0 : FieldTy Try.prog 56 0 0 1 false := ⟨⟨_, _, Try.underlying56, rfl, rfl, by kernel_rfl, ⟨_, Try.underlying29, rfl⟩, by decide⟩⟩
theorem fa56_1 : FieldTy Try.prog 56 1 1 1 false := ⟨⟨_, _, Try.underlying56, rfl, rfl, by kernel_rfl, ⟨_, Try.underlying51, rfl⟩, by decide⟩⟩
theorem fa56_2 : FieldTy Try.prog 56 2 2 5 true := ⟨⟨_, _, Try.underlying56, rfl, rfl, by kernel_rfl, ⟨_, Try.underlying54, rfl⟩, by decide⟩⟩
def zs56 : List V := [(.raw (.slice none 0 0)), (.raw (.slice none 0 0)), (.raw (.int .i64 0)), (.raw (.int .i64 0)), (.raw (.int .i64 0)), (.raw (.slice none 0 0)), (.raw (.slice none 0 0))]
theorem st56 : StructTy Try.prog 56 [(0, 1), (1, 1), (2, 5)] zs56 := by
  obtain ⟨i, h1, h2⟩ : ∃ i, Try.prog.info? 56 = some i ∧ i.zero = some (.agg #[(.slice none 0 0), (.slice none 0 0), (.int .i64 0), (.int .i64 0), (.int .i64 0), (.slice none 0 0), (.slice none 0 0)]) := info_zero (by kernel_rfl)
  exact ⟨⟨_, i, _, Try.underlying56, h1, h2, by kernel_rfl, rfl⟩, rfl⟩
theorem zr56 : (Try.prog.info? 56).map (·.zero) = some (some (.agg #[(.slice none 0 0), (.slice none 0 0), (.int .i64 0), (.int .i64 0), (.int .i64 0), (.slice none 0 0), (.slice none 0 0)])) := by kernel_rfl
theorem ty57 : LeafTy Try.prog 57 := ⟨⟨_, Try.underlying57, rfl⟩, by kernel_rfl⟩
theorem zr57 : (Try.prog.info? 57).map (·.zero) = some (some (.nilFunc)) := by kernel_rfl
theorem ty58 : LeafTy Try.prog 58 := ⟨⟨_, Try.underlying58, rfl⟩, by kernel_rfl⟩
theorem zr58 : (Try.prog.info? 58).map (·.zero) = some (some (.pointer none)) := by kernel_rfl
theorem ty59 : LeafTy Try.prog 59 := ⟨⟨_, Try.underlying59, rfl⟩, by kernel_rfl⟩
theorem zr59 : (Try.prog.info? 59).map (·.zero) = some (some (.map none)) := by kernel_rfl
theorem ty60 : AggTy Try.prog 60 3 := ⟨⟨_, Try.underlying60, rfl⟩, by kernel_rfl⟩
theorem fa60_0 : FieldTy Try.prog 60 0 0 2 true := ⟨⟨_, _, Try.underlying60, rfl, rfl, by kernel_rfl, ⟨_, Try.underlying24, rfl⟩, by decide⟩⟩
theorem fa60_1 : FieldTy Try.prog 60 1 2 1 false := ⟨⟨_, _, Try.underlying60, rfl, rfl, by kernel_rfl, ⟨_, Try.underlying59, rfl⟩, by decide⟩⟩
def zs60 : List V := [(.raw (.int .i64 0)), (.raw (.slice none 0 0)), (.raw (.map none))]
theorem st60 : StructTy Try.prog 60 [(0, 2), (2, 1)] zs60 := by
  obtain ⟨i, h1, h2⟩ : ∃ i, Try.prog.info? 60 = some i ∧ i.zero = some (.agg #[(.int .i64 0), (.slice none 0 0), (.map none)]) := info_zero (by kernel_rfl)
  exact ⟨⟨_, i, _, Try.underlying60, h1, h2, by kernel_rfl, rfl⟩, rfl⟩
theorem zr60 : (Try.prog.info? 60).map (·.zero) = some (some (.agg #[(.int .i64 0), (.slice none 0 0), (.map none)])) := by kernel_rfl
theorem ty61 : AggTy Try.prog 61 3 := ⟨⟨_, Try.underlying61, rfl⟩, by kernel_rfl⟩
theorem fa61_0 : FieldTy Try.prog 61 0 0 2 true := ⟨⟨_, _, Try.underlying61, rfl, rfl, by kernel_rfl, ⟨_, Try.underlying24, rfl⟩, by decide⟩⟩
theorem fa61_1 : FieldTy Try.prog 61 1 2 1 false := ⟨⟨_, _, Try.underlying61, rfl, rfl, by kernel_rfl, ⟨_, Try.underlying59, rfl⟩, by decide⟩⟩
def zs61 : List V := [(.raw (.int .i64 0)), (.raw (.slice none 0 0)), (.raw (.map none))]
theorem st61 : StructTy Try.prog 61 [(0, 2), (2, 1)] zs61 := by
  obtain ⟨i, h1, h2⟩ : ∃ i, Try.prog.info? 61 = some i ∧ i.zero = some (.agg #[(.int .i64 0), (.slice none 0 0), (.map none)]) := info_zero (by kernel_rfl)
  exact ⟨⟨_, i, _, Try.underlying61, h1, h2, by kernel_rfl, rfl⟩, rfl⟩
theorem zr61 : (Try.prog.info? 61).map (·.zero) = some (some (.agg #[(.int .i64 0), (.slice none 0 0), (.map none)])) := by kernel_rfl
theorem ty62 : LeafTy Try.prog 62 := ⟨⟨_, Try.underlying62, rfl⟩, by kernel_rfl⟩
theorem zr62 : (Try.prog.info? 62).map (·.zero) = some (some (.nilFunc)) := by kernel_rfl
theorem ty63 : LeafTy Try.prog 63 := ⟨⟨_, Try.underlying63, rfl⟩, by kernel_rfl⟩
theorem zr63 : (Try.prog.info? 63).map (·.zero) = some (some (.nilFunc)) := by kernel_rfl
theorem ty64 : LeafTy Try.prog 64 := ⟨⟨_, Try.underlying64, rfl⟩, by kernel_rfl⟩
theorem zr64 : (Try.prog.info? 64).map (·.zero) = some (some (.nilFunc)) := by kernel_rfl
theorem ty65 : AggTy Try.prog 65 2 := ⟨⟨_, Try.underlying65, rfl⟩, by kernel_rfl⟩
theorem fa65_0 : FieldTy Try.prog 65 0 0 1 false := ⟨⟨_, _, Try.underlying65, rfl, rfl, by kernel_rfl, ⟨_, Try.underlying29, rfl⟩, by decide⟩⟩
theorem fa65_1 : FieldTy Try.prog 65 1 1 1 false := ⟨⟨_, _, Try.underlying65, rfl, rfl, by kernel_rfl, ⟨_, Try.underlying29, rfl⟩, by decide⟩⟩
def zs65 : List V := [(.raw (.slice none 0 0)), (.raw (.slice none 0 0))]
theorem st65 : StructTy Try.prog 65 [(0, 1), (1, 1)] zs65 := by
  obtain ⟨i, h1, h2⟩ : ∃ i, Try.prog.info? 65 = some i ∧ i.zero = some (.agg #[(.slice none 0 0), (.slice none 0 0)]) := info_zero (by kernel_rfl)
  exact ⟨⟨_, i, _, Try.underlying65, h1, h2, by kernel_rfl, rfl⟩, rfl⟩
theorem zr65 : (Try.prog.info? 65).map (·.zero) = some (some (.agg #[(.slice none 0 0), (.slice none 0 0)])) := by kernel_rfl
theorem ty66 : AggTy Try.prog 66 2 := ⟨⟨_, Try.underlying66, rfl⟩, by kernel_rfl⟩
theorem fa66_0 : FieldTy Try.prog 66 0 0 1 false := ⟨⟨_, _, Try.underlying66, rfl, rfl, by kernel_rfl, ⟨_, Try.underlying29, rfl⟩, by decide⟩⟩
theorem fa66_1 : FieldTy Try.prog 66 1 1 1 false := ⟨⟨_, _, Try.underlying66, rfl, rfl, by kernel_rfl, ⟨_, Try.underlying29, rfl⟩, by decide⟩⟩
def zs66 : List V := [(.raw (.slice none 0 0)), (.raw (.slice none 0 0))]
theorem st66 : StructTy Try.prog 66 [(0, 1), (1, 1)] zs66 := by
  obtain ⟨i, h1, h2⟩ : ∃ i, Try.prog.info? 66 = some i ∧ i.zero = some (.agg #[(.slice none 0 0), (.slice none 0 0)]) := info_zero (by kernel_rfl)
  exact ⟨⟨_, i, _, Try.underlying66, h1, h2, by kernel_rfl, rfl⟩, rfl⟩
theorem zr66 : (Try.prog.info? 66).map (·.zero) = some (some (.agg #[(.slice none 0 0), (.slice none 0 0)])) := by kernel_rfl
theorem ty68 : LeafTy Try.prog 68 := ⟨⟨_, Try.underlying68, rfl⟩, by kernel_rfl⟩
theorem zr68 : (Try.prog.info? 68).map (·.zero) = some (some (.nilFunc)) := by kernel_rfl
theorem ty69 : LeafTy Try.prog 69 := ⟨⟨_, Try.underlying69, rfl⟩, by kernel_rfl⟩
theorem zr69 : (Try.prog.info? 69).map (·.zero) = some (some (.nilFunc)) := by kernel_rfl
theorem ty70 : AggTy Try.prog 70 2 := ⟨⟨_, Try.underlying70, rfl⟩, by kernel_rfl⟩
theorem fa70_0 : FieldTy Try.prog 70 0 0 1 false := ⟨⟨_, _, Try.underlying70, rfl, rfl, by kernel_rfl, ⟨_, Try.underlying3, rfl⟩, by decide⟩⟩
theorem fa70_1 : FieldTy Try.prog 70 1 1 1 false := ⟨⟨_, _, Try.underlying70, rfl, rfl, by kernel_rfl, ⟨_, Try.underlying29, rfl⟩, by decide⟩⟩
def zs70 : List V := [(.raw (.int .i64 0)), (.raw (.slice none 0 0))]
theorem st70 : StructTy Try.prog 70 [(0, 1), (1, 1)] zs70 := by
  obtain ⟨i, h1, h2⟩ : ∃ i, Try.prog.info? 70 = some i ∧ i.zero = some (.agg #[(.int .i64 0), (.slice none 0 0)]) := info_zero (by kernel_rfl)
  exact ⟨⟨_, i, _, Try.underlying70, h1, h2, by kernel_rfl, rfl⟩, rfl⟩
theorem zr70 : (Try.prog.info? 70).map (·.zero) = some (some (.agg #[(.int .i64 0), (.slice none 0 0)])) := by kernel_rfl
theorem ty71 : AggTy Try.prog 71 2 := ⟨⟨_, Try.underlying71, rfl⟩, by kernel_rfl⟩
theorem fa71_0 : FieldTy Try.prog 71 0 0 1 false := ⟨⟨_, _, Try.underlying71, rfl, rfl, by kernel_rfl, ⟨_, Try.underlying3, rfl⟩, by decide⟩⟩
theorem fa71_1 : FieldTy Try.prog 71 1 1 1 false := ⟨⟨_, _, Try.underlying71, rfl, rfl, by kernel_rfl, ⟨_, Try.underlying29, rfl⟩, by decide⟩⟩
def zs71 : List V := [(.raw (.int .i64 0)), (.raw (.slice none 0 0))]
theorem st71 : StructTy Try.prog 71 [(0, 1), (1, 1)] zs71 := by
  obtain ⟨i, h1, h2⟩ : ∃ i, Try.prog.info? 71 = some i ∧ i.zero = some (.agg #[(.int .i64 0), (.slice none 0 0)]) := info_zero (by kernel_rfl)
  exact ⟨⟨_, i, _, Try.underlying71, h1, h2, by kernel_rfl, rfl⟩, rfl⟩
theorem zr71 : (Try.prog.info? 71).map (·.zero) = some (some (.agg #[(.int .i64 0), (.slice none 0 0)])) := by kernel_rfl
theorem ty72 : LeafTy Try.prog 72 := ⟨⟨_, Try.underlying72, rfl⟩, by kernel_rfl⟩
theorem zr72 : (Try.prog.info? 72).map (·.zero) = some (some (.nilFunc)) := by kernel_rfl
theorem ty73 : AggTy Try.prog 73 4 := ⟨⟨_, Try.underlying73, rfl⟩, by kernel_rfl⟩
theorem fa73_0 : FieldTy Try.prog 73 0 0 1 false := ⟨⟨_, _, Try.underlying73, rfl, rfl, by kernel_rfl, ⟨_, Try.underlying3, rfl⟩, by decide⟩⟩
theorem fa73_1 : FieldTy Try.prog 73 1 1 1 false := ⟨⟨_, _, Try.underlying73, rfl, rfl, by kernel_rfl, ⟨_, Try.underlying3, rfl⟩, by decide⟩⟩
theorem fa73_2 : FieldTy Try.prog 73 2 2 1 false := ⟨⟨_, _, Try.underlying73, rfl, rfl, by kernel_rfl, ⟨_, Try.underlying3, rfl⟩, by decide⟩⟩
theorem fa73_3 : FieldTy Try.prog 73 3 3 1 false := ⟨⟨_, _, Try.underlying73, rfl, rfl, by kernel_rfl, ⟨_, Try.underlying29, rfl⟩, by decide⟩⟩
def zs73 : List V := [(.raw (.int .i64 0)), (.raw (.int .i64 0)), (.raw (.int .i64 0)), (.raw (.slice none 0 0))]
theorem st73 : StructTy Try.prog 73 [(0, 1), (1, 1), (2, 1), (3, 1)] zs73 := by
  obtain ⟨i, h1, h2⟩ : ∃ i, Try.prog.info? 73 = some i ∧ i.zero = some (.agg #[(.int .i64 0), (.int .i64 0), (.int .i64 0), (.slice none 0 0)]) := info_zero (by kernel_rfl)
  exact ⟨⟨_, i, _, Try.underlying73, h1, h2, by kernel_rfl, rfl⟩, rfl⟩
theorem zr73 : (Try.prog.info? 73).map (·.zero) = some (some (.agg #[(.int .i64 0), (.int .i64 0), (.int .i64 0), (.slice none 0 0)])) := by kernel_rfl
theorem ty74 : AggTy Try.prog 74 4 := ⟨⟨_, Try.underlying74, rfl⟩, by kernel_rfl⟩
theorem fa74_0 : FieldTy Try.prog 74 0 0 1 false := ⟨⟨_, _, Try.underlying74, rfl, rfl, by kernel_rfl, ⟨_, Try.underlying3, rfl⟩, by decide⟩⟩
theorem fa74_1 : FieldTy Try.prog 74 1 1 1 false := ⟨⟨_, _, Try.underlying74, rfl, rfl, by kernel_rfl, ⟨_, Try.underlying3, rfl⟩, by decide⟩⟩
theorem fa74_2 : FieldTy Try.prog 74 2 2 1 false := ⟨⟨_, _, Try.underlying74, rfl, rfl, by kernel_rfl, ⟨_, Try.underlying3, rfl⟩, by decide⟩⟩
theorem fa74_3 : FieldTy Try.prog 74 3 3 1 false := ⟨⟨_, _, Try.underlying74, rfl, rfl, by kernel_rfl, ⟨_, Try.underlying29, rfl⟩, by decide⟩⟩
def zs74 : List V := [(.raw (.int .i64 0)), (.raw (.int .i64 0)), (.raw (.int .i64 0)), (.raw (.slice none 0 0))]
theorem st74 : StructTy Try.prog 74 [(0, 1), (1, 1), (2, 1), (3, 1)] zs74 := by
  obtain ⟨i, h1, h2⟩ : ∃ i, Try.prog.info? 74 = some i ∧ i.zero = some (.agg #[(.int .i64 0), (.int .i64 0), (.int .i64 0), (.slice none 0 0)]) := info_zero (by kernel_rfl)
  exact ⟨⟨_, i, _, Try.underlying74, h1, h2, by kernel_rfl, rfl⟩, rfl⟩
theorem zr74 : (Try.prog.info? 74).map (·.zero) = some (some (.agg #[(.int .i64 0), (.int .i64 0), (.int .i64 0), (.slice none 0 0)])) := by kernel_rfl
theorem ty75 : LeafTy Try.prog 75 := ⟨⟨_, Try.underlying75, rfl⟩, by kernel_rfl⟩
theorem zr75 : (Try.prog.info? 75).map (·.zero) = some (some (.nilFunc)) := by kernel_rfl
theorem ty76 : LeafTy Try.prog 76 := ⟨⟨_, Try.underlying76, rfl⟩, by kernel_rfl⟩
theorem zr76 : (Try.prog.info? 76).map (·.zero) = some (some (.nilFunc)) := by kernel_rfl
theorem ty77 : LeafTy Try.prog 77 := ⟨⟨_, Try.underlying77, rfl⟩, by kernel_rfl⟩
theorem zr77 : (Try.prog.info? 77).map (·.zero) = some (some (.nilFunc)) := by kernel_rfl
theorem ty78 : LeafTy Try.prog 78 := ⟨⟨_, Try.underlying78, rfl⟩, by kernel_rfl⟩
theorem zr78 : (Try.prog.info? 78).map (·.zero) = some (some (.nilFunc)) := by kernel_rfl
theorem ty79 : AggTy Try.prog 79 2 := ⟨⟨_, Try.underlying79, rfl⟩, by kernel_rfl⟩
theorem fa79_0 : FieldTy Try.prog 79 0 0 1 false := ⟨⟨_, _, Try.underlying79, rfl, rfl, by kernel_rfl, ⟨_, Try.underlying3, rfl⟩, by decide⟩⟩
theorem fa79_1 : FieldTy Try.prog 79 1 1 1 false := ⟨⟨_, _, Try.underlying79, rfl, rfl, by kernel_rfl, ⟨_, Try.underlying3, rfl⟩, by decide⟩⟩
def zs79 : List V := [(.raw (.int .i64 0)), (.raw (.int .i64 0))]
theorem st79 : StructTy Try.prog 79 [(0, 1), (1, 1)] zs79 := by
  obtain ⟨i, h1, h2⟩ : ∃ i, Try.prog.info? 79 = some i ∧ i.zero = some (.agg #[(.int .i64 0), (.int .i64 0)]) := info_zero (by kernel_rfl)
  exact ⟨⟨_, i, _, Try.underlying79, h1, h2, by kernel_rfl, rfl⟩, rfl⟩
theorem zr79 : (Try.prog.info? 79).map (·.zero) = some (some (.agg #[(.int .i64 0), (.int .i64 0)])) := by kernel_rfl
theorem ty80 : AggTy Try.prog 80 2 := ⟨⟨_, Try.underlying80, rfl⟩, by kernel_rfl⟩
theorem fa80_0 : FieldTy Try.prog 80 0 0 1 false := ⟨⟨_, _, Try.underlying80, rfl, rfl, by kernel_rfl, ⟨_, Try.underlying3, rfl⟩, by decide⟩⟩
theorem fa80_1 : FieldTy Try.prog 80 1 1 1 false := ⟨⟨_, _, Try.underlying80, rfl, rfl, by kernel_rfl, ⟨_, Try.underlying3, rfl⟩, by decide⟩⟩
def zs80 : List V := [(.raw (.int .i64 0)), (.raw (.int .i64 0))]
theorem st80 : StructTy Try.prog 80 [(0, 1), (1, 1)] zs80 := by
  obtain ⟨i, h1, h2⟩ : ∃ i, Try.prog.info? 80 = some i ∧ i.zero = some (.agg #[(.int .i64 0), (.int .i64 0)]) := info_zero (by kernel_rfl)
  exact ⟨⟨_, i, _, Try.underlying80, h1, h2, by kernel_rfl, rfl⟩, rfl⟩
theorem zr80 : (Try.prog.info? 80).map (·.zero) = some (some (.agg #[(.int .i64 0), (.int .i64 0)])) := by kernel_rfl
theorem ty81 : LeafTy Try.prog 81 := ⟨⟨_, Try.underlying81, rfl⟩, by kernel_rfl⟩
theorem zr81 : (Try.prog.info? 81).map (·.zero) = some (some (.nilFunc)) := by kernel_rfl
theorem ty82 : LeafTy Try.prog 82 := ⟨⟨_, Try.underlying82, rfl⟩, by kernel_rfl⟩
theorem zr82 : (Try.prog.info? 82).map (·.zero) = some (some (.nilFunc)) := by kernel_rfl
theorem ty83 : LeafTy Try.prog 83 := ⟨⟨_, Try.underlying83, rfl⟩, by kernel_rfl⟩
theorem zr83 : (Try.prog.info? 83).map (·.zero) = some (some (.slice none 0 0)) := by kernel_rfl
theorem sl83 : SliceTy Try.prog 83 86 2 16 (.agg #[(.int .u64 0), (.int .u64 0)]) := ⟨Try.underlying83, info_all (by kernel_rfl), rfl, by decide⟩
theorem ty84 : LeafTy Try.prog 84 := ⟨⟨_, Try.underlying84, rfl⟩, by kernel_rfl⟩
theorem zr84 : (Try.prog.info? 84).map (·.zero) = some (some (.int .u64 0)) := by kernel_rfl
theorem ty85 : AggTy Try.prog 85 2 := ⟨⟨_, Try.underlying85, rfl⟩, by kernel_rfl⟩
def zs85 : List V := [(.raw (.int .u64 0)), (.raw (.int .u64 0))]
theorem at85 : ArrTy Try.prog 85 2 84 1 zs85 := arr_ty (cs := [.int .u64 0, .int .u64 0]) Try.underlying85 (by kernel_rfl) (by kernel_rfl) rfl rfl
theorem se85 : (Try.prog.info? 84).map (·.size) = some 1 := by kernel_rfl
theorem zr85 : (Try.prog.info? 85).map (·.zero) = some (some (.agg #[(.int .u64 0), (.int .u64 0)])) := by kernel_rfl
theorem ty86 : AggTy Try.prog 86 2 := ⟨⟨_, Try.underlying86, rfl⟩, by kernel_rfl⟩
def zs86 : List V := [(.raw (.int .u64 0)), (.raw (.int .u64 0))]
theorem at86 : ArrTy Try.prog 86 2 84 1 zs86 := arr_ty (cs := [.int .u64 0, .int .u64 0]) Try.underlying86 (by kernel_rfl) (by kernel_rfl) rfl rfl
theorem se86 : (Try.prog.info? 84).map (·.size) = some 1 := by kernel_rfl
theorem zr86 : (Try.prog.info? 86).map (·.zero) = some (some (.agg #[(.int .u64 0), (.int .u64 0)])) := by kernel_rfl
theorem ty88 : LeafTy Try.prog 88 := ⟨⟨_, Try.underlying88, rfl⟩, by kernel_rfl⟩
theorem zr88 : (Try.prog.info? 88).map (·.zero) = some (some (.nilFunc)) := by kernel_rfl
theorem ty90 : LeafTy Try.prog 90 := ⟨⟨_, Try.underlying90, rfl⟩, by kernel_rfl⟩
theorem zr90 : (Try.prog.info? 90).map (·.zero) = some (some (.nilFunc)) := by kernel_rfl
theorem ty91 : LeafTy Try.prog 91 := ⟨⟨_, Try.underlying91, rfl⟩, by kernel_rfl⟩
theorem zr91 : (Try.prog.info? 91).map (·.zero) = some (some (.nilFunc)) := by kernel_rfl
theorem ty92 : LeafTy Try.prog 92 := ⟨⟨_, Try.underlying92, rfl⟩, by kernel_rfl⟩
theorem zr92 : (Try.prog.info? 92).map (·.zero) = some (some (.nilFunc)) := by kernel_rfl
theorem ty93 : LeafTy Try.prog 93 := ⟨⟨_, Try.underlying93, rfl⟩, by kernel_rfl⟩
theorem zr93 : (Try.prog.info? 93).map (·.zero) = some (some (.nilFunc)) := by kernel_rfl
theorem ty94 : LeafTy Try.prog 94 := ⟨⟨_, Try.underlying94, rfl⟩, by kernel_rfl⟩
theorem zr94 : (Try.prog.info? 94).map (·.zero) = some (some (.nilFunc)) := by kernel_rfl
theorem ty95 : LeafTy Try.prog 95 := ⟨⟨_, Try.underlying95, rfl⟩, by kernel_rfl⟩
theorem zr95 : (Try.prog.info? 95).map (·.zero) = some (some (.nilFunc)) := by kernel_rfl
theorem ty96 : LeafTy Try.prog 96 := ⟨⟨_, Try.underlying96, rfl⟩, by kernel_rfl⟩
theorem zr96 : (Try.prog.info? 96).map (·.zero) = some (some (.int .u64 0)) := by kernel_rfl
theorem ty97 : LeafTy Try.prog 97 := ⟨⟨_, Try.underlying97, rfl⟩, by kernel_rfl⟩
theorem zr97 : (Try.prog.info? 97).map (·.zero) = some (some (.nilFunc)) := by kernel_rfl
theorem ty98 : LeafTy Try.prog 98 := ⟨⟨_, Try.underlying98, rfl⟩, by kernel_rfl⟩
theorem zr98 : (Try.prog.info? 98).map (·.zero) = some (some (.nilFunc)) := by kernel_rfl
theorem ty99 : LeafTy Try.prog 99 := ⟨⟨_, Try.underlying99, rfl⟩, by kernel_rfl⟩
theorem zr99 : (Try.prog.info? 99).map (·.zero) = some (some (.nilFunc)) := by kernel_rfl
theorem ty100 : LeafTy Try.prog 100 := ⟨⟨_, Try.underlying100, rfl⟩, by kernel_rfl⟩
theorem zr100 : (Try.prog.info? 100).map (·.zero) = some (some (.pointer none)) := by kernel_rfl
theorem ty101 : LeafTy Try.prog 101 := ⟨⟨_, Try.underlying101, rfl⟩, by kernel_rfl⟩
theorem zr101 : (Try.prog.info? 101).map (·.zero) = some (some (.slice none 0 0)) := by kernel_rfl
theorem sl101 : SliceTy Try.prog 101 128 1 8 (.pointer none) := ⟨Try.underlying101, info_all (by kernel_rfl), rfl, by decide⟩
theorem ty102 : AggTy Try.prog 102 9 := ⟨⟨_, Try.underlying102, rfl⟩, by kernel_rfl⟩
theorem fa102_0 : FieldTy Try.prog 102 0 0 2 true := ⟨⟨_, _, Try.underlying102, rfl, rfl, by kernel_rfl, ⟨_, Try.underlying48, rfl⟩, by decide⟩⟩
theorem fa102_1 : FieldTy Try.prog 102 1 2 1 false := ⟨⟨_, _, Try.underlying102, rfl, rfl, by kernel_rfl, ⟨_, Try.underlying101, rfl⟩, by decide⟩⟩
theorem fa102_2 : FieldTy Try.prog 102 2 3 1 false := ⟨⟨_, _, Try.underlying102, rfl, rfl, by kernel_rfl, ⟨_, Try.underlying3, rfl⟩, by decide⟩⟩
theorem fa102_3 : FieldTy Try.prog 102 3 4 1 false := ⟨⟨_, _, Try.underlying102, rfl, rfl, by kernel_rfl, ⟨_, Try.underlying4, rfl⟩, by decide⟩⟩
theorem fa102_4 : FieldTy Try.prog 102 4 5 1 false := ⟨⟨_, _, Try.underlying102, rfl, rfl, by kernel_rfl, ⟨_, Try.underlying4, rfl⟩, by decide⟩⟩
theorem fa102_5 : FieldTy Try.prog 102 5 6 3 true := ⟨⟨_, _, Try.underlying102, rfl, rfl, by kernel_rfl, ⟨_, Try.underlying43, rfl⟩, by decide⟩⟩
def zs102 : List V := [(.raw (.slice none 0 0)), (.raw (.int .i64 0)), (.raw (.slice none 0 0)), (.raw (.int .i64 0)), (.raw (.bool false)), (.raw (.bool false)), (.raw (.slice none 0 0)), (.raw (.int .i64 0)), (.raw (.int .i64 0))]
theorem st102 : StructTy Try.prog 102 [(0, 2), (2, 1), (3, 1), (4, 1), (5, 1), (6, 3)] zs102 := by
  obtain ⟨i, h1, h2⟩ : ∃ i, Try.prog.info? 102 = some i ∧ i.zero = some (.agg #[(.slice none 0 0), (.int .i64 0), (.slice none 0 0), (.int .i64 0), (.bool false), (.bool false), (.slice none 0 0), (.int .i64 0), (.int .i64 0)]) := info_zero (by kernel_rfl)
  exact ⟨⟨_, i, _, Try.underlying102, h1, h2, by kernel_rfl, rfl⟩, rfl⟩
theorem zr102 : (Try.prog.info? 102).map (·.zero) = some (some (.agg #[(.slice none 0 0), (.int .i64 0), (.slice none 0 0), (.int .i64 0), (.bool false), (.bool false), (.slice none 0 0), (.int .i64 0), (.int .i64 0)])) := by kernel_rfl
theorem ty103 : AggTy Try.prog 103 9 := ⟨⟨_, Try.underlying103, rfl⟩, by kernel_rfl⟩
theorem fa103_0 : FieldTy Try.prog 103 0 0 2 true := ⟨⟨_, _, Try.underlying103, rfl, rfl, by kernel_rfl, ⟨_, Try.underlying48, rfl⟩, by decide⟩⟩
theorem fa103_1 : FieldTy Try.prog 103 1 2 1 false := ⟨⟨_, _, Try.underlying103, rfl, rfl, by kernel_rfl, ⟨_, Try.underlying101, rfl⟩, by decide⟩⟩
theorem fa103_2 : FieldTy Try.prog 103 2 3 1 false := ⟨⟨_, _, Try.underlying103, rfl, rfl, by kernel_rfl, ⟨_, Try.underlying3, rfl⟩, by decide⟩⟩
theorem fa103_3 : FieldTy Try.prog 103 3 4 1 false := ⟨⟨_, _, Try.underlying103, rfl, rfl, by kernel_rfl, ⟨_, Try.underlying4, rfl⟩, by decide⟩⟩
theorem fa103_4 : FieldTy Try.prog 103 4 5 1 false := ⟨⟨_, _, Try.underlying103, rfl, rfl, by kernel_rfl, ⟨_, Try.underlying4, rfl⟩, by decide⟩⟩
theorem fa103_5 : FieldTy Try.prog 103 5 6 3 true := ⟨⟨_, _, Try.underlying103, rfl, rfl, by kernel_rfl, ⟨_, Try.underlying43, rfl⟩, by decide⟩⟩
def zs103 : List V := [(.raw (.slice none 0 0)), (.raw (.int .i64 0)), (.raw (.slice none 0 0)), (.raw (.int .i64 0)), (.raw (.bool false)), (.raw (.bool false)), (.raw (.slice none 0 0)), (.raw (.int .i64 0)), (.raw (.int .i64 0))]
theorem st103 : StructTy Try.prog 103 [(0, 2), (2, 1), (3, 1), (4, 1), (5, 1), (6, 3)] zs103 := by
  obtain ⟨i, h1, h2⟩ : ∃ i, Try.prog.info? 103 = some i ∧ i.zero = some (.agg #[(.slice none 0 0), (.int .i64 0), (.slice none 0 0), (.int .i64 0), (.bool false), (.bool false), (.slice none 0 0), (.int .i64 0), (.int .i64 0)]) := info_zero (by kernel_rfl)
  exact ⟨⟨_, i, _, Try.underlying103, h1, h2, by kernel_rfl, rfl⟩, rfl⟩
theorem zr103 : (Try.prog.info? 103).map (·.zero) = some (some (.agg #[(.slice none 0 0), (.int .i64 0), (.slice none 0 0), (.int .i64 0), (.bool false), (.bool false), (.slice none 0 0), (.int .i64 0), (.int .i64 0)])) := by kernel_rfl
theorem ty104 : LeafTy Try.prog 104 := ⟨⟨_, Try.underlying104, rfl⟩, by kernel_rfl⟩
theorem zr104 : (Try.prog.info? 104).map (·.zero) = some (some (.nilFunc)) := by kernel_rfl
theorem ty106 : LeafTy Try.prog 106 := ⟨⟨_, Try.underlying106, rfl⟩, by kernel_rfl⟩
theorem zr106 : (Try.prog.info? 106).map (·.zero) = some (some (.nilFunc)) := by kernel_rfl
theorem ty107 : LeafTy Try.prog 107 := ⟨⟨_, Try.underlying107, rfl⟩, by kernel_rfl⟩
theorem zr107 : (Try.prog.info? 107).map (·.zero) = some (some (.nilFunc)) := by kernel_rfl
theorem ty108 : LeafTy Try.prog 108 := ⟨⟨_, Try.underlying108, rfl⟩, by kernel_rfl⟩
theorem zr108 : (Try.prog.info? 108).map (·.zero) = some (some (.nilFunc)) := by kernel_rfl
theorem ty109 : LeafTy Try.prog 109 := ⟨⟨_, Try.underlying109, rfl⟩, by kernel_rfl⟩
theorem zr109 : (Try.prog.info? 109).map (·.zero) = some (some (.nilFunc)) := by kernel_rfl
theorem ty110 : LeafTy Try.prog 110 := ⟨⟨_, Try.underlying110, rfl⟩, by kernel_rfl⟩
theorem zr110 : (Try.prog.info? 110).map (·.zero) = some (some (.nilFunc)) := by kernel_rfl
theorem ty111 : LeafTy Try.prog 111 := ⟨⟨_, Try.underlying111, rfl⟩, by kernel_rfl⟩
theorem zr111 : (Try.prog.info? 111).map (·.zero) = some (some (.slice none 0 0)) := by kernel_rfl
theorem sl111 : SliceTy Try.prog 111 4 1 1 (.bool false) := ⟨Try.underlying111, info_all (by kernel_rfl), rfl, by decide⟩
theorem ty112 : AggTy Try.prog 112 2 := ⟨⟨_, Try.underlying112, rfl⟩, by kernel_rfl⟩
theorem fa112_0 : FieldTy Try.prog 112 0 0 1 false := ⟨⟨_, _, Try.underlying112, rfl, rfl, by kernel_rfl, ⟨_, Try.underlying3, rfl⟩, by decide⟩⟩
theorem fa112_1 : FieldTy Try.prog 112 1 1 1 false := ⟨⟨_, _, Try.underlying112, rfl, rfl, by kernel_rfl, ⟨_, Try.underlying3, rfl⟩, by decide⟩⟩
def zs112 : List V := [(.raw (.int .i64 0)), (.raw (.int .i64 0))]
theorem st112 : StructTy Try.prog 112 [(0, 1), (1, 1)] zs112 := by
  obtain ⟨i, h1, h2⟩ : ∃ i, Try.prog.info? 112 = some i ∧ i.zero = some (.agg #[(.int .i64 0), (.int .i64 0)]) := info_zero (by kernel_rfl)
  exact ⟨⟨_, i, _, Try.underlying112, h1, h2, by kernel_rfl, rfl⟩, rfl⟩
theorem zr112 : (Try.prog.info? 112).map (·.zero) = some (some (.agg #[(.int .i64 0), (.int .i64 0)])) := by kernel_rfl
theorem ty113 : AggTy Try.prog 113 2 := ⟨⟨_, Try.underlying113, rfl⟩, by kernel_rfl⟩
theorem fa113_0 : FieldTy Try.prog 113 0 0 1 false := ⟨⟨_, _, Try.underlying113, rfl, rfl, by kernel_rfl, ⟨_, Try.underlying3, rfl⟩, by decide⟩⟩
theorem fa113_1 : FieldTy Try.prog 113 1 1 1 false := ⟨⟨_, _, Try.underlying113, rfl, rfl, by kernel_rfl, ⟨_, Try.underlying3, rfl⟩, by decide⟩⟩
def zs113 : List V := [(.raw (.int .i64 0)), (.raw (.int .i64 0))]
theorem st113 : StructTy Try.prog 113 [(0, 1), (1, 1)] zs113 := by
  obtain ⟨i, h1, h2⟩ : ∃ i, Try.prog.info? 113 = some i ∧ i.zero = some (.agg #[(.int .i64 0), (.int .i64 0)]) := info_zero (by kernel_rfl)
  exact ⟨⟨_, i, _, Try.underlying113, h1, h2, by kernel_rfl, rfl⟩, rfl⟩
theorem zr113 : (Try.prog.info? 113).map (·.zero) = some (some (.agg #[(.int .i64 0), (.int .i64 0)])) := by kernel_rfl
theorem ty114 : LeafTy Try.prog 114 := ⟨⟨_, Try.underlying114, rfl⟩, by kernel_rfl⟩
theorem zr114 : (Try.prog.info? 114).map (·.zero) = some (some (.slice none 0 0)) := by kernel_rfl
theorem sl114 : SliceTy Try.prog 114 113 2 16 (.agg #[(.int .i64 0), (.int .i64 0)]) := ⟨Try.underlying114, info_all (by kernel_rfl), rfl, by decide⟩
theorem ty115 : LeafTy Try.prog 115 := ⟨⟨_, Try.underlying115, rfl⟩, by kernel_rfl⟩
theorem zr115 : (Try.prog.info? 115).map (·.zero) = some (some (.pointer none)) := by kernel_rfl
theorem ty116 : LeafTy Try.prog 116 := ⟨⟨_, Try.underlying116, rfl⟩, by kernel_rfl⟩
theorem zr116 : (Try.prog.info? 116).map (·.zero) = some (some (.nilFunc)) := by kernel_rfl
theorem ty117 : LeafTy Try.prog 117 := ⟨⟨_, Try.underlying117, rfl⟩, by kernel_rfl⟩
theorem zr117 : (Try.prog.info? 117).map (·.zero) = some (some (.int .i64 0)) := by kernel_rfl
theorem ty119 : LeafTy Try.prog 119 := ⟨⟨_, Try.underlying119, rfl⟩, by kernel_rfl⟩
theorem zr119 : (Try.prog.info? 119).map (·.zero) = some (some (.nilFunc)) := by kernel_rfl
theorem ty120 : LeafTy Try.prog 120 := ⟨⟨_, Try.underlying120, rfl⟩, by kernel_rfl⟩
theorem zr120 : (Try.prog.info? 120).map (·.zero) = some (some (.nilFunc)) := by kernel_rfl
theorem ty121 : LeafTy Try.prog 121 := ⟨⟨_, Try.underlying121, rfl⟩, by kernel_rfl⟩
theorem zr121 : (Try.prog.info? 121).map (·.zero) = some (some (.nilFunc)) := by kernel_rfl
theorem ty122 : LeafTy Try.prog 122 := ⟨⟨_, Try.underlying122, rfl⟩, by kernel_rfl⟩
theorem zr122 : (Try.prog.info? 122).map (·.zero) = some (some (.nilFunc)) := by kernel_rfl
theorem ty123 : LeafTy Try.prog 123 := ⟨⟨_, Try.underlying123, rfl⟩, by kernel_rfl⟩
theorem zr123 : (Try.prog.info? 123).map (·.zero) = some (some (.nilFunc)) := by kernel_rfl
theorem ty124 : LeafTy Try.prog 124 := ⟨⟨_, Try.underlying124, rfl⟩, by kernel_rfl⟩
theorem zr124 : (Try.prog.info? 124).map (·.zero) = some (some (.int .u32 0)) := by kernel_rfl
theorem ty125 : LeafTy Try.prog 125 := ⟨⟨_, Try.underlying125, rfl⟩, by kernel_rfl⟩
theorem zr125 : (Try.prog.info? 125).map (·.zero) = some (some (.nilFunc)) := by kernel_rfl
theorem ty126 : LeafTy Try.prog 126 := ⟨⟨_, Try.underlying126, rfl⟩, by kernel_rfl⟩
theorem zr126 : (Try.prog.info? 126).map (·.zero) = some (some (.nilFunc)) := by kernel_rfl
theorem ty127 : LeafTy Try.prog 127 := ⟨⟨_, Try.underlying127, rfl⟩, by kernel_rfl⟩
theorem zr127 : (Try.prog.info? 127).map (·.zero) = some (some (.slice none 0 0)) := by kernel_rfl
theorem sl127 : SliceTy Try.prog 127 134 4 48 (.agg #[(.int .i64 0), (.int .i64 0), (.slice none 0 0), (.pointer none)]) := ⟨Try.underlying127, info_all (by kernel_rfl), rfl, by decide⟩
theorem ty128 : LeafTy Try.prog 128 := ⟨⟨_, Try.underlying128, rfl⟩, by kernel_rfl⟩
theorem zr128 : (Try.prog.info? 128).map (·.zero) = some (some (.pointer none)) := by kernel_rfl
theorem ty129 : LeafTy Try.prog 129 := ⟨⟨_, Try.underlying129, rfl⟩, by kernel_rfl⟩
theorem zr129 : (Try.prog.info? 129).map (·.zero) = some (some (.map none)) := by kernel_rfl
theorem ty130 : AggTy Try.prog 130 5 := ⟨⟨_, Try.underlying130, rfl⟩, by kernel_rfl⟩
theorem fa130_0 : FieldTy Try.prog 130 0 0 1 false := ⟨⟨_, _, Try.underlying130, rfl, rfl, by kernel_rfl, ⟨_, Try.underlying3, rfl⟩, by decide⟩⟩
theorem fa130_1 : FieldTy Try.prog 130 1 1 1 false := ⟨⟨_, _, Try.underlying130, rfl, rfl, by kernel_rfl, ⟨_, Try.underlying3, rfl⟩, by decide⟩⟩
theorem fa130_2 : FieldTy Try.prog 130 2 2 1 false := ⟨⟨_, _, Try.underlying130, rfl, rfl, by kernel_rfl, ⟨_, Try.underlying3, rfl⟩, by decide⟩⟩
theorem fa130_3 : FieldTy Try.prog 130 3 3 1 false := ⟨⟨_, _, Try.underlying130, rfl, rfl, by kernel_rfl, ⟨_, Try.underlying3, rfl⟩, by decide⟩⟩
theorem fa130_4 : FieldTy Try.prog 130 4 4 1 false := ⟨⟨_, _, Try.underlying130, rfl, rfl, by kernel_rfl, ⟨_, Try.underlying129, rfl⟩, by decide⟩⟩
def zs130 : List V := [(.raw (.int .i64 0)), (.raw (.int .i64 0)), (.raw (.int .i64 0)), (.raw (.int .i64 0)), (.raw (.map none))]
theorem st130 : StructTy Try.prog 130 [(0, 1), (1, 1), (2, 1), (3, 1), (4, 1)] zs130 := by
  obtain ⟨i, h1, h2⟩ : ∃ i, Try.prog.info? 130 = some i ∧ i.zero = some (.agg #[(.int .i64 0), (.int .i64 0), (.int .i64 0), (.int .i64 0), (.map none)]) := info_zero (by kernel_rfl)
  exact ⟨⟨_, i, _, Try.underlying130, h1, h2, by kernel_rfl, rfl⟩, rfl⟩
theorem zr130 : (Try.prog.info? 130).map (·.zero) = some (some (.agg #[(.int .i64 0), (.int .i64 0), (.int .i64 0), (.int .i64 0), (.map none)])) := by kernel_rfl
theorem ty131 : AggTy Try.prog 131 5 := ⟨⟨_, Try.underlying131, rfl⟩, by kernel_rfl⟩
theorem fa131_0 : FieldTy Try.prog 131 0 0 1 false := ⟨⟨_, _, Try.underlying131, rfl, rfl, by kernel_rfl, ⟨_, Try.underlying3, rfl⟩, by decide⟩⟩
theorem fa131_1 : FieldTy Try.prog 131 1 1 1 false := ⟨⟨_, _, Try.underlying131, rfl, rfl, by kernel_rfl, ⟨_, Try.underlying3, rfl⟩, by decide⟩⟩
theorem fa131_2 : FieldTy Try.prog 131 2 2 1 false := ⟨⟨_, _, Try.underlying131, rfl, rfl, by kernel_rfl, ⟨_, Try.underlying3, rfl⟩, by decide⟩⟩
theorem fa131_3 : FieldTy Try.prog 131 3 3 1 false := ⟨⟨_, _, Try.underlying131, rfl, rfl, by kernel_rfl, ⟨_, Try.underlying3, rfl⟩, by decide⟩⟩
theorem fa131_4 : FieldTy Try.prog 131 4 4 1 false := ⟨⟨_, _, Try.underlying131, rfl, rfl, by kernel_rfl, ⟨_, Try.underlying129, rfl⟩, by decide⟩⟩
def zs131 : List V := [(.raw (.int .i64 0)), (.raw (.int .i64 0)), (.raw (.int .i64 0)), (.raw (.int .i64 0)), (.raw (.map none))]
theorem st131 : StructTy Try.prog 131 [(0, 1), (1, 1), (2, 1), (3, 1), (4, 1)] zs131 := by
  obtain ⟨i, h1, h2⟩ : ∃ i, Try.prog.info? 131 = some i ∧ i.zero = some (.agg #[(.int .i64 0), (.int .i64 0), (.int .i64 0), (.int .i64 0), (.map none)]) := info_zero (by kernel_rfl)
  exact ⟨⟨_, i, _, Try.underlying131, h1, h2, by kernel_rfl, rfl⟩, rfl⟩
theorem zr131 : (Try.prog.info? 131).map (·.zero) = some (some (.agg #[(.int .i64 0), (.int .i64 0), (.int .i64 0), (.int .i64 0), (.map none)])) := by kernel_rfl
theorem ty132 : LeafTy Try.prog 132 := ⟨⟨_, Try.underlying132, rfl⟩, by kernel_rfl⟩
theorem zr132 : (Try.prog.info? 132).map (·.zero) = some (some (.pointer none)) := by kernel_rfl
theorem ty133 : AggTy Try.prog 133 4 := ⟨⟨_, Try.underlying133, rfl⟩, by kernel_rfl⟩
theorem fa133_0 : FieldTy Try.prog 133 0 0 1 false := ⟨⟨_, _, Try.underlying133, rfl, rfl, by kernel_rfl, ⟨_, Try.underlying3, rfl⟩, by decide⟩⟩
theorem fa133_1 : FieldTy Try.prog 133 1 1 1 false := ⟨⟨_, _, Try.underlying133, rfl, rfl, by kernel_rfl, ⟨_, Try.underlying3, rfl⟩, by decide⟩⟩
theorem fa133_2 : FieldTy Try.prog 133 2 2 1 false := ⟨⟨_, _, Try.underlying133, rfl, rfl, by kernel_rfl, ⟨_, Try.underlying127, rfl⟩, by decide⟩⟩
theorem fa133_3 : FieldTy Try.prog 133 3 3 1 false := ⟨⟨_, _, Try.underlying133, rfl, rfl, by kernel_rfl, ⟨_, Try.underlying132, rfl⟩, by decide⟩⟩
def zs133 : List V := [(.raw (.int .i64 0)), (.raw (.int .i64 0)), (.raw (.slice none 0 0)), (.raw (.pointer none))]
theorem st133 : StructTy Try.prog 133 [(0, 1), (1, 1), (2, 1), (3, 1)] zs133 := by
  obtain ⟨i, h1, h2⟩ : ∃ i, Try.prog.info? 133 = some i ∧ i.zero = some (.agg #[(.int .i64 0), (.int .i64 0), (.slice none 0 0), (.pointer none)]) := info_zero (by kernel_rfl)
  exact ⟨⟨_, i, _, Try.underlying133, h1, h2, by kernel_rfl, rfl⟩, rfl⟩
theorem zr133 : (Try.prog.info? 133).map (·.zero) = some (some (.agg #[(.int .i64 0), (.int .i64 0), (.slice none 0 0), (.pointer none)])) := by kernel_rfl
theorem ty134 : AggTy Try.prog 134 4 := ⟨⟨_, Try.underlying134, rfl⟩, by kernel_rfl⟩
theorem fa134_0 : FieldTy Try.prog 134 0 0 1 false := ⟨⟨_, _, Try.underlying134, rfl, rfl, by kernel_rfl, ⟨_, Try.underlying3, rfl⟩, by decide⟩⟩
theorem fa134_1 : FieldTy Try.prog 134 1 1 1 false := ⟨⟨_, _, Try.underlying134, rfl, rfl, by kernel_rfl, ⟨_, Try.underlying3, rfl⟩, by decide⟩⟩
theorem fa134_2 : FieldTy Try.prog 134 2 2 1 false := ⟨⟨_, _, Try.underlying134, rfl, rfl, by kernel_rfl, ⟨_, Try.underlying127, rfl⟩, by decide⟩⟩
theorem fa134_3 : FieldTy Try.prog 134 3 3 1 false := ⟨⟨_, _, Try.underlying134, rfl, rfl, by kernel_rfl, ⟨_, Try.underlying132, rfl⟩, by decide⟩⟩
def zs134 : List V := [(.raw (.int .i64 0)), (.raw (.int .i64 0)), (.raw (.slice none 0 0)), (.raw (.pointer none))]
theorem st134 : StructTy Try.prog 134 [(0, 1), (1, 1), (2, 1), (3, 1)] zs134 := by
  obtain ⟨i, h1, h2⟩ : ∃ i, Try.prog.info? 134 = some i ∧ i.zero = some (.agg #[(.int .i64 0), (.int .i64 0), (.slice none 0 0), (.pointer none)]) := info_zero (by kernel_rfl)
  exact ⟨⟨_, i, _, Try.underlying134, h1, h2, by kernel_rfl, rfl⟩, rfl⟩
theorem zr134 : (Try.prog.info? 134).map (·.zero) = some (some (.agg #[(.int .i64 0), (.int .i64 0), (.slice none 0 0), (.pointer none)])) := by kernel_rfl
theorem ty135 : LeafTy Try.prog 135 := ⟨⟨_, Try.underlying135, rfl⟩, by kernel_rfl⟩
theorem zr135 : (Try.prog.info? 135).map (·.zero) = some (some (.nilFunc)) := by kernel_rfl
theorem ty136 : LeafTy Try.prog 136 := ⟨⟨_, Try.underlying136, rfl⟩, by kernel_rfl⟩
theorem zr136 : (Try.prog.info? 136).map (·.zero) = some (some (.nilFunc)) := by kernel_rfl
theorem ty137 : LeafTy Try.prog 137 := ⟨⟨_, Try.underlying137, rfl⟩, by kernel_rfl⟩
theorem zr137 : (Try.prog.info? 137).map (·.zero) = some (some (.nilFunc)) := by kernel_rfl
theorem ty139 : LeafTy Try.prog 139 := ⟨⟨_, Try.underlying139, rfl⟩, by kernel_rfl⟩
theorem zr139 : (Try.prog.info? 139).map (·.zero) = some (some (.nilFunc)) := by kernel_rfl
theorem ty140 : LeafTy Try.prog 140 := ⟨⟨_, Try.underlying140, rfl⟩, by kernel_rfl⟩
theorem zr140 : (Try.prog.info? 140).map (·.zero) = some (some (.int .u64 0)) := by kernel_rfl
theorem ty141 : LeafTy Try.prog 141 := ⟨⟨_, Try.underlying141, rfl⟩, by kernel_rfl⟩
theorem zr141 : (Try.prog.info? 141).map (·.zero) = some (some (.nilFunc)) := by kernel_rfl
theorem ty142 : LeafTy Try.prog 142 := ⟨⟨_, Try.underlying142, rfl⟩, by kernel_rfl⟩
theorem zr142 : (Try.prog.info? 142).map (·.zero) = some (some (.nilFunc)) := by kernel_rfl
theorem ty143 : LeafTy Try.prog 143 := ⟨⟨_, Try.underlying143, rfl⟩, by kernel_rfl⟩
theorem zr143 : (Try.prog.info? 143).map (·.zero) = some (some (.nilFunc)) := by kernel_rfl
theorem ty144 : LeafTy Try.prog 144 := ⟨⟨_, Try.underlying144, rfl⟩, by kernel_rfl⟩
theorem zr144 : (Try.prog.info? 144).map (·.zero) = some (some (.pointer none)) := by kernel_rfl
theorem ty145 : LeafTy Try.prog 145 := ⟨⟨_, Try.underlying145, rfl⟩, by kernel_rfl⟩
theorem zr145 : (Try.prog.info? 145).map (·.zero) = some (some (.nilFunc)) := by kernel_rfl
theorem ty146 : LeafTy Try.prog 146 := ⟨⟨_, Try.underlying146, rfl⟩, by kernel_rfl⟩
theorem zr146 : (Try.prog.info? 146).map (·.zero) = some (some (.nilFunc)) := by kernel_rfl
theorem ty147 : LeafTy Try.prog 147 := ⟨⟨_, Try.underlying147, rfl⟩, by kernel_rfl⟩
theorem zr147 : (Try.prog.info? 147).map (·.zero) = some (some (.nilFunc)) := by kernel_rfl
theorem ty148 : LeafTy Try.prog 148 := ⟨⟨_, Try.underlying148, rfl⟩, by kernel_rfl⟩
theorem zr148 : (Try.prog.info? 148).map (·.zero) = some (some (.nilFunc)) := by kernel_rfl
theorem ty149 : LeafTy Try.prog 149 := ⟨⟨_, Try.underlying149, rfl⟩, by kernel_rfl⟩
theorem zr149 : (Try.prog.info? 149).map (·.zero) = some (some (.nilFunc)) := by kernel_rfl
theorem ty150 : LeafTy Try.prog 150 := ⟨⟨_, Try.underlying150, rfl⟩, by kernel_rfl⟩
theorem zr150 : (Try.prog.info? 150).map (·.zero) = some (some (.nilFunc)) := by kernel_rfl
theorem ty151 : LeafTy Try.prog 151 := ⟨⟨_, Try.underlying151, rfl⟩, by kernel_rfl⟩
theorem zr151 : (Try.prog.info? 151).map (·.zero) = some (some (.nilFunc)) := by kernel_rfl
theorem ty152 : LeafTy Try.prog 152 := ⟨⟨_, Try.underlying152, rfl⟩, by kernel_rfl⟩
theorem zr152 : (Try.prog.info? 152).map (·.zero) = some (some (.pointer none)) := by kernel_rfl
theorem ty154 : LeafTy Try.prog 154 := ⟨⟨_, Try.underlying154, rfl⟩, by kernel_rfl⟩
theorem zr154 : (Try.prog.info? 154).map (·.zero) = some (some (.nilFunc)) := by kernel_rfl
theorem ty155 : LeafTy Try.prog 155 := ⟨⟨_, Try.underlying155, rfl⟩, by kernel_rfl⟩
theorem zr155 : (Try.prog.info? 155).map (·.zero) = some (some (.nilFunc)) := by kernel_rfl
theorem ty157 : LeafTy Try.prog 157 := ⟨⟨_, Try.underlying157, rfl⟩, by kernel_rfl⟩
theorem zr157 : (Try.prog.info? 157).map (·.zero) = some (some (.nilFunc)) := by kernel_rfl
theorem ty158 : LeafTy Try.prog 158 := ⟨⟨_, Try.underlying158, rfl⟩, by kernel_rfl⟩
theorem zr158 : (Try.prog.info? 158).map (·.zero) = some (some (.nilFunc)) := by kernel_rfl
theorem ty159 : LeafTy Try.prog 159 := ⟨⟨_, Try.underlying159, rfl⟩, by kernel_rfl⟩
theorem zr159 : (Try.prog.info? 159).map (·.zero) = some (some (.nilFunc)) := by kernel_rfl
theorem ty160 : LeafTy Try.prog 160 := ⟨⟨_, Try.underlying160, rfl⟩, by kernel_rfl⟩
theorem zr160 : (Try.prog.info? 160).map (·.zero) = some (some (.nilFunc)) := by kernel_rfl
theorem ty161 : AggTy Try.prog 161 4 := ⟨⟨_, Try.underlying161, rfl⟩, by kernel_rfl⟩
theorem fa161_0 : FieldTy Try.prog 161 0 0 1 false := ⟨⟨_, _, Try.underlying161, rfl, rfl, by kernel_rfl, ⟨_, Try.underlying17, rfl⟩, by decide⟩⟩
theorem fa161_1 : FieldTy Try.prog 161 1 1 1 false := ⟨⟨_, _, Try.underlying161, rfl, rfl, by kernel_rfl, ⟨_, Try.underlying17, rfl⟩, by decide⟩⟩
theorem fa161_2 : FieldTy Try.prog 161 2 2 1 false := ⟨⟨_, _, Try.underlying161, rfl, rfl, by kernel_rfl, ⟨_, Try.underlying17, rfl⟩, by decide⟩⟩
theorem fa161_3 : FieldTy Try.prog 161 3 3 1 false := ⟨⟨_, _, Try.underlying161, rfl, rfl, by kernel_rfl, ⟨_, Try.underlying9, rfl⟩, by decide⟩⟩
def zs161 : List V := [(.raw (.pointer none)), (.raw (.pointer none)), (.raw (.pointer none)), (.raw (.string ⟨#[]⟩))]
theorem st161 : StructTy Try.prog 161 [(0, 1), (1, 1), (2, 1), (3, 1)] zs161 := by
  obtain ⟨i, h1, h2⟩ : ∃ i, Try.prog.info? 161 = some i ∧ i.zero = some (.agg #[(.pointer none), (.pointer none), (.pointer none), (.string ⟨#[]⟩)]) := info_zero (by kernel_rfl)
  exact ⟨⟨_, i, _, Try.underlying161, h1, h2, by kernel_rfl, rfl⟩, rfl⟩
theorem zr161 : (Try.prog.info? 161).map (·.zero) = some (some (.agg #[(.pointer none), (.pointer none), (.pointer none), (.string ⟨#[]⟩)])) := by kernel_rfl
theorem ty162 : AggTy Try.prog 162 4 := ⟨⟨_, Try.underlying162, rfl⟩, by kernel_rfl⟩
theorem fa162_0 : FieldTy Try.prog 162 0 0 1 false := ⟨⟨_, _, Try.underlying162, rfl, rfl, by kernel_rfl, ⟨_, Try.underlying17, rfl⟩, by decide⟩⟩
theorem fa162_1 : FieldTy Try.prog 162 1 1 1 false := ⟨⟨_, _, Try.underlying162, rfl, rfl, by kernel_rfl, ⟨_, Try.underlying17, rfl⟩, by decide⟩⟩
theorem fa162_2 : FieldTy Try.prog 162 2 2 1 false := ⟨⟨_, _, Try.underlying162, rfl, rfl, by kernel_rfl, ⟨_, Try.underlying17, rfl⟩, by decide⟩⟩
theorem fa162_3 : FieldTy Try.prog 162 3 3 1 false := ⟨⟨_, _, Try.underlying162, rfl, rfl, by kernel_rfl, ⟨_, Try.underlying9, rfl⟩, by decide⟩⟩
def zs162 : List V := [(.raw (.pointer none)), (.raw (.pointer none)), (.raw (.pointer none)), (.raw (.string ⟨#[]⟩))]
theorem st162 : StructTy Try.prog 162 [(0, 1), (1, 1), (2, 1), (3, 1)] zs162 := by
  obtain ⟨i, h1, h2⟩ : ∃ i, Try.prog.info? 162 = some i ∧ i.zero = some (.agg #[(.pointer none), (.pointer none), (.pointer none), (.string ⟨#[]⟩)]) := info_zero (by kernel_rfl)
  exact ⟨⟨_, i, _, Try.underlying162, h1, h2, by kernel_rfl, rfl⟩, rfl⟩
theorem zr162 : (Try.prog.info? 162).map (·.zero) = some (some (.agg #[(.pointer none), (.pointer none), (.pointer none), (.string ⟨#[]⟩)])) := by kernel_rfl
theorem ty163 : AggTy Try.prog 163 0 := ⟨⟨_, Try.underlying163, rfl⟩, by kernel_rfl⟩
def zs163 : List V := []
theorem at163 : ArrTy Try.prog 163 0 16 1 zs163 := arr_ty (cs := []) Try.underlying163 (by kernel_rfl) (by kernel_rfl) rfl rfl
theorem se163 : (Try.prog.info? 16).map (·.size) = some 1 := by kernel_rfl
theorem zr163 : (Try.prog.info? 163).map (·.zero) = some (some (.agg #[])) := by kernel_rfl
theorem ty164 : AggTy Try.prog 164 0 := ⟨⟨_, Try.underlying164, rfl⟩, by kernel_rfl⟩
def zs164 : List V := []
theorem st164 : StructTy Try.prog 164 [(0, 0)] zs164 := by
  obtain ⟨i, h1, h2⟩ : ∃ i, Try.prog.info? 164 = some i ∧ i.zero = some (.agg #[]) := info_zero (by kernel_rfl)
  exact ⟨⟨_, i, _, Try.underlying164, h1, h2, by kernel_rfl, rfl⟩, rfl⟩
theorem zr164 : (Try.prog.info? 164).map (·.zero) = some (some (.agg #[])) := by kernel_rfl
theorem ty165 : AggTy Try.prog 165 0 := ⟨⟨_, Try.underlying165, rfl⟩, by kernel_rfl⟩
def zs165 : List V := []
theorem st165 : StructTy Try.prog 165 [(0, 0)] zs165 := by
  obtain ⟨i, h1, h2⟩ : ∃ i, Try.prog.info? 165 = some i ∧ i.zero = some (.agg #[]) := info_zero (by kernel_rfl)
  exact ⟨⟨_, i, _, Try.underlying165, h1, h2, by kernel_rfl, rfl⟩, rfl⟩
theorem zr165 : (Try.prog.info? 165).map (·.zero) = some (some (.agg #[])) := by kernel_rfl
theorem ty166 : LeafTy Try.prog 166 := ⟨⟨_, Try.underlying166, rfl⟩, by kernel_rfl⟩
theorem zr166 : (Try.prog.info? 166).map (·.zero) = some (some (.nilFunc)) := by kernel_rfl
theorem ty167 : LeafTy Try.prog 167 := ⟨⟨_, Try.underlying167, rfl⟩, by kernel_rfl⟩
theorem zr167 : (Try.prog.info? 167).map (·.zero) = some (some (.int .u8 0)) := by kernel_rfl
theorem ty168 : LeafTy Try.prog 168 := ⟨⟨_, Try.underlying168, rfl⟩, by kernel_rfl⟩
theorem zr168 : (Try.prog.info? 168).map (·.zero) = some (some (.int .u8 0)) := by kernel_rfl
theorem ty169 : LeafTy Try.prog 169 := ⟨⟨_, Try.underlying169, rfl⟩, by kernel_rfl⟩
theorem zr169 : (Try.prog.info? 169).map (·.zero) = some (some (.nilFunc)) := by kernel_rfl
theorem ty170 : LeafTy Try.prog 170 := ⟨⟨_, Try.underlying170, rfl⟩, by kernel_rfl⟩
theorem zr170 : (Try.prog.info? 170).map (·.zero) = some (some (.pointer none)) := by kernel_rfl
theorem ty171 : LeafTy Try.prog 171 := ⟨⟨_, Try.underlying171, rfl⟩, by kernel_rfl⟩
theorem zr171 : (Try.prog.info? 171).map (·.zero) = some (some (.int .i32 0)) := by kernel_rfl
theorem ty172 : LeafTy Try.prog 172 := ⟨⟨_, Try.underlying172, rfl⟩, by kernel_rfl⟩
theorem zr172 : (Try.prog.info? 172).map (·.zero) = some (some (.int .i32 0)) := by kernel_rfl
theorem ty173 : AggTy Try.prog 173 11 := ⟨⟨_, Try.underlying173, rfl⟩, by kernel_rfl⟩
theorem fa173_0 : FieldTy Try.prog 173 0 0 1 false := ⟨⟨_, _, Try.underlying173, rfl, rfl, by kernel_rfl, ⟨_, Try.underlying12, rfl⟩, by decide⟩⟩
theorem fa173_1 : FieldTy Try.prog 173 1 1 1 false := ⟨⟨_, _, Try.underlying173, rfl, rfl, by kernel_rfl, ⟨_, Try.underlying12, rfl⟩, by decide⟩⟩
theorem fa173_2 : FieldTy Try.prog 173 2 2 1 false := ⟨⟨_, _, Try.underlying173, rfl, rfl, by kernel_rfl, ⟨_, Try.underlying124, rfl⟩, by decide⟩⟩
theorem fa173_3 : FieldTy Try.prog 173 3 3 1 false := ⟨⟨_, _, Try.underlying173, rfl, rfl, by kernel_rfl, ⟨_, Try.underlying167, rfl⟩, by decide⟩⟩
theorem fa173_4 : FieldTy Try.prog 173 4 4 1 false := ⟨⟨_, _, Try.underlying173, rfl, rfl, by kernel_rfl, ⟨_, Try.underlying5, rfl⟩, by decide⟩⟩
theorem fa173_5 : FieldTy Try.prog 173 5 5 1 false := ⟨⟨_, _, Try.underlying173, rfl, rfl, by kernel_rfl, ⟨_, Try.underlying5, rfl⟩, by decide⟩⟩
theorem fa173_6 : FieldTy Try.prog 173 6 6 1 false := ⟨⟨_, _, Try.underlying173, rfl, rfl, by kernel_rfl, ⟨_, Try.underlying168, rfl⟩, by decide⟩⟩
theorem fa173_7 : FieldTy Try.prog 173 7 7 1 false := ⟨⟨_, _, Try.underlying173, rfl, rfl, by kernel_rfl, ⟨_, Try.underlying169, rfl⟩, by decide⟩⟩
theorem fa173_8 : FieldTy Try.prog 173 8 8 1 false := ⟨⟨_, _, Try.underlying173, rfl, rfl, by kernel_rfl, ⟨_, Try.underlying170, rfl⟩, by decide⟩⟩
theorem fa173_9 : FieldTy Try.prog 173 9 9 1 false := ⟨⟨_, _, Try.underlying173, rfl, rfl, by kernel_rfl, ⟨_, Try.underlying171, rfl⟩, by decide⟩⟩
theorem fa173_10 : FieldTy Try.prog 173 10 10 1 false := ⟨⟨_, _, Try.underlying173, rfl, rfl, by kernel_rfl, ⟨_, Try.underlying172, rfl⟩, by decide⟩⟩
def zs173 : List V := [(.raw (.int .u64 0)), (.raw (.int .u64 0)), (.raw (.int .u32 0)), (.raw (.int .u8 0)), (.raw (.int .u8 0)), (.raw (.int .u8 0)), (.raw (.int .u8 0)), (.raw (.nilFunc)), (.raw (.pointer none)), (.raw (.int .i32 0)), (.raw (.int .i32 0))]
theorem st173 : StructTy Try.prog 173 [(0, 1), (1, 1), (2, 1), (3, 1), (4, 1), (5, 1), (6, 1), (7, 1), (8, 1), (9, 1), (10, 1)] zs173 := by
  obtain ⟨i, h1, h2⟩ : ∃ i, Try.prog.info? 173 = some i ∧ i.zero = some (.agg #[(.int .u64 0), (.int .u64 0), (.int .u32 0), (.int .u8 0), (.int .u8 0), (.int .u8 0), (.int .u8 0), (.nilFunc), (.pointer none), (.int .i32 0), (.int .i32 0)]) := info_zero (by kernel_rfl)
  exact ⟨⟨_, i, _, Try.underlying173, h1, h2, by kernel_rfl, rfl⟩, rfl⟩
theorem zr173 : (Try.prog.info? 173).map (·.zero) = some (some (.agg #[(.int .u64 0), (.int .u64 0), (.int .u32 0), (.int .u8 0), (.int .u8 0), (.int .u8 0), (.int .u8 0), (.nilFunc), (.pointer none), (.int .i32 0), (.int .i32 0)])) := by kernel_rfl
theorem ty174 : AggTy Try.prog 174 11 := ⟨⟨_, Try.underlying174, rfl⟩, by kernel_rfl⟩
theorem fa174_0 : FieldTy Try.prog 174 0 0 1 false := ⟨⟨_, _, Try.underlying174, rfl, rfl, by kernel_rfl, ⟨_, Try.underlying12, rfl⟩, by decide⟩⟩
theorem fa174_1 : FieldTy Try.prog 174 1 1 1 false := ⟨⟨_, _, Try.underlying174, rfl, rfl, by kernel_rfl, ⟨_, Try.underlying12, rfl⟩, by decide⟩⟩
theorem fa174_2 : FieldTy Try.prog 174 2 2 1 false := ⟨⟨_, _, Try.underlying174, rfl, rfl, by kernel_rfl, ⟨_, Try.underlying124, rfl⟩, by decide⟩⟩
theorem fa174_3 : FieldTy Try.prog 174 3 3 1 false := ⟨⟨_, _, Try.underlying174, rfl, rfl, by kernel_rfl, ⟨_, Try.underlying167, rfl⟩, by decide⟩⟩
theorem fa174_4 : FieldTy Try.prog 174 4 4 1 false := ⟨⟨_, _, Try.underlying174, rfl, rfl, by kernel_rfl, ⟨_, Try.underlying5, rfl⟩, by decide⟩⟩
theorem fa174_5 : FieldTy Try.prog 174 5 5 1 false := ⟨⟨_, _, Try.underlying174, rfl, rfl, by kernel_rfl, ⟨_, Try.underlying5, rfl⟩, by decide⟩⟩
theorem fa174_6 : FieldTy Try.prog 174 6 6 1 false := ⟨⟨_, _, Try.underlying174, rfl, rfl, by kernel_rfl, ⟨_, Try.underlying168, rfl⟩, by decide⟩⟩
theorem fa174_7 : FieldTy Try.prog 174 7 7 1 false := ⟨⟨_, _, Try.underlying174, rfl, rfl, by kernel_rfl, ⟨_, Try.underlying169, rfl⟩, by decide⟩⟩
theorem fa174_8 : FieldTy Try.prog 174 8 8 1 false := ⟨⟨_, _, Try.underlying174, rfl, rfl, by kernel_rfl, ⟨_, Try.underlying170, rfl⟩, by decide⟩⟩
theorem fa174_9 : FieldTy Try.prog 174 9 9 1 false := ⟨⟨_, _, Try.underlying174, rfl, rfl, by kernel_rfl, ⟨_, Try.underlying171, rfl⟩, by decide⟩⟩
theorem fa174_10 : FieldTy Try.prog 174 10 10 1 false := ⟨⟨_, _, Try.underlying174, rfl, rfl, by kernel_rfl, ⟨_, Try.underlying172, rfl⟩, by decide⟩⟩
def zs174 : List V := [(.raw (.int .u64 0)), (.raw (.int .u64 0)), (.raw (.int .u32 0)), (.raw (.int .u8 0)), (.raw (.int .u8 0)), (.raw (.int .u8 0)), (.raw (.int .u8 0)), (.raw (.nilFunc)), (.raw (.pointer none)), (.raw (.int .i32 0)), (.raw (.int .i32 0))]
theorem st174 : StructTy Try.prog 174 [(0, 1), (1, 1), (2, 1), (3, 1), (4, 1), (5, 1), (6, 1), (7, 1), (8, 1), (9, 1), (10, 1)] zs174 := by
  obtain ⟨i, h1, h2⟩ : ∃ i, Try.prog.info? 174 = some i ∧ i.zero = some (.agg #[(.int .u64 0), (.int .u64 0), (.int .u32 0), (.int .u8 0), (.int .u8 0), (.int .u8 0), (.int .u8 0), (.nilFunc), (.pointer none), (.int .i32 0), (.int .i32 0)]) := info_zero (by kernel_rfl)
  exact ⟨⟨_, i, _, Try.underlying174, h1, h2, by kernel_rfl, rfl⟩, rfl⟩
theorem zr174 : (Try.prog.info? 174).map (·.zero) = some (some (.agg #[(.int .u64 0), (.int .u64 0), (.int .u32 0), (.int .u8 0), (.int .u8 0), (.int .u8 0), (.int .u8 0), (.nilFunc), (.pointer none), (.int .i32 0), (.int .i32 0)])) := by kernel_rfl
theorem ty175 : LeafTy Try.prog 175 := ⟨⟨_, Try.underlying175, rfl⟩, by kernel_rfl⟩
theorem en2 : Enters Try.prog 2 := ⟨⟨_, Try.func2, by kernel_rfl, by kernel_rfl⟩⟩
theorem en3 : Enters Try.prog 3 := ⟨⟨_, Try.func3, by kernel_rfl, by kernel_rfl⟩⟩
theorem en4 : Enters Try.prog 4 := ⟨⟨_, Try.func4, by kernel_rfl, by kernel_rfl⟩⟩
theorem en5 : Enters Try.prog 5 := ⟨⟨_, Try.func5, by kernel_rfl, by kernel_rfl⟩⟩
theorem en6 : Enters Try.prog 6 := ⟨⟨_, Try.func6, by kernel_rfl, by kernel_rfl⟩⟩
theorem en7 : Enters Try.prog 7 := ⟨⟨_, Try.func7, by kernel_rfl, by kernel_rfl⟩⟩
theorem en8 : Enters Try.prog 8 := ⟨⟨_, Try.func8, by kernel_rfl, by kernel_rfl⟩⟩
theorem en9 : Enters Try.prog 9 := ⟨⟨_, Try.func9, by kernel_rfl, by kernel_rfl⟩⟩
theorem en10 : Enters Try.prog 10 := ⟨⟨_, Try.func10, by kernel_rfl, by kernel_rfl⟩⟩
theorem en11 : Enters Try.prog 11 := ⟨⟨_, Try.func11, by kernel_rfl, by kernel_rfl⟩⟩
theorem en12 : Enters Try.prog 12 := ⟨⟨_, Try.func12, by kernel_rfl, by kernel_rfl⟩⟩
theorem en13 : Enters Try.prog 13 := ⟨⟨_, Try.func13, by kernel_rfl, by kernel_rfl⟩⟩
theorem en14 : Enters Try.prog 14 := ⟨⟨_, Try.func14, by kernel_rfl, by kernel_rfl⟩⟩
theorem en15 : Enters Try.prog 15 := ⟨⟨_, Try.func15, by kernel_rfl, by kernel_rfl⟩⟩
theorem en16 : Enters Try.prog 16 := ⟨⟨_, Try.func16, by kernel_rfl, by kernel_rfl⟩⟩
theorem en17 : Enters Try.prog 17 := ⟨⟨_, Try.func17, by kernel_rfl, by kernel_rfl⟩⟩
theorem en18 : Enters Try.prog 18 := ⟨⟨_, Try.func18, by kernel_rfl, by kernel_rfl⟩⟩
theorem en19 : Enters Try.prog 19 := ⟨⟨_, Try.func19, by kernel_rfl, by kernel_rfl⟩⟩
theorem en20 : Enters Try.prog 20 := ⟨⟨_, Try.func20, by kernel_rfl, by kernel_rfl⟩⟩
theorem en21 : Enters Try.prog 21 := ⟨⟨_, Try.func21, by kernel_rfl, by kernel_rfl⟩⟩
theorem en22 : Enters Try.prog 22 := ⟨⟨_, Try.func22, by kernel_rfl, by kernel_rfl⟩⟩
theorem en23 : Enters Try.prog 23 := ⟨⟨_, Try.func23, by kernel_rfl, by kernel_rfl⟩⟩
theorem en24 : Enters Try.prog 24 := ⟨⟨_, Try.func24, by kernel_rfl, by kernel_rfl⟩⟩
theorem en25 : Enters Try.prog 25 := ⟨⟨_, Try.func25, by kernel_rfl, by kernel_rfl⟩⟩
theorem en26 : Enters Try.prog 26 := ⟨⟨_, Try.func26, by kernel_rfl, by kernel_rfl⟩⟩
theorem en27 : Enters Try.prog 27 := ⟨⟨_, Try.func27, by kernel_rfl, by kernel_rfl⟩⟩
theorem en28 : Enters Try.prog 28 := ⟨⟨_, Try.func28, by kernel_rfl, by kernel_rfl⟩⟩
theorem en29 : Enters Try.prog 29 := ⟨⟨_, Try.func29, by kernel_rfl, by kernel_rfl⟩⟩
theorem en30 : Enters Try.prog 30 := ⟨⟨_, Try.func30, by kernel_rfl, by kernel_rfl⟩⟩
theorem en31 : Enters Try.prog 31 := ⟨⟨_, Try.func31, by kernel_rfl, by kernel_rfl⟩⟩
theorem en32 : Enters Try.prog 32 := ⟨⟨_, Try.func32, by kernel_rfl, by kernel_rfl⟩⟩
theorem en33 : Enters Try.prog 33 := ⟨⟨_, Try.func33, by kernel_rfl, by kernel_rfl⟩⟩
theorem en34 : Enters Try.prog 34 := ⟨⟨_, Try.func34, by kernel_rfl, by kernel_rfl⟩⟩
theorem en35 : Enters Try.prog 35 := ⟨⟨_, Try.func35, by kernel_rfl, by kernel_rfl⟩⟩
theorem en36 : Enters Try.prog 36 := ⟨⟨_, Try.func36, by kernel_rfl, by kernel_rfl⟩⟩
theorem en37 : Enters Try.prog 37 := ⟨⟨_, Try.func37, by kernel_rfl, by kernel_rfl⟩⟩
theorem en38 : Enters Try.prog 38 := ⟨⟨_, Try.func38, by kernel_rfl, by kernel_rfl⟩⟩
theorem en39 : Enters Try.prog 39 := ⟨⟨_, Try.func39, by kernel_rfl, by kernel_rfl⟩⟩
theorem en40 : Enters Try.prog 40 := ⟨⟨_, Try.func40, by kernel_rfl, by kernel_rfl⟩⟩
theorem en41 : Enters Try.prog 41 := ⟨⟨_, Try.func41, by kernel_rfl, by kernel_rfl⟩⟩
theorem en42 : Enters Try.prog 42 := ⟨⟨_, Try.func42, by kernel_rfl, by kernel_rfl⟩⟩
theorem en43 : Enters Try.prog 43 := ⟨⟨_, Try.func43, by kernel_rfl, by kernel_rfl⟩⟩
theorem en44 : Enters Try.prog 44 := ⟨⟨_, Try.func44, by kernel_rfl, by kernel_rfl⟩⟩
theorem en45 : Enters Try.prog 45 := ⟨⟨_, Try.func45, by kernel_rfl, by kernel_rfl⟩⟩
theorem en46 : Enters Try.prog 46 := ⟨⟨_, Try.func46, by kernel_rfl, by kernel_rfl⟩⟩
theorem en47 : Enters Try.prog 47 := ⟨⟨_, Try.func47, by kernel_rfl, by kernel_rfl⟩⟩
theorem en48 : Enters Try.prog 48 := ⟨⟨_, Try.func48, by kernel_rfl, by kernel_rfl⟩⟩
theorem en49 : Enters Try.prog 49 := ⟨⟨_, Try.func49, by kernel_rfl, by kernel_rfl⟩⟩
theorem en50 : Enters Try.prog 50 := ⟨⟨_, Try.func50, by kernel_rfl, by kernel_rfl⟩⟩
theorem en51 : Enters Try.prog 51 := ⟨⟨_, Try.func51, by kernel_rfl, by kernel_rfl⟩⟩
theorem en52 : Enters Try.prog 52 := ⟨⟨_, Try.func52, by kernel_rfl, by kernel_rfl⟩⟩
theorem en53 : Enters Try.prog 53 := ⟨⟨_, Try.func53, by kernel_rfl, by kernel_rfl⟩⟩
theorem en54 : Enters Try.prog 54 := ⟨⟨_, Try.func54, by kernel_rfl, by kernel_rfl⟩⟩
theorem en55 : Enters Try.prog 55 := ⟨⟨_, Try.func55, by kernel_rfl, by kernel_rfl⟩⟩
theorem en56 : Enters Try.prog 56 := ⟨⟨_, Try.func56, by kernel_rfl, by kernel_rfl⟩⟩
theorem en57 : Enters Try.prog 57 := ⟨⟨_, Try.func57, by kernel_rfl, by kernel_rfl⟩⟩
theorem en58 : Enters Try.prog 58 := ⟨⟨_, Try.func58, by kernel_rfl, by kernel_rfl⟩⟩
theorem en59 : Enters Try.prog 59 := ⟨⟨_, Try.func59, by kernel_rfl, by kernel_rfl⟩⟩
theorem en60 : Enters Try.prog 60 := ⟨⟨_, Try.func60, by kernel_rfl, by kernel_rfl⟩⟩
theorem en61 : Enters Try.prog 61 := ⟨⟨_, Try.func61, by kernel_rfl, by kernel_rfl⟩⟩
theorem en62 : Enters Try.prog 62 := ⟨⟨_, Try.func62, by kernel_rfl, by kernel_rfl⟩⟩
theorem en63 : Enters Try.prog 63 := ⟨⟨_, Try.func63, by kernel_rfl, by kernel_rfl⟩⟩
theorem en64 : Enters Try.prog 64 := ⟨⟨_, Try.func64, by kernel_rfl, by kernel_rfl⟩⟩
theorem en65 : Enters Try.prog 65 := ⟨⟨_, Try.func65, by kernel_rfl, by kernel_rfl⟩⟩
theorem en66 : Enters Try.prog 66 := ⟨⟨_, Try.func66, by kernel_rfl, by kernel_rfl⟩⟩
theorem en67 : Enters Try.prog 67 := ⟨⟨_, Try.func67, by kernel_rfl, by kernel_rfl⟩⟩
theorem en68 : Enters Try.prog 68 := ⟨⟨_, Try.func68, by kernel_rfl, by kernel_rfl⟩⟩
theorem en69 : Enters Try.prog 69 := ⟨⟨_, Try.func69, by kernel_rfl, by kernel_rfl⟩⟩
theorem en70 : Enters Try.prog 70 := ⟨⟨_, Try.func70, by kernel_rfl, by kernel_rfl⟩⟩
theorem en71 : Enters Try.prog 71 := ⟨⟨_, Try.func71, by kernel_rfl, by kernel_rfl⟩⟩
theorem en72 : Enters Try.prog 72 := ⟨⟨_, Try.func72, by kernel_rfl, by kernel_rfl⟩⟩
theorem en73 : Enters Try.prog 73 := ⟨⟨_, Try.func73, by kernel_rfl, by kernel_rfl⟩⟩
theorem en74 : Enters Try.prog 74 := ⟨⟨_, Try.func74, by kernel_rfl, by kernel_rfl⟩⟩
theorem en75 : Enters Try.prog 75 := ⟨⟨_, Try.func75, by kernel_rfl, by kernel_rfl⟩⟩
theorem en76 : Enters Try.prog 76 := ⟨⟨_, Try.func76, by kernel_rfl, by kernel_rfl⟩⟩
theorem en77 : Enters Try.prog 77 := ⟨⟨_, Try.func77, by kernel_rfl, by kernel_rfl⟩⟩
theorem en78 : Enters Try.prog 78 := ⟨⟨_, Try.func78, by kernel_rfl, by kernel_rfl⟩⟩
theorem en79 : Enters Try.prog 79 := ⟨⟨_, Try.func79, by kernel_rfl, by kernel_rfl⟩⟩
theorem en80 : Enters Try.prog 80 := ⟨⟨_, Try.func80, by kernel_rfl, by kernel_rfl⟩⟩
theorem en81 : Enters Try.prog 81 := ⟨⟨_, Try.func81, by kernel_rfl, by kernel_rfl⟩⟩
theorem en82 : Enters Try.prog 82 := ⟨⟨_, Try.func82, by kernel_rfl, by kernel_rfl⟩⟩
theorem en83 : Enters Try.prog 83 := ⟨⟨_, Try.func83, by kernel_rfl, by kernel_rfl⟩⟩
theorem en84 : Enters Try.prog 84 := ⟨⟨_, Try.func84, by kernel_rfl, by kernel_rfl⟩⟩
theorem en85 : Enters Try.prog 85 := ⟨⟨_, Try.func85, by kernel_rfl, by kernel_rfl⟩⟩
theorem en86 : Enters Try.prog 86 := ⟨⟨_, Try.func86, by kernel_rfl, by kernel_rfl⟩⟩
theorem en87 : Enters Try.prog 87 := ⟨⟨_, Try.func87, by kernel_rfl, by kernel_rfl⟩⟩
theorem en88 : Enters Try.prog 88 := ⟨⟨_, Try.func88, by kernel_rfl, by kernel_rfl⟩⟩
theorem en89 : Enters Try.prog 89 := ⟨⟨_, Try.func89, by kernel_rfl, by kernel_rfl⟩⟩
theorem en90 : Enters Try.prog 90 := ⟨⟨_, Try.func90, by kernel_rfl, by kernel_rfl⟩⟩
theorem en91 : Enters Try.prog 91 := ⟨⟨_, Try.func91, by kernel_rfl, by kernel_rfl⟩⟩
theorem en92 : Enters Try.prog 92 := ⟨⟨_, Try.func92, by kernel_rfl, by kernel_rfl⟩⟩
theorem en93 : Enters Try.prog 93 := ⟨⟨_, Try.func93, by kernel_rfl, by kernel_rfl⟩⟩
theorem en94 : Enters Try.prog 94 := ⟨⟨_, Try.func94, by kernel_rfl, by kernel_rfl⟩⟩
theorem en95 : Enters Try.prog 95 := ⟨⟨_, Try.func95, by kernel_rfl, by kernel_rfl⟩⟩
theorem en96 : Enters Try.prog 96 := ⟨⟨_, Try.func96, by kernel_rfl, by kernel_rfl⟩⟩
theorem en97 : Enters Try.prog 97 := ⟨⟨_, Try.func97, by kernel_rfl, by kernel_rfl⟩⟩
theorem en98 : Enters Try.prog 98 := ⟨⟨_, Try.func98, by kernel_rfl, by kernel_rfl⟩⟩
theorem mix : Try.prog.follows .mixedOrders = true := by kernel_rfl
end Go.Proofs.Ytaklonfdckgdbaa.VT
